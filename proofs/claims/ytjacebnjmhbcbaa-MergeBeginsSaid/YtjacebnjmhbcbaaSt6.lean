/- symMergeCmpFunc of items: the cut, the rotation, both halves. -/
import Derived.Test.YtjacebnjmhbcbaaSt5
namespace Go.Proofs.Ytjacebnjmhbcbaa
open Go.RowKit
set_option linter.unusedVariables false

def P3 (D : Nat → KeyL) (q c : Nat) : Bool := kless (D (q - 1 - c)) (D c)
theorem P3_down {D : Nat → KeyL} {a m b q s0 r0 h k : Nat} (h1 : Srt kless D a m) (h2 : Srt kless D m b) (ha : a ≤ s0) (hr : r0 ≤ m) (hb : q ≤ b + s0) (hm : m + r0 ≤ q) (k1 : s0 ≤ k) (k2 : k ≤ h) (k3 : h < r0) (hl : P3 D q h = false) : P3 D q k = false := by
  unfold P3 at *
  by_cases e : k = h
  · rw [e]; exact hl
  · have c1 := h1 k h (by omega) (by omega) (by omega)
    have c2 := h2 (q - 1 - h) (q - 1 - k) (by omega) (by omega) (by omega)
    exact kless_ord.trans _ _ _ (kless_ord.trans _ _ _ c1 hl) c2
theorem P3_up {D : Nat → KeyL} {a m b q s0 r0 h k : Nat} (h1 : Srt kless D a m) (h2 : Srt kless D m b) (ha : a ≤ s0) (hr : r0 ≤ m) (hb : q ≤ b + s0) (hm : m + r0 ≤ q) (k1 : s0 ≤ h) (k2 : h ≤ k) (k3 : k < r0) (hl : P3 D q h = true) : P3 D q k = true := by
  cases hk : P3 D q k
  · have := P3_down h1 h2 ha hr hb hm k1 k2 k3 hk
    rw [this] at hl; exact absurd hl (by decide)
  · rfl
def S3R (w : World) (g n s0 r0 q : Nat) (D : Nat → KeyL) (sp : List Value) (v10 v11 : Value) (wr : World) : Prop := ∃ i j : Nat, s0 ≤ i ∧ i ≤ j ∧ j ≤ r0 ∧ v10 = .int .i64 i ∧ v11 = .int .i64 j ∧ RowKit.Hid (∀ k, s0 ≤ k → k < i → P3 D q k = false) ∧ RowKit.Hid (∀ k, j ≤ k → k < r0 → P3 D q k = true) ∧ RowKit.Hid (HI wr g n D sp) ∧ RowKit.Hid (Frm (fun k => k = g) w wr)
set_option maxRecDepth 100000 in
set_option maxHeartbeats 16000000 in
theorem sym3_any (g n c a m b : Nat) (D : Nat → KeyL) (sp : List Value) (w : World) (h : HI w g n D sp) (h1 : a + 2 ≤ m) (h2 : m + 2 ≤ b) (h3 : b ≤ n) (hn : n ≤ 100000) (hs1 : Srt kless D a m) (hs2 : Srt kless D m b)
    (ih : ∀ a' m' b' E W, b' - a' < b - a → a' < m' → m' < b' → b' ≤ n → HI W g n E sp → Srt kless E a' m' → Srt kless E m' b' → Calls Try.prog 68 #[.slice (some ⟨g, 0, none⟩) n c, .int .i64 (a' : Nat), .int .i64 (m' : Nat), .int .i64 (b' : Nat), cmpV] W fun e w' => SymEnd W g n a' b' E sp e w') :
    Calls Try.prog 68 #[.slice (some ⟨g, 0, none⟩) n c, .int .i64 a, .int .i64 m, .int .i64 b, cmpV] w fun e w' => SymEnd w g n a b D sp e w' := by
  unfold cmpV at ih ⊢
  have HH := Lib.hid h
  have HS1 := Lib.hid hs1
  have HS2 := Lib.hid hs2
  have HIH := Lib.hid ih
  clear h hs1 hs2 ih
  obtain ⟨d, hd⟩ : ∃ d, m - a = d := ⟨_, rfl⟩
  have w1 : IntKind.i64.wrap ((m : Int) - (a : Int)) = (d : Int) := by rw [IntWalk.i64_in _ (by omega)]; omega
  have d1 : ((d : Int) == 1) = false := by simp; omega
  obtain ⟨d', hd'⟩ : ∃ d, b - m = d := ⟨_, rfl⟩
  have w2 : IntKind.i64.wrap ((b : Int) - (m : Int)) = (d' : Int) := by rw [IntWalk.i64_in _ (by omega)]; omega
  have d2 : ((d' : Int) == 1) = false := by simp; omega
  clear hd hd'
  obtain ⟨mid, hmid⟩ : ∃ x, (a + b) / 2 = x := ⟨_, rfl⟩
  have wm : ((a : Int) + (b : Int)) / 2 = (mid : Int) := by omega
  have m1 : a < mid := by omega
  have m2 : mid < b := by omega
  obtain ⟨q, hq⟩ : ∃ q, mid + m = q := ⟨_, rfl⟩
  have wq : IntKind.i64.wrap ((mid : Int) + (m : Int)) = (q : Int) := by rw [IntWalk.i64_in _ (by omega)]; omega
  obtain ⟨p, hp⟩ : ∃ p, q - 1 = p := ⟨_, rfl⟩
  have wp : IntKind.i64.wrap ((q : Int) - 1) = (p : Int) := by rw [IntWalk.i64_in _ (by omega)]; omega
  have hex : ∃ s0 r0 : Nat, (a ≤ s0 ∧ s0 ≤ r0 ∧ r0 ≤ m ∧ r0 ≤ mid ∧ q ≤ b + s0 ∧ m + r0 ≤ q ∧ (s0 = a ∨ q = b + s0) ∧ (r0 = m ∨ r0 = mid)) ∧ (mid < m ∧ q - b = s0 ∧ mid = r0 ∨ m ≤ mid ∧ a = s0 ∧ m = r0) := by
    by_cases hmm : mid < m
    · exact ⟨q - b, mid, by omega, .inl ⟨hmm, rfl, rfl⟩⟩
    · exact ⟨a, m, by omega, .inr ⟨by omega, rfl, rfl⟩⟩
  obtain ⟨s0, r0, ⟨f1, f2, f3, f4, f5, f6, f7, f8⟩, hcase⟩ := hex
  have HQ := Lib.hid hq
  have HP := Lib.hid hp
  have HF7 := Lib.hid f7
  have HF8 := Lib.hid f8
  have hqm : q ≤ mid + m := by omega
  have hqm2 : mid + m ≤ q := by omega
  have hpq : p + 1 = q := by omega
  have HPQ := Lib.hid hpq
  have hpq1 : p < q := by omega
  have hpq2 : q ≤ p + 1 := by omega
  go_enter Try.func68, Try.ntmps68
  rcases hcase with ⟨c1, c2, c3⟩ | ⟨c1, c2, c3⟩
  · have dm : decide ((mid : Int) < (m : Int)) = true := by simp; omega
    have wb : IntKind.i64.wrap ((q : Int) - (b : Int)) = (s0 : Int) := by rw [IntWalk.i64_in _ (by omega)]; omega
    have HC := Lib.hid (show (Value.int .i64 (s0 : Int), Value.int .i64 (mid : Int)) = (.int .i64 (s0 : Int), .int .i64 (r0 : Int)) from by rw [c3])
    clear hmid hq hp f7 f8 c2 c3 hpq
    go_wp2_with fail
    clear w1 w2 d1 d2 wm wq wp dm wb
    go_loopw [20, 21] (fun v10 v11 wr => S3R w g n s0 r0 q D sp v10 v11 wr) (fun v10 v11 _ => (intOf v11).toNat - (intOf v10).toNat)
    case atStart => exact ⟨s0, r0, by omega, by omega, by omega, (congrArg Prod.fst HC.out), (congrArg Prod.snd HC.out), fun k k1 k2 => by omega, fun k k1 k2 => by omega, HH.out, Frm.refl _ _⟩
    case round =>
      clear HC c1
      clear HH
      obtain ⟨i, j, hi1, hij, hjb, rfl, rfl, HLO, HHI, HH, HF⟩ := hrel
      by_cases hlt : i < j
      · obtain ⟨h, hh⟩ : ∃ q, (i + j) / 2 = q := ⟨_, rfl⟩
        have wh : ((i : Int) + (j : Int)) / 2 = (h : Int) := by omega
        have q1 : i ≤ h := by omega
        have q2 : h < j := by omega
        obtain ⟨o, ho⟩ : ∃ o, p - h = o := ⟨_, rfl⟩
        have wo : IntKind.i64.wrap ((p : Int) - (h : Int)) = (o : Int) := by rw [IntWalk.i64_in _ (by omega)]; omega
        have HDN := Lib.hid (fun (hl : P3 D q h = false) k (k1 : s0 ≤ k) (k2 : k < h + 1) => P3_down HS1.out HS2.out f1 f3 f5 f6 k1 (by omega : k ≤ h) (by omega : h < r0) hl)
        have HUP := Lib.hid (fun (hl : P3 D q h = true) k (k1 : h ≤ k) (k2 : k < r0) => P3_up HS1.out HS2.out f1 f3 f5 f6 (by omega : s0 ≤ h) k1 k2 hl)
        have HP3 := Lib.hid (show P3 D q h = kless (D o) (D h) from by unfold P3; rw [show q - 1 - h = o by omega])
        have HKL := Lib.hid (cmpK_dec (D o) (D h))
        have b1h : h < n := by omega
        have b2h : (0 : Int) ≤ (h : Int) := by omega
        have b3h : (h : Int) < (n : Int) := by omega
        have b1o : o < n := by omega
        have b2o : (0 : Int) ≤ (o : Int) := by omega
        have b3o : (o : Int) < (n : Int) := by omega
        have x0 := HH.out.c0 (k := o) (by omega)
        have x1 := HH.out.c1 (k := o) (by omega)
        have y0 := HH.out.c0 (k := h) (by omega)
        have y1 := HH.out.c1 (k := h) (by omega)
        clear hh ho
        have hgl := Blk.lt HH.out
        have hkl := HKL.out
        obtain ⟨x, hx⟩ : ∃ x, D o = x := ⟨_, rfl⟩
        obtain ⟨y, hy⟩ : ∃ y, D h = y := ⟨_, rfl⟩
        rw [hx, hy] at hkl
        rw [hx] at x0 x1
        rw [hy] at y0 y1
        have HXY := Lib.hid (show kless x y = kless (D o) (D h) from by rw [hx, hy])
        clear hx hy
        go_upto_region 35 with fail
        go_region_held3 (fun w' => w'.cell? ⟨g, o * 2, none⟩ = some (.int .i64 x.1) ∧ w'.cell? ⟨g, o * 2 + 1, none⟩ = some (.string x.2) ∧ w'.cell? ⟨g, h * 2, none⟩ = some (.int .i64 y.1) ∧ w'.cell? ⟨g, h * 2 + 1, none⟩ = some (.string y.2)) (first | go_keep | exact ⟨(HB.out.cell (p := ⟨g, o * 2, none⟩) hgl).trans x0, (HB.out.cell (p := ⟨g, o * 2 + 1, none⟩) hgl).trans x1, (HB.out.cell (p := ⟨g, h * 2, none⟩) hgl).trans y0, (HB.out.cell (p := ⟨g, h * 2 + 1, none⟩) hgl).trans y1⟩) ((go_at_call 38; refine (itcmp_any x.1 x.2 y.1 y.2 _).mono ?_; rintro e u ⟨rfl, hb⟩; have HB := Lib.hid hb; clear hb))
        have HIu := Lib.hid ((show HI wr.drew g n D sp from HH.out).below HB.out)
        have HFu := Lib.hid (HF.out.drew.trans (Frm.below (S := fun k => k = g) HB.out) (fun _ h _ => h))
        clear x0 x1 y0 y1 HH HF HB
        cases hk : kless x y
        · have HK := Lib.hid ((HP3.out.trans HXY.out.symm).trans hk)
          rw [hk] at hkl
          clear hk
          go_wp2_with fail
          clear wh wo
          go_roundw
          case rel => exact ⟨h + 1, j, by omega, by omega, hjb, by go_num, rfl, HDN.out HK.out, HHI.out, HIu.out, HFu.out⟩
          case measure => simp [intOf]; omega
        · have HK := Lib.hid ((HP3.out.trans HXY.out.symm).trans hk)
          rw [hk] at hkl
          clear hk
          go_wp2_with fail
          clear wh wo
          go_roundw
          case rel => exact ⟨i, h, hi1, q1, by omega, rfl, rfl, HLO.out, HUP.out HK.out, HIu.out, HFu.out⟩
          case measure => simp [intOf]; omega
      · obtain rfl : i = j := by omega
        have hcut : CutOK kless D a m b mid i := ⟨by omega, by omega, by omega, by omega, fun k1 k2 => by
          have f7 := HF7.out
          have := HLO.out (i - 1) (by omega) (by omega)
          unfold P3 at this
          rwa [show q - 1 - (i - 1) = mid + m - i by omega] at this, fun k1 k2 => by
          have f8 := HF8.out
          have := HHI.out i (by omega) (by omega)
          unfold P3 at this
          rwa [show q - 1 - i = mid + m - i - 1 by omega] at this⟩
        obtain ⟨e1, e2, e3, e4, e5⟩ := cut_rot kless_ord HS1.out HS2.out (by omega) (by omega) (by omega) (by omega) hcut
        obtain ⟨en, hen⟩ : ∃ en, mid + m - i = en := ⟨_, rfl⟩
        rw [hen] at e1 e2 e3 e4 e5
        have we : IntKind.i64.wrap ((q : Int) - (i : Int)) = (en : Int) := by rw [IntWalk.i64_in _ (by omega)]; omega
        have g1 : a ≤ i := hcut.lo
        have g2 : i ≤ m := hcut.le
        have g3 : i ≤ mid := hcut.lm
        have g4 : en ≤ b := by have := hcut.hi; omega
        have g5 : m ≤ en := by omega
        have g6 : mid ≤ en := by omega
        have g7 : i = m → mid = en := by omega
        have g8 : en = m → i = mid := by omega
        have HE1 := Lib.hid e1
        have HE2 := Lib.hid e2
        have HE3 := Lib.hid e3
        have HE4 := Lib.hid e4
        have HE5 := Lib.hid e5
        have HG7 := Lib.hid g7
        have HG8 := Lib.hid g8
        clear e1 e2 e3 e4 e5 hcut hen HLO HHI HF7 HF8 HP HQ g7 g8
        by_cases hrot : i < m ∧ m < en
        · obtain ⟨r1, r2⟩ := hrot
          have dr1 : decide ((i : Int) < (m : Int)) = true := by simp; omega
          have dr2 : decide ((m : Int) < (en : Int)) = true := by simp; omega
          go_wp2_with fail
          (with_reducible refine (rotate_any g n c i m en D sp _ _ HH.out r1 r2 (by omega) hn).mono ?_)
          rintro e w1 ⟨rfl, hh, hf, hsg⟩
          have HH1 := Lib.hid hh
          have HF1 := Lib.hid (HF.out.trans hf (fun _ h _ => h))
          have HSG1 := Lib.hid (show Seg a b D (rotF D i m en) from hsg.mono g1 g4)
          clear hh hf hsg dr1 dr2 we HH HF
          generalize rotF D i m en = E at *
          by_cases hA : a < i ∧ i < mid
          · obtain ⟨s1, s2⟩ := hA
            have da1 : decide ((a : Int) < (i : Int)) = true := by simp; omega
            have da2 : decide ((i : Int) < (mid : Int)) = true := by simp; omega
            go_wp2_with fail
            (with_reducible refine (HIH.out a i mid E _ (by omega) s1 s2 (by omega) HH1.out HE1.out HE2.out).mono ?_)
            rintro e w2 ⟨rfl, E2, hh, hf, hsg, hsr⟩
            have HH2 := Lib.hid hh
            have HF2 := Lib.hid (HF1.out.trans hf (fun _ h _ => h))
            have HSG2 := Lib.hid (HSG1.out.trans (hsg.mono (Nat.le_refl a) (by omega : mid ≤ b)))
            have HSA := Lib.hid hsg
            have HSB := Lib.hid hsr
            have HR3 := Lib.hid (show Srt kless E2 mid en from HE3.out.congr fun k k1 _ => hsg.out k (by omega))
            have HR4 := Lib.hid (show Srt kless E2 en b from HE4.out.congr fun k k1 _ => hsg.out k (by omega))
            clear hh hf hsg hsr da1 da2 s1 s2 HH1 HF1 HSG1 HE1 HE2 HE3 HE4
            by_cases hB : mid < en ∧ en < b
            · obtain ⟨s1, s2⟩ := hB
              have db1 : decide ((mid : Int) < (en : Int)) = true := by simp; omega
              have db2 : decide ((en : Int) < (b : Int)) = true := by simp; omega
              go_wp2_with fail
              (with_reducible refine (HIH.out mid en b E2 _ (by omega) s1 s2 h3 HH2.out HR3.out HR4.out).mono ?_)
              rintro e w3 ⟨rfl, E3, hh, hf, hsg, hsr⟩
              have HH3 := Lib.hid hh
              have HF3 := Lib.hid (HF2.out.trans hf (fun _ h _ => h))
              have HSG3 := Lib.hid (HSG2.out.trans (hsg.mono (by omega : a ≤ mid) (Nat.le_refl b)))
              have HSE3 := Lib.hid (cut_end (by omega) (by omega) HE5.out HSA.out HSB.out hsg hsr)
              clear hh hf hsg hsr
              go_wp2_with fail
              go_end0
              exact ⟨rfl, E3, HH3.out, HF3.out, HSG3.out, HSE3.out⟩
            · have HSR := Lib.hid (show Srt kless E2 mid b from by
                by_cases s1 : mid = en
                · have := HR4.out; rwa [← s1] at this
                · have s2 : en = b := by omega
                  have := HR3.out; rwa [s2] at this)
              have HSE3 := Lib.hid (cut_end (by omega) (by omega) HE5.out HSA.out HSB.out (Seg.refl mid b E2) HSR.out)
              by_cases s1 : mid < en
              · have db1 : decide ((mid : Int) < (en : Int)) = true := by simp; omega
                have db2 : decide ((en : Int) < (b : Int)) = false := by simp; omega
                have db2n : decide (en < b) = false := by simp; omega
                clear hB
                go_wp2_with fail
                go_end0
                exact ⟨rfl, E2, HH2.out, HF2.out, HSG2.out, HSE3.out⟩
              · have db1 : decide ((mid : Int) < (en : Int)) = false := by simp; omega
                have db1n : decide (mid < en) = false := by simp; omega
                clear hB
                go_wp2_with fail
                go_end0
                exact ⟨rfl, E2, HH2.out, HF2.out, HSG2.out, HSE3.out⟩
          · have HSL := Lib.hid (show Srt kless E a mid from by
              by_cases s1 : a = i
              · have := HE2.out; rwa [← s1] at this
              · have s2 : i = mid := by omega
                have := HE1.out; rwa [s2] at this)
            by_cases s1 : a < i
            · have da1 : decide ((a : Int) < (i : Int)) = true := by simp; omega
              have da2 : decide ((i : Int) < (mid : Int)) = false := by simp; omega
              have da2n : decide (i < mid) = false := by simp; omega
              clear hA
              obtain ⟨E2, hE2⟩ : ∃ E2, E = E2 := ⟨_, rfl⟩
              have HH2 := Lib.hid (show HI w1 g n E2 sp from by rw [← hE2]; exact HH1.out)
              have HF2 := Lib.hid HF1.out
              have HSG2 := Lib.hid (show Seg a b D E2 from by rw [← hE2]; exact HSG1.out)
              have HSA := Lib.hid (show Seg a mid E E2 from by rw [← hE2]; exact Seg.refl a mid E)
              have HSB := Lib.hid (show Srt kless E2 a mid from by rw [← hE2]; exact HSL.out)
              have HR3 := Lib.hid (show Srt kless E2 mid en from by rw [← hE2]; exact HE3.out)
              have HR4 := Lib.hid (show Srt kless E2 en b from by rw [← hE2]; exact HE4.out)
              clear hE2
              generalize w1 = w2 at *
              clear HH1 HF1 HSG1 HSL HE1 HE2 HE3 HE4
              by_cases hB : mid < en ∧ en < b
              · obtain ⟨s1, s2⟩ := hB
                have db1 : decide ((mid : Int) < (en : Int)) = true := by simp; omega
                have db2 : decide ((en : Int) < (b : Int)) = true := by simp; omega
                go_wp2_with fail
                (with_reducible refine (HIH.out mid en b E2 _ (by omega) s1 s2 h3 HH2.out HR3.out HR4.out).mono ?_)
                rintro e w3 ⟨rfl, E3, hh, hf, hsg, hsr⟩
                have HH3 := Lib.hid hh
                have HF3 := Lib.hid (HF2.out.trans hf (fun _ h _ => h))
                have HSG3 := Lib.hid (HSG2.out.trans (hsg.mono (by omega : a ≤ mid) (Nat.le_refl b)))
                have HSE3 := Lib.hid (cut_end (by omega) (by omega) HE5.out HSA.out HSB.out hsg hsr)
                clear hh hf hsg hsr
                go_wp2_with fail
                go_end0
                exact ⟨rfl, E3, HH3.out, HF3.out, HSG3.out, HSE3.out⟩
              · have HSR := Lib.hid (show Srt kless E2 mid b from by
                  by_cases s1 : mid = en
                  · have := HR4.out; rwa [← s1] at this
                  · have s2 : en = b := by omega
                    have := HR3.out; rwa [s2] at this)
                have HSE3 := Lib.hid (cut_end (by omega) (by omega) HE5.out HSA.out HSB.out (Seg.refl mid b E2) HSR.out)
                by_cases s1 : mid < en
                · have db1 : decide ((mid : Int) < (en : Int)) = true := by simp; omega
                  have db2 : decide ((en : Int) < (b : Int)) = false := by simp; omega
                  have db2n : decide (en < b) = false := by simp; omega
                  clear hB
                  go_wp2_with fail
                  go_end0
                  exact ⟨rfl, E2, HH2.out, HF2.out, HSG2.out, HSE3.out⟩
                · have db1 : decide ((mid : Int) < (en : Int)) = false := by simp; omega
                  have db1n : decide (mid < en) = false := by simp; omega
                  clear hB
                  go_wp2_with fail
                  go_end0
                  exact ⟨rfl, E2, HH2.out, HF2.out, HSG2.out, HSE3.out⟩
            · have da1 : decide ((a : Int) < (i : Int)) = false := by simp; omega
              have da1n : decide (a < i) = false := by simp; omega
              clear hA
              obtain ⟨E2, hE2⟩ : ∃ E2, E = E2 := ⟨_, rfl⟩
              have HH2 := Lib.hid (show HI w1 g n E2 sp from by rw [← hE2]; exact HH1.out)
              have HF2 := Lib.hid HF1.out
              have HSG2 := Lib.hid (show Seg a b D E2 from by rw [← hE2]; exact HSG1.out)
              have HSA := Lib.hid (show Seg a mid E E2 from by rw [← hE2]; exact Seg.refl a mid E)
              have HSB := Lib.hid (show Srt kless E2 a mid from by rw [← hE2]; exact HSL.out)
              have HR3 := Lib.hid (show Srt kless E2 mid en from by rw [← hE2]; exact HE3.out)
              have HR4 := Lib.hid (show Srt kless E2 en b from by rw [← hE2]; exact HE4.out)
              clear hE2
              generalize w1 = w2 at *
              clear HH1 HF1 HSG1 HSL HE1 HE2 HE3 HE4
              by_cases hB : mid < en ∧ en < b
              · obtain ⟨s1, s2⟩ := hB
                have db1 : decide ((mid : Int) < (en : Int)) = true := by simp; omega
                have db2 : decide ((en : Int) < (b : Int)) = true := by simp; omega
                go_wp2_with fail
                (with_reducible refine (HIH.out mid en b E2 _ (by omega) s1 s2 h3 HH2.out HR3.out HR4.out).mono ?_)
                rintro e w3 ⟨rfl, E3, hh, hf, hsg, hsr⟩
                have HH3 := Lib.hid hh
                have HF3 := Lib.hid (HF2.out.trans hf (fun _ h _ => h))
                have HSG3 := Lib.hid (HSG2.out.trans (hsg.mono (by omega : a ≤ mid) (Nat.le_refl b)))
                have HSE3 := Lib.hid (cut_end (by omega) (by omega) HE5.out HSA.out HSB.out hsg hsr)
                clear hh hf hsg hsr
                go_wp2_with fail
                go_end0
                exact ⟨rfl, E3, HH3.out, HF3.out, HSG3.out, HSE3.out⟩
              · have HSR := Lib.hid (show Srt kless E2 mid b from by
                  by_cases s1 : mid = en
                  · have := HR4.out; rwa [← s1] at this
                  · have s2 : en = b := by omega
                    have := HR3.out; rwa [s2] at this)
                have HSE3 := Lib.hid (cut_end (by omega) (by omega) HE5.out HSA.out HSB.out (Seg.refl mid b E2) HSR.out)
                by_cases s1 : mid < en
                · have db1 : decide ((mid : Int) < (en : Int)) = true := by simp; omega
                  have db2 : decide ((en : Int) < (b : Int)) = false := by simp; omega
                  have db2n : decide (en < b) = false := by simp; omega
                  clear hB
                  go_wp2_with fail
                  go_end0
                  exact ⟨rfl, E2, HH2.out, HF2.out, HSG2.out, HSE3.out⟩
                · have db1 : decide ((mid : Int) < (en : Int)) = false := by simp; omega
                  have db1n : decide (mid < en) = false := by simp; omega
                  clear hB
                  go_wp2_with fail
                  go_end0
                  exact ⟨rfl, E2, HH2.out, HF2.out, HSG2.out, HSE3.out⟩
        · have hE : rotF D i m en = D := by
            by_cases r1 : i = m
            · have := HG7.out r1; subst r1; exact rotF_none1 D i en (by omega)
            · have r2 : en = m := by omega
              rw [r2]; exact rotF_none2 D i m
          rw [hE] at HE1 HE2 HE3 HE4 HE5
          have HSG1 := Lib.hid (Seg.refl a b D)
          have HH1 := Lib.hid HH.out
          have HF1 := Lib.hid HF.out
          generalize wr = w1 at *
          clear HH HF hE
          by_cases r1 : i < m
          · have dr1 : decide ((i : Int) < (m : Int)) = true := by simp; omega
            have dr2 : decide ((m : Int) < (en : Int)) = false := by simp; omega
            have dr2n : decide (m < en) = false := by simp; omega
            have HE := Lib.hid (rfl : D = D)
            obtain ⟨E, hE⟩ : ∃ E, D = E := ⟨_, rfl⟩
            rw [hE] at HE1 HE2 HE3 HE4 HE5 HH1
            have HSG1 := Lib.hid (show Seg a b D E from hE ▸ HSG1.out)
            clear hE HE
            clear hrot
            by_cases hA : a < i ∧ i < mid
            · obtain ⟨s1, s2⟩ := hA
              have da1 : decide ((a : Int) < (i : Int)) = true := by simp; omega
              have da2 : decide ((i : Int) < (mid : Int)) = true := by simp; omega
              go_wp2_with fail
              (with_reducible refine (HIH.out a i mid E _ (by omega) s1 s2 (by omega) HH1.out HE1.out HE2.out).mono ?_)
              rintro e w2 ⟨rfl, E2, hh, hf, hsg, hsr⟩
              have HH2 := Lib.hid hh
              have HF2 := Lib.hid (HF1.out.trans hf (fun _ h _ => h))
              have HSG2 := Lib.hid (HSG1.out.trans (hsg.mono (Nat.le_refl a) (by omega : mid ≤ b)))
              have HSA := Lib.hid hsg
              have HSB := Lib.hid hsr
              have HR3 := Lib.hid (show Srt kless E2 mid en from HE3.out.congr fun k k1 _ => hsg.out k (by omega))
              have HR4 := Lib.hid (show Srt kless E2 en b from HE4.out.congr fun k k1 _ => hsg.out k (by omega))
              clear hh hf hsg hsr da1 da2 s1 s2 HH1 HF1 HSG1 HE1 HE2 HE3 HE4
              by_cases hB : mid < en ∧ en < b
              · obtain ⟨s1, s2⟩ := hB
                have db1 : decide ((mid : Int) < (en : Int)) = true := by simp; omega
                have db2 : decide ((en : Int) < (b : Int)) = true := by simp; omega
                go_wp2_with fail
                (with_reducible refine (HIH.out mid en b E2 _ (by omega) s1 s2 h3 HH2.out HR3.out HR4.out).mono ?_)
                rintro e w3 ⟨rfl, E3, hh, hf, hsg, hsr⟩
                have HH3 := Lib.hid hh
                have HF3 := Lib.hid (HF2.out.trans hf (fun _ h _ => h))
                have HSG3 := Lib.hid (HSG2.out.trans (hsg.mono (by omega : a ≤ mid) (Nat.le_refl b)))
                have HSE3 := Lib.hid (cut_end (by omega) (by omega) HE5.out HSA.out HSB.out hsg hsr)
                clear hh hf hsg hsr
                go_wp2_with fail
                go_end0
                exact ⟨rfl, E3, HH3.out, HF3.out, HSG3.out, HSE3.out⟩
              · have HSR := Lib.hid (show Srt kless E2 mid b from by
                  by_cases s1 : mid = en
                  · have := HR4.out; rwa [← s1] at this
                  · have s2 : en = b := by omega
                    have := HR3.out; rwa [s2] at this)
                have HSE3 := Lib.hid (cut_end (by omega) (by omega) HE5.out HSA.out HSB.out (Seg.refl mid b E2) HSR.out)
                by_cases s1 : mid < en
                · have db1 : decide ((mid : Int) < (en : Int)) = true := by simp; omega
                  have db2 : decide ((en : Int) < (b : Int)) = false := by simp; omega
                  have db2n : decide (en < b) = false := by simp; omega
                  clear hB
                  go_wp2_with fail
                  go_end0
                  exact ⟨rfl, E2, HH2.out, HF2.out, HSG2.out, HSE3.out⟩
                · have db1 : decide ((mid : Int) < (en : Int)) = false := by simp; omega
                  have db1n : decide (mid < en) = false := by simp; omega
                  clear hB
                  go_wp2_with fail
                  go_end0
                  exact ⟨rfl, E2, HH2.out, HF2.out, HSG2.out, HSE3.out⟩
            · have HSL := Lib.hid (show Srt kless E a mid from by
                by_cases s1 : a = i
                · have := HE2.out; rwa [← s1] at this
                · have s2 : i = mid := by omega
                  have := HE1.out; rwa [s2] at this)
              by_cases s1 : a < i
              · have da1 : decide ((a : Int) < (i : Int)) = true := by simp; omega
                have da2 : decide ((i : Int) < (mid : Int)) = false := by simp; omega
                have da2n : decide (i < mid) = false := by simp; omega
                clear hA
                obtain ⟨E2, hE2⟩ : ∃ E2, E = E2 := ⟨_, rfl⟩
                have HH2 := Lib.hid (show HI w1 g n E2 sp from by rw [← hE2]; exact HH1.out)
                have HF2 := Lib.hid HF1.out
                have HSG2 := Lib.hid (show Seg a b D E2 from by rw [← hE2]; exact HSG1.out)
                have HSA := Lib.hid (show Seg a mid E E2 from by rw [← hE2]; exact Seg.refl a mid E)
                have HSB := Lib.hid (show Srt kless E2 a mid from by rw [← hE2]; exact HSL.out)
                have HR3 := Lib.hid (show Srt kless E2 mid en from by rw [← hE2]; exact HE3.out)
                have HR4 := Lib.hid (show Srt kless E2 en b from by rw [← hE2]; exact HE4.out)
                clear hE2
                generalize w1 = w2 at *
                clear HH1 HF1 HSG1 HSL HE1 HE2 HE3 HE4
                by_cases hB : mid < en ∧ en < b
                · obtain ⟨s1, s2⟩ := hB
                  have db1 : decide ((mid : Int) < (en : Int)) = true := by simp; omega
                  have db2 : decide ((en : Int) < (b : Int)) = true := by simp; omega
                  go_wp2_with fail
                  (with_reducible refine (HIH.out mid en b E2 _ (by omega) s1 s2 h3 HH2.out HR3.out HR4.out).mono ?_)
                  rintro e w3 ⟨rfl, E3, hh, hf, hsg, hsr⟩
                  have HH3 := Lib.hid hh
                  have HF3 := Lib.hid (HF2.out.trans hf (fun _ h _ => h))
                  have HSG3 := Lib.hid (HSG2.out.trans (hsg.mono (by omega : a ≤ mid) (Nat.le_refl b)))
                  have HSE3 := Lib.hid (cut_end (by omega) (by omega) HE5.out HSA.out HSB.out hsg hsr)
                  clear hh hf hsg hsr
                  go_wp2_with fail
                  go_end0
                  exact ⟨rfl, E3, HH3.out, HF3.out, HSG3.out, HSE3.out⟩
                · have HSR := Lib.hid (show Srt kless E2 mid b from by
                    by_cases s1 : mid = en
                    · have := HR4.out; rwa [← s1] at this
                    · have s2 : en = b := by omega
                      have := HR3.out; rwa [s2] at this)
                  have HSE3 := Lib.hid (cut_end (by omega) (by omega) HE5.out HSA.out HSB.out (Seg.refl mid b E2) HSR.out)
                  by_cases s1 : mid < en
                  · have db1 : decide ((mid : Int) < (en : Int)) = true := by simp; omega
                    have db2 : decide ((en : Int) < (b : Int)) = false := by simp; omega
                    have db2n : decide (en < b) = false := by simp; omega
                    clear hB
                    go_wp2_with fail
                    go_end0
                    exact ⟨rfl, E2, HH2.out, HF2.out, HSG2.out, HSE3.out⟩
                  · have db1 : decide ((mid : Int) < (en : Int)) = false := by simp; omega
                    have db1n : decide (mid < en) = false := by simp; omega
                    clear hB
                    go_wp2_with fail
                    go_end0
                    exact ⟨rfl, E2, HH2.out, HF2.out, HSG2.out, HSE3.out⟩
              · have da1 : decide ((a : Int) < (i : Int)) = false := by simp; omega
                have da1n : decide (a < i) = false := by simp; omega
                clear hA
                obtain ⟨E2, hE2⟩ : ∃ E2, E = E2 := ⟨_, rfl⟩
                have HH2 := Lib.hid (show HI w1 g n E2 sp from by rw [← hE2]; exact HH1.out)
                have HF2 := Lib.hid HF1.out
                have HSG2 := Lib.hid (show Seg a b D E2 from by rw [← hE2]; exact HSG1.out)
                have HSA := Lib.hid (show Seg a mid E E2 from by rw [← hE2]; exact Seg.refl a mid E)
                have HSB := Lib.hid (show Srt kless E2 a mid from by rw [← hE2]; exact HSL.out)
                have HR3 := Lib.hid (show Srt kless E2 mid en from by rw [← hE2]; exact HE3.out)
                have HR4 := Lib.hid (show Srt kless E2 en b from by rw [← hE2]; exact HE4.out)
                clear hE2
                generalize w1 = w2 at *
                clear HH1 HF1 HSG1 HSL HE1 HE2 HE3 HE4
                by_cases hB : mid < en ∧ en < b
                · obtain ⟨s1, s2⟩ := hB
                  have db1 : decide ((mid : Int) < (en : Int)) = true := by simp; omega
                  have db2 : decide ((en : Int) < (b : Int)) = true := by simp; omega
                  go_wp2_with fail
                  (with_reducible refine (HIH.out mid en b E2 _ (by omega) s1 s2 h3 HH2.out HR3.out HR4.out).mono ?_)
                  rintro e w3 ⟨rfl, E3, hh, hf, hsg, hsr⟩
                  have HH3 := Lib.hid hh
                  have HF3 := Lib.hid (HF2.out.trans hf (fun _ h _ => h))
                  have HSG3 := Lib.hid (HSG2.out.trans (hsg.mono (by omega : a ≤ mid) (Nat.le_refl b)))
                  have HSE3 := Lib.hid (cut_end (by omega) (by omega) HE5.out HSA.out HSB.out hsg hsr)
                  clear hh hf hsg hsr
                  go_wp2_with fail
                  go_end0
                  exact ⟨rfl, E3, HH3.out, HF3.out, HSG3.out, HSE3.out⟩
                · have HSR := Lib.hid (show Srt kless E2 mid b from by
                    by_cases s1 : mid = en
                    · have := HR4.out; rwa [← s1] at this
                    · have s2 : en = b := by omega
                      have := HR3.out; rwa [s2] at this)
                  have HSE3 := Lib.hid (cut_end (by omega) (by omega) HE5.out HSA.out HSB.out (Seg.refl mid b E2) HSR.out)
                  by_cases s1 : mid < en
                  · have db1 : decide ((mid : Int) < (en : Int)) = true := by simp; omega
                    have db2 : decide ((en : Int) < (b : Int)) = false := by simp; omega
                    have db2n : decide (en < b) = false := by simp; omega
                    clear hB
                    go_wp2_with fail
                    go_end0
                    exact ⟨rfl, E2, HH2.out, HF2.out, HSG2.out, HSE3.out⟩
                  · have db1 : decide ((mid : Int) < (en : Int)) = false := by simp; omega
                    have db1n : decide (mid < en) = false := by simp; omega
                    clear hB
                    go_wp2_with fail
                    go_end0
                    exact ⟨rfl, E2, HH2.out, HF2.out, HSG2.out, HSE3.out⟩
          · have dr1 : decide ((i : Int) < (m : Int)) = false := by simp; omega
            have dr1n : decide (i < m) = false := by simp; omega
            obtain ⟨E, hE⟩ : ∃ E, D = E := ⟨_, rfl⟩
            rw [hE] at HE1 HE2 HE3 HE4 HE5 HH1
            have HSG1 := Lib.hid (show Seg a b D E from hE ▸ HSG1.out)
            clear hE
            clear hrot
            by_cases hA : a < i ∧ i < mid
            · obtain ⟨s1, s2⟩ := hA
              have da1 : decide ((a : Int) < (i : Int)) = true := by simp; omega
              have da2 : decide ((i : Int) < (mid : Int)) = true := by simp; omega
              go_wp2_with fail
              (with_reducible refine (HIH.out a i mid E _ (by omega) s1 s2 (by omega) HH1.out HE1.out HE2.out).mono ?_)
              rintro e w2 ⟨rfl, E2, hh, hf, hsg, hsr⟩
              have HH2 := Lib.hid hh
              have HF2 := Lib.hid (HF1.out.trans hf (fun _ h _ => h))
              have HSG2 := Lib.hid (HSG1.out.trans (hsg.mono (Nat.le_refl a) (by omega : mid ≤ b)))
              have HSA := Lib.hid hsg
              have HSB := Lib.hid hsr
              have HR3 := Lib.hid (show Srt kless E2 mid en from HE3.out.congr fun k k1 _ => hsg.out k (by omega))
              have HR4 := Lib.hid (show Srt kless E2 en b from HE4.out.congr fun k k1 _ => hsg.out k (by omega))
              clear hh hf hsg hsr da1 da2 s1 s2 HH1 HF1 HSG1 HE1 HE2 HE3 HE4
              by_cases hB : mid < en ∧ en < b
              · obtain ⟨s1, s2⟩ := hB
                have db1 : decide ((mid : Int) < (en : Int)) = true := by simp; omega
                have db2 : decide ((en : Int) < (b : Int)) = true := by simp; omega
                go_wp2_with fail
                (with_reducible refine (HIH.out mid en b E2 _ (by omega) s1 s2 h3 HH2.out HR3.out HR4.out).mono ?_)
                rintro e w3 ⟨rfl, E3, hh, hf, hsg, hsr⟩
                have HH3 := Lib.hid hh
                have HF3 := Lib.hid (HF2.out.trans hf (fun _ h _ => h))
                have HSG3 := Lib.hid (HSG2.out.trans (hsg.mono (by omega : a ≤ mid) (Nat.le_refl b)))
                have HSE3 := Lib.hid (cut_end (by omega) (by omega) HE5.out HSA.out HSB.out hsg hsr)
                clear hh hf hsg hsr
                go_wp2_with fail
                go_end0
                exact ⟨rfl, E3, HH3.out, HF3.out, HSG3.out, HSE3.out⟩
              · have HSR := Lib.hid (show Srt kless E2 mid b from by
                  by_cases s1 : mid = en
                  · have := HR4.out; rwa [← s1] at this
                  · have s2 : en = b := by omega
                    have := HR3.out; rwa [s2] at this)
                have HSE3 := Lib.hid (cut_end (by omega) (by omega) HE5.out HSA.out HSB.out (Seg.refl mid b E2) HSR.out)
                by_cases s1 : mid < en
                · have db1 : decide ((mid : Int) < (en : Int)) = true := by simp; omega
                  have db2 : decide ((en : Int) < (b : Int)) = false := by simp; omega
                  have db2n : decide (en < b) = false := by simp; omega
                  clear hB
                  go_wp2_with fail
                  go_end0
                  exact ⟨rfl, E2, HH2.out, HF2.out, HSG2.out, HSE3.out⟩
                · have db1 : decide ((mid : Int) < (en : Int)) = false := by simp; omega
                  have db1n : decide (mid < en) = false := by simp; omega
                  clear hB
                  go_wp2_with fail
                  go_end0
                  exact ⟨rfl, E2, HH2.out, HF2.out, HSG2.out, HSE3.out⟩
            · have HSL := Lib.hid (show Srt kless E a mid from by
                by_cases s1 : a = i
                · have := HE2.out; rwa [← s1] at this
                · have s2 : i = mid := by omega
                  have := HE1.out; rwa [s2] at this)
              by_cases s1 : a < i
              · have da1 : decide ((a : Int) < (i : Int)) = true := by simp; omega
                have da2 : decide ((i : Int) < (mid : Int)) = false := by simp; omega
                have da2n : decide (i < mid) = false := by simp; omega
                clear hA
                obtain ⟨E2, hE2⟩ : ∃ E2, E = E2 := ⟨_, rfl⟩
                have HH2 := Lib.hid (show HI w1 g n E2 sp from by rw [← hE2]; exact HH1.out)
                have HF2 := Lib.hid HF1.out
                have HSG2 := Lib.hid (show Seg a b D E2 from by rw [← hE2]; exact HSG1.out)
                have HSA := Lib.hid (show Seg a mid E E2 from by rw [← hE2]; exact Seg.refl a mid E)
                have HSB := Lib.hid (show Srt kless E2 a mid from by rw [← hE2]; exact HSL.out)
                have HR3 := Lib.hid (show Srt kless E2 mid en from by rw [← hE2]; exact HE3.out)
                have HR4 := Lib.hid (show Srt kless E2 en b from by rw [← hE2]; exact HE4.out)
                clear hE2
                generalize w1 = w2 at *
                clear HH1 HF1 HSG1 HSL HE1 HE2 HE3 HE4
                by_cases hB : mid < en ∧ en < b
                · obtain ⟨s1, s2⟩ := hB
                  have db1 : decide ((mid : Int) < (en : Int)) = true := by simp; omega
                  have db2 : decide ((en : Int) < (b : Int)) = true := by simp; omega
                  go_wp2_with fail
                  (with_reducible refine (HIH.out mid en b E2 _ (by omega) s1 s2 h3 HH2.out HR3.out HR4.out).mono ?_)
                  rintro e w3 ⟨rfl, E3, hh, hf, hsg, hsr⟩
                  have HH3 := Lib.hid hh
                  have HF3 := Lib.hid (HF2.out.trans hf (fun _ h _ => h))
                  have HSG3 := Lib.hid (HSG2.out.trans (hsg.mono (by omega : a ≤ mid) (Nat.le_refl b)))
                  have HSE3 := Lib.hid (cut_end (by omega) (by omega) HE5.out HSA.out HSB.out hsg hsr)
                  clear hh hf hsg hsr
                  go_wp2_with fail
                  go_end0
                  exact ⟨rfl, E3, HH3.out, HF3.out, HSG3.out, HSE3.out⟩
                · have HSR := Lib.hid (show Srt kless E2 mid b from by
                    by_cases s1 : mid = en
                    · have := HR4.out; rwa [← s1] at this
                    · have s2 : en = b := by omega
                      have := HR3.out; rwa [s2] at this)
                  have HSE3 := Lib.hid (cut_end (by omega) (by omega) HE5.out HSA.out HSB.out (Seg.refl mid b E2) HSR.out)
                  by_cases s1 : mid < en
                  · have db1 : decide ((mid : Int) < (en : Int)) = true := by simp; omega
                    have db2 : decide ((en : Int) < (b : Int)) = false := by simp; omega
                    have db2n : decide (en < b) = false := by simp; omega
                    clear hB
                    go_wp2_with fail
                    go_end0
                    exact ⟨rfl, E2, HH2.out, HF2.out, HSG2.out, HSE3.out⟩
                  · have db1 : decide ((mid : Int) < (en : Int)) = false := by simp; omega
                    have db1n : decide (mid < en) = false := by simp; omega
                    clear hB
                    go_wp2_with fail
                    go_end0
                    exact ⟨rfl, E2, HH2.out, HF2.out, HSG2.out, HSE3.out⟩
              · have da1 : decide ((a : Int) < (i : Int)) = false := by simp; omega
                have da1n : decide (a < i) = false := by simp; omega
                clear hA
                obtain ⟨E2, hE2⟩ : ∃ E2, E = E2 := ⟨_, rfl⟩
                have HH2 := Lib.hid (show HI w1 g n E2 sp from by rw [← hE2]; exact HH1.out)
                have HF2 := Lib.hid HF1.out
                have HSG2 := Lib.hid (show Seg a b D E2 from by rw [← hE2]; exact HSG1.out)
                have HSA := Lib.hid (show Seg a mid E E2 from by rw [← hE2]; exact Seg.refl a mid E)
                have HSB := Lib.hid (show Srt kless E2 a mid from by rw [← hE2]; exact HSL.out)
                have HR3 := Lib.hid (show Srt kless E2 mid en from by rw [← hE2]; exact HE3.out)
                have HR4 := Lib.hid (show Srt kless E2 en b from by rw [← hE2]; exact HE4.out)
                clear hE2
                generalize w1 = w2 at *
                clear HH1 HF1 HSG1 HSL HE1 HE2 HE3 HE4
                by_cases hB : mid < en ∧ en < b
                · obtain ⟨s1, s2⟩ := hB
                  have db1 : decide ((mid : Int) < (en : Int)) = true := by simp; omega
                  have db2 : decide ((en : Int) < (b : Int)) = true := by simp; omega
                  go_wp2_with fail
                  (with_reducible refine (HIH.out mid en b E2 _ (by omega) s1 s2 h3 HH2.out HR3.out HR4.out).mono ?_)
                  rintro e w3 ⟨rfl, E3, hh, hf, hsg, hsr⟩
                  have HH3 := Lib.hid hh
                  have HF3 := Lib.hid (HF2.out.trans hf (fun _ h _ => h))
                  have HSG3 := Lib.hid (HSG2.out.trans (hsg.mono (by omega : a ≤ mid) (Nat.le_refl b)))
                  have HSE3 := Lib.hid (cut_end (by omega) (by omega) HE5.out HSA.out HSB.out hsg hsr)
                  clear hh hf hsg hsr
                  go_wp2_with fail
                  go_end0
                  exact ⟨rfl, E3, HH3.out, HF3.out, HSG3.out, HSE3.out⟩
                · have HSR := Lib.hid (show Srt kless E2 mid b from by
                    by_cases s1 : mid = en
                    · have := HR4.out; rwa [← s1] at this
                    · have s2 : en = b := by omega
                      have := HR3.out; rwa [s2] at this)
                  have HSE3 := Lib.hid (cut_end (by omega) (by omega) HE5.out HSA.out HSB.out (Seg.refl mid b E2) HSR.out)
                  by_cases s1 : mid < en
                  · have db1 : decide ((mid : Int) < (en : Int)) = true := by simp; omega
                    have db2 : decide ((en : Int) < (b : Int)) = false := by simp; omega
                    have db2n : decide (en < b) = false := by simp; omega
                    clear hB
                    go_wp2_with fail
                    go_end0
                    exact ⟨rfl, E2, HH2.out, HF2.out, HSG2.out, HSE3.out⟩
                  · have db1 : decide ((mid : Int) < (en : Int)) = false := by simp; omega
                    have db1n : decide (mid < en) = false := by simp; omega
                    clear hB
                    go_wp2_with fail
                    go_end0
                    exact ⟨rfl, E2, HH2.out, HF2.out, HSG2.out, HSE3.out⟩
  · have dm : decide ((mid : Int) < (m : Int)) = false := by simp; omega
    have dmn : decide (mid < m) = false := by simp; omega
    have HC := Lib.hid (show (Value.int .i64 (a : Int), Value.int .i64 (m : Int)) = (.int .i64 (s0 : Int), .int .i64 (r0 : Int)) from by rw [c2, c3])
    clear hmid hq hp f7 f8 c2 c3 hpq
    go_wp2_with fail
    clear w1 w2 d1 d2 wm wq wp dm
    go_loopw [20, 21] (fun v10 v11 wr => S3R w g n s0 r0 q D sp v10 v11 wr) (fun v10 v11 _ => (intOf v11).toNat - (intOf v10).toNat)
    case atStart => exact ⟨s0, r0, by omega, by omega, by omega, (congrArg Prod.fst HC.out), (congrArg Prod.snd HC.out), fun k k1 k2 => by omega, fun k k1 k2 => by omega, HH.out, Frm.refl _ _⟩
    case round =>
      clear HC c1
      clear HH
      obtain ⟨i, j, hi1, hij, hjb, rfl, rfl, HLO, HHI, HH, HF⟩ := hrel
      by_cases hlt : i < j
      · obtain ⟨h, hh⟩ : ∃ q, (i + j) / 2 = q := ⟨_, rfl⟩
        have wh : ((i : Int) + (j : Int)) / 2 = (h : Int) := by omega
        have q1 : i ≤ h := by omega
        have q2 : h < j := by omega
        obtain ⟨o, ho⟩ : ∃ o, p - h = o := ⟨_, rfl⟩
        have wo : IntKind.i64.wrap ((p : Int) - (h : Int)) = (o : Int) := by rw [IntWalk.i64_in _ (by omega)]; omega
        have HDN := Lib.hid (fun (hl : P3 D q h = false) k (k1 : s0 ≤ k) (k2 : k < h + 1) => P3_down HS1.out HS2.out f1 f3 f5 f6 k1 (by omega : k ≤ h) (by omega : h < r0) hl)
        have HUP := Lib.hid (fun (hl : P3 D q h = true) k (k1 : h ≤ k) (k2 : k < r0) => P3_up HS1.out HS2.out f1 f3 f5 f6 (by omega : s0 ≤ h) k1 k2 hl)
        have HP3 := Lib.hid (show P3 D q h = kless (D o) (D h) from by unfold P3; rw [show q - 1 - h = o by omega])
        have HKL := Lib.hid (cmpK_dec (D o) (D h))
        have b1h : h < n := by omega
        have b2h : (0 : Int) ≤ (h : Int) := by omega
        have b3h : (h : Int) < (n : Int) := by omega
        have b1o : o < n := by omega
        have b2o : (0 : Int) ≤ (o : Int) := by omega
        have b3o : (o : Int) < (n : Int) := by omega
        have x0 := HH.out.c0 (k := o) (by omega)
        have x1 := HH.out.c1 (k := o) (by omega)
        have y0 := HH.out.c0 (k := h) (by omega)
        have y1 := HH.out.c1 (k := h) (by omega)
        clear hh ho
        have hgl := Blk.lt HH.out
        have hkl := HKL.out
        obtain ⟨x, hx⟩ : ∃ x, D o = x := ⟨_, rfl⟩
        obtain ⟨y, hy⟩ : ∃ y, D h = y := ⟨_, rfl⟩
        rw [hx, hy] at hkl
        rw [hx] at x0 x1
        rw [hy] at y0 y1
        have HXY := Lib.hid (show kless x y = kless (D o) (D h) from by rw [hx, hy])
        clear hx hy
        go_upto_region 35 with fail
        go_region_held3 (fun w' => w'.cell? ⟨g, o * 2, none⟩ = some (.int .i64 x.1) ∧ w'.cell? ⟨g, o * 2 + 1, none⟩ = some (.string x.2) ∧ w'.cell? ⟨g, h * 2, none⟩ = some (.int .i64 y.1) ∧ w'.cell? ⟨g, h * 2 + 1, none⟩ = some (.string y.2)) (first | go_keep | exact ⟨(HB.out.cell (p := ⟨g, o * 2, none⟩) hgl).trans x0, (HB.out.cell (p := ⟨g, o * 2 + 1, none⟩) hgl).trans x1, (HB.out.cell (p := ⟨g, h * 2, none⟩) hgl).trans y0, (HB.out.cell (p := ⟨g, h * 2 + 1, none⟩) hgl).trans y1⟩) ((go_at_call 38; refine (itcmp_any x.1 x.2 y.1 y.2 _).mono ?_; rintro e u ⟨rfl, hb⟩; have HB := Lib.hid hb; clear hb))
        have HIu := Lib.hid ((show HI wr.drew g n D sp from HH.out).below HB.out)
        have HFu := Lib.hid (HF.out.drew.trans (Frm.below (S := fun k => k = g) HB.out) (fun _ h _ => h))
        clear x0 x1 y0 y1 HH HF HB
        cases hk : kless x y
        · have HK := Lib.hid ((HP3.out.trans HXY.out.symm).trans hk)
          rw [hk] at hkl
          clear hk
          go_wp2_with fail
          clear wh wo
          go_roundw
          case rel => exact ⟨h + 1, j, by omega, by omega, hjb, by go_num, rfl, HDN.out HK.out, HHI.out, HIu.out, HFu.out⟩
          case measure => simp [intOf]; omega
        · have HK := Lib.hid ((HP3.out.trans HXY.out.symm).trans hk)
          rw [hk] at hkl
          clear hk
          go_wp2_with fail
          clear wh wo
          go_roundw
          case rel => exact ⟨i, h, hi1, q1, by omega, rfl, rfl, HLO.out, HUP.out HK.out, HIu.out, HFu.out⟩
          case measure => simp [intOf]; omega
      · obtain rfl : i = j := by omega
        have hcut : CutOK kless D a m b mid i := ⟨by omega, by omega, by omega, by omega, fun k1 k2 => by
          have f7 := HF7.out
          have := HLO.out (i - 1) (by omega) (by omega)
          unfold P3 at this
          rwa [show q - 1 - (i - 1) = mid + m - i by omega] at this, fun k1 k2 => by
          have f8 := HF8.out
          have := HHI.out i (by omega) (by omega)
          unfold P3 at this
          rwa [show q - 1 - i = mid + m - i - 1 by omega] at this⟩
        obtain ⟨e1, e2, e3, e4, e5⟩ := cut_rot kless_ord HS1.out HS2.out (by omega) (by omega) (by omega) (by omega) hcut
        obtain ⟨en, hen⟩ : ∃ en, mid + m - i = en := ⟨_, rfl⟩
        rw [hen] at e1 e2 e3 e4 e5
        have we : IntKind.i64.wrap ((q : Int) - (i : Int)) = (en : Int) := by rw [IntWalk.i64_in _ (by omega)]; omega
        have g1 : a ≤ i := hcut.lo
        have g2 : i ≤ m := hcut.le
        have g3 : i ≤ mid := hcut.lm
        have g4 : en ≤ b := by have := hcut.hi; omega
        have g5 : m ≤ en := by omega
        have g6 : mid ≤ en := by omega
        have g7 : i = m → mid = en := by omega
        have g8 : en = m → i = mid := by omega
        have HE1 := Lib.hid e1
        have HE2 := Lib.hid e2
        have HE3 := Lib.hid e3
        have HE4 := Lib.hid e4
        have HE5 := Lib.hid e5
        have HG7 := Lib.hid g7
        have HG8 := Lib.hid g8
        clear e1 e2 e3 e4 e5 hcut hen HLO HHI HF7 HF8 HP HQ g7 g8
        by_cases hrot : i < m ∧ m < en
        · obtain ⟨r1, r2⟩ := hrot
          have dr1 : decide ((i : Int) < (m : Int)) = true := by simp; omega
          have dr2 : decide ((m : Int) < (en : Int)) = true := by simp; omega
          go_wp2_with fail
          (with_reducible refine (rotate_any g n c i m en D sp _ _ HH.out r1 r2 (by omega) hn).mono ?_)
          rintro e w1 ⟨rfl, hh, hf, hsg⟩
          have HH1 := Lib.hid hh
          have HF1 := Lib.hid (HF.out.trans hf (fun _ h _ => h))
          have HSG1 := Lib.hid (show Seg a b D (rotF D i m en) from hsg.mono g1 g4)
          clear hh hf hsg dr1 dr2 we HH HF
          generalize rotF D i m en = E at *
          by_cases hA : a < i ∧ i < mid
          · obtain ⟨s1, s2⟩ := hA
            have da1 : decide ((a : Int) < (i : Int)) = true := by simp; omega
            have da2 : decide ((i : Int) < (mid : Int)) = true := by simp; omega
            go_wp2_with fail
            (with_reducible refine (HIH.out a i mid E _ (by omega) s1 s2 (by omega) HH1.out HE1.out HE2.out).mono ?_)
            rintro e w2 ⟨rfl, E2, hh, hf, hsg, hsr⟩
            have HH2 := Lib.hid hh
            have HF2 := Lib.hid (HF1.out.trans hf (fun _ h _ => h))
            have HSG2 := Lib.hid (HSG1.out.trans (hsg.mono (Nat.le_refl a) (by omega : mid ≤ b)))
            have HSA := Lib.hid hsg
            have HSB := Lib.hid hsr
            have HR3 := Lib.hid (show Srt kless E2 mid en from HE3.out.congr fun k k1 _ => hsg.out k (by omega))
            have HR4 := Lib.hid (show Srt kless E2 en b from HE4.out.congr fun k k1 _ => hsg.out k (by omega))
            clear hh hf hsg hsr da1 da2 s1 s2 HH1 HF1 HSG1 HE1 HE2 HE3 HE4
            by_cases hB : mid < en ∧ en < b
            · obtain ⟨s1, s2⟩ := hB
              have db1 : decide ((mid : Int) < (en : Int)) = true := by simp; omega
              have db2 : decide ((en : Int) < (b : Int)) = true := by simp; omega
              go_wp2_with fail
              (with_reducible refine (HIH.out mid en b E2 _ (by omega) s1 s2 h3 HH2.out HR3.out HR4.out).mono ?_)
              rintro e w3 ⟨rfl, E3, hh, hf, hsg, hsr⟩
              have HH3 := Lib.hid hh
              have HF3 := Lib.hid (HF2.out.trans hf (fun _ h _ => h))
              have HSG3 := Lib.hid (HSG2.out.trans (hsg.mono (by omega : a ≤ mid) (Nat.le_refl b)))
              have HSE3 := Lib.hid (cut_end (by omega) (by omega) HE5.out HSA.out HSB.out hsg hsr)
              clear hh hf hsg hsr
              go_wp2_with fail
              go_end0
              exact ⟨rfl, E3, HH3.out, HF3.out, HSG3.out, HSE3.out⟩
            · have HSR := Lib.hid (show Srt kless E2 mid b from by
                by_cases s1 : mid = en
                · have := HR4.out; rwa [← s1] at this
                · have s2 : en = b := by omega
                  have := HR3.out; rwa [s2] at this)
              have HSE3 := Lib.hid (cut_end (by omega) (by omega) HE5.out HSA.out HSB.out (Seg.refl mid b E2) HSR.out)
              by_cases s1 : mid < en
              · have db1 : decide ((mid : Int) < (en : Int)) = true := by simp; omega
                have db2 : decide ((en : Int) < (b : Int)) = false := by simp; omega
                have db2n : decide (en < b) = false := by simp; omega
                clear hB
                go_wp2_with fail
                go_end0
                exact ⟨rfl, E2, HH2.out, HF2.out, HSG2.out, HSE3.out⟩
              · have db1 : decide ((mid : Int) < (en : Int)) = false := by simp; omega
                have db1n : decide (mid < en) = false := by simp; omega
                clear hB
                go_wp2_with fail
                go_end0
                exact ⟨rfl, E2, HH2.out, HF2.out, HSG2.out, HSE3.out⟩
          · have HSL := Lib.hid (show Srt kless E a mid from by
              by_cases s1 : a = i
              · have := HE2.out; rwa [← s1] at this
              · have s2 : i = mid := by omega
                have := HE1.out; rwa [s2] at this)
            by_cases s1 : a < i
            · have da1 : decide ((a : Int) < (i : Int)) = true := by simp; omega
              have da2 : decide ((i : Int) < (mid : Int)) = false := by simp; omega
              have da2n : decide (i < mid) = false := by simp; omega
              clear hA
              obtain ⟨E2, hE2⟩ : ∃ E2, E = E2 := ⟨_, rfl⟩
              have HH2 := Lib.hid (show HI w1 g n E2 sp from by rw [← hE2]; exact HH1.out)
              have HF2 := Lib.hid HF1.out
              have HSG2 := Lib.hid (show Seg a b D E2 from by rw [← hE2]; exact HSG1.out)
              have HSA := Lib.hid (show Seg a mid E E2 from by rw [← hE2]; exact Seg.refl a mid E)
              have HSB := Lib.hid (show Srt kless E2 a mid from by rw [← hE2]; exact HSL.out)
              have HR3 := Lib.hid (show Srt kless E2 mid en from by rw [← hE2]; exact HE3.out)
              have HR4 := Lib.hid (show Srt kless E2 en b from by rw [← hE2]; exact HE4.out)
              clear hE2
              generalize w1 = w2 at *
              clear HH1 HF1 HSG1 HSL HE1 HE2 HE3 HE4
              by_cases hB : mid < en ∧ en < b
              · obtain ⟨s1, s2⟩ := hB
                have db1 : decide ((mid : Int) < (en : Int)) = true := by simp; omega
                have db2 : decide ((en : Int) < (b : Int)) = true := by simp; omega
                go_wp2_with fail
                (with_reducible refine (HIH.out mid en b E2 _ (by omega) s1 s2 h3 HH2.out HR3.out HR4.out).mono ?_)
                rintro e w3 ⟨rfl, E3, hh, hf, hsg, hsr⟩
                have HH3 := Lib.hid hh
                have HF3 := Lib.hid (HF2.out.trans hf (fun _ h _ => h))
                have HSG3 := Lib.hid (HSG2.out.trans (hsg.mono (by omega : a ≤ mid) (Nat.le_refl b)))
                have HSE3 := Lib.hid (cut_end (by omega) (by omega) HE5.out HSA.out HSB.out hsg hsr)
                clear hh hf hsg hsr
                go_wp2_with fail
                go_end0
                exact ⟨rfl, E3, HH3.out, HF3.out, HSG3.out, HSE3.out⟩
              · have HSR := Lib.hid (show Srt kless E2 mid b from by
                  by_cases s1 : mid = en
                  · have := HR4.out; rwa [← s1] at this
                  · have s2 : en = b := by omega
                    have := HR3.out; rwa [s2] at this)
                have HSE3 := Lib.hid (cut_end (by omega) (by omega) HE5.out HSA.out HSB.out (Seg.refl mid b E2) HSR.out)
                by_cases s1 : mid < en
                · have db1 : decide ((mid : Int) < (en : Int)) = true := by simp; omega
                  have db2 : decide ((en : Int) < (b : Int)) = false := by simp; omega
                  have db2n : decide (en < b) = false := by simp; omega
                  clear hB
                  go_wp2_with fail
                  go_end0
                  exact ⟨rfl, E2, HH2.out, HF2.out, HSG2.out, HSE3.out⟩
                · have db1 : decide ((mid : Int) < (en : Int)) = false := by simp; omega
                  have db1n : decide (mid < en) = false := by simp; omega
                  clear hB
                  go_wp2_with fail
                  go_end0
                  exact ⟨rfl, E2, HH2.out, HF2.out, HSG2.out, HSE3.out⟩
            · have da1 : decide ((a : Int) < (i : Int)) = false := by simp; omega
              have da1n : decide (a < i) = false := by simp; omega
              clear hA
              obtain ⟨E2, hE2⟩ : ∃ E2, E = E2 := ⟨_, rfl⟩
              have HH2 := Lib.hid (show HI w1 g n E2 sp from by rw [← hE2]; exact HH1.out)
              have HF2 := Lib.hid HF1.out
              have HSG2 := Lib.hid (show Seg a b D E2 from by rw [← hE2]; exact HSG1.out)
              have HSA := Lib.hid (show Seg a mid E E2 from by rw [← hE2]; exact Seg.refl a mid E)
              have HSB := Lib.hid (show Srt kless E2 a mid from by rw [← hE2]; exact HSL.out)
              have HR3 := Lib.hid (show Srt kless E2 mid en from by rw [← hE2]; exact HE3.out)
              have HR4 := Lib.hid (show Srt kless E2 en b from by rw [← hE2]; exact HE4.out)
              clear hE2
              generalize w1 = w2 at *
              clear HH1 HF1 HSG1 HSL HE1 HE2 HE3 HE4
              by_cases hB : mid < en ∧ en < b
              · obtain ⟨s1, s2⟩ := hB
                have db1 : decide ((mid : Int) < (en : Int)) = true := by simp; omega
                have db2 : decide ((en : Int) < (b : Int)) = true := by simp; omega
                go_wp2_with fail
                (with_reducible refine (HIH.out mid en b E2 _ (by omega) s1 s2 h3 HH2.out HR3.out HR4.out).mono ?_)
                rintro e w3 ⟨rfl, E3, hh, hf, hsg, hsr⟩
                have HH3 := Lib.hid hh
                have HF3 := Lib.hid (HF2.out.trans hf (fun _ h _ => h))
                have HSG3 := Lib.hid (HSG2.out.trans (hsg.mono (by omega : a ≤ mid) (Nat.le_refl b)))
                have HSE3 := Lib.hid (cut_end (by omega) (by omega) HE5.out HSA.out HSB.out hsg hsr)
                clear hh hf hsg hsr
                go_wp2_with fail
                go_end0
                exact ⟨rfl, E3, HH3.out, HF3.out, HSG3.out, HSE3.out⟩
              · have HSR := Lib.hid (show Srt kless E2 mid b from by
                  by_cases s1 : mid = en
                  · have := HR4.out; rwa [← s1] at this
                  · have s2 : en = b := by omega
                    have := HR3.out; rwa [s2] at this)
                have HSE3 := Lib.hid (cut_end (by omega) (by omega) HE5.out HSA.out HSB.out (Seg.refl mid b E2) HSR.out)
                by_cases s1 : mid < en
                · have db1 : decide ((mid : Int) < (en : Int)) = true := by simp; omega
                  have db2 : decide ((en : Int) < (b : Int)) = false := by simp; omega
                  have db2n : decide (en < b) = false := by simp; omega
                  clear hB
                  go_wp2_with fail
                  go_end0
                  exact ⟨rfl, E2, HH2.out, HF2.out, HSG2.out, HSE3.out⟩
                · have db1 : decide ((mid : Int) < (en : Int)) = false := by simp; omega
                  have db1n : decide (mid < en) = false := by simp; omega
                  clear hB
                  go_wp2_with fail
                  go_end0
                  exact ⟨rfl, E2, HH2.out, HF2.out, HSG2.out, HSE3.out⟩
        · have hE : rotF D i m en = D := by
            by_cases r1 : i = m
            · have := HG7.out r1; subst r1; exact rotF_none1 D i en (by omega)
            · have r2 : en = m := by omega
              rw [r2]; exact rotF_none2 D i m
          rw [hE] at HE1 HE2 HE3 HE4 HE5
          have HSG1 := Lib.hid (Seg.refl a b D)
          have HH1 := Lib.hid HH.out
          have HF1 := Lib.hid HF.out
          generalize wr = w1 at *
          clear HH HF hE
          by_cases r1 : i < m
          · have dr1 : decide ((i : Int) < (m : Int)) = true := by simp; omega
            have dr2 : decide ((m : Int) < (en : Int)) = false := by simp; omega
            have dr2n : decide (m < en) = false := by simp; omega
            have HE := Lib.hid (rfl : D = D)
            obtain ⟨E, hE⟩ : ∃ E, D = E := ⟨_, rfl⟩
            rw [hE] at HE1 HE2 HE3 HE4 HE5 HH1
            have HSG1 := Lib.hid (show Seg a b D E from hE ▸ HSG1.out)
            clear hE HE
            clear hrot
            by_cases hA : a < i ∧ i < mid
            · obtain ⟨s1, s2⟩ := hA
              have da1 : decide ((a : Int) < (i : Int)) = true := by simp; omega
              have da2 : decide ((i : Int) < (mid : Int)) = true := by simp; omega
              go_wp2_with fail
              (with_reducible refine (HIH.out a i mid E _ (by omega) s1 s2 (by omega) HH1.out HE1.out HE2.out).mono ?_)
              rintro e w2 ⟨rfl, E2, hh, hf, hsg, hsr⟩
              have HH2 := Lib.hid hh
              have HF2 := Lib.hid (HF1.out.trans hf (fun _ h _ => h))
              have HSG2 := Lib.hid (HSG1.out.trans (hsg.mono (Nat.le_refl a) (by omega : mid ≤ b)))
              have HSA := Lib.hid hsg
              have HSB := Lib.hid hsr
              have HR3 := Lib.hid (show Srt kless E2 mid en from HE3.out.congr fun k k1 _ => hsg.out k (by omega))
              have HR4 := Lib.hid (show Srt kless E2 en b from HE4.out.congr fun k k1 _ => hsg.out k (by omega))
              clear hh hf hsg hsr da1 da2 s1 s2 HH1 HF1 HSG1 HE1 HE2 HE3 HE4
              by_cases hB : mid < en ∧ en < b
              · obtain ⟨s1, s2⟩ := hB
                have db1 : decide ((mid : Int) < (en : Int)) = true := by simp; omega
                have db2 : decide ((en : Int) < (b : Int)) = true := by simp; omega
                go_wp2_with fail
                (with_reducible refine (HIH.out mid en b E2 _ (by omega) s1 s2 h3 HH2.out HR3.out HR4.out).mono ?_)
                rintro e w3 ⟨rfl, E3, hh, hf, hsg, hsr⟩
                have HH3 := Lib.hid hh
                have HF3 := Lib.hid (HF2.out.trans hf (fun _ h _ => h))
                have HSG3 := Lib.hid (HSG2.out.trans (hsg.mono (by omega : a ≤ mid) (Nat.le_refl b)))
                have HSE3 := Lib.hid (cut_end (by omega) (by omega) HE5.out HSA.out HSB.out hsg hsr)
                clear hh hf hsg hsr
                go_wp2_with fail
                go_end0
                exact ⟨rfl, E3, HH3.out, HF3.out, HSG3.out, HSE3.out⟩
              · have HSR := Lib.hid (show Srt kless E2 mid b from by
                  by_cases s1 : mid = en
                  · have := HR4.out; rwa [← s1] at this
                  · have s2 : en = b := by omega
                    have := HR3.out; rwa [s2] at this)
                have HSE3 := Lib.hid (cut_end (by omega) (by omega) HE5.out HSA.out HSB.out (Seg.refl mid b E2) HSR.out)
                by_cases s1 : mid < en
                · have db1 : decide ((mid : Int) < (en : Int)) = true := by simp; omega
                  have db2 : decide ((en : Int) < (b : Int)) = false := by simp; omega
                  have db2n : decide (en < b) = false := by simp; omega
                  clear hB
                  go_wp2_with fail
                  go_end0
                  exact ⟨rfl, E2, HH2.out, HF2.out, HSG2.out, HSE3.out⟩
                · have db1 : decide ((mid : Int) < (en : Int)) = false := by simp; omega
                  have db1n : decide (mid < en) = false := by simp; omega
                  clear hB
                  go_wp2_with fail
                  go_end0
                  exact ⟨rfl, E2, HH2.out, HF2.out, HSG2.out, HSE3.out⟩
            · have HSL := Lib.hid (show Srt kless E a mid from by
                by_cases s1 : a = i
                · have := HE2.out; rwa [← s1] at this
                · have s2 : i = mid := by omega
                  have := HE1.out; rwa [s2] at this)
              by_cases s1 : a < i
              · have da1 : decide ((a : Int) < (i : Int)) = true := by simp; omega
                have da2 : decide ((i : Int) < (mid : Int)) = false := by simp; omega
                have da2n : decide (i < mid) = false := by simp; omega
                clear hA
                obtain ⟨E2, hE2⟩ : ∃ E2, E = E2 := ⟨_, rfl⟩
                have HH2 := Lib.hid (show HI w1 g n E2 sp from by rw [← hE2]; exact HH1.out)
                have HF2 := Lib.hid HF1.out
                have HSG2 := Lib.hid (show Seg a b D E2 from by rw [← hE2]; exact HSG1.out)
                have HSA := Lib.hid (show Seg a mid E E2 from by rw [← hE2]; exact Seg.refl a mid E)
                have HSB := Lib.hid (show Srt kless E2 a mid from by rw [← hE2]; exact HSL.out)
                have HR3 := Lib.hid (show Srt kless E2 mid en from by rw [← hE2]; exact HE3.out)
                have HR4 := Lib.hid (show Srt kless E2 en b from by rw [← hE2]; exact HE4.out)
                clear hE2
                generalize w1 = w2 at *
                clear HH1 HF1 HSG1 HSL HE1 HE2 HE3 HE4
                by_cases hB : mid < en ∧ en < b
                · obtain ⟨s1, s2⟩ := hB
                  have db1 : decide ((mid : Int) < (en : Int)) = true := by simp; omega
                  have db2 : decide ((en : Int) < (b : Int)) = true := by simp; omega
                  go_wp2_with fail
                  (with_reducible refine (HIH.out mid en b E2 _ (by omega) s1 s2 h3 HH2.out HR3.out HR4.out).mono ?_)
                  rintro e w3 ⟨rfl, E3, hh, hf, hsg, hsr⟩
                  have HH3 := Lib.hid hh
                  have HF3 := Lib.hid (HF2.out.trans hf (fun _ h _ => h))
                  have HSG3 := Lib.hid (HSG2.out.trans (hsg.mono (by omega : a ≤ mid) (Nat.le_refl b)))
                  have HSE3 := Lib.hid (cut_end (by omega) (by omega) HE5.out HSA.out HSB.out hsg hsr)
                  clear hh hf hsg hsr
                  go_wp2_with fail
                  go_end0
                  exact ⟨rfl, E3, HH3.out, HF3.out, HSG3.out, HSE3.out⟩
                · have HSR := Lib.hid (show Srt kless E2 mid b from by
                    by_cases s1 : mid = en
                    · have := HR4.out; rwa [← s1] at this
                    · have s2 : en = b := by omega
                      have := HR3.out; rwa [s2] at this)
                  have HSE3 := Lib.hid (cut_end (by omega) (by omega) HE5.out HSA.out HSB.out (Seg.refl mid b E2) HSR.out)
                  by_cases s1 : mid < en
                  · have db1 : decide ((mid : Int) < (en : Int)) = true := by simp; omega
                    have db2 : decide ((en : Int) < (b : Int)) = false := by simp; omega
                    have db2n : decide (en < b) = false := by simp; omega
                    clear hB
                    go_wp2_with fail
                    go_end0
                    exact ⟨rfl, E2, HH2.out, HF2.out, HSG2.out, HSE3.out⟩
                  · have db1 : decide ((mid : Int) < (en : Int)) = false := by simp; omega
                    have db1n : decide (mid < en) = false := by simp; omega
                    clear hB
                    go_wp2_with fail
                    go_end0
                    exact ⟨rfl, E2, HH2.out, HF2.out, HSG2.out, HSE3.out⟩
              · have da1 : decide ((a : Int) < (i : Int)) = false := by simp; omega
                have da1n : decide (a < i) = false := by simp; omega
                clear hA
                obtain ⟨E2, hE2⟩ : ∃ E2, E = E2 := ⟨_, rfl⟩
                have HH2 := Lib.hid (show HI w1 g n E2 sp from by rw [← hE2]; exact HH1.out)
                have HF2 := Lib.hid HF1.out
                have HSG2 := Lib.hid (show Seg a b D E2 from by rw [← hE2]; exact HSG1.out)
                have HSA := Lib.hid (show Seg a mid E E2 from by rw [← hE2]; exact Seg.refl a mid E)
                have HSB := Lib.hid (show Srt kless E2 a mid from by rw [← hE2]; exact HSL.out)
                have HR3 := Lib.hid (show Srt kless E2 mid en from by rw [← hE2]; exact HE3.out)
                have HR4 := Lib.hid (show Srt kless E2 en b from by rw [← hE2]; exact HE4.out)
                clear hE2
                generalize w1 = w2 at *
                clear HH1 HF1 HSG1 HSL HE1 HE2 HE3 HE4
                by_cases hB : mid < en ∧ en < b
                · obtain ⟨s1, s2⟩ := hB
                  have db1 : decide ((mid : Int) < (en : Int)) = true := by simp; omega
                  have db2 : decide ((en : Int) < (b : Int)) = true := by simp; omega
                  go_wp2_with fail
                  (with_reducible refine (HIH.out mid en b E2 _ (by omega) s1 s2 h3 HH2.out HR3.out HR4.out).mono ?_)
                  rintro e w3 ⟨rfl, E3, hh, hf, hsg, hsr⟩
                  have HH3 := Lib.hid hh
                  have HF3 := Lib.hid (HF2.out.trans hf (fun _ h _ => h))
                  have HSG3 := Lib.hid (HSG2.out.trans (hsg.mono (by omega : a ≤ mid) (Nat.le_refl b)))
                  have HSE3 := Lib.hid (cut_end (by omega) (by omega) HE5.out HSA.out HSB.out hsg hsr)
                  clear hh hf hsg hsr
                  go_wp2_with fail
                  go_end0
                  exact ⟨rfl, E3, HH3.out, HF3.out, HSG3.out, HSE3.out⟩
                · have HSR := Lib.hid (show Srt kless E2 mid b from by
                    by_cases s1 : mid = en
                    · have := HR4.out; rwa [← s1] at this
                    · have s2 : en = b := by omega
                      have := HR3.out; rwa [s2] at this)
                  have HSE3 := Lib.hid (cut_end (by omega) (by omega) HE5.out HSA.out HSB.out (Seg.refl mid b E2) HSR.out)
                  by_cases s1 : mid < en
                  · have db1 : decide ((mid : Int) < (en : Int)) = true := by simp; omega
                    have db2 : decide ((en : Int) < (b : Int)) = false := by simp; omega
                    have db2n : decide (en < b) = false := by simp; omega
                    clear hB
                    go_wp2_with fail
                    go_end0
                    exact ⟨rfl, E2, HH2.out, HF2.out, HSG2.out, HSE3.out⟩
                  · have db1 : decide ((mid : Int) < (en : Int)) = false := by simp; omega
                    have db1n : decide (mid < en) = false := by simp; omega
                    clear hB
                    go_wp2_with fail
                    go_end0
                    exact ⟨rfl, E2, HH2.out, HF2.out, HSG2.out, HSE3.out⟩
          · have dr1 : decide ((i : Int) < (m : Int)) = false := by simp; omega
            have dr1n : decide (i < m) = false := by simp; omega
            obtain ⟨E, hE⟩ : ∃ E, D = E := ⟨_, rfl⟩
            rw [hE] at HE1 HE2 HE3 HE4 HE5 HH1
            have HSG1 := Lib.hid (show Seg a b D E from hE ▸ HSG1.out)
            clear hE
            clear hrot
            by_cases hA : a < i ∧ i < mid
            · obtain ⟨s1, s2⟩ := hA
              have da1 : decide ((a : Int) < (i : Int)) = true := by simp; omega
              have da2 : decide ((i : Int) < (mid : Int)) = true := by simp; omega
              go_wp2_with fail
              (with_reducible refine (HIH.out a i mid E _ (by omega) s1 s2 (by omega) HH1.out HE1.out HE2.out).mono ?_)
              rintro e w2 ⟨rfl, E2, hh, hf, hsg, hsr⟩
              have HH2 := Lib.hid hh
              have HF2 := Lib.hid (HF1.out.trans hf (fun _ h _ => h))
              have HSG2 := Lib.hid (HSG1.out.trans (hsg.mono (Nat.le_refl a) (by omega : mid ≤ b)))
              have HSA := Lib.hid hsg
              have HSB := Lib.hid hsr
              have HR3 := Lib.hid (show Srt kless E2 mid en from HE3.out.congr fun k k1 _ => hsg.out k (by omega))
              have HR4 := Lib.hid (show Srt kless E2 en b from HE4.out.congr fun k k1 _ => hsg.out k (by omega))
              clear hh hf hsg hsr da1 da2 s1 s2 HH1 HF1 HSG1 HE1 HE2 HE3 HE4
              by_cases hB : mid < en ∧ en < b
              · obtain ⟨s1, s2⟩ := hB
                have db1 : decide ((mid : Int) < (en : Int)) = true := by simp; omega
                have db2 : decide ((en : Int) < (b : Int)) = true := by simp; omega
                go_wp2_with fail
                (with_reducible refine (HIH.out mid en b E2 _ (by omega) s1 s2 h3 HH2.out HR3.out HR4.out).mono ?_)
                rintro e w3 ⟨rfl, E3, hh, hf, hsg, hsr⟩
                have HH3 := Lib.hid hh
                have HF3 := Lib.hid (HF2.out.trans hf (fun _ h _ => h))
                have HSG3 := Lib.hid (HSG2.out.trans (hsg.mono (by omega : a ≤ mid) (Nat.le_refl b)))
                have HSE3 := Lib.hid (cut_end (by omega) (by omega) HE5.out HSA.out HSB.out hsg hsr)
                clear hh hf hsg hsr
                go_wp2_with fail
                go_end0
                exact ⟨rfl, E3, HH3.out, HF3.out, HSG3.out, HSE3.out⟩
              · have HSR := Lib.hid (show Srt kless E2 mid b from by
                  by_cases s1 : mid = en
                  · have := HR4.out; rwa [← s1] at this
                  · have s2 : en = b := by omega
                    have := HR3.out; rwa [s2] at this)
                have HSE3 := Lib.hid (cut_end (by omega) (by omega) HE5.out HSA.out HSB.out (Seg.refl mid b E2) HSR.out)
                by_cases s1 : mid < en
                · have db1 : decide ((mid : Int) < (en : Int)) = true := by simp; omega
                  have db2 : decide ((en : Int) < (b : Int)) = false := by simp; omega
                  have db2n : decide (en < b) = false := by simp; omega
                  clear hB
                  go_wp2_with fail
                  go_end0
                  exact ⟨rfl, E2, HH2.out, HF2.out, HSG2.out, HSE3.out⟩
                · have db1 : decide ((mid : Int) < (en : Int)) = false := by simp; omega
                  have db1n : decide (mid < en) = false := by simp; omega
                  clear hB
                  go_wp2_with fail
                  go_end0
                  exact ⟨rfl, E2, HH2.out, HF2.out, HSG2.out, HSE3.out⟩
            · have HSL := Lib.hid (show Srt kless E a mid from by
                by_cases s1 : a = i
                · have := HE2.out; rwa [← s1] at this
                · have s2 : i = mid := by omega
                  have := HE1.out; rwa [s2] at this)
              by_cases s1 : a < i
              · have da1 : decide ((a : Int) < (i : Int)) = true := by simp; omega
                have da2 : decide ((i : Int) < (mid : Int)) = false := by simp; omega
                have da2n : decide (i < mid) = false := by simp; omega
                clear hA
                obtain ⟨E2, hE2⟩ : ∃ E2, E = E2 := ⟨_, rfl⟩
                have HH2 := Lib.hid (show HI w1 g n E2 sp from by rw [← hE2]; exact HH1.out)
                have HF2 := Lib.hid HF1.out
                have HSG2 := Lib.hid (show Seg a b D E2 from by rw [← hE2]; exact HSG1.out)
                have HSA := Lib.hid (show Seg a mid E E2 from by rw [← hE2]; exact Seg.refl a mid E)
                have HSB := Lib.hid (show Srt kless E2 a mid from by rw [← hE2]; exact HSL.out)
                have HR3 := Lib.hid (show Srt kless E2 mid en from by rw [← hE2]; exact HE3.out)
                have HR4 := Lib.hid (show Srt kless E2 en b from by rw [← hE2]; exact HE4.out)
                clear hE2
                generalize w1 = w2 at *
                clear HH1 HF1 HSG1 HSL HE1 HE2 HE3 HE4
                by_cases hB : mid < en ∧ en < b
                · obtain ⟨s1, s2⟩ := hB
                  have db1 : decide ((mid : Int) < (en : Int)) = true := by simp; omega
                  have db2 : decide ((en : Int) < (b : Int)) = true := by simp; omega
                  go_wp2_with fail
                  (with_reducible refine (HIH.out mid en b E2 _ (by omega) s1 s2 h3 HH2.out HR3.out HR4.out).mono ?_)
                  rintro e w3 ⟨rfl, E3, hh, hf, hsg, hsr⟩
                  have HH3 := Lib.hid hh
                  have HF3 := Lib.hid (HF2.out.trans hf (fun _ h _ => h))
                  have HSG3 := Lib.hid (HSG2.out.trans (hsg.mono (by omega : a ≤ mid) (Nat.le_refl b)))
                  have HSE3 := Lib.hid (cut_end (by omega) (by omega) HE5.out HSA.out HSB.out hsg hsr)
                  clear hh hf hsg hsr
                  go_wp2_with fail
                  go_end0
                  exact ⟨rfl, E3, HH3.out, HF3.out, HSG3.out, HSE3.out⟩
                · have HSR := Lib.hid (show Srt kless E2 mid b from by
                    by_cases s1 : mid = en
                    · have := HR4.out; rwa [← s1] at this
                    · have s2 : en = b := by omega
                      have := HR3.out; rwa [s2] at this)
                  have HSE3 := Lib.hid (cut_end (by omega) (by omega) HE5.out HSA.out HSB.out (Seg.refl mid b E2) HSR.out)
                  by_cases s1 : mid < en
                  · have db1 : decide ((mid : Int) < (en : Int)) = true := by simp; omega
                    have db2 : decide ((en : Int) < (b : Int)) = false := by simp; omega
                    have db2n : decide (en < b) = false := by simp; omega
                    clear hB
                    go_wp2_with fail
                    go_end0
                    exact ⟨rfl, E2, HH2.out, HF2.out, HSG2.out, HSE3.out⟩
                  · have db1 : decide ((mid : Int) < (en : Int)) = false := by simp; omega
                    have db1n : decide (mid < en) = false := by simp; omega
                    clear hB
                    go_wp2_with fail
                    go_end0
                    exact ⟨rfl, E2, HH2.out, HF2.out, HSG2.out, HSE3.out⟩
              · have da1 : decide ((a : Int) < (i : Int)) = false := by simp; omega
                have da1n : decide (a < i) = false := by simp; omega
                clear hA
                obtain ⟨E2, hE2⟩ : ∃ E2, E = E2 := ⟨_, rfl⟩
                have HH2 := Lib.hid (show HI w1 g n E2 sp from by rw [← hE2]; exact HH1.out)
                have HF2 := Lib.hid HF1.out
                have HSG2 := Lib.hid (show Seg a b D E2 from by rw [← hE2]; exact HSG1.out)
                have HSA := Lib.hid (show Seg a mid E E2 from by rw [← hE2]; exact Seg.refl a mid E)
                have HSB := Lib.hid (show Srt kless E2 a mid from by rw [← hE2]; exact HSL.out)
                have HR3 := Lib.hid (show Srt kless E2 mid en from by rw [← hE2]; exact HE3.out)
                have HR4 := Lib.hid (show Srt kless E2 en b from by rw [← hE2]; exact HE4.out)
                clear hE2
                generalize w1 = w2 at *
                clear HH1 HF1 HSG1 HSL HE1 HE2 HE3 HE4
                by_cases hB : mid < en ∧ en < b
                · obtain ⟨s1, s2⟩ := hB
                  have db1 : decide ((mid : Int) < (en : Int)) = true := by simp; omega
                  have db2 : decide ((en : Int) < (b : Int)) = true := by simp; omega
                  go_wp2_with fail
                  (with_reducible refine (HIH.out mid en b E2 _ (by omega) s1 s2 h3 HH2.out HR3.out HR4.out).mono ?_)
                  rintro e w3 ⟨rfl, E3, hh, hf, hsg, hsr⟩
                  have HH3 := Lib.hid hh
                  have HF3 := Lib.hid (HF2.out.trans hf (fun _ h _ => h))
                  have HSG3 := Lib.hid (HSG2.out.trans (hsg.mono (by omega : a ≤ mid) (Nat.le_refl b)))
                  have HSE3 := Lib.hid (cut_end (by omega) (by omega) HE5.out HSA.out HSB.out hsg hsr)
                  clear hh hf hsg hsr
                  go_wp2_with fail
                  go_end0
                  exact ⟨rfl, E3, HH3.out, HF3.out, HSG3.out, HSE3.out⟩
                · have HSR := Lib.hid (show Srt kless E2 mid b from by
                    by_cases s1 : mid = en
                    · have := HR4.out; rwa [← s1] at this
                    · have s2 : en = b := by omega
                      have := HR3.out; rwa [s2] at this)
                  have HSE3 := Lib.hid (cut_end (by omega) (by omega) HE5.out HSA.out HSB.out (Seg.refl mid b E2) HSR.out)
                  by_cases s1 : mid < en
                  · have db1 : decide ((mid : Int) < (en : Int)) = true := by simp; omega
                    have db2 : decide ((en : Int) < (b : Int)) = false := by simp; omega
                    have db2n : decide (en < b) = false := by simp; omega
                    clear hB
                    go_wp2_with fail
                    go_end0
                    exact ⟨rfl, E2, HH2.out, HF2.out, HSG2.out, HSE3.out⟩
                  · have db1 : decide ((mid : Int) < (en : Int)) = false := by simp; omega
                    have db1n : decide (mid < en) = false := by simp; omega
                    clear hB
                    go_wp2_with fail
                    go_end0
                    exact ⟨rfl, E2, HH2.out, HF2.out, HSG2.out, HSE3.out⟩
end Go.Proofs.Ytjacebnjmhbcbaa
