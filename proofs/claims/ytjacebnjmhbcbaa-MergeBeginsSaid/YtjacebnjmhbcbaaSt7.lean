/- stableCmpFunc, SortStableFunc of items by rank.compare. -/
import Derived.Test.YtjacebnjmhbcbaaSt6
namespace Go.Proofs.Ytjacebnjmhbcbaa
open Go.RowKit
set_option linter.unusedVariables false

theorem sym_all (g n c : Nat) (sp : List Value) (hn : n ≤ 100000) : ∀ (N a m b : Nat) (E : Nat → KeyL) (W : World), b - a ≤ N → a < m → m < b → b ≤ n → HI W g n E sp → Srt kless E a m → Srt kless E m b →
    Calls Try.prog 68 #[.slice (some ⟨g, 0, none⟩) n c, .int .i64 (a : Nat), .int .i64 (m : Nat), .int .i64 (b : Nat), cmpV] W fun e w' => SymEnd W g n a b E sp e w'
  | 0, a, m, b, E, W, hN, h1, h2, h3, h, hs1, hs2 => by omega
  | N + 1, a, m, b, E, W, hN, h1, h2, h3, h, hs1, hs2 => by
    by_cases e1 : m = a + 1
    · exact sym1_any g n c a m b E sp W h e1 h2 h3 hn hs2
    · by_cases e2 : b = m + 1
      · exact sym2_any g n c a m b E sp W h e1 e2 h1 h3 hn hs1
      · exact sym3_any g n c a m b E sp W h (by omega) (by omega) h3 hn hs1 hs2 fun a' m' b' E' W' k1 k2 k3 k4 k5 k6 k7 => sym_all g n c sp hn N a' m' b' E' W' (by omega) k2 k3 k4 k5 k6 k7
theorem sym_any (g n c a m b : Nat) (E : Nat → KeyL) (sp : List Value) (W : World) (h : HI W g n E sp) (h1 : a < m) (h2 : m < b) (h3 : b ≤ n) (hn : n ≤ 100000) (hs1 : Srt kless E a m) (hs2 : Srt kless E m b) :
    Calls Try.prog 68 #[.slice (some ⟨g, 0, none⟩) n c, .int .i64 (a : Nat), .int .i64 (m : Nat), .int .i64 (b : Nat), cmpV] W fun e w' => SymEnd W g n a b E sp e w' :=
  sym_all g n c sp hn (b - a) a m b E W (Nat.le_refl _) h1 h2 h3 h hs1 hs2
def StA (w : World) (g n : Nat) (D : Nat → KeyL) (sp : List Value) (v7 v8 : Value) (wr : World) : Prop := ∃ (a b : Nat) (E : Nat → KeyL), a ≤ n ∧ b ≤ a + 20 ∧ a + 20 ≤ b ∧ v7 = .int .i64 a ∧ v8 = .int .i64 b ∧ RowKit.Hid (Upto kless E 20 a) ∧ RowKit.Hid (Seg 0 n D E) ∧ RowKit.Hid (HI wr g n E sp) ∧ RowKit.Hid (Frm (fun k => k = g) w wr)
def StB (w : World) (g n : Nat) (D : Nat → KeyL) (sp : List Value) (v6 : Value) (wr : World) : Prop := ∃ (s : Nat) (E : Nat → KeyL), 20 ≤ s ∧ s ≤ 400000 ∧ v6 = .int .i64 s ∧ RowKit.Hid (Chunks kless E s n 0) ∧ RowKit.Hid (Seg 0 n D E) ∧ RowKit.Hid (HI wr g n E sp) ∧ RowKit.Hid (Frm (fun k => k = g) w wr)
def StC (w : World) (g n s t : Nat) (D : Nat → KeyL) (sp : List Value) (v7 v8 : Value) (wr : World) : Prop := ∃ (a b : Nat) (E : Nat → KeyL), a ≤ n ∧ b ≤ a + t ∧ a + t ≤ b ∧ v7 = .int .i64 a ∧ v8 = .int .i64 b ∧ RowKit.Hid (Upto kless E t a) ∧ RowKit.Hid (Chunks kless E s n a) ∧ RowKit.Hid (Seg 0 n D E) ∧ RowKit.Hid (HI wr g n E sp) ∧ RowKit.Hid (Frm (fun k => k = g) w wr)
theorem chunk_last {E E' : Nat → KeyL} {a t n : Nat} (h : Upto kless E t a) (ha : a ≤ n) (hn : n ≤ a + t) (ht : 0 < t) (hE : ∀ k, k < a → E' k = E k) (hs : Srt kless E' a n) : Chunks kless E' t n 0 := by
  refine (h.congr hE).all ha ?_ ht
  by_cases e : a < n
  · exact .cons e (by rw [show min (a + t) n = n by omega]; exact hs) (.done hn)
  · exact .done (by omega)
set_option maxRecDepth 100000 in
set_option maxHeartbeats 8000000 in
theorem stable_any (g n c : Nat) (D : Nat → KeyL) (sp : List Value) (w : World) (h : HI w g n D sp) (hn : n ≤ 100000) :
    Calls Try.prog 61 #[.slice (some ⟨g, 0, none⟩) n c, .int .i64 n, cmpV] w fun e w' => SymEnd w g n 0 n D sp e w' := by
  have HH := Lib.hid h
  have HINS := Lib.hid (fun a b D sp w h h1 h2 => insert_any g n c a b D sp w h h1 h2 hn)
  have HSYM := Lib.hid (fun a m b D sp w h h1 h2 h3 h4 h5 => sym_any g n c a m b D sp w h h1 h2 h3 hn h4 h5)
  unfold cmpV at HINS HSYM ⊢
  clear h
  go_enter Try.func61, Try.ntmps61
  go_wp2_with fail
  go_loopw [7, 8] (fun v7 v8 wr => StA w g n D sp v7 v8 wr) (fun v _ _ => n - (intOf v).toNat)
  case atStart => exact ⟨0, 20, D, by omega, by omega, by omega, rfl, rfl, .zero, Seg.refl _ _ _, HH.out, Frm.refl _ _⟩
  case round =>
    clear HH
    obtain ⟨a, b, E, ha, hb1, hb2, rfl, rfl, HUP, HSG, HH, HF⟩ := hrel
    by_cases hlt : b ≤ n
    · have w1 : IntKind.i64.wrap ((b : Int) + 20) = ((b + 20 : Nat) : Int) := by rw [IntWalk.i64_in _ (by omega)]; omega
      go_wp2_with fail
      (with_reducible refine (HINS.out a b E sp _ HH.out (by omega) hlt).mono ?_)
      rintro e w1 ⟨rfl, E1, hh, hf, hsg, hsr⟩
      have HH1 := Lib.hid hh
      have HF1 := Lib.hid (HF.out.trans hf (fun _ h _ => h))
      have HSG1 := Lib.hid (HSG.out.trans (hsg.mono (by omega : 0 ≤ a) hlt))
      have HUP1 := Lib.hid (show Upto kless E1 20 b from by
        have e : b = a + 20 := by omega
        subst e
        exact .snoc (HUP.out.congr fun k hk => hsg.out k (by omega)) hsr)
      clear hh hf hsg hsr
      go_wp2_with fail
      go_roundw
      case rel => exact ⟨b, b + 20, E1, hlt, by omega, by omega, rfl, rfl, HUP1.out, HSG1.out, HH1.out, HF1.out⟩
      case measure => simp [intOf]; omega
    · have hnb : n < b := by omega
      go_wp2_with fail
      (with_reducible refine (HINS.out a n E sp _ HH.out ha (Nat.le_refl n)).mono ?_)
      rintro e w1 ⟨rfl, E1, hh, hf, hsg, hsr⟩
      have HH1 := Lib.hid hh
      have HF1 := Lib.hid (HF.out.trans hf (fun _ h _ => h))
      have HSG1 := Lib.hid (HSG.out.trans (hsg.mono (by omega : 0 ≤ a) (Nat.le_refl n)))
      have HCH := Lib.hid (chunk_last HUP.out ha (by omega) (by omega) (fun k hk => hsg.out k (by omega)) hsr)
      clear hh hf hsg hsr HUP HSG HH HF
      go_wp2_with fail
      go_loopw [6] (fun v6 wq => StB w g n D sp v6 wq) (fun v6 _ => n - (intOf v6).toNat)
      case atStart => exact ⟨20, E1, by omega, by omega, rfl, HCH.out, HSG1.out, HH1.out, HF1.out⟩
      case round =>
        clear HH1 HF1 HSG1 HCH
        obtain ⟨s, G, hs1, hs2, rfl, HCH, HSG, HH, HF⟩ := hrel
        by_cases hsn : s < n
        · obtain ⟨t, ht⟩ : ∃ t, s + s = t := ⟨_, rfl⟩
          have wt : IntKind.i64.wrap (2 * (s : Int)) = (t : Int) := by rw [IntWalk.i64_in _ (by omega)]; omega
          have wt2 : IntKind.i64.wrap ((s : Int) * 2) = (t : Int) := by rw [IntWalk.i64_in _ (by omega)]; omega
          have ht1 : t ≤ s + s := by omega
          have ht2 : s + s ≤ t := by omega
          have HT := Lib.hid ht
          clear ht
          go_wp2_with fail
          go_loopw [7, 8] (fun v7 v8 wz => StC w g n s t D sp v7 v8 wz) (fun v7 _ _ => n - (intOf v7).toNat)
          case atStart => exact ⟨0, t, G, by omega, by omega, by omega, rfl, rfl, .zero, HCH.out, HSG.out, HH.out, HF.out⟩
          case round =>
            clear HH HF HSG HCH
            obtain ⟨a, b, E, ha, hb1, hb2, rfl, rfl, HUP, HCH, HSG, HH, HF⟩ := hrel
            obtain ⟨m, hm⟩ : ∃ m, a + s = m := ⟨_, rfl⟩
            have wm : IntKind.i64.wrap ((a : Int) + (s : Int)) = (m : Int) := by rw [IntWalk.i64_in _ (by omega)]; omega
            have hm1 : m ≤ a + s := by omega
            have hm2 : a + s ≤ m := by omega
            have HM := Lib.hid hm
            clear hm
            by_cases hlt : b ≤ n
            · have h1 := HCH.out.head (by omega)
              have h2 := h1.2.head (by omega)
              have HA := Lib.hid (show Srt kless E a m from h1.1.mono (Nat.le_refl a) (by omega))
              have HB := Lib.hid (show Srt kless E m b from by rw [← HM.out]; exact h2.1.mono (Nat.le_refl _) (by omega))
              have HC2 := Lib.hid (show Chunks kless E s n b from by have := h2.2; rwa [show a + s + s = b by omega] at this)
              obtain ⟨r, hr⟩ : ∃ r, b + t = r := ⟨_, rfl⟩
              have wr1 : IntKind.i64.wrap ((b : Int) + (t : Int)) = (r : Int) := by rw [IntWalk.i64_in _ (by omega)]; omega
              have hr1 : r ≤ b + t := by omega
              have hr2 : b + t ≤ r := by omega
              clear h1 h2 hr
              go_wp2_with fail
              (with_reducible refine (HSYM.out a m b E sp _ HH.out (by omega) (by omega) hlt HA.out HB.out).mono ?_)
              rintro e w3 ⟨rfl, E1, hh, hf, hsg, hsr⟩
              have HH1 := Lib.hid hh
              have HF1 := Lib.hid (HF.out.trans hf (fun _ h _ => h))
              have HSG1 := Lib.hid (HSG.out.trans (hsg.mono (by omega : 0 ≤ a) hlt))
              have HUP1 := Lib.hid (show Upto kless E1 t b from by
                have e : b = a + t := by omega
                subst e
                exact .snoc (HUP.out.congr fun k hk => hsg.out k (by omega)) hsr)
              have HC1 := Lib.hid (HC2.out.congr (Nat.le_refl b) fun k hk => hsg.out k (by omega))
              clear hh hf hsg hsr
              go_wp2_with fail
              go_roundw
              case rel => exact ⟨b, r, E1, hlt, hr1, hr2, rfl, rfl, HUP1.out, HC1.out, HSG1.out, HH1.out, HF1.out⟩
              case measure => simp [intOf]; omega
            · have hnb : n < b := by omega
              have dbn : decide ((b : Int) ≤ (n : Int)) = false := by simp; omega
              have dbn2 : decide (b ≤ n) = false := by simp; omega
              by_cases hmn : m < n
              · have h1 := HCH.out.head (by omega)
                have h2 := h1.2.head (by omega)
                have HA := Lib.hid (show Srt kless E a m from h1.1.mono (Nat.le_refl a) (by omega))
                have HB := Lib.hid (show Srt kless E m n from by rw [← HM.out]; exact h2.1.mono (Nat.le_refl _) (by omega))
                clear h1 h2 hlt
                go_wp2_with fail
                (with_reducible refine (HSYM.out a m n E sp _ HH.out (by omega) hmn (Nat.le_refl n) HA.out HB.out).mono ?_)
                rintro e w3 ⟨rfl, E1, hh, hf, hsg, hsr⟩
                have HH1 := Lib.hid hh
                have HF1 := Lib.hid (HF.out.trans hf (fun _ h _ => h))
                have HSG1 := Lib.hid (HSG.out.trans (hsg.mono (by omega : 0 ≤ a) (Nat.le_refl n)))
                have HC1 := Lib.hid (show Chunks kless E1 t n 0 from chunk_last HUP.out ha (by omega) (by omega) (fun k hk => hsg.out k (by omega)) hsr)
                clear hh hf hsg hsr
                go_wp2_with fail
                go_roundw
                case rel => exact ⟨t, E1, by omega, by omega, rfl, HC1.out, HSG1.out, HH1.out, HF1.out⟩
                case measure => simp [intOf]; omega
              · have dmn : decide ((m : Int) < (n : Int)) = false := by simp; omega
                have dmn2 : decide (m < n) = false := by simp; omega
                have HC1 := Lib.hid (show Chunks kless E t n 0 from by
                  refine chunk_last HUP.out ha (by omega) (by omega) (fun k hk => rfl) ?_
                  by_cases e : a < n
                  · exact (HCH.out.head e).1.mono (Nat.le_refl a) (by omega)
                  · exact Srt.one kless E (by omega))
                clear hlt
                go_wp2_with fail
                go_roundw
                case rel => exact ⟨t, E, by omega, by omega, rfl, HC1.out, HSG.out, HH.out, HF.out⟩
                case measure => simp [intOf]; omega
        · have HSE := Lib.hid (HCH.out.whole (by omega))
          go_wp2_with fail
          go_end0
          exact ⟨rfl, G, HH.out, HF.out, HSG.out, HSE.out⟩
theorem sortStable_any (g n c : Nat) (D : Nat → KeyL) (sp : List Value) (w : World) (h : HI w g n D sp) (hn : n ≤ 100000) :
    Calls Try.prog 52 #[.slice (some ⟨g, 0, none⟩) n c, cmpV] w fun e w' => SymEnd w g n 0 n D sp e w' := by
  have HS := Lib.hid (stable_any g n c D sp w h hn)
  clear h
  unfold cmpV at HS ⊢
  go_enter Try.func52, Try.ntmps52
  go_wp2_with fail
  (with_reducible refine HS.out.mono ?_)
  rintro e w1 ⟨rfl, E, hh, hf, hsg, hsr⟩
  have HH1 := Lib.hid (show SymEnd w g n 0 n D sp (.returned (.tuple #[])) w1 from ⟨rfl, E, hh, hf, hsg, hsr⟩)
  clear hh hf hsg hsr
  go_wp2_with fail
  go_end0
  exact HH1.out
end Go.Proofs.Ytjacebnjmhbcbaa
