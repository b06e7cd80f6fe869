/- insertionSortCmpFunc of items by rank.compare. -/
import Derived.Test.YtjacebnjmhbcbaaSt2
import Derived.Deep.DeepCutAuto
namespace Go.Proofs.Ytjacebnjmhbcbaa
open Go.RowKit
set_option linter.unusedVariables false

def cmpV : Value := .func (Fn.func 38) #[] #[]
theorem cmpK_dec (x y : KeyL) : decide (cmpK x.1 x.2 y.1 y.2 < 0) = kless x y := rfl
def InO (w : World) (g n a b : Nat) (D : Nat → KeyL) (sp : List Value) (v8 : Value) (wr : World) : Prop := ∃ (i : Nat) (E : Nat → KeyL), a + 1 ≤ i ∧ (i ≤ b ∨ i = a + 1) ∧ v8 = .int .i64 i ∧ RowKit.Hid (Srt kless E a i) ∧ RowKit.Hid (Seg a b D E) ∧ RowKit.Hid (HI wr g n E sp) ∧ RowKit.Hid (Frm (fun k => k = g) w wr)
def InJ (w : World) (g n a b i : Nat) (D : Nat → KeyL) (sp : List Value) (v9 : Value) (wr : World) : Prop := ∃ (j : Nat) (E : Nat → KeyL), a ≤ j ∧ j ≤ i ∧ v9 = .int .i64 j ∧ RowKit.Hid (Ins kless E a i j) ∧ RowKit.Hid (Seg a b D E) ∧ RowKit.Hid (HI wr g n E sp) ∧ RowKit.Hid (Frm (fun k => k = g) w wr)
set_option maxRecDepth 100000 in
set_option maxHeartbeats 4000000 in
theorem insert_any (g n c a b : Nat) (D : Nat → KeyL) (sp : List Value) (w : World) (h : HI w g n D sp) (h1 : a ≤ b) (h2 : b ≤ n) (hn : n ≤ 100000) :
    Calls Try.prog 67 #[.slice (some ⟨g, 0, none⟩) n c, .int .i64 a, .int .i64 b, cmpV] w fun e w' => e = .returned (.tuple #[]) ∧ ∃ E, HI w' g n E sp ∧ Frm (fun k => k = g) w w' ∧ Seg a b D E ∧ Srt kless E a b := by
  unfold cmpV
  have HH := Lib.hid h
  clear h
  have w1 : IntKind.i64.wrap ((a : Int) + 1) = ((a + 1 : Nat) : Int) := by rw [IntWalk.i64_in _ (by omega)]; omega
  go_enter Try.func67, Try.ntmps67
  go_wp2_with fail
  clear w1
  go_loopw [8] (fun v8 wr => InO w g n a b D sp v8 wr) (fun v _ => b - (intOf v).toNat)
  case atStart => exact ⟨a + 1, D, by omega, .inr rfl, rfl, Srt.one kless D (Nat.le_refl _), Seg.refl _ _ _, HH.out, Frm.refl _ _⟩
  case round =>
    clear HH
    obtain ⟨i, E, hi1, hi2, rfl, HSR, HSG, HH, HF⟩ := hrel
    by_cases hlt : i < b
    · have hJ0 := Lib.hid (show Ins kless E a i i from Ins.start HSR.out)
      go_wp2_with fail
      go_loopw [9] (fun v9 wq => InJ w g n a b i D sp v9 wq) (fun v _ => (intOf v).toNat)
      case atStart => exact ⟨i, E, by omega, by omega, rfl, hJ0.out, HSG.out, HH.out, HF.out⟩
      case round =>
        clear HSR HSG HH HF hJ0
        obtain ⟨j, G, hj1, hj2, rfl, HI1, HSG, HH, HF⟩ := hrel
        by_cases hja : a < j
        · obtain ⟨p, hp⟩ : ∃ p, j - 1 = p := ⟨_, rfl⟩
          have wp : IntKind.i64.wrap ((j : Int) - 1) = (p : Int) := by rw [IntWalk.i64_in _ (by omega)]; omega
          have x0 := HH.out.c0 (k := j) (by omega)
          have x1 := HH.out.c1 (k := j) (by omega)
          have y0 := HH.out.c0 (k := p) (by omega)
          have y1 := HH.out.c1 (k := p) (by omega)
          have HX := Lib.hid (fun W (h : HI W g n G sp) => h.swap (i := j) (j := p) (by omega) (by omega) (by omega))
          have hkl := cmpK_dec (G j) (G p)
          have HN := Lib.hid (fun hl : kless (G j) (G p) = true => HI1.out.next kless_ord hja hj2 (by rw [hp]; exact hl))
          have HD := Lib.hid (fun hl : kless (G j) (G p) = false => HI1.out.done kless_ord hj1 hj2 (.inr (by rw [hp]; exact hl)))
          have HS2 := Lib.hid (show Seg a b D (swF G j p) from HSG.out.trans (Seg.swap G (by omega) (by omega) (by omega) (by omega)))
          have fz : ∀ k, wr.frozen? ⟨g, k, none⟩ = false := fun k => Blk.frozen HH.out k
          have hgl := Blk.lt HH.out
          rw [hp] at HN
          generalize G j = x at *
          generalize G p = y at *
          have n1 : j * 2 ≠ p * 2 := by omega
          have n2 : j * 2 + 1 ≠ p * 2 + 1 := by omega
          have n3 : j * 2 ≠ p * 2 + 1 := by omega
          have n4 : j * 2 + 1 ≠ p * 2 := by omega
          have b1 : p < n := by omega
          have b2 : j < n := by omega
          have b3 : (0 : Int) ≤ (p : Int) := by omega
          have b4 : (0 : Int) ≤ (j : Int) := by omega
          have b5 : (p : Int) < (n : Int) := by omega
          have b6 : (j : Int) < (n : Int) := by omega
          have da : decide ((a : Int) < (j : Int)) = true := by simp; omega
          have da2 : decide (a < j) = true := by simpa using hja
          have hpa : a ≤ p := by omega
          have hpi : p ≤ i := by omega
          have hpj : p < j := by omega
          clear hp
          go_upto_region 4 with fail
          go_region_held3 (fun w' => w'.cell? ⟨g, j * 2, none⟩ = some (.int .i64 x.1) ∧ w'.cell? ⟨g, j * 2 + 1, none⟩ = some (.string x.2) ∧ w'.cell? ⟨g, p * 2, none⟩ = some (.int .i64 y.1) ∧ w'.cell? ⟨g, p * 2 + 1, none⟩ = some (.string y.2)) (first | go_keep | exact ⟨(HB.out.cell (p := ⟨g, j * 2, none⟩) hgl).trans x0, (HB.out.cell (p := ⟨g, j * 2 + 1, none⟩) hgl).trans x1, (HB.out.cell (p := ⟨g, p * 2, none⟩) hgl).trans y0, (HB.out.cell (p := ⟨g, p * 2 + 1, none⟩) hgl).trans y1⟩) ((go_at_call 38; refine (itcmp_any x.1 x.2 y.1 y.2 _).mono ?_; rintro e u ⟨rfl, hb⟩; have HB := Lib.hid hb; clear hb))
          have HIu := Lib.hid ((show HI wr.drew g n G sp from HH.out).below HB.out)
          have HFu := Lib.hid (HF.out.drew.trans (Frm.below (S := fun k => k = g) HB.out) (fun _ h _ => h))
          clear fz x0 x1 y0 y1 HH HF HB
          cases hk : kless x y
          · have HK := Lib.hid hk
            rw [hk] at hkl
            clear hk
            go_wp2_with fail
            go_roundw
            case rel => exact ⟨i + 1, G, by omega, .inl (by omega), by go_num, HD.out HK.out, HSG.out, HIu.out, HFu.out⟩
            case measure => simp [intOf]; omega
          · have HK := Lib.hid hk
            rw [hk] at hkl
            clear hk
            have fz : ∀ k, u.frozen? ⟨g, k, none⟩ = false := fun k => Blk.frozen HIu.out k
            have HX2 := Lib.hid (HX.out u HIu.out)
            have HF2 := Lib.hid (HFu.out.trans (swW_frm u g j p x y) (fun _ h _ => h))
            clear HIu HFu HX
            go_wp2_with fail
            go_region
            all_goals
              go_wp2_with fail
              clear wp
              go_roundw
              case rel => exact ⟨p, swF G j p, by omega, by omega, rfl, HN.out HK.out, HS2.out, HX2.out, HF2.out.drew⟩
              case measure => simp [intOf]; omega
        · obtain rfl : j = a := by omega
          have HD := Lib.hid (HI1.out.done kless_ord hj1 hj2 (.inl rfl))
          have da : decide ((j : Int) < (j : Int)) = false := by simp
          go_upto_region 4 with fail
          go_quiet (fail)
          have HI2 := Lib.hid (show HI (wr.drewN nq) g n G sp from HH.out)
          go_wp2_with fail
          go_roundw
          case rel => exact ⟨i + 1, G, by omega, .inl (by omega), by go_num, HD.out, HSG.out, HI2.out, HF.out.drewN nq⟩
          case measure => simp [intOf]; omega
    · have hib : b ≤ i := by omega
      have HSE := Lib.hid (HSR.out.mono (Nat.le_refl a) hib)
      go_wp2_with fail
      go_end0
      exact ⟨rfl, E, HH.out, HF.out, HSG.out, HSE.out⟩
end Go.Proofs.Ytjacebnjmhbcbaa
