/- The walk of heap's up. -/
import Derived.Test.YtjdanngkmkgidaaTm2
namespace Go.Proofs.Ytjdanngkmkgidaa
open Go.RowKit
set_option linter.unusedVariables false

/-- a variable at p holds a slice over block g, whose pairs are f -/
def MH (w : World) (p o g n c : Nat) (f : Nat → One) (sp : List Value) : Prop := w.cell? ⟨p, o, none⟩ = some (.slice (some ⟨g, 0, none⟩) n c) ∧ HB w g n f sp ∧ p ≠ g ∧ p < w.heap.size
theorem MH.grown {w w' : World} {p o g n c : Nat} {f f' : Nat → One} {sp sp' : List Value} (h : MH w p o g n c f sp) (hg : w.grownBy w' (some g)) (hb : HB w' g n f' sp') : MH w' p o g n c f' sp' :=
  ⟨by rw [World.cell?_of_block (w := w) (hg.block p h.2.2.2 (fun e => h.2.2.1 (Option.some.inj e)))]; exact h.1, hb, h.2.2.1, Nat.lt_of_lt_of_le h.2.2.2 hg.size⟩
theorem MH.below {w w' : World} {p o g n c : Nat} {f : Nat → One} {sp : List Value} (h : MH w p o g n c f sp) (hb : Below w.heap.size w w') : MH w' p o g n c f sp :=
  ⟨(hb.cell (p := ⟨p, o, none⟩) h.2.2.2).trans h.1, h.2.1.below hb h.2.1.lt, h.2.2.1, Nat.lt_of_lt_of_le h.2.2.2 hb.size⟩
theorem grown_below {w w' : World} (h : Below w.heap.size w w') (row : Option Nat) : w.grownBy w' row := ⟨h.os, h.tape, h.output, h.size, fun k hk _ => h.block k hk⟩
def UpR (w : World) (p o g n c : Nat) (sp : List Value) (r : Nat → One) (v1 : Value) (wr : World) : Prop := ∃ (j q : Nat) (f : Nat → One), j < n ∧ j ≤ q ∧ v1 = .int .i64 j ∧ RowKit.Hid (upF q f j = r) ∧ RowKit.Hid (MH wr p o g n c f sp) ∧ RowKit.Hid (w.grownBy wr (some g))
set_option maxRecDepth 100000 in
set_option maxHeartbeats 2000000 in
theorem up_any (p o g n c j : Nat) (f : Nat → One) (sp : List Value) (w : World) (h : MH w p o g n c f sp) (hj : j < n) (hn : n ≤ 1000) :
    Calls Try.prog 55 #[.iface 83 (.pointer (some ⟨p, o, none⟩)), .int .i64 j] w fun e w' => e = .returned (.tuple #[]) ∧ MH w' p o g n c (upF j f j) sp ∧ w.grownBy w' (some g) := by
  have HM := Lib.hid h
  clear h
  obtain ⟨r, hr⟩ : ∃ r, upF j f j = r := ⟨_, rfl⟩
  rw [hr]
  have HR := Lib.hid hr
  clear hr
  go_enter Try.func55, Try.ntmps55
  go_wp2_with fail
  go_loopw [1] (fun v1 wr => UpR w p o g n c sp r v1 wr) (fun v1 _ => (intOf v1).toNat)
  case atStart => exact ⟨j, j, f, hj, Nat.le_refl _, rfl, HR.out, HM.out, World.grownBy.refl _ _⟩
  case round =>
    clear HM HR hj
    obtain ⟨j, q, f, hj, hq, rfl, HR, HM, HG⟩ := hrel
    by_cases h0 : j = 0
    · subst h0
      have hr : r = f := by rw [← HR.out]; cases q <;> simp [upF]
      subst hr
      clear HR
      go_wp2_with fail
      go_end0
      exact ⟨rfl, HM.out, HG.out⟩
    · have hml := m_less HM.out.1
      obtain ⟨i, hi⟩ : ∃ i, (j - 1) / 2 = i := ⟨_, rfl⟩
      have hij : i < j := by omega
      have hdiv : ((j : Int) - 1) / 2 = (i : Int) := by omega
      have dne : ((i : Int) == (j : Int)) = false := by rw [beq_eq_false_iff_ne]; omega
      have hup : ∀ q', q = q' + 1 → upF q f j = if ltO (f j) (f i) = false then f else upF q' (swapF f i j) i := by
        intro q' e; subst e; rw [upF, hi]; simp [show i ≠ j by omega]
      have HU := Lib.hid (hup (q - 1) (by omega))
      clear hup hi
      go_wp2_with fail
      refine (mless_any g n c j i f sp _ HM.out.2.1 hj (by omega) hn).mono ?_
      rintro e w1 ⟨rfl, hb⟩
      have HM1 := Lib.hid (HM.out.below hb)
      have HG1 := Lib.hid (grownBy_trans HG.out (grown_below hb (some g)))
      clear hb HM HG hml
      cases hl : ltO (f j) (f i) with
      | false =>
        have hr : r = f := by rw [← HR.out, HU.out, hl]; rfl
        subst hr
        clear HR HU hl
        go_wp2_with fail
        go_end0
        exact ⟨rfl, HM1.out, HG1.out⟩
      | true =>
        have HR2 : RowKit.Hid (upF (q - 1) (swapF f i j) i = r) := by rw [← HR.out, HU.out, hl]; rfl
        have hms := m_swap HM1.out.1
        clear HR HU hl
        go_wp2_with fail
        refine (mswap_any g n c i j f sp _ HM1.out.2.1 (by omega) hj hn (by omega)).mono ?_
        rintro e w2 ⟨rfl, hb, hg⟩
        have HM2 := Lib.hid (HM1.out.grown hg hb)
        have HG2 := Lib.hid (grownBy_trans HG1.out hg)
        clear hb hg HM1 HG1 hms
        go_wp2_with fail
        go_roundw
        case rel => exact ⟨i, q - 1, swapF f i j, by omega, by omega, rfl, HR2.out, HM2.out, HG2.out⟩
        case measure => simp [intOf]; omega
end Go.Proofs.Ytjdanngkmkgidaa
