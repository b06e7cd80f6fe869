/- Items in a block by a function of their places; swapRange. -/
import Derived.Test.YtjacebnjmhbcbaaSt0
import Derived.Test.YtjacebnjmhbcbaaRank1
import Derived.Test.YtjacebnjmhbcbaaFrm
import Derived.BigRegion
import Derived.Deep.RegionHeld3
namespace Go.Proofs.Ytjacebnjmhbcbaa
open Go.RowKit
set_option linter.unusedVariables false

/-- block g holds the items D 0, .., D (n - 1), behind them what there is -/
def HI (w : World) (g n : Nat) (D : Nat → KeyL) (sp : List Value) : Prop := Blk w g 31 ((List.range n).flatMap (fun k => KeyL.cells (D k)) ++ sp)
theorem HI.c0 {w : World} {g n : Nat} {f : Nat → KeyL} {sp : List Value} (h : HI w g n f sp) {k : Nat} (hk : k < n) : w.cell? ⟨g, k * 2, none⟩ = some (.int .i64 (f k).1) := by
  unfold HI at h
  rw [h.cell, List.getElem?_append_left (by rw [flatMap_len _ 2 (fun _ => rfl), List.length_range]; omega)]
  have := flatMap_get (fun k => KeyL.cells (f k)) 2 (fun _ => rfl) (List.range n) k 0 (by omega)
  rw [Nat.add_zero] at this
  rw [this, List.getElem?_range hk]; rfl
theorem HI.c1 {w : World} {g n : Nat} {f : Nat → KeyL} {sp : List Value} (h : HI w g n f sp) {k : Nat} (hk : k < n) : w.cell? ⟨g, k * 2 + 1, none⟩ = some (.string (f k).2) := by
  unfold HI at h
  rw [h.cell, List.getElem?_append_left (by rw [flatMap_len _ 2 (fun _ => rfl), List.length_range]; omega)]
  rw [flatMap_get (fun k => KeyL.cells (f k)) 2 (fun _ => rfl) (List.range n) k 1 (by omega), List.getElem?_range hk]; rfl
theorem HI.frm {w w' : World} {g n : Nat} {f : Nat → KeyL} {sp : List Value} (h : HI w g n f sp) {S : Nat → Prop} (hf : Frm S w w') (hg : ¬ S g) : HI w' g n f sp := Blk.frm h hf hg
theorem HI.below {w w' : World} {g n : Nat} {f : Nat → KeyL} {sp : List Value} (h : HI w g n f sp) (hb : Below w.heap.size w w') : HI w' g n f sp := Blk.below h hb (Blk.lt h)
theorem swI_flat (n i j : Nat) (f : Nat → KeyL) (hi : i < n) (hj : j < n) (hij : i ≠ j) (sp : List Value) :
    ((((((List.range n).flatMap (fun k => KeyL.cells (f k)) ++ sp).set (i * 2) (.int .i64 (f j).1)).set (i * 2 + 1) (.string (f j).2)).set (j * 2) (.int .i64 (f i).1)).set (j * 2 + 1) (.string (f i).2)) = (List.range n).flatMap (fun k => KeyL.cells (swF f i j k)) ++ sp := by
  have hlen : ∀ h : Nat → KeyL, ((List.range n).flatMap (fun k => KeyL.cells (h k))).length = n * 2 := fun h => by rw [flatMap_len _ 2 (fun _ => rfl), List.length_range]
  apply List.ext_getElem?
  intro q
  by_cases hq : q < n * 2
  · have hr : q % 2 < 2 := Nat.mod_lt _ (by omega)
    have hk : q / 2 < n := by omega
    have hget : ∀ h : Nat → KeyL, ((List.range n).flatMap (fun k => KeyL.cells (h k)) ++ sp)[q]? = (KeyL.cells (h (q / 2)))[q % 2]? := by
      intro h
      rw [List.getElem?_append_left (by rw [hlen]; exact hq)]
      have := flatMap_get (fun k => KeyL.cells (h k)) 2 (fun _ => rfl) (List.range n) (q / 2) (q % 2) hr
      rw [show q / 2 * 2 + q % 2 = q from by omega, List.getElem?_range hk] at this
      exact this
    rw [hget (swF f i j)]
    simp only [List.getElem?_set, List.length_set, List.length_append, hlen]
    by_cases e1 : q = j * 2 + 1
    · rw [if_pos e1.symm, if_pos (by omega), show q / 2 = j from by omega, show q % 2 = 1 from by omega, swF_j]; rfl
    · rw [if_neg (fun e => e1 e.symm)]
      by_cases e2 : q = j * 2
      · rw [if_pos e2.symm, if_pos (by omega), show q / 2 = j from by omega, show q % 2 = 0 from by omega, swF_j]; rfl
      · rw [if_neg (fun e => e2 e.symm)]
        by_cases e3 : q = i * 2 + 1
        · rw [if_pos e3.symm, if_pos (by omega), show q / 2 = i from by omega, show q % 2 = 1 from by omega, swF_i]; rfl
        · rw [if_neg (fun e => e3 e.symm)]
          by_cases e4 : q = i * 2
          · rw [if_pos e4.symm, if_pos (by omega), show q / 2 = i from by omega, show q % 2 = 0 from by omega, swF_i]; rfl
          · rw [if_neg (fun e => e4 e.symm), hget f, swF_o _ _ _ _ (by omega) (by omega)]
  · simp only [List.getElem?_set]
    rw [if_neg (by omega), if_neg (by omega), if_neg (by omega), if_neg (by omega), List.getElem?_append_right (by rw [hlen]; omega), List.getElem?_append_right (by rw [hlen]; omega), hlen, hlen]
/-- the world behind two items are swapped -/
def swW (w : World) (g i j : Nat) (x y : KeyL) : World := (((w.setCell ⟨g, i * 2, none⟩ (.int .i64 y.1)).setCell ⟨g, i * 2 + 1, none⟩ (.string y.2)).setCell ⟨g, j * 2, none⟩ (.int .i64 x.1)).setCell ⟨g, j * 2 + 1, none⟩ (.string x.2)
theorem HI.swap {w : World} {g n : Nat} {f : Nat → KeyL} {sp : List Value} (h : HI w g n f sp) {i j : Nat} (hi : i < n) (hj : j < n) (hij : i ≠ j) : HI (swW w g i j (f i) (f j)) g n (swF f i j) sp := by
  have := (((Blk.set h (i * 2) (.int .i64 (f j).1)).set (i * 2 + 1) (.string (f j).2)).set (j * 2) (.int .i64 (f i).1)).set (j * 2 + 1) (.string (f i).2)
  rw [swI_flat n i j f hi hj hij sp] at this
  exact this
theorem swW_frm (w : World) (g i j : Nat) (x y : KeyL) : Frm (fun k => k = g) w (swW w g i j x y) :=
  ((((Frm.refl (fun k => k = g) w).setCell _ _ (.inl rfl)).setCell _ _ (.inl rfl)).setCell _ _ (.inl rfl)).setCell _ _ (.inl rfl)
theorem HI.drew {w : World} {g n : Nat} {f : Nat → KeyL} {sp : List Value} (h : HI w g n f sp) : HI w.drew g n f sp := h
def SrR (w : World) (g n a b N : Nat) (D : Nat → KeyL) (sp : List Value) (v : Value) (wr : World) : Prop := ∃ i : Nat, i ≤ N ∧ v = .int .i64 i ∧ RowKit.Hid (HI wr g n (swR D a b i) sp) ∧ RowKit.Hid (Frm (fun k => k = g) w wr)
set_option maxRecDepth 100000 in
set_option maxHeartbeats 4000000 in
theorem swapRange_any (g n c a b N : Nat) (D : Nat → KeyL) (sp : List Value) (w : World) (v : Value) (h : HI w g n D sp) (h1 : a + N ≤ b) (h2 : b + N ≤ n) (hn : n ≤ 100000) :
    Calls Try.prog 72 #[.slice (some ⟨g, 0, none⟩) n c, .int .i64 a, .int .i64 b, .int .i64 N, v] w fun e w' => e = .returned (.tuple #[]) ∧ HI w' g n (swR D a b N) sp ∧ Frm (fun k => k = g) w w' := by
  have HH := Lib.hid h
  clear h
  go_enter Try.func72, Try.ntmps72
  go_wp2_with fail
  go_loopw [10] (fun v wr => SrR w g n a b N D sp v wr) (fun v _ => N - (intOf v).toNat)
  case atStart => exact ⟨0, by omega, rfl, by unfold RowKit.Hid; rw [swR_zero]; exact HH.out, Frm.refl _ _⟩
  case round =>
    clear HH
    obtain ⟨i, hi, rfl, HH, HF⟩ := hrel
    by_cases hlt : i < N
    · obtain ⟨p, hp⟩ : ∃ p, a + i = p := ⟨_, rfl⟩
      obtain ⟨q, hq⟩ : ∃ q, b + i = q := ⟨_, rfl⟩
      have HS := Lib.hid (show swF (swR D a b i) p q = swR D a b (i + 1) from by rw [← hp, ← hq]; exact swR_succ D a b i N h1 hlt)
      generalize swR D a b i = E at *
      have HX := Lib.hid (show HI (swW wr g p q (E p) (E q)) g n (swR D a b (i + 1)) sp from by rw [← HS.out]; exact HH.out.swap (by omega) (by omega) (by omega))
      have HF2 := Lib.hid (HF.out.trans (swW_frm wr g p q (E p) (E q)) (fun _ h _ => h))
      have x0 := HH.out.c0 (k := p) (by omega)
      have x1 := HH.out.c1 (k := p) (by omega)
      have y0 := HH.out.c0 (k := q) (by omega)
      have y1 := HH.out.c1 (k := q) (by omega)
      have fz : ∀ k, wr.frozen? ⟨g, k, none⟩ = false := fun k => Blk.frozen HH.out k
      generalize E p = x at *
      generalize E q = y at *
      clear HS HH HF
      have n1 : p * 2 ≠ q * 2 := by omega
      have n2 : p * 2 + 1 ≠ q * 2 + 1 := by omega
      have n3 : p * 2 ≠ q * 2 + 1 := by omega
      have n4 : p * 2 + 1 ≠ q * 2 := by omega
      have w1 : IntKind.i64.wrap ((a : Int) + (i : Int)) = (p : Int) := by rw [IntWalk.i64_in _ (by omega)]; omega
      have w2 : IntKind.i64.wrap ((b : Int) + (i : Int)) = (q : Int) := by rw [IntWalk.i64_in _ (by omega)]; omega
      have b1 : p < n := by omega
      have b2 : q < n := by omega
      have b3 : (0 : Int) ≤ (p : Int) := by omega
      have b4 : (0 : Int) ≤ (q : Int) := by omega
      have b5 : (p : Int) < (n : Int) := by omega
      have b6 : (q : Int) < (n : Int) := by omega
      clear hp hq
      go_wp2_with fail
      go_region
      all_goals
        go_wp2_with fail
        clear w1 w2
        go_roundw
        case rel => exact ⟨i + 1, by omega, by go_num, HX.out, HF2.out.drew⟩
        case measure => simp [intOf]; omega
    · obtain rfl : i = N := by omega
      go_wp2_with fail
      go_end0
      exact ⟨rfl, HH.out, HF.out⟩
end Go.Proofs.Ytjacebnjmhbcbaa
