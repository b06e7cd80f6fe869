/- The walks of New, find, Len. -/
import Derived.Test.YtjdanngkmkgidaaTm9
namespace Go.Proofs.Ytjdanngkmkgidaa
open Go.RowKit
set_option linter.unusedVariables false

theorem fnd1_any (b : Nat) (id : Int) (x : One) (w : World) (h : w.cell? ⟨b, 0, none⟩ = some (.int .i64 id)) : Calls Try.prog 53 #[.agg #[.int .i64 x.1, .int .i64 x.2], .pointer (some ⟨b, 0, none⟩)] w fun e w' => e = .returned (.bool (decide (x.2 = id))) ∧ Below w.heap.size w w' := by
  have hl := cell?_lt h
  have h' : (w.alloc (.cells #[.int .i64 x.1, .int .i64 x.2] 81)).cell? ⟨b, 0, none⟩ = some (.int .i64 id) := by rw [World.cell?_alloc_lt _ _ _ (by exact hl)]; exact h
  go_enter Try.func53, Try.ntmps53
  go_wp2_with fail
  go_ret
  exact ⟨by congr 2, (Below.refl _ _).alloc (Nat.le_refl _) _⟩
/-- the place of a number; -1: it is not there -/
def fndI (f : Nat → One) (n : Nat) (id : Int) : Int := match (List.range n).find? (fun k => decide ((f k).2 = id)) with
  | some k => k
  | none => -1
theorem fndI_at (f : Nat → One) (n k : Nat) (id : Int) (hk : k < n) (h : (f k).2 = id) (hj : ∀ j, j < k → (f j).2 ≠ id) : fndI f n id = k := by
  unfold fndI
  have : (List.range n).find? (fun k => decide ((f k).2 = id)) = some k := by
    rw [List.find?_range_eq_some]
    exact ⟨by simpa using h, by simpa using hk, fun j h1 => by simpa using hj j h1⟩
  rw [this]
theorem fndI_no (f : Nat → One) (n : Nat) (id : Int) (hj : ∀ j, j < n → (f j).2 ≠ id) : fndI f n id = -1 := by
  unfold fndI
  have : (List.range n).find? (fun k => decide ((f k).2 = id)) = none := by
    rw [List.find?_range_eq_none]
    intro j h1
    simpa using hj j h1
  rw [this]
theorem fndI_cases (f : Nat → One) (n : Nat) (id : Int) : (fndI f n id = -1 ∧ ∀ j, j < n → (f j).2 ≠ id) ∨ (∃ k, fndI f n id = (k : Nat) ∧ k < n ∧ (f k).2 = id) := by
  cases hf : (List.range n).find? (fun k => decide ((f k).2 = id)) with
  | none =>
    rw [List.find?_range_eq_none] at hf
    have h1 : ∀ j, j < n → (f j).2 ≠ id := fun j hj => by simpa using hf j hj
    exact .inl ⟨fndI_no f n id h1, h1⟩
  | some k =>
    rw [List.find?_range_eq_some] at hf
    have h1 : (f k).2 = id := by simpa using hf.1
    have h2 : k < n := by simpa using hf.2.1
    exact .inr ⟨k, fndI_at f n k id h2 h1 (fun j hj => by simpa using hf.2.2 j hj), h2, h1⟩
def Prs (w : World) (ao : Option Addr) (n : Nat) (f : Nat → One) : Prop := ∀ k, k < n → ∃ g, ao = some ⟨g, 0, none⟩ ∧ g < w.heap.size ∧ w.cell? ⟨g, k * 2, none⟩ = some (.int .i64 (f k).1) ∧ w.cell? ⟨g, k * 2 + 1, none⟩ = some (.int .i64 (f k).2)
theorem Prs.below {w w' : World} {ao : Option Addr} {n : Nat} {f : Nat → One} (h : Prs w ao n f) (hb : Below w.heap.size w w') : Prs w' ao n f := fun k hk => by
  obtain ⟨g, e, hg, h0, h1⟩ := h k hk
  exact ⟨g, e, Nat.lt_of_lt_of_le hg hb.size, (hb.cell (p := ⟨g, k * 2, none⟩) hg).trans h0, (hb.cell (p := ⟨g, k * 2 + 1, none⟩) hg).trans h1⟩
theorem VO.prs {w : World} {p o : Nat} {T : TypeId} {cs : List Value} {ao : Option Addr} {n c : Nat} {f : Nat → One} (h : VO w p o T cs ao n c f) : Prs w ao n f := fun k hk => by
  obtain ⟨g, sp, e, hb, _, _, _, _⟩ := h.open_ (by omega)
  exact ⟨g, e, Blk.lt hb, hb.c0 hk, hb.c1 hk⟩
def IxR (w : World) (n : Nat) (f : Nat → One) (id : Int) (v : Value) (wr : World) : Prop := ∃ k : Nat, k ≤ n ∧ v = .int .i64 k ∧ RowKit.Hid (∀ j, j < k → (f j).2 ≠ id) ∧ RowKit.Hid (Below w.heap.size w wr)
set_option maxRecDepth 100000 in
set_option maxHeartbeats 2000000 in
theorem ixf_any (ao : Option Addr) (n c b : Nat) (f : Nat → One) (id : Int) (w : World) (h : Prs w ao n f) (hb : w.cell? ⟨b, 0, none⟩ = some (.int .i64 id)) (hn : n ≤ 1000) :
    Calls Try.prog 52 #[.slice ao n c, .func (Fn.func 53) #[] #[.pointer (some ⟨b, 0, none⟩)]] w fun e w' => e = .returned (.int .i64 (fndI f n id)) ∧ Below w.heap.size w w' := by
  have HP := Lib.hid h
  have HC := Lib.hid hb
  clear h hb
  obtain ⟨R, hR⟩ : ∃ R, fndI f n id = R := ⟨_, rfl⟩
  rw [hR]
  have HR := Lib.hid hR
  clear hR
  go_enter Try.func52, Try.ntmps52
  go_wp2_with fail
  go_loopw [8] (fun v wr => IxR w n f id v wr) (fun v _ => n - (intOf v).toNat)
  case atStart => exact ⟨0, Nat.zero_le _, rfl, (fun j hj => by omega), Below.refl _ _⟩
  case round =>
    obtain ⟨k, hk, rfl, HJ, HB⟩ := hrel
    by_cases hlt : k < n
    · obtain ⟨g, rfl, hg, h0, h1⟩ := (HP.out.below HB.out) k hlt
      have hlc := cell?_lt HC.out
      have hcb := (HB.out.cell (p := ⟨b, 0, none⟩) hlc).trans HC.out
      have HCB := Lib.hid hcb
      clear hcb
      go_wp2_with fail
      refine (fnd1_any b id (f k) _ HCB.out).mono ?_
      rintro e w2 ⟨rfl, hb2⟩
      have HB2 := Lib.hid (HB.out.trans (hb2.mono HB.out.size))
      clear hb2 h0 h1
      by_cases hx : (f k).2 = id
      · have d1 : decide ((f k).2 = id) = true := by simpa using hx
        have hr : R = (k : Int) := by rw [← HR.out]; exact fndI_at f n k id hlt hx HJ.out
        have HX := Lib.hid hx
        clear hx HR
        subst hr
        go_wp2_with fail
        go_ret
        exact ⟨rfl, HB2.out⟩
      · have d1 : decide ((f k).2 = id) = false := by simpa using hx
        have HX := Lib.hid hx
        clear hx
        go_wp2_with fail
        go_roundw
        case rel => exact ⟨k + 1, by omega, by go_num, (fun j hj => by
          rcases (by omega : j < k ∨ j = k) with h | h
          · exact HJ.out j h
          · subst h; exact HX.out), HB2.out⟩
        case measure => simp [intOf]; omega
    · have hkn : k = n := by omega
      subst hkn
      have hr : R = -1 := by rw [← HR.out]; exact fndI_no f k id HJ.out
      clear HR hlt
      subst hr
      go_wp2_with fail
      go_ret
      exact ⟨rfl, HB.out⟩
set_option maxRecDepth 100000 in
theorem find_any (p : Nat) (id : Int) (w : World) (most : Int) (ao : Option Addr) (n c : Nat) (f : Nat → One) (h : VO w p 1 78 [.int .i64 most, .slice ao n c] ao n c f) (hn : n ≤ 1000) :
   Calls Try.prog 36 #[.pointer (some ⟨p, 0, none⟩), .int .i64 id] w fun e w' => e = .returned (.int .i64 (fndI f n id)) ∧ Below w.heap.size w w' := by
  have c1 := h.cell
  have hl := cell?_lt c1
  have c2 : (w.alloc (.cells #[.int .i64 id] 3)).cell? ⟨p, 1, none⟩ = some (.slice ao n c) := by rw [World.cell?_alloc_lt _ _ _ (by exact hl)]; exact c1
  have HP : RowKit.Hid (Prs (w.alloc (.cells #[.int .i64 id] 3)) ao n f) := h.prs.below ((Below.refl _ _).alloc (Nat.le_refl _) _)
  have HC : RowKit.Hid ((w.alloc (.cells #[.int .i64 id] 3)).cell? ⟨w.heap.size, 0, none⟩ = some (.int .i64 id)) := by unfold RowKit.Hid; rw [cell_of_row _ _ _ _ _ _ (heap_alloc_new w _)]; rfl
  clear h
  go_enter Try.func36, Try.ntmps36
  go_wp2_with fail
  refine (ixf_any ao n c w.heap.size f id _ HP.out HC.out hn).mono ?_
  rintro e w2 ⟨rfl, hb2⟩
  have HB2 := Lib.hid (((Below.refl _ w).alloc (Nat.le_refl _) _).trans (hb2.mono (by simp)))
  clear hb2
  go_wp2_with fail
  go_ret
  exact ⟨rfl, HB2.out⟩
theorem find_nil (id : Int) (w : World) : Calls Try.prog 36 #[.pointer none, .int .i64 id] w fun e w' => e = .returned (.int .i64 (-1)) ∧ Below w.heap.size w w' := by
  go_enter Try.func36, Try.ntmps36
  go_wp2_with fail
  go_ret
  exact ⟨rfl, (Below.refl _ _).alloc (Nat.le_refl _) _⟩
theorem tlen_any (p : Nat) (w : World) (most : Int) (ao : Option Addr) (n c : Nat) (f : Nat → One) (h : VO w p 1 78 [.int .i64 most, .slice ao n c] ao n c f) :
   Calls Try.prog 17 #[.pointer (some ⟨p, 0, none⟩)] w fun e w' => e = .returned (.int .i64 n) ∧ w = w' := by
  have c1 := h.cell
  clear h
  go_enter Try.func17, Try.ntmps17
  go_wp2_with fail
  go_ret
  exact ⟨rfl, rfl⟩
theorem tlen_nil (w : World) : Calls Try.prog 17 #[.pointer none] w fun e w' => e = .returned (.int .i64 0) ∧ w = w' := by
  go_enter Try.func17, Try.ntmps17
  go_wp2_with fail
  go_ret
  exact ⟨rfl, rfl⟩
theorem new_any (most : Int) (w : World) (h1 : 1 ≤ most) (h2 : most ≤ 24) :
   Calls Try.prog 12 #[.int .i64 most] w fun e w' => e = .returned (.tuple #[.pointer (some ⟨w.heap.size, 0, none⟩), .int .i64 0]) ∧ w' = w.alloc (.cells #[.int .i64 most, .slice none 0 0] 78) := by
  go_enter Try.func12, Try.ntmps12
  go_wp2_with fail
  go_ret2
  exact ⟨rfl, rfl⟩
theorem new_no (most : Int) (w : World) (h1 : ¬ (1 ≤ most ∧ most ≤ 24)) :
   Calls Try.prog 12 #[.int .i64 most] w fun e w' => e = .returned (.tuple #[.pointer none, .int .i64 2]) ∧ w = w' := by
  by_cases h : most < 1
  · go_enter Try.func12, Try.ntmps12
    go_wp2_with fail
    go_ret2
    exact ⟨rfl, rfl⟩
  · have h' : 24 < most := by omega
    have h3 : 1 ≤ most := by omega
    clear h1 h
    go_enter Try.func12, Try.ntmps12
    go_wp2_with fail
    go_ret2
    exact ⟨rfl, rfl⟩
end Go.Proofs.Ytjdanngkmkgidaa
