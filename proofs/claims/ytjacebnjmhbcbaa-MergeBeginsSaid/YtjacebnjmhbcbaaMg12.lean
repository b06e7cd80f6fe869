/- SameInts, OverInts, Num. -/
import Derived.Test.YtjacebnjmhbcbaaMg11
namespace Go.Proofs.Ytjacebnjmhbcbaa
open Go.RowKit
set_option linter.unusedVariables false

theorem num_any (x : Int) (w : World) : Calls Try.prog 20 #[.int .i64 x] w fun e w' => e = .returned (.int .i64 x) ∧ w = w' := by
  go_enter Try.func20, Try.ntmps20
  go_wp2
  go_ret
  exact ⟨rfl, rfl⟩
def sameB (l k : List Int) : Bool := decide (l = k)
set_option maxRecDepth 100000 in
set_option maxHeartbeats 1000000 in
theorem same_any (a b : Option Addr) (n m c d : Nat) (l k : List Int) (w : World) (ha : Rd w a n c (ints l)) (hb : Rd w b m d (ints k)) (hn : n ≤ 1000) (hm : m ≤ 1000) :
    Calls Try.prog 16 #[.slice a n c, .slice b m d] w fun e w' => e = .returned (.bool (sameB l k)) ∧ Drew w w' := by
  have hl : l.length = n := by rw [← ha.1, ints_len]
  have hk : k.length = m := by rw [← hb.1, ints_len]
  have HA := Lib.hid ha
  have HB := Lib.hid hb
  clear ha hb
  by_cases hnm : n = m
  · subst hnm
    have HL := Lib.hid hl
    have HK := Lib.hid hk
    clear hl hk
    obtain ⟨R, hR⟩ : ∃ R, sameB l k = R := ⟨_, rfl⟩
    rw [hR]
    have HR := Lib.hid hR
    clear hR
    go_enter Try.func16, Try.ntmps16
    go_wp2_with fail
    go_loopw [5] (fun v wr => ∃ i : Nat, i ≤ n ∧ v = .int .i64 i ∧ RowKit.Hid (l.take i = k.take i) ∧ Drew w wr) (fun v _ => n - (intOf v).toNat)
    case atStart => exact ⟨0, Nat.zero_le _, rfl, rfl, Drew.refl _⟩
    case round =>
      obtain ⟨i, hi, rfl, HT, nq0, rfl⟩ := hrel
      by_cases hlt : i < n
      · have hx1 : l[i]? = some (l[i]'(by rw [HL.out]; exact hlt)) := List.getElem?_eq_getElem _
        have hx2 : k[i]? = some (k[i]'(by rw [HK.out]; exact hlt)) := List.getElem?_eq_getElem _
        obtain ⟨x, hx⟩ : ∃ x, l[i]'(by rw [HL.out]; exact hlt) = x := ⟨_, rfl⟩
        obtain ⟨y, hy⟩ : ∃ y, k[i]'(by rw [HK.out]; exact hlt) = y := ⟨_, rfl⟩
        rw [hx] at hx1
        rw [hy] at hx2
        clear hx hy
        obtain ⟨b1, o1, rfl, hb1, hc1⟩ := HA.out.2.2.2.2 i hlt
        obtain ⟨b2, o2, rfl, hb2, hc2⟩ := HB.out.2.2.2.2 i hlt
        have hc1' : w.cell? ⟨b1, o1 + i, none⟩ = some (.int .i64 x) := by rw [hc1]; simp [ints, hx1]
        have hc2' : w.cell? ⟨b2, o2 + i, none⟩ = some (.int .i64 y) := by rw [hc2]; simp [ints, hx2]
        have HX1 := Lib.hid hx1
        have HX2 := Lib.hid hx2
        clear hc1 hc2 hx1 hx2
        by_cases hxy : x = y
        · subst hxy
          have HT2 : RowKit.Hid (l.take (i + 1) = k.take (i + 1)) := by
            unfold RowKit.Hid
            rw [List.take_add_one, List.take_add_one, HT.out, HX1.out, HX2.out]
          clear HT
          go_wp2_with fail
          go_quiet (fail)
          go_wp2_with fail
          go_roundw
          case rel => exact ⟨i + 1, by omega, by go_num, HT2.out, Drew.one _ _⟩
          case measure => simp [intOf]; omega
        · have hne : (x == y) = false := by rw [beq_eq_false_iff_ne]; exact hxy
          have hne2 : (x != y) = true := by simp [bne, hne]
          have hr : R = false := by
            rw [← HR.out]
            unfold sameB
            rw [decide_eq_false_iff_not]
            intro e
            have h1 := HX1.out
            rw [e, HX2.out] at h1
            exact hxy (Option.some.inj h1).symm
          clear HR hxy
          subst hr
          go_wp2_with fail
          go_quiet (fail)
          go_wp2_with fail
          go_ret
          exact ⟨rfl, Drew.two _ _ _⟩
      · have hin : i = n := by omega
        subst hin
        have hr : R = true := by
          rw [← HR.out]
          unfold sameB
          rw [decide_eq_true_eq]
          have := HT.out
          rw [List.take_of_length_le (by rw [HL.out]; exact Nat.le_refl _), List.take_of_length_le (by rw [HK.out]; exact Nat.le_refl _)] at this
          exact this
        clear HR hlt
        subst hr
        go_wp2_with fail
        go_ret
        exact ⟨rfl, Drew.one _ _⟩
  · have hne : ((n : Int) == (m : Int)) = false := by rw [beq_eq_false_iff_ne]; omega
    have hne2 : ((n : Int) != (m : Int)) = true := by simp [bne, hne]
    have hr : sameB l k = false := by
      unfold sameB
      rw [decide_eq_false_iff_not]
      intro e
      exact hnm (by rw [← hl, ← hk, e])
    rw [hr]
    clear hr hl hk hnm
    go_enter Try.func16, Try.ntmps16
    go_wp2_with fail
    go_ret
    exact ⟨rfl, Drew.refl _⟩
theorem ownI {w : World} {base : Nat} {ao : Option Addr} {n c : Nat} {l : List Int} (h : w.ownsRow base 3 1 (.slice ao n c) n (l.map (Value.int .i64))) : Rd w ao n c (ints l) := ownsRow_rd h
set_option maxRecDepth 100000 in
set_option maxHeartbeats 1000000 in
theorem over_any (base n c : Nat) (ao : Option Addr) (xs : List Value) (w : World) (h : w.ownsRow base 3 1 (.slice ao n c) n xs) (hn : n ≤ 1000) :
   Calls Try.prog 50 #[.slice ao n c] w fun e w' => e = .returned (.tuple #[]) ∧ Frm (fun i => (Value.slice ao n c).ownBlock = some i) w w' := by
  obtain ⟨i0, hi, hz0, hz1, hz2⟩ := info_parts info_int
  have HI := Lib.hid hi
  have HZ0 := Lib.hid hz0
  have HZ1 := Lib.hid hz1
  have HZ2 := Lib.hid hz2
  clear hi hz0 hz1 hz2
  have HO := Lib.hid h
  clear h
  go_enter Try.func50, Try.ntmps50
  go_wp2_with fail
  go_loopw [2] (fun v wr => ∃ (i : Nat) (ys : List Value), i ≤ n ∧ v = .int .i64 i ∧ RowKit.Hid (wr.ownsRow base 3 1 (.slice ao n c) n ys) ∧ RowKit.Hid (Frm (fun i => (Value.slice ao n c).ownBlock = some i) w wr)) (fun v _ => n - (intOf v).toNat)
  case atStart => exact ⟨0, xs, Nat.zero_le _, rfl, HO.out, Frm.refl _ _⟩
  case round =>
    clear HO
    obtain ⟨i, ys, hi, rfl, HO, HF⟩ := hrel
    by_cases hlt : i < n
    · obtain ⟨g, cap, hv, _, _⟩ := HO.out.form (by omega)
      simp only [Value.slice.injEq, true_and] at hv
      obtain ⟨rfl, rfl⟩ := hv
      obtain ⟨sp, hsp, hb⟩ := ownsRow_blk HO.out
      have hylen : ys.length = n := by have := HO.out.1; simpa using this
      obtain ⟨yv, hci⟩ : ∃ yv, wr.cell? ⟨g, i, none⟩ = some yv := ⟨ys[i]'(by omega), by rw [hb.cell, List.getElem?_append_left (by omega)]; exact List.getElem?_eq_getElem _⟩
      have fz := fz_of (o := i) hb
      have hnc : n ≤ c := by
        rcases HO.out.2 with ⟨h', _⟩ | ⟨g', cap', cur, h', _, _, hnc, _⟩
        · simp at h'
        · simp only [Value.slice.injEq] at h'; omega
      have hcm : c ≤ maxLen := by
        rcases HO.out.2 with ⟨h', _⟩ | ⟨g', cap', cur, h', _, _, _, hnc, _⟩
        · simp at h'
        · simp only [Value.slice.injEq] at h'; obtain ⟨_, _, rfl⟩ := h'; exact hnc
      have hO2 : (wr.setCell ⟨g, i, none⟩ (.int .i64 (-999))).ownsRow base 3 1 (.slice (some ⟨g, 0, none⟩) n c) n (ys.set i (.int .i64 (-999))) := by
        have hb2 := hb.set i (.int .i64 (-999))
        rw [List.set_append_left _ _ (by omega)] at hb2
        refine ⟨by simp [hylen], .inr ⟨g, c, ((ys.set i (.int .i64 (-999))) ++ sp).toArray, rfl, (HO.out.lt g rfl).1, hb2, hnc, hcm, ?_, ?_⟩⟩
        · simp; omega
        · simp [hylen]
      have HO2 := Lib.hid hO2
      have HF2 := Lib.hid (HF.out.setCell ⟨g, i, none⟩ (.int .i64 (-999)) (.inl rfl))
      clear hb hO2 hsp hnc hcm hylen HF HO
      have k1 : (0 : Int) ≤ (i : Int) := by omega
      have k2 : (i : Int) < (n : Int) := by omega
      go_wp2_with fail
      go_roundw
      case rel => exact ⟨i + 1, _, by omega, by go_num, HO2.out, HF2.out⟩
      case measure => simp [intOf]; omega
    · have hin : i = n := by omega
      subst hin
      clear hlt
      have A1 : i + 1 ≤ maxLen := by unfold maxLen; omega
      have A2 : (i + 1) * 8 ≤ 140737488355328 := by omega
      have hbs : base ≤ (wr.alloc (.cells #[.int .i64 (-999)] 3)).heap.size ∨ base > (wr.alloc (.cells #[.int .i64 (-999)] 3)).heap.size := by omega
      have HO0 := Lib.hid (own0 HO.out (Nat.zero_le base))
      clear hbs
      go_wp2_with (at_builtin; refine wpList_app rfl _ _ 29 29 rfl 0 3 i0 (.int .i64 0) 1 8 Try.underlying29 HI.out HZ0.out HZ1.out HZ2.out rfl (by decide) ao i c ys rfl (HO0.out.alloc _) _ 1 _ rfl (Src.one' Try.underlying29 wr _ 3 rfl) A1 A2 (Nat.zero_le _) ?_; intro ao3 c3 w5 hown5 hg5; have HG5 := Lib.hid hg5; clear hown5 hg5)
      go_end0
      exact ⟨rfl, (HF.out.alloc _).trans (Frm.grown (S := fun j => (Value.slice ao i c).ownBlock = some j) HG5.out (fun g h => h)) (fun i h _ => h)⟩
end Go.Proofs.Ytjacebnjmhbcbaa
