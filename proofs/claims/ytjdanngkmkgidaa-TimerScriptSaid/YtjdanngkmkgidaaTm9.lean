/- The walks of heap.Fix and heap.Remove. -/
import Derived.Test.YtjdanngkmkgidaaTm8
namespace Go.Proofs.Ytjdanngkmkgidaa
open Go.RowKit
set_option linter.unusedVariables false

def fixF (f : Nat → One) (i n : Nat) : Nat → One := if i < (downF n f i n).2 then (downF n f i n).1 else upF i (downF n f i n).1 i
theorem upF_out : ∀ (q : Nat) (f : Nat → One) (j k : Nat), j < k → upF q f j k = f k
  | 0, f, j, k, h => rfl
  | q + 1, f, j, k, h => by
    unfold upF
    split
    · rfl
    · rw [upF_out q _ _ k (by omega), swapF_o _ _ _ _ (by omega) (by omega)]
theorem fixF_out (f : Nat → One) (i n k : Nat) (h : n ≤ k) (hi : i < n) : fixF f i n k = f k := by
  unfold fixF
  split
  · exact downF_out _ _ _ _ _ h
  · rw [upF_out _ _ _ _ (by omega), downF_out _ _ _ _ _ h]
set_option maxRecDepth 100000 in
set_option maxHeartbeats 2000000 in
theorem hfix_any (p o g n c i : Nat) (T : TypeId) (cs : List Value) (f : Nat → One) (w : World) (h : VO w p o T cs (some ⟨g, 0, none⟩) n c f) (hi : i < n) (hn : n ≤ 1000) :
    Calls Try.prog 37 #[.iface 83 (.pointer (some ⟨p, o, none⟩)), .int .i64 i] w fun e w' => e = .returned (.tuple #[]) ∧ VO w' p o T cs (some ⟨g, 0, none⟩) n c (fixF f i n) ∧ Frm (fun k => k = g) w w' := by
  obtain ⟨g1, sp, hg1, hb, hsp, hnc, hcm, hpg⟩ := h.open_ (by omega)
  simp only [Option.some.injEq, Addr.mk.injEq, and_true] at hg1
  subst hg1
  have hml := m_len h.cell
  have hMH : MH w p o g n c f sp := ⟨h.cell, hb, hpg, h.blk.lt⟩
  have HMH := Lib.hid hMH
  have HV := Lib.hid h
  have HSP := Lib.hid hsp
  have HCM := Lib.hid hcm
  clear h hb hMH hsp hcm
  obtain ⟨R, hR⟩ : ∃ R, fixF f i n = R := ⟨_, rfl⟩
  rw [hR]
  have HR := Lib.hid hR
  clear hR
  go_enter Try.func37, Try.ntmps37
  go_wp2_with fail
  refine (mlen_any _ _ _ _).mono ?_
  rintro e w' ⟨rfl, rfl⟩
  clear hml
  go_wp2_with fail
  refine (down_any p o g n c i n f sp _ HMH.out (by omega) (by omega) (by omega)).mono ?_
  rintro e w2 ⟨rfl, hM2, hG2⟩
  have HM2 := Lib.hid hM2
  have HG2 := Lib.hid hG2
  clear hM2 hG2 HMH
  unfold fixF at HR
  generalize downF n f i n = r at *
  by_cases hr : i < r.2
  · have d1 : decide (i < r.2) = true := by simpa using hr
    have hx := HR.out
    rw [if_pos hr] at hx
    subst hx
    clear HR
    go_wp2_with fail
    go_end0
    exact ⟨rfl, HV.out.frmBack hpg HM2.out.2.1 HSP.out hnc HCM.out HG2.out, Frm.grown HG2.out (fun g h => (Option.some.inj h).symm)⟩
  · have d1 : decide (i < r.2) = false := by simpa using hr
    have hx := HR.out
    rw [if_neg hr] at hx
    subst hx
    clear HR
    go_wp2_with fail
    refine (up_any p o g n c i r.1 sp _ HM2.out (by omega) (by omega)).mono ?_
    rintro e w3 ⟨rfl, hM3, hG3⟩
    have HM3 := Lib.hid hM3
    have HG3 := Lib.hid (grownBy_trans HG2.out hG3)
    clear hM3 hG3 HM2 HG2
    go_wp2_with fail
    go_end0
    exact ⟨rfl, HV.out.frmBack hpg HM3.out.2.1 HSP.out hnc HCM.out HG3.out, Frm.grown HG3.out (fun g h => (Option.some.inj h).symm)⟩
def remF (f : Nat → One) (i n : Nat) : Nat → One := if i = n then f else fixF (swapF f i n) i n
set_option maxRecDepth 100000 in
set_option maxHeartbeats 2000000 in
theorem hrem_any (p o g n c i : Nat) (T : TypeId) (cs : List Value) (f : Nat → One) (w : World) (h : VO w p o T cs (some ⟨g, 0, none⟩) (n + 1) c f) (hi : i ≤ n) (hn : n ≤ 999) :
    Calls Try.prog 41 #[.iface 83 (.pointer (some ⟨p, o, none⟩)), .int .i64 i] w fun e w' => e = .returned (.iface 81 (.agg #[.int .i64 (f i).1, .int .i64 (f i).2])) ∧ VO w' p o T (cs.set o (.slice (some ⟨g, 0, none⟩) n c)) (some ⟨g, 0, none⟩) n c (remF f i n) ∧ Frm (fun k => k = p ∨ k = g) w w' := by
  obtain ⟨g1, sp, hg1, hb, hsp, hnc, hcm, hpg⟩ := h.open_ (Nat.succ_pos n)
  simp only [Option.some.injEq, Addr.mk.injEq, and_true] at hg1
  subst hg1
  have hml := m_len h.cell
  have hMH : MH w p o g (n + 1) c f sp := ⟨h.cell, hb, hpg, h.blk.lt⟩
  have hol : o < cs.length := (List.getElem?_eq_some_iff.1 h.var).1
  have HMH := Lib.hid hMH
  have HV := Lib.hid h
  have HSP := Lib.hid hsp
  have HCM := Lib.hid hcm
  clear h hb hMH hsp hcm
  have k1 : IntKind.i64.wrap (n : Int) = n := IntWalk.i64_in _ (by omega)
  have k2 : (0 : Int) ≤ n := by omega
  have hmp := m_pop ⟨p, o, none⟩
  obtain ⟨R, hR⟩ : ∃ R, remF f i n = R := ⟨_, rfl⟩
  rw [hR]
  unfold remF at hR
  have HR := Lib.hid hR
  clear hR
  go_enter Try.func41, Try.ntmps41
  go_wp2_with fail
  refine (mlen_any _ _ _ _).mono ?_
  rintro e w' ⟨rfl, rfl⟩
  clear hml
  by_cases hin : i = n
  · subst hin
    have hx := HR.out
    rw [if_pos rfl] at hx
    subst hx
    clear HR
    go_wp2_with fail
    refine (mpop_any p o g i c T cs _ sp _ HV.out.blk HV.out.var HMH.out.2.1 hpg hnc (by omega)).mono ?_
    rintro e w3 ⟨rfl, hB3, hF3⟩
    have HB3 := Lib.hid hB3
    have HF3 := Lib.hid hF3
    clear hB3 hF3
    go_wp2_with fail
    go_ret
    refine ⟨rfl, ?_, HF3.out.mono (fun i h _ => .inl h)⟩
    have h3 := HB_last HMH.out.2.1
    exact VO.mk_ HB3.out (by rw [List.getElem?_set_self (by omega)]) (h3.frm HF3.out (fun e => hpg e.symm)) (by have := HSP.out; simp [oneCells]; omega) (by omega) HCM.out HV.out.ty
  · have HR2 : RowKit.Hid (fixF (swapF f i n) i n = R) := by have := HR.out; rw [if_neg hin] at this; exact this
    clear HR
    have hne : ((n : Int) == (i : Int)) = false := by rw [beq_eq_false_iff_ne]; omega
    have hne2 : ((n : Int) != (i : Int)) = true := by simp [bne, hne]
    have hms := m_swap HMH.out.1
    have hlt : i < n := by omega
    clear hin
    go_wp2_with fail
    refine (mswap_all g (n + 1) c i n f sp _ HMH.out.2.1 (by omega) (by omega) (by omega)).mono ?_
    rintro e w1 ⟨rfl, hb, hg⟩
    have HM1 := Lib.hid (HMH.out.grown hg hb)
    have HG1 := Lib.hid hg
    clear hb hg hms
    go_wp2_with fail
    refine (down_any p o g (n + 1) c i n (swapF f i n) sp _ HM1.out (by omega) (by omega) (by omega)).mono ?_
    rintro e w2 ⟨rfl, hM2, hG2⟩
    have HM2 := Lib.hid hM2
    have HG2 := Lib.hid (grownBy_trans HG1.out hG2)
    clear hM2 hG2 HG1 HM1
    have hout : fixF (swapF f i n) i n n = f i := by rw [fixF_out _ _ _ _ (Nat.le_refl n) hlt, swapF_j]
    have HOUT := Lib.hid hout
    clear hout
    unfold fixF at HOUT HR2
    generalize downF n (swapF f i n) i n = r at *
    by_cases hr : i < r.2
    · have d1 : decide (i < r.2) = true := by simpa using hr
      go_wp2_with fail
      have hV2 := HV.out.frmBack hpg HM2.out.2.1 HSP.out hnc HCM.out HG2.out
      refine (mpop_any p o g n c T cs _ sp _ hV2.blk hV2.var HM2.out.2.1 hpg hnc (by omega)).mono ?_
      rintro e w3 ⟨rfl, hB3, hF3⟩
      have hx := HOUT.out
      have hy := HR2.out
      rw [if_pos hr] at hx hy
      subst hy
      rw [hx]
      clear HR2
      have HB3 := Lib.hid hB3
      have HF3 := Lib.hid hF3
      clear hV2 hB3 hF3 hx
      go_wp2_with fail
      go_ret
      refine ⟨rfl, ?_, ?_⟩
      · have h3 := HB_last HM2.out.2.1
        exact VO.mk_ HB3.out (by rw [List.getElem?_set_self (by omega)]) (h3.frm HF3.out (fun e => hpg e.symm)) (by have := HSP.out; simp [oneCells]; omega) (by omega) HCM.out HV.out.ty
      · exact (Frm.grown (S := fun k => k = p ∨ k = g) HG2.out (fun k h => .inr (Option.some.inj h).symm)).trans HF3.out (fun i h _ => .inl h)
    · have d1 : decide (i < r.2) = false := by simpa using hr
      go_wp2_with fail
      refine (up_any p o g (n + 1) c i r.1 sp _ HM2.out (by omega) (by omega)).mono ?_
      rintro e w3 ⟨rfl, hM3, hG3⟩
      have HM3 := Lib.hid hM3
      have HG3 := Lib.hid (grownBy_trans HG2.out hG3)
      clear hM3 hG3 HM2 HG2
      go_wp2_with fail
      have hV2 := HV.out.frmBack hpg HM3.out.2.1 HSP.out hnc HCM.out HG3.out
      refine (mpop_any p o g n c T cs _ sp _ hV2.blk hV2.var HM3.out.2.1 hpg hnc (by omega)).mono ?_
      rintro e w4 ⟨rfl, hB3, hF3⟩
      have hx := HOUT.out
      have hy := HR2.out
      rw [if_neg hr] at hx hy
      subst hy
      rw [hx]
      clear HR2
      have HB3 := Lib.hid hB3
      have HF3 := Lib.hid hF3
      clear hV2 hB3 hF3 hx
      go_wp2_with fail
      go_ret
      refine ⟨rfl, ?_, ?_⟩
      · have h3 := HB_last HM3.out.2.1
        exact VO.mk_ HB3.out (by rw [List.getElem?_set_self (by omega)]) (h3.frm HF3.out (fun e => hpg e.symm)) (by have := HSP.out; simp [oneCells]; omega) (by omega) HCM.out HV.out.ty
      · exact (Frm.grown (S := fun k => k = p ∨ k = g) HG3.out (fun k h => .inr (Option.some.inj h).symm)).trans HF3.out (fun i h _ => .inl h)
end Go.Proofs.Ytjdanngkmkgidaa
