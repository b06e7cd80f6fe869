/- The walk of MergePasses. -/
import Derived.Test.YtjacebnjmhbcbaaMg14
import Derived.Test.YtjacebnjmhbcbaaMg8
namespace Go.Proofs.Ytjacebnjmhbcbaa
open Go.RowKit
set_option linter.unusedVariables false

theorem put_nope {n i seq : Int} {S : List PS} {T l : List KeyL} {e : Bool} (h : atS S i = none ∨ ∃ s, atS S i = some s ∧ (doneP n S T = true ∨ s.wanted = false ∨ s.seq ≠ seq ∨ 5 < l.length ∨ (l.length = 0 ∧ e = false) ∨ okI s.least s.heard s.last l = false)) : putP n S T i seq l e = (false, S) := by
  unfold putP putOK
  rcases h with h | ⟨s, h, h2⟩
  · rw [h]
  · rw [h]
    simp only [if_pos h2]
theorem put_yes {n i seq : Int} {S : List PS} {T l : List KeyL} {e : Bool} {s : PS} (h : atS S i = some s) (h2 : ¬ (doneP n S T = true ∨ s.wanted = false ∨ s.seq ≠ seq ∨ 5 < l.length ∨ (l.length = 0 ∧ e = false) ∨ okI s.least s.heard s.last l = false)) : putP n S T i seq l e = (true, S.set i.toNat (s.put l e)) := by
  unfold putP putOK
  rw [h]
  simp only [if_neg h2]
theorem wantsP_len (n : Int) (S : List PS) (T : List KeyL) : (wantsP n S T).length ≤ S.length := by
  unfold wantsP
  split
  · exact Nat.zero_le _
  · unfold wantK
    rw [List.length_map]
    exact Nat.le_trans (List.length_filter_le _ _) (by rw [List.length_range]; exact Nat.le_refl _)
def pS0 : List PS := [newPS 1, newPS 2]
def pS1 (l : List KeyL) : List PS := [(newPS 1).put l false, newPS 2]
theorem pS0_sq : ∀ s ∈ pS0, 0 ≤ s.seq ∧ s.seq ≤ 1000000 := by intro s hs; simp [pS0, newPS] at hs; rcases hs with rfl | rfl <;> decide
theorem pS1_sq (l : List KeyL) : ∀ s ∈ pS1 l, 0 ≤ s.seq ∧ s.seq ≤ 1000000 := by intro s hs; simp [pS1] at hs; rcases hs with rfl | rfl; exact ⟨by show (0 : Int) ≤ 1; omega, by show (1 : Int) ≤ 1000000; omega⟩; decide
theorem pd0 : doneP 10 pS0 [] = false := by kernel_rfl
theorem p_yes {l : List KeyL} (h0 : 0 < l.length) (h5 : l.length ≤ 5) (hok : okI 1 false (0, ⟨#[]⟩) l = true) : putP 10 pS0 [] 0 0 l false = (true, pS1 l) := by
  rw [put_yes (s := newPS 1) rfl]
  · rfl
  · rw [pd0]
    rintro (h | h | h | h | h | h)
    · cases h
    · revert h; decide
    · exact h rfl
    · omega
    · omega
    · rw [show okI (newPS 1).least (newPS 1).heard (newPS 1).last l = okI 1 false (0, ⟨#[]⟩) l from rfl, hok] at h; cases h
theorem p_no {l : List KeyL} {seq : Int} (h : l.length = 0 ∨ 5 < l.length ∨ okI 1 false (0, ⟨#[]⟩) l = false ∨ seq ≠ 0) : putP 10 pS0 [] 0 seq l false = (false, pS0) := by
  refine put_nope (.inr ⟨newPS 1, rfl, ?_⟩)
  rcases h with h | h | h | h
  · exact .inr (.inr (.inr (.inr (.inl ⟨h, rfl⟩))))
  · exact .inr (.inr (.inr (.inl h)))
  · exact .inr (.inr (.inr (.inr (.inr h))))
  · exact .inr (.inr (.inl (fun e => h e.symm)))
theorem p_seq {S : List PS} {t u : PS} {k : Int} {l : List KeyL} (hS : S = [t, u]) (hk : t.seq ≠ k) : putP 10 S [] 0 k l true = (false, S) := by
  subst hS
  exact put_nope (.inr ⟨t, rfl, .inr (.inr (.inl hk))⟩)
theorem p_out {S : List PS} {t u : PS} {i : Int} {l : List KeyL} (hS : S = [t, u]) (hi : i < 0 ∨ 2 ≤ i) : putP 10 S [] i 0 l true = (false, S) := by
  subst hS
  exact put_nope (.inl (atS_no (by simpa using hi)))
theorem p_emp {S : List PS} {t u : PS} (hS : S = [t, u]) : putP 10 S [] 1 0 [] false = (false, S) := by
  subst hS
  exact put_nope (.inr ⟨u, rfl, .inr (.inr (.inr (.inr (.inl ⟨rfl, rfl⟩))))⟩)
theorem p_wait {l m : List KeyL} (h0 : 0 < l.length) : putP 10 (pS1 l) [] 0 1 m true = (false, pS1 l) := by
  refine put_nope (.inr ⟨(newPS 1).put l false, rfl, .inr (.inl ?_)⟩)
  unfold PS.wanted
  rw [show ((newPS 1).put l false).waits = l from rfl, decide_eq_false (by omega)]
  simp
theorem rdE_nil (w : World) : RdE KeyL.cells 2 w none 0 0 [] := ⟨rfl, Nat.le_refl _, Nat.zero_le _, fun _ => rfl, fun i x hx => by simp at hx⟩
theorem m_seq {w0 w : World} {p : Nat} {n i q : Int} {S : List PS} {T : List KeyL} (h : OwnM w0 w p n S T) (he : seqP S i = q) :
    Calls Try.prog 15 #[.pointer (some ⟨p, 0, none⟩), .int .i64 i] w fun e w' => e = .returned (.int .i64 q) ∧ w = w' := by
  have := seq_any _ p n i S T w h.1
  rw [he] at this
  exact this
theorem m_told {w0 w : World} {p : Nat} {n : Int} {S : List PS} {T : List KeyL} (h : OwnM w0 w p n S T) :
    Calls Try.prog 17 #[.pointer (some ⟨p, 0, none⟩)] w fun e w' => ∃ ao c', e = .returned (.slice ao T.length c') ∧ w'.ownsRow w.heap.size 31 2 (.slice ao T.length c') T.length (T.flatMap KeyL.cells) ∧ OwnM w0 w' p n S T ∧ Below w.heap.size w w' := by
  refine (told_any _ p n S T w h.1).mono ?_
  rintro e w' ⟨ao, c, rfl, ho, hb⟩
  exact ⟨ao, c, rfl, ho, h.below hb, hb⟩
/-- the loop: are these in order, from 1 on? -/
def PsR (f : List KeyL) (R : Bool) (v9 v10 : Value) : Prop := ∃ (i : Nat) (g : Bool), i ≤ f.length ∧ v10 = .int .i64 i ∧ v9 = .bool g ∧ RowKit.Hid ((g && okI 1 (decide (0 < i)) ((f.take i).getLastD (0, ⟨#[]⟩)) (f.drop i)) = R)
set_option maxRecDepth 100000 in
set_option maxHeartbeats 8000000 in
theorem passes_any (a1 : Option Addr) (n1 cap1 : Nat) (l1 : List KeyL) (a2 : Option Addr) (n2 cap2 : Nat) (l2 : List KeyL) (seq : Int) (w : World) (hr1 : RdE KeyL.cells 2 w a1 n1 cap1 l1) (hs1 : ∀ x ∈ l1, x.2.size ≤ maxLen) (hr2 : RdE KeyL.cells 2 w a2 n2 cap2 l2) (hs2 : ∀ x ∈ l2, x.2.size ≤ maxLen) :
    Calls Try.prog 3 #[.slice a1 n1 cap1, .slice a2 n2 cap2, .int .i64 seq] w fun e w' => e = .returned (.bool true) ∧ Below w.heap.size w w' := by
  have HL1 := Lib.hid hr1.1
  have HR1 := Lib.hid hr1
  have HR2 := Lib.hid hr2
  have HS1 := Lib.hid hs1
  have HS2 := Lib.hid hs2
  clear hr1 hr2 hs1 hs2
  go_enter Try.func3, Try.ntmps3
  go_wp2_with fail
  refine (greatI_any a1 n1 cap1 l1 _ HR1.out HS1.out).mono ?_
  rintro e w' ⟨rfl, rfl⟩
  cases hg1 : greatI l1 with
  | true =>
    clear hg1 HR1 HR2 HS1 HS2 HL1
    go_wp2_with fail
    refine (awake_any _).mono ?_
    rintro e w2 ⟨rfl, hb⟩
    have HB := Lib.hid hb
    clear hb
    go_wp2_with fail
    go_ret
    exact ⟨rfl, HB.out⟩
  | false =>
    have hn1 : n1 ≤ 80 := by have := (greatI_false hg1).1; rw [HL1.out] at this; exact this
    clear hg1 HS1
    go_wp2_with fail
    refine (greatI_any a2 n2 cap2 l2 _ HR2.out HS2.out).mono ?_
    rintro e w' ⟨rfl, rfl⟩
    cases hg2 : greatI l2 with
    | true =>
      clear hg2 HR1 HR2 HS2 HL1
      go_wp2_with fail
      refine (awake_any _).mono ?_
      rintro e w2 ⟨rfl, hb⟩
      have HB := Lib.hid hb
      clear hb
      go_wp2_with fail
      go_ret
      exact ⟨rfl, HB.out⟩
    | false =>
      clear hg2 HS2
      have hb0 : Below w.heap.size w (w.alloc (.cells #[.int .i64 1, .int .i64 2] 3)) := (Below.refl _ _).alloc (Nat.le_refl _) _
      go_wp2_with fail
      refine (mnew_any (some ⟨w.heap.size, 0, none⟩) 2 2 [1, 2] 10 (w.alloc (.cells #[.int .i64 1, .int .i64 2] 3)) (new_nums w [1, 2] (by decide)) (by omega) (by omega) (by omega) (by omega)).mono ?_
      rintro e w2 ⟨rfl, hM, hb⟩
      have HM : RowKit.Hid (OwnM w w2 (w.alloc (.cells #[.int .i64 1, .int .i64 2] 3)).heap.size 10 pS0 []) := ⟨hM.base hb0.size, hb0.trans (hb.mono hb0.size)⟩
      clear hM hb hb0
      rw [show (w.alloc (.cells #[.int .i64 1, .int .i64 2] 3)).heap.size = w.heap.size + 1 from by simp] at HM ⊢
      generalize w.heap.size + 1 = p at HM ⊢
      have hq1 := fun W => ptr_ne p 0 W
      have hnc := HR1.out.2.1
      have hcm := HR1.out.2.2.1
      unfold maxLen at hcm
      by_cases h0 : n1 = 0
      · subst h0
        have d1 : decide ((0 : Int) < ((0 : Nat) : Int)) = false := by decide
        go_wp2_with fail
        go_loopw [9, 10] (fun v9 v10 wr => ∃ i : Nat, i ≤ 0 ∧ v10 = .int .i64 i ∧ v9 = .bool false ∧ Drew w2 wr) (fun _ v _ => 0 - (intOf v).toNat)
        case atStart => exact ⟨0, Nat.zero_le _, rfl, rfl, Drew.refl _⟩
        case round =>
          obtain ⟨i, hi, rfl, rfl, nq0, rfl⟩ := hrel
          by_cases hlt : i < 0
          · have k1 : (0 : Int) ≤ (i : Int) := by omega
            have k2 : (i : Int) < (0 : Int) := by omega
            go_wp2_with fail
            go_quiet (fail)
            go_wp2_with fail
            go_roundw
            case rel => exact ⟨i + 1, by omega, by go_num, rfl, Drew.one _ _⟩
            case measure => simp [intOf]; omega
          · have hin : i = 0 := by omega
            subst hin
            clear hlt
            have HMd := Lib.hid (HM.out.below (below_drewN (Below.refl _ _) nq0))
            clear HM
            have HM := HMd
            clear HMd
            go_wp2_with fail
            refine (m_put HM.out (HR1.out.below HM.out.2 rfl) pS0_sq (p_no (.inl HL1.out))).mono ?_
            rintro e w4 ⟨rfl, hM, hb⟩
            have HM4 := Lib.hid hM
            clear hM hb HM
            have HM := HM4
            clear HM4
            go_wp2_with fail
            have hSS : pS0 = [newPS 1, newPS 2] := rfl
            refine (m_wants HM.out rfl).mono ?_
            rintro e w5 ⟨ao5, c5, rfl, ho, hM, hb⟩
            obtain ⟨wl, hwl⟩ : ∃ l, wantsP 10 pS0 [] = l := ⟨_, rfl⟩
            have hle : wl.length ≤ 2 := by rw [← hwl]; exact wantsP_len 10 pS0 []
            have HM5 := Lib.hid hM
            rw [hwl] at ho ⊢
            have HW5 := Lib.hid (ownI ho)
            have HWL := Lib.hid hwl
            have HLE := Lib.hid hle
            clear hM ho hb HM hwl hle
            go_wp2_with fail
            refine (m_seq (q := 0) HM5.out rfl).mono ?_
            rintro e w' ⟨rfl, rfl⟩
            go_wp2_with fail
            refine (m_put HM5.out (HR2.out.below HM5.out.2 rfl) pS0_sq (p_seq rfl (by show (0 : Int) ≠ 1; decide))).mono ?_
            rintro e x1 ⟨rfl, hM, hb⟩
            have HX1 := Lib.hid hM
            have HR1_ := Lib.hid (HW5.out.below (hb rfl) rfl)
            clear hM hb HM5 HW5
            go_wp2_with fail
            refine (m_put HX1.out (HR2.out.below HX1.out.2 rfl) pS0_sq (p_out rfl (by decide))).mono ?_
            rintro e x2 ⟨rfl, hM, hb⟩
            have HX2 := Lib.hid hM
            have HR2_ := Lib.hid (HR1_.out.below (hb rfl) rfl)
            clear hM hb HX1 HR1_
            go_wp2_with fail
            refine (m_put HX2.out (HR2.out.below HX2.out.2 rfl) pS0_sq (p_out rfl (by decide))).mono ?_
            rintro e x3 ⟨rfl, hM, hb⟩
            have HX3 := Lib.hid hM
            have HR3_ := Lib.hid (HR2_.out.below (hb rfl) rfl)
            clear hM hb HX2 HR2_
            go_wp2_with fail
            refine (m_put HX3.out (rdE_nil _) pS0_sq (p_emp rfl)).mono ?_
            rintro e x4 ⟨rfl, hM, hb⟩
            have HX4 := Lib.hid hM
            have HR4_ := Lib.hid (HR3_.out.below (hb rfl) rfl)
            clear hM hb HX3 HR3_
            go_wp2_with fail
            refine (m_wants HX4.out HWL.out).mono ?_
            rintro e w6 ⟨ao6, c6, rfl, ho, hM, hb⟩
            have HM6 := Lib.hid hM
            have HW6 := Lib.hid (ownI ho)
            have HV6 := Lib.hid (HR4_.out.below hb rfl)
            clear hM ho hb HX4 HR4_
            have hle6 : wl.length ≤ 1000 := by have := HLE.out; omega
            go_wp2_with fail
            refine (same_any ao6 ao5 _ _ c6 c5 wl wl _ HW6.out HV6.out hle6 hle6).mono ?_
            rintro e w7 ⟨rfl, hd⟩
            have HM7 := Lib.hid (HM6.out.below (hd.below _))
            clear hd HM6 HW6 HV6
            rw [show sameB wl wl = true from by simp [sameB]]
            go_wp2_with fail
            refine (m_seq (q := 0) HM7.out rfl).mono ?_
            rintro e w' ⟨rfl, rfl⟩
            go_wp2_with fail
            refine (m_told HM7.out).mono ?_
            rintro e w8 ⟨ao8, c8, rfl, ho, hM, hb⟩
            have HM8 := Lib.hid hM
            clear hM ho hb HM7
            go_wp2_with fail
            refine (awake_any _).mono ?_
            rintro e w9 ⟨rfl, hb⟩
            have HM9 := Lib.hid (HM8.out.below hb)
            clear hb HM8
            go_wp2_with fail
            go_ret
            exact ⟨rfl, HM9.out.2⟩
      · have d1 : decide (0 < n1) = true := by simp; omega
        have d1' : decide ((0 : Int) < (n1 : Int)) = true := by simp; omega
        by_cases h5 : 5 < n1
        · have d2 : decide (n1 ≤ 5) = false := by simp; omega
          have d2' : decide ((n1 : Int) ≤ 5) = false := by simp; omega
          go_wp2_with fail
          go_loopw [9, 10] (fun v9 v10 wr => ∃ i : Nat, i ≤ n1 ∧ v10 = .int .i64 i ∧ v9 = .bool false ∧ Drew w2 wr) (fun _ v _ => n1 - (intOf v).toNat)
          case atStart => exact ⟨0, Nat.zero_le _, rfl, rfl, Drew.refl _⟩
          case round =>
            obtain ⟨i, hi, rfl, rfl, nq0, rfl⟩ := hrel
            by_cases hlt : i < n1
            · have k1 : (0 : Int) ≤ (i : Int) := by omega
              have k2 : (i : Int) < (n1 : Int) := by omega
              go_wp2_with fail
              go_quiet (fail)
              go_wp2_with fail
              go_roundw
              case rel => exact ⟨i + 1, by omega, by go_num, rfl, Drew.one _ _⟩
              case measure => simp [intOf]; omega
            · have hin : i = n1 := by omega
              subst hin
              clear hlt
              have HMd := Lib.hid (HM.out.below (below_drewN (Below.refl _ _) nq0))
              clear HM
              have HM := HMd
              clear HMd
              go_wp2_with fail
              refine (m_put HM.out (HR1.out.below HM.out.2 rfl) pS0_sq (p_no (.inr (.inl (by have := HL1.out; omega))))).mono ?_
              rintro e w4 ⟨rfl, hM, hb⟩
              have HM4 := Lib.hid hM
              clear hM hb HM
              have HM := HM4
              clear HM4
              go_wp2_with fail
              have hSS : pS0 = [newPS 1, newPS 2] := rfl
              refine (m_wants HM.out rfl).mono ?_
              rintro e w5 ⟨ao5, c5, rfl, ho, hM, hb⟩
              obtain ⟨wl, hwl⟩ : ∃ l, wantsP 10 pS0 [] = l := ⟨_, rfl⟩
              have hle : wl.length ≤ 2 := by rw [← hwl]; exact wantsP_len 10 pS0 []
              have HM5 := Lib.hid hM
              rw [hwl] at ho ⊢
              have HW5 := Lib.hid (ownI ho)
              have HWL := Lib.hid hwl
              have HLE := Lib.hid hle
              clear hM ho hb HM hwl hle
              go_wp2_with fail
              refine (m_seq (q := 0) HM5.out rfl).mono ?_
              rintro e w' ⟨rfl, rfl⟩
              go_wp2_with fail
              refine (m_put HM5.out (HR2.out.below HM5.out.2 rfl) pS0_sq (p_seq rfl (by show (0 : Int) ≠ 1; decide))).mono ?_
              rintro e x1 ⟨rfl, hM, hb⟩
              have HX1 := Lib.hid hM
              have HR1_ := Lib.hid (HW5.out.below (hb rfl) rfl)
              clear hM hb HM5 HW5
              go_wp2_with fail
              refine (m_put HX1.out (HR2.out.below HX1.out.2 rfl) pS0_sq (p_out rfl (by decide))).mono ?_
              rintro e x2 ⟨rfl, hM, hb⟩
              have HX2 := Lib.hid hM
              have HR2_ := Lib.hid (HR1_.out.below (hb rfl) rfl)
              clear hM hb HX1 HR1_
              go_wp2_with fail
              refine (m_put HX2.out (HR2.out.below HX2.out.2 rfl) pS0_sq (p_out rfl (by decide))).mono ?_
              rintro e x3 ⟨rfl, hM, hb⟩
              have HX3 := Lib.hid hM
              have HR3_ := Lib.hid (HR2_.out.below (hb rfl) rfl)
              clear hM hb HX2 HR2_
              go_wp2_with fail
              refine (m_put HX3.out (rdE_nil _) pS0_sq (p_emp rfl)).mono ?_
              rintro e x4 ⟨rfl, hM, hb⟩
              have HX4 := Lib.hid hM
              have HR4_ := Lib.hid (HR3_.out.below (hb rfl) rfl)
              clear hM hb HX3 HR3_
              go_wp2_with fail
              refine (m_wants HX4.out HWL.out).mono ?_
              rintro e w6 ⟨ao6, c6, rfl, ho, hM, hb⟩
              have HM6 := Lib.hid hM
              have HW6 := Lib.hid (ownI ho)
              have HV6 := Lib.hid (HR4_.out.below hb rfl)
              clear hM ho hb HX4 HR4_
              have hle6 : wl.length ≤ 1000 := by have := HLE.out; omega
              go_wp2_with fail
              refine (same_any ao6 ao5 _ _ c6 c5 wl wl _ HW6.out HV6.out hle6 hle6).mono ?_
              rintro e w7 ⟨rfl, hd⟩
              have HM7 := Lib.hid (HM6.out.below (hd.below _))
              clear hd HM6 HW6 HV6
              rw [show sameB wl wl = true from by simp [sameB]]
              go_wp2_with fail
              refine (m_seq (q := 0) HM7.out rfl).mono ?_
              rintro e w' ⟨rfl, rfl⟩
              go_wp2_with fail
              refine (m_told HM7.out).mono ?_
              rintro e w8 ⟨ao8, c8, rfl, ho, hM, hb⟩
              have HM8 := Lib.hid hM
              clear hM ho hb HM7
              go_wp2_with fail
              refine (awake_any _).mono ?_
              rintro e w9 ⟨rfl, hb⟩
              have HM9 := Lib.hid (HM8.out.below hb)
              clear hb HM8
              go_wp2_with fail
              go_ret
              exact ⟨rfl, HM9.out.2⟩
        · have d2 : decide (n1 ≤ 5) = true := by simp; omega
          have d2' : decide ((n1 : Int) ≤ 5) = true := by simp; omega
          have hl5 : n1 ≤ 5 := by omega
          obtain ⟨R, hR⟩ : ∃ R, okI 1 false (0, ⟨#[]⟩) l1 = R := ⟨_, rfl⟩
          have HOK := Lib.hid hR
          clear hR
          go_wp2_with fail
          go_loopw [9, 10] (fun v9 v10 wr => PsR l1 R v9 v10 ∧ Below w2.heap.size w2 wr) (fun _ v _ => n1 - (intOf v).toNat)
          case atStart => exact ⟨⟨0, true, Nat.zero_le _, rfl, rfl, by unfold RowKit.Hid; rw [← HOK.out]; rfl⟩, Below.refl _ _⟩
          case round =>
            obtain ⟨⟨i, g, hi, rfl, rfl, HG⟩, hb⟩ := hrel
            rw [HL1.out] at hi
            have HB := Lib.hid hb
            clear hb
            by_cases hlt : i < n1
            · have k1 : (0 : Int) ≤ (i : Int) := by omega
              have k2 : (i : Int) < (n1 : Int) := by omega
              obtain ⟨x, hx⟩ : ∃ x, l1[i]? = some x := ⟨_, List.getElem?_eq_getElem (show i < l1.length by rw [HL1.out]; exact hlt)⟩
              have hG := HG.out
              rw [okI_drop hx] at hG
              obtain ⟨b, o, rfl, z0, z1, hbl⟩ := ((HR1.out.below HM.out.2 rfl).below HB.out rfl).atI hx
              have hlx : (l1.take (i + 1)).getLastD (0, ⟨#[]⟩) = x := last_take hx
              have htr : decide (0 < i + 1) = true := by simp
              have HX := Lib.hid hx
              clear hx HG
              cases g with
              | false =>
                have HG2 : RowKit.Hid ((false && okI 1 (decide (0 < i + 1)) ((l1.take (i + 1)).getLastD (0, ⟨#[]⟩)) (l1.drop (i + 1))) = R) := hG
                clear hG z0 z1 hlx htr
                go_wp2_with fail
                go_quiet (fail)
                go_wp2_with fail
                go_roundw
                case rel => exact ⟨⟨i + 1, false, by rw [HL1.out]; omega, by go_num, rfl, HG2.out⟩, below_drewN HB.out _⟩
                case measure => simp [intOf]; omega
              | true =>
                rw [Bool.true_and] at hG
                by_cases hlo : x.1 < 1
                · have HG2 : RowKit.Hid ((false && okI 1 (decide (0 < i + 1)) ((l1.take (i + 1)).getLastD (0, ⟨#[]⟩)) (l1.drop (i + 1))) = R) := by
                    rw [if_pos (by simp [hlo])] at hG; exact hG
                  have e1 : decide (1 ≤ x.1) = false := by simp; omega
                  clear hG hlx htr
                  go_wp2_with fail
                  go_quiet (fail)
                  go_wp2_with fail
                  go_roundw
                  case rel => exact ⟨⟨i + 1, false, by rw [HL1.out]; omega, by go_num, rfl, HG2.out⟩, below_drewN HB.out _⟩
                  case measure => simp [intOf]; omega
                · have e1 : decide (1 ≤ x.1) = true := by simp; omega
                  by_cases hi0 : i = 0
                  · subst hi0
                    have HG2 : RowKit.Hid ((true && okI 1 (decide (0 < 0 + 1)) ((l1.take (0 + 1)).getLastD (0, ⟨#[]⟩)) (l1.drop (0 + 1))) = R) := by
                      rw [if_neg (by simp [hlo])] at hG
                      rw [hlx, htr, Bool.true_and]; exact hG
                    clear hG hlx htr
                    rw [Nat.zero_mul, Nat.add_zero] at z0 z1
                    go_wp2_with fail
                    go_quiet (fail)
                    go_wp2_with fail
                    go_roundw
                    case rel => exact ⟨⟨1, true, by rw [HL1.out]; omega, by go_num, rfl, HG2.out⟩, below_drewN HB.out _⟩
                    case measure => simp [intOf]; omega
                  · obtain ⟨j, hj⟩ : ∃ j, i = j + 1 := ⟨i - 1, by omega⟩
                    obtain ⟨y, hy⟩ : ∃ y, l1[j]? = some y := ⟨_, List.getElem?_eq_getElem (show j < l1.length by rw [HL1.out]; omega)⟩
                    have hly : (l1.take i).getLastD (0, ⟨#[]⟩) = y := by rw [hj]; exact last_take hy
                    have hip : decide (0 < i) = true := by simp; omega
                    rw [hly, hip] at hG
                    obtain ⟨b', o', hbo, y0, y1, _⟩ := ((HR1.out.below HM.out.2 rfl).below HB.out rfl).atI hy
                    cases hbo
                    have e2 : ((i : Int) == 0) = false := by rw [beq_eq_false_iff_ne]; omega
                    have e3 : IntKind.i64.wrap ((i : Int) - 1) = (j : Int) := by rw [show ((i : Int) - 1) = (j : Int) from by omega]; exact IntWalk.i64_in _ (by omega)
                    have k3 : (0 : Int) ≤ (j : Int) := by omega
                    have k4 : (j : Int) < (n1 : Int) := by omega
                    have HK : RowKit.Hid ((kless y x && okI 1 (decide (0 < i + 1)) ((l1.take (i + 1)).getLastD (0, ⟨#[]⟩)) (l1.drop (i + 1))) = R) := by
                      unfold RowKit.Hid
                      rw [← hG, hlx, htr]
                      cases hk : kless y x
                      · simp
                      · simp [hlo]
                    clear hG hlx htr hly hip hj
                    have HB1 : RowKit.Hid (Below w2.heap.size w2 wr.drew) := below_drewN HB.out 1
                    have HGB : RowKit.Hid (Below wr.heap.size wr wr.drew) := below_drewN (Below.refl _ _) 1
                    have HLS := Lib.hid (itless y x)
                    have HYX := Lib.hid (And.intro y0 (And.intro y1 (And.intro z0 z1)))
                    have hb1 := cell?_lt y0
                    cases hk : kless y x with
                    | false =>
                      rw [hk] at HLS HK
                      clear hk
                      go_wp2_with fail
                      go_region_held3 (fun w' => w'.cell? ⟨b, o + j * 2, none⟩ = some (.int .i64 y.1) ∧ w'.cell? ⟨b, o + j * 2 + 1, none⟩ = some (.string y.2) ∧ w'.cell? ⟨b, o + i * 2, none⟩ = some (.int .i64 x.1) ∧ w'.cell? ⟨b, o + i * 2 + 1, none⟩ = some (.string x.2)) (exact ⟨(HGB.out.cell (p := ⟨b, o + j * 2, none⟩) hb1).trans HYX.out.1, (HGB.out.cell (p := ⟨b, o + j * 2 + 1, none⟩) hb1).trans HYX.out.2.1, (HGB.out.cell (p := ⟨b, o + i * 2, none⟩) hb1).trans HYX.out.2.2.1, (HGB.out.cell (p := ⟨b, o + i * 2 + 1, none⟩) hb1).trans HYX.out.2.2.2⟩) (first | (go_at_call 12; refine (HLS.out _).mono ?_; rintro e u ⟨rfl, hb⟩; have HSN := Lib.hid (HGB.out.trans (hb.mono HGB.out.size)); clear HGB; have HGB := HSN; clear HSN; clear hb))
                      all_goals
                        go_wp2_with fail
                        go_roundw
                        case rel => exact ⟨⟨i + 1, false, by rw [HL1.out]; omega, by go_num, rfl, HK.out⟩, HB.out.trans (HGB.out.mono HB.out.size)⟩
                        case measure => simp [intOf]; omega
                    | true =>
                      rw [hk] at HLS HK
                      clear hk
                      go_wp2_with fail
                      go_region_held3 (fun w' => w'.cell? ⟨b, o + j * 2, none⟩ = some (.int .i64 y.1) ∧ w'.cell? ⟨b, o + j * 2 + 1, none⟩ = some (.string y.2) ∧ w'.cell? ⟨b, o + i * 2, none⟩ = some (.int .i64 x.1) ∧ w'.cell? ⟨b, o + i * 2 + 1, none⟩ = some (.string x.2)) (exact ⟨(HGB.out.cell (p := ⟨b, o + j * 2, none⟩) hb1).trans HYX.out.1, (HGB.out.cell (p := ⟨b, o + j * 2 + 1, none⟩) hb1).trans HYX.out.2.1, (HGB.out.cell (p := ⟨b, o + i * 2, none⟩) hb1).trans HYX.out.2.2.1, (HGB.out.cell (p := ⟨b, o + i * 2 + 1, none⟩) hb1).trans HYX.out.2.2.2⟩) (first | (go_at_call 12; refine (HLS.out _).mono ?_; rintro e u ⟨rfl, hb⟩; have HSN := Lib.hid (HGB.out.trans (hb.mono HGB.out.size)); clear HGB; have HGB := HSN; clear HSN; clear hb))
                      all_goals
                        go_wp2_with fail
                        go_roundw
                        case rel => exact ⟨⟨i + 1, true, by rw [HL1.out]; omega, by go_num, rfl, HK.out⟩, HB.out.trans (HGB.out.mono HB.out.size)⟩
                        case measure => simp [intOf]; omega
            · have hin : i = n1 := by omega
              subst hin
              clear hlt
              have hmd := HM.out.below HB.out
              have hG := HG.out
              clear HG HM HB
              have HM := Lib.hid hmd
              clear hmd
              rw [List.drop_eq_nil_of_le (by rw [HL1.out]; exact Nat.le_refl _), show ∀ a b c, okI a b c [] = true from fun _ _ _ => rfl, Bool.and_true] at hG
              subst hG
              have hi1 : 0 < l1.length := by rw [HL1.out]; omega
              have hi5 : l1.length ≤ 5 := by rw [HL1.out]; exact hl5
              cases g with
              | false =>
                go_wp2_with fail
                refine (m_put HM.out (HR1.out.below HM.out.2 rfl) pS0_sq (p_no (.inr (.inr (.inl HOK.out))))).mono ?_
                rintro e w4 ⟨rfl, hM, hb⟩
                have HM4 := Lib.hid hM
                clear hM hb HM
                have HM := HM4
                clear HM4
                go_wp2_with fail
                have hSS : pS0 = [newPS 1, newPS 2] := rfl
                refine (m_wants HM.out rfl).mono ?_
                rintro e w5 ⟨ao5, c5, rfl, ho, hM, hb⟩
                obtain ⟨wl, hwl⟩ : ∃ l, wantsP 10 pS0 [] = l := ⟨_, rfl⟩
                have hle : wl.length ≤ 2 := by rw [← hwl]; exact wantsP_len 10 pS0 []
                have HM5 := Lib.hid hM
                rw [hwl] at ho ⊢
                have HW5 := Lib.hid (ownI ho)
                have HWL := Lib.hid hwl
                have HLE := Lib.hid hle
                clear hM ho hb HM hwl hle
                go_wp2_with fail
                refine (m_seq (q := 0) HM5.out rfl).mono ?_
                rintro e w' ⟨rfl, rfl⟩
                go_wp2_with fail
                refine (m_put HM5.out (HR2.out.below HM5.out.2 rfl) pS0_sq (p_seq rfl (by show (0 : Int) ≠ 1; decide))).mono ?_
                rintro e x1 ⟨rfl, hM, hb⟩
                have HX1 := Lib.hid hM
                have HR1_ := Lib.hid (HW5.out.below (hb rfl) rfl)
                clear hM hb HM5 HW5
                go_wp2_with fail
                refine (m_put HX1.out (HR2.out.below HX1.out.2 rfl) pS0_sq (p_out rfl (by decide))).mono ?_
                rintro e x2 ⟨rfl, hM, hb⟩
                have HX2 := Lib.hid hM
                have HR2_ := Lib.hid (HR1_.out.below (hb rfl) rfl)
                clear hM hb HX1 HR1_
                go_wp2_with fail
                refine (m_put HX2.out (HR2.out.below HX2.out.2 rfl) pS0_sq (p_out rfl (by decide))).mono ?_
                rintro e x3 ⟨rfl, hM, hb⟩
                have HX3 := Lib.hid hM
                have HR3_ := Lib.hid (HR2_.out.below (hb rfl) rfl)
                clear hM hb HX2 HR2_
                go_wp2_with fail
                refine (m_put HX3.out (rdE_nil _) pS0_sq (p_emp rfl)).mono ?_
                rintro e x4 ⟨rfl, hM, hb⟩
                have HX4 := Lib.hid hM
                have HR4_ := Lib.hid (HR3_.out.below (hb rfl) rfl)
                clear hM hb HX3 HR3_
                go_wp2_with fail
                refine (m_wants HX4.out HWL.out).mono ?_
                rintro e w6 ⟨ao6, c6, rfl, ho, hM, hb⟩
                have HM6 := Lib.hid hM
                have HW6 := Lib.hid (ownI ho)
                have HV6 := Lib.hid (HR4_.out.below hb rfl)
                clear hM ho hb HX4 HR4_
                have hle6 : wl.length ≤ 1000 := by have := HLE.out; omega
                go_wp2_with fail
                refine (same_any ao6 ao5 _ _ c6 c5 wl wl _ HW6.out HV6.out hle6 hle6).mono ?_
                rintro e w7 ⟨rfl, hd⟩
                have HM7 := Lib.hid (HM6.out.below (hd.below _))
                clear hd HM6 HW6 HV6
                rw [show sameB wl wl = true from by simp [sameB]]
                go_wp2_with fail
                refine (m_seq (q := 0) HM7.out rfl).mono ?_
                rintro e w' ⟨rfl, rfl⟩
                go_wp2_with fail
                refine (m_told HM7.out).mono ?_
                rintro e w8 ⟨ao8, c8, rfl, ho, hM, hb⟩
                have HM8 := Lib.hid hM
                clear hM ho hb HM7
                go_wp2_with fail
                refine (awake_any _).mono ?_
                rintro e w9 ⟨rfl, hb⟩
                have HM9 := Lib.hid (HM8.out.below hb)
                clear hb HM8
                go_wp2_with fail
                go_ret
                exact ⟨rfl, HM9.out.2⟩
              | true =>
                by_cases hsq : seq = 0
                · subst hsq
                  go_wp2_with fail
                  refine (m_put HM.out (HR1.out.below HM.out.2 rfl) pS0_sq (p_yes hi1 hi5 HOK.out)).mono ?_
                  rintro e w4 ⟨rfl, hM, hb⟩
                  have HM4 := Lib.hid hM
                  clear hM hb HM
                  have HM := HM4
                  clear HM4
                  go_wp2_with fail
                  have hSS : (pS1 l1) = [(newPS 1).put l1 false, newPS 2] := rfl
                  refine (m_wants HM.out rfl).mono ?_
                  rintro e w5 ⟨ao5, c5, rfl, ho, hM, hb⟩
                  obtain ⟨wl, hwl⟩ : ∃ l, wantsP 10 (pS1 l1) [] = l := ⟨_, rfl⟩
                  have hle : wl.length ≤ 2 := by rw [← hwl]; exact wantsP_len 10 (pS1 l1) []
                  have HM5 := Lib.hid hM
                  rw [hwl] at ho ⊢
                  have HW5 := Lib.hid (ownI ho)
                  have HWL := Lib.hid hwl
                  have HLE := Lib.hid hle
                  clear hM ho hb HM hwl hle
                  go_wp2_with fail
                  refine (m_seq (q := 1) HM5.out rfl).mono ?_
                  rintro e w' ⟨rfl, rfl⟩
                  go_wp2_with fail
                  refine (m_put HM5.out (HR2.out.below HM5.out.2 rfl) (pS1_sq l1) (p_seq rfl (by show (1 : Int) ≠ 2; decide))).mono ?_
                  rintro e x1 ⟨rfl, hM, hb⟩
                  have HX1 := Lib.hid hM
                  have HR1_ := Lib.hid (HW5.out.below (hb rfl) rfl)
                  clear hM hb HM5 HW5
                  go_wp2_with fail
                  refine (m_put HX1.out (HR2.out.below HX1.out.2 rfl) (pS1_sq l1) (p_out rfl (by decide))).mono ?_
                  rintro e x2 ⟨rfl, hM, hb⟩
                  have HX2 := Lib.hid hM
                  have HR2_ := Lib.hid (HR1_.out.below (hb rfl) rfl)
                  clear hM hb HX1 HR1_
                  go_wp2_with fail
                  refine (m_put HX2.out (HR2.out.below HX2.out.2 rfl) (pS1_sq l1) (p_out rfl (by decide))).mono ?_
                  rintro e x3 ⟨rfl, hM, hb⟩
                  have HX3 := Lib.hid hM
                  have HR3_ := Lib.hid (HR2_.out.below (hb rfl) rfl)
                  clear hM hb HX2 HR2_
                  go_wp2_with fail
                  refine (m_put HX3.out (rdE_nil _) (pS1_sq l1) (p_emp rfl)).mono ?_
                  rintro e x4 ⟨rfl, hM, hb⟩
                  have HX4 := Lib.hid hM
                  have HR4_ := Lib.hid (HR3_.out.below (hb rfl) rfl)
                  clear hM hb HX3 HR3_
                  go_wp2_with fail
                  refine (m_put HX4.out (HR2.out.below HX4.out.2 rfl) (pS1_sq l1) (p_wait hi1)).mono ?_
                  rintro e x5 ⟨rfl, hM, hb⟩
                  have HX5 := Lib.hid hM
                  have HR5_ := Lib.hid (HR4_.out.below (hb rfl) rfl)
                  clear hM hb HX4 HR4_
                  go_wp2_with fail
                  refine (m_wants HX5.out HWL.out).mono ?_
                  rintro e w6 ⟨ao6, c6, rfl, ho, hM, hb⟩
                  have HM6 := Lib.hid hM
                  have HW6 := Lib.hid (ownI ho)
                  have HV6 := Lib.hid (HR5_.out.below hb rfl)
                  clear hM ho hb HX5 HR5_
                  have hle6 : wl.length ≤ 1000 := by have := HLE.out; omega
                  go_wp2_with fail
                  refine (same_any ao6 ao5 _ _ c6 c5 wl wl _ HW6.out HV6.out hle6 hle6).mono ?_
                  rintro e w7 ⟨rfl, hd⟩
                  have HM7 := Lib.hid (HM6.out.below (hd.below _))
                  clear hd HM6 HW6 HV6
                  rw [show sameB wl wl = true from by simp [sameB]]
                  go_wp2_with fail
                  refine (m_seq (q := 1) HM7.out rfl).mono ?_
                  rintro e w' ⟨rfl, rfl⟩
                  go_wp2_with fail
                  refine (m_told HM7.out).mono ?_
                  rintro e w8 ⟨ao8, c8, rfl, ho, hM, hb⟩
                  have HM8 := Lib.hid hM
                  clear hM ho hb HM7
                  go_wp2_with fail
                  refine (awake_any _).mono ?_
                  rintro e w9 ⟨rfl, hb⟩
                  have HM9 := Lib.hid (HM8.out.below hb)
                  clear hb HM8
                  go_wp2_with fail
                  go_ret
                  exact ⟨rfl, HM9.out.2⟩
                · have e5 : (seq == 0) = false := by rw [beq_eq_false_iff_ne]; exact hsq
                  go_wp2_with fail
                  refine (m_put HM.out (HR1.out.below HM.out.2 rfl) pS0_sq (p_no (.inr (.inr (.inr hsq))))).mono ?_
                  rintro e w4 ⟨rfl, hM, hb⟩
                  have HM4 := Lib.hid hM
                  clear hM hb HM
                  have HM := HM4
                  clear HM4
                  go_wp2_with fail
                  have hSS : pS0 = [newPS 1, newPS 2] := rfl
                  refine (m_wants HM.out rfl).mono ?_
                  rintro e w5 ⟨ao5, c5, rfl, ho, hM, hb⟩
                  obtain ⟨wl, hwl⟩ : ∃ l, wantsP 10 pS0 [] = l := ⟨_, rfl⟩
                  have hle : wl.length ≤ 2 := by rw [← hwl]; exact wantsP_len 10 pS0 []
                  have HM5 := Lib.hid hM
                  rw [hwl] at ho ⊢
                  have HW5 := Lib.hid (ownI ho)
                  have HWL := Lib.hid hwl
                  have HLE := Lib.hid hle
                  clear hM ho hb HM hwl hle
                  go_wp2_with fail
                  refine (m_seq (q := 0) HM5.out rfl).mono ?_
                  rintro e w' ⟨rfl, rfl⟩
                  go_wp2_with fail
                  refine (m_put HM5.out (HR2.out.below HM5.out.2 rfl) pS0_sq (p_seq rfl (by show (0 : Int) ≠ 1; decide))).mono ?_
                  rintro e x1 ⟨rfl, hM, hb⟩
                  have HX1 := Lib.hid hM
                  have HR1_ := Lib.hid (HW5.out.below (hb rfl) rfl)
                  clear hM hb HM5 HW5
                  go_wp2_with fail
                  refine (m_put HX1.out (HR2.out.below HX1.out.2 rfl) pS0_sq (p_out rfl (by decide))).mono ?_
                  rintro e x2 ⟨rfl, hM, hb⟩
                  have HX2 := Lib.hid hM
                  have HR2_ := Lib.hid (HR1_.out.below (hb rfl) rfl)
                  clear hM hb HX1 HR1_
                  go_wp2_with fail
                  refine (m_put HX2.out (HR2.out.below HX2.out.2 rfl) pS0_sq (p_out rfl (by decide))).mono ?_
                  rintro e x3 ⟨rfl, hM, hb⟩
                  have HX3 := Lib.hid hM
                  have HR3_ := Lib.hid (HR2_.out.below (hb rfl) rfl)
                  clear hM hb HX2 HR2_
                  go_wp2_with fail
                  refine (m_put HX3.out (rdE_nil _) pS0_sq (p_emp rfl)).mono ?_
                  rintro e x4 ⟨rfl, hM, hb⟩
                  have HX4 := Lib.hid hM
                  have HR4_ := Lib.hid (HR3_.out.below (hb rfl) rfl)
                  clear hM hb HX3 HR3_
                  go_wp2_with fail
                  refine (m_wants HX4.out HWL.out).mono ?_
                  rintro e w6 ⟨ao6, c6, rfl, ho, hM, hb⟩
                  have HM6 := Lib.hid hM
                  have HW6 := Lib.hid (ownI ho)
                  have HV6 := Lib.hid (HR4_.out.below hb rfl)
                  clear hM ho hb HX4 HR4_
                  have hle6 : wl.length ≤ 1000 := by have := HLE.out; omega
                  go_wp2_with fail
                  refine (same_any ao6 ao5 _ _ c6 c5 wl wl _ HW6.out HV6.out hle6 hle6).mono ?_
                  rintro e w7 ⟨rfl, hd⟩
                  have HM7 := Lib.hid (HM6.out.below (hd.below _))
                  clear hd HM6 HW6 HV6
                  rw [show sameB wl wl = true from by simp [sameB]]
                  go_wp2_with fail
                  refine (m_seq (q := 0) HM7.out rfl).mono ?_
                  rintro e w' ⟨rfl, rfl⟩
                  go_wp2_with fail
                  refine (m_told HM7.out).mono ?_
                  rintro e w8 ⟨ao8, c8, rfl, ho, hM, hb⟩
                  have HM8 := Lib.hid hM
                  clear hM ho hb HM7
                  go_wp2_with fail
                  refine (awake_any _).mono ?_
                  rintro e w9 ⟨rfl, hb⟩
                  have HM9 := Lib.hid (HM8.out.below hb)
                  clear hb HM8
                  go_wp2_with fail
                  go_ret
                  exact ⟨rfl, HM9.out.2⟩
end Go.Proofs.Ytjacebnjmhbcbaa
