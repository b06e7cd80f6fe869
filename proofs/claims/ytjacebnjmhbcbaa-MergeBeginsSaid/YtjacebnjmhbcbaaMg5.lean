/- The walk of ahead. -/
import Derived.Test.YtjacebnjmhbcbaaMg4
namespace Go.Proofs.Ytjacebnjmhbcbaa
open Go.RowKit
set_option linter.unusedVariables false

theorem aheadP_lt : ∀ {S : List PS} {i b : Nat}, aheadP S i = some b → b < i ∧ ∃ s, S[b]? = some s ∧ 0 < s.waits.length
  | S, 0, b, h => by simp [aheadP] at h
  | S, i + 1, b, h => by
    unfold aheadP at h
    cases hs : S[i]? with
    | none =>
      simp only [hs] at h
      obtain ⟨h1, h2⟩ := aheadP_lt h
      exact ⟨by omega, h2⟩
    | some s =>
      cases ha : aheadP S i with
      | none =>
        simp only [hs, ha] at h
        split at h
        · cases h
        · cases h
          exact ⟨by omega, s, hs, by omega⟩
      | some c =>
        obtain ⟨h1, h2⟩ := aheadP_lt ha
        simp only [hs, ha] at h
        split at h
        · cases h; exact ⟨by omega, h2⟩
        · split at h
          · cases h; exact ⟨by omega, h2⟩
          · split at h
            · cases h; exact ⟨by omega, s, hs, by omega⟩
            · cases h; exact ⟨by omega, h2⟩
theorem aheadP_0 {S : List PS} {i : Nat} {s : PS} (hs : S[i]? = some s) (h0 : s.waits.length = 0) : aheadP S (i + 1) = aheadP S i := by
  rw [aheadP]
  cases ha : aheadP S i <;> simp [hs, h0]
theorem aheadP_1 {S : List PS} {i : Nat} {s : PS} (hs : S[i]? = some s) (h0 : 0 < s.waits.length) (ha : aheadP S i = none) : aheadP S (i + 1) = some i := by
  rw [aheadP]
  simp only [hs, ha]
  rw [if_neg (by omega)]
theorem aheadP_2 {S : List PS} {i b : Nat} {s t : PS} (hs : S[i]? = some s) (h0 : 0 < s.waits.length) (ha : aheadP S i = some b) (ht : S[b]? = some t) : aheadP S (i + 1) = if kless (headP s) (headP t) = true then some i else some b := by
  rw [aheadP]
  simp only [hs, ha, ht]
  rw [if_neg (by omega)]
theorem head_at {s : PS} (h : 0 < s.waits.length) : s.waits[0]? = some (headP s) := by
  unfold headP
  cases hw : s.waits with
  | nil => rw [hw] at h; simp at h
  | cons a l => rfl
/-- what is read of the first item that waits -/
def HdAt (W : World) (m : MS) (x : KeyL) : Prop := ∃ wb wo, m.wa = some ⟨wb, wo, none⟩ ∧ W.cell? ⟨wb, wo, none⟩ = some (.int .i64 x.1) ∧ W.cell? ⟨wb, wo + 1, none⟩ = some (.string x.2)
theorem ShOK.head {B : Nat} {W : World} {to : Option Nat} {m : MS} {s : PS} (h : ShOK B W to m s) (h0 : 0 < s.waits.length) : HdAt W m (headP s) := by
  obtain ⟨b, o, e, h1, h2, _⟩ := h.waits.atI (head_at h0)
  rw [Nat.zero_mul, Nat.add_zero] at h1 h2
  exact ⟨b, o, e, h1, h2⟩
theorem HdAt.below {W W' : World} {m : MS} {x : KeyL} (h : HdAt W m x) (hb : Below W.heap.size W W') : HdAt W' m x := by
  obtain ⟨b, o, e, h1, h2⟩ := h
  exact ⟨b, o, e, (hb.cell (p := ⟨b, o, none⟩) (cell?_lt h1)).trans h1, (hb.cell (p := ⟨b, o + 1, none⟩) (cell?_lt h2)).trans h2⟩
def optPtr (gs : Nat) : Option Nat → Value
  | none => .pointer none
  | some b => .pointer (some ⟨gs, b * 7, none⟩)
def AhR (w : World) (S : List PS) (gs : Nat) (v3 v11 : Value) (wr : World) : Prop := ∃ i : Nat, i ≤ S.length ∧ v11 = .int .i64 i ∧ v3 = optPtr gs (aheadP S i) ∧ RowKit.Hid (Below w.heap.size w wr)
set_option maxRecDepth 100000 in
set_option maxHeartbeats 4000000 in
theorem ahead_any (B p gs c : Nat) (n : Int) (S : List PS) (T : List KeyL) (w : World) (h : MG B w p n S T) (hgs : w.cell? ⟨p, 1, none⟩ = some (.slice (some ⟨gs, 0, none⟩) S.length c)) :
    Calls Try.prog 44 #[.pointer (some ⟨p, 0, none⟩)] w fun e w' => e = .returned (optPtr gs (aheadP S S.length)) ∧ Below w.heap.size w w' := by
  have hbd := h.bd
  obtain ⟨gs', c', M, ta, tc, c0, c1, c2, hml, hMM, hok, hT, hp, hg, hSc⟩ := h.read
  rw [hgs] at c1
  simp only [Option.some.injEq, Value.slice.injEq, Addr.mk.injEq, and_true, true_and] at c1
  obtain ⟨rfl, rfl⟩ := c1
  have HMM := Lib.hid hMM
  have HOK := Lib.hid hok
  obtain ⟨R, hR⟩ : ∃ R, aheadP S S.length = R := ⟨_, rfl⟩
  rw [hR]
  have HR := Lib.hid hR
  obtain ⟨m, hm⟩ : ∃ m, S.length = m := ⟨_, rfl⟩
  rw [hm] at hml hgs hbd
  have HM := Lib.hid hm
  have HML := Lib.hid hml
  have HC1 := Lib.hid hgs
  have hm6 := hbd.1
  clear hR hm hml hMM hok hT c0 c2 h hbd hSc
  have hq2 := fun o W => sptr_eq gs o W
  go_enter Try.func44, Try.ntmps44
  go_wp2_with fail
  clear hgs
  go_loopw [3, 11] (fun v3 v11 wr => AhR w S gs v3 v11 wr) (fun _ v => fun _ => m - (intOf v).toNat)
  case atStart => exact ⟨0, Nat.zero_le _, rfl, rfl, Below.refl _ _⟩
  case round =>
    obtain ⟨i, hi, rfl, rfl, HB⟩ := hrel
    rw [HM.out] at hi
    have c1 := (HB.out.cell (p := ⟨p, 1, none⟩) hp).trans HC1.out
    by_cases hlt : i < m
    · obtain ⟨s, hs⟩ : ∃ s, S[i]? = some s := ⟨_, List.getElem?_eq_getElem (show i < S.length by have := HM.out; omega)⟩
      obtain ⟨ms, hms⟩ : ∃ ms, M[i]? = some ms := ⟨_, List.getElem?_eq_getElem (show i < M.length by have := HML.out; omega)⟩
      obtain ⟨_, _, _, _, _, _, s6⟩ := ((HMM.out i ms hms).below HB.out hg).c2
      have hok := HOK.out i ms s hms hs
      have hwl := hok.wlen
      rw [hwl] at s6
      have HS := Lib.hid hs
      have HOK1 := Lib.hid hok
      clear hs hok hms hwl
      have k1 : (0 : Int) ≤ (i : Int) := by omega
      have k2 : (i : Int) < (m : Int) := by omega
      by_cases h0 : s.waits.length = 0
      · have HA := Lib.hid (aheadP_0 HS.out h0)
        rw [h0] at s6
        clear h0
        generalize aheadP S i = r at *
        go_wp2_with fail
        go_quiet (fail)
        go_wp2_with fail
        go_roundw
        case rel => exact ⟨i + 1, by rw [HM.out]; omega, by go_num, by rw [HA.out], below_drewN HB.out _⟩
        case measure => simp [intOf]; omega
      · have h1 : 0 < s.waits.length := by omega
        have hd := HOK1.out.head h1
        obtain ⟨wb, wo, ea, x0, x1⟩ := hd.below HB.out
        rw [ea] at s6
        have d1 : decide (0 < s.waits.length) = true := by simpa using h1
        have d2 : (0 : Int) < (s.waits.length : Int) := by omega
        cases ha : aheadP S i with
        | none =>
          have HA := Lib.hid (aheadP_1 HS.out h1 ha)
          clear ha h0 h1 hd ea x0 x1
          generalize s.waits.length = wl at *
          unfold optPtr
          go_wp2_with fail
          go_quiet (fail)
          go_wp2_with fail
          go_roundw
          case rel => exact ⟨i + 1, by rw [HM.out]; omega, by go_num, by rw [HA.out]; rfl, below_drewN HB.out _⟩
          case measure => simp [intOf]; omega
        | some b =>
          obtain ⟨hbi, t, ht, ht0⟩ := aheadP_lt ha
          have HA := Lib.hid (aheadP_2 HS.out h1 ha ht)
          obtain ⟨mb, hmb⟩ : ∃ mb, M[b]? = some mb := ⟨_, List.getElem?_eq_getElem (show b < M.length by have := HML.out; omega)⟩
          obtain ⟨_, _, _, _, _, _, r6⟩ := ((HMM.out b mb hmb).below HB.out hg).c2
          have hokb := HOK.out b mb t hmb ht
          rw [hokb.wlen] at r6
          obtain ⟨vb, vo, eb, y0, y1⟩ := (hokb.head ht0).below HB.out
          rw [eb] at r6
          have d3 : (0 : Int) < (t.waits.length : Int) := by omega
          have HLS := Lib.hid (itless (headP s) (headP t))
          have HGB : RowKit.Hid (Below wr.heap.size wr wr.drew) := below_drewN (Below.refl _ _) 1
          have HXS := Lib.hid (And.intro s6 (And.intro x0 (And.intro x1 (And.intro r6 (And.intro y0 y1)))))
          clear ha h0 hd ea eb ht hmb hokb d1
          generalize headP s = x at *
          generalize headP t = y at *
          generalize s.waits.length = wl at *
          generalize t.waits.length = tl at *
          obtain ⟨lb, hlb⟩ : ∃ lb, kless x y = lb := ⟨_, rfl⟩
          rw [hlb] at HA HLS
          clear hlb
          have hg' := cell?_lt s6
          have hwb' := cell?_lt x0
          have hvb' := cell?_lt y0
          unfold optPtr
          go_wp2_with fail
          go_region_held3 (fun w' => w'.cell? ⟨gs, i * 7 + 6, none⟩ = some (.slice (some ⟨wb, wo, none⟩) wl ms.wc) ∧ w'.cell? ⟨wb, wo, none⟩ = some (.int .i64 x.1) ∧ w'.cell? ⟨wb, wo + 1, none⟩ = some (.string x.2) ∧ w'.cell? ⟨gs, b * 7 + 6, none⟩ = some (.slice (some ⟨vb, vo, none⟩) tl mb.wc) ∧ w'.cell? ⟨vb, vo, none⟩ = some (.int .i64 y.1) ∧ w'.cell? ⟨vb, vo + 1, none⟩ = some (.string y.2)) (exact ⟨(HGB.out.cell (p := ⟨gs, i * 7 + 6, none⟩) hg').trans HXS.out.1, (HGB.out.cell (p := ⟨wb, wo, none⟩) hwb').trans HXS.out.2.1, (HGB.out.cell (p := ⟨wb, wo + 1, none⟩) hwb').trans HXS.out.2.2.1, (HGB.out.cell (p := ⟨gs, b * 7 + 6, none⟩) hg').trans HXS.out.2.2.2.1, (HGB.out.cell (p := ⟨vb, vo, none⟩) hvb').trans HXS.out.2.2.2.2.1, (HGB.out.cell (p := ⟨vb, vo + 1, none⟩) hvb').trans HXS.out.2.2.2.2.2⟩) (first | (go_at_call 12; refine (HLS.out _).mono ?_; rintro e u ⟨rfl, hb⟩; have HSN := Lib.hid (HGB.out.trans (hb.mono HGB.out.size)); clear HGB; have HGB := HSN; clear HSN; clear hb))
          all_goals
            have HB2 := Lib.hid (HB.out.trans (HGB.out.mono HB.out.size))
            cases lb with
            | true =>
              rw [if_pos rfl] at HA
              go_wp2_with fail
              go_roundw
              case rel => exact ⟨i + 1, by rw [HM.out]; omega, by go_num, by rw [HA.out]; rfl, HB2.out⟩
              case measure => simp [intOf]; omega
            | false =>
              rw [if_neg (by exact Bool.false_ne_true)] at HA
              go_wp2_with fail
              go_roundw
              case rel => exact ⟨i + 1, by rw [HM.out]; omega, by go_num, by rw [HA.out]; rfl, HB2.out⟩
              case measure => simp [intOf]; omega
    · have him : i = m := by omega
      subst him
      clear hlt
      have hr : aheadP S i = R := by rw [← HR.out, HM.out]
      rw [hr]
      clear hr HR
      go_wp2_with fail
      go_ret
      exact ⟨rfl, HB.out⟩
end Go.Proofs.Ytjacebnjmhbcbaa
