/- The walk of LeaseLives. -/
import Derived.Test.YtnnkebhpmegkfaaLease5
namespace Go.Proofs.Ytnnkebhpmegkfaa
open Go.RowKit
set_option linter.unusedVariables false

def bools (l : List Bool) : List Value := l.map Value.bool
theorem bools_length (l : List Bool) : (bools l).length = l.length := by simp [bools]
theorem bools_get (l : List Bool) (i : Nat) (h : i < l.length) : (bools l)[i]? = some (.bool l[i]) := by simp [bools, h]

def LInv (t : Tab) (T now : Int) : Prop := t.ok ∧ t.workers = 1 ∧ t.term = T ∧ t.at 1 = ⟨1, 1, now + T⟩
theorem LInv.is1 {t : Tab} {T now : Int} (h : LInv t T now) : t.is 1 = true := by simp only [Tab.is, h.2.1]; decide
theorem LInv.put {t : Tab} {T now now' : Int} (h : LInv t T now) (ho : (t.put 1 ((t.at 1).on (now' + t.term))).ok) (hle : now ≤ now') : LInv (t.put 1 ((t.at 1).on (now' + t.term))) T now' := by
  refine ⟨ho, h.2.1, h.2.2.1, ?_⟩
  rw [Tab.at_put h.1 1 1 _ h.is1, if_pos rfl, h.2.2.2, h.2.2.1]
  unfold L1.on
  simp; omega
theorem LInv.seen1 {t : Tab} {T now now' : Int} (h : LInv t T now) (hle : now ≤ now') (h0 : 0 ≤ now') (h1 : now' ≤ 2000) : (t.seen 1 1 now').2 = true ∧ LInv (t.seen 1 1 now').1 T now' := by
  have ho := h.1.seen 1 1 now'
  rcases seen_cases t 1 1 now' with ⟨h1', e⟩ | ⟨h1', e⟩
  · exfalso
    simp only [okSeen, h.is1, h.2.2.2, okTime, Bool.true_and] at h1'
    rw [Bool.and_eq_false_iff, decide_eq_false_iff_not, decide_eq_false_iff_not] at h1'
    rcases h1' with h9 | h9
    · exact h9 ⟨by decide, trivial⟩
    · omega
  · rw [e] at ho ⊢; exact ⟨rfl, h.put ho hle⟩
theorem LInv.seen2 {t : Tab} {T now : Int} (h : LInv t T now) (now' : Int) : t.seen 1 2 now' = (t, false) := by
  rcases seen_cases t 1 2 now' with ⟨h1', e⟩ | ⟨h1', e⟩
  · exact e
  · exfalso
    simp only [okSeen, h.2.2.2, Bool.and_eq_true, decide_eq_true_eq] at h1'
    omega
theorem LInv.hello1 {t : Tab} {T now now' : Int} (h : LInv t T now) (hle : now ≤ now') (h0 : 0 ≤ now') (h1 : now' ≤ 2000) : LInv (t.hello 1 1 now').1 T now' := by
  have ho := h.1.hello 1 1 now'
  rcases hello_cases t 1 1 now' with ⟨h1', e⟩ | ⟨h1', h2, e⟩ | ⟨h1', h2, e⟩ | ⟨h1', h2, e⟩
  · exfalso
    simp only [okHello, h.is1, okTime, Bool.true_and] at h1'
    rw [Bool.and_eq_false_iff, decide_eq_false_iff_not, decide_eq_false_iff_not] at h1'
    omega
  · rw [h.2.2.2] at h2; simp at h2
  · rw [e] at ho ⊢; exact h.put ho hle
  · rw [h.2.2.2] at h2; simp at h2
theorem lnew (T : Int) (h1 : 1 ≤ T) (h2 : T ≤ 20) : (Tab.new 1 T).live 1 0 = false ∧ LInv ((Tab.new 1 T).hello 1 1 0).1 T 0 := by
  have ho := Tab.new_ok 1 T (by decide) (by decide) h1 (by omega)
  refine ⟨by simp [Tab.live, Tab.at, Tab.new, L1.zero], ?_⟩
  have ho2 := ho.hello 1 1 0
  have hz : (Tab.new 1 T).at 1 = L1.zero := rfl
  rcases hello_cases (Tab.new 1 T) 1 1 0 with ⟨h1', e⟩ | ⟨h1', h2', e⟩ | ⟨h1', h2', e⟩ | ⟨h1', h2', e⟩
  · exfalso; revert h1'; simp [okHello, okTime, Tab.is, Tab.new]
  · rw [hz] at h2'; simp [L1.zero] at h2'
  · rw [hz] at h2'; simp [L1.zero] at h2'
  · rw [e] at ho2 ⊢
    refine ⟨ho2, rfl, rfl, ?_⟩
    have his : (Tab.new 1 T).is 1 = true := by simp [Tab.is, Tab.new]
    show ((Tab.new 1 T).put 1 _).at 1 = _
    rw [Tab.at_put ho 1 1 _ his, if_pos rfl, hz]
    simp [L1.on, L1.told, L1.zero, Tab.new]; omega
theorem LInv.fin {t : Tab} {T now : Int} (h : LInv t T now) (k : Int) : t.live 1 (now + k) = decide (k ≤ T) ∧ t.epoch 1 = 1 := by
  unfold Tab.live Tab.epoch
  rw [h.is1, if_pos rfl, h.2.2.2]
  refine ⟨?_, rfl⟩
  simp

set_option maxHeartbeats 2000000 in
theorem lives_walk (a : Option Addr) (n cap : Nat) (b : Option Addr) (m bcap : Nat) (l : List Int) (s : List Bool) (term look : Int) (w : World) (hr : Rd w a n cap (ints l)) (hr2 : Rd w b m bcap (bools s)) :
    Calls Try.prog 4 #[.int .i64 term, .slice a n cap, .slice b m bcap, .int .i64 look] w fun e w' => e = .returned (.bool true) ∧ Below w.heap.size w w' := by
  have hn := hr.1
  rw [ints_length] at hn
  subst hn
  have hn2 := hr2.1
  rw [bools_length] at hn2
  subst hn2
  have hcap := hr.2.1
  have hm := hr.2.2.1
  have hcap2 := hr2.2.1
  have hm2 := hr2.2.2.1
  unfold maxLen at hm hm2
  have HR := Lib.hid hr
  have HR2 := Lib.hid hr2
  clear hr hr2
  by_cases h6 : 30 < l.length
  · have hd : decide (30 < (l.length : Int)) = true := by simp; omega
    go_enter Try.func4, Try.ntmps4
    go_wp2_with fail
    refine (awake_any _).mono ?_
    rintro e w' ⟨rfl, hb1⟩
    have HB1 := Lib.hid hb1
    clear hb1
    go_wp2_with fail
    go_ret
    exact ⟨rfl, HB1.out⟩
  by_cases h7 : 30 < s.length
  · have hd : decide (30 < (l.length : Int)) = false := by simp; omega
    have hd2 : decide (30 < (s.length : Int)) = true := by simp; omega
    go_enter Try.func4, Try.ntmps4
    go_wp2_with fail
    refine (awake_any _).mono ?_
    rintro e w' ⟨rfl, hb1⟩
    have HB1 := Lib.hid hb1
    clear hb1
    go_wp2_with fail
    go_ret
    exact ⟨rfl, HB1.out⟩
  have hd : decide (30 < (l.length : Int)) = false := by simp; omega
  have hd2 : decide (30 < (s.length : Int)) = false := by simp; omega
  have hlb := lowI_bd term 20 (by decide)
  have hlw := lowI_bd look 60 (by decide)
  obtain ⟨T, hT⟩ : ∃ T, 1 + lowI term 20 = T := ⟨_, rfl⟩
  have hTb : 1 ≤ T ∧ T ≤ 20 := by omega
  obtain ⟨ln1, ln2⟩ := lnew T hTb.1 hTb.2
  have LN2 := Lib.hid ln2
  have LN0 := Lib.hid (Tab.new_ok 1 T (by decide) (by decide) hTb.1 (by omega))
  have LN1 := Lib.hid ln1
  clear ln2 ln1
  go_enter Try.func4, Try.ntmps4
  go_wp2_with fail
  refine (low_any term 20 _ (by omega) (by omega)).mono ?_
  rintro e w' ⟨rfl, rfl⟩
  go_wp2_with fail
  refine (new_good w 1 T (by decide) (by decide) hTb.1 (by omega)).mono ?_
  rintro e w1 ⟨rfl, htb, hb⟩
  have HT1 := Lib.hid htb
  have HB1 := Lib.hid hb
  clear htb hb
  have HL := Lib.hid (live_any w1 w.heap.size (Tab.new 1 T) 1 0 HT1.out LN0.out)
  rw [LN1.out] at HL
  go_wp2_with fail
  refine (HL.out).mono ?_
  rintro e w' ⟨rfl, rfl⟩
  go_wp2_with fail
  refine (hello_any w1 w.heap.size (Tab.new 1 T) 1 1 0 HT1.out LN0.out).mono ?_
  rintro e w2 ⟨rfl, htb, hgr⟩
  have HT2 := Lib.hid htb
  have HB2 := Lib.hid (Below.of_grown HB1.out hgr (Nat.le_refl _))
  clear htb hgr
  generalize ((Tab.new 1 T).hello 1 1 0).2.1 = z1
  generalize ((Tab.new 1 T).hello 1 1 0).2.2 = z2
  go_wp2_with fail
  go_loopw [8, 11, 12] (fun r o i wr => ∃ k : Nat, k ≤ l.length ∧ i = .int .i64 k ∧ r = .bool false ∧ ∃ t now, o = .int .i64 now ∧ RowKit.Hid (LInv t T now) ∧ (0 ≤ now ∧ now ≤ 15 * k) ∧ RowKit.Hid (TB wr w.heap.size t) ∧ RowKit.Hid (Below w.heap.size w wr)) (fun _ _ i _ => l.length - (intOf i).toNat)
  case atStart => exact ⟨0, by omega, rfl, rfl, _, 0, rfl, LN2.out, by omega, HT2.out, HB2.out⟩
  case round =>
    obtain ⟨k, hk, rfl, rfl, t, now, rfl, HI, hnb, HT, HB⟩ := hrel
    by_cases hlt : k < l.length
    · obtain ⟨bb, off, rfl, hbl, hc1⟩ := (HR.out.below HB.out rfl).2.2.2.2 k hlt
      rw [ints_get l k hlt] at hc1
      generalize l[k] = x at *
      have hxb := lowI_bd x 15 (by decide)
      obtain ⟨nx, hnx⟩ : ∃ nx, now + lowI x 15 = nx := ⟨_, rfl⟩
      have hnxb : now ≤ nx ∧ nx ≤ 15 * k + 15 := by omega
      have hs1 := HI.out.seen1 hnxb.1 (by omega) (by omega)
      have HS1 := Lib.hid (seen_any wr w.heap.size t 1 1 nx HT.out HI.out.1)
      rw [hs1.1] at HS1
      have HI1 := Lib.hid hs1.2
      have HI2 := Lib.hid (HI.out.hello1 hnxb.1 (by omega) (by omega))
      have HH := Lib.hid (hello_any wr w.heap.size t 1 1 nx HT.out HI.out.1)
      clear hs1 hbl
      by_cases hks : k < s.length
      · obtain ⟨bb2, off2, rfl, hbl2, hc2⟩ := (HR2.out.below HB.out rfl).2.2.2.2 k hks
        rw [bools_get s k hks] at hc2
        clear hbl2
        cases hsk : s[k] with
        | true =>
          rw [hsk] at hc2
          clear hsk
          go_wp2_with fail
          refine (low_any x 15 _ (by omega) (by omega)).mono ?_
          rintro e w' ⟨rfl, rfl⟩
          go_wp2_with fail
          refine HS1.out.mono ?_
          rintro e w3 ⟨rfl, htb, hgr⟩
          have HT3 := Lib.hid htb
          have HB3 := Lib.hid (Below.of_grown HB.out hgr (Nat.le_refl _))
          clear htb hgr hc1 hc2
          have HS2 := Lib.hid (seen_any w3 w.heap.size _ 1 2 nx HT3.out HI1.out.1)
          rw [HI1.out.seen2 nx] at HS2
          go_wp2_with fail
          refine HS2.out.mono ?_
          rintro e w4 ⟨rfl, htb, hgr⟩
          have HT4 := Lib.hid htb
          have HB4 := Lib.hid (Below.of_grown HB3.out hgr (Nat.le_refl _))
          clear htb hgr
          go_wp2_with fail
          go_roundw
          case rel => exact ⟨k + 1, by omega, by go_num, rfl, _, nx, rfl, HI1.out, by omega, HT4.out, HB4.out⟩
          case measure => simp [intOf]; omega
        | false =>
          rw [hsk] at hc2
          clear hsk
          go_wp2_with fail
          refine (low_any x 15 _ (by omega) (by omega)).mono ?_
          rintro e w' ⟨rfl, rfl⟩
          go_wp2_with fail
          refine HH.out.mono ?_
          rintro e w3 ⟨rfl, htb, hgr⟩
          have HT3 := Lib.hid htb
          have HB3 := Lib.hid (Below.of_grown HB.out hgr (Nat.le_refl _))
          clear htb hgr hc1 HS1 HH
          generalize (t.hello 1 1 nx).2.1 = z3 at *
          generalize (t.hello 1 1 nx).2.2 = z4 at *
          go_wp2_with fail
          go_roundw
          case rel => exact ⟨k + 1, by omega, by go_num, rfl, _, nx, rfl, HI2.out, by omega, HT3.out, HB3.out⟩
          case measure => simp [intOf]; omega
      · have hdk : decide (k < s.length) = false := by simp; omega
        go_wp2_with fail
        refine (low_any x 15 _ (by omega) (by omega)).mono ?_
        rintro e w' ⟨rfl, rfl⟩
        go_wp2_with fail
        refine HH.out.mono ?_
        rintro e w3 ⟨rfl, htb, hgr⟩
        have HT3 := Lib.hid htb
        have HB3 := Lib.hid (Below.of_grown HB.out hgr (Nat.le_refl _))
        clear htb hgr hc1 HS1 HH
        generalize (t.hello 1 1 nx).2.1 = z3 at *
        generalize (t.hello 1 1 nx).2.2 = z4 at *
        go_wp2_with fail
        go_roundw
        case rel => exact ⟨k + 1, by omega, by go_num, rfl, _, nx, rfl, HI2.out, by omega, HT3.out, HB3.out⟩
        case measure => simp [intOf]; omega
    · obtain rfl : k = l.length := by omega
      obtain ⟨lk, hlk⟩ : ∃ lk, lowI look 60 = lk := ⟨_, rfl⟩
      have hlkb : 0 ≤ lk ∧ lk < 60 := by omega
      have HL1 := Lib.hid (live_any wr w.heap.size t 1 (now + lk) HT.out HI.out.1)
      have HE1 := Lib.hid (epoch_any wr w.heap.size t 1 HT.out HI.out.1)
      rw [(HI.out.fin lk).1] at HL1
      rw [(HI.out.fin lk).2] at HE1
      go_wp2_with fail
      refine (low_any look 60 _ (by omega) (by omega)).mono ?_
      rintro e w' ⟨rfl, rfl⟩
      go_wp2_with fail
      refine (HL1.out).mono ?_
      rintro e w' ⟨rfl, rfl⟩
      go_wp2_with fail
      refine (HE1.out).mono ?_
      rintro e w' ⟨rfl, rfl⟩
      go_wp2_with fail
      refine (awake_any _).mono ?_
      rintro e w3 ⟨rfl, hb3⟩
      have HB3 := Lib.hid (HB.out.trans (hb3.mono HB.out.size))
      clear hb3
      go_wp2_with fail
      go_ret
      exact ⟨rfl, HB3.out⟩
end Go.Proofs.Ytnnkebhpmegkfaa
