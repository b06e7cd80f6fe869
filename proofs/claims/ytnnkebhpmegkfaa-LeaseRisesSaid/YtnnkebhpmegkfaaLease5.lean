/- The walks of LeaseCounts, LeaseNone and LeaseLives. -/
import Derived.Test.YtnnkebhpmegkfaaLease4
namespace Go.Proofs.Ytnnkebhpmegkfaa
open Go.RowKit
set_option linter.unusedVariables false

set_option maxHeartbeats 400000 in
theorem low_any (x n : Int) (w : World) (h1 : 1 ≤ n) (h2 : n ≤ 9223372036854775807) :
    Calls Try.prog 16 #[.int .i64 x, .int .i64 n] w fun e w' => e = .returned (.int .i64 (lowI x n)) ∧ w = w' := by
  go_enter Try.func16, Try.ntmps16
  go_wp2
  go_ret
  exact ⟨ret_int (low_eq x n h1 h2), rfl⟩

def ints (l : List Int) : List Value := l.map (Value.int .i64)
theorem ints_length (l : List Int) : (ints l).length = l.length := by simp [ints]
theorem ints_get (l : List Int) (i : Nat) (h : i < l.length) : (ints l)[i]? = some (.int .i64 l[i]) := by simp [ints, h]
/-- what came in, as numbers -/
theorem rd_of_row64 {w : World} {a : Option Addr} {len cap : Nat} {zs : List Int} (h : (a = none ∧ len = 0 ∧ cap = 0 ∧ zs = []) ∨
    ∃ x, a = some x ∧ len ≤ cap ∧ cap ≤ maxLen ∧ zs.length = cap ∧ (∀ i, i < zs.length → w.cell? (x.add i) = some (.int .i64 (zs.getD i 0))) ∧ ∀ n ∈ zs, (Lit.int .i64 n).wf = true) :
    ∃ l : List Int, Rd w a len cap (ints l) ∧ ∀ b ∈ l, -9223372036854775808 ≤ b ∧ b ≤ 9223372036854775807 := by
  rcases h with ⟨rfl, rfl, rfl, rfl⟩ | ⟨x, rfl, hl, hm, hz, hcell, hwz⟩
  · exact ⟨[], rd_nil _ _ rfl, by simp⟩
  · refine ⟨zs.take len, ⟨by simp [ints]; omega, hl, hm, by simp, fun i hi => ?_⟩, fun b hb => bounds_i64 (hwz b (List.mem_of_mem_take hb))⟩
    obtain ⟨b, off, spot⟩ := x
    have hc := hcell i (by omega)
    have hc0 := hcell 0 (by omega)
    have hspot : spot = none := by simpa [Addr.add] using World.cell?_spot hc0
    subst hspot
    rw [Addr.add_lit] at hc
    refine ⟨b, off, rfl, cell?_lt hc, ?_⟩
    rw [hc]
    have hzi : i < zs.length := by omega
    simp [ints, hi, hzi, List.getD, List.getElem?_eq_getElem hzi]

def CInv (t : Tab) (n m : Int) : Prop := t.ok ∧ t.workers = 5 ∧ t.term = 9 ∧ n = (t.at 4).epoch ∧ m = (t.at 4).life ∧ t.at 5 = L1.zero
theorem cinv_new : CInv (Tab.new 5 9) 0 0 := ⟨Tab.new_ok 5 9 (by decide) (by decide) (by decide) (by decide), rfl, rfl, rfl, rfl, rfl⟩
theorem CInv.bd {t : Tab} {n m : Int} (h : CInv t n m) : 0 ≤ n ∧ n ≤ m ∧ m ≤ 2147483647 := by
  obtain ⟨ho, _, _, rfl, rfl, _⟩ := h
  exact ⟨(ho.at 4).epoch0, (ho.at 4).epoch1, (ho.at 4).life1⟩
theorem CInv.fin {t : Tab} {n m : Int} (h : CInv t n m) : t.epoch 4 = n ∧ t.life 4 = m ∧ t.epoch 5 = 0 := by
  obtain ⟨ho, hw, _, rfl, rfl, h5⟩ := h
  have h4 : t.is 4 = true := by simp only [Tab.is, hw]; decide
  have h5' : t.is 5 = true := by simp only [Tab.is, hw]; decide
  unfold Tab.epoch Tab.life
  rw [if_pos h4, if_pos h4, if_pos h5', h5]
  exact ⟨rfl, rfl, rfl⟩
theorem counts_step (t : Tab) (n m f now : Int) (h : CInv t n m) (hf : 1 ≤ f ∧ f ≤ 20) (hn : 0 ≤ now ∧ now ≤ 2000) :
    (m < f → (t.hello 4 f now).2.1 = n + 1 ∧ (t.hello 4 f now).2.2 = 0 ∧ CInv (t.hello 4 f now).1 (n + 1) f) ∧
    (f < m → (t.hello 4 f now).2.1 = 0 ∧ (t.hello 4 f now).2.2 = 4 ∧ CInv (t.hello 4 f now).1 n m) ∧
    (f = m → (t.hello 4 f now).2.1 = n ∧ (t.hello 4 f now).2.2 = 0 ∧ CInv (t.hello 4 f now).1 n m) := by
  have hok2 := h.1.hello 4 f now
  obtain ⟨ho, hw, ht, rfl, rfl, h5⟩ := h
  have h4 : t.is 4 = true := by simp only [Tab.is, hw]; decide
  have hok : okHello t 4 f now = true := by
    simp only [okHello, h4, Bool.true_and, okTime, Bool.and_eq_true, decide_eq_true_eq]; omega
  have hp4 := fun x => Tab.at_put ho 4 4 x h4
  have hp5 := fun x => Tab.at_put ho 4 5 x h4
  rcases hello_cases t 4 f now with ⟨h1, e⟩ | ⟨h1, h2, e⟩ | ⟨h1, h2, e⟩ | ⟨h1, h2, e⟩
  · rw [hok] at h1; simp at h1
  · rw [e] at hok2 ⊢
    exact ⟨fun h => by omega, fun _ => ⟨rfl, rfl, ho, hw, ht, rfl, rfl, h5⟩, fun h => by omega⟩
  · rw [e] at hok2 ⊢
    refine ⟨fun h => by omega, fun h => by omega, fun _ => ⟨rfl, rfl, hok2, hw, ht, ?_, ?_, ?_⟩⟩
    · show _ = ((t.put 4 _).at 4).epoch
      rw [hp4, if_pos rfl]; rfl
    · show _ = ((t.put 4 _).at 4).life
      rw [hp4, if_pos rfl]; rfl
    · show (t.put 4 _).at 5 = _
      rw [hp5, if_neg (by decide)]; exact h5
  · rw [e] at hok2 ⊢
    have htold : (t.at 4).told f = ⟨f, (t.at 4).epoch + 1, (t.at 4).till⟩ := by unfold L1.told; rw [if_pos h2]
    refine ⟨fun _ => ⟨rfl, rfl, hok2, hw, ht, ?_, ?_, ?_⟩, fun h => by omega, fun h => by omega⟩
    · show _ = ((t.put 4 _).at 4).epoch
      rw [hp4, if_pos rfl, htold]; rfl
    · show _ = ((t.put 4 _).at 4).life
      rw [hp4, if_pos rfl, htold]; rfl
    · show (t.put 4 _).at 5 = _
      rw [hp5, if_neg (by decide)]; exact h5

set_option maxHeartbeats 1600000 in
theorem counts_walk (a : Option Addr) (n cap : Nat) (l : List Int) (now : Int) (w : World) (hr : Rd w a n cap (ints l)) :
    Calls Try.prog 3 #[.slice a n cap, .int .i64 now] w fun e w' => e = .returned (.bool true) ∧ Below w.heap.size w w' := by
  have hn := hr.1
  rw [ints_length] at hn
  subst hn
  have hcap := hr.2.1
  have hm := hr.2.2.1
  unfold maxLen at hm
  have HR := Lib.hid hr
  clear hr
  by_cases h6 : 60 < l.length
  · go_enter Try.func3, Try.ntmps3
    go_wp2_with fail
    refine (awake_any _).mono ?_
    rintro e w' ⟨rfl, hb1⟩
    have HB1 := Lib.hid hb1
    clear hb1
    go_wp2_with fail
    go_ret
    exact ⟨rfl, HB1.out⟩
  have h60 : l.length ≤ 60 := by omega
  clear h6
  go_enter Try.func3, Try.ntmps3
  go_wp2_with fail
  refine (new_good w 5 9 (by decide) (by decide) (by decide) (by decide)).mono ?_
  rintro e w1 ⟨rfl, htb, hb⟩
  have HT1 := Lib.hid htb
  have HB1 := Lib.hid hb
  clear htb hb
  have hd : decide (60 < (l.length : Int)) = false := by simp; omega
  have hlw := lowI_bd now 1000 (by decide)
  go_wp2_with fail
  go_loopw [4, 7, 8, 9, 10, 11, 12] (fun r n m i _ _ _ wr => ∃ k : Nat, k ≤ l.length ∧ i = .int .i64 k ∧ r = .bool false ∧ ∃ t nn mm, n = .int .i64 nn ∧ m = .int .i64 mm ∧ RowKit.Hid (CInv t nn mm) ∧ RowKit.Hid (TB wr w.heap.size t) ∧ RowKit.Hid (Below w.heap.size w wr)) (fun _ _ _ i _ _ _ _ => l.length - (intOf i).toNat)
  case atStart => exact ⟨0, by omega, rfl, rfl, Tab.new 5 9, 0, 0, rfl, rfl, cinv_new, HT1.out, HB1.out⟩
  case round =>
    obtain ⟨k, hk, rfl, rfl, t, nn, mm, rfl, rfl, HC, HT, HB⟩ := hrel
    have hnb : 0 ≤ nn ∧ nn ≤ mm ∧ mm ≤ 2147483647 := HC.out.bd
    by_cases hlt : k < l.length
    · obtain ⟨b, off, rfl, hbl, hc1⟩ := (HR.out.below HB.out rfl).2.2.2.2 k hlt
      rw [ints_get l k hlt] at hc1
      generalize l[k] = x at *
      have hfb := lowI_bd x 20 (by decide)
      obtain ⟨f, hf⟩ : ∃ f, 1 + lowI x 20 = f := ⟨_, rfl⟩
      have hf1 : 1 ≤ f ∧ f ≤ 20 := by omega
      have HH := Lib.hid (hello_any wr w.heap.size t 4 f (lowI now 1000 + k) HT.out HC.out.1)
      obtain ⟨s1, s2, s3⟩ := counts_step t nn mm f (lowI now 1000 + k) HC.out hf1 (by omega)
      rcases Int.lt_trichotomy f mm with h1 | h1 | h1
      · obtain ⟨r1, r2, r3⟩ := s2 h1
        rw [r1, r2] at HH
        have R3 := Lib.hid r3
        clear s1 s2 s3 r1 r2 r3 hbl
        have hb1 : (mm < f) = False := by simp; omega
        go_wp2_with fail
        refine (low_any x 20 _ (by omega) (by omega)).mono ?_
        rintro e w' ⟨rfl, rfl⟩
        go_wp2_with fail
        refine (low_any now 1000 _ (by omega) (by omega)).mono ?_
        rintro e w' ⟨rfl, rfl⟩
        go_wp2_with fail
        refine HH.out.mono ?_
        rintro e w2 ⟨rfl, htb, hgr⟩
        have HT2 := Lib.hid htb
        have HB2 := Lib.hid (Below.of_grown HB.out hgr (Nat.le_refl _))
        clear htb hgr hc1
        go_wp2_with fail
        go_roundw
        case rel => exact ⟨k + 1, by omega, by go_num, rfl, _, _, _, rfl, rfl, R3.out, HT2.out, HB2.out⟩
        case measure => simp [intOf]; omega
      · obtain ⟨r1, r2, r3⟩ := s3 h1
        rw [r1, r2] at HH
        have R3 := Lib.hid r3
        subst h1
        clear s1 s2 s3 r1 r2 r3 hbl
        go_wp2_with fail
        refine (low_any x 20 _ (by omega) (by omega)).mono ?_
        rintro e w' ⟨rfl, rfl⟩
        go_wp2_with fail
        refine (low_any now 1000 _ (by omega) (by omega)).mono ?_
        rintro e w' ⟨rfl, rfl⟩
        go_wp2_with fail
        refine HH.out.mono ?_
        rintro e w2 ⟨rfl, htb, hgr⟩
        have HT2 := Lib.hid htb
        have HB2 := Lib.hid (Below.of_grown HB.out hgr (Nat.le_refl _))
        clear htb hgr hc1
        go_wp2_with fail
        go_roundw
        case rel => exact ⟨k + 1, by omega, by go_num, rfl, _, _, _, rfl, rfl, R3.out, HT2.out, HB2.out⟩
        case measure => simp [intOf]; omega
      · obtain ⟨r1, r2, r3⟩ := s1 h1
        rw [r1, r2] at HH
        have R3 := Lib.hid r3
        clear s1 s2 s3 r1 r2 r3 hbl
        go_wp2_with fail
        refine (low_any x 20 _ (by omega) (by omega)).mono ?_
        rintro e w' ⟨rfl, rfl⟩
        go_wp2_with fail
        refine (low_any now 1000 _ (by omega) (by omega)).mono ?_
        rintro e w' ⟨rfl, rfl⟩
        go_wp2_with fail
        refine HH.out.mono ?_
        rintro e w2 ⟨rfl, htb, hgr⟩
        have HT2 := Lib.hid htb
        have HB2 := Lib.hid (Below.of_grown HB.out hgr (Nat.le_refl _))
        clear htb hgr hc1
        go_wp2_with fail
        go_roundw
        case rel => exact ⟨k + 1, by omega, by go_num, rfl, _, _, _, rfl, rfl, R3.out, HT2.out, HB2.out⟩
        case measure => simp [intOf]; omega
    · obtain rfl : k = l.length := by omega
      obtain ⟨c1, c2, c3⟩ := HC.out.fin
      have HE1 := Lib.hid (epoch_any wr w.heap.size t 4 HT.out HC.out.1)
      have HE2 := Lib.hid (life_any wr w.heap.size t 4 HT.out HC.out.1)
      have HE3 := Lib.hid (epoch_any wr w.heap.size t 5 HT.out HC.out.1)
      rw [c1] at HE1
      rw [c2] at HE2
      rw [c3] at HE3
      clear c1 c2 c3
      go_wp2_with fail
      refine HE1.out.mono ?_
      rintro e w' ⟨rfl, rfl⟩
      go_wp2_with fail
      refine HE2.out.mono ?_
      rintro e w' ⟨rfl, rfl⟩
      go_wp2_with fail
      refine HE3.out.mono ?_
      rintro e w' ⟨rfl, rfl⟩
      go_wp2_with fail
      refine (awake_any _).mono ?_
      rintro e w3 ⟨rfl, hb3⟩
      have HB3 := Lib.hid (HB.out.trans (hb3.mono HB.out.size))
      clear hb3
      go_wp2_with fail
      go_ret
      exact ⟨rfl, HB3.out⟩

theorem none_walk (b : Bool) (v n tt : Int) (w : World) :
    Calls Try.prog 7 #[.agg #[.bool b, .int .i64 v, .int .i64 n, .int .i64 tt]] w fun e w' => e = .returned (.bool true) ∧ Below w.heap.size w w' := by
  go_enter Try.func7, Try.ntmps7
  go_wp2_with fail
  refine (hello_nil _ v n tt).mono ?_
  rintro e w' ⟨rfl, rfl⟩
  go_wp2_with fail
  refine (seen_nil _ v n tt).mono ?_
  rintro e w' ⟨rfl, rfl⟩
  go_wp2_with fail
  refine (live_nil _ v tt).mono ?_
  rintro e w' ⟨rfl, rfl⟩
  go_wp2_with fail
  refine (epoch_nil _ v).mono ?_
  rintro e w' ⟨rfl, rfl⟩
  go_wp2_with fail
  refine (life_nil _ v).mono ?_
  rintro e w' ⟨rfl, rfl⟩
  go_wp2_with fail
  refine (awake_any _).mono ?_
  rintro e w3 ⟨rfl, hb3⟩
  have HB3 := Lib.hid ((((Below.refl w.heap.size w).alloc (Nat.le_refl _) _)).trans (hb3.mono (by simp)) : Below w.heap.size w w3)
  clear hb3
  go_wp2_with fail
  go_ret
  exact ⟨rfl, HB3.out⟩
end Go.Proofs.Ytnnkebhpmegkfaa
