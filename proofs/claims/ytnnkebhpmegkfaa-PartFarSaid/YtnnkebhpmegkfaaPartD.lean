/- The walks of edit.Distance, text.Asked and of the statement PartFar: no word of a shard is nearer to a text than the least that is told. -/
import Derived.Test.YtnnkebhpmegkfaaPartB
import Derived.Test.YtnnkebhpmegkfaaRunes1
namespace Go.Proofs.Ytnnkebhpmegkfaa
open Go.RowKit
set_option linter.unusedVariables false

/-- the distance of two texts -/
def distT (s t : ByteArray) : Int := match runesO s, runesO t with
  | some a, some b => distL a b
  | _, _ => -1
theorem distL_bd (a b : List Int) : 0 ≤ distL a b ∧ distL a b ≤ (a.length : Int) + b.length := by
  have := rowAt_bd a b b.length a.length (Nat.le_refl _)
  unfold distL rowsL; omega
theorem rFrom_le (s : ByteArray) : ∀ (b pos : Nat) (acc l : List Int), rFrom s b pos acc = some l → l.length ≤ acc.length + b
  | 0, _, acc, l, h => by simp [rFrom] at h; rw [← h]; omega
  | b + 1, pos, acc, l, h => by
    unfold rFrom at h
    split at h
    · split at h
      · cases h
      · have := rFrom_le s b _ _ l h
        simp at this; omega
    · simp at h; rw [← h]; omega
theorem runesO_le {s : ByteArray} {l : List Int} (h : runesO s = some l) : l.length ≤ s.size := by
  have := rFrom_le s s.size 0 [] l h
  simpa using this
theorem distT_none1 {s t : ByteArray} (h : runesO s = none) : distT s t = -1 := by unfold distT; rw [h]
theorem distT_none2 {s t : ByteArray} (h : runesO t = none) : distT s t = -1 := by unfold distT; rw [h]; cases runesO s <;> rfl
theorem distT_some {s t : ByteArray} {a b : List Int} (h : runesO s = some a) (k : runesO t = some b) : distT s t = distL a b := by unfold distT; rw [h, k]
set_option maxHeartbeats 1000000 in
theorem distance_any (s t : ByteArray) (w : World) (h1 : s.size ≤ 1000) (h2 : t.size ≤ 1000) :
    Calls Try.prog 46 #[.string s, .string t] w fun e w' => e = .returned (.int .i64 (distT s t)) ∧ Below w.heap.size w w' := by
  have HA := Lib.hid (fun W => runes_any s W (by omega))
  have HB := Lib.hid (fun W => runes_any t W (by omega))
  obtain ⟨d, hd⟩ : ∃ d, distT s t = d := ⟨_, rfl⟩
  rw [hd]
  have HD := Lib.hid hd
  clear hd
  cases hs : runesO s with
  | none =>
    rw [hs] at HA
    have HSO := Lib.hid hs
    clear hs
    go_enter Try.func46, Try.ntmps46
    go_wp2_with fail
    refine (HA.out _).mono ?_
    rintro e w1 ⟨rfl, hb⟩
    have HB1 := Lib.hid hb
    clear hb
    cases ht : runesO t with
    | none =>
      rw [ht] at HB
      have HTO := Lib.hid ht
      clear ht
      go_wp2_with fail
      refine (HB.out _).mono ?_
      rintro e w2 ⟨rfl, hb⟩
      have HB2 := Lib.hid (HB1.out.trans (hb.mono HB1.out.size))
      clear hb
      go_wp2_with fail
      go_ret
      obtain rfl : d = -1 := by rw [← HD.out]; exact distT_none1 HSO.out
      exact ⟨rfl, HB2.out⟩
    | some lb =>
      rw [ht] at HB
      have HTO := Lib.hid ht
      clear ht
      go_wp2_with fail
      refine (HB.out _).mono ?_
      rintro e w2 ⟨⟨ao, c, rfl, hr⟩, hb⟩
      have HB2 := Lib.hid (HB1.out.trans (hb.mono HB1.out.size))
      clear hb hr
      go_wp2_with fail
      go_ret
      obtain rfl : d = -1 := by rw [← HD.out]; exact distT_none1 HSO.out
      exact ⟨rfl, HB2.out⟩
  | some la =>
    have hl1 := runesO_le hs
    rw [hs] at HA
    have HSO := Lib.hid hs
    clear hs
    go_enter Try.func46, Try.ntmps46
    go_wp2_with fail
    refine (HA.out _).mono ?_
    rintro e w1 ⟨⟨ao, c, rfl, hr⟩, hb⟩
    have HB1 := Lib.hid hb
    have HR1 := Lib.hid hr
    clear hb hr
    cases ht : runesO t with
    | none =>
      rw [ht] at HB
      have HTO := Lib.hid ht
      clear ht
      go_wp2_with fail
      refine (HB.out _).mono ?_
      rintro e w2 ⟨rfl, hb⟩
      have HB2 := Lib.hid (HB1.out.trans (hb.mono HB1.out.size))
      clear hb
      go_wp2_with fail
      go_ret
      obtain rfl : d = -1 := by rw [← HD.out]; exact distT_none2 HTO.out
      exact ⟨rfl, HB2.out⟩
    | some lb =>
      have hl2 := runesO_le ht
      rw [ht] at HB
      have HTO := Lib.hid ht
      clear ht
      go_wp2_with fail
      refine (HB.out _).mono ?_
      rintro e w2 ⟨⟨ao2, c2, rfl, hr⟩, hb⟩
      have HB2 := Lib.hid (HB1.out.trans (hb.mono HB1.out.size))
      have HR2 := Lib.hid hr
      have HR3 := Lib.hid (HR1.out.below hb rfl)
      clear hb hr
      go_wp2_with fail
      refine (runesD_any _ _ _ la _ _ _ lb _ HR3.out HR2.out (by omega) (by omega)).mono ?_
      rintro e w3 ⟨rfl, hb⟩
      have HB3 := Lib.hid (HB2.out.trans (hb.mono HB2.out.size))
      clear hb
      go_wp2_with fail
      go_ret
      obtain rfl : d = distL la lb := by rw [← HD.out]; exact distT_some HSO.out HTO.out
      exact ⟨rfl, HB3.out⟩
/-- may a text be asked for? -/
def askedB (s : ByteArray) : Bool := decide (0 ≤ tLen s) && decide (tLen s ≤ 16)
theorem asked_any (s : ByteArray) (w : World) (hs : s.size ≤ maxLen) :
    Calls Try.prog 44 #[.string s] w fun e w' => e = .returned (.bool (askedB s)) ∧ Below w.heap.size w w' := by
  unfold askedB
  have H := Lib.hid (len_any s w hs)
  generalize tLen s = z at *
  by_cases h1 : 0 ≤ z
  · have d1 : decide (0 ≤ z) = true := by simp; omega
    rw [d1]
    go_enter Try.func44, Try.ntmps44
    go_wp2_with fail
    refine (H.out).mono ?_
    rintro e w' ⟨rfl, hb⟩
    go_wp2_with fail
    go_ret
    exact ⟨by simp, hb⟩
  · have d1 : decide (0 ≤ z) = false := by simp; omega
    rw [d1]
    go_enter Try.func44, Try.ntmps44
    go_wp2_with fail
    refine (H.out).mono ?_
    rintro e w' ⟨rfl, hb⟩
    go_wp2_with fail
    go_ret
    exact ⟨by simp, hb⟩
/-- No word of a shard is nearer than the least. -/
theorem far_law (ks : List KeyL) (s t : ByteArray) (hg : goodE ks = 0) (hw : isWord s = true) (ha : askedB t = true) : 0 ≤ leastN ks (ofN ks s) (tLen t) ∧ leastN ks (ofN ks s) (tLen t) ≤ distT s t := by
  obtain ⟨h1, h2, _, _⟩ := len_in ks s hg hw
  have hs := runesO_len s
  have ht := runesO_len t
  have hw2 : 1 ≤ tLen s := by unfold isWord at hw; simp at hw; exact hw.1
  have ha2 : 0 ≤ tLen t := by unfold askedB at ha; simp at ha; exact ha.1
  unfold distT
  cases hrs : runesO s with
  | none => rw [hrs] at hs; simp only at hs; omega
  | some la =>
    cases hrt : runesO t with
    | none => rw [hrt] at ht; simp only at ht; omega
    | some lb =>
      rw [hrs] at hs; rw [hrt] at ht
      simp only at hs ht ⊢
      have hd := distL_ge la lb
      unfold leastN
      generalize lenLo ks (ofN ks s) = lo at *
      generalize lenHi ks (ofN ks s) = hi at *
      split
      · omega
      · split
        · omega
        · split <;> omega
set_option maxRecDepth 100000 in
set_option maxHeartbeats 4000000 in
theorem far_walk (a : Option Addr) (n cap : Nat) (l : List KeyL) (s t : ByteArray) (w : World) (hr : RdE KeyL.cells 2 w a n cap l) (hs : ∀ x ∈ l, x.2.size ≤ maxLen) (h1 : s.size ≤ maxLen) (h2 : t.size ≤ maxLen) :
    Calls Try.prog 13 #[.slice a n cap, .string s, .string t] w fun e w' => e = .returned (.bool true) ∧ Below w.heap.size w w' := by
  have hn := hr.1
  subst hn
  have hcap := hr.2.1
  have hcm := hr.2.2.1
  have H1 := Lib.hid h1
  have H2 := Lib.hid h2
  unfold maxLen at hcm h1 h2
  have HG := Lib.hid (great12_any a l.length cap l w hr hs)
  have HR := Lib.hid hr
  have HS := Lib.hid hs
  have HB := Lib.hid (Below.refl w.heap.size w)
  clear hr hs
  go_enter Try.func13, Try.ntmps13
  go_wp2_with fail
  refine (HG.out).mono ?_
  rintro e v1 ⟨rfl, hb⟩
  have HB1 := Lib.hid (HB.out.trans (hb.mono HB.out.size))
  clear hb HB
  clear HG
  obtain ⟨g1, hg1⟩ : ∃ g, greatK l = g := ⟨_, rfl⟩
  rw [hg1]
  have Hg1 := Lib.hid hg1
  clear hg1
  cases g1
  case true =>
    go_wp2_with fail
    refine (awake12_any _).mono ?_
    rintro e v2 ⟨rfl, hb⟩
    have HB2 := Lib.hid (HB1.out.trans (hb.mono HB1.out.size))
    clear hb HB1
    go_wp2_with fail
    go_ret
    exact ⟨rfl, HB2.out⟩
  case false =>
    by_cases s1 : 100 < s.size
    ·
      have d1 : decide (100 < s.size) = true := by simpa using s1
      go_wp2_with fail
      refine (awake12_any _).mono ?_
      rintro e v2 ⟨rfl, hb⟩
      have HB2 := Lib.hid (HB1.out.trans (hb.mono HB1.out.size))
      clear hb HB1
      go_wp2_with fail
      go_ret
      exact ⟨rfl, HB2.out⟩
    ·
      have d1 : decide (100 < s.size) = false := by simpa using s1
      by_cases s2 : 100 < t.size
      ·
        have d2 : decide (100 < t.size) = true := by simpa using s2
        go_wp2_with fail
        refine (awake12_any _).mono ?_
        rintro e v2 ⟨rfl, hb⟩
        have HB2 := Lib.hid (HB1.out.trans (hb.mono HB1.out.size))
        clear hb HB1
        go_wp2_with fail
        go_ret
        exact ⟨rfl, HB2.out⟩
      ·
        have d2 : decide (100 < t.size) = false := by simpa using s2
        go_wp2_with fail
        refine (good_any a l.length cap l _ (HR.out.below HB1.out rfl) HS.out).mono ?_
        rintro e v2 ⟨rfl, hb⟩
        have HB2 := Lib.hid (HB1.out.trans (hb.mono HB1.out.size))
        clear hb HB1
        obtain ⟨g3, hg3⟩ : ∃ g, goodE l = g := ⟨_, rfl⟩
        rw [hg3]
        have Hg3 := Lib.hid hg3
        clear hg3
        by_cases g30 : g3 = 0
        ·
          subst g30
          go_wp2_with fail
          refine (word_any s _ H1.out).mono ?_
          rintro e v3 ⟨rfl, hb⟩
          have HB3 := Lib.hid (HB2.out.trans (hb.mono HB2.out.size))
          clear hb HB2
          obtain ⟨g4, hg4⟩ : ∃ g, isWord s = g := ⟨_, rfl⟩
          rw [hg4]
          have Hg4 := Lib.hid hg4
          clear hg4
          cases g4
          case false =>
            go_wp2_with fail
            refine (awake12_any _).mono ?_
            rintro e v4 ⟨rfl, hb⟩
            have HB4 := Lib.hid (HB3.out.trans (hb.mono HB3.out.size))
            clear hb HB3
            go_wp2_with fail
            go_ret
            exact ⟨rfl, HB4.out⟩
          case true =>
            go_wp2_with fail
            refine (asked_any t _ H2.out).mono ?_
            rintro e v4 ⟨rfl, hb⟩
            have HB4 := Lib.hid (HB3.out.trans (hb.mono HB3.out.size))
            clear hb HB3
            obtain ⟨g5, hg5⟩ : ∃ g, askedB t = g := ⟨_, rfl⟩
            rw [hg5]
            have Hg5 := Lib.hid hg5
            clear hg5
            cases g5
            case false =>
              go_wp2_with fail
              refine (awake12_any _).mono ?_
              rintro e v5 ⟨rfl, hb⟩
              have HB5 := Lib.hid (HB4.out.trans (hb.mono HB4.out.size))
              clear hb HB4
              go_wp2_with fail
              go_ret
              exact ⟨rfl, HB5.out⟩
            case true =>
              have h5 := ((goodE_iff l).1 Hg3.out).1
              have HF := Lib.hid (far_law l s t Hg3.out Hg4.out Hg5.out)
              have hz : -1000 ≤ tLen t ∧ tLen t ≤ 1000 := by have := Hg5.out; unfold askedB at this; simp at this; omega
              have HZ := Lib.hid hz
              clear hz
              have HKB := Lib.hid (show ∀ x ∈ l, -1000 ≤ x.1 ∧ x.1 ≤ 1000 from by intro x hx; have := ((goodE_iff l).1 Hg3.out).2.1 x hx; unfold badK at this; simp at this; omega)
              have hdb : -1 ≤ distT s t := by have := HF.out; omega
              go_wp2_with fail
              refine (of_any a l.length cap l s _ (HR.out.below HB4.out rfl) (by omega) H1.out).mono ?_
              rintro e v5 ⟨rfl, hb⟩
              have HB5 := Lib.hid (HB4.out.trans (hb.mono HB4.out.size))
              clear hb HB4
              go_wp2_with fail
              refine (len_any t _ H2.out).mono ?_
              rintro e v6 ⟨rfl, hb⟩
              have HB6 := Lib.hid (HB5.out.trans (hb.mono HB5.out.size))
              clear hb HB5
              go_wp2_with fail
              refine (least_any a l.length cap l (ofN l s) (tLen t) _ (HR.out.below HB6.out rfl) (by omega) HKB.out HZ.out).mono ?_
              rintro e w' ⟨rfl, rfl⟩
              obtain ⟨d, hd⟩ : ∃ g, leastN l (ofN l s) (tLen t) = g := ⟨_, rfl⟩
              have HF2 := HF.out
              rw [hd] at HF2 ⊢
              clear hd HF
              obtain ⟨f1, f2⟩ := HF2
              have e1 : decide (0 ≤ d) = true := by simp; omega
              go_wp2_with fail
              refine (distance_any s t _ (by omega) (by omega)).mono ?_
              rintro e v7 ⟨rfl, hb⟩
              have HB7 := Lib.hid (HB6.out.trans (hb.mono HB6.out.size))
              clear hb HB6
              generalize distT s t = dd at *
              have e2 : decide (d ≤ dd) = true := by simp; omega
              go_wp2_with fail
              refine (awake12_any _).mono ?_
              rintro e v8 ⟨rfl, hb⟩
              have HB8 := Lib.hid (HB7.out.trans (hb.mono HB7.out.size))
              clear hb HB7
              go_wp2_with fail
              go_ret
              exact ⟨rfl, HB8.out⟩
        ·
          have g0' : (g3 == 0) = false := by simpa using g30
          have g0'' : (g3 != 0) = true := by simpa using g30
          go_wp2_with fail
          refine (awake12_any _).mono ?_
          rintro e v3 ⟨rfl, hb⟩
          have HB3 := Lib.hid (HB2.out.trans (hb.mono HB2.out.size))
          clear hb HB2
          go_wp2_with fail
          go_ret
          exact ⟨rfl, HB3.out⟩
end Go.Proofs.Ytnnkebhpmegkfaa
