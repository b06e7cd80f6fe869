/- The walk of the statement PartRises: a greater key is no lesser shard's. -/
import Derived.Test.YtnnkebhpmegkfaaPart7
namespace Go.Proofs.Ytnnkebhpmegkfaa
open Go.RowKit
set_option linter.unusedVariables false

theorem ofN_word {l : List KeyL} {s : ByteArray} (h : isWord s = true) : ofN l s = (belowN l (tLen s, s) : Int) := by unfold ofN; rw [if_pos h]
set_option maxRecDepth 100000 in
set_option maxHeartbeats 4000000 in
theorem rises_law (a : Option Addr) (n cap : Nat) (l : List KeyL) (s t : ByteArray) (w : World) (hr : RdE KeyL.cells 2 w a n cap l) (hs : ∀ x ∈ l, x.2.size ≤ maxLen) (h1 : s.size ≤ maxLen) (h2 : t.size ≤ maxLen) :
    Calls Try.prog 10 #[.slice a n cap, .string s, .string t] w fun e w' => e = .returned (.bool true) ∧ Below w.heap.size w w' := by
  have hn := hr.1
  subst hn
  have hcap := hr.2.1
  have hcm := hr.2.2.1
  unfold maxLen at hcm h1 h2
  have HG := Lib.hid (great12_any a l.length cap l w hr hs)
  have HR := Lib.hid hr
  have HB := Lib.hid (Below.refl w.heap.size w)
  clear hr hs
  go_enter Try.func10, Try.ntmps10
  go_wp2_with fail
  refine (HG.out).mono ?_
  rintro e v1 ⟨rfl, hb⟩
  have HB1 := Lib.hid (HB.out.trans (hb.mono HB.out.size))
  clear hb HB
  clear HG
  obtain ⟨g, hg⟩ : ∃ g, greatK l = g := ⟨_, rfl⟩
  rw [hg]
  cases g
  case true =>
    clear hg
    go_wp2_with fail
    refine (awake12_any _).mono ?_
    rintro e v2 ⟨rfl, hb⟩
    have HB2 := Lib.hid (HB1.out.trans (hb.mono HB1.out.size))
    clear hb HB1
    go_wp2_with fail
    go_ret
    exact ⟨rfl, HB2.out⟩
  case false =>
    obtain ⟨hl, hs⟩ := greatK_false hg
    have HS := Lib.hid (fun x hx => Nat.le_trans (hs x hx) (by decide : 100 ≤ 1000000))
    clear hs hg
    by_cases s1 : 100 < s.size
    ·
      have d1 : decide (100 < s.size) = true := by simpa using s1
      go_wp2_with fail
      refine (awake12_any _).mono ?_
      rintro e v2 ⟨rfl, hb⟩
      have HB2 := Lib.hid (HB1.out.trans (hb.mono HB1.out.size))
      clear hb HB1
      go_wp2_with fail
      go_ret
      exact ⟨rfl, HB2.out⟩
    ·
      have d1 : decide (100 < s.size) = false := by simpa using s1
      have s1' : s.size ≤ 1000000 := by omega
      by_cases s2 : 100 < t.size
      ·
        have d2 : decide (100 < t.size) = true := by simpa using s2
        go_wp2_with fail
        refine (awake12_any _).mono ?_
        rintro e v2 ⟨rfl, hb⟩
        have HB2 := Lib.hid (HB1.out.trans (hb.mono HB1.out.size))
        clear hb HB1
        go_wp2_with fail
        go_ret
        exact ⟨rfl, HB2.out⟩
      ·
        have d2 : decide (100 < t.size) = false := by simpa using s2
        have s2' : t.size ≤ 1000000 := by omega
        go_wp2_with fail
        refine (good_any a l.length cap l _ (HR.out.below HB1.out rfl) HS.out).mono ?_
        rintro e v2 ⟨rfl, hb⟩
        have HB2 := Lib.hid (HB1.out.trans (hb.mono HB1.out.size))
        clear hb HB1
        obtain ⟨g, hg⟩ : ∃ g, goodE l = g := ⟨_, rfl⟩
        rw [hg]
        clear hg
        by_cases g0 : g = 0
        ·
          subst g0
          go_wp2_with fail
          refine (word_any s _ s1').mono ?_
          rintro e v3 ⟨rfl, hb⟩
          have HB3 := Lib.hid (HB2.out.trans (hb.mono HB2.out.size))
          clear hb HB2
          obtain ⟨b1, hb1⟩ : ∃ b, isWord s = b := ⟨_, rfl⟩
          rw [hb1]
          have HW1 := Lib.hid hb1
          clear hb1
          cases b1
          case false =>
            go_wp2_with fail
            refine (awake12_any _).mono ?_
            rintro e v4 ⟨rfl, hb⟩
            have HB4 := Lib.hid (HB3.out.trans (hb.mono HB3.out.size))
            clear hb HB3
            go_wp2_with fail
            go_ret
            exact ⟨rfl, HB4.out⟩
          case true =>
            go_wp2_with fail
            refine (word_any t _ s2').mono ?_
            rintro e v4 ⟨rfl, hb⟩
            have HB4 := Lib.hid (HB3.out.trans (hb.mono HB3.out.size))
            clear hb HB3
            obtain ⟨b2, hb2⟩ : ∃ b, isWord t = b := ⟨_, rfl⟩
            rw [hb2]
            have HW2 := Lib.hid hb2
            clear hb2
            cases b2
            case false =>
              go_wp2_with fail
              refine (awake12_any _).mono ?_
              rintro e v5 ⟨rfl, hb⟩
              have HB5 := Lib.hid (HB4.out.trans (hb.mono HB4.out.size))
              clear hb HB4
              go_wp2_with fail
              go_ret
              exact ⟨rfl, HB5.out⟩
            case true =>
              go_wp2_with fail
              refine (len_any s _ s1').mono ?_
              rintro e v5 ⟨rfl, hb⟩
              have HB5 := Lib.hid (HB4.out.trans (hb.mono HB4.out.size))
              clear hb HB4
              go_wp2_with fail
              refine (len_any t _ s2').mono ?_
              rintro e v6 ⟨rfl, hb⟩
              have HB6 := Lib.hid (HB5.out.trans (hb.mono HB5.out.size))
              clear hb HB5
              have hl1 := tLen_bd s
              have hl2 := tLen_bd t
              have HO1 := Lib.hid (ofN_word (l := l) HW1.out)
              have HO2 := Lib.hid (ofN_word (l := l) HW2.out)
              have HM := Lib.hid (belowN_mono l (tLen s, s) (tLen t, t))
              have hbn := belowN_le l (tLen s, s)
              have hbn2 := belowN_le l (tLen t, t)
              generalize tLen s = z1 at *
              generalize tLen t = z2 at *
              generalize belowN l (z1, s) = m1 at *
              generalize belowN l (z2, t) = m2 at *
              have hz := HB6.out.size
              go_wp2_with fail
              refine (kless_any z1 s z2 t _).mono ?_
              rintro e v9 ⟨rfl, hb⟩
              have HB9 := Lib.hid (((HB6.out.alloc hz (.cells #[.int .i64 z1, .string s] 58)).alloc (by simp; omega) (.cells #[.int .i64 z2, .string t] 58)).trans (hb.mono (by simp; omega)))
              clear hb hz
              have HKK := Lib.hid (show kless (z1, s) (z2, t) = decide (cmpK z1 s z2 t < 0) from rfl)
              cases hd : decide (cmpK z1 s z2 t < 0)
              case false =>
                go_wp2_with fail
                refine (of_any a l.length cap l s _ (HR.out.below HB9.out rfl) (by omega) s1').mono ?_
                rintro e v10 ⟨rfl, hb⟩
                have HB10 := Lib.hid (HB9.out.trans (hb.mono HB9.out.size))
                rw [HO1.out]
                clear hb HB9
                go_wp2_with fail
                refine (of_any a l.length cap l s _ (HR.out.below HB10.out rfl) (by omega) s1').mono ?_
                rintro e v11 ⟨rfl, hb⟩
                have HB11 := Lib.hid (HB10.out.trans (hb.mono HB10.out.size))
                rw [HO1.out]
                clear hb HB10
                go_wp2_with fail
                refine (awake12_any _).mono ?_
                rintro e v12 ⟨rfl, hb⟩
                have HB12 := Lib.hid (HB11.out.trans (hb.mono HB11.out.size))
                clear hb HB11
                go_wp2_with fail
                go_ret
                exact ⟨rfl, HB12.out⟩
              case true =>
                have hm : m1 ≤ m2 := HM.out (by rw [HKK.out]; exact hd)
                have hm' : decide (m1 ≤ m2) = true := by simpa using hm
                clear hd
                go_wp2_with fail
                refine (of_any a l.length cap l s _ (HR.out.below HB9.out rfl) (by omega) s1').mono ?_
                rintro e v10 ⟨rfl, hb⟩
                have HB10 := Lib.hid (HB9.out.trans (hb.mono HB9.out.size))
                rw [HO1.out]
                clear hb HB9
                go_wp2_with fail
                refine (of_any a l.length cap l t _ (HR.out.below HB10.out rfl) (by omega) s2').mono ?_
                rintro e v11 ⟨rfl, hb⟩
                have HB11 := Lib.hid (HB10.out.trans (hb.mono HB10.out.size))
                rw [HO2.out]
                clear hb HB10
                go_wp2_with fail
                refine (of_any a l.length cap l s _ (HR.out.below HB11.out rfl) (by omega) s1').mono ?_
                rintro e v12 ⟨rfl, hb⟩
                have HB12 := Lib.hid (HB11.out.trans (hb.mono HB11.out.size))
                rw [HO1.out]
                clear hb HB11
                go_wp2_with fail
                refine (of_any a l.length cap l s _ (HR.out.below HB12.out rfl) (by omega) s1').mono ?_
                rintro e v13 ⟨rfl, hb⟩
                have HB13 := Lib.hid (HB12.out.trans (hb.mono HB12.out.size))
                rw [HO1.out]
                clear hb HB12
                go_wp2_with fail
                refine (awake12_any _).mono ?_
                rintro e v14 ⟨rfl, hb⟩
                have HB14 := Lib.hid (HB13.out.trans (hb.mono HB13.out.size))
                clear hb HB13
                go_wp2_with fail
                go_ret
                exact ⟨rfl, HB14.out⟩
        ·
          have g0' : (g == 0) = false := by simpa using g0
          have g0'' : (g != 0) = true := by simpa using g0
          go_wp2_with fail
          refine (awake12_any _).mono ?_
          rintro e v3 ⟨rfl, hb⟩
          have HB3 := Lib.hid (HB2.out.trans (hb.mono HB2.out.size))
          clear hb HB2
          go_wp2_with fail
          go_ret
          exact ⟨rfl, HB3.out⟩
end Go.Proofs.Ytnnkebhpmegkfaa
