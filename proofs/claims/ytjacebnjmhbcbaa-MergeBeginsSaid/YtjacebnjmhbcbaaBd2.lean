/- band.Near. -/
import Derived.Test.YtjacebnjmhbcbaaBd1
import Derived.Test.YtjacebnjmhbcbaaDst
namespace Go.Proofs.Ytjacebnjmhbcbaa
open Go.RowKit
set_option linter.unusedVariables false

/-- the distance of two texts, where they have one that is not above k -/
def nearT (s t : ByteArray) (k : Int) : Int × Bool := if 0 ≤ distT s t ∧ distT s t ≤ k then (distT s t, true) else (0, false)
theorem nearT_none1 {s t : ByteArray} {k : Int} (h : runesO s = none) : nearT s t k = (0, false) := by unfold nearT; rw [distT_none1 h, if_neg (by omega)]
theorem nearT_none2 {s t : ByteArray} {k : Int} (h : runesO t = none) : nearT s t k = (0, false) := by unfold nearT; rw [distT_none2 h, if_neg (by omega)]
theorem nearT_some {s t : ByteArray} {k : Int} {a b : List Int} (h : runesO s = some a) (h2 : runesO t = some b) : nearT s t k = nearL a b k := by
  unfold nearT nearL
  rw [distT_some h h2]
  have := distL_bd a b
  by_cases hk : distL a b ≤ k
  · rw [if_pos ⟨this.1, hk⟩, if_pos hk]
  · rw [if_neg (fun h => hk h.2), if_neg hk]
set_option maxHeartbeats 1000000 in
theorem near_any (s t : ByteArray) (k : Int) (w : World) (h1 : s.size ≤ 1000) (h2 : t.size ≤ 1000) :
    Calls Try.prog 56 #[.string s, .string t, .int .i64 k] w fun e w' => e = .returned (.tuple #[.int .i64 (nearT s t k).1, .bool (nearT s t k).2]) ∧ Below w.heap.size w w' := by
  have HA := Lib.hid (fun W => runes_any s W (by omega))
  have HB := Lib.hid (fun W => runes_any t W (by omega))
  obtain ⟨⟨d, ok⟩, hd⟩ : ∃ d, nearT s t k = d := ⟨_, rfl⟩
  rw [hd]
  have HD := Lib.hid hd
  clear hd
  cases hs : runesO s with
  | none =>
    rw [hs] at HA
    have HSO := Lib.hid hs
    clear hs
    go_enter Try.func56, Try.ntmps56
    go_wp2_with fail
    refine (HA.out _).mono ?_
    rintro e w1 ⟨rfl, hb⟩
    have HB1 := Lib.hid hb
    clear hb
    cases ht : runesO t with
    | none =>
      rw [ht] at HB
      clear ht
      go_wp2_with fail
      refine (HB.out _).mono ?_
      rintro e w2 ⟨rfl, hb⟩
      have HB2 := Lib.hid (HB1.out.trans (hb.mono HB1.out.size))
      clear hb
      obtain ⟨rfl, rfl⟩ := Prod.mk.inj (HD.out.symm.trans (nearT_none1 HSO.out))
      go_wp2_with fail
      go_ret2
      exact ⟨rfl, HB2.out⟩
    | some lb =>
      rw [ht] at HB
      clear ht
      go_wp2_with fail
      refine (HB.out _).mono ?_
      rintro e w2 ⟨⟨ao, c, rfl, hr⟩, hb⟩
      have HB2 := Lib.hid (HB1.out.trans (hb.mono HB1.out.size))
      clear hb hr
      obtain ⟨rfl, rfl⟩ := Prod.mk.inj (HD.out.symm.trans (nearT_none1 HSO.out))
      go_wp2_with fail
      go_ret2
      exact ⟨rfl, HB2.out⟩
  | some la =>
    have hl1 := runesO_le hs
    rw [hs] at HA
    have HSO := Lib.hid hs
    clear hs
    go_enter Try.func56, Try.ntmps56
    go_wp2_with fail
    refine (HA.out _).mono ?_
    rintro e w1 ⟨⟨ao, c, rfl, hr⟩, hb⟩
    have HB1 := Lib.hid hb
    have HR1 := Lib.hid hr
    clear hb hr
    cases ht : runesO t with
    | none =>
      rw [ht] at HB
      have HTO := Lib.hid ht
      clear ht
      go_wp2_with fail
      refine (HB.out _).mono ?_
      rintro e w2 ⟨rfl, hb⟩
      have HB2 := Lib.hid (HB1.out.trans (hb.mono HB1.out.size))
      clear hb
      obtain ⟨rfl, rfl⟩ := Prod.mk.inj (HD.out.symm.trans (nearT_none2 HTO.out))
      go_wp2_with fail
      go_ret2
      exact ⟨rfl, HB2.out⟩
    | some lb =>
      have hl2 := runesO_le ht
      rw [ht] at HB
      have HTO := Lib.hid ht
      clear ht
      go_wp2_with fail
      refine (HB.out _).mono ?_
      rintro e w2 ⟨⟨ao2, c2, rfl, hr⟩, hb⟩
      have HB2 := Lib.hid (HB1.out.trans (hb.mono HB1.out.size))
      have HR2 := Lib.hid hr
      have HR3 := Lib.hid (HR1.out.below hb rfl)
      clear hb hr
      have HE := Lib.hid (HD.out.symm.trans (nearT_some HSO.out HTO.out))
      go_wp2_with fail
      refine (within_any _ _ _ la _ _ _ lb k _ HR3.out HR2.out (by omega) (by omega)).mono ?_
      rintro e w3 ⟨rfl, hb⟩
      rw [← HE.out]
      have HB3 := Lib.hid (HB2.out.trans (hb.mono HB2.out.size))
      clear hb
      go_wp2_with fail
      go_ret2
      exact ⟨rfl, HB3.out⟩
end Go.Proofs.Ytjacebnjmhbcbaa
