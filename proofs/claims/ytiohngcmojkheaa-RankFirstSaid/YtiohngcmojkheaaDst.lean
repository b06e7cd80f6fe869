/- The walks of edit.Distance, text.Asked and of the statement PartFar: no word of a shard is nearer to a text than the least that is told. -/
import Derived.Test.YtiohngcmojkheaaRunes1
namespace Go.Proofs.Ytiohngcmojkheaa
open Go.RowKit
set_option linter.unusedVariables false

/-- the distance of two texts -/
def distT (s t : ByteArray) : Int := match runesO s, runesO t with
  | some a, some b => distL a b
  | _, _ => -1
theorem distL_bd (a b : List Int) : 0 ≤ distL a b ∧ distL a b ≤ (a.length : Int) + b.length := by
  have := rowAt_bd a b b.length a.length (Nat.le_refl _)
  unfold distL rowsL; omega
theorem rFrom_le (s : ByteArray) : ∀ (b pos : Nat) (acc l : List Int), rFrom s b pos acc = some l → l.length ≤ acc.length + b
  | 0, _, acc, l, h => by simp [rFrom] at h; rw [← h]; omega
  | b + 1, pos, acc, l, h => by
    unfold rFrom at h
    split at h
    · split at h
      · cases h
      · have := rFrom_le s b _ _ l h
        simp at this; omega
    · simp at h; rw [← h]; omega
theorem runesO_le {s : ByteArray} {l : List Int} (h : runesO s = some l) : l.length ≤ s.size := by
  have := rFrom_le s s.size 0 [] l h
  simpa using this
theorem distT_none1 {s t : ByteArray} (h : runesO s = none) : distT s t = -1 := by unfold distT; rw [h]
theorem distT_none2 {s t : ByteArray} (h : runesO t = none) : distT s t = -1 := by unfold distT; rw [h]; cases runesO s <;> rfl
theorem distT_some {s t : ByteArray} {a b : List Int} (h : runesO s = some a) (k : runesO t = some b) : distT s t = distL a b := by unfold distT; rw [h, k]
set_option maxHeartbeats 1000000 in
theorem distance_any (s t : ByteArray) (w : World) (h1 : s.size ≤ 1000) (h2 : t.size ≤ 1000) :
    Calls Try.prog 47 #[.string s, .string t] w fun e w' => e = .returned (.int .i64 (distT s t)) ∧ Below w.heap.size w w' := by
  have HA := Lib.hid (fun W => runes_any s W (by omega))
  have HB := Lib.hid (fun W => runes_any t W (by omega))
  obtain ⟨d, hd⟩ : ∃ d, distT s t = d := ⟨_, rfl⟩
  rw [hd]
  have HD := Lib.hid hd
  clear hd
  cases hs : runesO s with
  | none =>
    rw [hs] at HA
    have HSO := Lib.hid hs
    clear hs
    go_enter Try.func47, Try.ntmps47
    go_wp2_with fail
    refine (HA.out _).mono ?_
    rintro e w1 ⟨rfl, hb⟩
    have HB1 := Lib.hid hb
    clear hb
    cases ht : runesO t with
    | none =>
      rw [ht] at HB
      have HTO := Lib.hid ht
      clear ht
      go_wp2_with fail
      refine (HB.out _).mono ?_
      rintro e w2 ⟨rfl, hb⟩
      have HB2 := Lib.hid (HB1.out.trans (hb.mono HB1.out.size))
      clear hb
      go_wp2_with fail
      go_ret
      obtain rfl : d = -1 := by rw [← HD.out]; exact distT_none1 HSO.out
      exact ⟨rfl, HB2.out⟩
    | some lb =>
      rw [ht] at HB
      have HTO := Lib.hid ht
      clear ht
      go_wp2_with fail
      refine (HB.out _).mono ?_
      rintro e w2 ⟨⟨ao, c, rfl, hr⟩, hb⟩
      have HB2 := Lib.hid (HB1.out.trans (hb.mono HB1.out.size))
      clear hb hr
      go_wp2_with fail
      go_ret
      obtain rfl : d = -1 := by rw [← HD.out]; exact distT_none1 HSO.out
      exact ⟨rfl, HB2.out⟩
  | some la =>
    have hl1 := runesO_le hs
    rw [hs] at HA
    have HSO := Lib.hid hs
    clear hs
    go_enter Try.func47, Try.ntmps47
    go_wp2_with fail
    refine (HA.out _).mono ?_
    rintro e w1 ⟨⟨ao, c, rfl, hr⟩, hb⟩
    have HB1 := Lib.hid hb
    have HR1 := Lib.hid hr
    clear hb hr
    cases ht : runesO t with
    | none =>
      rw [ht] at HB
      have HTO := Lib.hid ht
      clear ht
      go_wp2_with fail
      refine (HB.out _).mono ?_
      rintro e w2 ⟨rfl, hb⟩
      have HB2 := Lib.hid (HB1.out.trans (hb.mono HB1.out.size))
      clear hb
      go_wp2_with fail
      go_ret
      obtain rfl : d = -1 := by rw [← HD.out]; exact distT_none2 HTO.out
      exact ⟨rfl, HB2.out⟩
    | some lb =>
      have hl2 := runesO_le ht
      rw [ht] at HB
      have HTO := Lib.hid ht
      clear ht
      go_wp2_with fail
      refine (HB.out _).mono ?_
      rintro e w2 ⟨⟨ao2, c2, rfl, hr⟩, hb⟩
      have HB2 := Lib.hid (HB1.out.trans (hb.mono HB1.out.size))
      have HR2 := Lib.hid hr
      have HR3 := Lib.hid (HR1.out.below hb rfl)
      clear hb hr
      go_wp2_with fail
      refine (runesD_any _ _ _ la _ _ _ lb _ HR3.out HR2.out (by omega) (by omega)).mono ?_
      rintro e w3 ⟨rfl, hb⟩
      have HB3 := Lib.hid (HB2.out.trans (hb.mono HB2.out.size))
      clear hb
      go_wp2_with fail
      go_ret
      obtain rfl : d = distL la lb := by rw [← HD.out]; exact distT_some HSO.out HTO.out
      exact ⟨rfl, HB3.out⟩
/-- may a text be asked for? -/
def askedB (s : ByteArray) : Bool := decide (0 ≤ tLen s) && decide (tLen s ≤ 16)
theorem asked_any (s : ByteArray) (w : World) (hs : s.size ≤ maxLen) :
    Calls Try.prog 51 #[.string s] w fun e w' => e = .returned (.bool (askedB s)) ∧ Below w.heap.size w w' := by
  unfold askedB
  have H := Lib.hid (len_any s w hs)
  generalize tLen s = z at *
  by_cases h1 : 0 ≤ z
  · have d1 : decide (0 ≤ z) = true := by simp; omega
    rw [d1]
    go_enter Try.func51, Try.ntmps51
    go_wp2_with fail
    refine (H.out).mono ?_
    rintro e w' ⟨rfl, hb⟩
    go_wp2_with fail
    go_ret
    exact ⟨by simp, hb⟩
  · have d1 : decide (0 ≤ z) = false := by simp; omega
    rw [d1]
    go_enter Try.func51, Try.ntmps51
    go_wp2_with fail
    refine (H.out).mono ?_
    rintro e w' ⟨rfl, hb⟩
    go_wp2_with fail
    go_ret
    exact ⟨by simp, hb⟩
end Go.Proofs.Ytiohngcmojkheaa
