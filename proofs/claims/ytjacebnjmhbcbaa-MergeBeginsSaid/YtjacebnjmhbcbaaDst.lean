/- The walks of edit.Distance, text.Asked and of the statement PartFar: no word of a shard is nearer to a text than the least that is told. -/
import Derived.Test.YtjacebnjmhbcbaaRunes1
namespace Go.Proofs.Ytjacebnjmhbcbaa
open Go.RowKit
set_option linter.unusedVariables false

/-- the distance of two texts -/
def distT (s t : ByteArray) : Int := match runesO s, runesO t with
  | some a, some b => distL a b
  | _, _ => -1
theorem distL_bd (a b : List Int) : 0 ≤ distL a b ∧ distL a b ≤ (a.length : Int) + b.length := by
  have := rowAt_bd a b b.length a.length (Nat.le_refl _)
  unfold distL rowsL; omega
theorem rFrom_le (s : ByteArray) : ∀ (b pos : Nat) (acc l : List Int), rFrom s b pos acc = some l → l.length ≤ acc.length + b
  | 0, _, acc, l, h => by simp [rFrom] at h; rw [← h]; omega
  | b + 1, pos, acc, l, h => by
    unfold rFrom at h
    split at h
    · split at h
      · cases h
      · have := rFrom_le s b _ _ l h
        simp at this; omega
    · simp at h; rw [← h]; omega
theorem runesO_le {s : ByteArray} {l : List Int} (h : runesO s = some l) : l.length ≤ s.size := by
  have := rFrom_le s s.size 0 [] l h
  simpa using this
theorem distT_none1 {s t : ByteArray} (h : runesO s = none) : distT s t = -1 := by unfold distT; rw [h]
theorem distT_none2 {s t : ByteArray} (h : runesO t = none) : distT s t = -1 := by unfold distT; rw [h]; cases runesO s <;> rfl
theorem distT_some {s t : ByteArray} {a b : List Int} (h : runesO s = some a) (k : runesO t = some b) : distT s t = distL a b := by unfold distT; rw [h, k]
/-- may a text be asked for? -/
def askedB (s : ByteArray) : Bool := decide (0 ≤ tLen s) && decide (tLen s ≤ 16)
theorem asked_any (s : ByteArray) (w : World) (hs : s.size ≤ maxLen) :
    Calls Try.prog 53 #[.string s] w fun e w' => e = .returned (.bool (askedB s)) ∧ Below w.heap.size w w' := by
  unfold askedB
  have H := Lib.hid (len_any s w hs)
  generalize tLen s = z at *
  by_cases h1 : 0 ≤ z
  · have d1 : decide (0 ≤ z) = true := by simp; omega
    rw [d1]
    go_enter Try.func53, Try.ntmps53
    go_wp2_with fail
    refine (H.out).mono ?_
    rintro e w' ⟨rfl, hb⟩
    go_wp2_with fail
    go_ret
    exact ⟨by simp, hb⟩
  · have d1 : decide (0 ≤ z) = false := by simp; omega
    rw [d1]
    go_enter Try.func53, Try.ntmps53
    go_wp2_with fail
    refine (H.out).mono ?_
    rintro e w' ⟨rfl, hb⟩
    go_wp2_with fail
    go_ret
    exact ⟨by simp, hb⟩
end Go.Proofs.Ytjacebnjmhbcbaa
