/- The walks of the text package: runes of a text counted, words, comparing. -/
import Derived.Test.YtjacebnjmhbcbaaRows
import Derived.Test.YtjacebnjmhbcbaaKit
import Derived.Laws.RangeAny
import Derived.Laws.RangeString
import Derived.Lib.RuneCount
namespace Go.Proofs.Ytjacebnjmhbcbaa
open Go.RowKit
set_option linter.unusedVariables false

/-- how many runes a text has, from place pos on; -1: bytes that are none -/
def tLenFrom (s : ByteArray) : Nat → Nat → Int → Int
  | 0, _, acc => acc
  | b + 1, pos, acc => if pos < s.size then (if (Utf8.decode s pos).1 = 65533 then -1 else tLenFrom s b (pos + (Utf8.decode s pos).2) (acc + 1)) else acc
def tLen (s : ByteArray) : Int := tLenFrom s s.size 0 0
theorem tLenFrom_end (s : ByteArray) (b pos : Nat) (acc : Int) (h : ¬ pos < s.size) : tLenFrom s b pos acc = acc := by
  cases b with
  | zero => rfl
  | succ b => simp [tLenFrom, h]
theorem tLenFrom_bd (s : ByteArray) : ∀ (b pos : Nat) (acc : Int), 0 ≤ acc → -1 ≤ tLenFrom s b pos acc ∧ tLenFrom s b pos acc ≤ acc + b
  | 0, _, acc, h => by unfold tLenFrom; omega
  | b + 1, pos, acc, h => by
    have := tLenFrom_bd s b (pos + (Utf8.decode s pos).2) (acc + 1) (by omega)
    unfold tLenFrom
    split
    · split <;> omega
    · omega
theorem tLen_bd (s : ByteArray) : -1 ≤ tLen s ∧ tLen s ≤ s.size := by
  have := tLenFrom_bd s s.size 0 0 (by omega)
  unfold tLen; omega

set_option maxHeartbeats 1000000 in
theorem len_any (s : ByteArray) (w : World) (hs : s.size ≤ maxLen) :
    Calls Try.prog 62 #[.string s] w fun e w' => e = .returned (.int .i64 (tLen s)) ∧ Below w.heap.size w w' := by
  unfold maxLen at hs
  have hb0 : ∀ pos, Below w.heap.size w (w.iter s pos) := fun pos => (Below.refl _ w).alloc (Nat.le_refl _) _
  go_enter Try.func62, Try.ntmps62
  go_wp2_with fail
  go_loopw [2, 3] (fun r n w' => ∃ (pos b : Nat) (acc : Int), w' = w.iter s pos ∧ r = .int .i64 0 ∧ n = .int .i64 acc ∧ tLenFrom s b pos acc = tLen s ∧ s.size ≤ pos + b ∧ 0 ≤ acc ∧ acc ≤ pos ∧ acc ≤ s.size) (fun _ _ w' => s.size - w'.iterPos w.heap.size)
  case atStart => exact ⟨0, s.size, 0, rfl, rfl, rfl, rfl, by omega, by omega, by omega, by omega⟩
  case round =>
    obtain ⟨pos, b, acc, rfl, rfl, rfl, hc, hb, ha0, ha, hps⟩ := hrel
    by_cases hp : pos < s.size
    · have hnx : ∀ ty, (Instr.next (.pointer (some ⟨w.heap.size, 0, none⟩)) true ty).run Try.prog (w.iter s pos) = _ := fun ty => run_next_any w s pos ty hp
      have hwd := Lib.decode_width_pos s pos hp
      by_cases hodd : (Utf8.decode s pos).1 = 65533
      · rw [hodd] at hnx
        go_wp2_with fail
        go_ret
        have : tLen s = -1 := by
          rw [← hc]
          cases b with
          | zero => omega
          | succ b => simp [tLenFrom, hp, hodd]
        rw [this]
        exact ⟨rfl, hb0 _⟩
      · obtain ⟨r, hr⟩ : ∃ r : Int, ((Utf8.decode s pos).1 : Int) = r := ⟨_, rfl⟩
        obtain ⟨wd, hw⟩ : ∃ wd : Nat, (Utf8.decode s pos).2 = wd := ⟨_, rfl⟩
        rw [hr, hw] at hnx
        rw [hw] at hwd
        have hne : (r == 65533) = false := by simp; omega
        go_wp2_with fail
        go_roundw
        case rel =>
          cases b with
          | zero => omega
          | succ b =>
            refine ⟨pos + wd, b, acc + 1, rfl, rfl, by go_num, ?_, by omega, by omega, by omega, ?_⟩
            · rw [← hc]
              simp [tLenFrom, hp, hodd, hw]
            · omega
        case measure =>
          simp
          omega
    · have hnx : ∀ ty, (Instr.next (.pointer (some ⟨w.heap.size, 0, none⟩)) true ty).run Try.prog (w.iter s pos) = _ := fun ty => run_next_end w s pos ty hp
      go_wp2_with fail
      go_ret
      rw [tLenFrom_end s b pos acc hp] at hc
      subst hc
      exact ⟨rfl, hb0 _⟩
end Go.Proofs.Ytjacebnjmhbcbaa
