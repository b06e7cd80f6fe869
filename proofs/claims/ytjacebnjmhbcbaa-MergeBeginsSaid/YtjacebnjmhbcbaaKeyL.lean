/- Pairs of a number and a text, by the number first: keys and items alike; cmp.Or. -/
import Derived.Test.YtjacebnjmhbcbaaPart2
import Derived.Test.YtjacebnjmhbcbaaPartL
import Derived.Test.YtjacebnjmhbcbaaRdE
import Derived.StillTailTactics
namespace Go.Proofs.Ytjacebnjmhbcbaa
open Go.RowKit
set_option linter.unusedVariables false

def orI (x y : Int) : Int := if x = 0 then y else x
set_option maxHeartbeats 1000000 in
theorem or_any (w : World) (g : Nat) (ty : TypeId) (x y : Int) (h : Blk w g ty [.int .i64 x, .int .i64 y]) :
    Calls Try.prog 57 #[.slice (some ⟨g, 0, none⟩) 2 2] w fun e w' => e = .returned (.int .i64 (orI x y)) ∧ w = w' := by
  have c0 : w.cell? ⟨g, 0, none⟩ = some (.int .i64 x) := h.cell 0
  have c1 : w.cell? ⟨g, 1, none⟩ = some (.int .i64 y) := h.cell 1
  clear h
  go_enter Try.func57, Try.ntmps57
  go_wp2_with fail
  go_loopw [2, 8] (fun r i wr => ∃ k : Nat, k ≤ 2 ∧ i = .int .i64 k ∧ r = .int .i64 0 ∧ wr = w ∧ (1 ≤ k → x = 0) ∧ (2 ≤ k → y = 0)) (fun _ i _ => 2 - (intOf i).toNat)
  case atStart => exact ⟨0, by omega, rfl, rfl, rfl, by omega, by omega⟩
  case round =>
    obtain ⟨k, hk, rfl, rfl, rfl, hx, hy⟩ := hrel
    rcases (by omega : k = 0 ∨ k = 1 ∨ k = 2) with rfl | rfl | rfl
    · by_cases h0 : x = 0
      · subst h0
        go_wp2_with fail
        go_roundw
        case rel => exact ⟨1, by simp⟩
        case measure => simp [intOf]
      · have hne : (x == 0) = false := by simp; omega
        go_wp2_with fail
        go_ret
        unfold orI
        rw [if_neg h0]
        exact ⟨rfl, rfl⟩
    · obtain rfl := hx (by omega)
      by_cases h0 : y = 0
      · subst h0
        go_wp2_with fail
        go_roundw
        case rel => exact ⟨2, by simp⟩
        case measure => simp [intOf]
      · have hne : (y == 0) = false := by simp; omega
        go_wp2_with fail
        go_ret
        unfold orI
        rw [if_pos rfl]
        exact ⟨rfl, rfl⟩
    · obtain rfl := hx (by omega)
      obtain rfl := hy (by omega)
      go_wp2_with fail
      go_ret
      exact ⟨rfl, rfl⟩

def cmpK (la : Int) (ta : ByteArray) (lb : Int) (tb : ByteArray) : Int := orI (cmpI la lb) (cmpT ta tb)
theorem cmpK_neg (la : Int) (ta : ByteArray) (lb : Int) (tb : ByteArray) : cmpK la ta lb tb < 0 ↔ la < lb ∨ la = lb ∧ cmpT ta tb < 0 := by
  unfold cmpK orI cmpI
  by_cases h1 : la < lb
  · simp [h1]
  · by_cases h2 : lb < la
    · simp [h1, h2]; omega
    · simp [h1, h2]; omega
theorem cmpK_trans {la : Int} {ta : ByteArray} {lb : Int} {tb : ByteArray} {lc : Int} {tc : ByteArray} (h : cmpK la ta lb tb < 0) (k : cmpK lb tb lc tc < 0) : cmpK la ta lc tc < 0 := by
  rw [cmpK_neg] at h k ⊢
  rcases h with h | ⟨rfl, h⟩
  · rcases k with k | ⟨rfl, k⟩
    · left; omega
    · exact .inl h
  · rcases k with k | ⟨rfl, k⟩
    · exact .inl k
    · exact .inr ⟨rfl, cb_trans _ _ _ h k⟩

/-- a key: its length and its text -/
abbrev KeyL := Int × ByteArray
def KeyL.cells (k : KeyL) : List Value := [.int .i64 k.1, .string k.2]
def kless (a b : KeyL) : Bool := decide (cmpK a.1 a.2 b.1 b.2 < 0)
end Go.Proofs.Ytjacebnjmhbcbaa
