/- The walk of the document's Compare. -/
import Derived.Test.YtjacebnjmhbcbaaStrs
import Derived.Test.YtjacebnjmhbcbaaPart2
namespace Go.Proofs.Ytjacebnjmhbcbaa
open Go.RowKit
set_option linter.unusedVariables false

def cmpFrom (a b : ByteArray) (k : Nat) : Int := Lib.compareBytes (a.data.toList.drop k) (b.data.toList.drop k)
theorem drop_at (a : ByteArray) (k : Nat) (h : k < a.size) : a.data.toList.drop k = (a[k]'h) :: a.data.toList.drop (k + 1) := by
  have h' : k < a.data.toList.length := by rw [Array.length_toList]; exact h
  rw [List.drop_eq_getElem_cons h']; rfl
theorem cmpFrom_step (a b : ByteArray) (k : Nat) (ha : k < a.size) (hb : k < b.size) : cmpFrom a b k = if byteN a k < byteN b k then -1 else if byteN b k < byteN a k then 1 else cmpFrom a b (k + 1) := by
  unfold cmpFrom
  rw [drop_at a k ha, drop_at b k hb, Lib.compareBytes, ← byteN_at a k ha, ← byteN_at b k hb]
  simp only [UInt8.lt_iff_toNat_lt]
theorem cmpFrom_end (a b : ByteArray) (k : Nat) (h : a.size ≤ k ∨ b.size ≤ k) (hk : k ≤ a.size) (hk2 : k ≤ b.size) : cmpFrom a b k = if a.size < b.size then -1 else if b.size < a.size then 1 else 0 := by
  have da : ∀ (s : ByteArray), s.size ≤ k → s.data.toList.drop k = [] := fun s hs => List.drop_of_length_le (by rw [Array.length_toList]; exact hs)
  unfold cmpFrom
  by_cases h1 : k < a.size
  · rw [da b (by omega), drop_at a k h1, if_neg (by omega), if_pos (by omega)]; rfl
  · by_cases h2 : k < b.size
    · rw [da a (by omega), drop_at b k h2, if_pos (by omega)]; rfl
    · rw [da a (by omega), da b (by omega), if_neg (by omega), if_neg (by omega)]; rfl
set_option maxRecDepth 100000 in
set_option maxHeartbeats 4000000 in
theorem rcmp_any (a b : ByteArray) (w : World) (h1 : a.size ≤ 1000000) (h2 : b.size ≤ 1000000) :
    Calls Try.prog 59 #[.string a, .string b] w fun e w' => e = .returned (.int .i64 (cmpT a b)) ∧ Drew w w' := by
  obtain ⟨g, hg⟩ : ∃ g, cmpT a b = g := ⟨_, rfl⟩
  rw [hg]
  have HG : RowKit.Hid (cmpFrom a b 0 = g) := by rw [← hg]; rfl
  clear hg
  go_enter Try.func59, Try.ntmps59
  go_wp2_with fail
  go_loopw [5] (fun i wr => ∃ k : Nat, k ≤ a.size ∧ k ≤ b.size ∧ i = .int .i64 k ∧ RowKit.Hid (cmpFrom a b k = g) ∧ Drew w wr) (fun i _ => a.size - (intOf i).toNat)
  case atStart => exact ⟨0, by omega, by omega, rfl, HG.out, 0, rfl⟩
  case round =>
    clear HG
    obtain ⟨k, hk1, hk2, rfl, HC, nq, rfl⟩ := hrel
    by_cases hl1 : k < a.size
    · by_cases hl2 : k < b.size
      · have hst := cmpFrom_step a b k hl1 hl2
        rw [HC.out] at hst
        have i1 : ∀ w, (Instr.index 9 (.string a) (.int .i64 k)).run Try.prog w = .ok (.int .u8 (byteN a k)) w := fun w => by
          rw [run_index_string w _ _ _ _ Try.underlying9]; simp [hl1, byteN_at a k hl1]
        have i2 : ∀ w, (Instr.index 9 (.string b) (.int .i64 k)).run Try.prog w = .ok (.int .u8 (byteN b k)) w := fun w => by
          rw [run_index_string w _ _ _ _ Try.underlying9]; simp [hl2, byteN_at b k hl2]
        generalize byteN a k = x at *
        generalize byteN b k = y at *
        by_cases hxy : x < y
        · rw [if_pos hxy] at hst
          subst hst
          have d1 : decide (x < y) = true := by simpa using hxy
          go_wp2_with fail
          go_quiet (fail)
          go_wp2_with fail
          go_ret
          exact ⟨rfl, by first | exact Drew.one _ _ | exact Drew.two _ _ _⟩
        · rw [if_neg hxy] at hst
          have d1 : decide (x < y) = false := by simpa using hxy
          by_cases hyx : y < x
          · rw [if_pos hyx] at hst
            subst hst
            have d2 : decide (y < x) = true := by simpa using hyx
            go_wp2_with fail
            go_quiet (fail)
            go_wp2_with fail
            go_quiet (fail)
            go_wp2_with fail
            go_ret
            exact ⟨rfl, by first | exact Drew.one _ _ | exact Drew.two _ _ _ | exact ⟨_, by rw [World.drewN_drewN, World.drewN_drewN]⟩⟩
          · rw [if_neg hyx] at hst
            have HST := Lib.hid hst.symm
            have d2 : decide (y < x) = false := by simpa using hyx
            clear hst
            go_wp2_with fail
            go_quiet (fail)
            go_wp2_with fail
            go_quiet (fail)
            go_wp2_with fail
            go_roundw
            case rel => exact ⟨k + 1, by omega, by omega, by go_num, HST.out, by first | exact Drew.one _ _ | exact Drew.two _ _ _ | exact ⟨_, by rw [World.drewN_drewN, World.drewN_drewN]⟩⟩
            case measure => simp [intOf]; omega
      · obtain rfl : k = b.size := by omega
        have he := cmpFrom_end a b b.size (.inr (Nat.le_refl _)) hk1 (Nat.le_refl _)
        rw [HC.out, if_neg (by omega), if_pos hl1] at he
        subst he
        have d1 : decide (a.size < b.size) = false := by simp; omega
        have d2 : decide (b.size < a.size) = true := by simp; omega
        clear HC
        go_wp2_with fail
        go_ret
        exact ⟨rfl, Drew.one _ _⟩
    · obtain rfl : k = a.size := by omega
      have he := cmpFrom_end a b a.size (.inl (Nat.le_refl _)) (Nat.le_refl _) hk2
      rw [HC.out] at he
      by_cases hl2 : a.size < b.size
      · rw [if_pos hl2] at he
        subst he
        have d1 : decide (a.size < b.size) = true := by simpa using hl2
        clear HC
        go_wp2_with fail
        go_ret
        exact ⟨rfl, Drew.one _ _⟩
      · rw [if_neg hl2, if_neg (by omega)] at he
        subst he
        have d1 : decide (a.size < b.size) = false := by simp; omega
        have d2 : decide (b.size < a.size) = false := by simp; omega
        clear HC
        go_wp2_with fail
        go_ret
        exact ⟨rfl, Drew.one _ _⟩
end Go.Proofs.Ytjacebnjmhbcbaa
