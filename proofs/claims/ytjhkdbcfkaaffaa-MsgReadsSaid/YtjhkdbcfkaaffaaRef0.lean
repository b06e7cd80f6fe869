/- Plain law: the document's decoder of runes, and the model's own. No program in sight. -/
import Derived.Lib.DecodeN
namespace Go.Proofs.Ytjhkdbcfkaaffaa
open Go.Lib
set_option linter.unusedVariables false

/-- a byte that goes on -/
def goesOn (n k b : Nat) : Prop := k < n ∧ 128 ≤ b ∧ b ≤ 191
instance (n k b : Nat) : Decidable (goesOn n k b) := by unfold goesOn; infer_instance
/-- the document's: the rune, and how many bytes it has; 0: there is none -/
def oneN (n b0 b1 b2 b3 : Nat) : Nat × Nat :=
  if b0 < 128 then (b0, 1)
  else if 194 ≤ b0 ∧ b0 ≤ 223 ∧ goesOn n 1 b1 then ((b0 - 192) * 64 + (b1 - 128), 2)
  else if 224 ≤ b0 ∧ b0 ≤ 239 ∧ goesOn n 1 b1 ∧ goesOn n 2 b2 then ((b0 - 224) * 4096 + (b1 - 128) * 64 + (b2 - 128), 3)
  else if 240 ≤ b0 ∧ b0 ≤ 244 ∧ goesOn n 1 b1 ∧ goesOn n 2 b2 ∧ goesOn n 3 b3 then ((b0 - 240) * 262144 + (b1 - 128) * 4096 + (b2 - 128) * 64 + (b3 - 128), 4)
  else (0, 0)
/-- may a rune stand in a text? -/
def mayR (r : Nat) : Prop := r ≤ 1114111 ∧ (r < 55296 ∨ 57343 < r) ∧ r ≠ 65533
instance (r : Nat) : Decidable (mayR r) := by unfold mayR; infer_instance
/-- is it taken? -/
def takenN (x : Nat × Nat) : Prop := x.2 ≠ 0 ∧ mayR x.1 ∧ ¬ (x.2 = 3 ∧ x.1 < 2048) ∧ ¬ (x.2 = 4 ∧ x.1 < 65536)
instance (x : Nat × Nat) : Decidable (takenN x) := by unfold takenN; infer_instance
set_option maxRecDepth 100000 in
set_option maxHeartbeats 4000000 in
theorem one_decode (n b0 b1 b2 b3 : Nat) (h0 : b0 < 256) (h1 : b1 < 256) (h2 : b2 < 256) (h3 : b3 < 256) :
    (takenN (oneN n b0 b1 b2 b3) → decodeN n b0 b1 b2 b3 = oneN n b0 b1 b2 b3 ∧ (decodeN n b0 b1 b2 b3).1 ≠ 65533) ∧ (¬ takenN (oneN n b0 b1 b2 b3) → (decodeN n b0 b1 b2 b3).1 = 65533) := by
  by_cases c0 : b0 < 128
  · have e1 : oneN n b0 b1 b2 b3 = (b0, 1) := by unfold oneN; rw [if_pos c0]
    have e2 : decodeN n b0 b1 b2 b3 = (b0, 1) := by unfold decodeN; rw [if_pos c0]
    rw [e1, e2]
    refine ⟨fun _ => ⟨rfl, ?_⟩, fun h => ?_⟩
    · simp only; omega
    · exfalso; apply h; unfold takenN mayR; simp only; omega
  · by_cases c1 : b0 < 194
    · have e1 : oneN n b0 b1 b2 b3 = (0, 0) := by unfold oneN; rw [if_neg c0, if_neg (by omega), if_neg (by omega), if_neg (by omega)]
      have e2 : (decodeN n b0 b1 b2 b3).1 = 65533 := by
        unfold decodeN; rw [if_neg c0]
        split
        · rw [if_neg (by omega)]
        · rw [if_neg (by omega), if_neg (by omega)]
      rw [e1]
      exact ⟨fun h => by unfold takenN at h; simp at h, fun _ => e2⟩
    · by_cases c2 : b0 ≤ 223
      · by_cases x1 : goesOn n 1 b1
        · have e1 : oneN n b0 b1 b2 b3 = ((b0 - 192) * 64 + (b1 - 128), 2) := by unfold oneN; rw [if_neg c0, if_pos ⟨by omega, c2, x1⟩]
          unfold goesOn at x1
          have e2 : decodeN n b0 b1 b2 b3 = ((b0 - 192) * 64 + (b1 - 128), 2) := by
            unfold decodeN; rw [if_neg c0, if_pos (by omega), if_pos (by omega)]
            apply Prod.ext <;> simp only; omega
          rw [e1, e2]
          refine ⟨fun _ => ⟨rfl, ?_⟩, fun h => ?_⟩
          · simp only; omega
          · exfalso; apply h; unfold takenN mayR; simp only; omega
        · have e1 : oneN n b0 b1 b2 b3 = (0, 0) := by unfold oneN; rw [if_neg c0, if_neg (fun h => x1 h.2.2), if_neg (by omega), if_neg (by omega)]
          unfold goesOn at x1
          have e2 : (decodeN n b0 b1 b2 b3).1 = 65533 := by
            unfold decodeN; rw [if_neg c0, if_neg (by omega), if_neg (by omega), if_neg (by omega)]
          rw [e1]
          exact ⟨fun h => by unfold takenN at h; simp at h, fun _ => e2⟩
      · by_cases c3 : b0 ≤ 239
        · by_cases x1 : goesOn n 1 b1 ∧ goesOn n 2 b2
          · have e1 : oneN n b0 b1 b2 b3 = ((b0 - 224) * 4096 + (b1 - 128) * 64 + (b2 - 128), 3) := by unfold oneN; rw [if_neg c0, if_neg (by omega), if_pos ⟨by omega, c3, x1.1, x1.2⟩]
            unfold goesOn at x1
            rw [e1]
            unfold decodeN
            rw [if_neg c0, if_neg (by omega), if_pos (by omega)]
            have hr : b0 % 16 * 4096 + b1 % 64 * 64 + b2 % 64 = (b0 - 224) * 4096 + (b1 - 128) * 64 + (b2 - 128) := by omega
            rw [hr]
            generalize (b0 - 224) * 4096 + (b1 - 128) * 64 + (b2 - 128) = r
            unfold takenN mayR
            by_cases hc : r ≥ 2048 ∧ (r < 55296 ∨ 57344 ≤ r ∧ r ≤ 1114111)
            · rw [if_pos hc]
              exact ⟨fun h => ⟨rfl, h.2.1.2.2⟩, fun h => by simp only at h ⊢; omega⟩
            · rw [if_neg hc]
              exact ⟨fun h => by obtain ⟨_, ⟨h2, h3, _⟩, h4, _⟩ := h; have h5 : ¬ r < 2048 := fun hh => h4 ⟨rfl, hh⟩; simp only at h2 h3; omega, fun h => rfl⟩
          · have e1 : oneN n b0 b1 b2 b3 = (0, 0) := by unfold oneN; rw [if_neg c0, if_neg (by omega), if_neg (fun h => x1 h.2.2), if_neg (by omega)]
            unfold goesOn at x1
            have e2 : (decodeN n b0 b1 b2 b3).1 = 65533 := by
              unfold decodeN; rw [if_neg c0, if_neg (by omega), if_neg (by omega), if_neg (by omega)]
            rw [e1]
            exact ⟨fun h => by unfold takenN at h; simp at h, fun _ => e2⟩
        · by_cases c4 : b0 ≤ 244
          · by_cases x1 : goesOn n 1 b1 ∧ goesOn n 2 b2 ∧ goesOn n 3 b3
            · have e1 : oneN n b0 b1 b2 b3 = ((b0 - 240) * 262144 + (b1 - 128) * 4096 + (b2 - 128) * 64 + (b3 - 128), 4) := by unfold oneN; rw [if_neg c0, if_neg (by omega), if_neg (by omega), if_pos ⟨by omega, c4, x1.1, x1.2.1, x1.2.2⟩]
              unfold goesOn at x1
              rw [e1]
              unfold decodeN
              rw [if_neg c0, if_neg (by omega), if_neg (by omega), if_pos (by omega)]
              have hr : b0 % 8 * 262144 + b1 % 64 * 4096 + b2 % 64 * 64 + b3 % 64 = (b0 - 240) * 262144 + (b1 - 128) * 4096 + (b2 - 128) * 64 + (b3 - 128) := by omega
              rw [hr]
              generalize (b0 - 240) * 262144 + (b1 - 128) * 4096 + (b2 - 128) * 64 + (b3 - 128) = r
              unfold takenN mayR
              by_cases hc : r ≥ 65536 ∧ (r < 55296 ∨ 57344 ≤ r ∧ r ≤ 1114111)
              · rw [if_pos hc]
                exact ⟨fun h => ⟨rfl, h.2.1.2.2⟩, fun h => by simp only at h ⊢; omega⟩
              · rw [if_neg hc]
                exact ⟨fun h => by obtain ⟨_, ⟨h2, h3, _⟩, _, h4⟩ := h; have h5 : ¬ r < 65536 := fun hh => h4 ⟨rfl, hh⟩; simp only at h2 h3; omega, fun h => rfl⟩
            · have e1 : oneN n b0 b1 b2 b3 = (0, 0) := by unfold oneN; rw [if_neg c0, if_neg (by omega), if_neg (by omega), if_neg (fun h => x1 h.2.2)]
              unfold goesOn at x1
              have e2 : (decodeN n b0 b1 b2 b3).1 = 65533 := by
                unfold decodeN; rw [if_neg c0, if_neg (by omega), if_neg (by omega), if_neg (by omega)]
              rw [e1]
              exact ⟨fun h => by unfold takenN at h; simp at h, fun _ => e2⟩
          · have e1 : oneN n b0 b1 b2 b3 = (0, 0) := by unfold oneN; rw [if_neg c0, if_neg (by omega), if_neg (by omega), if_neg (by omega)]
            have e2 : (decodeN n b0 b1 b2 b3).1 = 65533 := by
              unfold decodeN; rw [if_neg c0, if_neg (by omega), if_neg (by omega)]
              split
              · rw [if_neg (by omega)]
              · rfl
            rw [e1]
            exact ⟨fun h => by unfold takenN at h; simp at h, fun _ => e2⟩
end Go.Proofs.Ytjhkdbcfkaaffaa
