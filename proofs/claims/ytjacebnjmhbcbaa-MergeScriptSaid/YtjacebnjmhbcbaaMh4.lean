/- The document's Put: plain law. -/
import Derived.Test.YtjacebnjmhbcbaaMh2
import Derived.Test.YtjacebnjmhbcbaaMg8
namespace Go.Proofs.Ytjacebnjmhbcbaa
open Go.RowKit
set_option linter.unusedVariables false

theorem mem_wantK {S : List PS} {k : Nat} {i : Int} : i ∈ wantK S k ↔ ∃ j : Nat, j < k ∧ i = j ∧ ∃ s, S[j]? = some s ∧ s.wanted = true := by
  unfold wantK
  rw [List.mem_map]
  constructor
  · rintro ⟨j, hj, rfl⟩
    rw [List.mem_filter, List.mem_range] at hj
    obtain ⟨h1, h2⟩ := hj
    cases hs : S[j]? with
    | none => rw [hs] at h2; simp at h2
    | some s => rw [hs] at h2; exact ⟨j, h1, rfl, s, hs, h2⟩
  · rintro ⟨j, h1, rfl, s, hs, hw⟩
    exact ⟨j, by rw [List.mem_filter, List.mem_range]; exact ⟨h1, by rw [hs]; exact hw⟩, rfl⟩
theorem mem_wants {n : Int} {S : List PS} {T : List KeyL} {i : Int} : i ∈ wantsP n S T ↔ doneP n S T = false ∧ ∃ s, atS S i = some s ∧ s.wanted = true := by
  unfold wantsP
  cases hd : doneP n S T with
  | true => simp
  | false =>
    rw [if_neg (by simp), mem_wantK]
    constructor
    · rintro ⟨j, _, rfl, s, hs, hw⟩
      exact ⟨rfl, s, by rw [atS_yes]; exact hs, hw⟩
    · rintro ⟨_, s, hs, hw⟩
      obtain ⟨k, rfl, hk⟩ := atS_some hs
      exact ⟨k, (List.getElem?_eq_some_iff.1 hk).1, rfl, s, hk, hw⟩
theorem rp_nope {n i seq : Int} {S : List PS} {T l : List KeyL} {e : Bool} (h : atS S i = none ∨ ∃ s, atS S i = some s ∧ (doneP n S T = true ∨ s.wanted = false ∨ s.seq ≠ seq ∨ 5 < l.length ∨ (l.length = 0 ∧ e = false) ∨ okI s.least s.heard s.last l = false)) : putP n S T i seq l e = (false, S) := by
  unfold putP putOK
  rcases h with h | ⟨s, h, h2⟩
  · rw [h]
  · rw [h]
    simp only [if_pos h2]
theorem rp_yes {n i seq : Int} {S : List PS} {T l : List KeyL} {e : Bool} {s : PS} (h : atS S i = some s) (h2 : ¬ (doneP n S T = true ∨ s.wanted = false ∨ s.seq ≠ seq ∨ 5 < l.length ∨ (l.length = 0 ∧ e = false) ∨ okI s.least s.heard s.last l = false)) : putP n S T i seq l e = (true, S.set i.toNat (s.put l e)) := by
  unfold putP putOK
  rw [h]
  simp only [if_neg h2]
theorem rp_unwanted {n i seq : Int} {S : List PS} {T l : List KeyL} {e : Bool} (h : ¬ i ∈ wantsP n S T) : putP n S T i seq l e = (false, S) := by
  rw [mem_wants] at h
  cases ha : atS S i with
  | none => exact rp_nope (.inl ha)
  | some s =>
    refine rp_nope (.inr ⟨s, ha, ?_⟩)
    cases hd : doneP n S T with
    | true => exact .inl rfl
    | false =>
      cases hw : s.wanted with
      | false => exact .inr (.inl rfl)
      | true => exact absurd ⟨hd, s, ha, hw⟩ h
theorem kless_trans {a b c : KeyL} (h : kless a b = true) (k : kless b c = true) : kless a c = true := by
  unfold kless at *
  rw [decide_eq_true_eq] at *
  exact cmpK_trans h k
/-- shard k of the document's Merge is another one now -/
theorem rm_set {w w' : World} {q : Nat} {n : Int} {S : List PS} {T : List KeyL} {qs c : Nat} {R : List MS} {sp : List Value} {ta : Option Addr} {tc : Nat} (hx : RMx w q n S T qs c R sp ta tc) (hti : ∀ o s, ta ≠ some ⟨qs, o, s⟩) (hri : ∀ (i : Nat) (m : MS) (o : Nat) (s : Option Nat), R[i]? = some m → m.wa ≠ some ⟨qs, o, s⟩) {k : Nat} {m' : MS} {s' : PS}
    (hf : Frm (fun i => i = qs) w w') (hg : Blk w' qs 82 ((R.set k m').flatMap MS.cells ++ sp)) (hok : k < S.length → RSh w' m' s') (hsz : s'.last.2.size ≤ 1000000 ∧ ∀ x ∈ s'.waits, x.2.size ≤ 1000000) :
    RMx w' q n (S.set k s') T qs c (R.set k m') sp ta tc := by
  have hp : q ≠ qs := blk_ne hx.P hx.G (by decide)
  refine ⟨by rw [List.length_set]; exact hx.P.frm hf hp, hg, by rw [List.length_set]; exact hx.hc, hx.hm, hx.told.frm hf (fun b o s e h => hti o s (by rw [← h]; exact e)), fun b o s e => Nat.lt_of_lt_of_le (hx.tlt b o s e) hf.size, by rw [List.length_set, List.length_set]; exact hx.len, fun i m s h1 h2 => ?_, by rw [List.length_set]; exact hx.bd, fun s hs => ?_⟩
  · by_cases e1 : k = i
    · subst e1
      have hk : k < S.length := by
        have := (List.getElem?_eq_some_iff.1 h2).1
        rwa [List.length_set] at this
      rw [List.getElem?_set_self (by rw [hx.len]; exact hk)] at h1
      rw [List.getElem?_set_self hk] at h2
      cases h1; cases h2
      exact hok hk
    · rw [List.getElem?_set_ne e1] at h1 h2
      have h3 := hx.sh i m s h1 h2
      exact h3.frm hf (fun b o sp' e h => hri i m o sp' h1 (by rw [← h]; exact e))
  · rcases List.mem_or_eq_of_mem_set hs with h | h
    · exact hx.sz s h
    · subst h; exact hsz
theorem wantsP_len2 (n : Int) (S : List PS) (T : List KeyL) : (wantsP n S T).length ≤ S.length := by
  unfold wantsP
  split
  · exact Nat.zero_le _
  · exact wantK_len _ _
theorem row_all {M : List MS} {sp : List Value} {k : Nat} {m m' : MS} (hm : M[k]? = some m) :
    (((((((M.flatMap MS.cells ++ sp).set (k * 7) (.int .i64 m'.least)).set (k * 7 + 1) (.int .i64 m'.seq)).set (k * 7 + 2) (.bool m'.ended)).set (k * 7 + 3) (.bool m'.heard)).set (k * 7 + 4) (.int .i64 m'.last.1)).set (k * 7 + 5) (.string m'.last.2)).set (k * 7 + 6) (.slice m'.wa m'.wn m'.wc) = (M.set k m').flatMap MS.cells ++ sp := by
  obtain ⟨d, sq0, e0, hd0, ⟨l1, l2⟩, a0, n0, c0⟩ := m
  obtain ⟨d', sq, e, hd, ⟨x1, x2⟩, a, n, c⟩ := m'
  have h0 := row_set (sp := sp) (m' := ⟨d', sq0, e0, hd0, (l1, l2), a0, n0, c0⟩) (v := .int .i64 d') hm (j := 0) (by decide) rfl
  have h1 := row_set (sp := sp) (m' := ⟨d', sq, e0, hd0, (l1, l2), a0, n0, c0⟩) (v := .int .i64 sq) (row_at hm ⟨d', sq0, e0, hd0, (l1, l2), a0, n0, c0⟩) (j := 1) (by decide) rfl
  have h2 := row_set (sp := sp) (m' := ⟨d', sq, e, hd0, (l1, l2), a0, n0, c0⟩) (v := .bool e) (row_at hm ⟨d', sq, e0, hd0, (l1, l2), a0, n0, c0⟩) (j := 2) (by decide) rfl
  have h3 := row_set (sp := sp) (m' := ⟨d', sq, e, hd, (l1, l2), a0, n0, c0⟩) (v := .bool hd) (row_at hm ⟨d', sq, e, hd0, (l1, l2), a0, n0, c0⟩) (j := 3) (by decide) rfl
  have h4 := row_set (sp := sp) (m' := ⟨d', sq, e, hd, (x1, l2), a0, n0, c0⟩) (v := .int .i64 x1) (row_at hm ⟨d', sq, e, hd, (l1, l2), a0, n0, c0⟩) (j := 4) (by decide) rfl
  have h5 := row_set (sp := sp) (m' := ⟨d', sq, e, hd, (x1, x2), a0, n0, c0⟩) (v := .string x2) (row_at hm ⟨d', sq, e, hd, (x1, l2), a0, n0, c0⟩) (j := 5) (by decide) rfl
  have h6 := row_set (sp := sp) (m' := ⟨d', sq, e, hd, (x1, x2), a, n, c⟩) (v := .slice a n c) (row_at hm ⟨d', sq, e, hd, (x1, x2), a0, n0, c0⟩) (j := 6) (by decide) rfl
  rw [set2] at h1 h2 h3 h4 h5 h6
  rw [Nat.add_zero] at h0
  dsimp only
  rw [h0, h1, h2, h3, h4, h5, h6]
end Go.Proofs.Ytjacebnjmhbcbaa
