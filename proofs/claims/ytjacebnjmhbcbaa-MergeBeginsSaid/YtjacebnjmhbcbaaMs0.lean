/- The plain law of MergeSkips: shards that can have nothing. -/
import Derived.Test.YtjacebnjmhbcbaaMo0
namespace Go.Proofs.Ytjacebnjmhbcbaa
open Go.RowKit
set_option linter.unusedVariables false

def bitB (bs : Int) (i : Nat) : Bool := Go.bits BinOp.and IntKind.i64 (bs / 2 ^ i) 1 == 1
def leastL (bs : Int) (n : Nat) : List Int := (List.range n).map fun j => if bitB bs j = true then 0 else -1 - (j : Int)
def wantL (bs : Int) (n : Nat) : List Int := ((List.range n).filter (bitB bs)).map fun j : Nat => (j : Int)
theorem leastL_succ (bs : Int) (n : Nat) : leastL bs (n + 1) = leastL bs n ++ [if bitB bs n = true then 0 else -1 - (n : Int)] := by
  unfold leastL
  rw [List.range_succ, List.map_append]
  rfl
theorem leastL_len (bs : Int) (n : Nat) : (leastL bs n).length = n := by unfold leastL; simp
theorem wantL_succ (bs : Int) (n : Nat) : wantL bs (n + 1) = wantL bs n ++ (if bitB bs n = true then [(n : Int)] else []) := by
  unfold wantL
  rw [List.range_succ, List.filter_append, List.map_append]
  congr 1
  cases h : bitB bs n <;> simp [h]
theorem wantL_len (bs : Int) (n : Nat) : (wantL bs n).length ≤ n := by
  unfold wantL
  rw [List.length_map]
  have := List.length_filter_le (bitB bs) (List.range n)
  rwa [List.length_range] at this
/-- was there one whose bit is set? -/
def used (bs : Int) (i : Nat) : Bool := (List.range i).any (bitB bs)
theorem used_succ (bs : Int) (i : Nat) : used bs (i + 1) = (used bs i || bitB bs i) := by
  unfold used
  rw [List.range_succ, List.any_append]
  simp
theorem used_want (bs : Int) (n : Nat) : used bs n = !decide ((wantL bs n).length = 0) := by
  induction n with
  | zero => rfl
  | succ n ih =>
    rw [used_succ, wantL_succ, ih, List.length_append]
    cases h : bitB bs n
    · simp
    · simp
def shK (bs : Int) (A : List KeyL) (i j : Nat) : PS := if bitB bs j = true then (if j < i then (newPS 0).put (if used bs j = true then [] else A) true else newPS 0) else newPS (-1 - (j : Int))
def skS (bs : Int) (A : List KeyL) (n i : Nat) : List PS := (List.range n).map (shK bs A i)
theorem skS_get {bs : Int} {A : List KeyL} {n i j : Nat} (h : j < n) : (skS bs A n i)[j]? = some (shK bs A i j) := by
  unfold skS
  rw [List.getElem?_map, List.getElem?_range h]
  rfl
theorem skS_zero (bs : Int) (A : List KeyL) (n : Nat) : (leastL bs n).map newPS = skS bs A n 0 := by
  unfold leastL skS
  rw [List.map_map]
  apply List.map_congr_left
  intro j _
  simp only [Function.comp]
  unfold shK
  by_cases h : bitB bs j = true
  · rw [if_pos h, if_pos h, if_neg (by omega)]
  · rw [if_neg h, if_neg h]
theorem sk_seq {bs : Int} {A : List KeyL} {n i : Nat} : ∀ s ∈ skS bs A n i, 0 ≤ s.seq ∧ s.seq ≤ 1000000 := by
  intro s hs
  unfold skS at hs
  obtain ⟨j, _, rfl⟩ := List.mem_map.1 hs
  unfold shK
  split
  · split
    · exact ⟨by show (0 : Int) ≤ 1; omega, by show (1 : Int) ≤ 1000000; omega⟩
    · exact ⟨by show (0 : Int) ≤ 0; omega, by show (0 : Int) ≤ 1000000; omega⟩
  · exact ⟨by show (0 : Int) ≤ 0; omega, by show (0 : Int) ≤ 1000000; omega⟩
theorem sk_open (bs : Int) (A : List KeyL) (n : Nat) : (skS bs A n 0).any PS.open_ = used bs n := by
  unfold skS used
  rw [List.any_map]
  congr 1
  funext j
  simp only [Function.comp]
  unfold shK
  cases h : bitB bs j
  · simp [PS.open_, newPS]; omega
  · simp [PS.open_, newPS]
theorem sk_done {bs : Int} {A : List KeyL} {n : Nat} {m : Int} (hm : 1 ≤ m) : doneP m (skS bs A n 0) [] = decide ((wantL bs n).length = 0) := by
  unfold doneP
  rw [sk_open, used_want]
  have : ¬ ((([] : List KeyL).length : Nat) : Int) = m := by simp; omega
  rw [decide_eq_false this]
  simp
theorem sk_wants {bs : Int} {A : List KeyL} {n : Nat} {m : Int} (hm : 1 ≤ m) : wantsP m (skS bs A n 0) [] = wantL bs n := by
  unfold wantsP
  rw [sk_done hm]
  by_cases h : (wantL bs n).length = 0
  · rw [decide_eq_true h, if_pos rfl, List.eq_nil_of_length_eq_zero h]
  · rw [decide_eq_false h, if_neg (by simp)]
    unfold wantK wantL
    have hl : (skS bs A n 0).length = n := by unfold skS; simp
    rw [hl]
    congr 1
    apply List.filter_congr
    intro j hj
    rw [skS_get (List.mem_range.1 hj)]
    simp only
    unfold shK
    cases h : bitB bs j
    · simp [PS.wanted, newPS]; omega
    · simp [PS.wanted, newPS]
theorem sk_next {bs : Int} {A : List KeyL} {n i : Nat} (hi : i < n) (hb : bitB bs i = true) : (skS bs A n i).set i ((newPS 0).put (if used bs i = true then [] else A) true) = skS bs A n (i + 1) := by
  apply List.ext_getElem?
  intro j
  by_cases hj : j < n
  · rw [skS_get hj]
    by_cases e : i = j
    · subst e
      rw [List.getElem?_set_self (by unfold skS; simp; exact hi)]
      unfold shK
      rw [if_pos hb, if_pos (show i < i + 1 by omega)]
    · rw [List.getElem?_set_ne e, skS_get hj]
      unfold shK
      by_cases hjb : bitB bs j = true
      · rw [if_pos hjb, if_pos hjb]
        by_cases h2 : j < i
        · rw [if_pos h2, if_pos (show j < i + 1 by omega)]
        · rw [if_neg h2, if_neg (show ¬ j < i + 1 by omega)]
      · rw [if_neg hjb, if_neg hjb]
  · rw [List.getElem?_eq_none (by unfold skS; simp; omega), List.getElem?_eq_none (by unfold skS; simp; omega)]
theorem sk_same {bs : Int} {A : List KeyL} {n i : Nat} (hb : bitB bs i = false) : skS bs A n i = skS bs A n (i + 1) := by
  unfold skS
  apply List.map_congr_left
  intro j _
  unfold shK
  by_cases hjb : bitB bs j = true
  · have : j ≠ i := fun e => by rw [e, hb] at hjb; cases hjb
    rw [if_pos hjb, if_pos hjb]
    by_cases h2 : j < i
    · rw [if_pos h2, if_pos (show j < i + 1 by omega)]
    · rw [if_neg h2, if_neg (show ¬ j < i + 1 by omega)]
  · rw [if_neg hjb, if_neg hjb]
theorem sk_put {bs : Int} {A : List KeyL} {n i : Nat} {m : Int} (hm : 1 ≤ m) (hi : i < n) (hA : A.length ≤ 5) (hR : RunI A A.length) :
    putP m (skS bs A n i) [] i 0 (if used bs i = true then [] else A) true = (bitB bs i, skS bs A n (i + 1)) := by
  have hat : atS (skS bs A n i) i = some (shK bs A i i) := by
    unfold atS
    rw [if_neg (by omega)]
    exact skS_get hi
  unfold putP putOK
  rw [hat]
  cases hb : bitB bs i
  · have hs : shK bs A i i = newPS (-1 - (i : Int)) := by unfold shK; rw [hb]; rfl
    rw [hs]
    have hw : (newPS (-1 - (i : Int))).wanted = false := by simp [PS.wanted, newPS]; omega
    simp only
    rw [if_pos (.inr (.inl hw)), sk_same hb]
  · have hs : shK bs A i i = newPS 0 := by unfold shK; rw [hb, if_pos rfl, if_neg (by omega)]
    rw [hs]
    have hd : doneP m (skS bs A n i) [] = false := by
      unfold doneP
      have h1 : ¬ ((([] : List KeyL).length : Nat) : Int) = m := by simp; omega
      have h2 : (skS bs A n i).any PS.open_ = true := by
        rw [List.any_eq_true]
        refine ⟨newPS 0, ?_, by simp [PS.open_, newPS]⟩
        rw [← hs]
        exact List.mem_iff_getElem?.2 ⟨i, skS_get hi⟩
      rw [decide_eq_false h1, h2]
      rfl
    have hlen : (if used bs i = true then [] else A).length ≤ 5 := by split <;> simp [hA]
    have hok : okI (newPS 0).least (newPS 0).heard (newPS 0).last (if used bs i = true then [] else A) = true := by
      split
      · rfl
      · have := okI_run hR A.length 0
        simp only [List.drop_zero, List.take_length] at this
        exact this
    simp only
    rw [if_neg]
    · simp only [Int.toNat_natCast]
      rw [sk_next hi hb]
    · rintro (h | h | h | h | h | h)
      · rw [hd] at h; cases h
      · revert h; decide
      · exact h rfl
      · omega
      · cases h.2
      · rw [hok] at h; cases h
theorem ahead_none : ∀ (S : List PS) (k : Nat), aheadP S k = none → ∀ j s, j < k → S[j]? = some s → s.waits.length = 0
  | S, 0, _, j, s, hj, _ => by omega
  | S, k + 1, h, j, s, hj, hs => by
    unfold aheadP at h
    cases hk : S[k]? with
    | none =>
      rw [hk] at h
      simp only at h
      by_cases e : j = k
      · subst e; rw [hk] at hs; cases hs
      · exact ahead_none S k h j s (by omega) hs
    | some t =>
      rw [hk] at h
      cases ha : aheadP S k with
      | none =>
        rw [ha] at h
        simp only at h
        by_cases e : j = k
        · subst e
          rw [hk] at hs
          cases hs
          by_cases hw : s.waits.length = 0
          · exact hw
          · rw [if_neg hw] at h; cases h
        · exact ahead_none S k ha j s (by omega) hs
      | some b =>
        rw [ha] at h
        simp only at h
        split at h
        · cases h
        · split at h
          · cases h
          · split at h <;> cases h
/-- with all ended, all is told -/
theorem tell_all (m : Int) : ∀ (f : Nat) (S : List PS) (T out : List KeyL), (∀ s ∈ S, s.ended = true) → (T.length : Int) ≤ m → f = m.toNat - T.length → doneP m (tellA m f S T out).2.1 (tellA m f S T out).2.2 = true
  | 0, S, T, out, hS, hT, hf => by
    simp only [tellA]
    unfold doneP
    rw [decide_eq_true (by omega)]
    rfl
  | f + 1, S, T, out, hS, hT, hf => by
    cases hst : stepP m S T with
    | none =>
      rw [tellA_stop hst]
      by_cases hd : doneP m S T = true
      · exact hd
      · exfalso
        have hd' : doneP m S T = false := by simpa using hd
        have hmi : ∀ x, S.any (fun t => t.might x) = false := by
          intro x
          rw [List.any_eq_false]
          intro s hs
          simp [PS.might, PS.wanted, hS s hs]
        cases ha : aheadP S S.length with
        | none =>
          apply hd
          unfold doneP
          have : S.any PS.open_ = false := by
            rw [List.any_eq_false]
            intro s hs
            obtain ⟨j, hj⟩ := List.mem_iff_getElem?.1 hs
            have h0 := ahead_none S S.length ha j s (List.getElem?_eq_some_iff.1 hj).1 hj
            simp [PS.open_, hS s hs, h0]
          rw [this]
          simp
        | some b =>
          unfold stepP at hst
          rw [if_neg hd, ha] at hst
          simp only at hst
          split at hst
          · rename_i hb
            exact absurd hb (by
              intro hb
              have := (aheadP_lt ha).1
              rw [List.getElem?_eq_getElem this] at hb
              cases hb)
          · rename_i s hb
            rw [if_neg (by rw [hmi]; simp)] at hst
            cases hst
    | some r =>
      obtain ⟨x, b, s⟩ := r
      simp only [tellA, hst]
      have hlt : (T.length : Int) < m := by omega
      refine tell_all m f (S.set b s) (T ++ [x]) (out ++ [x]) ?_ (by rw [List.length_append, List.length_singleton]; omega) (by rw [List.length_append, List.length_singleton]; omega)
      intro t ht
      have hse : s.ended = true := by
        unfold stepP at hst
        split at hst
        · cases hst
        · split at hst
          · cases hst
          · split at hst
            · cases hst
            · rename_i t0 hb
              split at hst
              · cases hst
              · simp only [Option.some.injEq, Prod.mk.injEq] at hst
                rw [← hst.2.2]
                exact hS t0 (List.mem_of_getElem? hb)
      rcases List.mem_or_eq_of_mem_set ht with h | h
      · exact hS t h
      · rw [h]; exact hse
theorem sk_ended {bs : Int} {A : List KeyL} {n : Nat} : ∀ s ∈ skS bs A n n, s.ended = true := by
  intro s hs
  unfold skS at hs
  obtain ⟨j, hj, rfl⟩ := List.mem_map.1 hs
  have hjn := List.mem_range.1 hj
  unfold shK
  split
  · first | rfl | (rw [if_pos hjn]; rfl)
  · simp [newPS]; omega
theorem sk_tell {bs : Int} {A : List KeyL} {n : Nat} {m : Int} (hm : 1 ≤ m) : doneP m (tellP m (skS bs A n n) []).2.1 (tellP m (skS bs A n n) []).2.2 = true :=
  tell_all m _ _ _ _ sk_ended (by simp; omega) (by simp)
end Go.Proofs.Ytjacebnjmhbcbaa
