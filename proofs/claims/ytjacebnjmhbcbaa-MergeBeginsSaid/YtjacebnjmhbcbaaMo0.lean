/- The plain law of MergeOne: one shard that tells batch by batch. -/
import Derived.Test.YtjacebnjmhbcbaaMg13
namespace Go.Proofs.Ytjacebnjmhbcbaa
open Go.RowKit
set_option linter.unusedVariables false

def PS.drops (s : PS) (k : Nat) : PS := ⟨s.least, s.seq, s.ended, s.heard, s.last, s.waits.drop k⟩
theorem tellA_one (n : Int) : ∀ (f : Nat) (s : PS) (T out : List KeyL), (T.length : Int) ≤ n → f = n.toNat - T.length →
    tellA n f [s] T out = (out ++ s.waits.take (min s.waits.length f), [s.drops (min s.waits.length f)], T ++ s.waits.take (min s.waits.length f))
  | 0, s, T, out, _, _ => by simp [tellA, PS.drops]
  | f + 1, s, T, out, hT, hf => by
    cases hw : s.waits with
    | nil =>
      have h0 : aheadP [s] [s].length = none := by simp [aheadP, hw]
      rw [tellA_stop (step_none h0)]
      simp [PS.drops, hw]
      rw [← hw]
    | cons x l =>
      have hwa : s.wanted = false := by simp [PS.wanted, hw]
      have hd : doneP n [s] T = false := by
        have h1 : ¬ (T.length : Int) = n := by omega
        simp [doneP, PS.open_, hw, h1]
      have ha : aheadP [s] [s].length = some 0 := by simp [aheadP, hw]
      have hm : [s].any (fun t => t.might (headP s)) = false := by simp [PS.might, hwa]
      have hst := step_some hd ha (by rfl) hm
      have hx : headP s = x := by simp [headP, hw]
      rw [hx] at hst
      simp only [tellA, hst]
      rw [show [s].set 0 s.less = [s.less] from rfl, tellA_one n f s.less (T ++ [x]) (out ++ [x]) (by rw [List.length_append, List.length_singleton]; omega) (by rw [List.length_append, List.length_singleton]; omega)]
      have e1 : s.less.waits = l := by simp [PS.less, hw]
      rw [e1, List.length_cons, show min (l.length + 1) (f + 1) = min l.length f + 1 by omega, List.take_succ_cons]
      simp only [List.append_assoc, List.singleton_append, Prod.mk.injEq, true_and, and_true]
      simp [PS.drops, PS.less, hw]
theorem tell_one {n : Int} {s : PS} {T : List KeyL} (hT : (T.length : Int) ≤ n) {k : Nat} (hk : min s.waits.length (n.toNat - T.length) = k) : tellP n [s] T = (s.waits.take k, [s.drops k], T ++ s.waits.take k) := by
  unfold tellP
  rw [tellA_one n _ s T [] hT rfl, hk, List.nil_append]
def zeroI : KeyL := (0, ⟨#[]⟩)
def lastT (l : List KeyL) (a : Nat) : KeyL := (l.take a).getLastD zeroI
/-- the first ones may be told: none is below 0, each is behind the one ahead of it -/
def RunI (l : List KeyL) (i : Nat) : Prop := (∀ (j : Nat) (x : KeyL), j < i → l[j]? = some x → 0 ≤ x.1) ∧ ∀ (j : Nat) (x y : KeyL), j + 1 < i → l[j]? = some x → l[j + 1]? = some y → kless x y = true
theorem RunI.next {l : List KeyL} {i : Nat} {x : KeyL} (h : RunI l i) (hx : l[i]? = some x) (h0 : 0 ≤ x.1) (h1 : ∀ (j : Nat) (y : KeyL), j + 1 = i → l[j]? = some y → kless y x = true) : RunI l (i + 1) :=
  ⟨fun j y hj hy => by
    by_cases e : j = i
    · subst e; rw [hx] at hy; cases hy; exact h0
    · exact h.1 j y (by omega) hy, fun j y z hj hy hz => by
    by_cases e : j + 1 = i
    · rw [e, hx] at hz; cases hz; exact h1 j y e hy
    · exact h.2 j y z (by omega) hy hz⟩
theorem lastT_succ {l : List KeyL} {a : Nat} {x : KeyL} (h : l[a]? = some x) : lastT l (a + 1) = x := by
  unfold lastT
  rw [List.take_add_one, h]
  simp
theorem okI_run {l : List KeyL} (h : RunI l l.length) : ∀ (c a : Nat), okI 0 (decide (0 < a)) (lastT l a) ((l.drop a).take c) = true
  | 0, a => by simp [okI]
  | c + 1, a => by
    cases hx : l[a]? with
    | none =>
      have : l.length ≤ a := by simpa using hx
      rw [List.drop_eq_nil_of_le this]
      simp [okI]
    | some x =>
      have hal := (List.getElem?_eq_some_iff.1 hx).1
      have hd : l.drop a = x :: l.drop (a + 1) := by
        rw [List.drop_eq_getElem_cons hal, (List.getElem?_eq_some_iff.1 hx).2]
      rw [hd, List.take_succ_cons]
      have ih := okI_run h c (a + 1)
      rw [lastT_succ hx] at ih
      have hp := h.1 a x hal hx
      unfold okI
      have h1 : (decide (0 < a) && !kless (lastT l a) x) = false := by
        cases a with
        | zero => rfl
        | succ b =>
          obtain ⟨y, hy⟩ : ∃ y, l[b]? = some y := ⟨_, List.getElem?_eq_getElem (by omega)⟩
          rw [lastT_succ hy, h.2 b y x hal hy hx]
          simp
      have h2 : decide (x.1 < 0) = false := by simpa using hp
      rw [h1, h2]
      simpa using ih
/-- the shard between two rounds -/
def shA (l : List KeyL) (a r : Nat) : PS := ⟨0, r, false, decide (0 < a), lastT l a, []⟩
/-- and behind a batch that ends at t -/
def shB (l : List KeyL) (a r t : Nat) : PS := ⟨0, (r : Int) + 1, decide (t = l.length), decide (0 < t), lastT l t, (l.take t).drop a⟩
theorem lastT_of {l : List KeyL} {a t : Nat} (h : a ≤ t) (ht : t ≤ l.length) : ((l.take t).drop a).getLastD (lastT l a) = lastT l t := by
  by_cases e : a = t
  · subst e
    rw [List.drop_eq_nil_of_le (by rw [List.length_take]; omega)]
    rfl
  · have hl : (l.take t).drop a ≠ [] := by
      intro e2
      have := congrArg List.length e2
      rw [List.length_drop, List.length_take, List.length_nil] at this
      omega
    have hl2 : l.take t ≠ [] := by
      intro e2
      rw [e2] at hl
      simp at hl
    unfold lastT
    simp only [List.getLastD_eq_getLast?]
    rw [List.getLast?_drop, if_neg (by rw [List.length_take]; omega), List.getLast?_eq_some_getLast hl2]
    rfl
theorem one_put {l : List KeyL} {n : Int} {a r b t : Nat} (h : RunI l l.length) (ha : a ≤ l.length) (han : (a : Int) < n) (hb : 1 ≤ b) (hb5 : b ≤ 5) (ht : min (a + b) l.length = t) :
    putP n [shA l a r] (l.take a) 0 r ((l.take t).drop a) (decide (t = l.length)) = (true, [shB l a r t]) := by
  have hlen : ((l.take t).drop a).length = t - a := by rw [List.length_drop, List.length_take]; omega
  have hd : doneP n [shA l a r] (l.take a) = false := by
    have h1 : ¬ (((l.take a).length : Nat) : Int) = n := by rw [List.length_take]; omega
    simp [doneP, PS.open_, shA] at h1 ⊢
    omega
  have hok : okI 0 (decide (0 < a)) (lastT l a) ((l.take t).drop a) = true := by
    rw [List.drop_take]
    exact okI_run h (t - a) a
  have hp : putOK n [shA l a r] (l.take a) 0 r ((l.take t).drop a) (decide (t = l.length)) = some (shA l a r) := by
    unfold putOK
    have : atS [shA l a r] 0 = some (shA l a r) := rfl
    rw [this]
    simp only
    rw [if_neg]
    rintro (h1 | h1 | h1 | h1 | h1 | h1)
    · rw [hd] at h1; cases h1
    · simp [PS.wanted, shA] at h1
    · exact h1 rfl
    · rw [hlen] at h1; omega
    · rw [hlen, decide_eq_false_iff_not] at h1; omega
    · have h2 : okI (shA l a r).least (shA l a r).heard (shA l a r).last ((l.take t).drop a) = true := hok
      rw [h2] at h1; cases h1
  unfold putP
  rw [hp]
  simp only [Int.toNat_zero, List.set_cons_zero, Prod.mk.injEq, true_and, List.cons.injEq, and_true]
  have hl := lastT_of (l := l) (a := a) (t := t) (by omega) (by omega)
  unfold PS.put shB shA
  simp only [PS.mk.injEq, true_and, and_true]
  refine ⟨?_, hl⟩
  rw [hlen]
  by_cases h0 : 0 < t
  · rw [decide_eq_true h0]
    by_cases h1 : 0 < a
    · rw [decide_eq_true h1]; rfl
    · rw [decide_eq_true (show 0 < t - a by omega)]; simp
  · rw [decide_eq_false h0, decide_eq_false (by omega), decide_eq_false (by omega)]; rfl
theorem one_tell {l : List KeyL} {n : Int} {a r t : Nat} (hat : a ≤ t) (ht : t ≤ l.length) (han : (a : Int) < n) {k : Nat} (hk : min (t - a) (n.toNat - a) = k) :
    tellP n [shB l a r t] (l.take a) = (((l.take t).drop a).take k, [(shB l a r t).drops k], l.take (min t n.toNat)) := by
  have hw : (shB l a r t).waits = (l.take t).drop a := rfl
  have hl : (l.take a).length = a := by rw [List.length_take]; omega
  rw [tell_one (by rw [hl]; omega) (k := k) (by rw [hw, hl, List.length_drop, List.length_take]; omega), hw]
  congr 2
  rw [List.drop_take, List.take_take]
  have e : l.take (min t n.toNat) = l.take a ++ (l.drop a).take (min t n.toNat - a) := by
    rw [← List.take_append_drop a l, List.take_append, List.take_take]
    simp only [List.take_append_drop, List.length_take]
    congr 1
    · congr 1; omega
    · congr 1; omega
  rw [e]
  congr 2
  omega
theorem one_done {l : List KeyL} {n : Int} {a r t : Nat} (hat : a ≤ t) (ht : t ≤ l.length) (han : (a : Int) < n) {k : Nat} (hk : min (t - a) (n.toNat - a) = k) :
    doneP n [(shB l a r t).drops k] (l.take (min t n.toNat)) = (decide (n ≤ (t : Int)) || decide (t = l.length)) := by
  have hl : (l.take (min t n.toNat)).length = min t n.toNat := by rw [List.length_take]; omega
  have hw : ((shB l a r t).drops k).waits.length = (t - a) - k := by
    show (((l.take t).drop a).drop k).length = _
    rw [List.length_drop, List.length_drop, List.length_take]; omega
  have he : ((shB l a r t).drops k).ended = decide (t = l.length) := rfl
  unfold doneP
  rw [hl]
  simp only [List.any_cons, List.any_nil, Bool.or_false]
  unfold PS.open_
  rw [hw, he]
  by_cases h1 : n ≤ (t : Int)
  · rw [decide_eq_true h1, decide_eq_true (by omega)]; rfl
  · rw [decide_eq_false h1, decide_eq_false (by omega), decide_eq_false (show ¬ 0 < t - a - k by omega)]
    simp
theorem one_next {l : List KeyL} {n : Int} {a r b t : Nat} (ht : min (a + b) l.length = t) (ha : a ≤ l.length) {k : Nat} (hk : min (t - a) (n.toNat - a) = k) (h1 : (t : Int) < n) (h2 : t ≠ l.length) :
    (shB l a r t).drops k = shA l t (r + 1) ∧ min t n.toNat = t ∧ a + b = t := by
  refine ⟨?_, by omega, by omega⟩
  unfold PS.drops shB shA
  simp only [PS.mk.injEq, true_and]
  refine ⟨by omega, by simpa using h2, ?_⟩
  rw [List.drop_drop]
  exact List.drop_eq_nil_of_le (by rw [List.length_take]; omega)
end Go.Proofs.Ytjacebnjmhbcbaa
