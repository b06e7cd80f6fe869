/- Plain laws of RankParts, RankFirst, RankFar. -/
import Derived.Test.YtiohngcmojkheaaRk4
import Derived.Test.YtiohngcmojkheaaTx3
namespace Go.Proofs.Ytiohngcmojkheaa
open Go.RowKit
set_option linter.unusedVariables false

theorem hasT_false {l : List ByteArray} {x : ByteArray} : hasT l x = false ↔ x ∉ l := by
  rw [← hasT_iff]; cases hasT l x <;> simp
theorem without_perm {l r r' : List ByteArray} (h : ∀ x ∈ l, (x ∈ r ↔ x ∈ r')) : withoutL l r = withoutL l r' := by
  unfold withoutL
  apply List.filter_congr
  intro x hx
  have := h x hx
  cases h1 : hasT r x <;> cases h2 : hasT r' x
  · rfl
  · rw [hasT_false] at h1; rw [hasT_iff] at h2; exact absurd (this.2 h2) h1
  · rw [hasT_iff] at h1; rw [hasT_false] at h2; exact absurd (this.1 h1) h2
  · rfl
theorem rise_ne {x : ByteArray} {l : List ByteArray} (h : RiseT (x :: l)) : x ∉ l := fun hx => by
  have := (List.pairwise_cons.1 h).1 x hx
  rw [tless_irr] at this; cases this
theorem merge_perm : ∀ (a b : List ByteArray), RiseT a → RiseT b → (mergeL a b).Perm (a ++ withoutL b a)
  | [], b, _, _ => by
    rw [mergeL_nil, List.nil_append]
    have : withoutL b [] = b := by
      unfold withoutL
      rw [List.filter_eq_self]
      intro x _
      rw [hasT_false.2 (by simp)]; rfl
    rw [this]
  | x :: a, [], _, _ => by
    rw [mergeL_nil2]
    unfold withoutL
    simp
  | x :: a, y :: b, ha, hb => by
    have ha' := (List.pairwise_cons.1 ha).2
    have hb' := (List.pairwise_cons.1 hb).2
    cases hl : tless x y with
    | true =>
      rw [mergeL_lt hl]
      have ih := merge_perm a (y :: b) ha' hb
      have hx : x ∉ y :: b := fun h => by
        rcases List.mem_cons.1 h with rfl | h
        · rw [tless_irr] at hl; cases hl
        · have := (List.pairwise_cons.1 hb).1 x h
          rw [tless_asym this] at hl; cases hl
      rw [without_perm (l := y :: b) (r := x :: a) (r' := a) (fun z hz => ⟨fun h => by
        rcases List.mem_cons.1 h with rfl | h
        · exact absurd hz hx
        · exact h, fun h => List.mem_cons_of_mem _ h⟩)]
      exact ih.cons x
    | false =>
      by_cases e : x = y
      · rw [mergeL_eq hl e]
        subst e
        have ih := merge_perm a (x :: b) ha' hb
        have h1 : withoutL (x :: b) a = x :: withoutL b a := by
          unfold withoutL
          rw [List.filter_cons_of_pos (by rw [hasT_false.2 (rise_ne ha)]; rfl)]
        have h2 : withoutL (x :: b) (x :: a) = withoutL b a := by
          have : withoutL (x :: b) (x :: a) = withoutL b (x :: a) := by
            unfold withoutL
            rw [List.filter_cons_of_neg (by rw [hasT_iff.2 (List.mem_cons_self ..)]; simp)]
          rw [this]
          exact without_perm (fun z hz => ⟨fun h => by
            rcases List.mem_cons.1 h with rfl | h
            · exact absurd hz (rise_ne hb)
            · exact h, fun h => List.mem_cons_of_mem _ h⟩)
        rw [h1] at ih
        rw [h2]
        exact ih.trans List.perm_middle
      · rw [mergeL_gt hl e]
        have ih := merge_perm (x :: a) b ha hb'
        have hyx : tless y x = true := by
          unfold tless at *
          rw [decide_eq_false_iff_not] at hl
          rw [decide_eq_true_eq]
          have h1 := cmpT_anti x y
          have h2 : cmpT x y ≠ 0 := fun h => e (cmpT_eq h)
          omega
        have hy : y ∉ x :: a := fun h => by
          rcases List.mem_cons.1 h with rfl | h
          · exact e rfl
          · have := tless_trans hyx ((List.pairwise_cons.1 ha).1 y h)
            rw [tless_irr] at this; cases this
        have h1 : withoutL (y :: b) (x :: a) = y :: withoutL b (x :: a) := by
          unfold withoutL
          rw [List.filter_cons_of_pos (by rw [hasT_false.2 hy]; rfl)]
        rw [h1]
        exact (ih.cons y).trans List.perm_middle.symm
theorem sortL_congr {l k : List KeyL} (h : l.Perm k) : sortL l = sortL k := sorted_one (sortL_sorted l) (sortL_sorted k) ((sortL_perm l).trans (h.trans (sortL_perm k).symm))
theorem sortL_app {a b c d : List KeyL} (h : (sortL a).Perm (sortL b)) : sortL a = sortL b := sorted_one (sortL_sorted a) (sortL_sorted b) h
theorem sort_both (a b : List KeyL) : sortL (sortL a ++ sortL b) = sortL (a ++ b) := sortL_congr ((sortL_perm a).append (sortL_perm b))
theorem near_perm {l k : List ByteArray} (s : ByteArray) (d : Int) (h : l.Perm k) : (nearI l s d).Perm (nearI k s d) := h.filterMap _
theorem near_app (l k : List ByteArray) (s : ByteArray) (d : Int) : nearI (l ++ k) s d = nearI l s d ++ nearI k s d := List.filterMap_append
theorem parts_all {a b : List ByteArray} (s : ByteArray) (k : Int) (ha : RiseT a) (hb : RiseT b) : sortL (allL a s k ++ allL (withoutL b a) s k) = allL (mergeL a b) s k := by
  unfold allL
  rw [sort_both, ← near_app]
  exact sortL_congr (near_perm s k (merge_perm a b ha hb).symm)
/-- two lists in order, one of both -/
def mrgI : List KeyL → List KeyL → List KeyL
  | [], b => b
  | x :: a, [] => x :: a
  | x :: a, y :: b => if kless y x = true then y :: mrgI (x :: a) b else x :: mrgI a (y :: b)
theorem mrgI_nil (a : List KeyL) : mrgI [] a = a := by unfold mrgI; rfl
theorem mrgI_nil2 (a : List KeyL) : mrgI a [] = a := by cases a <;> (unfold mrgI; rfl)
theorem mrgI_perm : ∀ a b : List KeyL, (mrgI a b).Perm (a ++ b)
  | [], b => by unfold mrgI; exact List.Perm.refl _
  | x :: a, [] => by unfold mrgI; simp
  | x :: a, y :: b => by
    rw [mrgI]
    split
    · exact ((mrgI_perm (x :: a) b).cons y).trans List.perm_middle.symm
    · exact (mrgI_perm a (y :: b)).cons x
theorem leI_trans {x y z : KeyL} (h : leI x y) (k : leI y z) : leI x z := kless_ord.trans x y z h k
theorem mrgI_sorted : ∀ a b : List KeyL, a.Pairwise leI → b.Pairwise leI → (mrgI a b).Pairwise leI
  | [], b, _, hb => by rw [mrgI_nil]; exact hb
  | x :: a, [], ha, _ => by rw [mrgI_nil2]; exact ha
  | x :: a, y :: b, ha, hb => by
    have ha1 := List.pairwise_cons.1 ha
    have hb1 := List.pairwise_cons.1 hb
    rw [mrgI]
    split
    · rename_i hl
      have hyx : leI y x := kless_asym hl
      refine List.pairwise_cons.2 ⟨fun z hz => ?_, mrgI_sorted (x :: a) b ha hb1.2⟩
      rcases List.mem_append.1 ((mrgI_perm _ _).mem_iff.1 hz) with hz | hz
      · rcases List.mem_cons.1 hz with rfl | hz
        · exact hyx
        · exact leI_trans hyx (ha1.1 z hz)
      · exact hb1.1 z hz
    · rename_i hl
      have hxy : leI x y := by unfold leI; simpa using hl
      refine List.pairwise_cons.2 ⟨fun z hz => ?_, mrgI_sorted a (y :: b) ha1.2 hb⟩
      rcases List.mem_append.1 ((mrgI_perm _ _).mem_iff.1 hz) with hz | hz
      · exact ha1.1 z hz
      · rcases List.mem_cons.1 hz with rfl | hz
        · exact hxy
        · exact leI_trans hxy (hb1.1 z hz)
theorem mrgI_take : ∀ (n p q : Nat) (a b : List KeyL), n ≤ p → n ≤ q → (mrgI (a.take p) (b.take q)).take n = (mrgI a b).take n
  | 0, _, _, _, _, _, _ => by simp
  | n + 1, p, q, [], b, hp, hq => by
    rw [List.take_nil, mrgI_nil, mrgI_nil, List.take_take]
    congr 1
    omega
  | n + 1, p, q, x :: a, [], hp, hq => by
    rw [List.take_nil, mrgI_nil2, mrgI_nil2, List.take_take]
    congr 1
    omega
  | n + 1, p + 1, q + 1, x :: a, y :: b, hp, hq => by
    rw [List.take_succ_cons, List.take_succ_cons, mrgI, mrgI]
    split
    · rw [List.take_succ_cons, List.take_succ_cons]
      have := mrgI_take n (p + 1) q (x :: a) b (by omega) (by omega)
      rw [List.take_succ_cons] at this
      rw [this]
    · rw [List.take_succ_cons, List.take_succ_cons]
      have := mrgI_take n p (q + 1) a (y :: b) (by omega) (by omega)
      rw [List.take_succ_cons] at this
      rw [this]
theorem sort_mrg {a b : List KeyL} (ha : a.Pairwise leI) (hb : b.Pairwise leI) : sortL (a ++ b) = mrgI a b := (sortL_of (mrgI_sorted a b ha hb) (mrgI_perm a b)).symm
theorem take_sorted {a : List KeyL} (n : Nat) (h : a.Pairwise leI) : (a.take n).Pairwise leI := h.sublist (List.take_sublist n a)
theorem parts_top {a b : List ByteArray} (q : ByteArray) (k n : Int) (hm : mayQ q k n = true) (ha : RiseT a) (hb : RiseT b) :
    (topL (mergeL a b) q k n).length ≤ (sortL (topL a q k n ++ topL (withoutL b a) q k n)).length ∧ (sortL (topL a q k n ++ topL (withoutL b a) q k n)).take (topL (mergeL a b) q k n).length = topL (mergeL a b) q k n := by
  unfold topL
  rw [hm, if_pos rfl, if_pos rfl, if_pos rfl, ← parts_all q k ha hb]
  have hA := sortL_sorted (nearI a q k)
  have hC := sortL_sorted (nearI (withoutL b a) q k)
  unfold allL
  generalize sortL (nearI a q k) = A at *
  generalize sortL (nearI (withoutL b a) q k) = C at *
  generalize n.toNat = N
  rw [sort_mrg hA hC, sort_mrg (take_sorted N hA) (take_sorted N hC)]
  have h1 := mrgI_take N N N A C (Nat.le_refl _) (Nat.le_refl _)
  have l1 := (mrgI_perm A C).length_eq
  have l2 := (mrgI_perm (A.take N) (C.take N)).length_eq
  simp only [List.length_append, List.length_take] at l1 l2
  refine ⟨by rw [List.length_take, l1, l2]; omega, ?_⟩
  rw [List.length_take, ← h1]
  rw [List.take_eq_take_iff]
  omega
/-- the distance, whichever text is first -/
theorem distT_sym (s t : ByteArray) : distT s t = distT t s := by
  unfold distT
  cases runesO s <;> cases runesO t <;> try rfl
  exact distL_sym _ _
theorem nearI_far {words : List ByteArray} {s : ByteArray} {k : Int} : nearI (words.filter fun w => decide (distT w s ≤ k)) s k = nearI words s k := by
  unfold nearI
  rw [List.filterMap_filter]
  congr 1
  funext w
  by_cases h : distT w s ≤ k
  · rw [decide_eq_true h]; rfl
  · rw [decide_eq_false h]
    unfold nearO nearT
    have hh : ¬ (0 ≤ distT w s ∧ distT w s ≤ k) := fun h' => h h'.2
    rw [distT_sym s w]
    simp only [if_neg hh]
    rfl
theorem top_far {words : List ByteArray} {s : ByteArray} {k n : Int} : topL (words.filter fun w => decide (distT w s ≤ k)) s k n = topL words s k n := by
  unfold topL allL
  rw [nearI_far]
theorem nearI_mem {words : List ByteArray} {s : ByteArray} {k : Int} {x : KeyL} : x ∈ nearI words s k ↔ x.2 ∈ words ∧ x.1 = distT x.2 s ∧ 0 ≤ x.1 ∧ x.1 ≤ k := by
  unfold nearI
  rw [List.mem_filterMap]
  constructor
  · rintro ⟨w, hw, h⟩
    unfold nearO nearT at h
    by_cases hd : 0 ≤ distT s w ∧ distT s w ≤ k
    · simp only [if_pos hd, if_true] at h
      obtain rfl := Option.some.inj h
      exact ⟨hw, distT_sym _ _, hd.1, hd.2⟩
    · simp only [if_neg hd] at h
      cases h
  · rintro ⟨hw, h1, h2, h3⟩
    refine ⟨x.2, hw, ?_⟩
    unfold nearO nearT
    have hh : 0 ≤ x.1 ∧ x.1 ≤ k := ⟨h2, h3⟩
    rw [distT_sym s x.2, ← h1]
    simp only [if_pos hh]
    rfl
theorem allL_mem {words : List ByteArray} {s : ByteArray} {k : Int} {x : KeyL} : x ∈ allL words s k ↔ x.2 ∈ words ∧ x.1 = distT x.2 s ∧ 0 ≤ x.1 ∧ x.1 ≤ k := by unfold allL; rw [sortL_mem]; exact nearI_mem
/-- each word stands there once -/
theorem allL_nodup {words : List ByteArray} (s : ByteArray) (k : Int) (h : RiseT words) : ((allL words s k).map (·.2)).Nodup := by
  have hn : words.Nodup := h.imp (fun {a b} h e => by subst e; rw [tless_irr] at h; cases h)
  have h1 : ((nearI words s k).map (·.2)).Sublist words := by
    unfold nearI
    clear h hn
    induction words with
    | nil => exact List.Sublist.refl _
    | cons w r ih =>
      rw [List.filterMap_cons]
      split
      · exact ih.cons w
      · rename_i y hy
        unfold nearO at hy
        split at hy
        · obtain rfl := Option.some.inj hy
          rw [List.map_cons]
          exact ih.cons_cons w
        · cases hy
  unfold allL
  exact ((sortL_perm _).map _).nodup_iff.2 (hn.sublist h1)
end Go.Proofs.Ytiohngcmojkheaa
