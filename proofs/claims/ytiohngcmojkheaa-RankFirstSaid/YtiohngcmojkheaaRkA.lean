/- Plain laws of RankFar and RankFirst. -/
import Derived.Test.YtiohngcmojkheaaRk8
namespace Go.Proofs.Ytiohngcmojkheaa
open Go.RowKit
set_option linter.unusedVariables false

theorem filter_idx : ∀ (S : List KeyL) (i : Nat) (x : KeyL), (S.map (·.2)).Nodup → S[i]? = some x → S.filter (fun z => !decide (x.2 = z.2)) = S.take i ++ S.drop (i + 1)
  | [], i, x, _, h => by simp at h
  | z :: S, 0, x, hn, h => by
    simp at h
    subst h
    rw [List.map_cons, List.nodup_cons] at hn
    rw [List.filter_cons_of_neg (by simp), List.take_zero, List.nil_append, List.drop_succ_cons, List.drop_zero, List.filter_eq_self]
    intro y hy
    have : z.2 ≠ y.2 := fun e => hn.1 (e ▸ List.mem_map_of_mem hy)
    simp [this]
  | z :: S, i + 1, x, hn, h => by
    rw [List.getElem?_cons_succ] at h
    rw [List.map_cons, List.nodup_cons] at hn
    have hne : x.2 ≠ z.2 := fun e => hn.1 (e ▸ List.mem_map_of_mem (List.mem_iff_getElem?.2 ⟨i, h⟩))
    rw [List.filter_cons_of_pos (by simp [hne]), filter_idx S i x hn.2 h, List.take_succ_cons, List.drop_succ_cons]
    rfl
theorem sortL_filter (p : KeyL → Bool) (l : List KeyL) : sortL (l.filter p) = (sortL l).filter p :=
  (sortL_of ((sortL_sorted l).sublist List.filter_sublist) ((sortL_perm l).filter p)).symm
theorem hasT_one (v y : ByteArray) : hasT [v] y = decide (v = y) := by unfold hasT; simp
theorem far_near (words : List ByteArray) (s v : ByteArray) (k : Int) : nearI (withoutL words [v]) s k = (nearI words s k).filter (fun z => !decide (v = z.2)) := by
  unfold nearI withoutL
  rw [List.filterMap_filter, List.filter_filterMap]
  congr 1
  funext w
  rw [hasT_one]
  unfold nearO
  cases hd : decide (v = w) <;> cases hk : (nearT s w k).2 <;> simp [Option.filter, hd]
theorem far_all {words : List ByteArray} (s : ByteArray) (k : Int) (h : RiseT words) {i : Nat} {x : KeyL} (hx : (allL words s k)[i]? = some x) : allL (withoutL words [x.2]) s k = (allL words s k).take i ++ (allL words s k).drop (i + 1) := by
  have hn := allL_nodup s k h
  rw [← filter_idx _ i x hn hx]
  unfold allL
  rw [far_near, sortL_filter]
theorem far_take {S : List KeyL} {N i : Nat} (h : i < (S.take N).length) : ((S.take N).take i ++ (S.take N).drop (i + 1)).length ≤ ((S.take i ++ S.drop (i + 1)).take N).length ∧ ((S.take i ++ S.drop (i + 1)).take N).take ((S.take N).take i ++ (S.take N).drop (i + 1)).length = (S.take N).take i ++ (S.take N).drop (i + 1) := by
  rw [List.length_take] at h
  have e1 : (S.take N).take i = S.take i := by rw [List.take_take]; congr 1; omega
  rw [e1]
  have l1 : (S.take i).length = i := by rw [List.length_take]; omega
  refine ⟨by simp only [List.length_append, List.length_take, List.length_drop]; omega, ?_⟩
  rw [List.length_append, l1, List.take_take, List.take_append, l1, List.take_of_length_le (by rw [l1]; simp only [List.length_take, List.length_drop]; omega), List.drop_take]
  congr 1
  rw [List.take_eq_take_iff]
  simp only [List.length_take, List.length_drop]
  omega
theorem far_top {words : List ByteArray} (q : ByteArray) (k n : Int) (h : RiseT words) (hm : mayQ q k n = true) {i : Nat} {x : KeyL} (hx : (topL words q k n)[i]? = some x) :
    ((topL words q k n).take i ++ (topL words q k n).drop (i + 1)).length ≤ (topL (withoutL words [x.2]) q k n).length ∧ (topL (withoutL words [x.2]) q k n).take ((topL words q k n).take i ++ (topL words q k n).drop (i + 1)).length = (topL words q k n).take i ++ (topL words q k n).drop (i + 1) := by
  unfold topL at *
  rw [hm, if_pos rfl] at *
  have hi := (List.getElem?_eq_some_iff.1 hx).1
  have hx2 : (allL words q k)[i]? = some x := by
    rw [List.getElem?_take] at hx
    split at hx
    · exact hx
    · cases hx
  rw [if_pos rfl, far_all q k h hx2]
  exact far_take hi
/-- what is told first: of what is near and not told nothing is ahead of the last one -/
theorem first_law {words : List ByteArray} {q : ByteArray} {k n : Int} (hm : mayQ q k n = true) {x : KeyL} (hx : x ∈ nearI words q k) (hn : x ∉ topL words q k n) : n.toNat ≤ (topL words q k n).length ∧ ∀ y ∈ topL words q k n, kless x y = false := by
  have hx2 : x ∈ allL words q k := by unfold allL; rw [sortL_mem]; exact hx
  have hs := sortL_sorted (nearI words q k)
  unfold topL at *
  rw [hm, if_pos rfl] at *
  unfold allL at *
  generalize sortL (nearI words q k) = S at *
  have hd : x ∈ S.drop n.toNat := by
    rw [← List.take_append_drop n.toNat S] at hx2
    rcases List.mem_append.1 hx2 with h | h
    · exact absurd h hn
    · exact h
  have hl : n.toNat < S.length := by
    have := List.length_pos_of_mem hd
    rw [List.length_drop] at this
    omega
  refine ⟨by rw [List.length_take]; omega, fun y hy => ?_⟩
  rw [← List.take_append_drop n.toNat S] at hs
  exact (List.pairwise_append.1 hs).2.2 y hy x hd
theorem topL_mem {words : List ByteArray} {q : ByteArray} {k n : Int} {x : KeyL} (h : x ∈ topL words q k n) : x.2 ∈ words ∧ x.1 = distT x.2 q ∧ 0 ≤ x.1 ∧ x.1 ≤ k := by
  unfold topL at h
  split at h
  · exact allL_mem.1 ((List.take_sublist _ _).mem h)
  · simp at h
theorem topL_len2 {words : List ByteArray} {q : ByteArray} {k n : Int} (hm : mayQ q k n = true) : (topL words q k n).length = min (nearI words q k).length n.toNat := by
  unfold topL allL
  rw [hm, if_pos rfl, List.length_take, sortL_len]
  omega
theorem topL_step {words : List ByteArray} {q : ByteArray} {k n : Int} (hr : RiseT words) {i : Nat} {x y : KeyL} (hx : (topL words q k n)[i]? = some x) (hy : (topL words q k n)[i + 1]? = some y) : kless x y = true := by
  have hs := sortL_sorted (nearI words q k)
  have hn := allL_nodup q k hr
  unfold topL at *
  split at hx
  · rename_i hm
    rw [if_pos hm] at hy
    unfold allL at *
    generalize sortL (nearI words q k) = S at *
    rw [List.getElem?_take] at hx hy
    split at hx
    · split at hy
      · have h1 := List.pairwise_iff_getElem.1 hs i (i + 1) (List.getElem?_eq_some_iff.1 hx).1 (List.getElem?_eq_some_iff.1 hy).1 (by omega)
        rw [(List.getElem?_eq_some_iff.1 hx).2, (List.getElem?_eq_some_iff.1 hy).2] at h1
        cases h2 : kless x y
        · exfalso
          have e : x = y := kless_tri h2 h1
          subst e
          have := (List.pairwise_iff_getElem.1 hn) i (i + 1) (by simpa using (List.getElem?_eq_some_iff.1 hx).1) (by simpa using (List.getElem?_eq_some_iff.1 hy).1) (by omega)
          simp only [List.getElem_map, (List.getElem?_eq_some_iff.1 hx).2, (List.getElem?_eq_some_iff.1 hy).2] at this
          exact this rfl
        · rfl
      · cases hy
    · cases hx
  · simp at hx
end Go.Proofs.Ytiohngcmojkheaa
