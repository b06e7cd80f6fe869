/- The plain law of MergeBegins: what is told of items cut among shards is a beginning of them. -/
import Derived.Test.YtjacebnjmhbcbaaMs0
import Derived.Test.YtjacebnjmhbcbaaSt2
namespace Go.Proofs.Ytjacebnjmhbcbaa
open Go.RowKit
set_option linter.unusedVariables false

/-- a shard's items of the first m -/
def partF (cl : Nat → Nat) (L : List KeyL) (k : Nat) : Nat → List KeyL
  | 0 => []
  | m + 1 => partF cl L k m ++ (if cl m = k then (L[m]?).toList else [])
theorem partF_mono (cl : Nat → Nat) (L : List KeyL) (k m : Nat) : ∀ M, m ≤ M → ∃ r, partF cl L k M = partF cl L k m ++ r := by
  intro M
  induction M with
  | zero => intro h; obtain rfl : m = 0 := by omega
            exact ⟨[], by simp⟩
  | succ M ih =>
    intro h
    by_cases e : m = M + 1
    · subst e; exact ⟨[], by simp⟩
    · obtain ⟨r, hr⟩ := ih (by omega)
      exact ⟨r ++ (if cl M = k then (L[M]?).toList else []), by rw [partF, hr, List.append_assoc]⟩
theorem partF_len {cl : Nat → Nat} {L : List KeyL} {k m M : Nat} (h : m ≤ M) : (partF cl L k m).length ≤ (partF cl L k M).length := by
  obtain ⟨r, hr⟩ := partF_mono cl L k m M h
  rw [hr, List.length_append]
  omega
theorem partF_hit {cl : Nat → Nat} {L : List KeyL} {k m : Nat} {x : KeyL} (h : cl m = k) (hx : L[m]? = some x) : partF cl L k (m + 1) = partF cl L k m ++ [x] := by
  rw [partF, if_pos h, hx]
  rfl
theorem partF_miss {cl : Nat → Nat} {L : List KeyL} {k m : Nat} (h : cl m ≠ k) : partF cl L k (m + 1) = partF cl L k m := by
  rw [partF, if_neg h, List.append_nil]
theorem partF_at {cl : Nat → Nat} {L : List KeyL} {k j M : Nat} {x : KeyL} (hj : j < M) (h : cl j = k) (hx : L[j]? = some x) : (partF cl L k M)[(partF cl L k j).length]? = some x := by
  obtain ⟨r, hr⟩ := partF_mono cl L k (j + 1) M hj
  rw [hr, partF_hit h hx, List.append_assoc, List.getElem?_append_right (Nat.le_refl _), Nat.sub_self]
  rfl
theorem partF_inv {cl : Nat → Nat} {L : List KeyL} {k : Nat} : ∀ {M i : Nat} {x : KeyL}, (partF cl L k M)[i]? = some x → ∃ j, j < M ∧ cl j = k ∧ L[j]? = some x ∧ (partF cl L k j).length = i := by
  intro M
  induction M with
  | zero => intro i x h; simp [partF] at h
  | succ M ih =>
    intro i x h
    by_cases e : cl M = k
    · cases hq : L[M]? with
      | none =>
        rw [partF, if_pos e, hq] at h
        simp only [Option.toList_none, List.append_nil] at h
        obtain ⟨j, h1, h2⟩ := ih h
        exact ⟨j, by omega, h2⟩
      | some y =>
        rw [partF_hit e hq] at h
        by_cases hi : i < (partF cl L k M).length
        · rw [List.getElem?_append_left hi] at h
          obtain ⟨j, h1, h2⟩ := ih h
          exact ⟨j, by omega, h2⟩
        · rw [List.getElem?_append_right (by omega)] at h
          have hi0 : i - (partF cl L k M).length = 0 := by
            have := (List.getElem?_eq_some_iff.1 h).1
            simp at this
            omega
          rw [hi0] at h
          cases h
          exact ⟨M, by omega, e, hq, by omega⟩
    · rw [partF_miss e] at h
      obtain ⟨j, h1, h2⟩ := ih h
      exact ⟨j, by omega, h2⟩
def SortL (L : List KeyL) : Prop := (∀ (i j : Nat) (x y : KeyL), i < j → L[i]? = some x → L[j]? = some y → kless x y = true) ∧ ∀ (i : Nat) (x : KeyL), L[i]? = some x → 0 ≤ x.1
theorem partF_run {cl : Nat → Nat} {L : List KeyL} (h : SortL L) (k : Nat) : RunI (partF cl L k L.length) (partF cl L k L.length).length := by
  refine ⟨fun j x _ hx => ?_, fun j x y _ hx hy => ?_⟩
  · obtain ⟨i, _, _, hi, _⟩ := partF_inv hx
    exact h.2 i x hi
  · obtain ⟨i, _, _, hi, hil⟩ := partF_inv hx
    obtain ⟨i2, _, _, hi2, hil2⟩ := partF_inv hy
    refine h.1 i i2 x y ?_ hi hi2
    by_cases e : i < i2
    · exact e
    · have := partF_len (cl := cl) (L := L) (k := k) (show i2 ≤ i by omega)
      omega
/-- how shard k stands: m told in all, a taken of it -/
structure ShB (cl : Nat → Nat) (L : List KeyL) (k m a I : Nat) (s : PS) : Prop where
  least : s.least = 0
  heard : s.heard = decide (0 < a)
  last : s.last = lastT (partF cl L k L.length) a
  waits : s.waits = ((partF cl L k L.length).take a).drop (partF cl L k m).length
  lo : (partF cl L k m).length ≤ a
  hi : a ≤ (partF cl L k L.length).length
  ended : s.ended = true → a = (partF cl L k L.length).length
  seq : 0 ≤ s.seq ∧ s.seq ≤ I
theorem ShB.wlen {cl : Nat → Nat} {L : List KeyL} {k m a I : Nat} {s : PS} (h : ShB cl L k m a I s) : s.waits.length = a - (partF cl L k m).length := by
  rw [h.waits, List.length_drop, List.length_take]
  have := h.hi
  omega
structure BgI (cl : Nat → Nat) (L : List KeyL) (n : Nat) (S : List PS) (A : Nat → Nat) (m I : Nat) : Prop where
  len : S.length = n
  le : m ≤ L.length
  sh : ∀ k s, S[k]? = some s → ShB cl L k m (A k) I s
def nw (S : List PS) : Nat := S.countP fun s => !s.wanted
theorem nw_le (S : List PS) : nw S ≤ S.length := List.countP_le_length
theorem aheadP_min : ∀ {S : List PS} {i b : Nat}, aheadP S i = some b → ∀ {sb : PS}, S[b]? = some sb → ∀ j s, j < i → S[j]? = some s → 0 < s.waits.length → kless (headP s) (headP sb) = false
  | S, 0, b, h, sb, hb, j, s, hj, hs, h0 => by omega
  | S, i + 1, b, h, sb, hb, j, s, hj, hs, h0 => by
    cases hi : S[i]? with
    | none =>
      have h' : aheadP S i = some b := by unfold aheadP at h; rw [hi] at h; simpa using h
      by_cases e : j = i
      · subst e; rw [hi] at hs; cases hs
      · exact aheadP_min h' hb j s (by omega) hs h0
    | some t =>
      by_cases ht : t.waits.length = 0
      · rw [aheadP_0 hi ht] at h
        by_cases e : j = i
        · subst e; rw [hi] at hs; cases hs; omega
        · exact aheadP_min h hb j s (by omega) hs h0
      · cases ha : aheadP S i with
        | none =>
          rw [aheadP_1 hi (by omega) ha] at h
          cases h
          rw [hi] at hb
          cases hb
          by_cases e : j = i
          · subst e; rw [hi] at hs; cases hs; exact kless_irr _
          · have := ahead_none S i ha j s (by omega) hs
            omega
        | some c =>
          obtain ⟨hci, tc, htc, _⟩ := aheadP_lt ha
          rw [aheadP_2 hi (by omega) ha htc] at h
          by_cases hk : kless (headP t) (headP tc) = true
          · rw [if_pos hk] at h
            cases h
            rw [hi] at hb
            cases hb
            by_cases e : j = i
            · subst e; rw [hi] at hs; cases hs; exact kless_irr _
            · have hmn := aheadP_min ha htc j s (by omega) hs h0
              cases hq : kless (headP s) (headP sb)
              · rfl
              · rw [kless_trans hq hk] at hmn; cases hmn
          · rw [if_neg hk] at h
            cases h
            rw [htc] at hb
            cases hb
            by_cases e : j = i
            · subst e; rw [hi] at hs; cases hs; simpa using hk
            · exact aheadP_min ha htc j s (by omega) hs h0
theorem bg_step {cl : Nat → Nat} {L : List KeyL} {n : Nat} {S : List PS} {A : Nat → Nat} {m I : Nat} {N : Int} {x : KeyL} {b : Nat} {s : PS} (hL : SortL L) (hcl : ∀ j, j < L.length → cl j < n)
    (h : BgI cl L n S A m I) (hst : stepP N S (L.take m) = some (x, b, s)) : m < L.length ∧ L.take (m + 1) = L.take m ++ [x] ∧ BgI cl L n (S.set b s) A (m + 1) I ∧ nw S ≤ nw (S.set b s) + 1 ∧ doneP N S (L.take m) = false := by
  unfold stepP at hst
  by_cases hd : doneP N S (L.take m) = true
  · rw [if_pos hd] at hst; cases hst
  rw [if_neg hd] at hst
  cases ha : aheadP S S.length with
  | none => rw [ha] at hst; cases hst
  | some b' =>
    rw [ha] at hst
    simp only at hst
    obtain ⟨hbl, sb, hsb, h0⟩ := aheadP_lt ha
    rw [hsb] at hst
    simp only at hst
    by_cases hm : S.any (fun t => t.might (headP sb)) = true
    · rw [if_pos hm] at hst; cases hst
    rw [if_neg hm] at hst
    simp only [Option.some.injEq, Prod.mk.injEq] at hst
    obtain ⟨rfl, rfl, rfl⟩ := hst
    have hB := h.sh b' sb hsb
    have hwl := hB.wlen
    -- the head
    have hx : (partF cl L b' L.length)[(partF cl L b' m).length]? = some (headP sb) := by
      cases hw : sb.waits with
      | nil => rw [hw] at h0; simp at h0
      | cons z zs =>
        have e1 := hB.waits
        rw [hw] at e1
        have e2 : (((partF cl L b' L.length).take (A b')).drop (partF cl L b' m).length)[0]? = some z := by rw [← e1]; rfl
        rw [List.getElem?_drop, Nat.add_zero, List.getElem?_take_of_lt (by omega)] at e2
        unfold headP
        rw [hw]
        exact e2
    obtain ⟨j, hj1, hj2, hj3, hj4⟩ := partF_inv hx
    have hjm : m ≤ j := by
      by_cases e : m ≤ j
      · exact e
      · have q := partF_len (cl := cl) (L := L) (k := b') (show j + 1 ≤ m by omega)
        rw [partF_hit hj2 hj3, List.length_append, List.length_singleton] at q
        omega
    have hjj : j = m := by
      by_cases e : j = m
      · exact e
      exfalso
      have hlt : m < j := by omega
      obtain ⟨y, hy⟩ : ∃ y, L[m]? = some y := ⟨_, List.getElem?_eq_getElem (by omega)⟩
      have hc : cl m < S.length := by rw [h.len]; exact hcl m (by omega)
      obtain ⟨sc, hsc⟩ : ∃ sc, S[cl m]? = some sc := ⟨_, List.getElem?_eq_getElem hc⟩
      have hC := h.sh (cl m) sc hsc
      have hy2 := partF_at (k := cl m) (show m < L.length by omega) rfl hy
      have hyl := (List.getElem?_eq_some_iff.1 hy2).1
      have hyx := hL.1 m j y (headP sb) hlt hy hj3
      by_cases hw : 0 < sc.waits.length
      · have hmn := aheadP_min ha hsb (cl m) sc hc hsc hw
        have hhd : headP sc = y := by
          cases hww : sc.waits with
          | nil => rw [hww] at hw; simp at hw
          | cons z zs =>
            have e1 := hC.waits
            rw [hww] at e1
            have e2 : (((partF cl L (cl m) L.length).take (A (cl m))).drop (partF cl L (cl m) m).length)[0]? = some z := by rw [← e1]; rfl
            have hwl2 := hC.wlen
            rw [List.getElem?_drop, Nat.add_zero, List.getElem?_take_of_lt (by omega), hy2] at e2
            unfold headP
            rw [hww]
            cases e2
            rfl
        rw [hhd, hyx] at hmn
        cases hmn
      · apply hm
        rw [List.any_eq_true]
        refine ⟨sc, List.mem_of_getElem? hsc, ?_⟩
        have hwl2 := hC.wlen
        have hlo := hC.lo
        have hae : A (cl m) = (partF cl L (cl m) m).length := by omega
        have hne : sc.ended = false := by
          cases hq : sc.ended
          · rfl
          · have := hC.ended hq
            omega
        unfold PS.might PS.wanted
        rw [hne, show sc.waits.length = 0 from by omega]
        simp only [Bool.not_false, decide_true, Bool.and_self, Bool.true_eq_false, if_false]
        rw [hC.heard, hC.last, hC.least]
        by_cases hz : 0 < A (cl m)
        · rw [decide_eq_true hz, if_pos rfl]
          obtain ⟨q, hq⟩ : ∃ q, (partF cl L (cl m) L.length)[A (cl m) - 1]? = some q := ⟨_, List.getElem?_eq_getElem (by omega)⟩
          have hlast : lastT (partF cl L (cl m) L.length) (A (cl m)) = q := by
            rw [show A (cl m) = A (cl m) - 1 + 1 from by omega]
            exact lastT_succ hq
          rw [hlast]
          obtain ⟨i, _, _, hi3, hi4⟩ := partF_inv hq
          refine hL.1 i j q (headP sb) ?_ hi3 hj3
          by_cases e2 : i < m
          · omega
          · have := partF_len (cl := cl) (L := L) (k := cl m) (show m ≤ i by omega)
            omega
        · rw [decide_eq_false hz, if_neg (by simp)]
          exact decide_eq_true (hL.2 j _ hj3)
    subst hjj
    refine ⟨hj1, ?_, ⟨by rw [List.length_set]; exact h.len, hj1, fun k t ht => ?_⟩, ?_, by simpa using hd⟩
    · rw [List.take_add_one, hj3]
      rfl
    · by_cases e : k = b'
      · subst e
        rw [List.getElem?_set_self hbl] at ht
        cases ht
        have hlen : (partF cl L k (j + 1)).length = (partF cl L k j).length + 1 := by rw [partF_hit hj2 hj3, List.length_append, List.length_singleton]
        exact ⟨hB.least, hB.heard, hB.last, by show sb.waits.drop 1 = _; rw [hB.waits, List.drop_drop, hlen], by omega, hB.hi, hB.ended, hB.seq⟩
      · rw [List.getElem?_set_ne (fun e2 => e e2.symm)] at ht
        have hK := h.sh k t ht
        have hlen : partF cl L k (j + 1) = partF cl L k j := partF_miss (by rw [hj2]; exact fun e2 => e e2.symm)
        exact ⟨hK.least, hK.heard, hK.last, by rw [hlen]; exact hK.waits, by rw [hlen]; exact hK.lo, hK.hi, hK.ended, hK.seq⟩
    · unfold nw
      rw [List.countP_set hbl]
      split <;> split <;> omega
theorem bg_tell {cl : Nat → Nat} {L : List KeyL} {n : Nat} {A : Nat → Nat} {I : Nat} {N : Int} (hL : SortL L) (hcl : ∀ j, j < L.length → cl j < n) :
    ∀ (f : Nat) (S : List PS) (m : Nat) (out : List KeyL), BgI cl L n S A m I → (m : Int) ≤ N → f = N.toNat - m → I ≤ m + nw S →
      ∃ (m' : Nat) (S' : List PS), tellA N f S (L.take m) out = (out ++ (L.take m').drop m, S', L.take m') ∧ BgI cl L n S' A m' I ∧ m ≤ m' ∧ (m' : Int) ≤ N ∧ stepP N S' (L.take m') = none ∧ I ≤ m' + nw S' := by
  intro f
  induction f with
  | zero =>
    intro S m out h hm hf hI
    refine ⟨m, S, ?_, h, Nat.le_refl _, hm, ?_, hI⟩
    · rw [tellA, List.drop_eq_nil_of_le (by rw [List.length_take]; omega), List.append_nil]
    · refine step_done ?_
      unfold doneP
      rw [decide_eq_true (by rw [List.length_take, Nat.min_eq_left h.le]; omega)]
      rfl
  | succ f ih =>
    intro S m out h hm hf hI
    cases hst : stepP N S (L.take m) with
    | none =>
      refine ⟨m, S, ?_, h, Nat.le_refl _, hm, hst, hI⟩
      rw [tellA_stop hst, List.drop_eq_nil_of_le (by rw [List.length_take]; omega), List.append_nil]
    | some r =>
      obtain ⟨x, b, s⟩ := r
      obtain ⟨h1, h2, h3, h4, h5⟩ := bg_step hL hcl h hst
      have hmn := not_done h5 (by rw [List.length_take, Nat.min_eq_left h.le]; exact hm)
      rw [List.length_take, Nat.min_eq_left h.le] at hmn
      obtain ⟨m', S', e1, e2, e3, e4, e5, e6⟩ := ih (S.set b s) (m + 1) (out ++ [x]) h3 (by omega) (by omega) (by omega)
      refine ⟨m', S', ?_, e2, by omega, e4, e5, e6⟩
      simp only [tellA, hst]
      rw [← h2, e1, List.append_assoc]
      congr 2
      have hx : (L.take m')[m]? = some x := by
        rw [List.getElem?_take_of_lt (by omega)]
        have : (L.take (m + 1))[m]? = some x := by rw [h2, List.getElem?_append_right (by rw [List.length_take]; omega)]; simp [Nat.min_eq_left h.le]
        rwa [List.getElem?_take_of_lt (by omega)] at this
      have hlt := (List.getElem?_eq_some_iff.1 hx).1
      rw [List.drop_eq_getElem_cons hlt]
      rw [List.getElem?_eq_getElem hlt] at hx
      cases hx
      rfl
theorem bg_tellP {cl : Nat → Nat} {L : List KeyL} {n : Nat} {A : Nat → Nat} {I : Nat} {N : Int} (hL : SortL L) (hcl : ∀ j, j < L.length → cl j < n) {S : List PS} {m : Nat} (h : BgI cl L n S A m I) (hm : (m : Int) ≤ N) (hI : I ≤ m + nw S) :
    ∃ (m' : Nat) (S' : List PS), tellP N S (L.take m) = ((L.take m').drop m, S', L.take m') ∧ BgI cl L n S' A m' I ∧ m ≤ m' ∧ (m' : Int) ≤ N ∧ stepP N S' (L.take m') = none ∧ I ≤ m' + nw S' := by
  obtain ⟨m', S', h1, h2⟩ := bg_tell hL hcl (N.toNat - m) S m [] h hm rfl hI
  refine ⟨m', S', ?_, h2⟩
  unfold tellP
  rw [List.length_take, Nat.min_eq_left h.le, h1, List.nil_append]
/-- one more taken of a shard -/
def upA (A : Nat → Nat) (k c : Nat) : Nat → Nat := fun j => if j = k then A k + c else A j
theorem bg_put {cl : Nat → Nat} {L : List KeyL} {n : Nat} {A : Nat → Nat} {I m k c : Nat} {N : Int} {S : List PS} {s : PS} {T : List KeyL} (hL : SortL L) (h : BgI cl L n S A m I) (hd : doneP N S T = false) (hk : S[k]? = some s) (hw : s.wanted = true) (hc : 1 ≤ c) (hc5 : c ≤ 5) (hI : I ≤ m + nw S)
    {b : List KeyL} (hb : ((partF cl L k L.length).drop (A k)).take c = b) {e : Bool} (he : decide (b.length = (partF cl L k L.length).length - A k) = e) :
    putP N S T k s.seq b e = (true, S.set k (s.put b e)) ∧ BgI cl L n (S.set k (s.put b e)) (upA A k b.length) m (I + 1) ∧ I + 1 ≤ m + nw (S.set k (s.put b e)) := by
  have hK := h.sh k s hk
  have hkl := (List.getElem?_eq_some_iff.1 hk).1
  have hwl := hK.wlen
  have hw' := hw
  unfold PS.wanted at hw'
  simp only [Bool.and_eq_true, Bool.not_eq_true', decide_eq_true_eq] at hw'
  obtain ⟨hwe, hw0⟩ := hw'
  have hlo := hK.lo
  have hhi := hK.hi
  have hae : A k = (partF cl L k m).length := by omega
  have hbl : b.length = min c ((partF cl L k L.length).length - A k) := by rw [← hb, List.length_take, List.length_drop]
  have hbt : b = ((partF cl L k L.length).take (A k + b.length)).drop (A k) := by
    rw [List.drop_take, show A k + b.length - A k = b.length from by omega]
    conv => lhs; rw [← hb]
    rw [hbl]
    by_cases q : c ≤ (partF cl L k L.length).length - A k
    · rw [Nat.min_eq_left q]
    · rw [Nat.min_eq_right (by omega), List.take_of_length_le (by rw [List.length_drop]; omega), List.take_of_length_le (by rw [List.length_drop]; omega)]
  have hend : b.length = 0 → e = true := fun q => by rw [← he]; exact decide_eq_true (by omega)
  have hnw : (s.put b e).wanted = false := by
    unfold PS.wanted PS.put
    by_cases q : b.length = 0
    · rw [hend q]; rfl
    · simp only [decide_eq_false q, Bool.and_false]
  refine ⟨?_, ⟨by rw [List.length_set]; exact h.len, h.le, fun j t ht => ?_⟩, ?_⟩
  · unfold putP putOK
    have hat : atS S k = some s := by unfold atS; rw [if_neg (by omega)]; exact hk
    rw [hat]
    simp only
    rw [if_neg]
    · simp only [Int.toNat_natCast]
    · rintro (q | q | q | q | q | q)
      · rw [hd] at q; cases q
      · rw [hw] at q; cases q
      · exact q rfl
      · omega
      · rw [hend q.1] at q; cases q.2
      · have := okI_run (partF_run (cl := cl) hL k) c (A k)
        rw [hb, ← hK.heard, ← hK.last, ← hK.least] at this
        rw [this] at q; cases q
  · by_cases ej : j = k
    · subst ej
      rw [List.getElem?_set_self hkl] at ht
      cases ht
      have hup : upA A j b.length j = A j + b.length := by unfold upA; rw [if_pos rfl]
      rw [hup]
      refine ⟨hK.least, ?_, ?_, ?_, by omega, by omega, ?_, ?_⟩
      · show (s.heard || decide (0 < b.length)) = _
        rw [hK.heard]
        by_cases q : 0 < A j
        · rw [decide_eq_true q, decide_eq_true (show 0 < A j + b.length by omega)]; rfl
        · rw [decide_eq_false q, Bool.false_or]
          exact decide_eq_decide.2 ⟨fun h => by omega, fun h => by omega⟩
      · show b.getLastD s.last = _
        rw [hK.last]
        have := lastT_of (l := partF cl L j L.length) (a := A j) (t := A j + b.length) (by omega) (by omega)
        rw [← hbt] at this
        exact this
      · show b = _
        rw [← hae]
        exact hbt
      · intro q
        have q' : e = true := q
        rw [← he, decide_eq_true_eq] at q'
        omega
      · have q1 := hK.seq.1
        have q2 := hK.seq.2
        exact ⟨by show 0 ≤ s.seq + 1; omega, by show s.seq + 1 ≤ ((I + 1 : Nat) : Int); omega⟩
    · rw [List.getElem?_set_ne (fun q => ej q.symm)] at ht
      have hJ := h.sh j t ht
      have hup : upA A k b.length j = A j := by unfold upA; rw [if_neg ej]
      rw [hup]
      exact ⟨hJ.least, hJ.heard, hJ.last, hJ.waits, hJ.lo, hJ.hi, hJ.ended, ⟨hJ.seq.1, by have := hJ.seq.2; omega⟩⟩
  · unfold nw at hI ⊢
    rw [List.countP_set hkl]
    have : S[k] = s := by rw [List.getElem?_eq_getElem hkl] at hk; cases hk; rfl
    rw [this, hw, hnw]
    simp
    omega
theorem bg_wants {N : Int} {S : List PS} {T : List KeyL} {l : List Int} (h : wantsP N S T = l) {j : Nat} {v : Int} (hv : l[j]? = some v) : ∃ (k : Nat) (s : PS), v = (k : Int) ∧ S[k]? = some s ∧ s.wanted = true ∧ doneP N S T = false := by
  unfold wantsP at h
  by_cases hd : doneP N S T = true
  · rw [if_pos hd] at h; subst h; simp at hv
  · rw [if_neg hd] at h
    subst h
    have hm := List.mem_of_getElem? hv
    unfold wantK at hm
    obtain ⟨k, hk, rfl⟩ := List.mem_map.1 hm
    have hf := (List.mem_filter.1 hk).2
    cases hs : S[k]? with
    | none => rw [hs] at hf; cases hf
    | some s => rw [hs] at hf; exact ⟨k, s, rfl, hs, hf, by simpa using hd⟩
theorem wants_len (N : Int) (S : List PS) (T : List KeyL) : (wantsP N S T).length ≤ S.length := by
  unfold wantsP
  split
  · exact Nat.zero_le _
  · unfold wantK
    rw [List.length_map]
    have := List.length_filter_le (fun i => match S[i]? with | some s => s.wanted | none => false) (List.range S.length)
    rwa [List.length_range] at this
theorem bg_end {cl : Nat → Nat} {L : List KeyL} {n : Nat} {A : Nat → Nat} {I m : Nat} {N : Int} {S : List PS} (hcl : ∀ j, j < L.length → cl j < n) (h : BgI cl L n S A m I) (hm : (m : Int) ≤ N) (hst : stepP N S (L.take m) = none) (hw : wantsP N S (L.take m) = []) :
    doneP N S (L.take m) = true ∧ (m : Int) = min (L.length : Int) N := by
  have hd : doneP N S (L.take m) = true := by
    cases hd : doneP N S (L.take m)
    · exfalso
      have hnw : ∀ (k : Nat) s, S[k]? = some s → s.wanted = false := by
        intro k s hs
        cases hq : s.wanted
        · rfl
        · exfalso
          unfold wantsP at hw
          rw [if_neg (by rw [hd]; simp)] at hw
          unfold wantK at hw
          rw [List.map_eq_nil_iff, List.filter_eq_nil_iff] at hw
          have := hw k (List.mem_range.2 (List.getElem?_eq_some_iff.1 hs).1)
          simp only [hs, hq] at this
          exact this trivial
      have hmi : ∀ x, S.any (fun t => t.might x) = false := by
        intro x
        rw [List.any_eq_false]
        intro s hs
        obtain ⟨k, hk⟩ := List.mem_iff_getElem?.1 hs
        simp [PS.might, hnw k s hk]
      cases ha : aheadP S S.length with
      | some b =>
        obtain ⟨_, s, hs, _⟩ := aheadP_lt ha
        rw [step_some hd ha hs (hmi _)] at hst
        cases hst
      | none =>
        have : S.any PS.open_ = false := by
          rw [List.any_eq_false]
          intro s hs
          obtain ⟨k, hk⟩ := List.mem_iff_getElem?.1 hs
          have h0 := ahead_none S S.length ha k s (List.getElem?_eq_some_iff.1 hk).1 hk
          have hq := hnw k s hk
          unfold PS.wanted at hq
          rw [h0] at hq
          simp only [decide_true, Bool.and_true, Bool.not_eq_false'] at hq
          simp [PS.open_, hq, h0]
        unfold doneP at hd
        rw [this] at hd
        simp at hd
    · rfl
  refine ⟨hd, ?_⟩
  have hle := h.le
  unfold doneP at hd
  rw [List.length_take, Nat.min_eq_left hle, Bool.or_eq_true] at hd
  rcases hd with hd | hd
  · have := of_decide_eq_true hd
    omega
  · -- nothing is open: all is told
    have hno : S.any PS.open_ = false := by simpa using hd
    have : m = L.length := by
      by_cases e : m = L.length
      · exact e
      exfalso
      obtain ⟨y, hy⟩ : ∃ y, L[m]? = some y := ⟨_, List.getElem?_eq_getElem (by omega)⟩
      have hc : cl m < S.length := by rw [h.len]; exact hcl m (by omega)
      obtain ⟨sc, hsc⟩ : ∃ sc, S[cl m]? = some sc := ⟨_, List.getElem?_eq_getElem hc⟩
      have hC := h.sh (cl m) sc hsc
      have hy2 := partF_at (k := cl m) (show m < L.length by omega) rfl hy
      have hyl := (List.getElem?_eq_some_iff.1 hy2).1
      rw [List.any_eq_false] at hno
      have ho := hno sc (List.mem_of_getElem? hsc)
      unfold PS.open_ at ho
      simp only [Bool.or_eq_true, not_or, decide_eq_true_eq] at ho
      have h1 := hC.ended (by simpa using ho.1)
      have h2 := hC.wlen
      omega
    omega
theorem ahead_new : ∀ (S : List PS) (k : Nat), (∀ s ∈ S, s.waits.length = 0) → aheadP S k = none
  | S, 0, h => rfl
  | S, k + 1, h => by
    cases hk : S[k]? with
    | none => unfold aheadP; rw [hk]; exact ahead_new S k h
    | some s => rw [aheadP_0 hk (h s (List.mem_of_getElem? hk))]; exact ahead_new S k h
theorem bg_init (cl : Nat → Nat) (L : List KeyL) (n : Nat) (N : Int) : BgI cl L n ((List.replicate n (0 : Int)).map newPS) (fun _ => 0) 0 0 ∧ stepP N ((List.replicate n (0 : Int)).map newPS) (L.take 0) = none := by
  have hall : ∀ s ∈ (List.replicate n (0 : Int)).map newPS, s = newPS 0 := by
    intro s hs
    obtain ⟨z, hz, rfl⟩ := List.mem_map.1 hs
    rw [List.eq_of_mem_replicate hz]
  refine ⟨⟨by simp, Nat.zero_le _, fun k s hs => ?_⟩, step_none (ahead_new _ _ (fun s hs => by rw [hall s hs]; rfl))⟩
  have := hall s (List.mem_of_getElem? hs)
  subst this
  exact ⟨rfl, rfl, rfl, by simp [partF, newPS], Nat.le_refl _, Nat.zero_le _, fun q => by simp [newPS] at q, ⟨Int.le_refl _, Int.le_refl _⟩⟩
end Go.Proofs.Ytjacebnjmhbcbaa
