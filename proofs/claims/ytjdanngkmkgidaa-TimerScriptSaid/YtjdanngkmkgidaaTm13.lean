/- Plain law: a heap of pairs is a list in order. No program in sight. -/
import Derived.Test.YtjdanngkmkgidaaTm12
namespace Go.Proofs.Ytjdanngkmkgidaa
open List
set_option linter.unusedVariables false

def rm (n : Nat) (f : Nat → One) : List One := (List.range n).map f
theorem rm_succ (n : Nat) (f : Nat → One) : rm (n + 1) f = rm n f ++ [f n] := by unfold rm; rw [List.range_succ, List.map_append]; rfl
theorem rm_congr {n : Nat} {f g : Nat → One} (h : ∀ k, k < n → f k = g k) : rm n f = rm n g := by
  unfold rm; exact List.map_congr_left (fun k hk => h k (List.mem_range.1 hk))
theorem rm_len (n : Nat) (f : Nat → One) : (rm n f).length = n := by simp [rm]
theorem mem_rm {n : Nat} {f : Nat → One} {x : One} : x ∈ rm n f ↔ ∃ k, k < n ∧ f k = x := by simp [rm]
theorem rm_add (a b : Nat) (f : Nat → One) : rm (a + b) f = rm a f ++ rm b (fun i => f (a + i)) := by
  induction b with
  | zero => simp [rm]
  | succ b ih => rw [show a + (b + 1) = (a + b) + 1 from rfl, rm_succ, rm_succ, ih, List.append_assoc]
theorem rm_split (n k : Nat) (f : Nat → One) (h : k < n) : rm n f = rm k f ++ f k :: rm (n - k - 1) (fun i => f (k + 1 + i)) := by
  have := rm_add (k + 1) (n - k - 1) f
  rw [show k + 1 + (n - k - 1) = n from by omega, rm_succ, List.append_assoc] at this
  exact this
theorem rm_put (n k : Nat) (f : Nat → One) (h : k < n) : ∃ R, rm n f ~ f k :: R ∧ ∀ x, rm n (putF f k x) ~ x :: R := by
  refine ⟨rm k f ++ rm (n - k - 1) (fun i => f (k + 1 + i)), ?_, fun x => ?_⟩
  · rw [rm_split n k f h]; exact perm_middle
  · rw [rm_split n k _ h, putF_eq, rm_congr (f := putF f k x) (g := f) (fun j hj => putF_ne _ _ _ _ (by omega)), rm_congr (f := fun i => putF f k x (k + 1 + i)) (g := fun i => f (k + 1 + i)) (fun j hj => putF_ne _ _ _ _ (by omega))]
    exact perm_middle
theorem swapF_put (f : Nat → One) (i j : Nat) : swapF f i j = putF (putF f i (f j)) j (f i) := by
  funext k
  unfold swapF putF
  by_cases h1 : k = i
  · subst h1
    by_cases h2 : k = j
    · subst h2; simp
    · simp [h2]
  · by_cases h2 : k = j
    · subst h2; simp [h1]
    · simp [h1, h2]
theorem rm_swap (n i j : Nat) (f : Nat → One) (hi : i < n) (hj : j < n) : rm n (swapF f i j) ~ rm n f := by
  by_cases hij : i = j
  · subst hij; rw [swapF_self]
  · rw [swapF_put]
    obtain ⟨R1, h1, h2⟩ := rm_put n i f hi
    obtain ⟨R2, h3, h4⟩ := rm_put n j (putF f i (f j)) hj
    rw [putF_ne _ _ _ _ (fun e => hij e.symm)] at h3
    have h5 : R2 ~ R1 := ((h3.symm.trans (h2 (f j)))).cons_inv
    exact (h4 (f i)).trans ((h5.cons (f i)).trans h1.symm)
theorem rm_down : ∀ (q : Nat) (f : Nat → One) (i n : Nat), rm n (downF q f i n).1 ~ rm n f
  | 0, f, i, n => Perm.refl _
  | q + 1, f, i, n => by
    unfold downF
    split
    · exact Perm.refl _
    · rename_i hn
      obtain ⟨_, h2, _, h4, _⟩ := childF_cases f i n (by omega)
      split
      · exact Perm.refl _
      · exact (rm_down q _ _ n).trans (rm_swap n _ _ f (by omega) h2)
theorem rm_up : ∀ (q : Nat) (f : Nat → One) (j n : Nat), j < n → rm n (upF q f j) ~ rm n f
  | 0, f, j, n, h => Perm.refl _
  | q + 1, f, j, n, h => by
    unfold upF
    split
    · exact Perm.refl _
    · exact (rm_up q _ _ n (by omega)).trans (rm_swap n _ _ f (by omega) h)
theorem rm_fix (f : Nat → One) (i n : Nat) (h : i < n) : rm n (fixF f i n) ~ rm n f := by
  unfold fixF
  split
  · exact rm_down _ _ _ _
  · exact (rm_up _ _ _ _ h).trans (rm_down _ _ _ _)
theorem heap_fix (f : Nat → One) (i n : Nat) (hi : i < n) (h : ExInv f i n) : Heap (fixF f i n) n := by
  obtain ⟨h1, h2, h3⟩ := down_ex n f i n (by omega) h
  unfold fixF
  split
  · exact h2 (by omega)
  · obtain ⟨h4, h5⟩ := h1 (by omega)
    rw [h4]
    exact up_heap _ _ _ _ (Nat.le_refl _) hi h5
theorem heap_root {f : Nat → One} {n : Nat} (h : Heap f n) : ∀ k, k < n → leO (f 0) (f k) := by
  intro k
  induction k using Nat.strongRecOn with
  | ind k ih =>
    intro hk
    rcases Nat.eq_zero_or_pos k with h0 | h0
    · subst h0; exact leO_refl _
    · exact leO_trans (ih ((k - 1) / 2) (by omega) (by omega)) (h k h0 hk)

/-- f 0, .., f (n - 1) is a heap of the list L, which is in order -/
structure Rep (f : Nat → One) (n : Nat) (L : List One) : Prop where
  heap : Heap f n
  perm : rm n f ~ L
  sort : L.Pairwise leO
theorem Rep.len {f : Nat → One} {n : Nat} {L : List One} (h : Rep f n L) : L.length = n := by rw [← h.perm.length_eq, rm_len]
theorem Rep.pop {f : Nat → One} {n : Nat} {L : List One} (h : Rep f (n + 1) L) : ∃ L', L = f 0 :: L' ∧ Rep (popF f n) n L' := by
  have hlen := h.len
  cases L with
  | nil => simp at hlen
  | cons a L' =>
    have ha : a ∈ rm (n + 1) f := h.perm.mem_iff.2 (List.mem_cons_self ..)
    obtain ⟨k, hk, rfl⟩ := mem_rm.1 ha
    have h0 : f 0 ∈ f k :: L' := h.perm.mem_iff.1 (mem_rm.2 ⟨0, by omega, rfl⟩)
    have hle : leO (f k) (f 0) := by
      rcases List.mem_cons.1 h0 with e | e
      · rw [e]; exact leO_refl _
      · exact (List.pairwise_cons.1 h.sort).1 _ e
    have e : f k = f 0 := leO_anti hle (heap_root h.heap k hk)
    refine ⟨L', by rw [e], ⟨?_, ?_, (List.pairwise_cons.1 h.sort).2⟩⟩
    · unfold popF
      refine down_heap n _ 0 n (by omega) ⟨fun k h1 h2 h3 => ?_, fun k h1 h2 h3 h4 => by omega⟩
      rw [swapF_o _ _ _ _ h3 (by omega), swapF_o _ _ _ _ (by omega) (by omega)]
      exact h.heap k h1 (by omega)
    · have p1 : rm n (popF f n) ++ [f 0] ~ rm (n + 1) f := by
        have := rm_swap (n + 1) 0 n f (by omega) (by omega)
        rw [rm_succ, swapF_j] at this
        exact ((rm_down n (swapF f 0 n) 0 n).append_right [f 0]).trans this
      have p2 := p1.trans h.perm
      rw [e] at p2
      exact (perm_append_comm.trans p2).cons_inv
theorem rep_due : ∀ (n : Nat) (f : Nat → One) (L : List One) (now : Int), Rep f n L → dueF f n now = (L.takeWhile (fun x => decide (x.1 ≤ now))).map (·.2)
  | 0, f, L, now, h => by
    have := h.len
    rw [List.eq_nil_of_length_eq_zero this]; rfl
  | n + 1, f, L, now, h => by
    obtain ⟨L', rfl, h'⟩ := h.pop
    unfold dueF
    by_cases hlt : now < (f 0).1
    · rw [if_pos hlt, List.takeWhile_cons, if_neg (by simp; omega)]; rfl
    · rw [if_neg hlt, List.takeWhile_cons, if_pos (by simp; omega), List.map_cons, rep_due n _ _ _ h']
/-- x ahead of the first that is behind it -/
def insL (x : One) : List One → List One
  | [] => [x]
  | y :: l => if ltO x y = true then x :: y :: l else y :: insL x l
theorem insL_perm (x : One) : ∀ l : List One, insL x l ~ x :: l
  | [] => Perm.refl _
  | y :: l => by
    unfold insL
    split
    · exact Perm.refl _
    · exact ((insL_perm x l).cons y).trans (Perm.swap x y l)
theorem insL_sort (x : One) : ∀ l : List One, l.Pairwise leO → (insL x l).Pairwise leO
  | [], h => by simp [insL]
  | y :: l, h => by
    unfold insL
    obtain ⟨h1, h2⟩ := List.pairwise_cons.1 h
    split
    · rename_i hl
      have hxy := leO_of_lt hl
      refine List.pairwise_cons.2 ⟨fun z hz => ?_, h⟩
      rcases List.mem_cons.1 hz with e | e
      · rw [e]; exact hxy
      · exact leO_trans hxy (h1 z e)
    · rename_i hl
      have hyx : leO y x := ltO_false.1 (by simpa using hl)
      refine List.pairwise_cons.2 ⟨fun z hz => ?_, insL_sort x l h2⟩
      rcases List.mem_cons.1 ((insL_perm x l).mem_iff.1 hz) with e | e
      · rw [e]; exact hyx
      · exact h1 z e
def cancelL (id : Int) (L : List One) : List One := L.eraseP (fun y => decide (y.2 = id))
def hasL (id : Int) (L : List One) : Bool := L.any (fun y => decide (y.2 = id))
def atL (id : Int) (L : List One) : Int × Bool := match L.find? (fun y => decide (y.2 = id)) with
  | some y => (y.1, true)
  | none => (0, false)
def idsOK (L : List One) : Prop := (L.map (·.2)).Nodup
theorem idsOK_perm {L L' : List One} (h : L ~ L') : idsOK L ↔ idsOK L' := (h.map (fun x : One => x.2)).nodup_iff
theorem cancelL_perm {L R : List One} {x : One} {id : Int} (hi : idsOK L) (hx : x.2 = id) (h : L ~ x :: R) : cancelL id L ~ R := by
  have key : ∀ (L R : List One), idsOK L → L ~ x :: R → cancelL id L ~ R := by
    intro L
    induction L with
    | nil => intro R _ h; have := h.length_eq; simp at this
    | cons y L ih =>
      intro R hi h
      unfold cancelL
      rw [List.eraseP_cons]
      by_cases hy : y.2 = id
      · rw [decide_eq_true hy, cond_true]
        have hm : y ∈ x :: R := h.mem_iff.1 (List.mem_cons_self ..)
        have hxm : x ∈ y :: L := h.mem_iff.2 (List.mem_cons_self ..)
        have e : y = x := by
          rcases List.mem_cons.1 hxm with e | e
          · exact e.symm
          · exfalso
            unfold idsOK at hi
            rw [List.map_cons, List.nodup_cons] at hi
            exact hi.1 (by rw [hy, ← hx]; exact List.mem_map.2 ⟨x, e, rfl⟩)
        rw [e] at h
        exact h.cons_inv
      · rw [decide_eq_false hy, cond_false]
        have hym : y ∈ x :: R := h.mem_iff.1 (List.mem_cons_self ..)
        have hyR : y ∈ R := by
          rcases List.mem_cons.1 hym with e | e
          · rw [e] at hy; exact absurd hx hy
          · exact e
        have hi2 : idsOK L := by
          unfold idsOK at hi ⊢
          rw [List.map_cons, List.nodup_cons] at hi
          exact hi.2
        have p1 := perm_cons_erase hyR
        have p2 : L ~ x :: R.erase y := (h.trans ((p1.cons x).trans (Perm.swap y x _))).cons_inv
        exact ((ih _ hi2 p2).cons y).trans p1.symm
  exact key L R hi h
theorem cancelL_sort {L : List One} (id : Int) (h : L.Pairwise leO) : (cancelL id L).Pairwise leO := h.sublist (List.eraseP_sublist ..)
theorem cancelL_ids {L : List One} (id : Int) (h : idsOK L) : idsOK (cancelL id L) := by
  unfold idsOK at *
  exact h.sublist ((List.eraseP_sublist ..).map _)
theorem cancelL_no {L : List One} {id : Int} (h : hasL id L = false) : cancelL id L = L := by
  unfold cancelL
  unfold hasL at h
  exact List.eraseP_of_forall_not (fun y hy => by
    rw [List.any_eq_false] at h
    exact h y hy)
theorem has_iff {L : List One} {id : Int} : hasL id L = true ↔ ∃ x ∈ L, x.2 = id := by simp [hasL]
theorem has_fnd {f : Nat → One} {n : Nat} {L : List One} (h : Rep f n L) (id : Int) : (hasL id L = false ∧ fndI f n id = -1) ∨ (hasL id L = true ∧ ∃ k, fndI f n id = (k : Nat) ∧ k < n ∧ (f k).2 = id) := by
  rcases fndI_cases f n id with ⟨h1, h2⟩ | ⟨k, h1, h2, h3⟩
  · left
    refine ⟨?_, h1⟩
    rw [Bool.eq_false_iff]
    intro e
    obtain ⟨x, hx, hid⟩ := has_iff.1 e
    obtain ⟨k, hk, rfl⟩ := mem_rm.1 (h.perm.mem_iff.2 hx)
    exact h2 k hk hid
  · right
    exact ⟨has_iff.2 ⟨f k, h.perm.mem_iff.1 (mem_rm.2 ⟨k, h2, rfl⟩), h3⟩, k, h1, h2, h3⟩
theorem rep_at {f : Nat → One} {n : Nat} {L : List One} (h : Rep f n L) (hi : idsOK L) (id : Int) : atV f n id = atL id L := by
  unfold atL
  rcases has_fnd h id with ⟨h1, h2⟩ | ⟨h1, k, h2, h3, h4⟩
  · rw [atV_no h2]
    have : L.find? (fun y => decide (y.2 = id)) = none := by
      rw [List.find?_eq_none]
      unfold hasL at h1
      rw [List.any_eq_false] at h1
      exact h1
    rw [this]
  · rw [atV_yes h2]
    have hm : f k ∈ L := h.perm.mem_iff.1 (mem_rm.2 ⟨k, h3, rfl⟩)
    cases hf : L.find? (fun y => decide (y.2 = id)) with
    | none =>
      rw [List.find?_eq_none] at hf
      exact absurd h4 (by simpa using hf _ hm)
    | some y =>
      have hy : y.2 = id := by simpa using List.find?_some hf
      have hym := List.mem_of_find?_eq_some hf
      have e : y = f k := by
        obtain ⟨i, hi1, hi2⟩ := List.mem_iff_getElem.1 hym
        obtain ⟨j, hj1, hj2⟩ := List.mem_iff_getElem.1 hm
        have hij : i = j := by
          unfold idsOK at hi
          have := (List.getElem_inj (h₀ := by simpa using hi1) (h₁ := by simpa using hj1) hi).1 (by simp [hi2, hj2, hy, h4])
          exact this
        subst hij
        rw [← hi2, ← hj2]
      simp only [e]
theorem rep_new {f : Nat → One} {n : Nat} {L : List One} (h : Rep f n L) (x : One) : Rep (upF n (putF f n x) n) (n + 1) (insL x L) := by
  refine ⟨?_, ?_, insL_sort x L h.sort⟩
  · refine up_heap n _ n (n + 1) (Nat.le_refl _) (by omega) ⟨fun k h1 h2 h3 => ?_, fun k h1 h2 h3 h4 => by omega⟩
    rw [putF_ne _ _ _ _ h3, putF_ne _ _ _ _ (by omega)]
    exact h.heap k h1 (by omega)
  · refine (rm_up _ _ _ _ (by omega)).trans ?_
    rw [rm_succ, putF_eq, rm_congr (f := putF f n x) (g := f) (fun k hk => putF_ne _ _ _ _ (by omega))]
    exact (perm_append_comm).trans ((h.perm.cons x).trans (insL_perm x L).symm)
theorem rep_old {f : Nat → One} {n k : Nat} {L : List One} (h : Rep f n L) (hi : idsOK L) (id at_ : Int) (hk : k < n) (hid : (f k).2 = id) : Rep (fixF (putF f k (at_, (f k).2)) k n) n (insL (at_, id) (cancelL id L)) := by
  obtain ⟨R, h1, h2⟩ := rm_put n k f hk
  refine ⟨?_, ?_, insL_sort _ _ (cancelL_sort id h.sort)⟩
  · refine heap_fix _ _ _ hk ⟨fun j h1 h2 h3 h4 => ?_, fun j h1 h2 h3 h4 => ?_⟩
    · rw [putF_ne _ _ _ _ h4, putF_ne _ _ _ _ h3]; exact h.heap j h1 h2
    · rw [putF_ne _ _ _ _ (by omega), putF_ne _ _ _ _ (by omega)]
      have := h.heap j h1 h2
      rw [h3] at this
      exact leO_trans (h.heap k h4 hk) this
  · rw [hid]
    exact (rm_fix _ _ _ hk).trans ((h2 _).trans ((((cancelL_perm hi hid (h.perm.symm.trans h1)).symm).cons _).trans (insL_perm _ _).symm))
theorem rep_cancel {f : Nat → One} {n k : Nat} {L : List One} (h : Rep f (n + 1) L) (hi : idsOK L) (id : Int) (hk : k ≤ n) (hid : (f k).2 = id) : Rep (remF f k n) n (cancelL id L) := by
  have hcs := cancelL_sort id h.sort
  unfold remF
  split
  · rename_i e
    subst e
    refine ⟨fun j h1 h2 => h.heap j h1 (by omega), ?_, hcs⟩
    have p : L ~ f k :: rm k f := by
      have := h.perm
      rw [rm_succ] at this
      exact this.symm.trans perm_append_comm
    exact (cancelL_perm hi hid p).symm
  · rename_i hne
    have hkn : k < n := by omega
    refine ⟨?_, ?_, hcs⟩
    · refine heap_fix _ _ _ hkn ⟨fun j h1 h2 h3 h4 => ?_, fun j h1 h2 h3 h4 => ?_⟩
      · rw [swapF_o _ _ _ _ h4 (by omega), swapF_o _ _ _ _ h3 (by omega)]; exact h.heap j h1 (by omega)
      · rw [swapF_o _ _ _ _ (by omega) (by omega), swapF_o _ _ _ _ (by omega) (by omega)]
        have := h.heap j h1 (by omega)
        rw [h3] at this
        exact leO_trans (h.heap k h4 (by omega)) this
    · refine (rm_fix _ _ _ hkn).trans ?_
      have p1 := rm_swap (n + 1) k n f (by omega) (by omega)
      rw [rm_succ, swapF_j] at p1
      have p2 : L ~ f k :: rm n (swapF f k n) := h.perm.symm.trans (p1.symm.trans perm_append_comm)
      exact (cancelL_perm hi hid p2).symm
theorem insL_ids {L : List One} {x : One} (h : idsOK L) (hx : hasL x.2 L = false) : idsOK (insL x L) := by
  rw [idsOK_perm (insL_perm x L)]
  unfold idsOK at *
  rw [List.map_cons, List.nodup_cons]
  refine ⟨fun hm => ?_, h⟩
  obtain ⟨y, hy, e⟩ := List.mem_map.1 hm
  rw [has_iff.2 ⟨y, hy, e⟩] at hx
  cases hx
theorem cancel_has {L : List One} (id : Int) (h : idsOK L) : hasL id (cancelL id L) = false := by
  rw [Bool.eq_false_iff]
  intro e
  obtain ⟨x, hx, hid⟩ := has_iff.1 e
  cases hh : hasL id L with
  | false => rw [cancelL_no hh] at hx; exact absurd (has_iff.2 ⟨x, hx, hid⟩) (by rw [hh]; exact Bool.false_ne_true)
  | true =>
    obtain ⟨y, hy, hyid⟩ := has_iff.1 hh
    have p := cancelL_perm h hyid (perm_cons_erase hy)
    have p2 : idsOK (y :: cancelL id L) := (idsOK_perm ((perm_cons_erase hy).trans (p.symm.cons y))).1 h
    unfold idsOK at p2
    rw [List.map_cons, List.nodup_cons] at p2
    exact p2.1 (by rw [hyid]; exact List.mem_map.2 ⟨x, hx, hid⟩)
end Go.Proofs.Ytjdanngkmkgidaa
