/- Lemmas for the law (part 10): CoM, Low, Code0, LendB, Mm4, Sum0, Mm8, Mm13, CoF, CoG, CoI, CoN0, CoJ, CoL -/
import Derived.Test.YtinkbgeckjbnbaaGreatRows
import Derived.Laws.Entries
import Derived.Laws.CopyOwn
import Derived.Test.YtinkbgeckjbnbaaGreatQf9
namespace Go.Proofs.YtinkbgeckjbnbaaGreat
section
open Go.RowKit
set_option linter.unusedVariables false

/-- who was heard last when; -1: never -/
structure Heard (S : CS) (last : Nat → Int) : Prop where
  ok : S.t.ok
  wk : S.t.workers = S.c.wk
  tm : S.t.term = S.c.le
  now : 0 ≤ S.now ∧ S.now ≤ 1000
  each : ∀ w : Nat, 1 ≤ w → (w : Int) ≤ S.c.wk → (last w = -1 ∧ S.t.at w = L1.zero) ∨ (0 ≤ last w ∧ last w ≤ S.now ∧ S.t.at w = ⟨1, 1, last w + S.c.le⟩)
set_option maxRecDepth 100000 in
theorem heard_init {c : CfgM} (h : mayC c = true) (hle : 1 ≤ c.le ∧ c.le ≤ 1000) : Heard (CS.init c) (fun _ => -1) := by
  have hm := may_of h
  refine ⟨Tab.new_ok _ _ hm.2.1 hm.2.2.1 hle.1 hle.2, rfl, rfl, ⟨Int.le_refl _, by show (0 : Int) ≤ 1000; decide⟩, fun w h1 h2 => .inl ⟨rfl, ?_⟩⟩
  show (List.replicate 6 L1.zero).getD ((w : Int)).toNat L1.zero = L1.zero
  rw [List.getD_eq_getElem?_getD, List.getElem?_replicate]
  split <;> rfl
set_option maxRecDepth 100000 in
theorem heard_hello {S : CS} {last : Nat → Int} (h : Heard S last) {w : Nat} (h1 : 1 ≤ w) (h2 : (w : Int) ≤ S.c.wk) : Heard (S.hello w 1) (fun v => if v = w then S.now else last v) := by
  have hw := h.wk
  have hb := h.ok.workers1
  have his : S.t.is (w : Int) = true := by unfold Tab.is; simp; omega
  have hok : okHello S.t (w : Int) 1 S.now = true := by unfold okHello okTime; rw [his]; have := h.now; simp; omega
  have hat : ∀ v : Nat, 1 ≤ v → (v : Int) ≤ S.c.wk → (S.t.put (w : Int) (((S.t.at w).told 1).on (S.now + S.t.term))).at v = if v = w then ⟨1, 1, S.now + S.c.le⟩ else S.t.at v := fun v hv1 hv2 => by
    rw [Tab.at_put h.ok _ _ _ his, Int.toNat_natCast, Int.toNat_natCast]
    by_cases e : v = w
    · rw [if_pos e, if_pos e]
      have hn := h.now
      have ht := h.tm
      have hle := h.ok.term0
      rcases h.each w h1 h2 with ⟨_, ez⟩ | ⟨ha, hb', ez⟩
      · rw [ez]; unfold L1.told L1.zero L1.on; simp only; rw [if_pos (by decide)]; simp only; congr 1; omega
      · rw [ez]; unfold L1.told L1.on; simp only; rw [if_neg (by decide)]; simp only; congr 1; omega
    · rw [if_neg e, if_neg e]
  have hlife : ¬ 1 < (S.t.at (w : Int)).life := by
    rcases h.each w h1 h2 with ⟨_, ez⟩ | ⟨_, _, ez⟩
    · rw [ez]; decide
    · rw [ez]; show ¬ (1 : Int) < 1; decide
  have ht : (S.hello w 1).t = S.t.put (w : Int) (((S.t.at w).told 1).on (S.now + S.t.term)) := by
    show (S.t.hello (w : Int) 1 S.now).1 = _
    unfold Tab.hello
    rw [if_pos hok, if_neg hlife]
  refine ⟨h.ok.hello _ _ _, ?_, ?_, h.now, fun v hv1 hv2 => ?_⟩
  · rw [ht]; exact h.wk
  · rw [ht]; exact h.tm
  · rw [ht, hat v hv1 hv2]
    by_cases e : v = w
    · simp only [if_pos e]
      exact .inr ⟨h.now.1, Int.le_refl _, rfl⟩
    · simp only [if_neg e]
      rcases h.each v hv1 hv2 with ⟨ha, ez⟩ | ⟨ha, hb', ez⟩
      · exact .inl ⟨ha, ez⟩
      · exact .inr ⟨ha, hb', ez⟩
set_option maxRecDepth 100000 in
theorem heard_tick {S : CS} {last : Nat → Int} (h : Heard S last) (hn : S.now ≤ 999) : Heard S.tick last := by
  have e : S.tick.now = S.now + 1 := by show min (S.now + 1) _ = _; omega
  exact ⟨h.ok, h.wk, h.tm, by rw [e]; have := h.now; omega, fun w h1 h2 => by
    rcases h.each w h1 h2 with hh | ⟨ha, hb, ez⟩
    · exact .inl hh
    · exact .inr ⟨ha, by rw [e]; omega, ez⟩⟩
set_option maxRecDepth 100000 in
theorem heard_live {S : CS} {last : Nat → Int} (h : Heard S last) {w : Nat} (h1 : 1 ≤ w) (h2 : (w : Int) ≤ S.c.wk) : S.t.live w S.now = decide (0 ≤ last w ∧ S.now ≤ last w + S.c.le) := by
  have his : S.t.is (w : Int) = true := by unfold Tab.is; have := h.wk; simp; omega
  unfold Tab.live
  rw [his]
  rcases h.each w h1 h2 with ⟨ha, ez⟩ | ⟨ha, hb, ez⟩
  · rw [ez, ha]; simp [L1.zero]
  · rw [ez]; simp [ha]
set_option maxRecDepth 100000 in
theorem heard_epoch {S : CS} {last : Nat → Int} (h : Heard S last) {w : Nat} (h1 : 1 ≤ w) (h2 : (w : Int) ≤ S.c.wk) : S.t.epoch w = if last w < 0 then 0 else 1 := by
  have his : S.t.is (w : Int) = true := by unfold Tab.is; have := h.wk; simp; omega
  unfold Tab.epoch
  rw [if_pos his]
  rcases h.each w h1 h2 with ⟨ha, ez⟩ | ⟨ha, hb, ez⟩
  · rw [ez, ha]; rfl
  · rw [ez, if_neg (by omega)]
set_option maxRecDepth 100000 in
/-- a fresh query -/
theorem ahead_none {S : List PS} (h : ∀ s ∈ S, s.waits = []) : ∀ i, aheadP S i = none
  | 0 => rfl
  | i + 1 => by
    unfold aheadP
    rw [ahead_none h i]
    cases e : S[i]? with
    | none => rfl
    | some s => simp only; rw [h s (List.mem_of_getElem? e)]; rfl
set_option maxRecDepth 100000 in
theorem tell_none {S : List PS} (h : ∀ s ∈ S, s.waits = []) (n : Int) (T : List KeyL) : tellP n S T = ([], S, T) := by
  unfold tellP
  exact tellA_stop (step_none (ahead_none h _)) _ _
set_option maxRecDepth 100000 in
theorem newPS_waits (l : List Int) : ∀ s ∈ l.map newPS, s.waits = [] := fun s hs => by obtain ⟨d, _, rfl⟩ := List.mem_map.1 hs; rfl
/-- a fresh coordinator that was told of workers alone -/
structure Fresh (S : CS) (sl : Nat) : Prop where
  L : S.L = List.replicate sl 0
  told : S.told = []
  tm : S.tm = []
set_option maxRecDepth 100000 in
theorem free_rep {n : Nat} (h : 1 ≤ n) : freeS (List.replicate n 0) = some 0 := by
  obtain ⟨m, rfl⟩ : ∃ m, n = m + 1 := ⟨n - 1, by omega⟩
  rfl
def leastsQ (S : CS) (q : ByteArray) (k : Int) (ns : Nat) : List Int := (List.range ns).map (fun j : Nat => leastQ S.c q k (j : Nat))
set_option maxRecDepth 100000 in
theorem sub_eq {S : CS} {sl ns : Nat} {q : ByteArray} {k n : Int} (h : Fresh S sl) (hsl : 1 ≤ sl) (hm : mayQ q k n = true) : S.sub q k n ns = (S.add q k n 0 ns).goes 1 ns := by
  unfold CS.sub
  rw [if_neg (by rw [hm]; decide), h.L, free_rep hsl, h.told]
  rfl
set_option maxRecDepth 100000 in
theorem subV_eq {S : CS} {sl : Nat} {q : ByteArray} {k n : Int} (h : Fresh S sl) (hsl : 1 ≤ sl) (hm : mayQ q k n = true) : S.subV q k n = (3, 1) := by
  unfold CS.subV subS
  rw [if_neg (by rw [hm]; decide), h.L, free_rep hsl, h.told]
  rfl
set_option maxRecDepth 100000 in
theorem add_Q {S : CS} {sl ns : Nat} {q : ByteArray} {k n : Int} (h : Fresh S sl) (hsl : 1 ≤ sl) (hm : mayQ q k n = true) : (S.add q k n 0 ns).Q 1 = S.newQ q k n 0 ns := by
  show (if (1 : Nat) = S.told.length + 1 then _ else _) = _
  rw [h.told]; rfl
set_option maxRecDepth 100000 in
theorem add_told {S : CS} {sl ns : Nat} {q : ByteArray} {k n : Int} (h : Fresh S sl) (hsl : 1 ≤ sl) (hm : mayQ q k n = true) : (S.add q k n 0 ns).told = [⟨q, k, n, [], false, false⟩] := by show S.told ++ [_] = _; rw [h.told]; rfl
set_option maxRecDepth 100000 in
theorem add_L {S : CS} {sl ns : Nat} {q : ByteArray} {k n : Int} (h : Fresh S sl) (hsl : 1 ≤ sl) (hm : mayQ q k n = true) : (S.add q k n 0 ns).L = (List.replicate sl 0).set 0 1 := by show S.L.set 0 (S.told.length + 1) = _; rw [h.told, h.L]; rfl
set_option maxRecDepth 100000 in
theorem add_tell {S : CS} {sl ns : Nat} {q : ByteArray} {k n : Int} (h : Fresh S sl) (hsl : 1 ≤ sl) (hm : mayQ q k n = true) : (S.add q k n 0 ns).tell 1 = ((S.add q k n 0 ns).setQ 1 (S.newQ q k n 0 ns)).setT 0 ⟨q, k, n, [], false, false⟩ := by
  have e : (S.add q k n 0 ns).tellR 1 = ([], (leastsQ S q k ns).map newPS, []) := by
    unfold CS.tellR
    rw [add_Q h hsl hm]
    exact tell_none (newPS_waits _) _ _
  have et : (S.add q k n 0 ns).tof 1 = ⟨q, k, n, [], false, false⟩ := by unfold CS.tof; rw [add_told h hsl hm]; rfl
  unfold CS.tell
  rw [e, et, add_Q h hsl hm]
  rfl
set_option maxRecDepth 100000 in
theorem tell_Q1 {S : CS} {sl ns : Nat} {q : ByteArray} {k n : Int} (h : Fresh S sl) (hsl : 1 ≤ sl) (hm : mayQ q k n = true) : ((S.add q k n 0 ns).tell 1).Q 1 = S.newQ q k n 0 ns := by rw [add_tell h hsl hm]; show ((S.add q k n 0 ns).setQ 1 (S.newQ q k n 0 ns)).Q 1 = _; exact setQ_at _ _ _
set_option maxRecDepth 100000 in
theorem tell_L {S : CS} {sl ns : Nat} {q : ByteArray} {k n : Int} (h : Fresh S sl) (hsl : 1 ≤ sl) (hm : mayQ q k n = true) : ((S.add q k n 0 ns).tell 1).L = (List.replicate sl 0).set 0 1 := add_L (ns := ns) h hsl hm
set_option maxRecDepth 100000 in
theorem tell_t0 {S : CS} {sl ns : Nat} {q : ByteArray} {k n : Int} (h : Fresh S sl) (hsl : 1 ≤ sl) (hm : mayQ q k n = true) : ((S.add q k n 0 ns).tell 1).told = [⟨q, k, n, [], false, false⟩] := by
  rw [add_tell h hsl hm]
  show (S.add q k n 0 ns).told.set 0 _ = _
  rw [add_told h hsl hm]; rfl
set_option maxRecDepth 100000 in
theorem sub_c {S : CS} {sl ns : Nat} {q : ByteArray} {k n : Int} (h : Fresh S sl) (hsl : 1 ≤ sl) (hm : mayQ q k n = true) : (S.sub q k n ns).c = S.c ∧ (S.sub q k n ns).now = S.now ∧ (S.sub q k n ns).t = S.t := by
  rw [sub_eq h hsl hm]
  unfold CS.goes
  split <;> exact ⟨rfl, rfl, rfl⟩
set_option maxRecDepth 100000 in
theorem wake_none {S : CS} (h : ∀ x ∈ S.L, x = 0) (draw : Int) (k : Nat) : S.wakeN draw k = (S, []) := by
  induction k with
  | zero => rfl
  | succ k ih =>
    rw [wakeN_succ, ih]
    unfold CS.wakeA
    rw [if_pos]
    show S.L.getD k 0 = 0
    rw [List.getD_eq_getElem?_getD]
    cases e : S.L[k]? with
    | none => rfl
    | some x => exact h x (List.mem_of_getElem? e)
set_option maxRecDepth 100000 in
/-- one query, in slot 0 -/
theorem wake_one {S : CS} {sl : Nat} (h : S.L = (List.replicate sl 0).set 0 1) (hsl : 1 ≤ sl) (draw : Int) (k : Nat) : S.wakeN draw (k + 1) = S.lookN 1 draw (S.wl 1) := by
  have h0 : ∀ T : CS, T.L = S.L → T.L.getD 0 0 = 1 := fun T e => by
    rw [e, h, List.getD_eq_getElem?_getD, List.getElem?_set_self (by rw [List.length_replicate]; omega)]; rfl
  induction k with
  | zero =>
    rw [wakeN_succ]
    show CS.wakeA draw (S, []) 0 = _
    unfold CS.wakeA
    simp only [h0 S rfl]
    rw [if_neg (by decide), List.nil_append]
  | succ k ih =>
    rw [wakeN_succ, ih]
    unfold CS.wakeA
    have hl := (lookN_lk S 1 draw (S.wl 1)).L
    rw [if_pos]
    show (S.lookN 1 draw (S.wl 1)).1.L.getD (k + 1) 0 = 0
    rw [hl, h, List.getD_eq_getElem?_getD, List.getElem?_set_ne (by omega), List.getElem?_replicate]
    split <;> rfl
set_option maxRecDepth 100000 in
theorem hasL_ins (x : One) (L : List One) (id : Int) : hasL id (insL x L) = (decide (x.2 = id) || hasL id L) := by
  unfold hasL
  rw [(insL_perm x L).any_eq]
  rfl
set_option maxRecDepth 100000 in
theorem atL_has (id : Int) (L : List One) : (atL id L).2 = hasL id L := by
  unfold atL hasL
  cases e : L.find? (fun y => decide (y.2 = id)) with
  | none =>
    rw [List.find?_eq_none] at e
    symm
    rw [List.any_eq_false]
    intro x hx; exact e x hx
  | some y =>
    symm
    rw [List.any_eq_true]
    exact ⟨y, List.mem_of_find?_eq_some e, by have := List.find?_some e; simpa using this⟩
set_option maxRecDepth 100000 in
theorem hasL_set {L : List One} {id at_ j : Int} (h : hasL j (setL 24 L id at_).2 = true) : j = id ∨ hasL j L = true := by
  unfold setL at h
  split at h
  · exact .inr h
  · split at h
    · rw [hasL_ins] at h
      simp only [Bool.or_eq_true, decide_eq_true_eq] at h
      rcases h with h | h
      · exact .inl h.symm
      · right
        unfold hasL cancelL at h
        unfold hasL
        rw [List.any_eq_true] at h ⊢
        obtain ⟨x, hx, hx2⟩ := h
        exact ⟨x, List.mem_of_mem_eraseP hx, hx2⟩
    · split at h
      · exact .inr h
      · rw [hasL_ins] at h
        simp only [Bool.or_eq_true, decide_eq_true_eq] at h
        rcases h with h | h
        · exact .inl h.symm
        · exact .inr h
set_option maxRecDepth 100000 in
theorem askL_cong {S S' : CS} (hl : Lk S S') (id s : Nat) (t : Int) : S'.askL id s t = S.askL id s t := by
  unfold CS.askL
  obtain ⟨sh, hq⟩ := hl.Q id
  rw [hl.t, hl.c, hq]
set_option maxRecDepth 100000 in
theorem firstL_cong {S S' : CS} (hl : Lk S S') (s : Nat) : S'.firstL s = S.firstL s := by
  have : S'.liveJ s = S.liveJ s := by funext j; unfold CS.liveJ; rw [hl.t, hl.c, hl.now]
  unfold CS.firstL
  rw [hl.c, this]
set_option maxRecDepth 100000 in
/-- looks at shards that were never looked at -/
theorem lookN_first {S : CS} {id : Nat} {draw : Int} {l : List Int} (h0 : ∀ s : Nat, hasL (S.tid id s) S.tm = false) (hp : ∀ x ∈ l, ∃ i : Nat, x = (i : Int)) (hn : l.Nodup) :
    (S.lookN id draw l).2 = l.flatMap (fun s => S.askL id s.toNat (max (S.firstL s.toNat) 0)) ∧ ∀ s : Nat, hasL (S.tid id s) (S.lookN id draw l).1.tm = true → (s : Int) ∈ l := by
  revert hp hn
  refine snoc_ind (P := fun l => (∀ x ∈ l, ∃ i : Nat, x = (i : Int)) → l.Nodup → (S.lookN id draw l).2 = l.flatMap (fun s => S.askL id s.toNat (max (S.firstL s.toNat) 0)) ∧ ∀ s : Nat, hasL (S.tid id s) (S.lookN id draw l).1.tm = true → (s : Int) ∈ l) ?_ (fun l x ih => ?_) l
  · intro _ _
    exact ⟨rfl, fun s hs => by rw [show (S.lookN id draw []).1.tm = S.tm from rfl, h0 s] at hs; cases hs⟩
  · intro hp hn
    rw [List.nodup_append] at hn
    obtain ⟨ih1, ih2⟩ := ih (fun y hy => hp y (List.mem_append_left _ hy)) hn.1
    obtain ⟨i, rfl⟩ := hp x (by simp)
    have hlk := lookN_lk S id draw l
    have htid : ∀ s : Nat, (S.lookN id draw l).1.tid id s = S.tid id s := fun s => by
      unfold CS.tid
      obtain ⟨sh, hq⟩ := hlk.Q id
      rw [hq]
    have hno : hasL (S.tid id i) (S.lookN id draw l).1.tm = false := by
      cases e : hasL (S.tid id i) (S.lookN id draw l).1.tm with
      | false => rfl
      | true => exact absurd rfl (hn.2.2 _ (ih2 i e) _ (by simp))
    rw [lookN_snoc]
    unfold CS.lookA
    rw [Int.toNat_natCast]
    have hlook : (S.lookN id draw l).1.look id i draw = (((S.lookN id draw l).1.setH id i ⟨max ((S.lookN id draw l).1.firstL i) 0, 0, (S.lookN id draw l).1.now, false⟩).tset id i 0 draw, (S.lookN id draw l).1.askL id i (max ((S.lookN id draw l).1.firstL i) 0)) := by
      unfold CS.look
      rw [if_pos (by rw [htid, atL_has]; exact hno)]
    rw [hlook]
    refine ⟨?_, fun s hs => ?_⟩
    · rw [List.flatMap_append, ih1, askL_cong hlk, firstL_cong hlk]; simp
    · have hs' : hasL (S.tid id s) (setL 24 (S.lookN id draw l).1.tm (((S.lookN id draw l).1.setH id i ⟨max ((S.lookN id draw l).1.firstL i) 0, 0, (S.lookN id draw l).1.now, false⟩).tid id i) (((S.lookN id draw l).1.setH id i ⟨max ((S.lookN id draw l).1.firstL i) 0, 0, (S.lookN id draw l).1.now, false⟩).wait 0 draw)).2 = true := hs
      rcases hasL_set hs' with e | e
      · have e2 : ((S.lookN id draw l).1.setH id i ⟨max ((S.lookN id draw l).1.firstL i) 0, 0, (S.lookN id draw l).1.now, false⟩).tid id i = S.tid id i := by
          rw [← htid]; unfold CS.tid; rw [setH_Q]
        rw [e2] at e
        unfold CS.tid at e
        have : (s : Int) = (i : Int) := by omega
        rw [this]; simp
      · exact List.mem_append_left _ (ih2 s e)
set_option maxRecDepth 100000 in
theorem wl_nodup (S : CS) (id : Nat) : (S.wl id).Nodup := by
  unfold CS.wl wantsP
  split
  · exact List.nodup_nil
  · unfold wantK
    exact List.Pairwise.map _ (fun a b hab e => hab (by exact Int.ofNat.inj e)) ((List.nodup_range (n := (S.Q id).S.length)).filter _)
/-- the first from j on that is so; 0: none is -/
def fromJ (P : Nat → Bool) (n j : Nat) : Nat := (((List.range n).drop j).find? P).getD 0
set_option maxRecDepth 100000 in
theorem fromJ_step {P : Nat → Bool} {n j : Nat} (hj : j < n) : fromJ P n j = if P j = true then j else fromJ P n (j + 1) := by
  unfold fromJ
  rw [List.drop_eq_getElem_cons (by rw [List.length_range]; exact hj), List.getElem_range, List.find?_cons]
  cases e : P j with
  | true => rfl
  | false => rfl
set_option maxRecDepth 100000 in
theorem fromJ_end (P : Nat → Bool) (n : Nat) : fromJ P n n = 0 := by
  unfold fromJ; rw [List.drop_of_length_le (by rw [List.length_range]; exact Nat.le_refl _)]; rfl
set_option maxRecDepth 100000 in
theorem fromJ_0 (S : CS) (s : Nat) : ((fromJ (S.liveJ s) S.c.cp.toNat 0 : Nat) : Int) = max (S.firstL s) 0 := by
  unfold fromJ CS.firstL
  rw [List.drop_zero]
  cases e : (List.range S.c.cp.toNat).find? (S.liveJ s) with
  | none => rfl
  | some k => show ((k : Nat) : Int) = max ((k : Nat) : Int) 0; omega
set_option maxRecDepth 100000 in
theorem copN_at {c : CfgM} {s j : Nat} (hj : j < c.cp.toNat) : (copN c s)[j]? = some (1 + ((s : Int) + (j : Int)) % c.wk) := by
  unfold copN; rw [List.getElem?_map, List.getElem?_range hj]; rfl
set_option maxRecDepth 100000 in
theorem cop_bd {c : CfgM} (h : 1 ≤ c.wk) (s j : Nat) : 1 ≤ 1 + ((s : Int) + (j : Int)) % c.wk ∧ 1 + ((s : Int) + (j : Int)) % c.wk ≤ c.wk := by
  have h1 := Int.emod_nonneg ((s : Int) + (j : Int)) (show c.wk ≠ 0 by omega)
  have h2 := Int.emod_lt_of_pos ((s : Int) + (j : Int)) (show 0 < c.wk by omega)
  omega
/-- a shard's copy, by its place -/
def copW (c : CfgM) (s j : Nat) : Nat := (1 + ((s : Int) + (j : Int)) % c.wk).toNat
set_option maxRecDepth 100000 in
theorem copW_eq {c : CfgM} (h : 1 ≤ c.wk) (s j : Nat) : ((copW c s j : Nat) : Int) = 1 + ((s : Int) + (j : Int)) % c.wk := by
  unfold copW; have := cop_bd h s j; omega
set_option maxRecDepth 100000 in
theorem liveJ_eq {S : CS} {last : Nat → Int} (h : Heard S last) (hw : 1 ≤ S.c.wk) {s j : Nat} (hj : j < S.c.cp.toNat) : S.liveJ s j = decide (0 ≤ last (copW S.c s j) ∧ S.now ≤ last (copW S.c s j) + S.c.le) := by
  have e := copW_eq hw s j
  have hb := cop_bd hw s j
  unfold CS.liveJ
  rw [List.getD_eq_getElem?_getD, copN_at hj]
  show S.t.live (1 + ((s : Int) + (j : Int)) % S.c.wk) S.now = _
  rw [← e]
  exact heard_live h (by omega) (by omega)
set_option maxRecDepth 100000 in
theorem turn_eq {S : CS} (hw : 1 ≤ S.c.wk) {s j : Nat} (hj : j < S.c.cp.toNat) : turnW S.c s (j : Nat) = ((copW S.c s j : Nat) : Int) := by
  unfold turnW
  rw [Int.emod_eq_of_lt (by omega) (by omega), Int.toNat_natCast, List.getD_eq_getElem?_getD, copN_at hj, copW_eq hw]
  rfl
set_option maxRecDepth 100000 in
theorem fromJ_lt {P : Nat → Bool} {n : Nat} (hn : 0 < n) (j : Nat) : fromJ P n j < n := by
  unfold fromJ
  cases e : ((List.range n).drop j).find? P with
  | none => exact hn
  | some k =>
    have := List.mem_of_mem_drop (List.mem_of_find?_eq_some e)
    exact List.mem_range.1 this
/-- whom a shard's letter goes toV -/
def toW (S : CS) (s : Nat) : Nat := copW S.c s (fromJ (S.liveJ s) S.c.cp.toNat 0)
set_option maxRecDepth 100000 in
theorem ask_to {S S2 : CS} {last : Nat → Int} (h : Heard S last) (hw : 1 ≤ S.c.wk) (hcp : 1 ≤ S.c.cp) (hc : S2.c = S.c) (hn : S2.now = S.now) (ht : S2.t = S.t) (id s : Nat) :
    (last (toW S s) < 0 → S2.askL id s (max (S2.firstL s) 0) = []) ∧ (¬ last (toW S s) < 0 → ∃ m, S2.askL id s (max (S2.firstL s) 0) = [(((toW S s : Nat) : Int), m)]) := by
  have hlj : S2.liveJ s = S.liveJ s := by funext j; unfold CS.liveJ; rw [hc, hn, ht]
  have hf : S2.firstL s = S.firstL s := by unfold CS.firstL; rw [hc, hlj]
  have hlt : fromJ (S.liveJ s) S.c.cp.toNat 0 < S.c.cp.toNat := fromJ_lt (by omega) 0
  have e : turnW S2.c s (max (S2.firstL s) 0) = ((toW S s : Nat) : Int) := by rw [hc, hf, ← fromJ_0]; exact turn_eq hw hlt
  have hb := cop_bd hw s (fromJ (S.liveJ s) S.c.cp.toNat 0)
  have he := copW_eq hw s (fromJ (S.liveJ s) S.c.cp.toNat 0)
  have hep := heard_epoch h (w := toW S s) (by unfold toW; omega) (by unfold toW; omega)
  unfold CS.askL
  rw [e, ht, hep]
  constructor
  · intro hl; rw [if_pos hl, if_pos rfl]
  · intro hl; rw [if_neg hl, if_neg (by decide)]; exact ⟨_, rfl⟩
set_option maxRecDepth 100000 in
theorem flat_want {α : Type} (l : List Nat) (p : Nat → Bool) (f : Int → List α) : ((l.filter p).map (fun i : Nat => (i : Int))).flatMap f = l.flatMap (fun i => if p i = true then f (i : Int) else []) := by
  induction l with
  | nil => rfl
  | cons x l ih =>
    rw [List.filter_cons, List.flatMap_cons]
    by_cases hx : p x = true
    · rw [if_pos hx, if_pos hx, List.map_cons, List.flatMap_cons, ih]
    · rw [if_neg hx, if_neg hx, ih]; rfl
/-- what the first wake sends for a shard -/
def fstL (S2 : CS) (q : ByteArray) (k : Int) (s : Nat) : List LV := if 0 ≤ leastQ S2.c q k (s : Nat) then S2.askL 1 s (max (S2.firstL s) 0) else []
set_option maxRecDepth 100000 in
theorem first_wake {S : CS} {sl ns : Nat} {q : ByteArray} {k n : Int} (h : Fresh S sl) (hsl : 1 ≤ sl) (hm : mayQ q k n = true) (draw : Int) (m : Nat) (hd : ((S.add q k n 0 ns).tell 1).isDone 1 = false) :
    S.sub q k n ns = (S.add q k n 0 ns).tell 1 ∧ ((S.sub q k n ns).wakeN draw (m + 1)).2 = (List.range ns).flatMap (fstL ((S.add q k n 0 ns).tell 1) q k) := by
  have e1 : S.sub q k n ns = (S.add q k n 0 ns).tell 1 := by rw [sub_eq h hsl hm]; unfold CS.goes; rw [if_neg (by rw [hd]; decide)]
  refine ⟨e1, ?_⟩
  rw [e1]
  have hL := tell_L (ns := ns) h hsl hm
  have hQ := tell_Q1 (ns := ns) h hsl hm
  have htm : ((S.add q k n 0 ns).tell 1).tm = [] := h.tm
  obtain ⟨S2, hS2⟩ : ∃ x, (S.add q k n 0 ns).tell 1 = x := ⟨_, rfl⟩
  have hc : S2.c = S.c := by rw [← hS2]; rfl
  rw [hS2] at hL hQ htm hd ⊢
  rw [wake_one hL hsl]
  have hl := lookN_first (S := S2) (id := 1) (draw := draw) (l := S2.wl 1) (fun s => by rw [htm]; rfl) (fun x hx => by obtain ⟨i, hi, _⟩ := wl_mem hx; exact ⟨i, hi⟩) (wl_nodup S2 1)
  rw [hl.1]
  have hwl : S2.wl 1 = ((List.range ns).filter (fun s : Nat => decide (0 ≤ leastQ S2.c q k (s : Nat)))).map (fun i : Nat => (i : Int)) := by
    unfold CS.wl wantsP
    have hd' : doneP (S2.Q 1).n (S2.Q 1).S (S2.Q 1).T = false := hd
    rw [if_neg (by rw [hd']; decide), hQ]
    show wantK ((leastsQ S q k ns).map newPS) ((leastsQ S q k ns).map newPS).length = _
    unfold wantK
    have hlen : ((leastsQ S q k ns).map newPS).length = ns := by unfold leastsQ; simp
    rw [hlen]
    congr 1
    apply List.filter_congr
    intro s hs
    have hs' := List.mem_range.1 hs
    have hget : ((leastsQ S q k ns).map newPS)[s]? = some (newPS (leastQ S.c q k (s : Nat))) := by
      unfold leastsQ
      rw [List.getElem?_map, List.getElem?_map, List.getElem?_range hs']; rfl
    rw [hget, hc]
    show (!(decide (leastQ S.c q k (s : Nat) < 0)) && true) = decide (0 ≤ leastQ S.c q k (s : Nat))
    by_cases hx : leastQ S.c q k (s : Nat) < 0
    · have e1 : decide (leastQ S.c q k (s : Nat) < 0) = true := by simpa using hx
      have e2 : decide (0 ≤ leastQ S.c q k (s : Nat)) = false := by simp; omega
      rw [e1, e2]; rfl
    · have e1 : decide (leastQ S.c q k (s : Nat) < 0) = false := by simpa using hx
      have e2 : decide (0 ≤ leastQ S.c q k (s : Nat)) = true := by simp; omega
      rw [e1, e2]; rfl
  rw [hwl, flat_want]
  congr 1
  funext s
  unfold fstL
  rw [Int.toNat_natCast]
  by_cases hx : 0 ≤ leastQ S2.c q k (s : Nat)
  · rw [if_pos hx, if_pos (by simpa using hx)]
  · rw [if_neg hx, if_neg (by simpa using hx)]
set_option maxRecDepth 100000 in
theorem sub_told {S : CS} {sl ns : Nat} {q : ByteArray} {k n : Int} {d : Bool} (h : Fresh S sl) (hsl : 1 ≤ sl) (hm : mayQ q k n = true) (hd : ((S.add q k n 0 ns).tell 1).isDone 1 = d) : (S.sub q k n ns).told = [⟨q, k, n, [], d, false⟩] := by
  rw [sub_eq h hsl hm]
  unfold CS.goes
  rw [hd]
  have ht := tell_t0 (ns := ns) h hsl hm
  cases d with
  | false => rw [if_neg (by decide)]; exact ht
  | true =>
    rw [if_pos rfl]
    show (((S.add q k n 0 ns).tell 1).told.set 0 { ((S.add q k n 0 ns).tell 1).tof 1 with done := true }) = _
    have et : ((S.add q k n 0 ns).tell 1).tof 1 = ⟨q, k, n, [], false, false⟩ := by unfold CS.tof; rw [ht]; rfl
    rw [et, ht]; rfl
set_option maxRecDepth 100000 in
theorem sub_over {S : CS} {sl ns : Nat} {q : ByteArray} {k n : Int} (h : Fresh S sl) (hsl : 1 ≤ sl) (hm : mayQ q k n = true) (hd : ((S.add q k n 0 ns).tell 1).isDone 1 = true) : ∀ x ∈ (S.sub q k n ns).L, x = 0 := by
  rw [sub_eq h hsl hm]
  unfold CS.goes
  rw [if_pos hd]
  show ∀ x ∈ freeL ((S.add q k n 0 ns).tell 1).L ((1 : Nat) : Int), x = 0
  rw [tell_L (ns := ns) h hsl hm]
  obtain ⟨m, rfl⟩ : ∃ m, sl = m + 1 := ⟨sl - 1, by omega⟩
  have e : (List.replicate (m + 1) 0).set 0 1 = 1 :: List.replicate m 0 := rfl
  rw [e]
  have e2 : freeL (1 :: List.replicate m 0) ((1 : Nat) : Int) = 0 :: List.replicate m 0 := by
    unfold freeL ofF
    rw [if_pos (by decide)]
    rfl
  rw [e2]
  intro x hx
  rcases List.mem_cons.1 hx with rfl | hx
  · rfl
  · exact List.eq_of_mem_replicate hx
set_option maxRecDepth 100000 in
theorem fresh_ok {S : CS} {sl : Nat} {last : Nat → Int} (h : Fresh S sl) (hh : Heard S last) (h1 : 1 ≤ sl) (h4 : sl ≤ 4) (ns : Nat) : S.OK ns 1000 := by
  have hno : ∀ id ∈ S.L, id ≠ 0 → False := fun id hm h0 => by rw [h.L] at hm; exact h0 (List.eq_of_mem_replicate hm)
  refine ⟨hh.ok, hh.now, ⟨fun s s' x hs _ hx => (hno x (List.mem_of_getElem? hs) hx).elim, fun x hx => by rw [h.L] at hx; rw [List.eq_of_mem_replicate hx]; exact Nat.zero_le _, by rw [h.L, List.length_replicate]; exact ⟨h1, h4⟩⟩, by rw [h.told]; decide, fun id h1 h2 => (hno id h1 h2).elim⟩
set_option maxRecDepth 100000 in
theorem cuts_bd {c : CfgM} (h : mayC c = true) : ∀ x ∈ c.cuts, -1000 ≤ x.1 ∧ x.1 ≤ 1000 := by
  unfold mayC goodE at h
  simp only [Bool.and_eq_true, decide_eq_true_eq] at h
  have h1 := h.1.2
  split at h1
  · omega
  · split at h1
    · omega
    · rename_i hb
      intro x hx
      rw [Bool.not_eq_true, List.any_eq_false] at hb
      have := hb x hx
      unfold badK at this
      simp at this
      omega
end
end Go.Proofs.YtinkbgeckjbnbaaGreat
namespace Go.Proofs.YtinkbgeckjbnbaaGreat
section
open Go.RowKit
set_option linter.unusedVariables false
set_option maxRecDepth 100000 in
theorem low_any (x n : Int) (w : World) (h1 : 1 ≤ n) (h2 : n ≤ 9223372036854775807) :
    Calls Tryz.prog 25 #[.int .i64 x, .int .i64 n] w fun e w' => e = .returned (.int .i64 (lowI x n)) ∧ w = w' := by
  go_enter Tryz.func25, Tryz.ntmps25
  go_wp2
  go_ret
  exact ⟨ret_int (low_eq x n h1 h2), rfl⟩
end
end Go.Proofs.YtinkbgeckjbnbaaGreat
namespace Go.Proofs.YtinkbgeckjbnbaaGreat
section
open Go.RowKit
set_option linter.unusedVariables false

/-- the bytes of a number, the most significant one first -/
def be (v : Nat) : Nat → List Nat
  | 0 => []
  | k + 1 => be (v / 256) k ++ [v % 256]
def u64 (n : Int) : Nat := (n % 18446744073709551616).toNat
end
end Go.Proofs.YtinkbgeckjbnbaaGreat
namespace Go.Proofs.YtinkbgeckjbnbaaGreat
section
open Go.RowKit
set_option linter.unusedVariables false

/-- the spare room while it is marked -/
def Spare (w wr : World) (g : Nat) (l : List Nat) (k : Nat) : Prop :=
  ∃ cs : List Value, Blk wr g 5 (u8s l ++ cs) ∧ cs.length = 3 ∧ cs.take k = List.replicate k (.int .u8 119) ∧ Below w.heap.size w wr
set_option maxRecDepth 100000 in
theorem Spare.next {w wr : World} {g : Nat} {l : List Nat} {k : Nat} {cs : List Value} (hb : Blk wr g 5 (u8s l ++ cs)) (h3 : cs.length = 3) (ht : cs.take k = List.replicate k (.int .u8 119)) (hbel : Below w.heap.size w wr)
    (hk : k < 3) (hg : w.heap.size ≤ g) : Spare w (wr.setCell ⟨g, l.length + k, none⟩ (.int .u8 119)) g l (k + 1) := by
  refine ⟨cs.set k (.int .u8 119), ?_, by simp [h3], ?_, hbel.setCell hg _⟩
  · have := hb.set (l.length + k) (.int .u8 119)
    rw [List.set_append_right _ _ (by rw [u8s_length]; omega), u8s_length, show l.length + k - l.length = k from by omega] at this
    exact this
  · rw [List.take_succ_eq_append_getElem (by simp; omega), List.take_set_of_le (by omega), ht, List.replicate_succ']
    simp
end
end Go.Proofs.YtinkbgeckjbnbaaGreat
namespace Go.Proofs.YtinkbgeckjbnbaaGreat
section
open Go.RowKit
set_option linter.unusedVariables false

set_option maxRecDepth 100000 in
theorem Frm.cell {S : Nat → Prop} {w w' : World} (h : Frm S w w') {p : Addr} (hp : p.block < w.heap.size) (hs : ¬ S p.block) : w'.cell? p = w.cell? p := World.cell?_of_block (w := w) (h.block p.block hp hs)
end
end Go.Proofs.YtinkbgeckjbnbaaGreat
namespace Go.Proofs.YtinkbgeckjbnbaaGreat
section
open Go
def poly : Nat := 3988292384
/-- one bit out -/
def step (c : Nat) : Nat := if c % 2 = 1 then (c / 2) ^^^ poly else c / 2
/-- all bits turned -/
def inv (c : Nat) : Nat := 4294967295 - c
end
end Go.Proofs.YtinkbgeckjbnbaaGreat
namespace Go.Proofs.YtinkbgeckjbnbaaGreat
section
open Go.RowKit
set_option linter.unusedVariables false

/-- its texts are of moderate size -/
def MV.short : MV → Prop
  | .ask s q h sq ep tx k b f d wd => tx.size ≤ 2000 ∧ wd.size ≤ 2000
  | .reply s q h sq wk ep l en => ∀ x ∈ l, x.2.size ≤ 2000
  | _ => True
set_option maxRecDepth 100000 in
theorem MV.short.small {m : MV} (h : m.short) : m.small := by
  cases m with
  | ask => exact ⟨by have := h.1; unfold maxLen; omega, by have := h.2; unfold maxLen; omega⟩
  | reply => exact fun x hx => by have := h x hx; unfold maxLen; omega
  | _ => trivial
set_option maxRecDepth 100000 in
theorem Rd.frm {S : Nat → Prop} {w w' : World} {a : Option Addr} {n c : Nat} {xs : List Value} (h : Rd w a n c xs) (hf : Frm S w w') (hne : ∀ b o, a = some ⟨b, o, none⟩ → ¬ S b) : Rd w' a n c xs := by
  obtain ⟨h1, h2, h3, h4, h5⟩ := h
  refine ⟨h1, h2, h3, h4, fun i hi => ?_⟩
  obtain ⟨b, o, e, hl, hc⟩ := h5 i hi
  exact ⟨b, o, e, Nat.lt_of_lt_of_le hl hf.size, by rw [Frm.cell hf (p := ⟨b, o + i, none⟩) hl (hne b o e)]; exact hc⟩
end
end Go.Proofs.YtinkbgeckjbnbaaGreat
namespace Go.Proofs.YtinkbgeckjbnbaaGreat
section
open Go.RowKit
set_option linter.unusedVariables false

set_option maxRecDepth 100000 in
theorem tolist_iff (a b : ByteArray) : (a.toList = b.toList) = (a = b) := by
  by_cases h : a = b
  · simp [h]
  · have := str_ne h
    simp only [h, eq_iff_iff, iff_false]
    intro e; rw [e] at this; simp at this
def MV.same : MV → MV → Bool
  | .hello w0 l0, .hello w0' l0' => decide (w0 = w0') && decide (l0 = l0')
  | .grant w0 l0 e0, .grant w0' l0' e0' => decide (w0 = w0') && decide (l0 = l0') && decide (e0 = e0')
  | .ask s q h sq ep tx k b f d wd, .ask s' q' h' sq' ep' tx' k' b' f' d' wd' => decide (s = s') && decide (q = q') && decide (h = h') && decide (sq = sq') && decide (ep = ep') && decide (tx = tx') && decide (k = k') && decide (b = b') && decide (f = f') && decide (d = d') && decide (wd = wd')
  | .reply s q h sq wk ep l en, .reply s' q' h' sq' wk' ep' l' en' => decide (s = s') && decide (q = q') && decide (h = h') && decide (sq = sq') && decide (wk = wk') && decide (ep = ep') && decide (en = en') && eqIs l l'
  | .stop s q, .stop s' q' => decide (s = s') && decide (q = q')
  | _, _ => false
def MV.is_hello : MV → Bool
  | .hello .. => true
  | _ => false
set_option maxRecDepth 100000 in
theorem ta_hello_miss (m : MV) (u : Value) (w : World) (h : m.At w u) (hn : m.is_hello = false) (X : TypeId) (W : World) : (Instr.typeAssert u X 36 true).run Tryz.prog W = .ok (.tuple #[.agg #[.int .i64 0, .int .i64 0], .bool false]) W := by
  cases m with
  | hello _ _ => simp [MV.is_hello] at hn
  | grant _ _ _ => obtain rfl := h; exact ta_hello_grant _ _ _
  | ask _ _ _ _ _ _ _ _ _ _ _ => obtain rfl := h; exact ta_hello_ask _ _ _
  | reply _ _ _ _ _ _ _ _ => obtain ⟨a, c, rfl, hr⟩ := h; exact ta_hello_reply _ _ _
  | stop _ _ => obtain rfl := h; exact ta_hello_stop _ _ _
  | other t v => obtain ⟨rfl, h1, h2, h3, h4, h5⟩ := h; exact ta_hello_other _ _ _ _ h1
  | nil => obtain rfl := h; exact ta_hello_nil _ _
def MV.is_grant : MV → Bool
  | .grant .. => true
  | _ => false
set_option maxRecDepth 100000 in
theorem ta_grant_miss (m : MV) (u : Value) (w : World) (h : m.At w u) (hn : m.is_grant = false) (X : TypeId) (W : World) : (Instr.typeAssert u X 99 true).run Tryz.prog W = .ok (.tuple #[.agg #[.int .i64 0, .int .i64 0, .int .i64 0], .bool false]) W := by
  cases m with
  | hello _ _ => obtain rfl := h; exact ta_grant_hello _ _ _
  | grant _ _ _ => simp [MV.is_grant] at hn
  | ask _ _ _ _ _ _ _ _ _ _ _ => obtain rfl := h; exact ta_grant_ask _ _ _
  | reply _ _ _ _ _ _ _ _ => obtain ⟨a, c, rfl, hr⟩ := h; exact ta_grant_reply _ _ _
  | stop _ _ => obtain rfl := h; exact ta_grant_stop _ _ _
  | other t v => obtain ⟨rfl, h1, h2, h3, h4, h5⟩ := h; exact ta_grant_other _ _ _ _ h2
  | nil => obtain rfl := h; exact ta_grant_nil _ _
def MV.is_ask : MV → Bool
  | .ask .. => true
  | _ => false
set_option maxRecDepth 100000 in
theorem ta_ask_miss (m : MV) (u : Value) (w : World) (h : m.At w u) (hn : m.is_ask = false) (X : TypeId) (W : World) : (Instr.typeAssert u X 48 true).run Tryz.prog W = .ok (.tuple #[.agg #[.int .i64 0, .int .i64 0, .int .i64 0, .int .i64 0, .int .i64 0, .string ByteArray.empty, .int .i64 0, .int .i64 0, .bool false, .int .i64 0, .string ByteArray.empty], .bool false]) W := by
  cases m with
  | hello _ _ => obtain rfl := h; exact ta_ask_hello _ _ _
  | grant _ _ _ => obtain rfl := h; exact ta_ask_grant _ _ _
  | ask _ _ _ _ _ _ _ _ _ _ _ => simp [MV.is_ask] at hn
  | reply _ _ _ _ _ _ _ _ => obtain ⟨a, c, rfl, hr⟩ := h; exact ta_ask_reply _ _ _
  | stop _ _ => obtain rfl := h; exact ta_ask_stop _ _ _
  | other t v => obtain ⟨rfl, h1, h2, h3, h4, h5⟩ := h; exact ta_ask_other _ _ _ _ h3
  | nil => obtain rfl := h; exact ta_ask_nil _ _
def MV.is_reply : MV → Bool
  | .reply .. => true
  | _ => false
set_option maxRecDepth 100000 in
theorem ta_reply_miss (m : MV) (u : Value) (w : World) (h : m.At w u) (hn : m.is_reply = false) (X : TypeId) (W : World) : (Instr.typeAssert u X 65 true).run Tryz.prog W = .ok (.tuple #[.agg #[.int .i64 0, .int .i64 0, .int .i64 0, .int .i64 0, .int .i64 0, .int .i64 0, .slice none 0 0, .bool false], .bool false]) W := by
  cases m with
  | hello _ _ => obtain rfl := h; exact ta_reply_hello _ _ _
  | grant _ _ _ => obtain rfl := h; exact ta_reply_grant _ _ _
  | ask _ _ _ _ _ _ _ _ _ _ _ => obtain rfl := h; exact ta_reply_ask _ _ _
  | reply _ _ _ _ _ _ _ _ => simp [MV.is_reply] at hn
  | stop _ _ => obtain rfl := h; exact ta_reply_stop _ _ _
  | other t v => obtain ⟨rfl, h1, h2, h3, h4, h5⟩ := h; exact ta_reply_other _ _ _ _ h4
  | nil => obtain rfl := h; exact ta_reply_nil _ _
def MV.is_stop : MV → Bool
  | .stop .. => true
  | _ => false
set_option maxRecDepth 100000 in
theorem ta_stop_miss (m : MV) (u : Value) (w : World) (h : m.At w u) (hn : m.is_stop = false) (X : TypeId) (W : World) : (Instr.typeAssert u X 87 true).run Tryz.prog W = .ok (.tuple #[.agg #[.int .i64 0, .int .i64 0], .bool false]) W := by
  cases m with
  | hello _ _ => obtain rfl := h; exact ta_stop_hello _ _ _
  | grant _ _ _ => obtain rfl := h; exact ta_stop_grant _ _ _
  | ask _ _ _ _ _ _ _ _ _ _ _ => obtain rfl := h; exact ta_stop_ask _ _ _
  | reply _ _ _ _ _ _ _ _ => obtain ⟨a, c, rfl, hr⟩ := h; exact ta_stop_reply _ _ _
  | stop _ _ => simp [MV.is_stop] at hn
  | other t v => obtain ⟨rfl, h1, h2, h3, h4, h5⟩ := h; exact ta_stop_other _ _ _ _ h5
  | nil => obtain rfl := h; exact ta_stop_nil _ _
set_option maxRecDepth 100000 in
set_option maxHeartbeats 4000000 in
theorem same_hello (w0 : Int) (l0 : Int) (w0' : Int) (l0' : Int) (w : World) :
    Calls Tryz.prog 39 #[.iface 36 (.agg #[.int .i64 w0, .int .i64 l0]), .iface 36 (.agg #[.int .i64 w0', .int .i64 l0'])] w fun e w' => e = .returned (.bool (MV.same (.hello w0 l0) (.hello w0' l0'))) ∧ Below w.heap.size w w' := by
  unfold MV.same
  go_enter Tryz.func39, Tryz.ntmps39
  go_wp2_with (first | rw [ta_hello_hello] | rw [ta_grant_hello] | rw [ta_ask_hello] | rw [ta_reply_hello] | rw [ta_stop_hello])
  all_goals
    go_ret
    exact ⟨by simp [*], (by repeat (first | exact Below.refl _ _ | refine Below.alloc ?_ (by first | (simp; done) | (simp; omega)) _))⟩
set_option maxRecDepth 100000 in
set_option maxHeartbeats 4000000 in
theorem same_hello_no (w0 : Int) (l0 : Int) (m : MV) (u : Value) (w : World) (hu : m.At w u) (hn : m.is_hello = false) :
    Calls Tryz.prog 39 #[.iface 36 (.agg #[.int .i64 w0, .int .i64 l0]), u] w fun e w' => e = .returned (.bool false) ∧ Below w.heap.size w w' := by
  have HM := Lib.hid (fun X W => ta_hello_miss m u w hu hn X W)
  clear hu hn
  go_enter Tryz.func39, Tryz.ntmps39
  go_wp2_with (first | rw [ta_hello_hello] | rw [ta_grant_hello] | rw [ta_ask_hello] | rw [ta_reply_hello] | rw [ta_stop_hello] | rw [HM.out])
  go_ret
  exact ⟨rfl, (by repeat (first | exact Below.refl _ _ | refine Below.alloc ?_ (by first | (simp; done) | (simp; omega)) _))⟩
set_option maxRecDepth 100000 in
set_option maxHeartbeats 4000000 in
theorem same_grant (w0 : Int) (l0 : Int) (e0 : Int) (w0' : Int) (l0' : Int) (e0' : Int) (w : World) :
    Calls Tryz.prog 39 #[.iface 99 (.agg #[.int .i64 w0, .int .i64 l0, .int .i64 e0]), .iface 99 (.agg #[.int .i64 w0', .int .i64 l0', .int .i64 e0'])] w fun e w' => e = .returned (.bool (MV.same (.grant w0 l0 e0) (.grant w0' l0' e0'))) ∧ Below w.heap.size w w' := by
  unfold MV.same
  go_enter Tryz.func39, Tryz.ntmps39
  go_wp2_with (first | rw [ta_hello_grant] | rw [ta_grant_grant] | rw [ta_ask_grant] | rw [ta_reply_grant] | rw [ta_stop_grant])
  all_goals
    go_ret
    exact ⟨by simp [*], (by repeat (first | exact Below.refl _ _ | refine Below.alloc ?_ (by first | (simp; done) | (simp; omega)) _))⟩
set_option maxRecDepth 100000 in
set_option maxHeartbeats 4000000 in
theorem same_grant_no (w0 : Int) (l0 : Int) (e0 : Int) (m : MV) (u : Value) (w : World) (hu : m.At w u) (hn : m.is_grant = false) :
    Calls Tryz.prog 39 #[.iface 99 (.agg #[.int .i64 w0, .int .i64 l0, .int .i64 e0]), u] w fun e w' => e = .returned (.bool false) ∧ Below w.heap.size w w' := by
  have HM := Lib.hid (fun X W => ta_grant_miss m u w hu hn X W)
  clear hu hn
  go_enter Tryz.func39, Tryz.ntmps39
  go_wp2_with (first | rw [ta_hello_grant] | rw [ta_grant_grant] | rw [ta_ask_grant] | rw [ta_reply_grant] | rw [ta_stop_grant] | rw [HM.out])
  go_ret
  exact ⟨rfl, (by repeat (first | exact Below.refl _ _ | refine Below.alloc ?_ (by first | (simp; done) | (simp; omega)) _))⟩
set_option maxRecDepth 100000 in
set_option maxHeartbeats 4000000 in
theorem same_ask (s : Int) (q : Int) (h : Int) (sq : Int) (ep : Int) (tx : ByteArray) (k : Int) (b : Int) (f : Bool) (d : Int) (wd : ByteArray) (s' : Int) (q' : Int) (h' : Int) (sq' : Int) (ep' : Int) (tx' : ByteArray) (k' : Int) (b' : Int) (f' : Bool) (d' : Int) (wd' : ByteArray) (w : World) :
    Calls Tryz.prog 39 #[.iface 48 (.agg #[.int .i64 s, .int .i64 q, .int .i64 h, .int .i64 sq, .int .i64 ep, .string tx, .int .i64 k, .int .i64 b, .bool f, .int .i64 d, .string wd]), .iface 48 (.agg #[.int .i64 s', .int .i64 q', .int .i64 h', .int .i64 sq', .int .i64 ep', .string tx', .int .i64 k', .int .i64 b', .bool f', .int .i64 d', .string wd'])] w fun e w' => e = .returned (.bool (MV.same (.ask s q h sq ep tx k b f d wd) (.ask s' q' h' sq' ep' tx' k' b' f' d' wd'))) ∧ Below w.heap.size w w' := by
  unfold MV.same
  go_enter Tryz.func39, Tryz.ntmps39
  go_wp2_with (first | rw [ta_hello_ask] | rw [ta_grant_ask] | rw [ta_ask_ask] | rw [ta_reply_ask] | rw [ta_stop_ask])
  all_goals
    go_ret
    (try simp only [tolist_iff] at *)
    exact ⟨by simp [*], (by repeat (first | exact Below.refl _ _ | refine Below.alloc ?_ (by first | (simp; done) | (simp; omega)) _))⟩
set_option maxRecDepth 100000 in
set_option maxHeartbeats 4000000 in
theorem same_ask_no (s : Int) (q : Int) (h : Int) (sq : Int) (ep : Int) (tx : ByteArray) (k : Int) (b : Int) (f : Bool) (d : Int) (wd : ByteArray) (m : MV) (u : Value) (w : World) (hu : m.At w u) (hn : m.is_ask = false) :
    Calls Tryz.prog 39 #[.iface 48 (.agg #[.int .i64 s, .int .i64 q, .int .i64 h, .int .i64 sq, .int .i64 ep, .string tx, .int .i64 k, .int .i64 b, .bool f, .int .i64 d, .string wd]), u] w fun e w' => e = .returned (.bool false) ∧ Below w.heap.size w w' := by
  have HM := Lib.hid (fun X W => ta_ask_miss m u w hu hn X W)
  clear hu hn
  go_enter Tryz.func39, Tryz.ntmps39
  go_wp2_with (first | rw [ta_hello_ask] | rw [ta_grant_ask] | rw [ta_ask_ask] | rw [ta_reply_ask] | rw [ta_stop_ask] | rw [HM.out])
  go_ret
  exact ⟨rfl, (by repeat (first | exact Below.refl _ _ | refine Below.alloc ?_ (by first | (simp; done) | (simp; omega)) _))⟩
set_option maxRecDepth 100000 in
set_option maxHeartbeats 4000000 in
theorem same_reply_no (s q h sq wk ep : Int) (l : List KeyL) (en : Bool) (a : Option Addr) (c : Nat) (m : MV) (u : Value) (w : World) (hu : m.At w u) (hn : m.is_reply = false) :
    Calls Tryz.prog 39 #[.iface 65 (.agg #[.int .i64 s, .int .i64 q, .int .i64 h, .int .i64 sq, .int .i64 wk, .int .i64 ep, .slice a l.length c, .bool en]), u] w fun e w' => e = .returned (.bool false) ∧ Below w.heap.size w w' := by
  have HM := Lib.hid (fun X W => ta_reply_miss m u w hu hn X W)
  clear hu hn
  go_enter Tryz.func39, Tryz.ntmps39
  go_wp2_with (first | rw [ta_hello_reply] | rw [ta_grant_reply] | rw [ta_ask_reply] | rw [ta_reply_reply] | rw [ta_stop_reply] | rw [HM.out])
  go_ret
  exact ⟨rfl, (by repeat (first | exact Below.refl _ _ | refine Below.alloc ?_ (by first | (simp; done) | (simp; omega)) _))⟩
set_option maxRecDepth 100000 in
set_option maxHeartbeats 4000000 in
theorem same_stop (s : Int) (q : Int) (s' : Int) (q' : Int) (w : World) :
    Calls Tryz.prog 39 #[.iface 87 (.agg #[.int .i64 s, .int .i64 q]), .iface 87 (.agg #[.int .i64 s', .int .i64 q'])] w fun e w' => e = .returned (.bool (MV.same (.stop s q) (.stop s' q'))) ∧ Below w.heap.size w w' := by
  unfold MV.same
  go_enter Tryz.func39, Tryz.ntmps39
  go_wp2_with (first | rw [ta_hello_stop] | rw [ta_grant_stop] | rw [ta_ask_stop] | rw [ta_reply_stop] | rw [ta_stop_stop])
  all_goals
    go_ret
    exact ⟨by simp [*], (by repeat (first | exact Below.refl _ _ | refine Below.alloc ?_ (by first | (simp; done) | (simp; omega)) _))⟩
set_option maxRecDepth 100000 in
set_option maxHeartbeats 4000000 in
theorem same_stop_no (s : Int) (q : Int) (m : MV) (u : Value) (w : World) (hu : m.At w u) (hn : m.is_stop = false) :
    Calls Tryz.prog 39 #[.iface 87 (.agg #[.int .i64 s, .int .i64 q]), u] w fun e w' => e = .returned (.bool false) ∧ Below w.heap.size w w' := by
  have HM := Lib.hid (fun X W => ta_stop_miss m u w hu hn X W)
  clear hu hn
  go_enter Tryz.func39, Tryz.ntmps39
  go_wp2_with (first | rw [ta_hello_stop] | rw [ta_grant_stop] | rw [ta_ask_stop] | rw [ta_reply_stop] | rw [ta_stop_stop] | rw [HM.out])
  go_ret
  exact ⟨rfl, (by repeat (first | exact Below.refl _ _ | refine Below.alloc ?_ (by first | (simp; done) | (simp; omega)) _))⟩
set_option maxRecDepth 100000 in
set_option maxHeartbeats 4000000 in
theorem same_nil (m : MV) (u : Value) (w : World) :
    Calls Tryz.prog 39 #[.nilIface, u] w fun e w' => e = .returned (.bool false) ∧ Below w.heap.size w w' := by
  go_enter Tryz.func39, Tryz.ntmps39
  go_wp2_with (first | rw [ta_hello_nil] | rw [ta_grant_nil] | rw [ta_ask_nil] | rw [ta_reply_nil] | rw [ta_stop_nil])
  go_ret
  exact ⟨rfl, (by repeat (first | exact Below.refl _ _ | refine Below.alloc ?_ (by first | (simp; done) | (simp; omega)) _))⟩
set_option maxRecDepth 100000 in
set_option maxHeartbeats 4000000 in
theorem same_other (t : TypeId) (v u : Value) (w : World) (h1 : t ≠ 36) (h2 : t ≠ 99) (h3 : t ≠ 48) (h4 : t ≠ 65) (h5 : t ≠ 87) :
    Calls Tryz.prog 39 #[.iface t v, u] w fun e w' => e = .returned (.bool false) ∧ Below w.heap.size w w' := by
  go_enter Tryz.func39, Tryz.ntmps39
  go_wp2_with (first | rw [ta_hello_other _ _ _ _ h1] | rw [ta_grant_other _ _ _ _ h2] | rw [ta_ask_other _ _ _ _ h3] | rw [ta_reply_other _ _ _ _ h4] | rw [ta_stop_other _ _ _ _ h5])
  go_ret
  exact ⟨rfl, (by repeat (first | exact Below.refl _ _ | refine Below.alloc ?_ (by first | (simp; done) | (simp; omega)) _))⟩
set_option maxRecDepth 100000 in
set_option maxHeartbeats 4000000 in
theorem samereply_any (s q h sq wk ep : Int) (l : List KeyL) (en : Bool) (a : Option Addr) (c : Nat) (s' q' h' sq' wk' ep' : Int) (l' : List KeyL) (en' : Bool) (a' : Option Addr) (c' : Nat) (w : World) (hr : RdE KeyL.cells 2 w a l.length c l) (hr' : RdE KeyL.cells 2 w a' l'.length c' l') :
    Calls Tryz.prog 89 #[.agg #[.int .i64 s, .int .i64 q, .int .i64 h, .int .i64 sq, .int .i64 wk, .int .i64 ep, .slice a l.length c, .bool en], .agg #[.int .i64 s', .int .i64 q', .int .i64 h', .int .i64 sq', .int .i64 wk', .int .i64 ep', .slice a' l'.length c', .bool en']] w fun e w' => e = .returned (.bool (MV.same (.reply s q h sq wk ep l en) (.reply s' q' h' sq' wk' ep' l' en'))) ∧ Below w.heap.size w w' := by
  have HR := Lib.hid (fun W (hb : Below w.heap.size w W) => hr.below hb rfl)
  have HR2 := Lib.hid (fun W (hb : Below w.heap.size w W) => hr'.below hb rfl)
  clear hr hr'
  unfold MV.same
  go_enter Tryz.func89, Tryz.ntmps89
  go_wp2_with (go_at_call 75; refine (sameI_any _ _ _ _ _ _ l l' _ (HR.out _ (by repeat (first | exact Below.refl _ _ | refine Below.alloc ?_ (by first | (simp; done) | (simp; omega)) _))) (HR2.out _ (by repeat (first | exact Below.refl _ _ | refine Below.alloc ?_ (by first | (simp; done) | (simp; omega)) _)))).mono ?_; rintro e w' ⟨rfl, hd⟩; have HD := Lib.hid (hd.below w.heap.size); clear hd)
  all_goals
    go_ret
    refine ⟨by simp [*], ?_⟩
    first
      | exact Below.trans (by repeat (first | exact Below.refl _ _ | refine Below.alloc ?_ (by first | (simp; done) | (simp; omega)) _)) HD.out
      | exact (by repeat (first | exact Below.refl _ _ | refine Below.alloc ?_ (by first | (simp; done) | (simp; omega)) _))
set_option maxRecDepth 100000 in
set_option maxHeartbeats 4000000 in
theorem same_reply (s q h sq wk ep : Int) (l : List KeyL) (en : Bool) (a : Option Addr) (c : Nat) (s' q' h' sq' wk' ep' : Int) (l' : List KeyL) (en' : Bool) (a' : Option Addr) (c' : Nat) (w : World) (hr : RdE KeyL.cells 2 w a l.length c l) (hr' : RdE KeyL.cells 2 w a' l'.length c' l') :
    Calls Tryz.prog 39 #[.iface 65 (.agg #[.int .i64 s, .int .i64 q, .int .i64 h, .int .i64 sq, .int .i64 wk, .int .i64 ep, .slice a l.length c, .bool en]), .iface 65 (.agg #[.int .i64 s', .int .i64 q', .int .i64 h', .int .i64 sq', .int .i64 wk', .int .i64 ep', .slice a' l'.length c', .bool en'])] w fun e w' => e = .returned (.bool (MV.same (.reply s q h sq wk ep l en) (.reply s' q' h' sq' wk' ep' l' en'))) ∧ Below w.heap.size w w' := by
  have HR := Lib.hid (fun W (hb : Below w.heap.size w W) => hr.below hb rfl)
  have HR2 := Lib.hid (fun W (hb : Below w.heap.size w W) => hr'.below hb rfl)
  clear hr hr'
  go_enter Tryz.func39, Tryz.ntmps39
  go_wp2_with (first | rw [ta_hello_reply] | rw [ta_grant_reply] | rw [ta_ask_reply] | rw [ta_reply_reply] | rw [ta_stop_reply] | (go_at_call 89; refine (samereply_any s q h sq wk ep l en a c s' q' h' sq' wk' ep' l' en' a' c' _ (HR.out _ (by repeat (first | exact Below.refl _ _ | refine Below.alloc ?_ (by first | (simp; done) | (simp; omega)) _))) (HR2.out _ (by repeat (first | exact Below.refl _ _ | refine Below.alloc ?_ (by first | (simp; done) | (simp; omega)) _)))).mono ?_; rintro e w' ⟨rfl, hd⟩; have HD := Lib.hid (hd.mono (show w.heap.size ≤ _ from by first | (simp; done) | (simp; omega))); clear hd))
  go_ret
  exact ⟨rfl, Below.trans (by repeat (first | exact Below.refl _ _ | refine Below.alloc ?_ (by first | (simp; done) | (simp; omega)) _)) HD.out⟩
set_option maxRecDepth 100000 in
theorem msame_any (m m' : MV) (u u' : Value) (w : World) (h : m.At w u) (h' : m'.At w u') :
    Calls Tryz.prog 39 #[u, u'] w fun e w' => e = .returned (.bool (m.same m')) ∧ Below w.heap.size w w' := by
  cases m with
  | hello w00 l00 =>
    obtain rfl := h
    cases hk : m'.is_hello
    · have e : MV.same (.hello w00 l00) m' = false := by cases m' <;> first | rfl | simp [MV.is_hello] at hk
      rw [e]
      exact same_hello_no w00 l00 m' u' w h' hk
    · cases m' with
      | hello w01 l01 => obtain rfl := h'; exact same_hello w00 l00 w01 l01 w
      | _ => simp [MV.is_hello] at hk
  | grant w00 l00 e00 =>
    obtain rfl := h
    cases hk : m'.is_grant
    · have e : MV.same (.grant w00 l00 e00) m' = false := by cases m' <;> first | rfl | simp [MV.is_grant] at hk
      rw [e]
      exact same_grant_no w00 l00 e00 m' u' w h' hk
    · cases m' with
      | grant w01 l01 e01 => obtain rfl := h'; exact same_grant w00 l00 e00 w01 l01 e01 w
      | _ => simp [MV.is_grant] at hk
  | ask s0 q0 h0 sq0 ep0 tx0 k0 b0 f0 d0 wd0 =>
    obtain rfl := h
    cases hk : m'.is_ask
    · have e : MV.same (.ask s0 q0 h0 sq0 ep0 tx0 k0 b0 f0 d0 wd0) m' = false := by cases m' <;> first | rfl | simp [MV.is_ask] at hk
      rw [e]
      exact same_ask_no s0 q0 h0 sq0 ep0 tx0 k0 b0 f0 d0 wd0 m' u' w h' hk
    · cases m' with
      | ask s1 q1 h1 sq1 ep1 tx1 k1 b1 f1 d1 wd1 => obtain rfl := h'; exact same_ask s0 q0 h0 sq0 ep0 tx0 k0 b0 f0 d0 wd0 s1 q1 h1 sq1 ep1 tx1 k1 b1 f1 d1 wd1 w
      | _ => simp [MV.is_ask] at hk
  | reply s0 q0 h0 sq0 wk0 ep0 l0 en0 =>
    obtain ⟨a, c, rfl, hr⟩ := h
    cases hk : m'.is_reply
    · have e : MV.same (.reply s0 q0 h0 sq0 wk0 ep0 l0 en0) m' = false := by cases m' <;> first | rfl | simp [MV.is_reply] at hk
      rw [e]
      exact same_reply_no s0 q0 h0 sq0 wk0 ep0 l0 en0 a c m' u' w h' hk
    · cases m' with
      | reply s1 q1 h1 sq1 wk1 ep1 l1 en1 => obtain ⟨a', c', rfl, hr'⟩ := h'; exact same_reply s0 q0 h0 sq0 wk0 ep0 l0 en0 a c s1 q1 h1 sq1 wk1 ep1 l1 en1 a' c' w hr hr'
      | _ => simp [MV.is_reply] at hk
  | stop s0 q0 =>
    obtain rfl := h
    cases hk : m'.is_stop
    · have e : MV.same (.stop s0 q0) m' = false := by cases m' <;> first | rfl | simp [MV.is_stop] at hk
      rw [e]
      exact same_stop_no s0 q0 m' u' w h' hk
    · cases m' with
      | stop s1 q1 => obtain rfl := h'; exact same_stop s0 q0 s1 q1 w
      | _ => simp [MV.is_stop] at hk
  | other t v => obtain ⟨rfl, h1, h2, h3, h4, h5⟩ := h; exact same_other t v u' w h1 h2 h3 h4 h5
  | nil => obtain rfl := h; exact same_nil m' u' w
end
end Go.Proofs.YtinkbgeckjbnbaaGreat
namespace Go.Proofs.YtinkbgeckjbnbaaGreat
section
open Go.RowKit
set_option linter.unusedVariables false
set_option linter.unusedSimpArgs false

set_option maxRecDepth 100000 in
theorem HeE.shift {O O1 : Own} {A : CA} {p : Nat} {S : CS} {v life : Int} {w W w' : World} {e : Ending} (hb : Below w.heap.size w W) (ha : AgO w.heap.size O O1) (h : HeE O1 A p S v life W e w') : HeE O A p S v life w e w' := by
  obtain ⟨u, O', he, hc, hl, ha', hf⟩ := h
  exact ⟨u, O', he, hc, hl.base hb.size, fun b hb' => (ha' b (Nat.lt_of_lt_of_le hb' hb.size)).trans (ha b hb'), COut.trans (COut.below hb) hf ha⟩
set_option maxRecDepth 100000 in
theorem ReE.shift {O O1 : Own} {A : CA} {p : Nat} {R : CS × List LV} {w W w' : World} {e : Ending} (hb : Below w.heap.size w W) (ha : AgO w.heap.size O O1) (h : ReE O1 A p R W e w') : ReE O A p R w e w' := by
  obtain ⟨u, O', A', he, hc, hcp, hl, ha', hf⟩ := h
  exact ⟨u, O', A', he, hc, hcp, hl.base hb.size, fun b hb' => (ha' b (Nat.lt_of_lt_of_le hb' hb.size)).trans (ha b hb'), COut.trans (COut.below hb) hf ha⟩
set_option maxRecDepth 100000 in
set_option maxHeartbeats 4000000 in
theorem ctake_hello (O : Own) (A : CA) (p : Nat) (S : CS) (v life : Int) (w : World) (h : CW w O A p S) (ho : S.t.ok) :
    Calls Tryz.prog 16 #[.pointer (some ⟨p, 0, none⟩), .iface 36 (.agg #[.int .i64 v, .int .i64 life])] w (HeE O A p S v life w) := by
  obtain ⟨W, hW⟩ : ∃ W, w.alloc (.cells #[.int .i64 v, .int .i64 life] 36) = W := ⟨_, rfl⟩
  have hbl : Below w.heap.size w W := by rw [← hW]; exact (Below.refl _ w).alloc (Nat.le_refl _) _
  have k0 : W.cell? ⟨w.heap.size, 0, none⟩ = some (.int .i64 v) := by rw [← hW]; exact (show Blk _ w.heap.size 36 [.int .i64 v, .int .i64 life] from heap_alloc_new w _).cell 0
  have k1 : W.cell? ⟨w.heap.size, 1, none⟩ = some (.int .i64 life) := by rw [← hW]; exact (show Blk _ w.heap.size 36 [.int .i64 v, .int .i64 life] from heap_alloc_new w _).cell 1
  have HHE := Lib.hid (chello_any O A p S v life W (h.below hbl (AgO.refl _ _)) ho)
  have HB := Lib.hid hbl
  have hqc := fun V => cptr_ne p 0 V
  clear h ho hbl
  go_enter Tryz.func16, Tryz.ntmps16
  go_wp2_with (first | rw [ta_hello_hello] | rw [hW])
  clear hW k0 k1
  refine HHE.out.mono ?_
  rintro e w2 hh
  have HH := Lib.hid (HeE.shift HB.out (AgO.refl _ O) hh)
  obtain ⟨u, O', rfl, -⟩ := hh
  go_wp2_with fail
  go_ret
  exact HH.out
end
end Go.Proofs.YtinkbgeckjbnbaaGreat
namespace Go.Proofs.YtinkbgeckjbnbaaGreat
section
open Go.RowKit
set_option linter.unusedVariables false

/-- a message that lies nowhere -/
def MV.flat : MV → Bool
  | .hello .. => true
  | .grant .. => true
  | .ask .. => true
  | .stop .. => true
  | _ => false
set_option maxRecDepth 100000 in
theorem MV.flat_at {m : MV} (h : m.flat = true) (w : World) : m.At w m.val := by cases m <;> first | rfl | cases h
def eqLs : List LV → List LV → Bool
  | [], [] => true
  | x :: a, y :: b => decide (x.1 = y.1) && x.2.same y.2 && eqLs a b
  | _, _ => false
set_option maxRecDepth 100000 in
theorem eqLs_len : ∀ {l l' : List LV}, eqLs l l' = true → l.length = l'.length
  | [], [], _ => rfl
  | [], _ :: _, h => by cases h
  | _ :: _, [], h => by cases h
  | x :: a, y :: b, h => by
    unfold eqLs at h
    rw [Bool.and_eq_true] at h
    simp [eqLs_len h.2]
set_option maxRecDepth 100000 in
theorem eqLs_at {l l' : List LV} {i : Nat} {x y : LV} (hx : l[i]? = some x) (hy : l'[i]? = some y) (h : (decide (x.1 = y.1) && x.2.same y.2) = false) : eqLs l l' = false := by
  induction l generalizing l' i with
  | nil => simp at hx
  | cons u a ih =>
    cases l' with
    | nil => simp at hy
    | cons v b =>
      unfold eqLs
      cases i with
      | zero => simp only [List.getElem?_cons_zero, Option.some.injEq] at hx hy; subst hx hy; rw [h]; rfl
      | succ i => rw [ih (by simpa using hx) (by simpa using hy), Bool.and_false]
set_option maxRecDepth 100000 in
theorem eqLs_all {l l' : List LV} (hn : l.length = l'.length) (h : ∀ (i : Nat) (x y : LV), l[i]? = some x → l'[i]? = some y → (decide (x.1 = y.1) && x.2.same y.2) = true) : eqLs l l' = true := by
  induction l generalizing l' with
  | nil => cases l' with
    | nil => rfl
    | cons _ _ => simp at hn
  | cons u a ih =>
    cases l' with
    | nil => simp at hn
    | cons v b =>
      unfold eqLs
      rw [h 0 u v (by simp) (by simp), ih (by simpa using hn) (fun i x y hx hy => h (i + 1) x y (by simpa using hx) (by simpa using hy))]
      rfl
def SlR (w : World) (l l' : List LV) (v : Value) (wr : World) : Prop := ∃ k : Nat, k ≤ l.length ∧ v = .int .i64 k ∧ RowKit.Hid (∀ (i : Nat) (x y : LV), i < k → l[i]? = some x → l'[i]? = some y → (decide (x.1 = y.1) && x.2.same y.2) = true) ∧ RowKit.Hid (Below w.heap.size w wr)
set_option linter.unusedSimpArgs false in
set_option maxRecDepth 100000 in
set_option maxHeartbeats 4000000 in
theorem sameletters_any (a a' : Option Addr) (c c' : Nat) (l l' : List LV) (w : World) (hr : RdE LV.cells 2 w a l.length c l) (hr' : RdE LV.cells 2 w a' l'.length c' l') (hl : ∀ x ∈ l, x.2.flat = true) (hl' : ∀ x ∈ l', x.2.flat = true) :
    Calls Tryz.prog 42 #[.slice a l.length c, .slice a' l'.length c'] w fun e w' => e = .returned (.bool (eqLs l l')) ∧ Below w.heap.size w w' := by
  obtain ⟨R, hR⟩ : ∃ R, eqLs l l' = R := ⟨_, rfl⟩
  rw [hR]
  have HR := Lib.hid hR
  have HA := Lib.hid hr
  have HA' := Lib.hid hr'
  have HL := Lib.hid hl
  have HL' := Lib.hid hl'
  have hb1 := hr.2.1
  have hb2 := hr.2.2.1
  unfold maxLen at hb2
  clear hr hr' hl hl' hR
  by_cases hn : l.length = l'.length
  · have HN := Lib.hid hn
    rw [← hn]
    clear hn
    obtain ⟨n, hn⟩ : ∃ n, l.length = n := ⟨_, rfl⟩
    have HNN := Lib.hid hn
    rw [hn] at hb1 ⊢
    clear hn
    go_enter Tryz.func42, Tryz.ntmps42
    go_wp2_with fail
    go_loopw [5] (fun v wr => SlR w l l' v wr) (fun v _ => n - (intOf v).toNat)
    case atStart => exact ⟨0, Nat.zero_le _, rfl, (fun i x y h => by omega), Below.refl _ _⟩
    case round =>
      obtain ⟨k, hk, rfl, HJ, HB⟩ := hrel
      rw [HNN.out] at hk
      by_cases hlt : k < n
      · obtain ⟨x, hx⟩ : ∃ x, l[k]? = some x := ⟨l[k]'(by rw [HNN.out]; exact hlt), List.getElem?_eq_getElem _⟩
        obtain ⟨y, hy⟩ : ∃ x, l'[k]? = some x := ⟨l'[k]'(by rw [← HN.out, HNN.out]; exact hlt), List.getElem?_eq_getElem _⟩
        obtain ⟨b1, o1, rfl, hl1, hc1⟩ := (HA.out.below HB.out rfl).2.2.2.2 k x hx
        obtain ⟨b2, o2, rfl, hl2, hc2⟩ := (HA'.out.below HB.out rfl).2.2.2.2 k y hy
        have u0 : wr.drew.cell? ⟨b1, o1 + k * 2, none⟩ = some (.int .i64 x.1) := hc1 0 (by decide)
        have u1 : wr.drew.cell? ⟨b1, o1 + k * 2 + 1, none⟩ = some x.2.val := hc1 1 (by decide)
        have v0 : wr.drew.cell? ⟨b2, o2 + k * 2, none⟩ = some (.int .i64 y.1) := hc2 0 (by decide)
        have v1 : wr.drew.cell? ⟨b2, o2 + k * 2 + 1, none⟩ = some y.2.val := hc2 1 (by decide)
        have HH := Lib.hid (And.intro u0 (And.intro u1 (And.intro v0 v1)))
        have HX := Lib.hid hx
        have HY := Lib.hid hy
        have HSM := Lib.hid (msame_any x.2 y.2 x.2.val y.2.val wr.drew (MV.flat_at (HL.out x (List.mem_of_getElem? hx)) _) (MV.flat_at (HL'.out y (List.mem_of_getElem? hy)) _))
        obtain ⟨xv, hxv⟩ : ∃ u, x.2.val = u := ⟨_, rfl⟩
        obtain ⟨yv, hyv⟩ : ∃ u, y.2.val = u := ⟨_, rfl⟩
        rw [hxv, hyv] at HSM HH
        obtain ⟨sm, hsm⟩ : ∃ s, x.2.same y.2 = s := ⟨_, rfl⟩
        rw [hsm] at HSM
        have HS := Lib.hid hsm
        obtain ⟨x1, hx1⟩ : ∃ u, x.1 = u := ⟨_, rfl⟩
        obtain ⟨y1, hy1⟩ : ∃ u, y.1 = u := ⟨_, rfl⟩
        rw [hx1, hy1] at HH
        have HX1 := Lib.hid hx1
        have HY1 := Lib.hid hy1
        have e1 : (k : Int) < (n : Int) := by omega
        have e2 : (0 : Int) ≤ (k : Int) := by omega
        clear hx hy hc1 hc2 u0 u1 v0 v1 hxv hyv hsm hx1 hy1 hl1 hl2
        go_upto_region 6 with fail
        by_cases ht : x1 = y1
        · subst ht
          refine wp_region_held_drew (S := (fun w' => w'.cell? ⟨b1, o1 + k * 2, none⟩ = some (.int .i64 x1) ∧ w'.cell? ⟨b1, o1 + k * 2 + 1, none⟩ = some xv ∧ w'.cell? ⟨b2, o2 + k * 2, none⟩ = some (.int .i64 x1) ∧ w'.cell? ⟨b2, o2 + k * 2 + 1, none⟩ = some yv)) (by kernel_rfl) (by first | exact HH.out | exact HH1.out) (fun hHeld => ?_)
          refine takeO 0 (some 17) (v := ?_) rfl rfl (by kernel_rfl) (by kernel_rfl) (by kernel_rfl) (fun _ _ _ h => h) (Or.inl ⟨by rfl, ?_⟩) (by assumption) ?_
          rotate_left 1
          · intro w hSw; (try dsimp only at hSw); go_simp; all_goals with_reducible rfl
          try simp only [Act.put, List.setIfInBounds_toArray, List.set_cons_zero, List.set_cons_succ]
          refine takeO 1 (some 18) (v := ?_) rfl rfl (by kernel_rfl) (by kernel_rfl) (by kernel_rfl) (fun _ _ _ h => h) (Or.inl ⟨by rfl, ?_⟩) (by assumption) ?_
          rotate_left 1
          · intro w hSw; (try dsimp only at hSw); go_simp; all_goals with_reducible rfl
          try simp only [Act.put, List.setIfInBounds_toArray, List.set_cons_zero, List.set_cons_succ]
          refine takeO 2 (some 19) (v := ?_) rfl rfl (by kernel_rfl) (by kernel_rfl) (by kernel_rfl) (fun _ _ _ h => h) (Or.inl ⟨by rfl, ?_⟩) (by assumption) ?_
          rotate_left 1
          · intro w hSw; (try dsimp only at hSw); go_simp; all_goals with_reducible rfl
          try simp only [Act.put, List.setIfInBounds_toArray, List.set_cons_zero, List.set_cons_succ]
          refine takeO 3 (some 20) (v := ?_) rfl rfl (by kernel_rfl) (by kernel_rfl) (by kernel_rfl) (fun _ _ _ h => h) (Or.inl ⟨by rfl, ?_⟩) (by assumption) ?_
          rotate_left 1
          · intro w hSw; (try dsimp only at hSw); go_simp; all_goals with_reducible rfl
          try simp only [Act.put, List.setIfInBounds_toArray, List.set_cons_zero, List.set_cons_succ]
          refine takeO 4 (some 21) (v := ?_) rfl rfl (by kernel_rfl) (by kernel_rfl) (by kernel_rfl) (fun _ _ _ h => h) (Or.inl ⟨by rfl, ?_⟩) (by assumption) ?_
          rotate_left 1
          · intro w hSw; (try dsimp only at hSw); go_simp; all_goals with_reducible rfl
          try simp only [Act.put, List.setIfInBounds_toArray, List.set_cons_zero, List.set_cons_succ]
          refine takeO 5 (some 22) (v := ?_) rfl rfl (by kernel_rfl) (by kernel_rfl) (by kernel_rfl) (fun _ _ _ h => h) (Or.inl ⟨by rfl, ?_⟩) (by assumption) ?_
          rotate_left 1
          · intro w hSw; (try dsimp only at hSw); go_simp; all_goals with_reducible rfl
          try simp only [Act.put, List.setIfInBounds_toArray, List.set_cons_zero, List.set_cons_succ]
          refine takeO 6 (some 23) (v := ?_) rfl rfl (by kernel_rfl) (by kernel_rfl) (by kernel_rfl) (fun _ _ _ h => h) (Or.inl ⟨by rfl, ?_⟩) (by assumption) ?_
          rotate_left 1
          · intro w hSw; (try dsimp only at hSw); go_simp; all_goals with_reducible rfl
          try simp only [Act.put, List.setIfInBounds_toArray, List.set_cons_zero, List.set_cons_succ]
          refine takeO 7 (some 24) (v := ?_) rfl rfl (by kernel_rfl) (by kernel_rfl) (by kernel_rfl) (fun _ _ _ h => h) (Or.inl ⟨by rfl, ?_⟩) (by assumption) ?_
          rotate_left 1
          · intro w hSw; (try dsimp only at hSw); go_simp; all_goals with_reducible rfl
          try simp only [Act.put, List.setIfInBounds_toArray, List.set_cons_zero, List.set_cons_succ]
          refine takeO 8 (some 25) (v := ?_) rfl rfl (by kernel_rfl) (by kernel_rfl) (by kernel_rfl) (fun _ _ _ h => h) (Or.inl ⟨by rfl, ?_⟩) (by assumption) ?_
          rotate_left 1
          · intro w hSw; (try dsimp only at hSw); go_simp; all_goals with_reducible rfl
          try simp only [Act.put, List.setIfInBounds_toArray, List.set_cons_zero, List.set_cons_succ]
          refine takeO 9 (some 26) (v := ?_) rfl rfl (by kernel_rfl) (by kernel_rfl) (by kernel_rfl) (fun _ _ _ h => h) (Or.inl ⟨by rfl, ?_⟩) (by assumption) ?_
          rotate_left 1
          · intro w hSw; (try dsimp only at hSw); go_simp; all_goals with_reducible rfl
          try simp only [Act.put, List.setIfInBounds_toArray, List.set_cons_zero, List.set_cons_succ]
          refine takeO 10 (some 27) (v := ?_) rfl rfl (by kernel_rfl) (by kernel_rfl) (by kernel_rfl) (fun _ _ _ h => h) (Or.inl ⟨by rfl, ?_⟩) (by assumption) ?_
          rotate_left 1
          · intro w hSw; (try dsimp only at hSw); go_simp; all_goals with_reducible rfl
          try simp only [Act.put, List.setIfInBounds_toArray, List.set_cons_zero, List.set_cons_succ]
          refine takeO 11 (some 28) (v := ?_) rfl rfl (by kernel_rfl) (by kernel_rfl) (by kernel_rfl) (fun _ _ _ h => h) (Or.inl ⟨by rfl, ?_⟩) (by assumption) ?_
          rotate_left 1
          · intro w hSw; (try dsimp only at hSw); go_simp; all_goals with_reducible rfl
          try simp only [Act.put, List.setIfInBounds_toArray, List.set_cons_zero, List.set_cons_succ]
          refine takeO 12 (some 29) (v := ?_) rfl rfl (by kernel_rfl) (by kernel_rfl) (by kernel_rfl) (fun _ _ _ h => h) (Or.inl ⟨by rfl, ?_⟩) (by assumption) ?_
          rotate_left 1
          · intro w hSw; (try dsimp only at hSw); go_simp; all_goals with_reducible rfl
          try simp only [Act.put, List.setIfInBounds_toArray, List.set_cons_zero, List.set_cons_succ]
          refine takeO 13 (some 30) (v := ?_) rfl rfl (by kernel_rfl) (by kernel_rfl) (by kernel_rfl) (fun _ _ _ h => h) (Or.inl ⟨by rfl, ?_⟩) (by assumption) ?_
          rotate_left 1
          · intro w hSw; (try dsimp only at hSw); go_simp; all_goals with_reducible rfl
          try simp only [Act.put, List.setIfInBounds_toArray, List.set_cons_zero, List.set_cons_succ]
          refine takeO 14 (some 31) (v := ?_) rfl rfl (by kernel_rfl) (by kernel_rfl) (by kernel_rfl) (fun _ _ _ h => h) (Or.inl ⟨by rfl, ?_⟩) (by assumption) ?_
          rotate_left 1
          · intro w hSw; (try dsimp only at hSw); go_simp; all_goals with_reducible rfl
          try simp only [Act.put, List.setIfInBounds_toArray, List.set_cons_zero, List.set_cons_succ]
          refine takeO 15 (some 32) (v := ?_) rfl rfl (by kernel_rfl) (by kernel_rfl) (by kernel_rfl) (fun _ _ _ h => h) (Or.inl ⟨by rfl, ?_⟩) (by assumption) ?_
          rotate_left 1
          · intro w hSw; (try dsimp only at hSw); go_simp; all_goals with_reducible rfl
          try simp only [Act.put, List.setIfInBounds_toArray, List.set_cons_zero, List.set_cons_succ]
          refine takeO 16 (some 33) (v := ?_) rfl rfl (by kernel_rfl) (by kernel_rfl) (by kernel_rfl) (fun _ _ _ h => h) (Or.inl ⟨by rfl, ?_⟩) (by assumption) ?_
          rotate_left 1
          · intro w hSw; (try dsimp only at hSw); go_simp; all_goals with_reducible rfl
          try simp only [Act.put, List.setIfInBounds_toArray, List.set_cons_zero, List.set_cons_succ]
          refine takeO 17 (some 34) (v := ?_) rfl rfl (by kernel_rfl) (by kernel_rfl) (by kernel_rfl) (fun _ _ _ h => h) (Or.inl ⟨by rfl, ?_⟩) (by assumption) ?_
          rotate_left 1
          · intro w hSw; (try dsimp only at hSw); go_simp; all_goals with_reducible rfl
          try simp only [Act.put, List.setIfInBounds_toArray, List.set_cons_zero, List.set_cons_succ]
          refine takeO 18 (some 35) (v := ?_) rfl rfl (by kernel_rfl) (by kernel_rfl) (by kernel_rfl) (fun _ _ _ h => h) (Or.inl ⟨by rfl, ?_⟩) (by assumption) ?_
          rotate_left 1
          · intro w hSw; (try dsimp only at hSw); go_simp; all_goals with_reducible rfl
          try simp only [Act.put, List.setIfInBounds_toArray, List.set_cons_zero, List.set_cons_succ]
          refine takeO 19 (some 36) (v := ?_) rfl rfl (by kernel_rfl) (by kernel_rfl) (by kernel_rfl) (fun _ _ _ h => h) (Or.inl ⟨by rfl, ?_⟩) (by assumption) ?_
          rotate_left 1
          · intro w hSw; (try dsimp only at hSw); go_simp; all_goals with_reducible rfl
          try simp only [Act.put, List.setIfInBounds_toArray, List.set_cons_zero, List.set_cons_succ]
          refine takeO 20 (some 37) (v := ?_) rfl rfl (by kernel_rfl) (by kernel_rfl) (by kernel_rfl) (fun _ _ _ h => h) (Or.inl ⟨by rfl, ?_⟩) (by assumption) ?_
          rotate_left 1
          · intro w hSw; (try dsimp only at hSw); go_simp; all_goals with_reducible rfl
          try simp only [Act.put, List.setIfInBounds_toArray, List.set_cons_zero, List.set_cons_succ]
          refine takeO 21 (some 38) (v := ?_) rfl rfl (by kernel_rfl) (by kernel_rfl) (by kernel_rfl) (fun _ _ _ h => h) (Or.inl ⟨by rfl, ?_⟩) (by assumption) ?_
          rotate_left 1
          · intro w hSw; (try dsimp only at hSw); go_simp; all_goals with_reducible rfl
          try simp only [Act.put, List.setIfInBounds_toArray, List.set_cons_zero, List.set_cons_succ]
          refine wpAnyH_ready (rs := [22]) (by kernel_rfl) (by simp) ?_
          refine AllReadyH.cons rfl (fun K hK => ?_) AllReadyH.nil
          go_simp
          refine HSM.out.mono ?_; rintro e w1 ⟨rfl, hb⟩; clear HSM; have HH1 := Lib.hid (And.intro ((hb.cell (cell?_lt HH.out.1)).trans HH.out.1) (And.intro ((hb.cell (cell?_lt HH.out.2.1)).trans HH.out.2.1) (And.intro ((hb.cell (cell?_lt HH.out.2.2.1)).trans HH.out.2.2.1) ((hb.cell (cell?_lt HH.out.2.2.2)).trans HH.out.2.2.2)))); have HB1 := Lib.hid (HB.out.drew.trans (hb.mono HB.out.size)); clear hb
          go_wp2_with fail
          refine hK.out _ _ (by first | exact HH.out | exact HH1.out) (fun hHeld => ?_)
          clear hK K
          try simp only [Act.put, List.setIfInBounds_toArray, List.set_cons_zero, List.set_cons_succ]
          refine takeO 23 (some 40) (v := ?_) rfl rfl (by kernel_rfl) (by kernel_rfl) (by kernel_rfl) (fun _ _ _ h => h) (Or.inl ⟨by rfl, ?_⟩) (by assumption) ?_
          rotate_left 1
          · intro w hSw; (try dsimp only at hSw); go_simp; all_goals with_reducible rfl
          try simp only [Act.put, List.setIfInBounds_toArray, List.set_cons_zero, List.set_cons_succ]
          refine takeO 24 (some 41) (v := ?_) rfl rfl (by kernel_rfl) (by kernel_rfl) (by kernel_rfl) (fun _ _ _ h => h) (Or.inl ⟨by rfl, ?_⟩) (by assumption) ?_
          rotate_left 1
          · intro w hSw; (try dsimp only at hSw); go_simp; all_goals with_reducible rfl
          try simp only [Act.put, List.setIfInBounds_toArray, List.set_cons_zero, List.set_cons_succ]
          refine wpAnyH_done (by kernel_rfl) ?_ _
          cases sm
          · go_wp2_with fail
            go_ret
            have e : R = false := by rw [← HR.out]; exact eqLs_at HX.out HY.out (by rw [HS.out, Bool.and_false])
            subst e
            exact ⟨rfl, HB1.out⟩
          · go_wp2_with fail
            go_roundw
            case rel => exact ⟨k + 1, by rw [HNN.out]; omega, by go_num, (fun i u v hi hu hv => by
                rcases (by omega : i < k ∨ i = k) with h | h
                · exact HJ.out i u v h hu hv
                · subst h
                  rw [HX.out] at hu; rw [HY.out] at hv; cases hu; cases hv
                  rw [HX1.out, HY1.out, HS.out]; simp), HB1.out⟩
            case measure => simp [intOf]; omega
        · have ht' : (x1 != y1) = true := by simpa using ht
          have HT := Lib.hid ht
          refine wp_region_held_drew (S := (fun w' => w'.cell? ⟨b1, o1 + k * 2, none⟩ = some (.int .i64 x1) ∧ w'.cell? ⟨b1, o1 + k * 2 + 1, none⟩ = some xv ∧ w'.cell? ⟨b2, o2 + k * 2, none⟩ = some (.int .i64 y1) ∧ w'.cell? ⟨b2, o2 + k * 2 + 1, none⟩ = some yv)) (by kernel_rfl) (by exact HH.out) (fun hHeld => ?_)
          refine takeO 0 (some 17) (v := ?_) rfl rfl (by kernel_rfl) (by kernel_rfl) (by kernel_rfl) (fun _ _ _ h => h) (Or.inl ⟨by rfl, ?_⟩) (by assumption) ?_
          rotate_left 1
          · intro w hSw; (try dsimp only at hSw); go_simp; all_goals with_reducible rfl
          try simp only [Act.put, List.setIfInBounds_toArray, List.set_cons_zero, List.set_cons_succ]
          refine takeO 1 (some 18) (v := ?_) rfl rfl (by kernel_rfl) (by kernel_rfl) (by kernel_rfl) (fun _ _ _ h => h) (Or.inl ⟨by rfl, ?_⟩) (by assumption) ?_
          rotate_left 1
          · intro w hSw; (try dsimp only at hSw); go_simp; all_goals with_reducible rfl
          try simp only [Act.put, List.setIfInBounds_toArray, List.set_cons_zero, List.set_cons_succ]
          refine takeO 2 (some 19) (v := ?_) rfl rfl (by kernel_rfl) (by kernel_rfl) (by kernel_rfl) (fun _ _ _ h => h) (Or.inl ⟨by rfl, ?_⟩) (by assumption) ?_
          rotate_left 1
          · intro w hSw; (try dsimp only at hSw); go_simp; all_goals with_reducible rfl
          try simp only [Act.put, List.setIfInBounds_toArray, List.set_cons_zero, List.set_cons_succ]
          refine takeO 3 (some 20) (v := ?_) rfl rfl (by kernel_rfl) (by kernel_rfl) (by kernel_rfl) (fun _ _ _ h => h) (Or.inl ⟨by rfl, ?_⟩) (by assumption) ?_
          rotate_left 1
          · intro w hSw; (try dsimp only at hSw); go_simp; all_goals with_reducible rfl
          try simp only [Act.put, List.setIfInBounds_toArray, List.set_cons_zero, List.set_cons_succ]
          refine takeO 4 (some 21) (v := ?_) rfl rfl (by kernel_rfl) (by kernel_rfl) (by kernel_rfl) (fun _ _ _ h => h) (Or.inl ⟨by rfl, ?_⟩) (by assumption) ?_
          rotate_left 1
          · intro w hSw; (try dsimp only at hSw); go_simp; all_goals with_reducible rfl
          try simp only [Act.put, List.setIfInBounds_toArray, List.set_cons_zero, List.set_cons_succ]
          refine takeO 5 (some 22) (v := ?_) rfl rfl (by kernel_rfl) (by kernel_rfl) (by kernel_rfl) (fun _ _ _ h => h) (Or.inl ⟨by rfl, ?_⟩) (by assumption) ?_
          rotate_left 1
          · intro w hSw; (try dsimp only at hSw); go_simp; all_goals with_reducible rfl
          try simp only [Act.put, List.setIfInBounds_toArray, List.set_cons_zero, List.set_cons_succ]
          refine takeO 6 (some 23) (v := ?_) rfl rfl (by kernel_rfl) (by kernel_rfl) (by kernel_rfl) (fun _ _ _ h => h) (Or.inl ⟨by rfl, ?_⟩) (by assumption) ?_
          rotate_left 1
          · intro w hSw; (try dsimp only at hSw); go_simp; all_goals with_reducible rfl
          try simp only [Act.put, List.setIfInBounds_toArray, List.set_cons_zero, List.set_cons_succ]
          refine takeO 7 (some 24) (v := ?_) rfl rfl (by kernel_rfl) (by kernel_rfl) (by kernel_rfl) (fun _ _ _ h => h) (Or.inl ⟨by rfl, ?_⟩) (by assumption) ?_
          rotate_left 1
          · intro w hSw; (try dsimp only at hSw); go_simp; all_goals with_reducible rfl
          try simp only [Act.put, List.setIfInBounds_toArray, List.set_cons_zero, List.set_cons_succ]
          refine takeO 8 (some 25) (v := ?_) rfl rfl (by kernel_rfl) (by kernel_rfl) (by kernel_rfl) (fun _ _ _ h => h) (Or.inl ⟨by rfl, ?_⟩) (by assumption) ?_
          rotate_left 1
          · intro w hSw; (try dsimp only at hSw); go_simp; all_goals with_reducible rfl
          try simp only [Act.put, List.setIfInBounds_toArray, List.set_cons_zero, List.set_cons_succ]
          refine takeO 9 (some 26) (v := ?_) rfl rfl (by kernel_rfl) (by kernel_rfl) (by kernel_rfl) (fun _ _ _ h => h) (Or.inl ⟨by rfl, ?_⟩) (by assumption) ?_
          rotate_left 1
          · intro w hSw; (try dsimp only at hSw); go_simp; all_goals with_reducible rfl
          try simp only [Act.put, List.setIfInBounds_toArray, List.set_cons_zero, List.set_cons_succ]
          refine takeO 10 (some 27) (v := ?_) rfl rfl (by kernel_rfl) (by kernel_rfl) (by kernel_rfl) (fun _ _ _ h => h) (Or.inl ⟨by rfl, ?_⟩) (by assumption) ?_
          rotate_left 1
          · intro w hSw; (try dsimp only at hSw); go_simp; all_goals with_reducible rfl
          try simp only [Act.put, List.setIfInBounds_toArray, List.set_cons_zero, List.set_cons_succ]
          refine takeO 11 (some 28) (v := ?_) rfl rfl (by kernel_rfl) (by kernel_rfl) (by kernel_rfl) (fun _ _ _ h => h) (Or.inl ⟨by rfl, ?_⟩) (by assumption) ?_
          rotate_left 1
          · intro w hSw; (try dsimp only at hSw); go_simp; all_goals with_reducible rfl
          try simp only [Act.put, List.setIfInBounds_toArray, List.set_cons_zero, List.set_cons_succ]
          refine takeO 12 (some 29) (v := undef) rfl rfl (by kernel_rfl) (by kernel_rfl) (by kernel_rfl) (fun _ _ _ h => h) (Or.inr ⟨by rfl, rfl⟩) (by assumption) ?_
          try simp only [Act.put, List.setIfInBounds_toArray, List.set_cons_zero, List.set_cons_succ]
          refine takeO 13 (some 30) (v := undef) rfl rfl (by kernel_rfl) (by kernel_rfl) (by kernel_rfl) (fun _ _ _ h => h) (Or.inr ⟨by rfl, rfl⟩) (by assumption) ?_
          try simp only [Act.put, List.setIfInBounds_toArray, List.set_cons_zero, List.set_cons_succ]
          refine takeO 14 (some 31) (v := undef) rfl rfl (by kernel_rfl) (by kernel_rfl) (by kernel_rfl) (fun _ _ _ h => h) (Or.inr ⟨by rfl, rfl⟩) (by assumption) ?_
          try simp only [Act.put, List.setIfInBounds_toArray, List.set_cons_zero, List.set_cons_succ]
          refine takeO 15 (some 32) (v := undef) rfl rfl (by kernel_rfl) (by kernel_rfl) (by kernel_rfl) (fun _ _ _ h => h) (Or.inr ⟨by rfl, rfl⟩) (by assumption) ?_
          try simp only [Act.put, List.setIfInBounds_toArray, List.set_cons_zero, List.set_cons_succ]
          refine takeO 16 (some 33) (v := undef) rfl rfl (by kernel_rfl) (by kernel_rfl) (by kernel_rfl) (fun _ _ _ h => h) (Or.inr ⟨by rfl, rfl⟩) (by assumption) ?_
          try simp only [Act.put, List.setIfInBounds_toArray, List.set_cons_zero, List.set_cons_succ]
          refine takeO 17 (some 34) (v := undef) rfl rfl (by kernel_rfl) (by kernel_rfl) (by kernel_rfl) (fun _ _ _ h => h) (Or.inr ⟨by rfl, rfl⟩) (by assumption) ?_
          try simp only [Act.put, List.setIfInBounds_toArray, List.set_cons_zero, List.set_cons_succ]
          refine takeO 18 (some 35) (v := undef) rfl rfl (by kernel_rfl) (by kernel_rfl) (by kernel_rfl) (fun _ _ _ h => h) (Or.inr ⟨by rfl, rfl⟩) (by assumption) ?_
          try simp only [Act.put, List.setIfInBounds_toArray, List.set_cons_zero, List.set_cons_succ]
          refine takeO 19 (some 36) (v := undef) rfl rfl (by kernel_rfl) (by kernel_rfl) (by kernel_rfl) (fun _ _ _ h => h) (Or.inr ⟨by rfl, rfl⟩) (by assumption) ?_
          try simp only [Act.put, List.setIfInBounds_toArray, List.set_cons_zero, List.set_cons_succ]
          refine takeO 20 (some 37) (v := undef) rfl rfl (by kernel_rfl) (by kernel_rfl) (by kernel_rfl) (fun _ _ _ h => h) (Or.inr ⟨by rfl, rfl⟩) (by assumption) ?_
          try simp only [Act.put, List.setIfInBounds_toArray, List.set_cons_zero, List.set_cons_succ]
          refine takeO 21 (some 38) (v := undef) rfl rfl (by kernel_rfl) (by kernel_rfl) (by kernel_rfl) (fun _ _ _ h => h) (Or.inr ⟨by rfl, rfl⟩) (by assumption) ?_
          try simp only [Act.put, List.setIfInBounds_toArray, List.set_cons_zero, List.set_cons_succ]
          refine takeO 22 (some 39) (v := undef) rfl rfl (by kernel_rfl) (by kernel_rfl) (by kernel_rfl) (fun _ _ _ h => h) (Or.inr ⟨by rfl, rfl⟩) (by assumption) ?_
          try simp only [Act.put, List.setIfInBounds_toArray, List.set_cons_zero, List.set_cons_succ]
          refine takeO 23 (some 40) (v := undef) rfl rfl (by kernel_rfl) (by kernel_rfl) (by kernel_rfl) (fun _ _ _ h => h) (Or.inr ⟨by rfl, rfl⟩) (by assumption) ?_
          try simp only [Act.put, List.setIfInBounds_toArray, List.set_cons_zero, List.set_cons_succ]
          refine takeO 24 (some 41) (v := ?_) rfl rfl (by kernel_rfl) (by kernel_rfl) (by kernel_rfl) (fun _ _ _ h => h) (Or.inl ⟨by rfl, ?_⟩) (by assumption) ?_
          rotate_left 1
          · intro w hSw; (try dsimp only at hSw); go_simp; all_goals with_reducible rfl
          try simp only [Act.put, List.setIfInBounds_toArray, List.set_cons_zero, List.set_cons_succ]
          refine wpAnyH_done (by kernel_rfl) ?_ _
          go_wp2_with fail
          go_ret
          have e : R = false := by rw [← HR.out]; exact eqLs_at HX.out HY.out (by rw [HX1.out, HY1.out]; have := HT.out; simp [this])
          subst e
          exact ⟨rfl, HB.out.drew⟩
      · obtain rfl : k = n := by omega
        go_wp2_with fail
        go_ret
        have e : R = true := by rw [← HR.out]; exact eqLs_all HN.out (fun i x y hx hy => HJ.out i x y (by have := (List.getElem?_eq_some_iff.1 hx).1; rw [HNN.out] at this; exact this) hx hy)
        subst e
        exact ⟨rfl, HB.out⟩
  · have hn' : ((l.length : Int) != (l'.length : Int)) = true := by simp; omega
    have HN := Lib.hid hn
    obtain ⟨n, hnn⟩ : ∃ n, l.length = n := ⟨_, rfl⟩
    obtain ⟨n', hnn'⟩ : ∃ n, l'.length = n := ⟨_, rfl⟩
    rw [hnn, hnn'] at hn hn' ⊢
    go_enter Tryz.func42, Tryz.ntmps42
    go_wp2_with fail
    go_ret
    have e : R = false := by rw [← HR.out]; cases e : eqLs l l' with | false => rfl | true => exact absurd (eqLs_len e) HN.out
    subst e
    exact ⟨rfl, Below.refl _ _⟩
end
end Go.Proofs.YtinkbgeckjbnbaaGreat
namespace Go.Proofs.YtinkbgeckjbnbaaGreat
section
open Go.RowKit
set_option linter.unusedVariables false
set_option linter.unusedSimpArgs false

set_option maxRecDepth 100000 in
theorem results_cellC {fn : Func} {p : Tmp} {ty : TypeId} (h : fn.results = #[.cell p ty]) (tmps : Array Value) (P : Program) (w : World) :
    (results fn tmps).run P w = ((asAddr (tmps.getD p undef)).run P w).andThen fun a w₁ => (loadVar ty a).run P w₁ := by
  simp only [results, h]
  simp [Sem.run_bind, Result.andThen]
def wordsA : List ByteArray := [⟨#[97]⟩, ⟨#[97, 98, 99]⟩, ⟨#[98]⟩]
def c24 (a : Nat) : CfgM := ⟨some ⟨a, 0, none⟩, 3, 3, none, 0, 0, wordsA, [], 1, 1, 1, 2, 5, 9, 2, 4, 0, 8⟩
set_option maxRecDepth 100000 in
theorem c24_may (a : Nat) : mayC (c24 a) = true := by
  have h : mayC (c24 a) = mayC (c24 0) := rfl
  rw [h]; decide
set_option maxRecDepth 100000 in
theorem c24_shards (a : Nat) : shardsC (c24 a) = 1 := by rw [shardsC_may (c24_may a)]; rfl
set_option maxRecDepth 100000 in
set_option maxHeartbeats 2000000 in
theorem small24_any (w : World) : Calls Tryz.prog 56 #[] w fun e w' => ∃ a, e = .returned (c24 a).val ∧ CfgOK w' (c24 a) ∧ Below w.heap.size w w' := by
  go_enter Tryz.func56, Tryz.ntmps56
  go_wp2_with fail
  refine bodyPost_ret (v := (c24 (w.heap.size + 1)).val) ?_ rfl ⟨w.heap.size + 1, rfl, ?_, ((Below.refl _ w).alloc (Nat.le_refl _) _).alloc (by simp) _⟩
  · rw [results_cellC rfl]
    go_simp
    rfl
  · obtain ⟨W, hW⟩ : ∃ V, w.alloc (.cells #[.slice (some ⟨w.heap.size + 1, 0, none⟩) 3 3, .slice none 0 0, .int .i64 1, .int .i64 1, .int .i64 1, .int .i64 2, .int .i64 5, .int .i64 9, .int .i64 2, .int .i64 4, .int .i64 0, .int .i64 8] 25) = V := ⟨_, rfl⟩
    have hs : W.heap.size = w.heap.size + 1 := by rw [← hW]; simp
    rw [hW]
    refine ⟨?_, ⟨rfl, Nat.le_refl _, Nat.zero_le _, fun _ => rfl, fun i x hx => absurd hx (by show ¬ ([] : List KeyL)[i]? = some x; simp)⟩, ?_, fun x hx => absurd (show x ∈ ([] : List KeyL) from hx) List.not_mem_nil⟩
    · rw [← hs]
      exact (show Blk (W.alloc (.cells #[.string ⟨#[97]⟩, .string ⟨#[97, 98, 99]⟩, .string ⟨#[98]⟩] 9)) W.heap.size 9 [.string ⟨#[97]⟩, .string ⟨#[97, 98, 99]⟩, .string ⟨#[98]⟩] from heap_alloc_new W _).rd 3 3 (wordsA.map Value.string) rfl (Nat.le_refl _) (by unfold maxLen; decide) (fun i hi => rfl)
    · intro x hx
      have : x.size ≤ 3 := by
        have hx' : x ∈ wordsA := hx
        unfold wordsA at hx'
        simp only [List.mem_cons, List.not_mem_nil, or_false] at hx'
        rcases hx' with rfl | rfl | rfl <;> decide
      unfold maxLen; omega
set_option maxRecDepth 100000 in
theorem LetAt.step {O O' : Own} {w w' : World} {base : Nat} {v : Value} {l : List LV} (h : LetAt O w base v l) (hf : COut O w w') (ha : AgO w.heap.size O O') : LetAt O' w' base v l := by
  obtain ⟨ao, c, h1, h2, h3⟩ := h
  exact ⟨ao, c, h1, ownsRow_frm h2 hf (fun k hk e => by rw [h3 k hk] at e; exact absurd e (by decide)), own_ag h2 ha h3⟩
set_option maxRecDepth 100000 in
theorem LetAt.below {O : Own} {w w' : World} {base : Nat} {v : Value} {l : List LV} (h : LetAt O w base v l) (hb : Below w.heap.size w w') : LetAt O w' base v l := h.step (COut.below hb) (AgO.refl _ _)
set_option maxRecDepth 100000 in
theorem LetAt.rde {O : Own} {w : World} {base : Nat} {v : Value} {l : List LV} (h : LetAt O w base v l) : ∃ ao c, v = .slice ao l.length c ∧ RdE LV.cells 2 w ao l.length c l := by
  obtain ⟨ao, c, h1, h2, h3⟩ := h
  exact ⟨ao, c, h1, ownsRow_rdE (enc := LV.cells) (fun _ => rfl) rfl h2⟩
set_option maxRecDepth 100000 in
/-- what changed is new -/
theorem COut.to_below {O : Own} {w0 w w' : World} (h : COut O w w') (hb : Below w0.heap.size w0 w) (ho : ∀ b, b < w0.heap.size → O b % 8 ≠ 1) : Below w0.heap.size w0 w' :=
  ⟨h.os.trans hb.os, h.tape.trans hb.tape, h.output.trans hb.output, Nat.le_trans hb.size h.size, fun k hk => (h.block k (Nat.lt_of_lt_of_le hk hb.size) (ho k hk)).trans (hb.block k hk)⟩
set_option maxRecDepth 100000 in
theorem new_let (w : World) (x : LV) : RdE LV.cells 2 (w.alloc (.cells #[.int .i64 x.1, x.2.val] 51)) (some ⟨w.heap.size, 0, none⟩) 1 1 [x] :=
  Blk.rdE (sp := []) (enc := LV.cells) (l := [x]) (fun _ => rfl) (show Blk _ w.heap.size 51 _ from heap_alloc_new w _) 1 (Nat.le_refl _) (by unfold maxLen; decide)
def askA : MV := .ask 0 1 0 0 1 ⟨#[97]⟩ 1 2 true 0 ⟨#[]⟩
section
variable (a : Nat) (ac : Option Addr) (cc : Nat)
def s24 : CS := CS.init ((c24 a).own ac cc)
set_option maxRecDepth 100000 in
theorem s24_hello : (s24 a ac cc).helloL 1 1 = [(1, .grant 1 1 1)] := by kernel_rfl
set_option maxRecDepth 100000 in
theorem s24_subV : ((s24 a ac cc).hello 1 1).subV ⟨#[97]⟩ 1 2 = (3, 1) := by kernel_rfl
set_option maxRecDepth 100000 in
theorem s24_subL : ((s24 a ac cc).hello 1 1).subLs ⟨#[97]⟩ 1 2 1 1 = [] := by kernel_rfl
set_option maxRecDepth 100000 in
theorem s24_wakeL : ((((s24 a ac cc).hello 1 1).sub ⟨#[97]⟩ 1 2 1).wake 0).2 = [(1, askA)] := by kernel_rfl
set_option maxRecDepth 100000 in
theorem s24_wakeT : ((((s24 a ac cc).hello 1 1).sub ⟨#[97]⟩ 1 2 1).wake 0).1.tm.length = 1 := by kernel_rfl
end
set_option maxRecDepth 100000 in
theorem s24_ok (a : Nat) (ac : Option Addr) (cc : Nat) : ((s24 a ac cc).hello 1 1).OK 1 3 := hello_ok (init_ok (own_may (c24_may a)) (show (1 : Int) ≤ 5 ∧ (5 : Int) ≤ 1000 by decide) 1 (by decide)) 1 1
set_option maxRecDepth 100000 in
theorem eqL1 : eqLs [(1, .grant 1 1 1)] [(1, .grant 1 1 1)] = true := by kernel_rfl
set_option maxRecDepth 100000 in
theorem eqL2 : eqLs [(1, askA)] [(1, askA)] = true := by kernel_rfl
set_option maxRecDepth 100000 in
set_option maxHeartbeats 8000000 in
theorem awake24_any (w : World) : Calls Tryz.prog 14 #[] w fun e w' => e = .returned (.bool true) ∧ Below w.heap.size w w' := by
  go_enter Tryz.func14, Tryz.ntmps14
  go_wp2_with fail
  refine (small24_any w).mono ?_
  rintro e w1 ⟨a, rfl, hc1, hb1⟩
  have HC1 := Lib.hid hc1
  have HB1 := Lib.hid hb1
  have HNW := Lib.hid (cnew_yes (fun _ => 0) (c24 a) w1 hc1 (c24_may a))
  obtain ⟨cv, hcv⟩ : ∃ v, (c24 a).val = v := ⟨_, rfl⟩
  rw [hcv] at HNW ⊢
  clear hc1 hb1 hcv
  go_wp2_with fail
  refine HNW.out.mono ?_
  clear HNW
  rintro e w2 ⟨p, ac, cc, A, O2, rfl, hcw, hlen, ha, hb2⟩
  rw [c24_shards] at hlen
  have hlen1 : A.cps.length = 1 := by omega
  have HC2 := Lib.hid (show CW w2 O2 A p (s24 a ac cc) from hcw)
  have HLN := Lib.hid hlen1
  have HB2 := Lib.hid (HB1.out.trans (hb2.mono HB1.out.size))
  have HO2 := Lib.hid (show ∀ b, b < w.heap.size → O2 b % 8 ≠ 1 from fun b hb => by rw [ha b (Nat.lt_of_lt_of_le hb HB1.out.size)]; show (0 : Nat) % 8 ≠ 1; decide)
  have hqc := fun V => cptr_ne p 0 V
  have HTK := Lib.hid (ctake_hello O2 A p (s24 a ac cc) 1 1 w2 HC2.out (init_ok (own_may (c24_may a)) (show (1 : Int) ≤ 5 ∧ (5 : Int) ≤ 1000 by decide) 1 (b := 3) (by decide)).t)
  clear hcw hlen hlen1 ha hb2
  go_wp2_with fail
  refine HTK.out.mono ?_
  clear HTK
  rintro e w3 ⟨u3, O3, rfl, hc3, hl3, ha3, hf3⟩
  rw [s24_hello] at hl3
  have HC3 := Lib.hid hc3
  have HL3 := Lib.hid hl3
  have HF3 := Lib.hid hf3
  have HA3 := Lib.hid (show AgO w2.heap.size O2 O3 from ha3)
  have hs := csubmit_any O3 A p ((s24 a ac cc).hello 1 1) ⟨#[97]⟩ 1 2 1 w3 HC3.out (by unfold maxLen; decide) (by rw [HLN.out]; decide) (by rw [HLN.out]; decide) rfl (by decide) (by show (0 : Nat) ≤ _; omega) (by show (0 : Nat) ≤ _; omega) (fun x hx => absurd (show x ∈ ([] : List KeyL) from hx) List.not_mem_nil)
  unfold SuE at hs
  rw [s24_subV, HLN.out, s24_subL] at hs
  have HSB := Lib.hid hs
  clear hc3 hl3 hf3 ha3 hs
  go_wp2_with fail
  refine HSB.out.mono ?_
  clear HSB
  rintro e w4 ⟨u4, O4, A4, rfl, hc4, hcp4, hl4, ha4, hf4⟩
  have HC4 := Lib.hid hc4
  have HL34 := Lib.hid (HL3.out.step hf4 ha4)
  have HF4 := Lib.hid (COut.trans HF3.out hf4 HA3.out)
  have HA4 := Lib.hid (show AgO w2.heap.size O2 O4 from HA3.out.trans ha4 HF3.out.size)
  have hok4 := sub_ok (s24_ok a ac cc) (by decide) ⟨#[97]⟩ 1 2
  have HWK := Lib.hid (cwake_any O4 A4 p _ 0 4 1 w4 HC4.out (by rw [hcp4, HLN.out]; exact hok4) (by decide) (by decide) (by rw [hcp4, HLN.out]; decide) (by show (1 : Int) ≤ 1; decide) (by show (1 : Int) ≤ 3; decide) (by show (1 : Int) = _; rfl) (by decide))
  clear hc4 hcp4 hl4 ha4 hf4 hok4 HL3 HF3 HA3 HC3
  go_wp2_with fail
  refine HWK.out.mono ?_
  clear HWK
  rintro e w5 ⟨u5, O5, rfl, hc5, hl5, ha5, hf5⟩
  rw [s24_wakeL] at hl5
  have HT := Lib.hid (s24_wakeT a ac cc)
  obtain ⟨S5, hS5⟩ : ∃ S, ((((s24 a ac cc).hello 1 1).sub ⟨#[97]⟩ 1 2 1).wake 0).1 = S := ⟨_, rfl⟩
  rw [hS5] at hc5 HT
  have HC5 := Lib.hid hc5
  have HL35 := Lib.hid (HL34.out.step hf5 ha5)
  have HL5 := Lib.hid hl5
  have HF5 := Lib.hid (COut.trans HF4.out hf5 HA4.out)
  have HA5 := Lib.hid (show AgO w2.heap.size O2 O5 from HA4.out.trans ha5 HF4.out.size)
  clear hS5 hc5 hl5 ha5 hf5 HC4 HL34 HF4 HA4
  obtain ⟨ao3, c3, hu3, hr3⟩ := HL35.out.rde
  obtain ⟨ao5, c5, hu5, hr5⟩ := HL5.out.rde
  subst hu3 hu5
  have HR3 := Lib.hid hr3
  have HR5 := Lib.hid hr5
  clear hr3 hr5 HL35 HL5
  obtain ⟨W6, hW6⟩ : ∃ W, w5.alloc (.cells #[.int .i64 0, .int .i64 1, .int .i64 0, .int .i64 0, .int .i64 1, .string ⟨#[97]⟩, .int .i64 1, .int .i64 2, .bool true, .int .i64 0, .string ⟨#[]⟩] 48) = W := ⟨_, rfl⟩
  obtain ⟨W7, hW7⟩ : ∃ W, W6.alloc (.cells #[.int .i64 1, .iface 99 (.agg #[.int .i64 1, .int .i64 1, .int .i64 1])] 51) = W := ⟨_, rfl⟩
  have hs6 : W6.heap.size = w5.heap.size + 1 := by rw [← hW6]; simp
  have hb6 : Below w5.heap.size w5 W6 := by rw [← hW6]; exact (Below.refl _ w5).alloc (Nat.le_refl _) _
  have hb7 : Below W6.heap.size W6 W7 := by rw [← hW7]; exact (Below.refl _ W6).alloc (Nat.le_refl _) _
  have hb57 := hb6.trans (hb7.mono hb6.size)
  have HX := Lib.hid ((show Blk W6 w5.heap.size 48 [.int .i64 0, .int .i64 1, .int .i64 0, .int .i64 0, .int .i64 1, .string ⟨#[97]⟩, .int .i64 1, .int .i64 2, .bool true, .int .i64 0, .string ⟨#[]⟩] from by rw [← hW6]; exact heap_alloc_new w5 _).below hb7 (by rw [hs6]; omega))
  have hn7 : RdE LV.cells 2 W7 (some ⟨w5.heap.size + 1, 0, none⟩) 1 1 [(1, .grant 1 1 1)] := by rw [← hW7, ← hs6]; exact new_let W6 (1, .grant 1 1 1)
  have hsl := sameletters_any ao3 (some ⟨w5.heap.size + 1, 0, none⟩) c3 1 [(1, .grant 1 1 1)] [(1, .grant 1 1 1)] W7 (HR3.out.below hb57 rfl) hn7 (by decide) (by decide)
  rw [eqL1] at hsl
  have HSL := Lib.hid hsl
  have HC7 := Lib.hid (HC5.out.below hb57 (AgO.refl _ _))
  have HR7 := Lib.hid (HR5.out.below hb57 rfl)
  have HF7 := Lib.hid (COut.trans HF5.out (COut.below (O := O5) hb57) HA5.out)
  rw [← hW6] at hW7
  clear hs6 hb6 hb7 hb57 hn7 hsl HC5 HR5 HR3 HF5 hW6
  go_wp2_with (rw [hW7])
  clear hW7
  refine HSL.out.mono ?_
  clear HSL
  rintro e w8 ⟨rfl, hb8⟩
  have HX8 := Lib.hid (HX.out.below hb8 HX.out.lt)
  have k0 : w8.cell? ⟨w5.heap.size, 0, none⟩ = some (.int .i64 0) := HX8.out.cell 0
  have k1 : w8.cell? ⟨w5.heap.size, 1, none⟩ = some (.int .i64 1) := HX8.out.cell 1
  have k2 : w8.cell? ⟨w5.heap.size, 2, none⟩ = some (.int .i64 0) := HX8.out.cell 2
  have k3 : w8.cell? ⟨w5.heap.size, 3, none⟩ = some (.int .i64 0) := HX8.out.cell 3
  have k4 : w8.cell? ⟨w5.heap.size, 4, none⟩ = some (.int .i64 1) := HX8.out.cell 4
  have k5 : w8.cell? ⟨w5.heap.size, 5, none⟩ = some (.string ⟨#[97]⟩) := HX8.out.cell 5
  have k6 : w8.cell? ⟨w5.heap.size, 6, none⟩ = some (.int .i64 1) := HX8.out.cell 6
  have k7 : w8.cell? ⟨w5.heap.size, 7, none⟩ = some (.int .i64 2) := HX8.out.cell 7
  have k8 : w8.cell? ⟨w5.heap.size, 8, none⟩ = some (.bool true) := HX8.out.cell 8
  have k9 : w8.cell? ⟨w5.heap.size, 9, none⟩ = some (.int .i64 0) := HX8.out.cell 9
  have k10 : w8.cell? ⟨w5.heap.size, 10, none⟩ = some (.string ⟨#[]⟩) := HX8.out.cell 10
  obtain ⟨W9, hW9⟩ : ∃ W, w8.alloc (.cells #[.int .i64 1, .iface 48 (.agg #[.int .i64 0, .int .i64 1, .int .i64 0, .int .i64 0, .int .i64 1, .string ⟨#[97]⟩, .int .i64 1, .int .i64 2, .bool true, .int .i64 0, .string ⟨#[]⟩])] 51) = W := ⟨_, rfl⟩
  have hb9 : Below w8.heap.size w8 W9 := by rw [← hW9]; exact (Below.refl _ w8).alloc (Nat.le_refl _) _
  have hb79 := hb8.trans (hb9.mono hb8.size)
  have hn9 : RdE LV.cells 2 W9 (some ⟨w8.heap.size, 0, none⟩) 1 1 [(1, askA)] := by rw [← hW9]; exact new_let w8 (1, askA)
  have hsl := sameletters_any ao5 (some ⟨w8.heap.size, 0, none⟩) c5 1 [(1, askA)] [(1, askA)] W9 (HR7.out.below hb79 rfl) hn9 (by decide) (by decide)
  rw [eqL2] at hsl
  have HSL := Lib.hid hsl
  have HC9 := Lib.hid (HC7.out.below hb79 (AgO.refl _ _))
  have HF9 := Lib.hid (COut.trans HF7.out (COut.below (O := O5) hb79) HA5.out)
  clear hb8 hb9 hb79 hn9 hsl HC7 HR7 HF7 HX HX8
  go_wp2_with (rw [hW9])
  clear hW9 k0 k1 k2 k3 k4 k5 k6 k7 k8 k9 k10
  refine HSL.out.mono ?_
  clear HSL
  rintro e w10 ⟨rfl, hb10⟩
  have HC10 := Lib.hid (HC9.out.below hb10 (AgO.refl _ _))
  have HF10 := Lib.hid (COut.trans HF9.out (COut.below (O := O5) hb10) HA5.out)
  have htm := timers_any w10 HC10.out
  rw [HT.out] at htm
  have HTM := Lib.hid htm
  clear hb10 htm HC9 HF9
  go_wp2_with fail
  refine HTM.out.mono ?_
  rintro e w11 ⟨rfl, rfl⟩
  have HB10 := Lib.hid (HF10.out.to_below HB2.out HO2.out)
  go_wp2_with fail
  go_ret
  exact ⟨rfl, HB10.out⟩
end
end Go.Proofs.YtinkbgeckjbnbaaGreat
namespace Go.Proofs.YtinkbgeckjbnbaaGreat
section
open Go.RowKit
set_option linter.unusedVariables false

/-- a coordinator beside boxes: bx tells which blocks, of which type and cells -/
structure FrS (w0 : World) (w : World) (O : Own) (A : CA) (p : Nat) (S : CS) (bx : List (Nat × TypeId × List Value)) : Prop where
  cw : CW w O A p S
  box : ∀ x ∈ bx, Blk w x.1 x.2.1 x.2.2 ∧ O x.1 % 8 ≠ 1
  old : ∀ b, b < w0.heap.size → O b % 8 ≠ 1
  bel : Below w0.heap.size w0 w
section
variable {w0 w w2 : World} {O O2 : Own} {A A2 : CA} {p : Nat} {S S2 : CS} {bx : List (Nat × TypeId × List Value)}
set_option maxRecDepth 100000 in
theorem FrS.step (h : FrS w0 w O A p S bx) (hc : CW w2 O2 A2 p S2) (ha : AgO w.heap.size O O2) (hf : COut O w w2) : FrS w0 w2 O2 A2 p S2 bx :=
  ⟨hc, fun x hx => ⟨(h.box x hx).1.frm hf (h.box x hx).2, by rw [ha _ (h.box x hx).1.lt]; exact (h.box x hx).2⟩, fun b hb => by rw [ha b (Nat.lt_of_lt_of_le hb h.bel.size)]; exact h.old b hb, hf.to_below h.bel h.old⟩
set_option maxRecDepth 100000 in
theorem FrS.below (h : FrS w0 w O A p S bx) (hb : Below w.heap.size w w2) : FrS w0 w2 O A p S bx := h.step (h.cw.below hb (AgO.refl _ _)) (AgO.refl _ _) (COut.below hb)
set_option maxRecDepth 100000 in
/-- a box of one's own is new -/
theorem FrS.alloc (h : FrS w0 w O A p S bx) (e : TypeId) (cs : List Value) : FrS w0 (w.alloc (.cells cs.toArray e)) (O.upd w.heap.size 0) A p S ((w.heap.size, e, cs) :: bx) := by
  have hb : Below w.heap.size w (w.alloc (.cells cs.toArray e)) := (Below.refl _ w).alloc (Nat.le_refl _) _
  have q := h.step (h.cw.below hb (AgO.upd w.heap.size 0 O)) (AgO.upd w.heap.size 0 O) (COut.below hb)
  refine ⟨q.cw, fun x hx => ?_, q.old, q.bel⟩
  rcases List.mem_cons.1 hx with rfl | hx
  · exact ⟨by unfold Blk; exact heap_alloc_new w _, by show (O.upd w.heap.size 0) w.heap.size % 8 ≠ 1; rw [Own.upd_ge (Nat.le_refl _)]; decide⟩
  · exact q.box x hx
set_option maxRecDepth 100000 in
/-- a cell of the first box is another one -/
theorem FrS.set {b : Nat} {e : TypeId} {cs : List Value} (h : FrS w0 w O A p S ((b, e, cs) :: bx)) (hb : w0.heap.size ≤ b) (hne : ∀ x ∈ bx, x.1 ≠ b) (j : Nat) (v : Value) : FrS w0 (w.setCell ⟨b, j, none⟩ v) O A p S ((b, e, cs.set j v) :: bx) := by
  have hf : Frm (fun k => k = b) w (w.setCell ⟨b, j, none⟩ v) := (Frm.refl (fun k => k = b) w).setCell ⟨b, j, none⟩ v (.inl rfl)
  have hbo := (h.box _ (List.mem_cons_self ..)).2
  refine ⟨h.cw.apart hf (AgO.refl _ _) (fun k _ e => by subst e; exact hbo), fun x hx => ?_, h.old, ?_⟩
  · rcases List.mem_cons.1 hx with rfl | hx
    · exact ⟨(h.box _ (List.mem_cons_self ..)).1.set j v, hbo⟩
    · exact ⟨(h.box x (List.mem_cons_of_mem _ hx)).1.frm hf (hne x hx), (h.box x (List.mem_cons_of_mem _ hx)).2⟩
  · exact ⟨hf.os.trans h.bel.os, hf.tape.trans h.bel.tape, hf.output.trans h.bel.output, Nat.le_trans h.bel.size hf.size, fun k hk => (hf.block k (Nat.lt_of_lt_of_le hk h.bel.size) (by show ¬ k = b; omega)).trans (h.bel.block k hk)⟩
set_option maxRecDepth 100000 in
theorem FrS.cell {b : Nat} {e : TypeId} {cs : List Value} (h : FrS w0 w O A p S bx) (hx : (b, e, cs) ∈ bx) (j : Nat) : w.cell? ⟨b, j, none⟩ = cs[j]? := (h.box _ hx).1.cell j
set_option maxRecDepth 100000 in
theorem FrS.fz {b : Nat} {e : TypeId} {cs : List Value} (h : FrS w0 w O A p S bx) (hx : (b, e, cs) ∈ bx) (j : Nat) : w.frozen? ⟨b, j, none⟩ = false := (h.box _ hx).1.frozen j
set_option maxRecDepth 100000 in
theorem FrS.drew (h : FrS w0 w O A p S bx) : FrS w0 w.drew O A p S bx := h.below (below_drewN (Below.refl _ w) 1)
end
/-- a table of six numbers -/
def lastF (l : List Int) (v : Nat) : Int := l.getD v 0
set_option maxRecDepth 100000 in
theorem lastF_set {l : List Int} {w : Nat} (hw : w < l.length) (x : Int) : lastF (l.set w x) = fun v => if v = w then x else lastF l v := by
  funext v
  unfold lastF
  rw [List.getD_eq_getElem?_getD, List.getD_eq_getElem?_getD]
  by_cases e : v = w
  · subst e; rw [if_pos rfl, List.getElem?_set_self hw]; rfl
  · rw [if_neg e, List.getElem?_set_ne (fun h => e h.symm)]
set_option maxRecDepth 100000 in
theorem Heard.cong {S : CS} {f g : Nat → Int} (h : Heard S f) (hfg : ∀ w : Nat, 1 ≤ w → (w : Int) ≤ S.c.wk → g w = f w) : Heard S g :=
  ⟨h.ok, h.wk, h.tm, h.now, fun w h1 h2 => by rw [hfg w h1 h2]; exact h.each w h1 h2⟩
set_option maxRecDepth 100000 in
theorem fresh_hello {S : CS} {sl : Nat} (h : Fresh S sl) (v life : Int) : Fresh (S.hello v life) sl := ⟨h.L, h.told, h.tm⟩
set_option maxRecDepth 100000 in
theorem fresh_tick {S : CS} {sl : Nat} (h : Fresh S sl) : Fresh S.tick sl := ⟨h.L, h.told, h.tm⟩
end
end Go.Proofs.YtinkbgeckjbnbaaGreat
namespace Go.Proofs.YtinkbgeckjbnbaaGreat
section
open Go.RowKit
set_option linter.unusedVariables false
set_option linter.unusedSimpArgs false

set_option maxRecDepth 100000 in
theorem results_cell_tmp {fn : Func} {p t : Tmp} {ty : TypeId} (h : fn.results = #[.cell p ty, .tmp t]) (tmps : Array Value) (P : Program) (w : World) :
    (results fn tmps).run P w = ((asAddr (tmps.getD p undef)).run P w).andThen fun a w₁ => ((loadVar ty a).run P w₁).andThen fun v w₂ => .ok (.tuple #[v, tmps.getD t undef]) w₂ := by
  simp only [results, h]
  simp [Sem.run_bind, Result.andThen]
end
end Go.Proofs.YtinkbgeckjbnbaaGreat
namespace Go.Proofs.YtinkbgeckjbnbaaGreat
section
open Go.RowKit
set_option linter.unusedVariables false
set_option linter.unusedSimpArgs false

set_option maxRecDepth 100000 in
theorem results_cellD {fn : Func} {p : Tmp} {ty : TypeId} (h : fn.results = #[.cell p ty]) (tmps : Array Value) (P : Program) (w : World) :
    (results fn tmps).run P w = ((asAddr (tmps.getD p undef)).run P w).andThen fun a w₁ => (loadVar ty a).run P w₁ := by
  simp only [results, h]
  simp [Sem.run_bind, Result.andThen]
/-- what one was told, sharing nothing -/
def OwE (t : TS) (id : Int) (w : World) (e : Ending) (w' : World) : Prop := ∃ a' c', e = .returned (.agg #[.int .i64 id, .string t.q, .int .i64 t.k, .int .i64 t.n, .slice a' t.items.length c', .bool t.done, .bool t.canc]) ∧ w'.ownsRow w.heap.size 46 2 (.slice a' t.items.length c') t.items.length (t.items.flatMap KeyL.cells) ∧ Below w.heap.size w w'
set_option maxRecDepth 100000 in
set_option maxHeartbeats 4000000 in
theorem own_any (t : TS) (id : Int) (a : Option Addr) (c : Nat) (w : World) (hr : RdE KeyL.cells 2 w a t.items.length c t.items) (hn : t.items.length ≤ 1000) :
    Calls Tryz.prog 72 #[.agg #[.int .i64 id, .string t.q, .int .i64 t.k, .int .i64 t.n, .slice a t.items.length c, .bool t.done, .bool t.canc]] w (OwE t id w) := by
  obtain ⟨W, hW⟩ : ∃ V, w.alloc (.cells #[.int .i64 id, .string t.q, .int .i64 t.k, .int .i64 t.n, .slice a t.items.length c, .bool t.done, .bool t.canc] 58) = V := ⟨_, rfl⟩
  obtain ⟨W2, hW2⟩ : ∃ V, W.alloc (.cells #[.int .i64 0, .string ⟨#[]⟩, .int .i64 0, .int .i64 0, .slice none 0 0, .bool false, .bool false] 58) = V := ⟨_, rfl⟩
  have hs1 : W.heap.size = w.heap.size + 1 := by rw [← hW]; simp
  have hb1 : Below w.heap.size w W := by rw [← hW]; exact (Below.refl _ w).alloc (Nat.le_refl _) _
  have hb2 : Below W.heap.size W W2 := by rw [← hW2]; exact (Below.refl _ W).alloc (Nat.le_refl _) _
  have hbl := hb1.trans (hb2.mono hb1.size)
  have hx := (show Blk W w.heap.size 58 [.int .i64 id, .string t.q, .int .i64 t.k, .int .i64 t.n, .slice a t.items.length c, .bool t.done, .bool t.canc] from by rw [← hW]; exact heap_alloc_new w _).below hb2 (by rw [hs1]; omega)
  have hy : Blk W2 (w.heap.size + 1) 58 [.int .i64 0, .string ⟨#[]⟩, .int .i64 0, .int .i64 0, .slice none 0 0, .bool false, .bool false] := by rw [← hW2, ← hs1]; exact heap_alloc_new W _
  have HCL := Lib.hid (cloneI_any W2 a t.items.length c t.items (hr.below hbl rfl) hn)
  have HX := Lib.hid hx
  have HY := Lib.hid hy
  have HB := Lib.hid hbl
  have x4 : W2.cell? ⟨w.heap.size, 4, none⟩ = some (.slice a t.items.length c) := hx.cell 4
  rw [← hW] at hW2
  have HW2 := Lib.hid hW2
  clear hr hn hb1 hb2 hbl hx hy hs1 hW hW2
  go_enter Tryz.func72, Tryz.ntmps72
  go_wp2_with fail
  rw [HW2.out]
  clear HW2
  skip
  refine HCL.out.mono ?_
  clear HCL x4
  rintro e w3 ⟨a', c', rfl, hown, hb3⟩
  have HX3 := Lib.hid (HX.out.below hb3 HX.out.lt)
  have HY3 := Lib.hid (HY.out.below hb3 HY.out.lt)
  have HB3 := Lib.hid (HB.out.trans (hb3.mono HB.out.size))
  have HO3 := Lib.hid (show w3.ownsRow w.heap.size 46 2 (.slice a' t.items.length c') t.items.length (t.items.flatMap KeyL.cells) from own0 hown HB.out.size)
  have HG3 := Lib.hid (show ∀ q, (Value.slice a' t.items.length c').ownBlock = some q → w.heap.size + 2 ≤ q from fun q hq => by have h1 := own_ge hown q hq; have h2 := HY.out.lt; omega)
  clear hown hb3 HX HY HB
  have c4 : w3.cell? ⟨w.heap.size, 4, none⟩ = some (.slice a t.items.length c) := HX3.out.cell 4
  have fz : ∀ o, w3.frozen? ⟨w.heap.size, o, none⟩ = false := fun o => fz_of (o := o) HX3.out
  obtain ⟨w4, hw4⟩ : ∃ V, w3.setCell ⟨w.heap.size, 4, none⟩ (.slice a' t.items.length c') = V := ⟨_, rfl⟩
  have hx4 : Blk w4 w.heap.size 58 [.int .i64 id, .string t.q, .int .i64 t.k, .int .i64 t.n, .slice a' t.items.length c', .bool t.done, .bool t.canc] := by rw [← hw4]; exact HX3.out.set 4 _
  have hf4 : Frm (fun b => b = w.heap.size) w3 w4 := by rw [← hw4]; exact (Frm.refl (fun b => b = w.heap.size) w3).setCell ⟨w.heap.size, 4, none⟩ _ (.inl rfl)
  have hy4 := HY3.out.frm hf4 (by show ¬ w.heap.size + 1 = w.heap.size; omega)
  have HO4 := Lib.hid (ownsRow_frm HO3.out hf4 (fun q hq e => by have h1 := HG3.out q hq; have h2 : q = w.heap.size := e; omega))
  have HF4 := Lib.hid hf4
  have z0 : w4.cell? ⟨w.heap.size, 0, none⟩ = some (.int .i64 id) := hx4.cell 0
  have z1 : w4.cell? ⟨w.heap.size, 1, none⟩ = some (.string t.q) := hx4.cell 1
  have z2 : w4.cell? ⟨w.heap.size, 2, none⟩ = some (.int .i64 t.k) := hx4.cell 2
  have z3 : w4.cell? ⟨w.heap.size, 3, none⟩ = some (.int .i64 t.n) := hx4.cell 3
  have z4 : w4.cell? ⟨w.heap.size, 4, none⟩ = some (.slice a' t.items.length c') := hx4.cell 4
  have z5 : w4.cell? ⟨w.heap.size, 5, none⟩ = some (.bool t.done) := hx4.cell 5
  have z6 : w4.cell? ⟨w.heap.size, 6, none⟩ = some (.bool t.canc) := hx4.cell 6
  have y0 : w4.cell? ⟨w.heap.size + 1, 0, none⟩ = some (.int .i64 0) := hy4.cell 0
  have y1 : w4.cell? ⟨w.heap.size + 1, 1, none⟩ = some (.string ⟨#[]⟩) := hy4.cell 1
  have y2 : w4.cell? ⟨w.heap.size + 1, 2, none⟩ = some (.int .i64 0) := hy4.cell 2
  have y3 : w4.cell? ⟨w.heap.size + 1, 3, none⟩ = some (.int .i64 0) := hy4.cell 3
  have y4 : w4.cell? ⟨w.heap.size + 1, 4, none⟩ = some (.slice none 0 0) := hy4.cell 4
  have y5 : w4.cell? ⟨w.heap.size + 1, 5, none⟩ = some (.bool false) := hy4.cell 5
  have y6 : w4.cell? ⟨w.heap.size + 1, 6, none⟩ = some (.bool false) := hy4.cell 6
  have fy : ∀ o, w4.frozen? ⟨w.heap.size + 1, o, none⟩ = false := fun o => fz_of (o := o) hy4
  have HY4 := Lib.hid hy4
  clear hx4 hf4 hy4 HX3 HY3 HO3
  go_wp2_with (rw [hw4])
  skip
  clear hw4 c4 fz fy z0 y0 z1 y1 z2 y2 z3 y3 z4 y4 z5 y5 z6 y6
  have hfin : Blk (((((((w4.setCell ⟨w.heap.size + 1, 0, none⟩ (.int .i64 id)).setCell ⟨w.heap.size + 1, 1, none⟩ (.string t.q)).setCell ⟨w.heap.size + 1, 2, none⟩ (.int .i64 t.k)).setCell ⟨w.heap.size + 1, 3, none⟩ (.int .i64 t.n)).setCell ⟨w.heap.size + 1, 4, none⟩ (.slice a' t.items.length c')).setCell ⟨w.heap.size + 1, 5, none⟩ (.bool t.done)).setCell ⟨w.heap.size + 1, 6, none⟩ (.bool t.canc)) (w.heap.size + 1) 58 [.int .i64 id, .string t.q, .int .i64 t.k, .int .i64 t.n, .slice a' t.items.length c', .bool t.done, .bool t.canc] := (((((((HY4.out.set 0 (.int .i64 id)).set 1 (.string t.q)).set 2 (.int .i64 t.k)).set 3 (.int .i64 t.n)).set 4 (.slice a' t.items.length c')).set 5 (.bool t.done)).set 6 (.bool t.canc))
  have hfr : Frm (fun b => b = w.heap.size + 1) w4 (((((((w4.setCell ⟨w.heap.size + 1, 0, none⟩ (.int .i64 id)).setCell ⟨w.heap.size + 1, 1, none⟩ (.string t.q)).setCell ⟨w.heap.size + 1, 2, none⟩ (.int .i64 t.k)).setCell ⟨w.heap.size + 1, 3, none⟩ (.int .i64 t.n)).setCell ⟨w.heap.size + 1, 4, none⟩ (.slice a' t.items.length c')).setCell ⟨w.heap.size + 1, 5, none⟩ (.bool t.done)).setCell ⟨w.heap.size + 1, 6, none⟩ (.bool t.canc)) := ((((((((Frm.refl (fun b => b = w.heap.size + 1) w4).setCell ⟨w.heap.size + 1, 0, none⟩ (.int .i64 id) (.inl rfl)).setCell ⟨w.heap.size + 1, 1, none⟩ (.string t.q) (.inl rfl)).setCell ⟨w.heap.size + 1, 2, none⟩ (.int .i64 t.k) (.inl rfl)).setCell ⟨w.heap.size + 1, 3, none⟩ (.int .i64 t.n) (.inl rfl)).setCell ⟨w.heap.size + 1, 4, none⟩ (.slice a' t.items.length c') (.inl rfl)).setCell ⟨w.heap.size + 1, 5, none⟩ (.bool t.done) (.inl rfl)).setCell ⟨w.heap.size + 1, 6, none⟩ (.bool t.canc) (.inl rfl))
  obtain ⟨w5, hw5⟩ : ∃ V, (((((((w4.setCell ⟨w.heap.size + 1, 0, none⟩ (.int .i64 id)).setCell ⟨w.heap.size + 1, 1, none⟩ (.string t.q)).setCell ⟨w.heap.size + 1, 2, none⟩ (.int .i64 t.k)).setCell ⟨w.heap.size + 1, 3, none⟩ (.int .i64 t.n)).setCell ⟨w.heap.size + 1, 4, none⟩ (.slice a' t.items.length c')).setCell ⟨w.heap.size + 1, 5, none⟩ (.bool t.done)).setCell ⟨w.heap.size + 1, 6, none⟩ (.bool t.canc)) = V := ⟨_, rfl⟩
  rw [hw5] at hfin hfr ⊢
  have k0 : w5.cell? ⟨w.heap.size + 1, 0, none⟩ = some (.int .i64 id) := hfin.cell 0
  have k1 : w5.cell? ⟨w.heap.size + 1, 1, none⟩ = some (.string t.q) := hfin.cell 1
  have k2 : w5.cell? ⟨w.heap.size + 1, 2, none⟩ = some (.int .i64 t.k) := hfin.cell 2
  have k3 : w5.cell? ⟨w.heap.size + 1, 3, none⟩ = some (.int .i64 t.n) := hfin.cell 3
  have k4 : w5.cell? ⟨w.heap.size + 1, 4, none⟩ = some (.slice a' t.items.length c') := hfin.cell 4
  have k5 : w5.cell? ⟨w.heap.size + 1, 5, none⟩ = some (.bool t.done) := hfin.cell 5
  have k6 : w5.cell? ⟨w.heap.size + 1, 6, none⟩ = some (.bool t.canc) := hfin.cell 6
  refine bodyPost_ret (v := .agg #[.int .i64 id, .string t.q, .int .i64 t.k, .int .i64 t.n, .slice a' t.items.length c', .bool t.done, .bool t.canc]) ?_ rfl ⟨a', c', rfl, ownsRow_frm HO4.out hfr (fun q hq e => by have h1 := HG3.out q hq; have h2 : q = w.heap.size + 1 := e; omega), ⟨hfr.os.trans (HF4.out.os.trans HB3.out.os), hfr.tape.trans (HF4.out.tape.trans HB3.out.tape), hfr.output.trans (HF4.out.output.trans HB3.out.output), Nat.le_trans HB3.out.size (Nat.le_trans HF4.out.size hfr.size), fun q hq => (hfr.block q (Nat.lt_of_lt_of_le hq (Nat.le_trans HB3.out.size HF4.out.size)) (fun e => by have h2 : q = w.heap.size + 1 := e; omega)).trans ((HF4.out.block q (Nat.lt_of_lt_of_le hq HB3.out.size) (fun e => by have h2 : q = w.heap.size := e; omega)).trans (HB3.out.block q hq))⟩⟩
  rw [results_cellD rfl]
  clear hfin hfr hw5 HO4 HF4 HB3 HG3 HY4
  go_simp
def ToE (t : TS) (id : Int) (w : World) (e : Ending) (w' : World) : Prop := ∃ a' c', e = .returned (.tuple #[.agg #[.int .i64 id, .string t.q, .int .i64 t.k, .int .i64 t.n, .slice a' t.items.length c', .bool t.done, .bool t.canc], .bool true]) ∧ w'.ownsRow w.heap.size 46 2 (.slice a' t.items.length c') t.items.length (t.items.flatMap KeyL.cells) ∧ Below w.heap.size w w'
set_option maxRecDepth 100000 in
set_option maxHeartbeats 4000000 in
theorem ctold_yes {O : Own} {A : CA} {p : Nat} {S : CS} (i : Nat) (t : TS) (w : World) (h : CW w O A p S) (hi : S.told[i]? = some t) (hn : t.items.length ≤ 1000) (hlen : S.told.length ≤ 1000000) :
    Calls Tryz.prog 26 #[.pointer (some ⟨p, 0, none⟩), .int .i64 ((i : Int) + 1)] w (ToE t ((i : Int) + 1) w) := by
  obtain ⟨n, hnn⟩ : ∃ n, S.told.length = n := ⟨_, rfl⟩
  have hin : i < n := by rw [← hnn]; exact (List.getElem?_eq_some_iff.1 hi).1
  obtain ⟨tb, hta, _⟩ := ownsRow_some h.toldRow.1 (by rw [hnn]; omega)
  obtain ⟨W, hW⟩ : ∃ V, w.alloc (.cells #[.int .i64 0, .string ⟨#[]⟩, .int .i64 0, .int .i64 0, .slice none 0 0, .bool false, .bool false] 58) = V := ⟨_, rfl⟩
  have hb1 : Below w.heap.size w W := by rw [← hW]; exact (Below.refl _ w).alloc (Nat.le_refl _) _
  have hy : Blk W w.heap.size 58 [.int .i64 0, .string ⟨#[]⟩, .int .i64 0, .int .i64 0, .slice none 0 0, .bool false, .bool false] := by rw [← hW]; exact heap_alloc_new w _
  have hcw : CW W O A p S := h.below hb1 (AgO.refl _ _)
  have t18 : W.cell? ⟨p, 18, none⟩ = some (.slice (some ⟨tb, 0, none⟩) n A.tc) := by have q : W.cell? ⟨p, 18, none⟩ = some (.slice A.ta S.told.length A.tc) := hcw.blk.cell 18; rw [hta, hnn] at q; exact q
  obtain ⟨⟨a, c⟩, hac⟩ : ∃ x, A.it i = x := ⟨_, rfl⟩
  have u0 : W.cell? ⟨tb, i * 7, none⟩ = some (.int .i64 ((i : Int) + 1)) := by have q := told_cell hcw.toldRow hi (by omega) hta 0 (by omega); rw [hac] at q; exact q
  have u1 : W.cell? ⟨tb, i * 7 + 1, none⟩ = some (.string t.q) := by have q := told_cell hcw.toldRow hi (by omega) hta 1 (by omega); rw [hac] at q; exact q
  have u2 : W.cell? ⟨tb, i * 7 + 2, none⟩ = some (.int .i64 t.k) := by have q := told_cell hcw.toldRow hi (by omega) hta 2 (by omega); rw [hac] at q; exact q
  have u3 : W.cell? ⟨tb, i * 7 + 3, none⟩ = some (.int .i64 t.n) := by have q := told_cell hcw.toldRow hi (by omega) hta 3 (by omega); rw [hac] at q; exact q
  have u4 : W.cell? ⟨tb, i * 7 + 4, none⟩ = some (.slice a t.items.length c) := by have q := told_cell hcw.toldRow hi (by omega) hta 4 (by omega); rw [hac] at q; exact q
  have u5 : W.cell? ⟨tb, i * 7 + 5, none⟩ = some (.bool t.done) := by have q := told_cell hcw.toldRow hi (by omega) hta 5 (by omega); rw [hac] at q; exact q
  have u6 : W.cell? ⟨tb, i * 7 + 6, none⟩ = some (.bool t.canc) := by have q := told_cell hcw.toldRow hi (by omega) hta 6 (by omega); rw [hac] at q; exact q
  have hrow := (CWx.it hcw i t hi (fun q => q)).1
  rw [hac] at hrow
  have HOW := Lib.hid (own_any t ((i : Int) + 1) a c W (ownsRow_rdE (enc := KeyL.cells) (fun _ => rfl) rfl hrow) hn)
  have hqc := fun V => cptr_ne p 0 V
  have HB := Lib.hid hb1
  have HY := Lib.hid hy
  have ewr : IntKind.i64.wrap ((i : Int) + 1 - 1) = (i : Int) := by rw [Int.add_sub_cancel]; exact wr_in _ (by omega) (by omega)
  have ewr2 : (i : Int) + 1 - 1 = (i : Int) := by omega
  have e1 : decide ((i : Int) + 1 < 1) = false := by simp; omega
  have e2 : decide ((n : Int) < (i : Int) + 1) = false := by simp; omega
  have e3 : (i : Int) < (n : Int) := by omega
  have e4 : (0 : Int) ≤ (i : Int) := by omega
  have e5 : IntKind.i64.wrap (i : Int) = (i : Int) := wr_in _ (by omega) (by omega)
  have HWW := Lib.hid hW
  clear h hi hn hlen hnn hta hb1 hy hcw hac hrow hW
  go_enter Tryz.func26, Tryz.ntmps26
  go_wp2_with (rw [HWW.out])
  skip
  refine HOW.out.mono ?_
  clear HOW HWW t18 u0 u1 u2 u3 u4 u5 u6
  rintro e w3 ⟨a', c', rfl, hown, hb3⟩
  have HY3 := Lib.hid (HY.out.below hb3 HY.out.lt)
  have hy := HY3.out
  have HB3 := Lib.hid (HB.out.trans (hb3.mono HB.out.size))
  have HO3 := Lib.hid hown
  have HG3 := Lib.hid (show ∀ q, (Value.slice a' t.items.length c').ownBlock = some q → w.heap.size < q from fun q hq => by have h1 := own_ge hown q hq; have h2 := HY.out.lt; omega)
  have y0 : w3.cell? ⟨w.heap.size, 0, none⟩ = some (.int .i64 0) := hy.cell 0
  have y1 : w3.cell? ⟨w.heap.size, 1, none⟩ = some (.string ⟨#[]⟩) := hy.cell 1
  have y2 : w3.cell? ⟨w.heap.size, 2, none⟩ = some (.int .i64 0) := hy.cell 2
  have y3 : w3.cell? ⟨w.heap.size, 3, none⟩ = some (.int .i64 0) := hy.cell 3
  have y4 : w3.cell? ⟨w.heap.size, 4, none⟩ = some (.slice none 0 0) := hy.cell 4
  have y5 : w3.cell? ⟨w.heap.size, 5, none⟩ = some (.bool false) := hy.cell 5
  have y6 : w3.cell? ⟨w.heap.size, 6, none⟩ = some (.bool false) := hy.cell 6
  have fy : ∀ o, w3.frozen? ⟨w.heap.size, o, none⟩ = false := fun o => fz_of (o := o) hy
  have HBS := Lib.hid HB.out.size
  clear hown hb3 hy HB HY
  go_wp2_with fail
  clear fy y0 y1 y2 y3 y4 y5 y6
  have hfin : Blk (((((((w3.setCell ⟨w.heap.size, 0, none⟩ (.int .i64 ((i : Int) + 1))).setCell ⟨w.heap.size, 1, none⟩ (.string t.q)).setCell ⟨w.heap.size, 2, none⟩ (.int .i64 t.k)).setCell ⟨w.heap.size, 3, none⟩ (.int .i64 t.n)).setCell ⟨w.heap.size, 4, none⟩ (.slice a' t.items.length c')).setCell ⟨w.heap.size, 5, none⟩ (.bool t.done)).setCell ⟨w.heap.size, 6, none⟩ (.bool t.canc)) w.heap.size 58 [.int .i64 ((i : Int) + 1), .string t.q, .int .i64 t.k, .int .i64 t.n, .slice a' t.items.length c', .bool t.done, .bool t.canc] := (((((((HY3.out.set 0 (.int .i64 ((i : Int) + 1))).set 1 (.string t.q)).set 2 (.int .i64 t.k)).set 3 (.int .i64 t.n)).set 4 (.slice a' t.items.length c')).set 5 (.bool t.done)).set 6 (.bool t.canc))
  have hfr : Frm (fun b => b = w.heap.size) w3 (((((((w3.setCell ⟨w.heap.size, 0, none⟩ (.int .i64 ((i : Int) + 1))).setCell ⟨w.heap.size, 1, none⟩ (.string t.q)).setCell ⟨w.heap.size, 2, none⟩ (.int .i64 t.k)).setCell ⟨w.heap.size, 3, none⟩ (.int .i64 t.n)).setCell ⟨w.heap.size, 4, none⟩ (.slice a' t.items.length c')).setCell ⟨w.heap.size, 5, none⟩ (.bool t.done)).setCell ⟨w.heap.size, 6, none⟩ (.bool t.canc)) := ((((((((Frm.refl (fun b => b = w.heap.size) w3).setCell ⟨w.heap.size, 0, none⟩ (.int .i64 ((i : Int) + 1)) (.inl rfl)).setCell ⟨w.heap.size, 1, none⟩ (.string t.q) (.inl rfl)).setCell ⟨w.heap.size, 2, none⟩ (.int .i64 t.k) (.inl rfl)).setCell ⟨w.heap.size, 3, none⟩ (.int .i64 t.n) (.inl rfl)).setCell ⟨w.heap.size, 4, none⟩ (.slice a' t.items.length c') (.inl rfl)).setCell ⟨w.heap.size, 5, none⟩ (.bool t.done) (.inl rfl)).setCell ⟨w.heap.size, 6, none⟩ (.bool t.canc) (.inl rfl))
  obtain ⟨w5, hw5⟩ : ∃ V, (((((((w3.setCell ⟨w.heap.size, 0, none⟩ (.int .i64 ((i : Int) + 1))).setCell ⟨w.heap.size, 1, none⟩ (.string t.q)).setCell ⟨w.heap.size, 2, none⟩ (.int .i64 t.k)).setCell ⟨w.heap.size, 3, none⟩ (.int .i64 t.n)).setCell ⟨w.heap.size, 4, none⟩ (.slice a' t.items.length c')).setCell ⟨w.heap.size, 5, none⟩ (.bool t.done)).setCell ⟨w.heap.size, 6, none⟩ (.bool t.canc)) = V := ⟨_, rfl⟩
  rw [hw5] at hfin hfr ⊢
  have k0 : w5.cell? ⟨w.heap.size, 0, none⟩ = some (.int .i64 ((i : Int) + 1)) := hfin.cell 0
  have k1 : w5.cell? ⟨w.heap.size, 1, none⟩ = some (.string t.q) := hfin.cell 1
  have k2 : w5.cell? ⟨w.heap.size, 2, none⟩ = some (.int .i64 t.k) := hfin.cell 2
  have k3 : w5.cell? ⟨w.heap.size, 3, none⟩ = some (.int .i64 t.n) := hfin.cell 3
  have k4 : w5.cell? ⟨w.heap.size, 4, none⟩ = some (.slice a' t.items.length c') := hfin.cell 4
  have k5 : w5.cell? ⟨w.heap.size, 5, none⟩ = some (.bool t.done) := hfin.cell 5
  have k6 : w5.cell? ⟨w.heap.size, 6, none⟩ = some (.bool t.canc) := hfin.cell 6
  refine bodyPost_ret (v := .tuple #[.agg #[.int .i64 ((i : Int) + 1), .string t.q, .int .i64 t.k, .int .i64 t.n, .slice a' t.items.length c', .bool t.done, .bool t.canc], .bool true]) ?_ rfl ⟨a', c', rfl, own0 (ownsRow_frm HO3.out hfr (fun q hq e => by have h1 := HG3.out q hq; have h2 : q = w.heap.size := e; omega)) HBS.out, ⟨hfr.os.trans HB3.out.os, hfr.tape.trans HB3.out.tape, hfr.output.trans HB3.out.output, Nat.le_trans HB3.out.size hfr.size, fun q hq => (hfr.block q (Nat.lt_of_lt_of_le hq HB3.out.size) (fun e => by have h2 : q = w.heap.size := e; omega)).trans (HB3.out.block q hq)⟩⟩
  rw [results_cell_tmp rfl]
  clear hfin hfr hw5 HO3 HB3 HG3 HY3
  go_simp
end
end Go.Proofs.YtinkbgeckjbnbaaGreat
