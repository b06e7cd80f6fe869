/- Lemmas for the law (part 7): Co9, CoA, CoB -/
import Derived.Test.YtinkbgeckjbnbaaGreatQr6
namespace Go.Proofs.YtinkbgeckjbnbaaGreat
section
open Go.RowKit
set_option linter.unusedVariables false

set_option maxRecDepth 100000 in
theorem map_ne {w : World} {g : Nat} {e : TypeId} {cs : List Value} {V : Type} {R : Value → Option (DataW Unit × List MemPlace)} {lt : V → Lit} {b m c : Nat} {f : Int → Option V} (h : Blk w g e cs) (h' : MapF R lt w b m c f) : g ≠ b := by
  obtain ⟨D, ⟨es, clock, h1, _⟩, _⟩ := h'
  rintro rfl
  unfold Blk at h
  rw [h1] at h
  simp at h
/-- how far a shard's words are at least; -1: none is near -/
def leastQ (c : CfgM) (q : ByteArray) (k : Int) (s : Int) : Int := if k < leastN c.cuts s (tLen q) then -1 else leastN c.cuts s (tLen q)
set_option maxRecDepth 100000 in
theorem mayQ_of {q : ByteArray} {k n : Int} (h : mayQ q k n = true) : (0 ≤ tLen q ∧ tLen q ≤ 16) ∧ 0 ≤ k ∧ k ≤ 4 ∧ 1 ≤ n ∧ n ≤ 10 := by
  unfold mayQ askedB at h
  simp only [Bool.and_eq_true, decide_eq_true_eq] at h
  obtain ⟨⟨⟨⟨h1, h2⟩, h3⟩, h4⟩, h5⟩ := h
  exact ⟨h1, h2, h3, h4, h5⟩
set_option maxRecDepth 100000 in
theorem leastN_bd (l : List KeyL) (k m : Int) (hk : ∀ x ∈ l, -1000 ≤ x.1 ∧ x.1 ≤ 1000) (hm : 0 ≤ m ∧ m ≤ 16) : -1 ≤ leastN l k m ∧ leastN l k m ≤ 2000 := by
  have := lens_bd l k hk
  unfold leastN
  split
  · omega
  · split
    · omega
    · split <;> omega
/-- a new query in slot s -/
def CS.newQ (S : CS) (q : ByteArray) (k n : Int) (s ns : Nat) : QS := ⟨s, q, k, n, ((List.range ns).map (fun j : Nat => leastQ S.c q k (j : Nat))).map newPS, [], List.replicate 6 SH.zero⟩
def CS.add (S : CS) (q : ByteArray) (k n : Int) (s ns : Nat) : CS := { S with L := S.L.set s (S.told.length + 1), Q := fun j => if j = S.told.length + 1 then S.newQ q k n s ns else S.Q j, told := S.told ++ [⟨q, k, n, [], false, false⟩] }
def CS.sub (S : CS) (q : ByteArray) (k n : Int) (ns : Nat) : CS := if mayQ q k n = false then S else match freeS S.L with | none => S | some s => (S.add q k n s ns).goes (S.told.length + 1) ns
def CS.subV (S : CS) (q : ByteArray) (k n : Int) : Int × Int := ((subS q k n S.L S.told.length).1, (subS q k n S.L S.told.length).2.1)
def CS.subLs (S : CS) (q : ByteArray) (k n : Int) (ns wk : Nat) : List LV := if mayQ q k n = false then [] else match freeS S.L with | none => [] | some s => (S.add q k n s ns).goesL (S.told.length + 1) wk
set_option maxRecDepth 100000 in
set_option maxHeartbeats 4000000 in
theorem cleast_any (p : Nat) (c : CfgM) (cs : List Value) (s : Int) (q : ByteArray) (k n : Int) (w : World) (hb : Blk w p 120 cs) (hc : cs[1]? = some (.slice c.ac c.nc c.cc)) (hr : RdE KeyL.cells 2 w c.ac c.nc c.cc c.cuts) (hl : c.cuts.length ≤ 100) (hk : ∀ x ∈ c.cuts, -1000 ≤ x.1 ∧ x.1 ≤ 1000) (hq : q.size ≤ maxLen) (hm : 0 ≤ tLen q ∧ tLen q ≤ 16) :
    Calls Tryz.prog 64 #[.pointer (some ⟨p, 0, none⟩), .int .i64 s, .agg #[.string q, .int .i64 k, .int .i64 n]] w fun e w' => e = .returned (.int .i64 (leastQ c q k s)) ∧ Below w.heap.size w w' := by
  have HLN := Lib.hid (fun V => len_any q V hq)
  obtain ⟨W, hW⟩ : ∃ W, w.alloc (.cells #[.string q, .int .i64 k, .int .i64 n] 40) = W := ⟨_, rfl⟩
  have hbl : Below w.heap.size w W := by rw [← hW]; exact (Below.refl _ w).alloc (Nat.le_refl _) _
  have HB := Lib.hid hbl
  have HK := Lib.hid (show Blk W w.heap.size 40 [.string q, .int .i64 k, .int .i64 n] from by rw [← hW]; exact heap_alloc_new w _)
  have HP := Lib.hid (hb.below hbl hb.lt)
  have HR := Lib.hid (hr.below hbl rfl)
  have HC := Lib.hid hc
  obtain ⟨z, hz⟩ : ∃ z, tLen q = z := ⟨_, rfl⟩
  have HLE := Lib.hid (fun V (hh : RdE KeyL.cells 2 V c.ac c.nc c.cc c.cuts) => least_any c.ac c.nc c.cc c.cuts s z V hh hl hk (by omega))
  have hbd := leastN_bd c.cuts s z hk (by omega)
  unfold leastQ
  rw [hz]
  rw [hz] at HLN
  obtain ⟨d, hd⟩ : ∃ d, leastN c.cuts s z = d := ⟨_, rfl⟩
  rw [hd] at HLE hbd ⊢
  obtain ⟨R, hR⟩ : ∃ R, (if k < d then (-1 : Int) else d) = R := ⟨_, rfl⟩
  rw [hR]
  clear hb hr hbl hc hz hd hm
  go_enter Tryz.func64, Tryz.ntmps64
  go_upto_region 1 with (rw [hW])
  clear hW
  have HP1 := Lib.hid (show W.drew.cell? ⟨p, 1, none⟩ = some (.slice c.ac c.nc c.cc) from (HP.out.cell 1).trans HC.out)
  have HK1 := Lib.hid (show W.drew.cell? ⟨w.heap.size, 0, none⟩ = some (.string q) from HK.out.cell 0)
  refine wp_region_held_drew (S := (fun w' => w'.cell? ⟨p, 1, none⟩ = some (.slice c.ac c.nc c.cc) ∧ w'.cell? ⟨w.heap.size, 0, none⟩ = some (.string q))) (by kernel_rfl) (by first | exact ⟨HP1.out, HK1.out⟩ | exact ⟨HP2.out, HK2.out.cell 0⟩) (fun hHeld => ?_)
  refine takeO 0 (some 8) (v := ?_) rfl rfl (by kernel_rfl) (by kernel_rfl) (by kernel_rfl) (fun _ _ _ h => h) (Or.inl ⟨by rfl, ?_⟩) (by assumption) ?_
  rotate_left 1
  · intro w hSw; (try dsimp only at hSw); go_simp; all_goals with_reducible rfl
  try simp only [Act.put, List.setIfInBounds_toArray, List.set_cons_zero, List.set_cons_succ]
  refine takeO 1 (some 9) (v := ?_) rfl rfl (by kernel_rfl) (by kernel_rfl) (by kernel_rfl) (fun _ _ _ h => h) (Or.inl ⟨by rfl, ?_⟩) (by assumption) ?_
  rotate_left 1
  · intro w hSw; (try dsimp only at hSw); go_simp; all_goals with_reducible rfl
  try simp only [Act.put, List.setIfInBounds_toArray, List.set_cons_zero, List.set_cons_succ]
  refine takeO 2 (some 10) (v := ?_) rfl rfl (by kernel_rfl) (by kernel_rfl) (by kernel_rfl) (fun _ _ _ h => h) (Or.inl ⟨by rfl, ?_⟩) (by assumption) ?_
  rotate_left 1
  · intro w hSw; (try dsimp only at hSw); go_simp; all_goals with_reducible rfl
  try simp only [Act.put, List.setIfInBounds_toArray, List.set_cons_zero, List.set_cons_succ]
  refine takeO 3 (some 11) (v := ?_) rfl rfl (by kernel_rfl) (by kernel_rfl) (by kernel_rfl) (fun _ _ _ h => h) (Or.inl ⟨by rfl, ?_⟩) (by assumption) ?_
  rotate_left 1
  · intro w hSw; (try dsimp only at hSw); go_simp; all_goals with_reducible rfl
  try simp only [Act.put, List.setIfInBounds_toArray, List.set_cons_zero, List.set_cons_succ]
  refine takeO 4 (some 12) (v := ?_) rfl rfl (by kernel_rfl) (by kernel_rfl) (by kernel_rfl) (fun _ _ _ h => h) (Or.inl ⟨by rfl, ?_⟩) (by assumption) ?_
  rotate_left 1
  · intro w hSw; (try dsimp only at hSw); go_simp; all_goals with_reducible rfl
  try simp only [Act.put, List.setIfInBounds_toArray, List.set_cons_zero, List.set_cons_succ]
  refine takeO 5 (some 13) (v := ?_) rfl rfl (by kernel_rfl) (by kernel_rfl) (by kernel_rfl) (fun _ _ _ h => h) (Or.inl ⟨by rfl, ?_⟩) (by assumption) ?_
  rotate_left 1
  · intro w hSw; (try dsimp only at hSw); go_simp; all_goals with_reducible rfl
  try simp only [Act.put, List.setIfInBounds_toArray, List.set_cons_zero, List.set_cons_succ]
  refine takeO 6 (some 14) (v := ?_) rfl rfl (by kernel_rfl) (by kernel_rfl) (by kernel_rfl) (fun _ _ _ h => h) (Or.inl ⟨by rfl, ?_⟩) (by assumption) ?_
  rotate_left 1
  · intro w hSw; (try dsimp only at hSw); go_simp; all_goals with_reducible rfl
  try simp only [Act.put, List.setIfInBounds_toArray, List.set_cons_zero, List.set_cons_succ]
  refine takeO 7 (some 15) (v := ?_) rfl rfl (by kernel_rfl) (by kernel_rfl) (by kernel_rfl) (fun _ _ _ h => h) (Or.inl ⟨by rfl, ?_⟩) (by assumption) ?_
  rotate_left 1
  · intro w hSw; (try dsimp only at hSw); go_simp; all_goals with_reducible rfl
  try simp only [Act.put, List.setIfInBounds_toArray, List.set_cons_zero, List.set_cons_succ]
  refine wpAnyH_ready (rs := [8]) (by kernel_rfl) (by simp) ?_
  refine AllReadyH.cons rfl (fun K hK => ?_) AllReadyH.nil
  go_simp
  refine (HLN.out _).mono ?_; rintro e w1 ⟨rfl, hb⟩; have HP2 := Lib.hid (show w1.cell? ⟨p, 1, none⟩ = some (.slice c.ac c.nc c.cc) from ((Blk.below (w := W.drew) HP.out hb HP.out.lt).cell 1).trans HC.out); have HK2 := Lib.hid (Blk.below (w := W.drew) HK.out hb HK.out.lt); have HR2 := Lib.hid (RdE.below (w := W.drew) (show RdE KeyL.cells 2 W.drew c.ac c.nc c.cc c.cuts from HR.out) hb rfl); have HB2 := Lib.hid (HB.out.trans (show Below w.heap.size W w1 from ((show Below w.heap.size W W.drew from (Below.refl _ W).drew).trans (hb.mono HB.out.size)))); clear hb
  go_wp2_with fail
  refine hK.out _ _ (by first | exact ⟨HP1.out, HK1.out⟩ | exact ⟨HP2.out, HK2.out.cell 0⟩) (fun hHeld => ?_)
  clear hK K
  try simp only [Act.put, List.setIfInBounds_toArray, List.set_cons_zero, List.set_cons_succ]
  refine wpAnyH_ready (rs := [9]) (by kernel_rfl) (by simp) ?_
  refine AllReadyH.cons rfl (fun K hK => ?_) AllReadyH.nil
  go_simp
  refine (HLE.out _ HR2.out).mono ?_; rintro e w' ⟨rfl, rfl⟩
  go_wp2_with fail
  refine hK.out _ _ (by first | exact ⟨HP1.out, HK1.out⟩ | exact ⟨HP2.out, HK2.out.cell 0⟩) (fun hHeld => ?_)
  clear hK K
  try simp only [Act.put, List.setIfInBounds_toArray, List.set_cons_zero, List.set_cons_succ]
  refine takeO 10 (some 7) (v := ?_) rfl rfl (by kernel_rfl) (by kernel_rfl) (by kernel_rfl) (fun _ _ _ h => h) (Or.inl ⟨by rfl, ?_⟩) (by assumption) ?_
  rotate_left 1
  · intro w hSw; (try dsimp only at hSw); go_simp; all_goals with_reducible rfl
  try simp only [Act.put, List.setIfInBounds_toArray, List.set_cons_zero, List.set_cons_succ]
  refine wpAnyH_done (by kernel_rfl) ?_ _
  have n1 : w1.cell? ⟨w.heap.size, 1, none⟩ = some (.int .i64 k) := HK2.out.cell 1
  by_cases hlt : k < d
  · rw [if_pos hlt] at hR
    subst hR
    go_wp2_with fail
    go_ret
    exact ⟨rfl, HB2.out⟩
  · rw [if_neg hlt] at hR
    subst hR
    have hle : d ≤ k := by omega
    have e1 : decide (k < d) = false := decide_eq_false hlt
    go_wp2_with fail
    go_ret
    exact ⟨rfl, HB2.out⟩

set_option maxRecDepth 100000 in
theorem CWx.sl_back {w : World} {O : Own} {A : CA} {p : Nat} {S : CS} (h : CWx (fun t => t = ct 3) w O A p S) (hs : SlO O (ct 3) w A.sl A.sf A.sa S.L S.told.length) : CW w O A p S :=
  ⟨fun _ => h.blk (ct_ne (by omega)), fun _ => h.imm (ct_ne (by omega)), fun _ => h.le (ct_ne (by omega)), fun _ => hs, fun _ => h.ti (ct_ne (by omega)), fun _ => h.qm (ct_ne (by omega)), fun _ => h.told (ct_ne (by omega)), fun id h1 h2 _ => h.qb id h1 h2 (ct_ne (by omega)), fun id h1 h2 _ => h.mg id h1 h2 (ct_ne (by omega)), fun i t h1 _ => h.it i t h1 (ct_ne (by omega))⟩
set_option maxRecDepth 100000 in
theorem Imm.rde {O : Own} {w : World} {A : CA} {c : CfgM} (h : Imm O w A c) : RdE KeyL.cells 2 w c.ac c.nc c.cc c.cuts := by
  have hl := h.cuts.1.1
  rw [flatMap_len KeyL.cells 2 (fun _ => rfl)] at hl
  exact ownsRow_rdE (enc := KeyL.cells) (fun _ => rfl) (by omega) h.cuts.1
set_option maxRecDepth 100000 in
theorem info_told : (Tryz.prog.info? 58).map (fun i => (i.zero, i.size, i.bytes)) = some (some (.agg #[.int .i64 0, .string ⟨#[]⟩, .int .i64 0, .int .i64 0, .slice none 0 0, .bool false, .bool false]), 7, 72) := by kernel_rfl
set_option maxRecDepth 100000 in
theorem Src.told1 (w : World) (cs : List Value) (h7 : cs.length = 7) (h1 : ∀ u ∈ cs, u.oneCell' = true) : Src Tryz.prog 7 72 (.slice (some ⟨w.heap.size, 0, none⟩) 1 1) 1 cs (w.alloc (.cells cs.toArray 58)) :=
  Src.ofSlice _ Tryz.underlying72 ⟨w.heap.size, 0, none⟩ 1 1 cs (by omega) (World.news_of_block (heap_alloc_new w _)) h1
set_option maxRecDepth 100000 in
theorem Row.nil (O : Own) (t : Nat) (w : World) (e : TypeId) (size : Nat) : Row O t w e size (.slice none 0 0) 0 [] := ⟨World.ownsRow_nil _ _ _ _, fun k hk => by simp [Value.ownBlock] at hk⟩
set_option maxRecDepth 100000 in
theorem qF_add {q : Nat → Nat} {L : List Nat} {last s yb : Nat} (ho : SlOK L last) (hs : L[s]? = some 0) (k : Int) : (qF (fun j => if j = last + 1 then yb else q j) (L.set s (last + 1)) k).map some = mputF (fun k => (qF q L k).map some) ((last : Int) + 1) (some (some yb)) k := by
  show Option.map some (if 0 < k ∧ k.toNat ∈ L.set s (last + 1) then some (if k.toNat = last + 1 then yb else q k.toNat) else none) = if k = (last : Int) + 1 then some (some yb) else Option.map some (if 0 < k ∧ k.toNat ∈ L then some (q k.toNat) else none)
  have hl : s < L.length := (List.getElem?_eq_some_iff.1 hs).1
  have hin : last + 1 ∈ L.set s (last + 1) := List.mem_of_getElem? (List.getElem?_set_self hl)
  by_cases e : k = (last : Int) + 1
  · subst e
    rw [if_pos ⟨by omega, by rw [show ((last : Int) + 1).toNat = last + 1 from by omega]; exact hin⟩, if_pos rfl, if_pos (by omega)]; rfl
  · rw [if_neg e]
    by_cases hk : 0 < k
    · have hmem : k.toNat ∈ L.set s (last + 1) ↔ k.toNat ∈ L := by
        constructor
        · intro h
          rcases List.mem_or_eq_of_mem_set h with h | h
          · exact h
          · omega
        · intro h
          obtain ⟨j, hj⟩ := List.getElem?_of_mem h
          have : s ≠ j := by
            intro e2
            rw [← e2, hs] at hj
            have : (0 : Nat) = k.toNat := by simpa using hj
            omega
          exact List.mem_of_getElem? (by rw [List.getElem?_set_ne this]; exact hj)
      by_cases h : k.toNat ∈ L
      · rw [if_pos ⟨hk, hmem.2 h⟩, if_neg (show ¬ k.toNat = last + 1 from by omega), if_pos ⟨hk, h⟩]
      · rw [if_neg (fun q => h (hmem.1 q.2)), if_neg (fun q => h q.2)]
    · rw [if_neg (fun q => hk q.1), if_neg (fun q => hk q.1)]
/-- where a coordinator's parts lie when a query has come -/
def CA.add (A : CA) (n yb mp : Nat) (ta : Option Addr) (tc : Nat) : CA := { A with q := fun j => if j = n + 1 then yb else A.q j, m := fun j => if j = n + 1 then mp else A.m j, ta := ta, tc := tc, it := fun j => if j = n then (none, 0) else A.it j }
set_option maxRecDepth 100000 in
theorem CWx.add {w : World} {O : Own} {A : CA} {p : Nat} {S : CS} {q : ByteArray} {k n : Int} {s ns yb mp tc : Nat} {ta : Option Addr} (ho : SlOK S.L S.told.length) (hs : S.L[s]? = some 0) (h : CWx (fun t => t = ct 0 ∨ t = ct 3 ∨ t = ct 5 ∨ t = ct 6) w O A p S)
    (h0 : BlkO O (ct 0) w p 120 ((S.cells A).set 18 (.slice ta (S.told.length + 1 : Nat) tc))) (h3 : SlO O (ct 3) w A.sl A.sf A.sa (S.L.set s (S.told.length + 1)) (S.told.length + 1))
    (h5 : MapO O (ct 5) w A.qm (S.told.length + 1) (cntS (S.L.set s (S.told.length + 1))) (qF (fun j => if j = S.told.length + 1 then yb else A.q j) (S.L.set s (S.told.length + 1))))
    (h6 : Row O (ct 6) w 58 7 (.slice ta (S.told.length + 1) tc) (S.told.length + 1) (rowF (toldF A.it S.told) S.told.length ++ TS.cells ⟨q, k, n, [], false, false⟩ ((S.told.length : Int) + 1) (none, 0)))
    (h7 : BlkO O (ct (7 + 3 * (S.told.length + 1))) w yb 141 ((S.newQ q k n s ns).cells (S.told.length + 1) mp)) (h8 : MGo O (ct (8 + 3 * (S.told.length + 1))) w mp n (((List.range ns).map (fun j : Nat => leastQ S.c q k (j : Nat))).map newPS) []) :
    CW w O (A.add S.told.length yb mp ta tc) p (S.add q k n s ns) := by
  have hn : ∀ i, i ≠ 0 → i ≠ 3 → i ≠ 5 → i ≠ 6 → ¬ (ct i = ct 0 ∨ ct i = ct 3 ∨ ct i = ct 5 ∨ ct i = ct 6) := fun i a b c d h => h.elim (ct_ne a) (fun h => h.elim (ct_ne b) (fun h => h.elim (ct_ne c) (ct_ne d)))
  have hl : (S.add q k n s ns).told.length = S.told.length + 1 := by show (S.told ++ [_]).length = _; simp
  have hmem : ∀ j, j ∈ S.L.set s (S.told.length + 1) → j ≠ S.told.length + 1 → j ∈ S.L := fun j hj e => (List.mem_or_eq_of_mem_set hj).elim id (fun h => absurd h e)
  have hlt : ∀ j, j ∈ S.L → j ≠ S.told.length + 1 := fun j hj e => by have := ho.le j hj; omega
  refine ⟨fun _ => ?_, fun _ => ?_, fun _ => h.le (hn _ (by omega) (by omega) (by omega) (by omega)), fun _ => by rw [hl]; exact h3, fun _ => h.ti (hn _ (by omega) (by omega) (by omega) (by omega)), fun _ => by rw [hl]; exact h5, fun _ => ?_, fun id h1 h2 _ => ?_, fun id h1 h2 _ => ?_, fun i t h1 _ => ?_⟩
  · have e : (S.add q k n s ns).cells (A.add S.told.length yb mp ta tc) = (S.cells A).set 18 (.slice ta (S.told.length + 1 : Nat) tc) := by unfold CS.cells; rw [hl]; rfl
    rw [e]; exact h0
  · have q := h.imm (hn _ (by omega) (by omega) (by omega) (by omega)); exact ⟨q.cuts, q.row, q.each⟩
  · rw [hl, rowF_succ]
    rw [rowF_cong (G := toldF A.it S.told) (fun i hi => by
      show ((S.told ++ [_]).getD i TS.zero).cells _ (if i = S.told.length then _ else A.it i) = _
      rw [if_neg (by omega), List.getD_eq_getElem?_getD, List.getElem?_append_left hi]
      unfold toldF
      rw [List.getD_eq_getElem?_getD])]
    rw [show toldF (A.add S.told.length yb mp ta tc).it (S.add q k n s ns).told S.told.length = TS.cells ⟨q, k, n, [], false, false⟩ ((S.told.length : Int) + 1) (none, 0) from by
      show ((S.told ++ [_]).getD S.told.length TS.zero).cells _ (if S.told.length = S.told.length then _ else A.it _) = _
      rw [if_pos rfl, List.getD_eq_getElem?_getD, List.getElem?_append_right (Nat.le_refl _), Nat.sub_self]; rfl]
    exact h6
  · show BlkO O _ w (if id = S.told.length + 1 then yb else A.q id) _ (QS.cells (if id = S.told.length + 1 then _ else S.Q id) id (if id = S.told.length + 1 then mp else A.m id))
    by_cases e : id = S.told.length + 1
    · subst e; rw [if_pos rfl, if_pos rfl, if_pos rfl]; exact h7
    · rw [if_neg e, if_neg e, if_neg e]; exact h.qb id (hmem id h1 e) h2 (hn _ (by omega) (by omega) (by omega) (by omega))
  · show MGo O _ w (if id = S.told.length + 1 then mp else A.m id) (if id = S.told.length + 1 then S.newQ q k n s ns else S.Q id).n (if id = S.told.length + 1 then S.newQ q k n s ns else S.Q id).S (if id = S.told.length + 1 then S.newQ q k n s ns else S.Q id).T
    by_cases e : id = S.told.length + 1
    · subst e; rw [if_pos rfl, if_pos rfl]; exact h8
    · rw [if_neg e, if_neg e]; exact h.mg id (hmem id h1 e) h2 (hn _ (by omega) (by omega) (by omega) (by omega))
  · show Row O _ w _ 2 (.slice (if i = S.told.length then _ else A.it i).1 _ (if i = S.told.length then _ else A.it i).2) _ _
    by_cases e : i = S.told.length
    · subst e
      rw [show (S.add q k n s ns).told[S.told.length]? = some ⟨q, k, n, [], false, false⟩ from by show (S.told ++ [_])[S.told.length]? = _; rw [List.getElem?_append_right (Nat.le_refl _), Nat.sub_self]; rfl] at h1
      cases h1
      rw [if_pos rfl]; exact Row.nil _ _ _ _ _
    · have hi : i < S.told.length := by have := (List.getElem?_eq_some_iff.1 h1).1; rw [hl] at this; omega
      rw [show (S.add q k n s ns).told[i]? = S.told[i]? from List.getElem?_append_left hi] at h1
      rw [if_neg e]; exact h.it i t h1 (hn _ (by omega) (by omega) (by omega) (by omega))
def SuE (O : Own) (A : CA) (p : Nat) (S : CS) (q : ByteArray) (k n : Int) (wk : Nat) (w : World) (e : Ending) (w' : World) : Prop := ∃ v O' A', e = .returned (.tuple #[.int .i64 (S.subV q k n).1, .int .i64 (S.subV q k n).2, v]) ∧ CW w' O' A' p (S.sub q k n A.cps.length) ∧ A'.cps = A.cps ∧ LetAt O' w' w.heap.size v (S.subLs q k n A.cps.length wk) ∧ AgO w.heap.size O O' ∧ COut O w w'
set_option linter.unusedSimpArgs false in
set_option maxRecDepth 100000 in
set_option maxHeartbeats 8000000 in
theorem csubmit_any (O : Own) (A : CA) (p : Nat) (S : CS) (q : ByteArray) (k n : Int) (wk : Nat) (w : World) (h : CW w O A p S) (hq : q.size ≤ maxLen) (hsh : A.cps.length ≤ 6) (hsh1 : 1 ≤ A.cps.length) (hwk : S.c.wk = (wk : Int)) (hwk5 : wk ≤ 5) (hlen : S.told.length ≤ 100000) (hcl : S.c.cuts.length ≤ 100) (hck : ∀ x ∈ S.c.cuts, -1000 ≤ x.1 ∧ x.1 ≤ 1000) :
    Calls Tryz.prog 17 #[.pointer (some ⟨p, 0, none⟩), .agg #[.string q, .int .i64 k, .int .i64 n]] w (SuE O A p S q k n wk w) := by
  obtain ⟨i0, hi, hz0, hz1, hz2⟩ := info_parts info_int
  have HI := Lib.hid hi
  have HZ0 := Lib.hid hz0
  have HZ1 := Lib.hid hz1
  have HZ2 := Lib.hid hz2
  clear hi hz0 hz1 hz2
  obtain ⟨i1, hi, hz0, hz1, hz2⟩ := info_parts info_told
  have HJ := Lib.hid hi
  have HJ0 := Lib.hid hz0
  have HJ1 := Lib.hid hz1
  have HJ2 := Lib.hid hz2
  clear hi hz0 hz1 hz2
  obtain ⟨W, hW⟩ : ∃ W, w.alloc (.cells #[.string q, .int .i64 k, .int .i64 n] 40) = W := ⟨_, rfl⟩
  have hbl : Below w.heap.size w W := by rw [← hW]; exact (Below.refl _ w).alloc (Nat.le_refl _) _
  have HB := Lib.hid hbl
  have HK := Lib.hid (show Blk W.drew w.heap.size 40 [.string q, .int .i64 k, .int .i64 n] from by rw [← hW]; exact heap_alloc_new w _)
  have HC := Lib.hid (show CW W.drew O A p S from (h.below hbl (AgO.refl _ _)).below (below_drewN (Below.refl _ W) 1) (AgO.refl _ _))
  have HSB := Lib.hid (s_submit q k n A.sl A.sf A.sa S.L S.told.length W.drew (CWx.sl HC.out (fun q => q)).1 hq (by omega))
  obtain ⟨⟨v0, id0, s0⟩, hsv⟩ : ∃ x, subS q k n S.L S.told.length = x := ⟨_, rfl⟩
  obtain ⟨⟨L', last'⟩, hsl⟩ : ∃ x, subL q k n S.L S.told.length = x := ⟨_, rfl⟩
  unfold SubE at HSB
  rw [hsv, hsl] at HSB
  have HSV := Lib.hid hsv
  have HSL := Lib.hid hsl
  have hcq := fun V => cptr_ne p 0 V
  have HWK := Lib.hid hwk
  have HCK := Lib.hid hck
  have HWS := Lib.hid (show w.heap.size < W.heap.size from by rw [← hW]; simp)
  have HSO := Lib.hid (CWx.sl HC.out (fun q => q)).1.ok
  have HKM := Lib.hid (show ¬ (w.heap.size = A.qm) from map_ne HK.out (CWx.qm HC.out (fun q => q)).1)
  clear h hbl hsv hsl hwk hck
  go_enter Tryz.func17, Tryz.ntmps17
  go_upto_region 3 with (rw [hW])
  clear hW
  refine wp_region_held_drew (S := (fun w' => w'.cell? ⟨p, 15, none⟩ = some (.pointer (some ⟨A.sl, 0, none⟩)) ∧ w'.cell? ⟨w.heap.size, 0, none⟩ = some (.string q) ∧ w'.cell? ⟨w.heap.size, 1, none⟩ = some (.int .i64 k) ∧ w'.cell? ⟨w.heap.size, 2, none⟩ = some (.int .i64 n))) (by kernel_rfl) (by first | exact ⟨HC.out.blk.cell 15, HK.out.cell 0, HK.out.cell 1, HK.out.cell 2⟩ | exact ⟨(HC1.out.blk (ct_ne (by omega))).1.cell 15, HK1.out.cell 0, HK1.out.cell 1, HK1.out.cell 2⟩) (fun hHeld => ?_)
  refine takeO 0 (some 18) (v := ?_) rfl rfl (by kernel_rfl) (by kernel_rfl) (by kernel_rfl) (fun _ _ _ h => h) (Or.inl ⟨by rfl, ?_⟩) (by assumption) ?_
  rotate_left 1
  · intro w hSw; (try dsimp only at hSw); go_simp; all_goals with_reducible rfl
  try simp only [Act.put, List.setIfInBounds_toArray, List.set_cons_zero, List.set_cons_succ]
  refine takeO 1 (some 19) (v := ?_) rfl rfl (by kernel_rfl) (by kernel_rfl) (by kernel_rfl) (fun _ _ _ h => h) (Or.inl ⟨by rfl, ?_⟩) (by assumption) ?_
  rotate_left 1
  · intro w hSw; (try dsimp only at hSw); go_simp; all_goals with_reducible rfl
  try simp only [Act.put, List.setIfInBounds_toArray, List.set_cons_zero, List.set_cons_succ]
  refine takeO 2 (some 20) (v := ?_) rfl rfl (by kernel_rfl) (by kernel_rfl) (by kernel_rfl) (fun _ _ _ h => h) (Or.inl ⟨by rfl, ?_⟩) (by assumption) ?_
  rotate_left 1
  · intro w hSw; (try dsimp only at hSw); go_simp; all_goals with_reducible rfl
  try simp only [Act.put, List.setIfInBounds_toArray, List.set_cons_zero, List.set_cons_succ]
  refine takeO 3 (some 21) (v := ?_) rfl rfl (by kernel_rfl) (by kernel_rfl) (by kernel_rfl) (fun _ _ _ h => h) (Or.inl ⟨by rfl, ?_⟩) (by assumption) ?_
  rotate_left 1
  · intro w hSw; (try dsimp only at hSw); go_simp; all_goals with_reducible rfl
  try simp only [Act.put, List.setIfInBounds_toArray, List.set_cons_zero, List.set_cons_succ]
  refine takeO 4 (some 22) (v := ?_) rfl rfl (by kernel_rfl) (by kernel_rfl) (by kernel_rfl) (fun _ _ _ h => h) (Or.inl ⟨by rfl, ?_⟩) (by assumption) ?_
  rotate_left 1
  · intro w hSw; (try dsimp only at hSw); go_simp; all_goals with_reducible rfl
  try simp only [Act.put, List.setIfInBounds_toArray, List.set_cons_zero, List.set_cons_succ]
  refine wpAnyH_ready (rs := [5]) (by kernel_rfl) (by simp) ?_
  refine AllReadyH.cons rfl (fun K hK => ?_) AllReadyH.nil
  go_simp
  refine HSB.out.mono ?_; rintro e w1 ⟨rfl, hs, hf⟩; clear HSB; have hO : OFrm O (ct 3) W.drew w1 := OFrm.of hf (fun b hb _ => by obtain ⟨_, o1, o2, o3⟩ := CWx.sl HC.out (fun q => q); rcases hb with rfl | rfl | rfl; exact o1; exact o2; exact o3); have HC1 := Lib.hid (CW.only HC.out 3 hO (AgO.refl _ _)); have HS1 := Lib.hid (show SlO O (ct 3) w1 A.sl A.sf A.sa L' last' from ⟨hs, (CWx.sl HC.out (fun q => q)).2⟩); have HK1 := Lib.hid (show Blk w1 w.heap.size 40 [.string q, .int .i64 k, .int .i64 n] from HK.out.frm hf (fun e => by obtain ⟨a1, _, _⟩ := CWx.sl HC.out (fun q => q); rcases e with e | e | e; exact blk_ne HK.out a1.blk (by decide) e; exact map_ne HK.out a1.of e; exact map_ne HK.out a1.at_ e)); have HF1 := Lib.hid (show COut O w w1 from COut.trans (show COut O w W.drew from Frm.drew (Frm.below HB.out)) (COut.of hO) (AgO.refl _ _)); clear hs hf hO HC HK
  go_wp2_with fail
  refine hK.out _ _ (by first | exact ⟨HC.out.blk.cell 15, HK.out.cell 0, HK.out.cell 1, HK.out.cell 2⟩ | exact ⟨(HC1.out.blk (ct_ne (by omega))).1.cell 15, HK1.out.cell 0, HK1.out.cell 1, HK1.out.cell 2⟩) (fun hHeld => ?_)
  clear hK K
  try simp only [Act.put, List.setIfInBounds_toArray, List.set_cons_zero, List.set_cons_succ]
  refine takeO 6 (some 17) (v := ?_) rfl rfl (by kernel_rfl) (by kernel_rfl) (by kernel_rfl) (fun _ _ _ h => h) (Or.inl ⟨by rfl, ?_⟩) (by assumption) ?_
  rotate_left 1
  · intro w hSw; (try dsimp only at hSw); go_simp; all_goals with_reducible rfl
  try simp only [Act.put, List.setIfInBounds_toArray, List.set_cons_zero, List.set_cons_succ]
  refine takeO 7 (some 24) (v := ?_) rfl rfl (by kernel_rfl) (by kernel_rfl) (by kernel_rfl) (fun _ _ _ h => h) (Or.inl ⟨by rfl, ?_⟩) (by assumption) ?_
  rotate_left 1
  · intro w hSw; (try dsimp only at hSw); go_simp; all_goals with_reducible rfl
  try simp only [Act.put, List.setIfInBounds_toArray, List.set_cons_zero, List.set_cons_succ]
  refine takeO 8 (some 25) (v := ?_) rfl rfl (by kernel_rfl) (by kernel_rfl) (by kernel_rfl) (fun _ _ _ h => h) (Or.inl ⟨by rfl, ?_⟩) (by assumption) ?_
  rotate_left 1
  · intro w hSw; (try dsimp only at hSw); go_simp; all_goals with_reducible rfl
  try simp only [Act.put, List.setIfInBounds_toArray, List.set_cons_zero, List.set_cons_succ]
  refine takeO 9 (some 26) (v := ?_) rfl rfl (by kernel_rfl) (by kernel_rfl) (by kernel_rfl) (fun _ _ _ h => h) (Or.inl ⟨by rfl, ?_⟩) (by assumption) ?_
  rotate_left 1
  · intro w hSw; (try dsimp only at hSw); go_simp; all_goals with_reducible rfl
  try simp only [Act.put, List.setIfInBounds_toArray, List.set_cons_zero, List.set_cons_succ]
  refine takeO 10 (some 7) (v := ?_) rfl rfl (by kernel_rfl) (by kernel_rfl) (by kernel_rfl) (fun _ _ _ h => h) (Or.inl ⟨by rfl, ?_⟩) (by assumption) ?_
  rotate_left 1
  · intro w hSw; (try dsimp only at hSw); go_simp; all_goals with_reducible rfl
  try simp only [Act.put, List.setIfInBounds_toArray, List.set_cons_zero, List.set_cons_succ]
  refine takeO 11 (some 8) (v := ?_) rfl rfl (by kernel_rfl) (by kernel_rfl) (by kernel_rfl) (fun _ _ _ h => h) (Or.inl ⟨by rfl, ?_⟩) (by assumption) ?_
  rotate_left 1
  · intro w hSw; (try dsimp only at hSw); go_simp; all_goals with_reducible rfl
  try simp only [Act.put, List.setIfInBounds_toArray, List.set_cons_zero, List.set_cons_succ]
  refine takeO 12 (some 9) (v := ?_) rfl rfl (by kernel_rfl) (by kernel_rfl) (by kernel_rfl) (fun _ _ _ h => h) (Or.inl ⟨by rfl, ?_⟩) (by assumption) ?_
  rotate_left 1
  · intro w hSw; (try dsimp only at hSw); go_simp; all_goals with_reducible rfl
  try simp only [Act.put, List.setIfInBounds_toArray, List.set_cons_zero, List.set_cons_succ]
  refine wpAnyH_done (by kernel_rfl) ?_ _
  clear hHeld
  cases hm : mayQ q k n
  case false =>
    have e1 := HSV.out
    unfold subS at e1
    rw [if_pos hm] at e1
    obtain ⟨rfl, rfl, rfl⟩ : v0 = 1 ∧ id0 = 0 ∧ s0 = 0 := by simpa [eq_comm] using e1
    have e2 := HSL.out
    unfold subL at e2
    rw [if_pos hm] at e2
    obtain ⟨rfl, rfl⟩ : L' = S.L ∧ last' = S.told.length := by simpa [eq_comm] using e2
    clear e1 e2
    have HM := Lib.hid hm
    clear hm
    go_wp2_with fail
    go_ret3
    refine ⟨.slice none 0 0, O, A, by unfold CS.subV; rw [HSV.out]; rfl, ?_, rfl, ?_, AgO.refl _ _, HF1.out⟩
    · unfold CS.sub; rw [if_pos HM.out]; exact CWx.sl_back HC1.out HS1.out
    · unfold CS.subLs; rw [if_pos HM.out]; exact LetAt.nil _ _ _
  cases hfr : freeS S.L
  case none =>
    have e1 := HSV.out
    unfold subS at e1
    rw [if_neg (by rw [hm]; decide), hfr] at e1
    obtain ⟨rfl, rfl, rfl⟩ : v0 = 2 ∧ id0 = 0 ∧ s0 = 0 := by simpa [eq_comm] using e1
    have e2 := HSL.out
    unfold subL at e2
    rw [if_neg (by rw [hm]; decide), hfr] at e2
    obtain ⟨rfl, rfl⟩ : L' = S.L ∧ last' = S.told.length := by simpa [eq_comm] using e2
    clear e1 e2
    have HM := Lib.hid hm
    have HFR := Lib.hid hfr
    clear hm hfr
    go_wp2_with fail
    go_ret3
    refine ⟨.slice none 0 0, O, A, by unfold CS.subV; rw [HSV.out]; rfl, ?_, rfl, ?_, AgO.refl _ _, HF1.out⟩
    · unfold CS.sub; rw [if_neg (by rw [HM.out]; decide), HFR.out]; exact CWx.sl_back HC1.out HS1.out
    · unfold CS.subLs; rw [if_neg (by rw [HM.out]; decide), HFR.out]; exact LetAt.nil _ _ _
  rename_i sf
  have e1 := HSV.out
  unfold subS at e1
  rw [if_neg (by rw [hm]; decide), hfr] at e1
  obtain ⟨rfl, rfl, rfl⟩ : v0 = 3 ∧ id0 = ((S.told.length + 1 : Nat) : Int) ∧ s0 = (sf : Int) := by simpa [eq_comm] using e1
  have e2 := HSL.out
  unfold subL at e2
  rw [if_neg (by rw [hm]; decide), hfr] at e2
  obtain ⟨rfl, rfl⟩ : L' = S.L.set sf (S.told.length + 1) ∧ last' = S.told.length + 1 := by simpa [eq_comm] using e2
  clear e1 e2
  obtain ⟨hf0, _⟩ := free_some hfr
  have HF0 := Lib.hid hf0
  have HM := Lib.hid hm
  have HFR := Lib.hid hfr
  obtain ⟨hmt, hmk1, hmk2, hmn1, hmn2⟩ := mayQ_of hm
  clear hm hfr hf0
  obtain ⟨ns, hns⟩ : ∃ ns, A.cps.length = ns := ⟨_, rfl⟩
  have HNS := Lib.hid hns
  have t12 : w1.cell? ⟨p, 12, none⟩ = some (.slice A.cpa ns A.cpc) := by have e : w1.cell? ⟨p, 12, none⟩ = some (.slice A.cpa A.cps.length A.cpc) := (HC1.out.blk (ct_ne (by omega))).1.cell 12; rw [hns] at e; exact e
  rw [hns] at hsh hsh1
  clear hns
  go_wp2_with fail
  clear t12
  go_loopw [10, 36] (fun v10 v36 wr => ∃ (j : Nat) (ao : Option Addr) (c2 : Nat), j ≤ ns ∧ v36 = .int .i64 j ∧ v10 = .slice ao j c2 ∧ RowKit.Hid (wr.ownsRow w1.heap.size 3 1 (.slice ao j c2) j (ints ((List.range j).map (fun j : Nat => leastQ S.c q k (j : Nat))))) ∧ RowKit.Hid (Below w1.heap.size w1 wr)) (fun _ v _ => ns - (intOf v).toNat)
  case atStart => exact ⟨0, none, 0, Nat.zero_le _, rfl, rfl, World.ownsRow_nil _ _ _ _, Below.refl _ _⟩
  case round =>
    obtain ⟨j, ao, c2, hj, rfl, rfl, HO, HBL⟩ := hrel
    have HK2 := Lib.hid (HK1.out.below HBL.out HK1.out.lt)
    by_cases hlt : j < ns
    · have e1 : (j : Int) < (ns : Int) := by omega
      have n0 : wr.cell? ⟨w.heap.size, 0, none⟩ = some (.string q) := HK2.out.cell 0
      have n1 : wr.cell? ⟨w.heap.size, 1, none⟩ = some (.int .i64 k) := HK2.out.cell 1
      have n2 : wr.cell? ⟨w.heap.size, 2, none⟩ = some (.int .i64 n) := HK2.out.cell 2
      have HLE := Lib.hid (cleast_any p S.c (S.cells A) (j : Int) q k n wr ((HC1.out.blk (ct_ne (by omega))).1.below HBL.out (HC1.out.blk (ct_ne (by omega))).1.lt) rfl ((HC1.out.imm (ct_ne (by omega))).rde.below HBL.out rfl) hcl HCK.out hq hmt)
      go_wp2_with fail
      clear n0 n1 n2
      refine HLE.out.mono ?_
      clear HLE
      rintro e w2 ⟨rfl, hb⟩
      have HB2 := Lib.hid (HBL.out.trans (hb.mono HBL.out.size))
      have HO2 := Lib.hid (ownsRow_below HO.out hb)
      clear hb HO
      have A1 : j + 1 ≤ maxLen := by unfold maxLen; omega
      have A2 : (j + 1) * 8 ≤ 140737488355328 := by omega
      obtain ⟨d, hd⟩ : ∃ d, leastQ S.c q k (j : Int) = d := ⟨_, rfl⟩
      have HD := Lib.hid hd
      rw [hd]
      clear hd
      have hz2 := HB2.out.size
      go_wp2_with (at_builtin; refine wpList_app rfl _ _ 26 26 rfl w1.heap.size 3 i0 (.int .i64 0) 1 8 Tryz.underlying26 HI.out HZ0.out HZ1.out HZ2.out rfl (by decide) ao j c2 (ints ((List.range j).map (fun j : Nat => leastQ S.c q k (j : Nat)))) rfl (HO2.out.alloc _) _ 1 _ rfl (Src.one' Tryz.underlying26 w2 _ 3 rfl) A1 A2 (by simp; omega) ?_; intro ao3 c3' w5 hown5 hg5; have HO6 := Lib.hid hown5; have HB6 := Lib.hid ((HB2.out.alloc hz2 _).grown hg5 (by simp; omega) (fun b hb => (HO2.out.lt b hb).1)); clear hown5 hg5)
      go_roundw
      case rel => (refine ⟨_, _, _, _, _, _, _, _, _, _, _, _, _, ?rel2, rfl⟩; exact ⟨j + 1, ao3, c3', by omega, by go_num, rfl, (by unfold RowKit.Hid; rw [List.range_succ, List.map_append, List.map_cons, List.map_nil, HD.out, ints_app]; exact HO6.out), HB6.out⟩)
      case measure => simp [intOf]; omega
    · obtain rfl : j = ns := by omega
      clear hlt hj
      have n2 : wr.cell? ⟨w.heap.size, 2, none⟩ = some (.int .i64 n) := HK2.out.cell 2
      have HNW := Lib.hid (mgo_new (O := O) (ct (8 + 3 * (S.told.length + 1))) ao j c2 ((List.range j).map (fun j : Nat => leastQ S.c q k (j : Nat))) n wr (ownsRow_rd HO.out) hsh1 hsh hmn1 hmn2)
      go_wp2_with fail
      clear n2
      refine HNW.out.mono ?_
      clear HNW
      rintro e w2 ⟨rfl, hmg, hb⟩
      have HB2 := Lib.hid (show Below w1.heap.size w1 w2 from HBL.out.trans (hb.mono HBL.out.size))
      have hsz := HBL.out.size
      obtain ⟨mp, hmp⟩ : ∃ m, wr.heap.size = m := ⟨_, rfl⟩
      rw [hmp] at hmg ⊢
      obtain ⟨O1, hO1⟩ : ∃ O1, O.upd mp (ct (8 + 3 * (S.told.length + 1))) = O1 := ⟨_, rfl⟩
      rw [hO1] at hmg
      have HA1 := Lib.hid (show AgO w1.heap.size O O1 from by rw [← hO1]; exact AgO.upd' (by omega) _ _)
      have HMG := Lib.hid hmg
      have HK3 := Lib.hid (HK1.out.below HB2.out HK1.out.lt)
      have HMPL := Lib.hid (show mp ≤ w2.heap.size from by rw [← hmp]; exact hb.size)
      have HC2 := Lib.hid (CWx.below HC1.out HB2.out HA1.out)
      have HS2 := Lib.hid (SlO.frm HS1.out (Frm.below (S := fun _ => False) HB2.out) (fun _ _ _ q => q) HA1.out)
      have HA1' := Lib.hid (show AgO w.heap.size O O1 from fun b hb => HA1.out b (Nat.lt_of_lt_of_le hb HF1.out.size))
      have HF2 := Lib.hid (COut.trans HF1.out (COut.below HB2.out) (AgO.refl _ _))
      clear hmg hmp hb hO1 HO HBL HC1 HS1 HA1 HB2 HF1 HK2
      have n0 : w2.cell? ⟨w.heap.size, 0, none⟩ = some (.string q) := HK3.out.cell 0
      have n1 : w2.cell? ⟨w.heap.size, 1, none⟩ = some (.int .i64 k) := HK3.out.cell 1
      have n2 : w2.cell? ⟨w.heap.size, 2, none⟩ = some (.int .i64 n) := HK3.out.cell 2
      obtain ⟨w3, hw3⟩ : ∃ V, w2.alloc (.cells #[.int .i64 ((S.told.length : Int) + 1), .int .i64 (sf : Nat), .string q, .int .i64 k, .int .i64 n, .pointer (some ⟨mp, 0, none⟩), .int .i64 0, .int .i64 0, .int .i64 0, .bool false, .int .i64 0, .int .i64 0, .int .i64 0, .bool false, .int .i64 0, .int .i64 0, .int .i64 0, .bool false, .int .i64 0, .int .i64 0, .int .i64 0, .bool false, .int .i64 0, .int .i64 0, .int .i64 0, .bool false, .int .i64 0, .int .i64 0, .int .i64 0, .bool false] 141) = V := ⟨_, rfl⟩
      have hb3 : Below w2.heap.size w2 w3 := by rw [← hw3]; exact (Below.refl _ w2).alloc (Nat.le_refl _) _
      have HY3 := Lib.hid (show BlkO (O1.upd w2.heap.size (ct (7 + 3 * (S.told.length + 1)))) (ct (7 + 3 * (S.told.length + 1))) w3 w2.heap.size 141 ((S.newQ q k n sf j).cells (S.told.length + 1) mp) from ⟨by rw [← hw3]; exact heap_alloc_new w2 _, Own.upd_ge (Nat.le_refl _)⟩)
      go_upto_region 14 with (rw [hw3])
      clear hw3 n0 n1 n2
      obtain ⟨yb, hyb⟩ : ∃ y, w2.heap.size = y := ⟨_, rfl⟩
      have hag : AgO w2.heap.size O1 (O1.upd w2.heap.size (ct (7 + 3 * (S.told.length + 1)))) := AgO.upd _ _ _
      obtain ⟨O2, hO2⟩ : ∃ O2, O1.upd w2.heap.size (ct (7 + 3 * (S.told.length + 1))) = O2 := ⟨_, rfl⟩
      rw [hO2] at hag HY3
      have HC3 := Lib.hid (CWx.below HC2.out hb3 hag)
      have HS3 := Lib.hid (SlO.frm HS2.out (Frm.below (S := fun _ => False) hb3) (fun _ _ _ q => q) hag)
      have HM3 := Lib.hid (MGo.frm HMG.out (Frm.below (S := fun _ => False) hb3) (fun _ _ _ q => q) hag)
      have HK4 := Lib.hid (HK3.out.below hb3 HK3.out.lt)
      have HA2 := Lib.hid (show AgO w.heap.size O O2 from fun b hb => (hag b (Nat.lt_of_lt_of_le hb HF2.out.size)).trans (HA1'.out b hb))
      have HF3 := Lib.hid (COut.trans HF2.out (COut.below (O := O1) hb3) HA1'.out)
      rw [hyb] at HY3 ⊢
      clear hb3 hag hO2 hyb HC2 HS2 HMG HK3 HF2 HA1' HMPL hsz
      have hmp3 := HC3.out.qm (ct_ne (by omega))
      have hk1 : wf64 ((S.told.length : Int) + 1) := wf64_of (by omega) (by omega)
      have hnm : S.told.length < maxLen := by unfold maxLen; omega
      have HMP := Lib.hid hmp3.1
      have hno : (qF A.q S.L ((S.told.length : Int) + 1)).map some = (none : Option (Option Nat)) := by unfold qF; rw [if_neg (fun hh => by have := HSO.out.le _ hh.2; omega)]; rfl
      have hcn := cntS_set (y := S.told.length + 1) HF0.out
      rw [if_neg (by decide), if_pos (by omega)] at hcn
      have k17 : w3.cell? ⟨p, 17, none⟩ = some (.map (some A.qm)) := (HC3.out.blk (ct_ne (by omega))).1.cell 17
      go_upto_region 15 with (refine wpList_mapPut (R := rdP) (lt := ltP) (enc := encP) rfl _ _ _ 114 136 rfl Tryz.underlying114 codP A.qm S.told.length (cntS S.L) (fun k => (qF A.q S.L k).map some) rfl HMP.out hnm ((S.told.length : Int) + 1) rfl hk1 (some yb) rfl ?_; intro w4 hm4 hf4; simp only [hno] at hm4; rw [if_neg (by decide)] at hm4; have HM4 := Lib.hid hm4; have HF4 := Lib.hid hf4; clear hm4 hf4)
      clear k17 hno hk1 hnm HMP
      have HQM := Lib.hid hmp3.2
      clear hmp3
      have nf : ∀ i, i ≠ 5 → ∀ b, b < w3.heap.size → O2 b = ct i → ¬ (b = A.qm) := fun i hi b _ ho e => by subst e; rw [HQM.out] at ho; exact ct_ne (fun h => hi h.symm) ho
      have HC5 := Lib.hid (show CWx (fun t => t = ct 3 ∨ t = ct 5) w4 O2 A p S from CWx.frm HC3.out HF4.out (AgO.refl _ _) (fun _ q => .inl q) (fun b _ e => .inl (.inr (by subst e; exact HQM.out))))
      have HS5 := Lib.hid (SlO.frm HS3.out HF4.out (nf 3 (by omega)) (AgO.refl _ _))
      have HM5 := Lib.hid (MGo.frm HM3.out HF4.out (nf _ (by omega)) (AgO.refl _ _))
      have HY5 := Lib.hid (BlkO.frm HY3.out HF4.out (nf _ (by omega)) (AgO.refl _ _))
      have HP5 := Lib.hid (show MapO O2 (ct 5) w4 A.qm (S.told.length + 1) (cntS (S.L.set sf (S.told.length + 1))) (qF (fun j => if j = S.told.length + 1 then yb else A.q j) (S.L.set sf (S.told.length + 1))) from ⟨by rw [show cntS (S.L.set sf (S.told.length + 1)) = cntS S.L + 1 from by omega]; exact HM4.out.cong (fun k => (qF_add HSO.out HF0.out k).symm), HQM.out⟩)
      have HK5 := Lib.hid (show Blk w4.drew w.heap.size 40 [.string q, .int .i64 k, .int .i64 n] from show Blk w4 w.heap.size 40 [.string q, .int .i64 k, .int .i64 n] from HK4.out.frm HF4.out HKM.out)
      have HF5 := Lib.hid (COut.trans HF3.out (COut.of (i := 5) (OFrm.of HF4.out (fun b e _ => by subst e; exact HQM.out))) HA2.out)
      clear nf HC3 HS3 HM3 HY3 HK4 HF3 HF4 HM4 hcn
      have HL4 := Lib.hid (show sf ≤ 4 from by have := (List.getElem?_eq_some_iff.1 HF0.out).1; have := HSO.out.len.2; omega)
      have HBP := Lib.hid (show Blk (w4.alloc (.cells #[.int .i64 ((S.told.length : Int) + 1), .string q, .int .i64 k, .int .i64 n, .slice none 0 0, .bool false, .bool false] 58)).drew p 120 (S.cells A) from ((HC5.out.blk (fun h => h.elim (ct_ne (by omega)) (ct_ne (by omega)))).1.alloc _).drewN 1)
      have HPT := Lib.hid (HC5.out.blk (fun h => h.elim (ct_ne (by omega)) (ct_ne (by omega)))).2
      have HPL := Lib.hid (HC5.out.blk (fun h => h.elim (ct_ne (by omega)) (ct_ne (by omega)))).1.lt
      have HRW := Lib.hid (show Row O2 (ct 6) (w4.alloc (.cells #[.int .i64 ((S.told.length : Int) + 1), .string q, .int .i64 k, .int .i64 n, .slice none 0 0, .bool false, .bool false] 58)).drew 58 7 (.slice A.ta S.told.length A.tc) S.told.length (rowF (toldF A.it S.told) S.told.length) from (HC5.out.told (fun h => h.elim (ct_ne (by omega)) (ct_ne (by omega)))).frm (F := fun _ => False) (((Frm.refl _ w4).alloc _).drew) (fun _ _ _ q => q) (AgO.refl _ _))
      have k18a : w4.drew.cell? ⟨p, 18, none⟩ = some (.slice A.ta S.told.length A.tc) := (HC5.out.blk (fun h => h.elim (ct_ne (by omega)) (ct_ne (by omega)))).1.cell 18
      have k18b : (w4.alloc (.cells #[.int .i64 ((S.told.length : Int) + 1), .string q, .int .i64 k, .int .i64 n, .slice none 0 0, .bool false, .bool false] 58)).drew.cell? ⟨p, 18, none⟩ = some (.slice A.ta S.told.length A.tc) := HBP.out.cell 18
      have HK6 := Lib.hid (show Blk (w4.alloc (.cells #[.int .i64 ((S.told.length : Int) + 1), .string q, .int .i64 k, .int .i64 n, .slice none 0 0, .bool false, .bool false] 58)).drew w.heap.size 40 [.string q, .int .i64 k, .int .i64 n] from Blk.alloc (w := w4) HK5.out _)
      have HKT := Lib.hid (show w.heap.size < w4.heap.size from Blk.lt (w := w4) HK5.out)
      have A1 : S.told.length + 1 ≤ maxLen := by unfold maxLen; omega
      have A2 : (S.told.length + 1) * 72 ≤ 140737488355328 := by omega
      clear hHeld
      have HTL := Lib.hid (show ∀ b, (Value.slice A.ta S.told.length A.tc).ownBlock = some b → b < w4.heap.size from fun b hb => own_lt (HC5.out.told (fun h => h.elim (ct_ne (by omega)) (ct_ne (by omega)))).1 b hb)
      refine wp_region_held_drew (S := (fun w' => w'.cell? ⟨w.heap.size, 0, none⟩ = some (.string q) ∧ w'.cell? ⟨w.heap.size, 1, none⟩ = some (.int .i64 k) ∧ w'.cell? ⟨w.heap.size, 2, none⟩ = some (.int .i64 n))) (by kernel_rfl) (by first | exact ⟨HK5.out.cell 0, HK5.out.cell 1, HK5.out.cell 2⟩ | exact ⟨HK6.out.cell 0, HK6.out.cell 1, HK6.out.cell 2⟩ | exact ⟨HK7.out.cell 0, HK7.out.cell 1, HK7.out.cell 2⟩ | exact ⟨HK8.out.cell 0, HK8.out.cell 1, HK8.out.cell 2⟩) (fun hHeld => ?_)
      refine takeO 0 (some 66) (v := ?_) rfl rfl (by kernel_rfl) (by kernel_rfl) (by kernel_rfl) (fun _ _ _ h => h) (Or.inl ⟨by rfl, ?_⟩) (by assumption) ?_
      rotate_left 1
      · intro w hSw; (try dsimp only at hSw); go_simp; all_goals with_reducible rfl
      try simp only [Act.put, List.setIfInBounds_toArray, List.set_cons_zero, List.set_cons_succ]
      refine takeO 1 (some 67) (v := ?_) rfl rfl (by kernel_rfl) (by kernel_rfl) (by kernel_rfl) (fun _ _ _ h => h) (Or.inl ⟨by rfl, ?_⟩) (by assumption) ?_
      rotate_left 1
      · intro w hSw; (try dsimp only at hSw); go_simp; all_goals with_reducible rfl
      try simp only [Act.put, List.setIfInBounds_toArray, List.set_cons_zero, List.set_cons_succ]
      refine takeO 2 (some 68) (v := ?_) rfl rfl (by kernel_rfl) (by kernel_rfl) (by kernel_rfl) (fun _ _ _ h => h) (Or.inl ⟨by rfl, ?_⟩) (by assumption) ?_
      rotate_left 1
      · intro w hSw; (try dsimp only at hSw); go_simp; all_goals with_reducible rfl
      try simp only [Act.put, List.setIfInBounds_toArray, List.set_cons_zero, List.set_cons_succ]
      refine takeO 3 (some 69) (v := ?_) rfl rfl (by kernel_rfl) (by kernel_rfl) (by kernel_rfl) (fun _ _ _ h => h) (Or.inl ⟨by rfl, ?_⟩) (by assumption) ?_
      rotate_left 1
      · intro w hSw; (try dsimp only at hSw); go_simp; all_goals with_reducible rfl
      try simp only [Act.put, List.setIfInBounds_toArray, List.set_cons_zero, List.set_cons_succ]
      refine takeO 5 (some 71) (v := ?_) rfl rfl (by kernel_rfl) (by kernel_rfl) (by kernel_rfl) (fun _ _ _ h => h) (Or.inl ⟨by rfl, ?_⟩) (by assumption) ?_
      rotate_left 1
      · intro w hSw; (try dsimp only at hSw); go_simp; all_goals with_reducible rfl
      try simp only [Act.put, List.setIfInBounds_toArray, List.set_cons_zero, List.set_cons_succ]
      refine takeO 6 (some 72) (v := ?_) rfl rfl (by kernel_rfl) (by kernel_rfl) (by kernel_rfl) (fun _ _ _ h => h) (Or.inl ⟨by rfl, ?_⟩) (by assumption) ?_
      rotate_left 1
      · intro w hSw; (try dsimp only at hSw); go_simp; all_goals with_reducible rfl
      try simp only [Act.put, List.setIfInBounds_toArray, List.set_cons_zero, List.set_cons_succ]
      refine takeO 7 (some 73) (v := ?_) rfl rfl (by kernel_rfl) (by kernel_rfl) (by kernel_rfl) (fun _ _ _ h => h) (Or.inl ⟨by rfl, ?_⟩) (by assumption) ?_
      rotate_left 1
      · intro w hSw; (try dsimp only at hSw); go_simp; all_goals with_reducible rfl
      try simp only [Act.put, List.setIfInBounds_toArray, List.set_cons_zero, List.set_cons_succ]
      refine wpAnyH_ready (rs := [4, 8]) (by kernel_rfl) (by simp) ?_
      refine AllReadyH.cons rfl (fun K hK => ?_) (AllReadyH.cons rfl (fun K hK => ?_) AllReadyH.nil)
      · go_simp
        go_wp2_with fail
        refine hK.out _ _ (by first | exact ⟨HK5.out.cell 0, HK5.out.cell 1, HK5.out.cell 2⟩ | exact ⟨HK6.out.cell 0, HK6.out.cell 1, HK6.out.cell 2⟩ | exact ⟨HK7.out.cell 0, HK7.out.cell 1, HK7.out.cell 2⟩ | exact ⟨HK8.out.cell 0, HK8.out.cell 1, HK8.out.cell 2⟩) (fun hHeld => ?_)
        clear hK K
        try simp only [Act.put, List.setIfInBounds_toArray, List.set_cons_zero, List.set_cons_succ]
        refine wpAnyH_ready (rs := [8]) (by kernel_rfl) (by simp) ?_
        refine AllReadyH.cons rfl (fun K hK => ?_) AllReadyH.nil
        · go_simp
          go_wp2_with fail
          refine hK.out _ _ (by first | exact ⟨HK5.out.cell 0, HK5.out.cell 1, HK5.out.cell 2⟩ | exact ⟨HK6.out.cell 0, HK6.out.cell 1, HK6.out.cell 2⟩ | exact ⟨HK7.out.cell 0, HK7.out.cell 1, HK7.out.cell 2⟩ | exact ⟨HK8.out.cell 0, HK8.out.cell 1, HK8.out.cell 2⟩) (fun hHeld => ?_)
          clear hK K
          try simp only [Act.put, List.setIfInBounds_toArray, List.set_cons_zero, List.set_cons_succ]
          refine wpAnyH_ready (rs := [9]) (by kernel_rfl) (by simp) ?_
          refine AllReadyH.cons rfl (fun K hK => ?_) AllReadyH.nil
          · refine step_appA rfl (.tmp 70) (.tmp 74) 72 72 rfl 0 58 i1 (.agg #[.int .i64 0, .string ⟨#[]⟩, .int .i64 0, .int .i64 0, .slice none 0 0, .bool false, .bool false]) 7 72 Tryz.underlying72 HJ.out HJ0.out HJ1.out HJ2.out rfl (by decide) A.ta S.told.length A.tc (rowF (toldF A.it S.told) S.told.length) (by kernel_rfl) HRW.out.1 (.slice (some ⟨w4.heap.size, 0, none⟩) 1 1) 1 [.int .i64 ((S.told.length : Int) + 1), .string q, .int .i64 k, .int .i64 n, .slice none 0 0, .bool false, .bool false] (by kernel_rfl) (Src.told1 w4.drew [.int .i64 ((S.told.length : Int) + 1), .string q, .int .i64 k, .int .i64 n, .slice none 0 0, .bool false, .bool false] rfl (by intro u hu; simp only [List.mem_cons, List.not_mem_nil, or_false] at hu; rcases hu with rfl | rfl | rfl | rfl | rfl | rfl | rfl <;> rfl)) A1 A2 (Nat.zero_le _) ?_
            intro ao3 c3 w5 hown hg hat
            clear k18a k18b
            have hptb : ∀ b, (Value.slice A.ta S.told.length A.tc).ownBlock = some b → O2 b = ct 6 := HRW.out.2
            have hne : ∀ b, (Value.slice A.ta S.told.length A.tc).ownBlock = some b → b ≠ p := fun b hb e => by have q := hptb b hb; rw [e, HPT.out] at q; exact ct_ne (by omega) q
            have hbp5 := HBP.out.kept hg (fun e => hne p e.symm rfl)
            have k18 : w5.cell? ⟨p, 18, none⟩ = some (.slice A.ta S.told.length A.tc) := hbp5.cell 18
            have fz : w5.frozen? ⟨p, 18, none⟩ = false := fz_of hbp5
            have HK7 := Lib.hid (HK6.out.kept hg (fun e => ownsRow_ne HRW.out.1 HK6.out (by decide) _ e.symm rfl))
            have hf5 : Frm (fun b => (Value.slice A.ta S.told.length A.tc).ownBlock = some b ∨ b = p) w4 w5 := Frm.trans (((Frm.refl (fun b => (Value.slice A.ta S.told.length A.tc).ownBlock = some b ∨ b = p) w4).alloc _).drew) (Frm.grown (S := (fun b => (Value.slice A.ta S.told.length A.tc).ownBlock = some b ∨ b = p)) hg (fun g e => .inl e)) (fun i h _ => h)
            have hf6 : Frm (fun b => (Value.slice A.ta S.told.length A.tc).ownBlock = some b ∨ b = p) w4 (w5.setCell ⟨p, 18, none⟩ (.slice ao3 (S.told.length + 1 : Nat) c3)) := hf5.setCell _ _ (.inl (.inr rfl))
            have hag : AgO w4.heap.size O2 (O2.upd w4.heap.size (ct 6)) := AgO.upd _ _ _
            have nf : ∀ i, i ≠ 0 → i ≠ 6 → ∀ b, b < w4.heap.size → O2 b = ct i → ¬ ((Value.slice A.ta S.told.length A.tc).ownBlock = some b ∨ b = p) := fun i h1 h2 b _ ho e => by rcases e with e | e; rw [hptb b e] at ho; exact ct_ne (fun h => h2 h.symm) ho; rw [e, HPT.out] at ho; exact ct_ne (fun h => h1 h.symm) ho
            have hc7 : CWx (fun t => t = ct 0 ∨ t = ct 3 ∨ t = ct 5 ∨ t = ct 6) (w5.setCell ⟨p, 18, none⟩ (.slice ao3 (S.told.length + 1 : Nat) c3)) (O2.upd w4.heap.size (ct 6)) A p S := HC5.out.frm hf6 hag (fun t q => q.elim (fun e => .inr (.inl e)) (fun e => .inr (.inr (.inl e)))) (fun b _ e => .inl (e.elim (fun e => .inr (.inr (.inr (hptb b e)))) (fun e => .inl (by rw [e]; exact HPT.out))))
            have hb7 : BlkO (O2.upd w4.heap.size (ct 6)) (ct 0) (w5.setCell ⟨p, 18, none⟩ (.slice ao3 (S.told.length + 1 : Nat) c3)) p 120 ((S.cells A).set 18 (.slice ao3 (S.told.length + 1 : Nat) c3)) := ⟨hbp5.set 18 _, (hag p HPL.out).trans HPT.out⟩
            have hat2 : ∀ b, (Value.slice ao3 (S.told.length + 1) c3).ownBlock = some b → ((Value.slice A.ta S.told.length A.tc).ownBlock = some b) ∨ b = w4.heap.size + 1 := fun b hb => by rcases hat with e | e; exact .inl (by rw [← e]; exact hb); rw [hb] at e; exact .inr (by have := Option.some.inj e; simpa using this)
            have hr7 : Row (O2.upd w4.heap.size (ct 6)) (ct 6) (w5.setCell ⟨p, 18, none⟩ (.slice ao3 (S.told.length + 1 : Nat) c3)) 58 7 (.slice ao3 (S.told.length + 1) c3) (S.told.length + 1) (rowF (toldF A.it S.told) S.told.length ++ TS.cells ⟨q, k, n, [], false, false⟩ ((S.told.length : Int) + 1) (none, 0)) := ⟨ownsRow_frm hown ((Frm.refl (fun b => b = p) w5).setCell ⟨p, 18, none⟩ _ (.inl rfl)) (fun b hb e => by rcases hat2 b hb with e2 | e2; exact hne b e2 e; have := HPL.out; omega), fun b hb => by rcases hat2 b hb with e2 | e2; exact (hag b (by have q := own_lt HRW.out.1 b e2; simp at q; by_cases hx : b < w4.heap.size; exact hx; exact absurd (hptb b e2) (by have := HTL.out b e2; omega))).trans (hptb b e2); rw [e2]; exact Own.upd_ge (by omega)⟩
            have hc8 := CWx.add (ns := j) HSO.out HF0.out hc7 hb7 (SlO.frm HS5.out hf6 (nf 3 (by omega) (by omega)) hag) (MapO.frm HP5.out hf6 (nf 5 (by omega) (by omega)) hag) hr7 (BlkO.frm HY5.out hf6 (nf _ (by omega) (by omega)) hag) (MGo.frm HM5.out hf6 (nf _ (by omega) (by omega)) hag)
            have HC8 := Lib.hid hc8
            have HF8 := Lib.hid (show COut O w (w5.setCell ⟨p, 18, none⟩ (.slice ao3 (S.told.length + 1 : Nat) c3)) from COut.trans HF5.out (hf6.mono (fun b e _ => by rcases e with e | e; rw [hptb b e]; exact ct_mod 6; rw [e, HPT.out]; exact ct_mod 0)) HA2.out)
            have HA8 := Lib.hid (show AgO w.heap.size O (O2.upd w4.heap.size (ct 6)) from fun b hb => (hag b (Nat.lt_of_lt_of_le hb HF5.out.size)).trans (HA2.out b hb))
            have HK8 := Lib.hid (show Blk (w5.setCell ⟨p, 18, none⟩ (.slice ao3 (S.told.length + 1 : Nat) c3)) w.heap.size 40 [.string q, .int .i64 k, .int .i64 n] from HK7.out.frm ((Frm.refl (fun b => b = p) w5).setCell ⟨p, 18, none⟩ _ (.inl rfl)) (fun e => blk_ne HK7.out hbp5 (by decide) e))
            clear hptb hne hbp5 hf5 hf6 hag nf hc7 hb7 hat2 hr7 hc8 hown hg hat
            refine hK.out _ _ (by first | exact ⟨HK5.out.cell 0, HK5.out.cell 1, HK5.out.cell 2⟩ | exact ⟨HK6.out.cell 0, HK6.out.cell 1, HK6.out.cell 2⟩ | exact ⟨HK7.out.cell 0, HK7.out.cell 1, HK7.out.cell 2⟩ | exact ⟨HK8.out.cell 0, HK8.out.cell 1, HK8.out.cell 2⟩) (fun hHeld => ?_)
            clear hK K
            try simp only [Act.put, List.setIfInBounds_toArray, List.set_cons_zero, List.set_cons_succ]
            refine takeO 10 (some 76) (v := ?_) rfl rfl (by kernel_rfl) (by kernel_rfl) (by kernel_rfl) (fun _ _ _ h => h) (Or.inl ⟨by rfl, ?_⟩) (by assumption) ?_
            rotate_left 1
            · intro w hSw; (try dsimp only at hSw); go_simp; all_goals with_reducible rfl
            try simp only [Act.put, List.setIfInBounds_toArray, List.set_cons_zero, List.set_cons_succ]
            refine takeO 11 (some 77) (v := ?_) rfl rfl (by kernel_rfl) (by kernel_rfl) (by kernel_rfl) (fun _ _ _ h => h) (Or.inl ⟨by rfl, ?_⟩) (by assumption) ?_
            rotate_left 1
            · intro w hSw; (try dsimp only at hSw); go_simp; all_goals with_reducible rfl
            try simp only [Act.put, List.setIfInBounds_toArray, List.set_cons_zero, List.set_cons_succ]
            refine wpAnyH_ready (rs := [12]) (by kernel_rfl) (by simp) ?_
            refine AllReadyH.cons rfl (fun K hK => ?_) AllReadyH.nil
            · go_simp
              go_wp2_with fail
              refine hK.out _ _ (by first | exact ⟨HK5.out.cell 0, HK5.out.cell 1, HK5.out.cell 2⟩ | exact ⟨HK6.out.cell 0, HK6.out.cell 1, HK6.out.cell 2⟩ | exact ⟨HK7.out.cell 0, HK7.out.cell 1, HK7.out.cell 2⟩ | exact ⟨HK8.out.cell 0, HK8.out.cell 1, HK8.out.cell 2⟩) (fun hHeld => ?_)
              clear hK K
              try simp only [Act.put, List.setIfInBounds_toArray, List.set_cons_zero, List.set_cons_succ]
              refine wpAnyH_done (by kernel_rfl) ?_ _
              clear hHeld k18 fz
              obtain ⟨w6, hw6⟩ : ∃ V, (w5.setCell ⟨p, 18, none⟩ (.slice ao3 (S.told.length + 1 : Nat) c3)) = V := ⟨_, rfl⟩
              rw [hw6] at HC8 HF8 ⊢
              clear hw6 HK8 HK7 HK6 HK5 HRW HBP HC5 HS5 HM5 HY5 HP5 HF5 A1 A2
              obtain ⟨O3, hO3⟩ : ∃ O3, O2.upd w4.heap.size (ct 6) = O3 := ⟨_, rfl⟩
              rw [hO3] at HC8 HA8
              clear hO3
              have hqy : (A.add S.told.length yb mp ao3 c3).q (S.told.length + 1) = yb := by show (if S.told.length + 1 = S.told.length + 1 then yb else _) = yb; rw [if_pos rfl]
              have haq : (S.add q k n sf j).Q (S.told.length + 1) = S.newQ q k n sf j := by show (if S.told.length + 1 = S.told.length + 1 then _ else _) = _; rw [if_pos rfl]
              have hat0 : (S.add q k n sf j).told[S.told.length]? = some ⟨q, k, n, [], false, false⟩ := by show (S.told ++ [_])[S.told.length]? = _; rw [List.getElem?_append_right (Nat.le_refl _), Nat.sub_self]; rfl
              have hgo := goes_any O3 (A.add S.told.length yb mp ao3 c3) p (S.add q k n sf j) (S.told.length + 1) wk w6 HC8.out (List.mem_of_getElem? (List.getElem?_set_self (List.getElem?_eq_some_iff.1 HF0.out).1)) (by omega) (by show A.cps.length ≤ 6; rw [HNS.out]; exact hsh) HWK.out hwk5 (by rw [haq]; exact HL4.out) (by omega) (by show _ ≤ (S.told ++ [_]).length; simp) (by rw [tof_of hat0]; simp) (by rw [haq]; show ((0 : Nat) : Int) ≤ n; omega) (by rw [haq]; exact hmn2)
              rw [hqy] at hgo
              have HGO := Lib.hid hgo
              clear hqy haq hat0 hgo
              go_wp2_with fail
              refine HGO.out.mono ?_
              clear HGO
              rintro e w7 ⟨v, O4, A4, rfl, hc9, hcp9, _, hl9, ha9, hf9⟩
              have HC9 := Lib.hid hc9
              have HCP9 := Lib.hid hcp9
              have HL9 := Lib.hid hl9
              have HA9 := Lib.hid ha9
              have HF9 := Lib.hid hf9
              clear hc9 hcp9 hl9 ha9 hf9
              go_wp2_with fail
              go_ret3
              refine ⟨v, O4, A4, by unfold CS.subV; rw [HSV.out]; rfl, ?_, HCP9.out, ?_, HA8.out.trans HA9.out HF8.out.size, COut.trans HF8.out HF9.out HA8.out⟩
              · unfold CS.sub; rw [if_neg (by rw [HM.out]; decide), HFR.out, HNS.out]; have q9 := HC9.out; rw [show (A.add S.told.length yb mp ao3 c3).cps.length = j from HNS.out] at q9; exact q9
              · unfold CS.subLs; rw [if_neg (by rw [HM.out]; decide), HFR.out, HNS.out]; exact HL9.out.base HF8.out.size
      · go_simp
        go_wp2_with fail
        refine hK.out _ _ (by first | exact ⟨HK5.out.cell 0, HK5.out.cell 1, HK5.out.cell 2⟩ | exact ⟨HK6.out.cell 0, HK6.out.cell 1, HK6.out.cell 2⟩ | exact ⟨HK7.out.cell 0, HK7.out.cell 1, HK7.out.cell 2⟩ | exact ⟨HK8.out.cell 0, HK8.out.cell 1, HK8.out.cell 2⟩) (fun hHeld => ?_)
        clear hK K
        try simp only [Act.put, List.setIfInBounds_toArray, List.set_cons_zero, List.set_cons_succ]
        refine wpAnyH_ready (rs := [4]) (by kernel_rfl) (by simp) ?_
        refine AllReadyH.cons rfl (fun K hK => ?_) AllReadyH.nil
        · go_simp
          go_wp2_with fail
          refine hK.out _ _ (by first | exact ⟨HK5.out.cell 0, HK5.out.cell 1, HK5.out.cell 2⟩ | exact ⟨HK6.out.cell 0, HK6.out.cell 1, HK6.out.cell 2⟩ | exact ⟨HK7.out.cell 0, HK7.out.cell 1, HK7.out.cell 2⟩ | exact ⟨HK8.out.cell 0, HK8.out.cell 1, HK8.out.cell 2⟩) (fun hHeld => ?_)
          clear hK K
          try simp only [Act.put, List.setIfInBounds_toArray, List.set_cons_zero, List.set_cons_succ]
          refine wpAnyH_ready (rs := [9]) (by kernel_rfl) (by simp) ?_
          refine AllReadyH.cons rfl (fun K hK => ?_) AllReadyH.nil
          · refine step_appA rfl (.tmp 70) (.tmp 74) 72 72 rfl 0 58 i1 (.agg #[.int .i64 0, .string ⟨#[]⟩, .int .i64 0, .int .i64 0, .slice none 0 0, .bool false, .bool false]) 7 72 Tryz.underlying72 HJ.out HJ0.out HJ1.out HJ2.out rfl (by decide) A.ta S.told.length A.tc (rowF (toldF A.it S.told) S.told.length) (by kernel_rfl) HRW.out.1 (.slice (some ⟨w4.heap.size, 0, none⟩) 1 1) 1 [.int .i64 ((S.told.length : Int) + 1), .string q, .int .i64 k, .int .i64 n, .slice none 0 0, .bool false, .bool false] (by kernel_rfl) (Src.told1 w4.drew [.int .i64 ((S.told.length : Int) + 1), .string q, .int .i64 k, .int .i64 n, .slice none 0 0, .bool false, .bool false] rfl (by intro u hu; simp only [List.mem_cons, List.not_mem_nil, or_false] at hu; rcases hu with rfl | rfl | rfl | rfl | rfl | rfl | rfl <;> rfl)) A1 A2 (Nat.zero_le _) ?_
            intro ao3 c3 w5 hown hg hat
            clear k18a k18b
            have hptb : ∀ b, (Value.slice A.ta S.told.length A.tc).ownBlock = some b → O2 b = ct 6 := HRW.out.2
            have hne : ∀ b, (Value.slice A.ta S.told.length A.tc).ownBlock = some b → b ≠ p := fun b hb e => by have q := hptb b hb; rw [e, HPT.out] at q; exact ct_ne (by omega) q
            have hbp5 := HBP.out.kept hg (fun e => hne p e.symm rfl)
            have k18 : w5.cell? ⟨p, 18, none⟩ = some (.slice A.ta S.told.length A.tc) := hbp5.cell 18
            have fz : w5.frozen? ⟨p, 18, none⟩ = false := fz_of hbp5
            have HK7 := Lib.hid (HK6.out.kept hg (fun e => ownsRow_ne HRW.out.1 HK6.out (by decide) _ e.symm rfl))
            have hf5 : Frm (fun b => (Value.slice A.ta S.told.length A.tc).ownBlock = some b ∨ b = p) w4 w5 := Frm.trans (((Frm.refl (fun b => (Value.slice A.ta S.told.length A.tc).ownBlock = some b ∨ b = p) w4).alloc _).drew) (Frm.grown (S := (fun b => (Value.slice A.ta S.told.length A.tc).ownBlock = some b ∨ b = p)) hg (fun g e => .inl e)) (fun i h _ => h)
            have hf6 : Frm (fun b => (Value.slice A.ta S.told.length A.tc).ownBlock = some b ∨ b = p) w4 (w5.setCell ⟨p, 18, none⟩ (.slice ao3 (S.told.length + 1 : Nat) c3)) := hf5.setCell _ _ (.inl (.inr rfl))
            have hag : AgO w4.heap.size O2 (O2.upd w4.heap.size (ct 6)) := AgO.upd _ _ _
            have nf : ∀ i, i ≠ 0 → i ≠ 6 → ∀ b, b < w4.heap.size → O2 b = ct i → ¬ ((Value.slice A.ta S.told.length A.tc).ownBlock = some b ∨ b = p) := fun i h1 h2 b _ ho e => by rcases e with e | e; rw [hptb b e] at ho; exact ct_ne (fun h => h2 h.symm) ho; rw [e, HPT.out] at ho; exact ct_ne (fun h => h1 h.symm) ho
            have hc7 : CWx (fun t => t = ct 0 ∨ t = ct 3 ∨ t = ct 5 ∨ t = ct 6) (w5.setCell ⟨p, 18, none⟩ (.slice ao3 (S.told.length + 1 : Nat) c3)) (O2.upd w4.heap.size (ct 6)) A p S := HC5.out.frm hf6 hag (fun t q => q.elim (fun e => .inr (.inl e)) (fun e => .inr (.inr (.inl e)))) (fun b _ e => .inl (e.elim (fun e => .inr (.inr (.inr (hptb b e)))) (fun e => .inl (by rw [e]; exact HPT.out))))
            have hb7 : BlkO (O2.upd w4.heap.size (ct 6)) (ct 0) (w5.setCell ⟨p, 18, none⟩ (.slice ao3 (S.told.length + 1 : Nat) c3)) p 120 ((S.cells A).set 18 (.slice ao3 (S.told.length + 1 : Nat) c3)) := ⟨hbp5.set 18 _, (hag p HPL.out).trans HPT.out⟩
            have hat2 : ∀ b, (Value.slice ao3 (S.told.length + 1) c3).ownBlock = some b → ((Value.slice A.ta S.told.length A.tc).ownBlock = some b) ∨ b = w4.heap.size + 1 := fun b hb => by rcases hat with e | e; exact .inl (by rw [← e]; exact hb); rw [hb] at e; exact .inr (by have := Option.some.inj e; simpa using this)
            have hr7 : Row (O2.upd w4.heap.size (ct 6)) (ct 6) (w5.setCell ⟨p, 18, none⟩ (.slice ao3 (S.told.length + 1 : Nat) c3)) 58 7 (.slice ao3 (S.told.length + 1) c3) (S.told.length + 1) (rowF (toldF A.it S.told) S.told.length ++ TS.cells ⟨q, k, n, [], false, false⟩ ((S.told.length : Int) + 1) (none, 0)) := ⟨ownsRow_frm hown ((Frm.refl (fun b => b = p) w5).setCell ⟨p, 18, none⟩ _ (.inl rfl)) (fun b hb e => by rcases hat2 b hb with e2 | e2; exact hne b e2 e; have := HPL.out; omega), fun b hb => by rcases hat2 b hb with e2 | e2; exact (hag b (by have q := own_lt HRW.out.1 b e2; simp at q; by_cases hx : b < w4.heap.size; exact hx; exact absurd (hptb b e2) (by have := HTL.out b e2; omega))).trans (hptb b e2); rw [e2]; exact Own.upd_ge (by omega)⟩
            have hc8 := CWx.add (ns := j) HSO.out HF0.out hc7 hb7 (SlO.frm HS5.out hf6 (nf 3 (by omega) (by omega)) hag) (MapO.frm HP5.out hf6 (nf 5 (by omega) (by omega)) hag) hr7 (BlkO.frm HY5.out hf6 (nf _ (by omega) (by omega)) hag) (MGo.frm HM5.out hf6 (nf _ (by omega) (by omega)) hag)
            have HC8 := Lib.hid hc8
            have HF8 := Lib.hid (show COut O w (w5.setCell ⟨p, 18, none⟩ (.slice ao3 (S.told.length + 1 : Nat) c3)) from COut.trans HF5.out (hf6.mono (fun b e _ => by rcases e with e | e; rw [hptb b e]; exact ct_mod 6; rw [e, HPT.out]; exact ct_mod 0)) HA2.out)
            have HA8 := Lib.hid (show AgO w.heap.size O (O2.upd w4.heap.size (ct 6)) from fun b hb => (hag b (Nat.lt_of_lt_of_le hb HF5.out.size)).trans (HA2.out b hb))
            have HK8 := Lib.hid (show Blk (w5.setCell ⟨p, 18, none⟩ (.slice ao3 (S.told.length + 1 : Nat) c3)) w.heap.size 40 [.string q, .int .i64 k, .int .i64 n] from HK7.out.frm ((Frm.refl (fun b => b = p) w5).setCell ⟨p, 18, none⟩ _ (.inl rfl)) (fun e => blk_ne HK7.out hbp5 (by decide) e))
            clear hptb hne hbp5 hf5 hf6 hag nf hc7 hb7 hat2 hr7 hc8 hown hg hat
            refine hK.out _ _ (by first | exact ⟨HK5.out.cell 0, HK5.out.cell 1, HK5.out.cell 2⟩ | exact ⟨HK6.out.cell 0, HK6.out.cell 1, HK6.out.cell 2⟩ | exact ⟨HK7.out.cell 0, HK7.out.cell 1, HK7.out.cell 2⟩ | exact ⟨HK8.out.cell 0, HK8.out.cell 1, HK8.out.cell 2⟩) (fun hHeld => ?_)
            clear hK K
            try simp only [Act.put, List.setIfInBounds_toArray, List.set_cons_zero, List.set_cons_succ]
            refine takeO 10 (some 76) (v := ?_) rfl rfl (by kernel_rfl) (by kernel_rfl) (by kernel_rfl) (fun _ _ _ h => h) (Or.inl ⟨by rfl, ?_⟩) (by assumption) ?_
            rotate_left 1
            · intro w hSw; (try dsimp only at hSw); go_simp; all_goals with_reducible rfl
            try simp only [Act.put, List.setIfInBounds_toArray, List.set_cons_zero, List.set_cons_succ]
            refine takeO 11 (some 77) (v := ?_) rfl rfl (by kernel_rfl) (by kernel_rfl) (by kernel_rfl) (fun _ _ _ h => h) (Or.inl ⟨by rfl, ?_⟩) (by assumption) ?_
            rotate_left 1
            · intro w hSw; (try dsimp only at hSw); go_simp; all_goals with_reducible rfl
            try simp only [Act.put, List.setIfInBounds_toArray, List.set_cons_zero, List.set_cons_succ]
            refine wpAnyH_ready (rs := [12]) (by kernel_rfl) (by simp) ?_
            refine AllReadyH.cons rfl (fun K hK => ?_) AllReadyH.nil
            · go_simp
              go_wp2_with fail
              refine hK.out _ _ (by first | exact ⟨HK5.out.cell 0, HK5.out.cell 1, HK5.out.cell 2⟩ | exact ⟨HK6.out.cell 0, HK6.out.cell 1, HK6.out.cell 2⟩ | exact ⟨HK7.out.cell 0, HK7.out.cell 1, HK7.out.cell 2⟩ | exact ⟨HK8.out.cell 0, HK8.out.cell 1, HK8.out.cell 2⟩) (fun hHeld => ?_)
              clear hK K
              try simp only [Act.put, List.setIfInBounds_toArray, List.set_cons_zero, List.set_cons_succ]
              refine wpAnyH_done (by kernel_rfl) ?_ _
              clear hHeld k18 fz
              obtain ⟨w6, hw6⟩ : ∃ V, (w5.setCell ⟨p, 18, none⟩ (.slice ao3 (S.told.length + 1 : Nat) c3)) = V := ⟨_, rfl⟩
              rw [hw6] at HC8 HF8 ⊢
              clear hw6 HK8 HK7 HK6 HK5 HRW HBP HC5 HS5 HM5 HY5 HP5 HF5 A1 A2
              obtain ⟨O3, hO3⟩ : ∃ O3, O2.upd w4.heap.size (ct 6) = O3 := ⟨_, rfl⟩
              rw [hO3] at HC8 HA8
              clear hO3
              have hqy : (A.add S.told.length yb mp ao3 c3).q (S.told.length + 1) = yb := by show (if S.told.length + 1 = S.told.length + 1 then yb else _) = yb; rw [if_pos rfl]
              have haq : (S.add q k n sf j).Q (S.told.length + 1) = S.newQ q k n sf j := by show (if S.told.length + 1 = S.told.length + 1 then _ else _) = _; rw [if_pos rfl]
              have hat0 : (S.add q k n sf j).told[S.told.length]? = some ⟨q, k, n, [], false, false⟩ := by show (S.told ++ [_])[S.told.length]? = _; rw [List.getElem?_append_right (Nat.le_refl _), Nat.sub_self]; rfl
              have hgo := goes_any O3 (A.add S.told.length yb mp ao3 c3) p (S.add q k n sf j) (S.told.length + 1) wk w6 HC8.out (List.mem_of_getElem? (List.getElem?_set_self (List.getElem?_eq_some_iff.1 HF0.out).1)) (by omega) (by show A.cps.length ≤ 6; rw [HNS.out]; exact hsh) HWK.out hwk5 (by rw [haq]; exact HL4.out) (by omega) (by show _ ≤ (S.told ++ [_]).length; simp) (by rw [tof_of hat0]; simp) (by rw [haq]; show ((0 : Nat) : Int) ≤ n; omega) (by rw [haq]; exact hmn2)
              rw [hqy] at hgo
              have HGO := Lib.hid hgo
              clear hqy haq hat0 hgo
              go_wp2_with fail
              refine HGO.out.mono ?_
              clear HGO
              rintro e w7 ⟨v, O4, A4, rfl, hc9, hcp9, _, hl9, ha9, hf9⟩
              have HC9 := Lib.hid hc9
              have HCP9 := Lib.hid hcp9
              have HL9 := Lib.hid hl9
              have HA9 := Lib.hid ha9
              have HF9 := Lib.hid hf9
              clear hc9 hcp9 hl9 ha9 hf9
              go_wp2_with fail
              go_ret3
              refine ⟨v, O4, A4, by unfold CS.subV; rw [HSV.out]; rfl, ?_, HCP9.out, ?_, HA8.out.trans HA9.out HF8.out.size, COut.trans HF8.out HF9.out HA8.out⟩
              · unfold CS.sub; rw [if_neg (by rw [HM.out]; decide), HFR.out, HNS.out]; have q9 := HC9.out; rw [show (A.add S.told.length yb mp ao3 c3).cps.length = j from HNS.out] at q9; exact q9
              · unfold CS.subLs; rw [if_neg (by rw [HM.out]; decide), HFR.out, HNS.out]; exact HL9.out.base HF8.out.size
end
end Go.Proofs.YtinkbgeckjbnbaaGreat
namespace Go.Proofs.YtinkbgeckjbnbaaGreat
section
open Go.RowKit
set_option linter.unusedVariables false

set_option maxRecDepth 100000 in
theorem own_cell {w : World} {base : Nat} {e : TypeId} {size g n c : Nat} {xs : List Value} (h : w.ownsRow base e size (.slice (some ⟨g, 0, none⟩) n c) n xs) {j : Nat} {u : Value} (hj : xs[j]? = some u) : w.cell? ⟨g, j, none⟩ = some u := by
  obtain ⟨sp, _, hb⟩ := ownsRow_blk h
  rw [hb.cell, List.getElem?_append_left (List.getElem?_eq_some_iff.1 hj).1, hj]
set_option maxRecDepth 100000 in
theorem LetAt.one' {O : Own} {w : World} {base g : Nat} {td : Int} {m : MV} (hw : w.heap[g]? = some (.cells #[.int .i64 td, m.val] 51 (0, 0))) (hO : O g = 0) (hb : base ≤ g) : LetAt O w base (.slice (some ⟨g, 0, none⟩) 1 1) [(td, m)] :=
  ⟨some ⟨g, 0, none⟩, 1, rfl, ⟨rfl, .inr ⟨g, 1, #[.int .i64 td, m.val], rfl, hb, hw, Nat.le_refl 1, by decide, rfl, rfl⟩⟩, fun k hk => by simp only [Value.ownBlock, Option.some.injEq] at hk; subst hk; exact hO⟩
/-- whose turn it is -/
def turnW (c : CfgM) (s : Nat) (turn : Int) : Int := (copN c s).getD (turn % c.cp).toNat 0
/-- the letter that asks a copy -/
def CS.askL (S : CS) (id s : Nat) (turn : Int) : List LV := if S.t.epoch (turnW S.c s turn) = 0 then [] else [(turnW S.c s turn, .ask ((S.Q id).slot : Nat) (id : Nat) (s : Nat) (seqP (S.Q id).S (s : Nat)) (S.t.epoch (turnW S.c s turn)) (S.Q id).q (S.Q id).k S.c.ba (!(afterP (S.Q id).S (s : Nat)).2) (afterP (S.Q id).S (s : Nat)).1.1 (afterP (S.Q id).S (s : Nat)).1.2)]
def AskE (O : Own) (S : CS) (id s : Nat) (turn : Int) (w : World) (e : Ending) (w' : World) : Prop := ∃ v, e = .returned v ∧ LetAt (O.upd w.heap.size 0) w' w.heap.size v (S.askL id s turn) ∧ Below w.heap.size w w'
set_option linter.unusedSimpArgs false in
set_option maxRecDepth 100000 in
set_option maxHeartbeats 8000000 in
theorem cask_any (O : Own) (A : CA) (p : Nat) (S : CS) (id s : Nat) (turn : Int) (w : World) (h : CW w O A p S) (hm : id ∈ S.L) (h0 : id ≠ 0) (hs : s < A.cps.length) (hsh : A.cps.length ≤ 6) (ht0 : 0 ≤ turn) (ht1 : turn ≤ 1000000000) (hcp1 : 1 ≤ S.c.cp) (hcp2 : S.c.cp ≤ 3) (ho : S.t.ok) :
    Calls Tryz.prog 121 #[.pointer (some ⟨p, 0, none⟩), .pointer (some ⟨A.q id, 0, none⟩), .int .i64 (s : Nat), .int .i64 turn] w (AskE O S id s turn w) := by
  obtain ⟨cp, hcp⟩ : ∃ cp : Nat, S.c.cp = (cp : Int) := ⟨S.c.cp.toNat, by omega⟩
  rw [hcp] at hcp1 hcp2
  have hI := CWx.imm h (fun q => q)
  obtain ⟨x, hx⟩ : ∃ x, A.cps[s]? = some x := ⟨A.cps[s], List.getElem?_eq_getElem _⟩
  have hrow := hI.row.1
  have heach := (hI.each s x hx).1
  rw [hcp, Int.toNat_natCast] at hrow heach
  obtain ⟨cb, hcb, _⟩ := ownsRow_some hrow (by omega)
  obtain ⟨rb, hrb, _⟩ := ownsRow_some heach (by omega)
  rw [hcb] at hrow
  rw [hrb] at heach
  obtain ⟨r, hr⟩ : ∃ r : Nat, turn % (cp : Int) = (r : Int) := ⟨(turn % (cp : Int)).toNat, by have := Int.emod_nonneg turn (show (cp : Int) ≠ 0 by omega); omega⟩
  have hrl : r < cp := by have := Int.emod_lt_of_pos turn (show (0 : Int) < (cp : Int) by omega); omega
  have hrt : turn.tmod (cp : Int) = (r : Int) := by rw [Int.tmod_eq_emod_of_nonneg ht0]; exact hr
  have hlen : (copN S.c s).length = cp := by unfold copN; rw [List.length_map, List.length_range, hcp, Int.toNat_natCast]
  obtain ⟨wn, hwn⟩ : ∃ wn, turnW S.c s turn = wn := ⟨_, rfl⟩
  have hwg : (copN S.c s)[r]? = some wn := by rw [← hwn]; unfold turnW; rw [hcp, hr, Int.toNat_natCast, List.getD_eq_getElem?_getD, List.getElem?_eq_getElem (by omega)]; rfl
  have hrc : w.cell? ⟨rb, r, none⟩ = some (.int .i64 wn) := own_cell heach (by unfold ints; rw [List.getElem?_map, hwg]; rfl)
  have hcc : w.cell? ⟨cb, s, none⟩ = some (.slice (some ⟨rb, 0, none⟩) cp x.2) := own_cell hrow (by rw [List.getElem?_map, hx, ← hrb]; rfl)
  obtain ⟨ns, hns⟩ : ∃ ns, A.cps.length = ns := ⟨_, rfl⟩
  have t12 : w.cell? ⟨p, 12, none⟩ = some (.slice (some ⟨cb, 0, none⟩) ns A.cpc) := by have e : w.cell? ⟨p, 12, none⟩ = some (.slice A.cpa A.cps.length A.cpc) := h.blk.cell 12; rw [hns, hcb] at e; exact e
  have t14 : w.cell? ⟨p, 14, none⟩ = some (.pointer (some ⟨A.le, 0, none⟩)) := h.blk.cell 14
  have HBP := Lib.hid h.blk
  have HQB := Lib.hid (CWx.qb h id hm h0 (fun q => q)).1
  have HMG := Lib.hid (CWx.mg h id hm h0 (fun q => q)).mg
  have HEP := Lib.hid (epoch_any w A.le S.t wn (CWx.le h (fun q => q)).1 ho)
  have HAF := Lib.hid (after_any 0 (A.m id) (S.Q id).n (s : Int) (S.Q id).S (S.Q id).T w HMG.out)
  have k1 : (s : Int) < (ns : Int) := by omega
  have k2 : (0 : Int) ≤ (s : Int) := by omega
  have k3 : (r : Int) < (cp : Int) := by omega
  have k4 : (0 : Int) ≤ (r : Int) := by omega
  have k5 : (cp : Int) ≠ 0 := by omega
  have k6 : ((cp : Int) == 0) = false := by rw [beq_eq_false_iff_ne]; exact k5
  have k7 : IntKind.i64.wrap (r : Int) = (r : Int) := wr_in _ (by omega) (by omega)
  unfold AskE
  obtain ⟨LL, hLL⟩ : ∃ L, S.askL id s turn = L := ⟨_, rfl⟩
  rw [hLL]
  unfold CS.askL at hLL
  rw [hwn] at hLL
  obtain ⟨ep, hep⟩ : ∃ ep, S.t.epoch wn = ep := ⟨_, rfl⟩
  rw [hep] at HEP hLL
  have hepb : 0 ≤ ep := by rw [← hep]; unfold Tab.epoch; split; exact (ho.at wn).epoch0; omega
  obtain ⟨aft, haf⟩ : ∃ a, afterP (S.Q id).S (s : Int) = a := ⟨_, rfl⟩
  obtain ⟨⟨ad, aw⟩, ah⟩ := aft
  rw [haf] at HAF hLL
  obtain ⟨sq, hsq⟩ : ∃ x, seqP (S.Q id).S (s : Int) = x := ⟨_, rfl⟩
  rw [hsq] at hLL
  have HSE := Lib.hid hsq
  clear hsq
  clear h hm hI hrow heach hx hcb hrb hr hlen hwn hwg hns hep haf hcp
  go_enter Tryz.func121, Tryz.ntmps121
  go_wp2_with fail
  refine HEP.out.mono ?_
  clear HEP
  rintro e w' ⟨rfl, rfl⟩
  by_cases he : ep = 0
  · subst he
    rw [if_pos rfl] at hLL
    subst hLL
    go_wp2_with fail
    go_ret
    exact ⟨.slice none 0 0, rfl, LetAt.nil _ _ _, Below.refl _ _⟩
  rw [if_neg he] at hLL
  subst hLL
  have e1 : (ep == (0 : Int)) = false := by rw [beq_eq_false_iff_ne]; exact he
  have q5 : w.cell? ⟨A.q id, 5, none⟩ = some (.pointer (some ⟨A.m id, 0, none⟩)) := HQB.out.cell 5
  go_wp2_with fail
  clear t12 t14 hrc hcc q5
  refine HAF.out.mono ?_
  clear HAF
  rintro e w1 ⟨rfl, hb⟩
  have HB1 := Lib.hid hb
  clear hb
  obtain ⟨W, hW⟩ : ∃ W, w1.alloc (.cells #[.int .i64 ad, .string aw] 46) = W := ⟨_, rfl⟩
  have hbW : Below w1.heap.size w1 W := by rw [← hW]; exact (Below.refl _ w1).alloc (Nat.le_refl _) _
  have HBW := Lib.hid (show Below w.heap.size w W.drew from (HB1.out.trans (hbW.mono HB1.out.size)).drew)
  have HP2 := Lib.hid (HBP.out.below HBW.out HBP.out.lt)
  have HQ2 := Lib.hid (HQB.out.below HBW.out HQB.out.lt)
  have HT2 := Lib.hid (show Blk W.drew w1.heap.size 46 [.int .i64 ad, .string aw] from by rw [← hW]; exact heap_alloc_new w1 _)
  have HSQ := Lib.hid (seq_any 0 (A.m id) (S.Q id).n (s : Int) (S.Q id).S (S.Q id).T W.drew (HMG.out.below HBW.out))
  clear hbW HB1
  go_upto_region 7 with (rw [hW])
  clear hW
  rw [HSE.out] at HSQ
  obtain ⟨tb, htb⟩ : ∃ x, w1.heap.size = x := ⟨_, rfl⟩
  rw [htb] at HT2 ⊢
  clear htb
  refine wp_region_held_drew (S := (fun w' => w'.cell? ⟨A.q id, 0, none⟩ = some (.int .i64 (id : Nat)) ∧ w'.cell? ⟨A.q id, 1, none⟩ = some (.int .i64 ((S.Q id).slot : Nat)) ∧ w'.cell? ⟨A.q id, 2, none⟩ = some (.string (S.Q id).q) ∧ w'.cell? ⟨A.q id, 3, none⟩ = some (.int .i64 (S.Q id).k) ∧ w'.cell? ⟨A.q id, 5, none⟩ = some (.pointer (some ⟨A.m id, 0, none⟩)) ∧ w'.cell? ⟨p, 5, none⟩ = some (.int .i64 S.c.ba) ∧ w'.cell? ⟨tb, 0, none⟩ = some (.int .i64 ad) ∧ w'.cell? ⟨tb, 1, none⟩ = some (.string aw))) (by kernel_rfl) (by first | exact ⟨HQ2.out.cell 0, HQ2.out.cell 1, HQ2.out.cell 2, HQ2.out.cell 3, HQ2.out.cell 5, HP2.out.cell 5, HT2.out.cell 0, HT2.out.cell 1⟩ | exact ⟨(show Blk (W.alloc (.cells #[.int .i64 wn, MV.val (.ask ((S.Q id).slot : Nat) (id : Nat) (s : Nat) sq ep (S.Q id).q (S.Q id).k S.c.ba (!ah) ad aw)] 51)).drew _ _ _ from Blk.alloc HQ2.out (.cells #[.int .i64 wn, MV.val (.ask ((S.Q id).slot : Nat) (id : Nat) (s : Nat) sq ep (S.Q id).q (S.Q id).k S.c.ba (!ah) ad aw)] 51)).cell 0, (show Blk (W.alloc (.cells #[.int .i64 wn, MV.val (.ask ((S.Q id).slot : Nat) (id : Nat) (s : Nat) sq ep (S.Q id).q (S.Q id).k S.c.ba (!ah) ad aw)] 51)).drew _ _ _ from Blk.alloc HQ2.out (.cells #[.int .i64 wn, MV.val (.ask ((S.Q id).slot : Nat) (id : Nat) (s : Nat) sq ep (S.Q id).q (S.Q id).k S.c.ba (!ah) ad aw)] 51)).cell 1, (show Blk (W.alloc (.cells #[.int .i64 wn, MV.val (.ask ((S.Q id).slot : Nat) (id : Nat) (s : Nat) sq ep (S.Q id).q (S.Q id).k S.c.ba (!ah) ad aw)] 51)).drew _ _ _ from Blk.alloc HQ2.out (.cells #[.int .i64 wn, MV.val (.ask ((S.Q id).slot : Nat) (id : Nat) (s : Nat) sq ep (S.Q id).q (S.Q id).k S.c.ba (!ah) ad aw)] 51)).cell 2, (show Blk (W.alloc (.cells #[.int .i64 wn, MV.val (.ask ((S.Q id).slot : Nat) (id : Nat) (s : Nat) sq ep (S.Q id).q (S.Q id).k S.c.ba (!ah) ad aw)] 51)).drew _ _ _ from Blk.alloc HQ2.out (.cells #[.int .i64 wn, MV.val (.ask ((S.Q id).slot : Nat) (id : Nat) (s : Nat) sq ep (S.Q id).q (S.Q id).k S.c.ba (!ah) ad aw)] 51)).cell 3, (show Blk (W.alloc (.cells #[.int .i64 wn, MV.val (.ask ((S.Q id).slot : Nat) (id : Nat) (s : Nat) sq ep (S.Q id).q (S.Q id).k S.c.ba (!ah) ad aw)] 51)).drew _ _ _ from Blk.alloc HQ2.out (.cells #[.int .i64 wn, MV.val (.ask ((S.Q id).slot : Nat) (id : Nat) (s : Nat) sq ep (S.Q id).q (S.Q id).k S.c.ba (!ah) ad aw)] 51)).cell 5, (show Blk (W.alloc (.cells #[.int .i64 wn, MV.val (.ask ((S.Q id).slot : Nat) (id : Nat) (s : Nat) sq ep (S.Q id).q (S.Q id).k S.c.ba (!ah) ad aw)] 51)).drew _ _ _ from Blk.alloc HP2.out (.cells #[.int .i64 wn, MV.val (.ask ((S.Q id).slot : Nat) (id : Nat) (s : Nat) sq ep (S.Q id).q (S.Q id).k S.c.ba (!ah) ad aw)] 51)).cell 5, (show Blk (W.alloc (.cells #[.int .i64 wn, MV.val (.ask ((S.Q id).slot : Nat) (id : Nat) (s : Nat) sq ep (S.Q id).q (S.Q id).k S.c.ba (!ah) ad aw)] 51)).drew _ _ _ from Blk.alloc HT2.out (.cells #[.int .i64 wn, MV.val (.ask ((S.Q id).slot : Nat) (id : Nat) (s : Nat) sq ep (S.Q id).q (S.Q id).k S.c.ba (!ah) ad aw)] 51)).cell 0, (show Blk (W.alloc (.cells #[.int .i64 wn, MV.val (.ask ((S.Q id).slot : Nat) (id : Nat) (s : Nat) sq ep (S.Q id).q (S.Q id).k S.c.ba (!ah) ad aw)] 51)).drew _ _ _ from Blk.alloc HT2.out (.cells #[.int .i64 wn, MV.val (.ask ((S.Q id).slot : Nat) (id : Nat) (s : Nat) sq ep (S.Q id).q (S.Q id).k S.c.ba (!ah) ad aw)] 51)).cell 1⟩) (fun hHeld => ?_)
  refine takeO 0 (some 45) (v := ?_) rfl rfl (by kernel_rfl) (by kernel_rfl) (by kernel_rfl) (fun _ _ _ h => h) (Or.inl ⟨by rfl, ?_⟩) (by assumption) ?_
  rotate_left 1
  · intro w hSw; (try dsimp only at hSw); go_simp; all_goals with_reducible rfl
  try simp only [Act.put, List.setIfInBounds_toArray, List.set_cons_zero, List.set_cons_succ]
  refine takeO 1 (some 46) (v := ?_) rfl rfl (by kernel_rfl) (by kernel_rfl) (by kernel_rfl) (fun _ _ _ h => h) (Or.inl ⟨by rfl, ?_⟩) (by assumption) ?_
  rotate_left 1
  · intro w hSw; (try dsimp only at hSw); go_simp; all_goals with_reducible rfl
  try simp only [Act.put, List.setIfInBounds_toArray, List.set_cons_zero, List.set_cons_succ]
  refine takeO 2 (some 47) (v := ?_) rfl rfl (by kernel_rfl) (by kernel_rfl) (by kernel_rfl) (fun _ _ _ h => h) (Or.inl ⟨by rfl, ?_⟩) (by assumption) ?_
  rotate_left 1
  · intro w hSw; (try dsimp only at hSw); go_simp; all_goals with_reducible rfl
  try simp only [Act.put, List.setIfInBounds_toArray, List.set_cons_zero, List.set_cons_succ]
  refine takeO 3 (some 48) (v := ?_) rfl rfl (by kernel_rfl) (by kernel_rfl) (by kernel_rfl) (fun _ _ _ h => h) (Or.inl ⟨by rfl, ?_⟩) (by assumption) ?_
  rotate_left 1
  · intro w hSw; (try dsimp only at hSw); go_simp; all_goals with_reducible rfl
  try simp only [Act.put, List.setIfInBounds_toArray, List.set_cons_zero, List.set_cons_succ]
  refine takeO 4 (some 49) (v := ?_) rfl rfl (by kernel_rfl) (by kernel_rfl) (by kernel_rfl) (fun _ _ _ h => h) (Or.inl ⟨by rfl, ?_⟩) (by assumption) ?_
  rotate_left 1
  · intro w hSw; (try dsimp only at hSw); go_simp; all_goals with_reducible rfl
  try simp only [Act.put, List.setIfInBounds_toArray, List.set_cons_zero, List.set_cons_succ]
  refine takeO 5 (some 50) (v := ?_) rfl rfl (by kernel_rfl) (by kernel_rfl) (by kernel_rfl) (fun _ _ _ h => h) (Or.inl ⟨by rfl, ?_⟩) (by assumption) ?_
  rotate_left 1
  · intro w hSw; (try dsimp only at hSw); go_simp; all_goals with_reducible rfl
  try simp only [Act.put, List.setIfInBounds_toArray, List.set_cons_zero, List.set_cons_succ]
  refine takeO 6 (some 51) (v := ?_) rfl rfl (by kernel_rfl) (by kernel_rfl) (by kernel_rfl) (fun _ _ _ h => h) (Or.inl ⟨by rfl, ?_⟩) (by assumption) ?_
  rotate_left 1
  · intro w hSw; (try dsimp only at hSw); go_simp; all_goals with_reducible rfl
  try simp only [Act.put, List.setIfInBounds_toArray, List.set_cons_zero, List.set_cons_succ]
  refine takeO 7 (some 52) (v := ?_) rfl rfl (by kernel_rfl) (by kernel_rfl) (by kernel_rfl) (fun _ _ _ h => h) (Or.inl ⟨by rfl, ?_⟩) (by assumption) ?_
  rotate_left 1
  · intro w hSw; (try dsimp only at hSw); go_simp; all_goals with_reducible rfl
  try simp only [Act.put, List.setIfInBounds_toArray, List.set_cons_zero, List.set_cons_succ]
  refine takeO 8 (some 53) (v := ?_) rfl rfl (by kernel_rfl) (by kernel_rfl) (by kernel_rfl) (fun _ _ _ h => h) (Or.inl ⟨by rfl, ?_⟩) (by assumption) ?_
  rotate_left 1
  · intro w hSw; (try dsimp only at hSw); go_simp; all_goals with_reducible rfl
  try simp only [Act.put, List.setIfInBounds_toArray, List.set_cons_zero, List.set_cons_succ]
  refine takeO 9 (some 54) (v := ?_) rfl rfl (by kernel_rfl) (by kernel_rfl) (by kernel_rfl) (fun _ _ _ h => h) (Or.inl ⟨by rfl, ?_⟩) (by assumption) ?_
  rotate_left 1
  · intro w hSw; (try dsimp only at hSw); go_simp; all_goals with_reducible rfl
  try simp only [Act.put, List.setIfInBounds_toArray, List.set_cons_zero, List.set_cons_succ]
  refine takeO 10 (some 55) (v := ?_) rfl rfl (by kernel_rfl) (by kernel_rfl) (by kernel_rfl) (fun _ _ _ h => h) (Or.inl ⟨by rfl, ?_⟩) (by assumption) ?_
  rotate_left 1
  · intro w hSw; (try dsimp only at hSw); go_simp; all_goals with_reducible rfl
  try simp only [Act.put, List.setIfInBounds_toArray, List.set_cons_zero, List.set_cons_succ]
  refine takeO 11 (some 56) (v := ?_) rfl rfl (by kernel_rfl) (by kernel_rfl) (by kernel_rfl) (fun _ _ _ h => h) (Or.inl ⟨by rfl, ?_⟩) (by assumption) ?_
  rotate_left 1
  · intro w hSw; (try dsimp only at hSw); go_simp; all_goals with_reducible rfl
  try simp only [Act.put, List.setIfInBounds_toArray, List.set_cons_zero, List.set_cons_succ]
  refine takeO 12 (some 57) (v := ?_) rfl rfl (by kernel_rfl) (by kernel_rfl) (by kernel_rfl) (fun _ _ _ h => h) (Or.inl ⟨by rfl, ?_⟩) (by assumption) ?_
  rotate_left 1
  · intro w hSw; (try dsimp only at hSw); go_simp; all_goals with_reducible rfl
  try simp only [Act.put, List.setIfInBounds_toArray, List.set_cons_zero, List.set_cons_succ]
  refine takeO 13 (some 58) (v := ?_) rfl rfl (by kernel_rfl) (by kernel_rfl) (by kernel_rfl) (fun _ _ _ h => h) (Or.inl ⟨by rfl, ?_⟩) (by assumption) ?_
  rotate_left 1
  · intro w hSw; (try dsimp only at hSw); go_simp; all_goals with_reducible rfl
  try simp only [Act.put, List.setIfInBounds_toArray, List.set_cons_zero, List.set_cons_succ]
  refine takeO 14 (some 59) (v := ?_) rfl rfl (by kernel_rfl) (by kernel_rfl) (by kernel_rfl) (fun _ _ _ h => h) (Or.inl ⟨by rfl, ?_⟩) (by assumption) ?_
  rotate_left 1
  · intro w hSw; (try dsimp only at hSw); go_simp; all_goals with_reducible rfl
  try simp only [Act.put, List.setIfInBounds_toArray, List.set_cons_zero, List.set_cons_succ]
  refine takeO 16 (some 61) (v := ?_) rfl rfl (by kernel_rfl) (by kernel_rfl) (by kernel_rfl) (fun _ _ _ h => h) (Or.inl ⟨by rfl, ?_⟩) (by assumption) ?_
  rotate_left 1
  · intro w hSw; (try dsimp only at hSw); go_simp; all_goals with_reducible rfl
  try simp only [Act.put, List.setIfInBounds_toArray, List.set_cons_zero, List.set_cons_succ]
  refine takeO 17 (some 62) (v := ?_) rfl rfl (by kernel_rfl) (by kernel_rfl) (by kernel_rfl) (fun _ _ _ h => h) (Or.inl ⟨by rfl, ?_⟩) (by assumption) ?_
  rotate_left 1
  · intro w hSw; (try dsimp only at hSw); go_simp; all_goals with_reducible rfl
  try simp only [Act.put, List.setIfInBounds_toArray, List.set_cons_zero, List.set_cons_succ]
  refine takeO 18 (some 63) (v := ?_) rfl rfl (by kernel_rfl) (by kernel_rfl) (by kernel_rfl) (fun _ _ _ h => h) (Or.inl ⟨by rfl, ?_⟩) (by assumption) ?_
  rotate_left 1
  · intro w hSw; (try dsimp only at hSw); go_simp; all_goals with_reducible rfl
  try simp only [Act.put, List.setIfInBounds_toArray, List.set_cons_zero, List.set_cons_succ]
  refine takeO 19 (some 64) (v := ?_) rfl rfl (by kernel_rfl) (by kernel_rfl) (by kernel_rfl) (fun _ _ _ h => h) (Or.inl ⟨by rfl, ?_⟩) (by assumption) ?_
  rotate_left 1
  · intro w hSw; (try dsimp only at hSw); go_simp; all_goals with_reducible rfl
  try simp only [Act.put, List.setIfInBounds_toArray, List.set_cons_zero, List.set_cons_succ]
  refine takeO 20 (some 65) (v := ?_) rfl rfl (by kernel_rfl) (by kernel_rfl) (by kernel_rfl) (fun _ _ _ h => h) (Or.inl ⟨by rfl, ?_⟩) (by assumption) ?_
  rotate_left 1
  · intro w hSw; (try dsimp only at hSw); go_simp; all_goals with_reducible rfl
  try simp only [Act.put, List.setIfInBounds_toArray, List.set_cons_zero, List.set_cons_succ]
  refine takeO 21 (some 66) (v := ?_) rfl rfl (by kernel_rfl) (by kernel_rfl) (by kernel_rfl) (fun _ _ _ h => h) (Or.inl ⟨by rfl, ?_⟩) (by assumption) ?_
  rotate_left 1
  · intro w hSw; (try dsimp only at hSw); go_simp; all_goals with_reducible rfl
  try simp only [Act.put, List.setIfInBounds_toArray, List.set_cons_zero, List.set_cons_succ]
  refine takeO 22 (some 67) (v := ?_) rfl rfl (by kernel_rfl) (by kernel_rfl) (by kernel_rfl) (fun _ _ _ h => h) (Or.inl ⟨by rfl, ?_⟩) (by assumption) ?_
  rotate_left 1
  · intro w hSw; (try dsimp only at hSw); go_simp; all_goals with_reducible rfl
  try simp only [Act.put, List.setIfInBounds_toArray, List.set_cons_zero, List.set_cons_succ]
  refine takeO 23 (some 68) (v := ?_) rfl rfl (by kernel_rfl) (by kernel_rfl) (by kernel_rfl) (fun _ _ _ h => h) (Or.inl ⟨by rfl, ?_⟩) (by assumption) ?_
  rotate_left 1
  · intro w hSw; (try dsimp only at hSw); go_simp; all_goals with_reducible rfl
  try simp only [Act.put, List.setIfInBounds_toArray, List.set_cons_zero, List.set_cons_succ]
  refine takeO 24 (some 69) (v := ?_) rfl rfl (by kernel_rfl) (by kernel_rfl) (by kernel_rfl) (fun _ _ _ h => h) (Or.inl ⟨by rfl, ?_⟩) (by assumption) ?_
  rotate_left 1
  · intro w hSw; (try dsimp only at hSw); go_simp; all_goals with_reducible rfl
  try simp only [Act.put, List.setIfInBounds_toArray, List.set_cons_zero, List.set_cons_succ]
  refine takeO 25 (some 70) (v := ?_) rfl rfl (by kernel_rfl) (by kernel_rfl) (by kernel_rfl) (fun _ _ _ h => h) (Or.inl ⟨by rfl, ?_⟩) (by assumption) ?_
  rotate_left 1
  · intro w hSw; (try dsimp only at hSw); go_simp; all_goals with_reducible rfl
  try simp only [Act.put, List.setIfInBounds_toArray, List.set_cons_zero, List.set_cons_succ]
  refine takeO 26 (some 71) (v := ?_) rfl rfl (by kernel_rfl) (by kernel_rfl) (by kernel_rfl) (fun _ _ _ h => h) (Or.inl ⟨by rfl, ?_⟩) (by assumption) ?_
  rotate_left 1
  · intro w hSw; (try dsimp only at hSw); go_simp; all_goals with_reducible rfl
  try simp only [Act.put, List.setIfInBounds_toArray, List.set_cons_zero, List.set_cons_succ]
  refine takeO 27 (some 72) (v := ?_) rfl rfl (by kernel_rfl) (by kernel_rfl) (by kernel_rfl) (fun _ _ _ h => h) (Or.inl ⟨by rfl, ?_⟩) (by assumption) ?_
  rotate_left 1
  · intro w hSw; (try dsimp only at hSw); go_simp; all_goals with_reducible rfl
  try simp only [Act.put, List.setIfInBounds_toArray, List.set_cons_zero, List.set_cons_succ]
  refine takeO 28 (some 73) (v := ?_) rfl rfl (by kernel_rfl) (by kernel_rfl) (by kernel_rfl) (fun _ _ _ h => h) (Or.inl ⟨by rfl, ?_⟩) (by assumption) ?_
  rotate_left 1
  · intro w hSw; (try dsimp only at hSw); go_simp; all_goals with_reducible rfl
  try simp only [Act.put, List.setIfInBounds_toArray, List.set_cons_zero, List.set_cons_succ]
  refine takeO 29 (some 74) (v := ?_) rfl rfl (by kernel_rfl) (by kernel_rfl) (by kernel_rfl) (fun _ _ _ h => h) (Or.inl ⟨by rfl, ?_⟩) (by assumption) ?_
  rotate_left 1
  · intro w hSw; (try dsimp only at hSw); go_simp; all_goals with_reducible rfl
  try simp only [Act.put, List.setIfInBounds_toArray, List.set_cons_zero, List.set_cons_succ]
  refine takeO 30 (some 75) (v := ?_) rfl rfl (by kernel_rfl) (by kernel_rfl) (by kernel_rfl) (fun _ _ _ h => h) (Or.inl ⟨by rfl, ?_⟩) (by assumption) ?_
  rotate_left 1
  · intro w hSw; (try dsimp only at hSw); go_simp; all_goals with_reducible rfl
  try simp only [Act.put, List.setIfInBounds_toArray, List.set_cons_zero, List.set_cons_succ]
  refine takeO 31 (some 76) (v := ?_) rfl rfl (by kernel_rfl) (by kernel_rfl) (by kernel_rfl) (fun _ _ _ h => h) (Or.inl ⟨by rfl, ?_⟩) (by assumption) ?_
  rotate_left 1
  · intro w hSw; (try dsimp only at hSw); go_simp; all_goals with_reducible rfl
  try simp only [Act.put, List.setIfInBounds_toArray, List.set_cons_zero, List.set_cons_succ]
  refine takeO 32 (some 77) (v := ?_) rfl rfl (by kernel_rfl) (by kernel_rfl) (by kernel_rfl) (fun _ _ _ h => h) (Or.inl ⟨by rfl, ?_⟩) (by assumption) ?_
  rotate_left 1
  · intro w hSw; (try dsimp only at hSw); go_simp; all_goals with_reducible rfl
  try simp only [Act.put, List.setIfInBounds_toArray, List.set_cons_zero, List.set_cons_succ]
  refine takeO 33 (some 78) (v := ?_) rfl rfl (by kernel_rfl) (by kernel_rfl) (by kernel_rfl) (fun _ _ _ h => h) (Or.inl ⟨by rfl, ?_⟩) (by assumption) ?_
  rotate_left 1
  · intro w hSw; (try dsimp only at hSw); go_simp; all_goals with_reducible rfl
  try simp only [Act.put, List.setIfInBounds_toArray, List.set_cons_zero, List.set_cons_succ]
  refine takeO 34 (some 79) (v := ?_) rfl rfl (by kernel_rfl) (by kernel_rfl) (by kernel_rfl) (fun _ _ _ h => h) (Or.inl ⟨by rfl, ?_⟩) (by assumption) ?_
  rotate_left 1
  · intro w hSw; (try dsimp only at hSw); go_simp; all_goals with_reducible rfl
  try simp only [Act.put, List.setIfInBounds_toArray, List.set_cons_zero, List.set_cons_succ]
  refine wpAnyH_ready (rs := [15]) (by kernel_rfl) (by simp) ?_
  refine AllReadyH.cons rfl (fun K hK => ?_) AllReadyH.nil
  go_simp
  refine HSQ.out.mono ?_; rintro e w' ⟨rfl, rfl⟩
  go_wp2_with fail
  refine hK.out _ _ (by first | exact ⟨HQ2.out.cell 0, HQ2.out.cell 1, HQ2.out.cell 2, HQ2.out.cell 3, HQ2.out.cell 5, HP2.out.cell 5, HT2.out.cell 0, HT2.out.cell 1⟩ | exact ⟨(show Blk (W.alloc (.cells #[.int .i64 wn, MV.val (.ask ((S.Q id).slot : Nat) (id : Nat) (s : Nat) sq ep (S.Q id).q (S.Q id).k S.c.ba (!ah) ad aw)] 51)).drew _ _ _ from Blk.alloc HQ2.out (.cells #[.int .i64 wn, MV.val (.ask ((S.Q id).slot : Nat) (id : Nat) (s : Nat) sq ep (S.Q id).q (S.Q id).k S.c.ba (!ah) ad aw)] 51)).cell 0, (show Blk (W.alloc (.cells #[.int .i64 wn, MV.val (.ask ((S.Q id).slot : Nat) (id : Nat) (s : Nat) sq ep (S.Q id).q (S.Q id).k S.c.ba (!ah) ad aw)] 51)).drew _ _ _ from Blk.alloc HQ2.out (.cells #[.int .i64 wn, MV.val (.ask ((S.Q id).slot : Nat) (id : Nat) (s : Nat) sq ep (S.Q id).q (S.Q id).k S.c.ba (!ah) ad aw)] 51)).cell 1, (show Blk (W.alloc (.cells #[.int .i64 wn, MV.val (.ask ((S.Q id).slot : Nat) (id : Nat) (s : Nat) sq ep (S.Q id).q (S.Q id).k S.c.ba (!ah) ad aw)] 51)).drew _ _ _ from Blk.alloc HQ2.out (.cells #[.int .i64 wn, MV.val (.ask ((S.Q id).slot : Nat) (id : Nat) (s : Nat) sq ep (S.Q id).q (S.Q id).k S.c.ba (!ah) ad aw)] 51)).cell 2, (show Blk (W.alloc (.cells #[.int .i64 wn, MV.val (.ask ((S.Q id).slot : Nat) (id : Nat) (s : Nat) sq ep (S.Q id).q (S.Q id).k S.c.ba (!ah) ad aw)] 51)).drew _ _ _ from Blk.alloc HQ2.out (.cells #[.int .i64 wn, MV.val (.ask ((S.Q id).slot : Nat) (id : Nat) (s : Nat) sq ep (S.Q id).q (S.Q id).k S.c.ba (!ah) ad aw)] 51)).cell 3, (show Blk (W.alloc (.cells #[.int .i64 wn, MV.val (.ask ((S.Q id).slot : Nat) (id : Nat) (s : Nat) sq ep (S.Q id).q (S.Q id).k S.c.ba (!ah) ad aw)] 51)).drew _ _ _ from Blk.alloc HQ2.out (.cells #[.int .i64 wn, MV.val (.ask ((S.Q id).slot : Nat) (id : Nat) (s : Nat) sq ep (S.Q id).q (S.Q id).k S.c.ba (!ah) ad aw)] 51)).cell 5, (show Blk (W.alloc (.cells #[.int .i64 wn, MV.val (.ask ((S.Q id).slot : Nat) (id : Nat) (s : Nat) sq ep (S.Q id).q (S.Q id).k S.c.ba (!ah) ad aw)] 51)).drew _ _ _ from Blk.alloc HP2.out (.cells #[.int .i64 wn, MV.val (.ask ((S.Q id).slot : Nat) (id : Nat) (s : Nat) sq ep (S.Q id).q (S.Q id).k S.c.ba (!ah) ad aw)] 51)).cell 5, (show Blk (W.alloc (.cells #[.int .i64 wn, MV.val (.ask ((S.Q id).slot : Nat) (id : Nat) (s : Nat) sq ep (S.Q id).q (S.Q id).k S.c.ba (!ah) ad aw)] 51)).drew _ _ _ from Blk.alloc HT2.out (.cells #[.int .i64 wn, MV.val (.ask ((S.Q id).slot : Nat) (id : Nat) (s : Nat) sq ep (S.Q id).q (S.Q id).k S.c.ba (!ah) ad aw)] 51)).cell 0, (show Blk (W.alloc (.cells #[.int .i64 wn, MV.val (.ask ((S.Q id).slot : Nat) (id : Nat) (s : Nat) sq ep (S.Q id).q (S.Q id).k S.c.ba (!ah) ad aw)] 51)).drew _ _ _ from Blk.alloc HT2.out (.cells #[.int .i64 wn, MV.val (.ask ((S.Q id).slot : Nat) (id : Nat) (s : Nat) sq ep (S.Q id).q (S.Q id).k S.c.ba (!ah) ad aw)] 51)).cell 1⟩) (fun hHeld => ?_)
  clear hK K
  try simp only [Act.put, List.setIfInBounds_toArray, List.set_cons_zero, List.set_cons_succ]
  refine takeO 35 (some 80) (v := ?_) rfl rfl (by kernel_rfl) (by kernel_rfl) (by kernel_rfl) (fun _ _ _ h => h) (Or.inl ⟨by rfl, ?_⟩) (by assumption) ?_
  rotate_left 1
  · intro w hSw; (try dsimp only at hSw); go_simp; all_goals with_reducible rfl
  try simp only [Act.put, List.setIfInBounds_toArray, List.set_cons_zero, List.set_cons_succ]
  refine takeO 36 (some 81) (v := ?_) rfl rfl (by kernel_rfl) (by kernel_rfl) (by kernel_rfl) (fun _ _ _ h => h) (Or.inl ⟨by rfl, ?_⟩) (by assumption) ?_
  rotate_left 1
  · intro w hSw; (try dsimp only at hSw); go_simp; all_goals with_reducible rfl
  try simp only [Act.put, List.setIfInBounds_toArray, List.set_cons_zero, List.set_cons_succ]
  refine takeO 37 (some 82) (v := ?_) rfl rfl (by kernel_rfl) (by kernel_rfl) (by kernel_rfl) (fun _ _ _ h => h) (Or.inl ⟨by rfl, ?_⟩) (by assumption) ?_
  rotate_left 1
  · intro w hSw; (try dsimp only at hSw); go_simp; all_goals with_reducible rfl
  try simp only [Act.put, List.setIfInBounds_toArray, List.set_cons_zero, List.set_cons_succ]
  refine wpAnyH_ready (rs := [38]) (by kernel_rfl) (by simp) ?_
  refine AllReadyH.cons rfl (fun K hK => ?_) AllReadyH.nil
  go_simp
  go_wp2_with fail
  refine hK.out _ _ (by first | exact ⟨HQ2.out.cell 0, HQ2.out.cell 1, HQ2.out.cell 2, HQ2.out.cell 3, HQ2.out.cell 5, HP2.out.cell 5, HT2.out.cell 0, HT2.out.cell 1⟩ | exact ⟨(show Blk (W.alloc (.cells #[.int .i64 wn, MV.val (.ask ((S.Q id).slot : Nat) (id : Nat) (s : Nat) sq ep (S.Q id).q (S.Q id).k S.c.ba (!ah) ad aw)] 51)).drew _ _ _ from Blk.alloc HQ2.out (.cells #[.int .i64 wn, MV.val (.ask ((S.Q id).slot : Nat) (id : Nat) (s : Nat) sq ep (S.Q id).q (S.Q id).k S.c.ba (!ah) ad aw)] 51)).cell 0, (show Blk (W.alloc (.cells #[.int .i64 wn, MV.val (.ask ((S.Q id).slot : Nat) (id : Nat) (s : Nat) sq ep (S.Q id).q (S.Q id).k S.c.ba (!ah) ad aw)] 51)).drew _ _ _ from Blk.alloc HQ2.out (.cells #[.int .i64 wn, MV.val (.ask ((S.Q id).slot : Nat) (id : Nat) (s : Nat) sq ep (S.Q id).q (S.Q id).k S.c.ba (!ah) ad aw)] 51)).cell 1, (show Blk (W.alloc (.cells #[.int .i64 wn, MV.val (.ask ((S.Q id).slot : Nat) (id : Nat) (s : Nat) sq ep (S.Q id).q (S.Q id).k S.c.ba (!ah) ad aw)] 51)).drew _ _ _ from Blk.alloc HQ2.out (.cells #[.int .i64 wn, MV.val (.ask ((S.Q id).slot : Nat) (id : Nat) (s : Nat) sq ep (S.Q id).q (S.Q id).k S.c.ba (!ah) ad aw)] 51)).cell 2, (show Blk (W.alloc (.cells #[.int .i64 wn, MV.val (.ask ((S.Q id).slot : Nat) (id : Nat) (s : Nat) sq ep (S.Q id).q (S.Q id).k S.c.ba (!ah) ad aw)] 51)).drew _ _ _ from Blk.alloc HQ2.out (.cells #[.int .i64 wn, MV.val (.ask ((S.Q id).slot : Nat) (id : Nat) (s : Nat) sq ep (S.Q id).q (S.Q id).k S.c.ba (!ah) ad aw)] 51)).cell 3, (show Blk (W.alloc (.cells #[.int .i64 wn, MV.val (.ask ((S.Q id).slot : Nat) (id : Nat) (s : Nat) sq ep (S.Q id).q (S.Q id).k S.c.ba (!ah) ad aw)] 51)).drew _ _ _ from Blk.alloc HQ2.out (.cells #[.int .i64 wn, MV.val (.ask ((S.Q id).slot : Nat) (id : Nat) (s : Nat) sq ep (S.Q id).q (S.Q id).k S.c.ba (!ah) ad aw)] 51)).cell 5, (show Blk (W.alloc (.cells #[.int .i64 wn, MV.val (.ask ((S.Q id).slot : Nat) (id : Nat) (s : Nat) sq ep (S.Q id).q (S.Q id).k S.c.ba (!ah) ad aw)] 51)).drew _ _ _ from Blk.alloc HP2.out (.cells #[.int .i64 wn, MV.val (.ask ((S.Q id).slot : Nat) (id : Nat) (s : Nat) sq ep (S.Q id).q (S.Q id).k S.c.ba (!ah) ad aw)] 51)).cell 5, (show Blk (W.alloc (.cells #[.int .i64 wn, MV.val (.ask ((S.Q id).slot : Nat) (id : Nat) (s : Nat) sq ep (S.Q id).q (S.Q id).k S.c.ba (!ah) ad aw)] 51)).drew _ _ _ from Blk.alloc HT2.out (.cells #[.int .i64 wn, MV.val (.ask ((S.Q id).slot : Nat) (id : Nat) (s : Nat) sq ep (S.Q id).q (S.Q id).k S.c.ba (!ah) ad aw)] 51)).cell 0, (show Blk (W.alloc (.cells #[.int .i64 wn, MV.val (.ask ((S.Q id).slot : Nat) (id : Nat) (s : Nat) sq ep (S.Q id).q (S.Q id).k S.c.ba (!ah) ad aw)] 51)).drew _ _ _ from Blk.alloc HT2.out (.cells #[.int .i64 wn, MV.val (.ask ((S.Q id).slot : Nat) (id : Nat) (s : Nat) sq ep (S.Q id).q (S.Q id).k S.c.ba (!ah) ad aw)] 51)).cell 1⟩) (fun hHeld => ?_)
  clear hK K
  try simp only [Act.put, List.setIfInBounds_toArray, List.set_cons_zero, List.set_cons_succ]
  refine takeO 39 (some 8) (v := ?_) rfl rfl (by kernel_rfl) (by kernel_rfl) (by kernel_rfl) (fun _ _ _ h => h) (Or.inl ⟨by rfl, ?_⟩) (by assumption) ?_
  rotate_left 1
  · intro w hSw; (try dsimp only at hSw); go_simp; all_goals with_reducible rfl
  try simp only [Act.put, List.setIfInBounds_toArray, List.set_cons_zero, List.set_cons_succ]
  refine wpAnyH_done (by kernel_rfl) ?_ _
  go_wp2_with fail
  go_ret
  refine ⟨.slice (some ⟨W.heap.size, 0, none⟩) 1 1, rfl, LetAt.one' (g := W.heap.size) (heap_alloc_new W (.cells #[.int .i64 wn, MV.val (.ask ((S.Q id).slot : Nat) (id : Nat) (s : Nat) sq ep (S.Q id).q (S.Q id).k S.c.ba (!ah) ad aw)] 51)) (Own.upd_ge HBW.out.size) HBW.out.size, ?_⟩
  exact (show Below w.heap.size w (W.drew.alloc (.cells #[.int .i64 wn, MV.val (.ask ((S.Q id).slot : Nat) (id : Nat) (s : Nat) sq ep (S.Q id).q (S.Q id).k S.c.ba (!ah) ad aw)] 51)) from HBW.out.alloc HBW.out.size _)
end
end Go.Proofs.YtinkbgeckjbnbaaGreat
namespace Go.Proofs.YtinkbgeckjbnbaaGreat
section
open Go.RowKit
set_option linter.unusedVariables false

/-- does a shard's j-th copy live? -/
def CS.liveJ (S : CS) (s j : Nat) : Bool := S.t.live ((copN S.c s).getD j 0) S.now
/-- the first of the copies that lives; -1: none does -/
def CS.firstL (S : CS) (s : Nat) : Int := match (List.range S.c.cp.toNat).find? (S.liveJ s) with
  | some k => (k : Nat)
  | none => -1
set_option maxRecDepth 100000 in
theorem firstL_at {S : CS} {s k : Nat} (hk : k < S.c.cp.toNat) (h : S.liveJ s k = true) (hj : ∀ j, j < k → S.liveJ s j = false) : S.firstL s = (k : Nat) := by
  unfold CS.firstL
  have : (List.range S.c.cp.toNat).find? (S.liveJ s) = some k := by rw [List.find?_range_eq_some]; exact ⟨h, by simpa using hk, fun j h1 => by rw [hj j h1]; rfl⟩
  rw [this]
set_option maxRecDepth 100000 in
theorem firstL_no {S : CS} {s : Nat} (hj : ∀ j, j < S.c.cp.toNat → S.liveJ s j = false) : S.firstL s = -1 := by
  unfold CS.firstL
  have : (List.range S.c.cp.toNat).find? (S.liveJ s) = none := by rw [List.find?_range_eq_none]; intro j h1; rw [hj j h1]; rfl
  rw [this]
set_option maxRecDepth 100000 in
theorem firstL_bd (S : CS) (s : Nat) : -1 ≤ S.firstL s ∧ S.firstL s < max 1 (S.c.cp.toNat : Int) := by
  unfold CS.firstL
  split
  · rename_i k hk
    rw [List.find?_range_eq_some] at hk
    have : k < S.c.cp.toNat := by simpa using hk.2.1
    omega
  · omega
set_option maxRecDepth 100000 in
theorem wlive_any {O : Own} {A : CA} {p : Nat} {S : CS} (v : Int) (b : Nat) (w : World) (h : CW w O A p S) (ho : S.t.ok) (hb : w.cell? ⟨b, 0, none⟩ = some (.pointer (some ⟨p, 0, none⟩))) :
    Calls Tryz.prog 118 #[.int .i64 v, .pointer (some ⟨b, 0, none⟩)] w fun e w' => e = .returned (.bool (S.t.live v S.now)) ∧ Below w.heap.size w w' := by
  have HLI := Lib.hid (live_any w.drew A.le S.t v S.now (CWx.le h (fun q => q)).1 ho)
  have t14 : w.drew.cell? ⟨p, 14, none⟩ = some (.pointer (some ⟨A.le, 0, none⟩)) := h.blk.cell 14
  have t13 : w.drew.cell? ⟨p, 13, none⟩ = some (.int .i64 S.now) := h.blk.cell 13
  have tb : w.drew.cell? ⟨b, 0, none⟩ = some (.pointer (some ⟨p, 0, none⟩)) := hb
  have HH := Lib.hid (And.intro t14 (And.intro t13 tb))
  clear h hb t14 t13 tb
  obtain ⟨R, hR⟩ : ∃ R, S.t.live v S.now = R := ⟨_, rfl⟩
  rw [hR] at HLI ⊢
  clear hR
  go_enter Tryz.func118, Tryz.ntmps118
  go_upto_region 1 with fail
  refine wp_region_held_drew (S := (fun w' => w'.cell? ⟨p, 14, none⟩ = some (.pointer (some ⟨A.le, 0, none⟩)) ∧ w'.cell? ⟨p, 13, none⟩ = some (.int .i64 S.now) ∧ w'.cell? ⟨b, 0, none⟩ = some (.pointer (some ⟨p, 0, none⟩)))) (by kernel_rfl) (by exact HH.out) (fun hHeld => ?_)
  refine takeO 0 (some 4) (v := ?_) rfl rfl (by kernel_rfl) (by kernel_rfl) (by kernel_rfl) (fun _ _ _ h => h) (Or.inl ⟨by rfl, ?_⟩) (by assumption) ?_
  rotate_left 1
  · intro w hSw; (try dsimp only at hSw); go_simp; all_goals with_reducible rfl
  try simp only [Act.put, List.setIfInBounds_toArray, List.set_cons_zero, List.set_cons_succ]
  refine takeO 1 (some 5) (v := ?_) rfl rfl (by kernel_rfl) (by kernel_rfl) (by kernel_rfl) (fun _ _ _ h => h) (Or.inl ⟨by rfl, ?_⟩) (by assumption) ?_
  rotate_left 1
  · intro w hSw; (try dsimp only at hSw); go_simp; all_goals with_reducible rfl
  try simp only [Act.put, List.setIfInBounds_toArray, List.set_cons_zero, List.set_cons_succ]
  refine takeO 2 (some 6) (v := ?_) rfl rfl (by kernel_rfl) (by kernel_rfl) (by kernel_rfl) (fun _ _ _ h => h) (Or.inl ⟨by rfl, ?_⟩) (by assumption) ?_
  rotate_left 1
  · intro w hSw; (try dsimp only at hSw); go_simp; all_goals with_reducible rfl
  try simp only [Act.put, List.setIfInBounds_toArray, List.set_cons_zero, List.set_cons_succ]
  refine takeO 3 (some 7) (v := ?_) rfl rfl (by kernel_rfl) (by kernel_rfl) (by kernel_rfl) (fun _ _ _ h => h) (Or.inl ⟨by rfl, ?_⟩) (by assumption) ?_
  rotate_left 1
  · intro w hSw; (try dsimp only at hSw); go_simp; all_goals with_reducible rfl
  try simp only [Act.put, List.setIfInBounds_toArray, List.set_cons_zero, List.set_cons_succ]
  refine takeO 4 (some 8) (v := ?_) rfl rfl (by kernel_rfl) (by kernel_rfl) (by kernel_rfl) (fun _ _ _ h => h) (Or.inl ⟨by rfl, ?_⟩) (by assumption) ?_
  rotate_left 1
  · intro w hSw; (try dsimp only at hSw); go_simp; all_goals with_reducible rfl
  try simp only [Act.put, List.setIfInBounds_toArray, List.set_cons_zero, List.set_cons_succ]
  refine takeO 5 (some 9) (v := ?_) rfl rfl (by kernel_rfl) (by kernel_rfl) (by kernel_rfl) (fun _ _ _ h => h) (Or.inl ⟨by rfl, ?_⟩) (by assumption) ?_
  rotate_left 1
  · intro w hSw; (try dsimp only at hSw); go_simp; all_goals with_reducible rfl
  try simp only [Act.put, List.setIfInBounds_toArray, List.set_cons_zero, List.set_cons_succ]
  refine takeO 6 (some 10) (v := ?_) rfl rfl (by kernel_rfl) (by kernel_rfl) (by kernel_rfl) (fun _ _ _ h => h) (Or.inl ⟨by rfl, ?_⟩) (by assumption) ?_
  rotate_left 1
  · intro w hSw; (try dsimp only at hSw); go_simp; all_goals with_reducible rfl
  try simp only [Act.put, List.setIfInBounds_toArray, List.set_cons_zero, List.set_cons_succ]
  refine takeO 7 (some 11) (v := ?_) rfl rfl (by kernel_rfl) (by kernel_rfl) (by kernel_rfl) (fun _ _ _ h => h) (Or.inl ⟨by rfl, ?_⟩) (by assumption) ?_
  rotate_left 1
  · intro w hSw; (try dsimp only at hSw); go_simp; all_goals with_reducible rfl
  try simp only [Act.put, List.setIfInBounds_toArray, List.set_cons_zero, List.set_cons_succ]
  refine takeO 8 (some 12) (v := ?_) rfl rfl (by kernel_rfl) (by kernel_rfl) (by kernel_rfl) (fun _ _ _ h => h) (Or.inl ⟨by rfl, ?_⟩) (by assumption) ?_
  rotate_left 1
  · intro w hSw; (try dsimp only at hSw); go_simp; all_goals with_reducible rfl
  try simp only [Act.put, List.setIfInBounds_toArray, List.set_cons_zero, List.set_cons_succ]
  refine wpAnyH_ready (rs := [9]) (by kernel_rfl) (by simp) ?_
  refine AllReadyH.cons rfl (fun K hK => ?_) AllReadyH.nil
  go_simp
  refine HLI.out.mono ?_; rintro e w' ⟨rfl, rfl⟩
  go_wp2_with fail
  refine hK.out _ _ (by exact HH.out) (fun hHeld => ?_)
  clear hK K
  try simp only [Act.put, List.setIfInBounds_toArray, List.set_cons_zero, List.set_cons_succ]
  refine takeO 10 (some 3) (v := ?_) rfl rfl (by kernel_rfl) (by kernel_rfl) (by kernel_rfl) (fun _ _ _ h => h) (Or.inl ⟨by rfl, ?_⟩) (by assumption) ?_
  rotate_left 1
  · intro w hSw; (try dsimp only at hSw); go_simp; all_goals with_reducible rfl
  try simp only [Act.put, List.setIfInBounds_toArray, List.set_cons_zero, List.set_cons_succ]
  refine wpAnyH_done (by kernel_rfl) ?_ _
  go_wp2_with fail
  go_ret
  exact ⟨rfl, (Below.refl _ _).drew⟩
def IlR (w : World) (n : Nat) (S : CS) (s : Nat) (v : Value) (wr : World) : Prop := ∃ k : Nat, k ≤ n ∧ v = .int .i64 k ∧ RowKit.Hid (∀ j, j < k → S.liveJ s j = false) ∧ RowKit.Hid (Below w.heap.size w wr)
set_option maxRecDepth 100000 in
set_option maxHeartbeats 2000000 in
theorem index_live {O : Own} {A : CA} {p : Nat} {S : CS} (s b rb n c : Nat) (w : World) (h : CW w O A p S) (ho : S.t.ok) (hb : w.cell? ⟨b, 0, none⟩ = some (.pointer (some ⟨p, 0, none⟩))) (hn : S.c.cp.toNat = n) (hn3 : n ≤ 3) (hr : w.ownsRow 0 3 1 (.slice (some ⟨rb, 0, none⟩) n c) n (ints (copN S.c s))) :
    Calls Tryz.prog 117 #[.slice (some ⟨rb, 0, none⟩) n c, .func (Fn.func 118) #[] #[.pointer (some ⟨b, 0, none⟩)]] w fun e w' => e = .returned (.int .i64 (S.firstL s)) ∧ Below w.heap.size w w' := by
  have HC := Lib.hid h
  have HBB := Lib.hid hb
  have HR := Lib.hid hr
  have HN := Lib.hid hn
  have hlen : (copN S.c s).length = n := by unfold copN; rw [List.length_map, List.length_range, hn]
  have HLN := Lib.hid hlen
  obtain ⟨R, hRR⟩ : ∃ R, S.firstL s = R := ⟨_, rfl⟩
  rw [hRR]
  have HRR := Lib.hid hRR
  clear h hb hr hn hlen hRR
  go_enter Tryz.func117, Tryz.ntmps117
  go_wp2_with fail
  go_loopw [8] (fun v wr => IlR w n S s v wr) (fun v _ => n - (intOf v).toNat)
  case atStart => exact ⟨0, Nat.zero_le _, rfl, (fun j hj => by omega), Below.refl _ _⟩
  case round =>
    obtain ⟨k, hk, rfl, HJ, HB⟩ := hrel
    by_cases hlt : k < n
    · obtain ⟨x, hx⟩ : ∃ x, (copN S.c s)[k]? = some x := ⟨(copN S.c s)[k]'(by rw [HLN.out]; exact hlt), List.getElem?_eq_getElem _⟩
      have hck : wr.cell? ⟨rb, k, none⟩ = some (.int .i64 x) := own_cell (ownsRow_below HR.out HB.out) (by unfold ints; rw [List.getElem?_map, hx]; rfl)
      have HX := Lib.hid (show S.liveJ s k = S.t.live x S.now from by unfold CS.liveJ; rw [List.getD_eq_getElem?_getD, hx]; rfl)
      have hcb := (HB.out.cell (p := ⟨b, 0, none⟩) (cell?_lt HBB.out)).trans HBB.out
      have HWL := Lib.hid (wlive_any x b wr (HC.out.below HB.out (AgO.refl _ _)) ho hcb)
      have e1 : (k : Int) < (n : Int) := by omega
      have e2 : (0 : Int) ≤ (k : Int) := by omega
      clear hx hcb
      go_wp2_with fail
      refine HWL.out.mono ?_
      rintro e w2 ⟨rfl, hb2⟩
      have HB2 := Lib.hid (HB.out.trans (hb2.mono HB.out.size))
      clear hb2 hck
      obtain ⟨d, hd⟩ : ∃ d, S.t.live x S.now = d := ⟨_, rfl⟩
      rw [hd] at HX ⊢
      clear hd HWL
      cases d
      case true =>
        have hr : R = (k : Int) := by rw [← HRR.out]; exact firstL_at (by rw [HN.out]; exact hlt) HX.out HJ.out
        subst hr
        go_wp2_with fail
        go_ret
        exact ⟨rfl, HB2.out⟩
      go_wp2_with fail
      go_roundw
      case rel => exact ⟨k + 1, by omega, by go_num, (fun j hj => by
          rcases (by omega : j < k ∨ j = k) with h | h
          · exact HJ.out j h
          · subst h; exact HX.out), HB2.out⟩
      case measure => simp [intOf]; omega
    · have hkn : k = n := by omega
      subst hkn
      have hr : R = -1 := by rw [← HRR.out]; exact firstL_no (by rw [HN.out]; exact HJ.out)
      clear HRR hlt
      subst hr
      go_wp2_with fail
      go_ret
      exact ⟨rfl, HB.out⟩
end
end Go.Proofs.YtinkbgeckjbnbaaGreat
