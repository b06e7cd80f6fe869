/- Lemmas for the law (part 6): Co7, Lease2b, Co8 -/
import Derived.Test.YtinkbgeckjbnbaaGreatQr5
namespace Go.Proofs.YtinkbgeckjbnbaaGreat
section
open Go.RowKit
set_option linter.unusedVariables false

set_option maxRecDepth 100000 in
theorem tellA_len (n : Int) : ∀ (f : Nat) (S : List PS) (T out : List KeyL), (tellA n f S T out).1.length ≤ out.length + f ∧ (tellA n f S T out).2.2.length ≤ T.length + f ∧ (tellA n f S T out).2.1.length = S.length := by
  intro f
  induction f with
  | zero => intro S T out; exact ⟨Nat.le_refl _, Nat.le_refl _, rfl⟩
  | succ f ih =>
    intro S T out
    unfold tellA
    split
    · exact ⟨by show out.length ≤ _; omega, by show T.length ≤ _; omega, rfl⟩
    · rename_i x b s _
      have := ih (S.set b s) (T ++ [x]) (out ++ [x])
      simp only [List.length_append, List.length_singleton, List.length_set] at this
      exact ⟨by omega, by omega, this.2.2⟩
set_option maxRecDepth 100000 in
theorem tellP_len {n : Int} {S : List PS} {T : List KeyL} (hT : (T.length : Int) ≤ n) : (tellP n S T).1.length ≤ n.toNat ∧ ((tellP n S T).2.2.length : Int) ≤ n ∧ (tellP n S T).2.1.length = S.length := by
  have := tellA_len n (n.toNat - T.length) S T []
  unfold tellP
  simp only [List.length_nil] at this
  exact ⟨by omega, by omega, this.2.2⟩
def CS.tof (S : CS) (id : Nat) : TS := S.told.getD (id - 1) TS.zero
def CS.tellR (S : CS) (id : Nat) : List KeyL × List PS × List KeyL := tellP (S.Q id).n (S.Q id).S (S.Q id).T
def CS.setT (S : CS) (i : Nat) (t : TS) : CS := { S with told := S.told.set i t }
/-- what is told next -/
def CS.tell (S : CS) (id : Nat) : CS := (S.setQ id { S.Q id with S := (S.tellR id).2.1, T := (S.tellR id).2.2 }).setT (id - 1) { S.tof id with items := (S.tof id).items ++ (S.tellR id).1 }
def CS.fin (S : CS) (id : Nat) : CS := S.setT (id - 1) { S.tof id with done := true }
def CS.isDone (S : CS) (id : Nat) : Bool := doneP (S.Q id).n (S.Q id).S (S.Q id).T
/-- a query goes on -/
def CS.goes (S : CS) (id n : Nat) : CS := if (S.tell id).isDone id = true then ((S.tell id).fin id).over id n else S.tell id
def CS.goesL (S : CS) (id wk : Nat) : List LV := if (S.tell id).isDone id = true then stopsL (S.Q id).slot id wk else []
section
variable {w : World} {O : Own} {A : CA} {p : Nat} {S : CS}
set_option maxRecDepth 100000 in
theorem toldF_set (it : Nat → Option Addr × Nat) (l : List TS) (i : Nat) (t' : TS) (a : Option Addr × Nat) (hi : i < l.length) (x : Nat) : toldF (fun j => if j = i then a else it j) (l.set i t') x = if x = i then t'.cells ((i : Int) + 1) a else toldF it l x := by
  show ((l.set i t').getD x TS.zero).cells ((x : Int) + 1) (if x = i then a else it x) = _
  by_cases e : x = i
  · subst e
    rw [if_pos rfl, if_pos rfl, List.getD_eq_getElem?_getD, List.getElem?_set_self hi]; rfl
  · rw [if_neg e, if_neg e, List.getD_eq_getElem?_getD, List.getElem?_set_ne (fun q => e q.symm)]; unfold toldF; rw [List.getD_eq_getElem?_getD]
set_option maxRecDepth 100000 in
theorem CW.with_it {i : Nat} {t' : TS} (h : CWx (fun t => t = ct 6 ∨ t = ct (9 + 3 * i)) w O A p S) (hi : i < S.told.length) (a : Option Addr × Nat)
    (hr : Row O (ct 6) w 58 7 (.slice A.ta S.told.length A.tc) S.told.length (rowF (fun x => if x = i then t'.cells ((i : Int) + 1) a else toldF A.it S.told x) S.told.length))
    (ht : Row O (ct (9 + 3 * i)) w 46 2 (.slice a.1 t'.items.length a.2) t'.items.length (t'.items.flatMap KeyL.cells)) :
    CW w O { A with it := fun j => if j = i then a else A.it j } p (S.setT i t') := by
  have n : ∀ k, k ≠ 6 → k ≠ 9 + 3 * i → ¬ (ct k = ct 6 ∨ ct k = ct (9 + 3 * i)) := fun k h1 h2 h => h.elim (ct_ne h1) (ct_ne h2)
  have hl : (S.setT i t').told.length = S.told.length := List.length_set
  have hc : (S.setT i t').cells { A with it := fun j => if j = i then a else A.it j } = S.cells A := by unfold CS.cells; rw [hl]; rfl
  refine ⟨fun _ => by rw [hc]; exact h.blk (n _ (by omega) (by omega)), fun _ => by have q := h.imm (n _ (by omega) (by omega)); exact ⟨q.cuts, q.row, q.each⟩, fun _ => h.le (n _ (by omega) (by omega)), fun _ => by rw [hl]; exact h.sl (n _ (by omega) (by omega)), fun _ => h.ti (n _ (by omega) (by omega)), fun _ => by rw [hl]; exact h.qm (n _ (by omega) (by omega)), fun _ => ?_,
    fun id h1 h2 _ => h.qb id h1 h2 (n _ (by omega) (by omega)), fun id h1 h2 _ => h.mg id h1 h2 (n _ (by omega) (by omega)), fun j t h1 _ => ?_⟩
  · rw [hl]
    rw [show rowF (toldF (fun j => if j = i then a else A.it j) (S.setT i t').told) S.told.length = rowF (fun x => if x = i then t'.cells ((i : Int) + 1) a else toldF A.it S.told x) S.told.length from rowF_cong (fun x _ => toldF_set A.it S.told i t' a hi x)]
    exact hr
  · by_cases e : j = i
    · subst e
      rw [show (S.setT j t').told[j]? = some t' from List.getElem?_set_self hi] at h1
      cases h1
      show Row O _ w _ 2 (.slice (if j = j then a else A.it j).1 _ (if j = j then a else A.it j).2) _ _
      rw [if_pos rfl]; exact ht
    · rw [show (S.setT i t').told[j]? = S.told[j]? from List.getElem?_set_ne (fun q => e q.symm)] at h1
      show Row O _ w _ 2 (.slice (if j = i then a else A.it j).1 _ (if j = i then a else A.it j).2) _ _
      rw [if_neg e]; exact h.it j t h1 (n _ (by omega) (by omega))
set_option maxRecDepth 100000 in
theorem CW.with_flag {i : Nat} {t t' : TS} (h : CWx (fun t => t = ct 6) w O A p S) (hi : S.told[i]? = some t) (hit : t'.items = t.items)
    (hr : Row O (ct 6) w 58 7 (.slice A.ta S.told.length A.tc) S.told.length (rowF (fun x => if x = i then t'.cells ((i : Int) + 1) (A.it i) else toldF A.it S.told x) S.told.length)) : CW w O A p (S.setT i t') := by
  have q := CW.with_it (a := A.it i) (t' := t') (CWx.frm h (Frm.refl (fun _ => False) w) (AgO.refl _ _) (fun _ q => .inl q) (fun _ _ q => q.elim)) (List.getElem?_eq_some_iff.1 hi).1 hr (by rw [hit]; exact h.it i t hi (ct_ne (by omega)))
  rw [show (fun j => if j = i then A.it i else A.it j) = A.it from funext fun j => by by_cases e : j = i <;> simp [e]] at q
  exact q
set_option maxRecDepth 100000 in
theorem CW.toldRow (h : CW w O A p S) : Row O (ct 6) w 58 7 (.slice A.ta S.told.length A.tc) S.told.length (rowF (toldF A.it S.told) S.told.length) := CWx.told h (fun q => q)
set_option maxRecDepth 100000 in
theorem told_cell {O : Own} {tg : Nat} {w : World} {it : Nat → Option Addr × Nat} {l : List TS} {ta : Option Addr} {n tc : Nat} (hr : Row O tg w 58 7 (.slice ta n tc) n (rowF (toldF it l) n)) {i tb : Nat} {t : TS} (hi : l[i]? = some t) (hn : i < n) (ht : ta = some ⟨tb, 0, none⟩) (j : Nat) (hj : j < 7) : w.cell? ⟨tb, i * 7 + j, none⟩ = (t.cells ((i : Int) + 1) (it i))[j]? := by
  have hr := hr.1
  subst ht
  obtain ⟨sp, hsp, hb⟩ := ownsRow_blk hr
  rw [hb.cell, List.getElem?_append_left (by rw [rowF_len (toldF_len it l)]; omega), rowF_get (toldF_len it l) hn hj]
  unfold toldF
  rw [List.getD_eq_getElem?_getD, hi]; rfl
set_option maxRecDepth 100000 in
theorem told_fz {O : Own} {tg : Nat} {w : World} {xs : List Value} {ta : Option Addr} {n tc : Nat} (hr : Row O tg w 58 7 (.slice ta n tc) n xs) {tb : Nat} (ht : ta = some ⟨tb, 0, none⟩) (j : Nat) : w.frozen? ⟨tb, j, none⟩ = false := by
  have hr := hr.1
  subst ht
  obtain ⟨sp, hsp, hb⟩ := ownsRow_blk hr
  exact fz_of hb
set_option maxRecDepth 100000 in
/-- a cell of told is another one -/
theorem CWx.tcell {X : Nat → Prop} (h : CWx X w O A p S) (hX : ¬ X (ct 6)) {i tb j : Nat} {t : TS} (hi : S.told[i]? = some t) (ht : A.ta = some ⟨tb, 0, none⟩) (hj : j < 7) (v : Value) :
    CWx (fun t => X t ∨ t = ct 6) (w.setCell ⟨tb, i * 7 + j, none⟩ v) O A p S ∧ Row O (ct 6) (w.setCell ⟨tb, i * 7 + j, none⟩ v) 58 7 (.slice A.ta S.told.length A.tc) S.told.length (rowF (fun x => if x = i then (t.cells ((i : Int) + 1) (A.it i)).set j v else toldF A.it S.told x) S.told.length) ∧ COut O w (w.setCell ⟨tb, i * 7 + j, none⟩ v) := by
  have hr := h.told hX
  have hl := (List.getElem?_eq_some_iff.1 hi).1
  have hO : O tb = ct 6 := hr.2 tb (by rw [ht]; rfl)
  have hf : Frm (fun b => b = tb) w (w.setCell ⟨tb, i * 7 + j, none⟩ v) := (Frm.refl _ w).setCell ⟨tb, i * 7 + j, none⟩ v (.inl rfl)
  refine ⟨h.frm hf (AgO.refl _ _) (fun _ q => .inl q) (fun b _ e => .inl (.inr (by subst e; exact hO))), ⟨?_, hr.2⟩, COut.of (i := 6) (OFrm.of hf (fun b e _ => by subst e; exact hO))⟩
  have hr1 := hr.1
  rw [ht] at hr1 ⊢
  have q := ownsRow_set hr1 (i * 7 + j) v (by rw [rowF_len (toldF_len A.it S.told)]; omega)
  rw [rowF_set (toldF_len A.it S.told) hl hj] at q
  rw [show toldF A.it S.told i = t.cells ((i : Int) + 1) (A.it i) from by unfold toldF; rw [List.getD_eq_getElem?_getD, hi]; rfl] at q
  exact q
end
set_option maxRecDepth 100000 in
theorem COut.undrew {O : Own} {w w' : World} (h : COut O w.drew w') : COut O w w' := ⟨h.os, h.tape, h.output, h.size, h.block⟩
set_option maxRecDepth 100000 in
theorem LetAt.base {O : Own} {w : World} {b b' : Nat} {v : Value} {l : List LV} (h : LetAt O w b v l) (hb : b' ≤ b) : LetAt O w b' v l := by
  obtain ⟨ao, c, h1, h2, h3⟩ := h
  exact ⟨ao, c, h1, own0 h2 hb, h3⟩
set_option maxRecDepth 100000 in
theorem tell_Q (S : CS) (id : Nat) : (S.tell id).Q id = { S.Q id with S := (S.tellR id).2.1, T := (S.tellR id).2.2 } := by
  show (if id = id then _ else _) = _; rw [if_pos rfl]
set_option maxRecDepth 100000 in
theorem tell_told (S : CS) {i : Nat} (hi : i < S.told.length) : (S.tell (i + 1)).told[i]? = some { S.tof (i + 1) with items := (S.tof (i + 1)).items ++ (S.tellR (i + 1)).1 } := by
  show (S.told.set (i + 1 - 1) _)[i]? = _
  rw [Nat.add_sub_cancel, List.getElem?_set_self hi]
set_option maxRecDepth 100000 in
theorem tell_len (S : CS) (id : Nat) : (S.tell id).told.length = S.told.length := List.length_set
set_option maxRecDepth 100000 in
theorem tof_of {S : CS} {i : Nat} {t : TS} (h : S.told[i]? = some t) : S.tof (i + 1) = t := by unfold CS.tof; rw [Nat.add_sub_cancel, List.getD_eq_getElem?_getD, h]; rfl
def GoE (O : Own) (A : CA) (p : Nat) (S : CS) (id : Nat) (wk : Nat) (w : World) (e : Ending) (w' : World) : Prop := ∃ v O' A', e = .returned v ∧ CW w' O' A' p (S.goes id A.cps.length) ∧ A'.cps = A.cps ∧ A'.ta = A.ta ∧ LetAt O' w' w.heap.size v (S.goesL id wk) ∧ AgO w.heap.size O O' ∧ COut O w w'
set_option linter.unusedSimpArgs false in
set_option maxRecDepth 100000 in
set_option maxHeartbeats 8000000 in
theorem goes_any (O : Own) (A : CA) (p : Nat) (S : CS) (id wk : Nat) (w : World) (h : CW w O A p S) (hm : id ∈ S.L) (h0 : id ≠ 0) (hsh : A.cps.length ≤ 6) (hwk : S.c.wk = (wk : Int)) (hwk5 : wk ≤ 5) (hslot : (S.Q id).slot ≤ 4) (hid : id ≤ 1000000)
    (hlen : id ≤ S.told.length) (hit : (S.tof id).items.length ≤ 1000) (hT : ((S.Q id).T.length : Int) ≤ (S.Q id).n) (hn10 : (S.Q id).n ≤ 10) :
    Calls Tryz.prog 66 #[.pointer (some ⟨p, 0, none⟩), .pointer (some ⟨A.q id, 0, none⟩)] w (GoE O A p S id wk w) := by
  obtain ⟨i0, hi, hz0, hz1, hz2⟩ := info_parts infoI2
  have HI := Lib.hid hi
  have HZ0 := Lib.hid hz0
  have HZ1 := Lib.hid hz1
  have HZ2 := Lib.hid hz2
  clear hi hz0 hz1 hz2
  obtain ⟨i, rfl⟩ : ∃ i, id = i + 1 := ⟨id - 1, by omega⟩
  obtain ⟨tx, htx⟩ : ∃ tx, S.told[i]? = some tx := ⟨S.told[i]'(by omega), List.getElem?_eq_getElem _⟩
  have htold : S.tof (i + 1) = tx := by unfold CS.tof; rw [Nat.add_sub_cancel, List.getD_eq_getElem?_getD, htx]; rfl
  rw [htold] at hit
  obtain ⟨tb, hta, _⟩ := ownsRow_some h.toldRow.1 (by omega)
  obtain ⟨⟨l, S', T'⟩, hR⟩ : ∃ R, S.tellR (i + 1) = R := ⟨_, rfl⟩
  have hlen3 := tellP_len (S := (S.Q (i + 1)).S) hT
  have hR' : tellP (S.Q (i + 1)).n (S.Q (i + 1)).S (S.Q (i + 1)).T = (l, S', T') := hR
  rw [hR'] at hlen3
  obtain ⟨hl1, hl2, hl3⟩ := hlen3
  simp only at hl1 hl2 hl3
  have hl10 : l.length ≤ 10 := by omega
  have HC := Lib.hid (show CW w.drew O A p S from h.below (below_drewN (Below.refl _ w) 1) (AgO.refl _ _))
  have HM := Lib.hid hm
  have HWK := Lib.hid hwk
  have HTX := Lib.hid htx
  have HTA := Lib.hid hta
  have HTO := Lib.hid htold
  have HR := Lib.hid hR'
  have HT := Lib.hid hT
  have HT2 := Lib.hid hl2
  clear h hm hwk htx htold hR hR' hT hl1 hl2 hl3
  obtain ⟨n, hn⟩ : ∃ n, S.told.length = n := ⟨_, rfl⟩
  have HN := Lib.hid hn
  have hin : i < n := by omega
  clear hlen hn
  have k2 : (i : Int) < (n : Int) := by omega
  have k1 : (0 : Int) ≤ (i : Int) := by omega
  have k3 : IntKind.i64.wrap (i : Int) = (i : Int) := wr_in _ (by omega) (by omega)
  have HK18 := Lib.hid (show w.drew.cell? ⟨p, 18, none⟩ = some (.slice (some ⟨tb, 0, none⟩) n A.tc) from by have q : w.drew.cell? ⟨p, 18, none⟩ = some (.slice A.ta S.told.length A.tc) := HC.out.blk.cell 18; rw [hta, HN.out] at q; exact q)
  have HK0 := Lib.hid (show w.drew.cell? ⟨A.q (i + 1), 0, none⟩ = some (.int .i64 ((i : Int) + 1)) from by have q : w.drew.cell? ⟨A.q (i + 1), 0, none⟩ = some (.int .i64 ((i + 1 : Nat) : Int)) := (CWx.qb HC.out (i + 1) HM.out h0 (fun h => h)).1.cell 0; rw [Int.natCast_add] at q; exact q)
  clear hta
  go_enter Tryz.func66, Tryz.ntmps66
  go_upto_region 1 with fail
  refine wp_region_held_drew (S := (fun w' => w'.cell? ⟨p, 18, none⟩ = some (.slice (some ⟨tb, 0, none⟩) n A.tc) ∧ w'.cell? ⟨A.q (i + 1), 0, none⟩ = some (.int .i64 ((i : Int) + 1)))) (by kernel_rfl) (by exact ⟨HK18.out, HK0.out⟩) (fun hHeld => ?_)
  refine takeO 0 (some 6) (v := ?_) rfl rfl (by kernel_rfl) (by kernel_rfl) (by kernel_rfl) (fun _ _ _ h => h) (Or.inl ⟨by rfl, ?_⟩) (by assumption) ?_
  rotate_left 1
  · intro w hSw; (try dsimp only at hSw); go_simp; all_goals with_reducible rfl
  try simp only [Act.put, List.setIfInBounds_toArray, List.set_cons_zero, List.set_cons_succ]
  refine takeO 1 (some 7) (v := ?_) rfl rfl (by kernel_rfl) (by kernel_rfl) (by kernel_rfl) (fun _ _ _ h => h) (Or.inl ⟨by rfl, ?_⟩) (by assumption) ?_
  rotate_left 1
  · intro w hSw; (try dsimp only at hSw); go_simp; all_goals with_reducible rfl
  try simp only [Act.put, List.setIfInBounds_toArray, List.set_cons_zero, List.set_cons_succ]
  refine takeO 2 (some 8) (v := ?_) rfl rfl (by kernel_rfl) (by kernel_rfl) (by kernel_rfl) (fun _ _ _ h => h) (Or.inl ⟨by rfl, ?_⟩) (by assumption) ?_
  rotate_left 1
  · intro w hSw; (try dsimp only at hSw); go_simp; all_goals with_reducible rfl
  try simp only [Act.put, List.setIfInBounds_toArray, List.set_cons_zero, List.set_cons_succ]
  refine takeO 3 (some 9) (v := ?_) rfl rfl (by kernel_rfl) (by kernel_rfl) (by kernel_rfl) (fun _ _ _ h => h) (Or.inl ⟨by rfl, ?_⟩) (by assumption) ?_
  rotate_left 1
  · intro w hSw; (try dsimp only at hSw); go_simp; all_goals with_reducible rfl
  try simp only [Act.put, List.setIfInBounds_toArray, List.set_cons_zero, List.set_cons_succ]
  refine takeO 4 (some 10) (v := ?_) rfl rfl (by kernel_rfl) (by kernel_rfl) (by kernel_rfl) (fun _ _ _ h => h) (Or.inl ⟨by rfl, ?_⟩) (by assumption) ?_
  rotate_left 1
  · intro w hSw; (try dsimp only at hSw); go_simp; all_goals with_reducible rfl
  try simp only [Act.put, List.setIfInBounds_toArray, List.set_cons_zero, List.set_cons_succ]
  refine takeO 5 (some 11) (v := ?_) rfl rfl (by kernel_rfl) (by kernel_rfl) (by kernel_rfl) (fun _ _ _ h => h) (Or.inl ⟨by rfl, ?_⟩) (by assumption) ?_
  rotate_left 1
  · intro w hSw; (try dsimp only at hSw); go_simp; all_goals with_reducible rfl
  try simp only [Act.put, List.setIfInBounds_toArray, List.set_cons_zero, List.set_cons_succ]
  refine takeO 6 (some 12) (v := ?_) rfl rfl (by kernel_rfl) (by kernel_rfl) (by kernel_rfl) (fun _ _ _ h => h) (Or.inl ⟨by rfl, ?_⟩) (by assumption) ?_
  rotate_left 1
  · intro w hSw; (try dsimp only at hSw); go_simp; all_goals with_reducible rfl
  try simp only [Act.put, List.setIfInBounds_toArray, List.set_cons_zero, List.set_cons_succ]
  refine takeO 7 (some 13) (v := ?_) rfl rfl (by kernel_rfl) (by kernel_rfl) (by kernel_rfl) (fun _ _ _ h => h) (Or.inl ⟨by rfl, ?_⟩) (by assumption) ?_
  rotate_left 1
  · intro w hSw; (try dsimp only at hSw); go_simp; all_goals with_reducible rfl
  try simp only [Act.put, List.setIfInBounds_toArray, List.set_cons_zero, List.set_cons_succ]
  refine takeO 8 (some 14) (v := ?_) rfl rfl (by kernel_rfl) (by kernel_rfl) (by kernel_rfl) (fun _ _ _ h => h) (Or.inl ⟨by rfl, ?_⟩) (by assumption) ?_
  rotate_left 1
  · intro w hSw; (try dsimp only at hSw); go_simp; all_goals with_reducible rfl
  try simp only [Act.put, List.setIfInBounds_toArray, List.set_cons_zero, List.set_cons_succ]
  refine takeO 9 (some 15) (v := ?_) rfl rfl (by kernel_rfl) (by kernel_rfl) (by kernel_rfl) (fun _ _ _ h => h) (Or.inl ⟨by rfl, ?_⟩) (by assumption) ?_
  rotate_left 1
  · intro w hSw; (try dsimp only at hSw); go_simp; all_goals with_reducible rfl
  try simp only [Act.put, List.setIfInBounds_toArray, List.set_cons_zero, List.set_cons_succ]
  refine takeO 10 (some 5) (v := ?_) rfl rfl (by kernel_rfl) (by kernel_rfl) (by kernel_rfl) (fun _ _ _ h => h) (Or.inl ⟨by rfl, ?_⟩) (by assumption) ?_
  rotate_left 1
  · intro w hSw; (try dsimp only at hSw); go_simp; all_goals with_reducible rfl
  try simp only [Act.put, List.setIfInBounds_toArray, List.set_cons_zero, List.set_cons_succ]
  refine wpAnyH_done (by kernel_rfl) ?_ _
  clear HK18 HK0
  have HC2 := Lib.hid (show CW w.drew.drew O A p S from CW.below HC.out (below_drewN (Below.refl _ w.drew) 1) (AgO.refl _ _))
  have HIN := Lib.hid (show i < S.told.length from by rw [HN.out]; exact hin)
  have ki0 : w.drew.drew.cell? ⟨tb, i * 7 + 4, none⟩ = some (.slice (A.it i).1 tx.items.length (A.it i).2) := told_cell HC2.out.toldRow HTX.out HIN.out HTA.out 4 (by omega)
  have HK5 := Lib.hid (show w.drew.drew.cell? ⟨A.q (i + 1), 5, none⟩ = some (.pointer (some ⟨A.m (i + 1), 0, none⟩)) from (CWx.qb HC2.out (i + 1) HM.out h0 (fun h => h)).1.cell 5)
  have HTL := Lib.hid (mgo_tell (CWx.mg HC2.out (i + 1) HM.out h0 (fun h => h)) HT.out HR.out)
  clear HC k1 k2 k3
  go_upto_region 2 with fail
  refine wp_region_held_drew (S := (fun w' => w'.cell? ⟨A.q (i + 1), 5, none⟩ = some (.pointer (some ⟨A.m (i + 1), 0, none⟩)))) (by kernel_rfl) (by first | exact HK5.out | exact HK51.out | exact HK52.out | exact HK53.out) (fun hHeld => ?_)
  refine takeO 0 (some 16) (v := ?_) rfl rfl (by kernel_rfl) (by kernel_rfl) (by kernel_rfl) (fun _ _ _ h => h) (Or.inl ⟨by rfl, ?_⟩) (by assumption) ?_
  rotate_left 1
  · intro w hSw; (try dsimp only at hSw); go_simp; all_goals with_reducible rfl
  try simp only [Act.put, List.setIfInBounds_toArray, List.set_cons_zero, List.set_cons_succ]
  refine takeO 1 (some 17) (v := ?_) rfl rfl (by kernel_rfl) (by kernel_rfl) (by kernel_rfl) (fun _ _ _ h => h) (Or.inl ⟨by rfl, ?_⟩) (by assumption) ?_
  rotate_left 1
  · intro w hSw; (try dsimp only at hSw); go_simp; all_goals with_reducible rfl
  try simp only [Act.put, List.setIfInBounds_toArray, List.set_cons_zero, List.set_cons_succ]
  refine takeO 2 (some 18) (v := ?_) rfl rfl (by kernel_rfl) (by kernel_rfl) (by kernel_rfl) (fun _ _ _ h => h) (Or.inl ⟨by rfl, ?_⟩) (by assumption) ?_
  rotate_left 1
  · intro w hSw; (try dsimp only at hSw); go_simp; all_goals with_reducible rfl
  try simp only [Act.put, List.setIfInBounds_toArray, List.set_cons_zero, List.set_cons_succ]
  refine takeO 3 (some 19) (v := ?_) rfl rfl (by kernel_rfl) (by kernel_rfl) (by kernel_rfl) (fun _ _ _ h => h) (Or.inl ⟨by rfl, ?_⟩) (by assumption) ?_
  rotate_left 1
  · intro w hSw; (try dsimp only at hSw); go_simp; all_goals with_reducible rfl
  try simp only [Act.put, List.setIfInBounds_toArray, List.set_cons_zero, List.set_cons_succ]
  refine takeO 5 (some 21) (v := ?_) rfl rfl (by kernel_rfl) (by kernel_rfl) (by kernel_rfl) (fun _ _ _ h => h) (Or.inl ⟨by rfl, ?_⟩) (by assumption) ?_
  rotate_left 1
  · intro w hSw; (try dsimp only at hSw); go_simp; all_goals with_reducible rfl
  try simp only [Act.put, List.setIfInBounds_toArray, List.set_cons_zero, List.set_cons_succ]
  refine takeO 6 (some 22) (v := ?_) rfl rfl (by kernel_rfl) (by kernel_rfl) (by kernel_rfl) (fun _ _ _ h => h) (Or.inl ⟨by rfl, ?_⟩) (by assumption) ?_
  rotate_left 1
  · intro w hSw; (try dsimp only at hSw); go_simp; all_goals with_reducible rfl
  try simp only [Act.put, List.setIfInBounds_toArray, List.set_cons_zero, List.set_cons_succ]
  refine takeO 7 (some 23) (v := ?_) rfl rfl (by kernel_rfl) (by kernel_rfl) (by kernel_rfl) (fun _ _ _ h => h) (Or.inl ⟨by rfl, ?_⟩) (by assumption) ?_
  rotate_left 1
  · intro w hSw; (try dsimp only at hSw); go_simp; all_goals with_reducible rfl
  try simp only [Act.put, List.setIfInBounds_toArray, List.set_cons_zero, List.set_cons_succ]
  refine takeO 8 (some 24) (v := ?_) rfl rfl (by kernel_rfl) (by kernel_rfl) (by kernel_rfl) (fun _ _ _ h => h) (Or.inl ⟨by rfl, ?_⟩) (by assumption) ?_
  rotate_left 1
  · intro w hSw; (try dsimp only at hSw); go_simp; all_goals with_reducible rfl
  try simp only [Act.put, List.setIfInBounds_toArray, List.set_cons_zero, List.set_cons_succ]
  refine wpAnyH_ready (rs := [4, 9]) (by kernel_rfl) (by simp) ?_
  refine AllReadyH.cons rfl (fun K hK => ?_) (AllReadyH.cons rfl (fun K hK => ?_) AllReadyH.nil)
  · go_simp
    go_wp2_with fail
    refine hK.out _ _ (by first | exact HK5.out | exact HK51.out | exact HK52.out | exact HK53.out) (fun hHeld => ?_)
    clear hK K
    try simp only [Act.put, List.setIfInBounds_toArray, List.set_cons_zero, List.set_cons_succ]
    refine wpAnyH_ready (rs := [9]) (by kernel_rfl) (by simp) ?_
    refine AllReadyH.cons rfl (fun K hK => ?_) AllReadyH.nil
    · go_simp
      refine HTL.out.mono ?_
      rintro e w1 ⟨ao, co, rfl, hown, hmg, hf⟩
      clear HTL ki0
      have hc1 := CW.with_mg (CW.only HC2.out (8 + 3 * (i + 1)) hf (AgO.upd w.drew.drew.heap.size (ct (8 + 3 * (i + 1))) O)) _ _ hmg
      obtain ⟨O1, hO1⟩ : ∃ O1, O.upd w.drew.drew.heap.size (ct (8 + 3 * (i + 1))) = O1 := ⟨_, rfl⟩
      rw [hO1] at hc1
      have HA1 := Lib.hid (show AgO w.heap.size O O1 from by rw [← hO1]; exact AgO.upd _ _ _)
      obtain ⟨S1, hS1⟩ : ∃ S1, S.setQ (i + 1) { S.Q (i + 1) with S := S', T := T' } = S1 := ⟨_, rfl⟩
      rw [hS1] at hc1
      have HS1 := Lib.hid hS1
      have HTX1 := Lib.hid (show S1.told[i]? = some tx from by rw [← hS1]; exact HTX.out)
      have HN1 := Lib.hid (show S1.told.length = n from by rw [← hS1]; exact HN.out)
      have HIN1 := Lib.hid (show i < S1.told.length from by rw [HN1.out]; exact hin)
      have HM1 := Lib.hid (show i + 1 ∈ S1.L from by rw [← hS1]; exact HM.out)
      have HC1 := Lib.hid hc1
      have HF1 := Lib.hid (COut.of hf)
      have HOU := Lib.hid hown
      clear hown hmg hf hc1 hO1 hS1
      have ki1 : w1.cell? ⟨tb, i * 7 + 4, none⟩ = some (.slice (A.it i).1 tx.items.length (A.it i).2) := told_cell HC1.out.toldRow HTX1.out HIN1.out HTA.out 4 (by omega)
      have HK51 := Lib.hid (show w1.cell? ⟨A.q (i + 1), 5, none⟩ = some (.pointer (some ⟨A.m (i + 1), 0, none⟩)) from (CWx.qb HC1.out (i + 1) HM1.out h0 (fun h => h)).1.cell 5)
      have A1 : tx.items.length + l.length ≤ maxLen := (by unfold maxLen; omega)
      have A2 : (tx.items.length + l.length) * 24 ≤ 140737488355328 := (by omega)
      have HRW := Lib.hid (CWx.it HC1.out i tx HTX1.out (fun h => h))
      go_wp2_with fail
      refine hK.out _ _ (by first | exact HK5.out | exact HK51.out | exact HK52.out | exact HK53.out) (fun hHeld => ?_)
      clear hK K
      try simp only [Act.put, List.setIfInBounds_toArray, List.set_cons_zero, List.set_cons_succ]
      refine wpAnyH_ready (rs := [10]) (by kernel_rfl) (by simp) ?_
      refine AllReadyH.cons rfl (fun K hK => ?_) AllReadyH.nil
      · refine step_appA rfl (.tmp 20) (.tmp 25) 56 56 rfl 0 46 i0 (.agg #[.int .i64 0, .string ⟨#[]⟩]) 2 24 Tryz.underlying56 HI.out HZ0.out HZ1.out HZ2.out rfl (by decide) (A.it i).1 tx.items.length (A.it i).2 (tx.items.flatMap KeyL.cells) (by kernel_rfl) HRW.out.1 (.slice ao l.length co) l.length (l.flatMap KeyL.cells) (by kernel_rfl) (Src.ofRdE (enc := KeyL.cells) (size := 2) Tryz.underlying56 (fun _ => rfl) itemOne (ownsRow_rdE (enc := KeyL.cells) (fun _ => rfl) rfl HOU.out)) A1 A2 (Nat.zero_le _) ?_
        intro ao3 c3 w2 hown hg hat
        clear ki1
        have hf2 : OFrm O1 (ct (9 + 3 * i)) w1 w2 := OFrm.of (S := fun b => (Value.slice (A.it i).1 tx.items.length (A.it i).2).ownBlock = some b) (Frm.grown hg (fun _ h => h)) (fun b hb _ => HRW.out.2 b hb)
        have hc2 := CW.only HC1.out (9 + 3 * i) hf2 (AgO.upd w1.heap.size (ct (9 + 3 * i)) O1)
        have hrow : Row (O1.upd w1.heap.size (ct (9 + 3 * i))) (ct (9 + 3 * i)) w2 46 2 (.slice ao3 (tx.items.length + l.length) c3) (tx.items.length + l.length) (tx.items.flatMap KeyL.cells ++ l.flatMap KeyL.cells) := ⟨hown, fun k hk => by rcases hat with e | e; exact (AgO.upd w1.heap.size (ct (9 + 3 * i)) O1 k (own_lt HRW.out.1 k (e ▸ hk))).trans (HRW.out.2 k (e ▸ hk)); rw [e] at hk; cases hk; exact Own.upd_ge (Nat.le_refl _)⟩
        obtain ⟨O2, hO2⟩ : ∃ O2, O1.upd w1.heap.size (ct (9 + 3 * i)) = O2 := ⟨_, rfl⟩
        rw [hO2] at hc2 hrow
        have HA2 := Lib.hid (show AgO w.heap.size O O2 from by rw [← hO2]; exact HA1.out.trans (AgO.upd _ _ _) HF1.out.size)
        have HF2 := Lib.hid (show COut O w w2 from COut.trans (show COut O w w1 from COut.undrew (COut.undrew HF1.out)) (COut.of hf2) HA1.out)
        have HC3 := Lib.hid hc2
        have HRW2 := Lib.hid hrow
        clear hc2 hrow hO2 hf2 hown hg hat
        have HK52 := Lib.hid (show w2.cell? ⟨A.q (i + 1), 5, none⟩ = some (.pointer (some ⟨A.m (i + 1), 0, none⟩)) from (HC3.out.qb (i + 1) HM1.out h0 (ct_ne (by omega))).1.cell 5)
        have ki2 : w2.cell? ⟨tb, i * 7 + 4, none⟩ = some (.slice (A.it i).1 tx.items.length (A.it i).2) := told_cell (HC3.out.told (ct_ne (by omega))) HTX1.out HIN1.out HTA.out 4 (by omega)
        have fz : w2.frozen? ⟨tb, i * 7 + 4, none⟩ = false := told_fz (HC3.out.told (ct_ne (by omega))) HTA.out (i * 7 + 4)
        have htc := HC3.out.tcell (ct_ne (by omega)) HTX1.out HTA.out (j := 4) (by omega) (.slice ao3 (tx.items.length + l.length) c3)
        obtain ⟨hx, hr3, hf3⟩ := htc
        have hc4 := CW.with_it (t' := { tx with items := tx.items ++ l }) (hx.frm (Frm.refl (fun _ => False) _) (AgO.refl _ _) (fun t q => q.elim .inr .inl) (fun _ _ q => q.elim)) HIN1.out (ao3, c3) (by rw [show (TS.cells { tx with items := tx.items ++ l } ((i : Int) + 1) (ao3, c3)) = (tx.cells ((i : Int) + 1) (A.it i)).set 4 (.slice ao3 (tx.items.length + l.length : Nat) c3) from by unfold TS.cells; rw [List.length_append]; rfl]; exact hr3) (by rw [List.length_append, List.flatMap_append]; exact Row.frm HRW2.out ((Frm.refl (fun b => b = tb) w2).setCell ⟨tb, i * 7 + 4, none⟩ _ (.inl rfl)) (fun b _ ho e => by subst e; rw [(HC3.out.told (ct_ne (by omega))).2 b (by rw [HTA.out]; rfl)] at ho; exact ct_ne (by omega) ho) (AgO.refl _ _))
        have HC4 := Lib.hid hc4
        have HF4 := Lib.hid (show COut O w _ from COut.trans HF2.out hf3 HA2.out)
        clear hx hr3 hf3 hc4
        have HK53 := Lib.hid (show (w2.setCell ⟨tb, i * 7 + 4, none⟩ (.slice ao3 (tx.items.length + l.length : Nat) c3)).cell? ⟨A.q (i + 1), 5, none⟩ = some (.pointer (some ⟨A.m (i + 1), 0, none⟩)) from (CWx.qb HC4.out (i + 1) HM1.out h0 (fun h => h)).1.cell 5)
        refine hK.out _ _ (by first | exact HK5.out | exact HK51.out | exact HK52.out | exact HK53.out) (fun hHeld => ?_)
        clear hK K
        try simp only [Act.put, List.setIfInBounds_toArray, List.set_cons_zero, List.set_cons_succ]
        refine takeO 11 (some 27) (v := ?_) rfl rfl (by kernel_rfl) (by kernel_rfl) (by kernel_rfl) (fun _ _ _ h => h) (Or.inl ⟨by rfl, ?_⟩) (by assumption) ?_
        rotate_left 1
        · intro w hSw; (try dsimp only at hSw); go_simp; all_goals with_reducible rfl
        try simp only [Act.put, List.setIfInBounds_toArray, List.set_cons_zero, List.set_cons_succ]
        refine takeO 12 (some 28) (v := ?_) rfl rfl (by kernel_rfl) (by kernel_rfl) (by kernel_rfl) (fun _ _ _ h => h) (Or.inl ⟨by rfl, ?_⟩) (by assumption) ?_
        rotate_left 1
        · intro w hSw; (try dsimp only at hSw); go_simp; all_goals with_reducible rfl
        try simp only [Act.put, List.setIfInBounds_toArray, List.set_cons_zero, List.set_cons_succ]
        refine wpAnyH_ready (rs := [13]) (by kernel_rfl) (by simp) ?_
        refine AllReadyH.cons rfl (fun K hK => ?_) AllReadyH.nil
        · go_simp
          go_wp2_with fail
          refine hK.out _ _ (by first | exact HK5.out | exact HK51.out | exact HK52.out | exact HK53.out) (fun hHeld => ?_)
          clear hK K
          try simp only [Act.put, List.setIfInBounds_toArray, List.set_cons_zero, List.set_cons_succ]
          refine wpAnyH_done (by kernel_rfl) ?_ _
          clear HC3 HRW2 HRW HK52 HK51 HF2 HF1 HOU hHeld ki2 fz A1 A2 HK5
          obtain ⟨w4, hw4⟩ : ∃ V, w2.setCell ⟨tb, i * 7 + 4, none⟩ (.slice ao3 (tx.items.length + l.length) c3) = V := ⟨_, rfl⟩
          rw [hw4] at HC4 HF4 HK53 ⊢
          clear hw4
          have hS4 : S1.setT i { tx with items := tx.items ++ l } = S.tell (i + 1) := by unfold CS.tell CS.tellR; rw [HR.out, HTO.out, ← HS1.out]; rfl
          obtain ⟨A4, hA4⟩ : ∃ A4, { A with it := fun j => if j = i then (ao3, c3) else A.it j } = A4 := ⟨_, rfl⟩
          rw [hS4, hA4] at HC4
          have hq4 : A4.q = A.q := by rw [← hA4]
          have hm4 : A4.m = A.m := by rw [← hA4]
          have hc4 : A4.cps = A.cps := by rw [← hA4]
          have ht4 : A4.ta = A.ta := by rw [← hA4]
          have HM4 := Lib.hid (show i + 1 ∈ (S.tell (i + 1)).L from HM.out)
          have hdn := done_any 0 (A4.m (i + 1)) _ _ _ w4 (CWx.mg HC4.out (i + 1) HM4.out h0 (fun h => h)).mg
          obtain ⟨d, hd⟩ : ∃ d, (S.tell (i + 1)).isDone (i + 1) = d := ⟨_, rfl⟩
          rw [show doneP ((S.tell (i + 1)).Q (i + 1)).n ((S.tell (i + 1)).Q (i + 1)).S ((S.tell (i + 1)).Q (i + 1)).T = d from hd, hm4] at hdn
          have HDN := Lib.hid hdn
          have HD := Lib.hid hd
          have HQ4 := Lib.hid hq4
          have HC4A := Lib.hid hc4
          have HT4 := Lib.hid ht4
          have k5 : w4.cell? ⟨A.q (i + 1), 5, none⟩ = some (.pointer (some ⟨A.m (i + 1), 0, none⟩)) := HK53.out
          clear hS4 hA4 hq4 hm4 hc4 ht4 hdn hd HK53 HS1 HTX1 HN1 HIN1 HM1 HC1 HA1
          go_wp2_with fail
          clear k5
          refine HDN.out.mono ?_
          clear HDN
          rintro e w5 ⟨rfl, hb⟩
          have HC5 := Lib.hid (HC4.out.below hb (AgO.refl _ _))
          have HF5 := Lib.hid (COut.trans HF4.out (COut.below hb) HA2.out)
          clear hb HC4 HF4
          cases d
          case false =>
            go_wp2_with fail
            go_ret
            refine ⟨.slice none 0 0, O2, A4, rfl, ?_, HC4A.out, HT4.out, ?_, HA2.out, HF5.out⟩
            · unfold CS.goes; rw [if_neg (by rw [HD.out]; decide)]; exact HC5.out
            · unfold CS.goesL; rw [if_neg (by rw [HD.out]; decide)]; exact LetAt.nil _ _ _
          have ht5 := tell_told S HIN.out
          have HT5 := Lib.hid ht5
          have HT5A := Lib.hid (show A4.ta = some ⟨tb, 0, none⟩ from HT4.out.trans HTA.out)
          have HIN5 := Lib.hid (show i < (S.tell (i + 1)).told.length from by rw [tell_len]; exact HIN.out)
          have k5 := told_cell HC5.out.toldRow HT5.out HIN5.out HT5A.out 5 (by omega)
          have k5' : w5.cell? ⟨tb, i * 7 + 5, none⟩ = some (.bool (S.tof (i + 1)).done) := k5
          clear k5 ht5
          have fz : w5.frozen? ⟨tb, i * 7 + 5, none⟩ = false := told_fz HC5.out.toldRow HT5A.out (i * 7 + 5)
          obtain ⟨hx, hr6, hf6⟩ := CWx.tcell HC5.out (fun h => h) HT5.out HT5A.out (j := 5) (by omega) (.bool true)
          have hc6 := CW.with_flag (hx.frm (Frm.refl (fun _ => False) _) (AgO.refl _ _) (fun t q => q.elim False.elim id) (fun _ _ q => q.elim)) HT5.out (t' := { (S.tell (i + 1)).tof (i + 1) with done := true }) (by rw [tof_of HT5.out]) (by rw [tof_of HT5.out]; exact hr6)
          have HC6 := Lib.hid (show CW (w5.setCell ⟨tb, i * 7 + 5, none⟩ (.bool true)) O2 A4 p ((S.tell (i + 1)).fin (i + 1)) from hc6)
          have HF6 := Lib.hid (COut.trans HF5.out hf6 HA2.out)
          clear hx hr6 hf6 hc6 HC5 HF5
          go_wp2_with fail
          clear k5' fz
          obtain ⟨w6, hw6⟩ : ∃ V, w5.setCell ⟨tb, i * 7 + 5, none⟩ (.bool true) = V := ⟨_, rfl⟩
          rw [hw6] at HC6 HF6 ⊢
          clear hw6
          have hov := over_any O2 A4 p ((S.tell (i + 1)).fin (i + 1)) (i + 1) wk w6 HC6.out HM.out h0 (by rw [HC4A.out]; exact hsh) HWK.out hwk5 (by show ((S.tell (i + 1)).Q (i + 1)).slot ≤ 4; rw [tell_Q]; exact hslot) hid
          rw [HQ4.out] at hov
          refine hov.mono ?_
          clear hov
          rintro e w7 ⟨v, O3, rfl, hc7, hl7, ha7, hf7⟩
          have HC7 := Lib.hid hc7
          have HL7 := Lib.hid hl7
          have HA7 := Lib.hid ha7
          have HF7 := Lib.hid hf7
          clear hc7 hl7 ha7 hf7
          go_wp2_with fail
          go_ret
          refine ⟨v, O3, A4, rfl, ?_, HC4A.out, HT4.out, ?_, HA2.out.trans HA7.out HF6.out.size, COut.trans HF6.out HF7.out HA2.out⟩
          · unfold CS.goes; rw [if_pos (by rw [HD.out])]; have q := HC7.out; rw [HC4A.out] at q; exact q
          · unfold CS.goesL; rw [if_pos (by rw [HD.out])]; have q := HL7.out.base HF6.out.size; rw [show (((S.tell (i + 1)).fin (i + 1)).Q (i + 1)).slot = (S.Q (i + 1)).slot from by show ((S.tell (i + 1)).Q (i + 1)).slot = _; rw [tell_Q]] at q; exact q
  · go_simp
    refine HTL.out.mono ?_
    rintro e w1 ⟨ao, co, rfl, hown, hmg, hf⟩
    clear HTL ki0
    have hc1 := CW.with_mg (CW.only HC2.out (8 + 3 * (i + 1)) hf (AgO.upd w.drew.drew.heap.size (ct (8 + 3 * (i + 1))) O)) _ _ hmg
    obtain ⟨O1, hO1⟩ : ∃ O1, O.upd w.drew.drew.heap.size (ct (8 + 3 * (i + 1))) = O1 := ⟨_, rfl⟩
    rw [hO1] at hc1
    have HA1 := Lib.hid (show AgO w.heap.size O O1 from by rw [← hO1]; exact AgO.upd _ _ _)
    obtain ⟨S1, hS1⟩ : ∃ S1, S.setQ (i + 1) { S.Q (i + 1) with S := S', T := T' } = S1 := ⟨_, rfl⟩
    rw [hS1] at hc1
    have HS1 := Lib.hid hS1
    have HTX1 := Lib.hid (show S1.told[i]? = some tx from by rw [← hS1]; exact HTX.out)
    have HN1 := Lib.hid (show S1.told.length = n from by rw [← hS1]; exact HN.out)
    have HIN1 := Lib.hid (show i < S1.told.length from by rw [HN1.out]; exact hin)
    have HM1 := Lib.hid (show i + 1 ∈ S1.L from by rw [← hS1]; exact HM.out)
    have HC1 := Lib.hid hc1
    have HF1 := Lib.hid (COut.of hf)
    have HOU := Lib.hid hown
    clear hown hmg hf hc1 hO1 hS1
    have ki1 : w1.cell? ⟨tb, i * 7 + 4, none⟩ = some (.slice (A.it i).1 tx.items.length (A.it i).2) := told_cell HC1.out.toldRow HTX1.out HIN1.out HTA.out 4 (by omega)
    have HK51 := Lib.hid (show w1.cell? ⟨A.q (i + 1), 5, none⟩ = some (.pointer (some ⟨A.m (i + 1), 0, none⟩)) from (CWx.qb HC1.out (i + 1) HM1.out h0 (fun h => h)).1.cell 5)
    have A1 : tx.items.length + l.length ≤ maxLen := (by unfold maxLen; omega)
    have A2 : (tx.items.length + l.length) * 24 ≤ 140737488355328 := (by omega)
    have HRW := Lib.hid (CWx.it HC1.out i tx HTX1.out (fun h => h))
    go_wp2_with fail
    refine hK.out _ _ (by first | exact HK5.out | exact HK51.out | exact HK52.out | exact HK53.out) (fun hHeld => ?_)
    clear hK K
    try simp only [Act.put, List.setIfInBounds_toArray, List.set_cons_zero, List.set_cons_succ]
    refine wpAnyH_ready (rs := [4]) (by kernel_rfl) (by simp) ?_
    refine AllReadyH.cons rfl (fun K hK => ?_) AllReadyH.nil
    · go_simp
      go_wp2_with fail
      refine hK.out _ _ (by first | exact HK5.out | exact HK51.out | exact HK52.out | exact HK53.out) (fun hHeld => ?_)
      clear hK K
      try simp only [Act.put, List.setIfInBounds_toArray, List.set_cons_zero, List.set_cons_succ]
      refine wpAnyH_ready (rs := [10]) (by kernel_rfl) (by simp) ?_
      refine AllReadyH.cons rfl (fun K hK => ?_) AllReadyH.nil
      · refine step_appA rfl (.tmp 20) (.tmp 25) 56 56 rfl 0 46 i0 (.agg #[.int .i64 0, .string ⟨#[]⟩]) 2 24 Tryz.underlying56 HI.out HZ0.out HZ1.out HZ2.out rfl (by decide) (A.it i).1 tx.items.length (A.it i).2 (tx.items.flatMap KeyL.cells) (by kernel_rfl) HRW.out.1 (.slice ao l.length co) l.length (l.flatMap KeyL.cells) (by kernel_rfl) (Src.ofRdE (enc := KeyL.cells) (size := 2) Tryz.underlying56 (fun _ => rfl) itemOne (ownsRow_rdE (enc := KeyL.cells) (fun _ => rfl) rfl HOU.out)) A1 A2 (Nat.zero_le _) ?_
        intro ao3 c3 w2 hown hg hat
        clear ki1
        have hf2 : OFrm O1 (ct (9 + 3 * i)) w1 w2 := OFrm.of (S := fun b => (Value.slice (A.it i).1 tx.items.length (A.it i).2).ownBlock = some b) (Frm.grown hg (fun _ h => h)) (fun b hb _ => HRW.out.2 b hb)
        have hc2 := CW.only HC1.out (9 + 3 * i) hf2 (AgO.upd w1.heap.size (ct (9 + 3 * i)) O1)
        have hrow : Row (O1.upd w1.heap.size (ct (9 + 3 * i))) (ct (9 + 3 * i)) w2 46 2 (.slice ao3 (tx.items.length + l.length) c3) (tx.items.length + l.length) (tx.items.flatMap KeyL.cells ++ l.flatMap KeyL.cells) := ⟨hown, fun k hk => by rcases hat with e | e; exact (AgO.upd w1.heap.size (ct (9 + 3 * i)) O1 k (own_lt HRW.out.1 k (e ▸ hk))).trans (HRW.out.2 k (e ▸ hk)); rw [e] at hk; cases hk; exact Own.upd_ge (Nat.le_refl _)⟩
        obtain ⟨O2, hO2⟩ : ∃ O2, O1.upd w1.heap.size (ct (9 + 3 * i)) = O2 := ⟨_, rfl⟩
        rw [hO2] at hc2 hrow
        have HA2 := Lib.hid (show AgO w.heap.size O O2 from by rw [← hO2]; exact HA1.out.trans (AgO.upd _ _ _) HF1.out.size)
        have HF2 := Lib.hid (show COut O w w2 from COut.trans (show COut O w w1 from COut.undrew (COut.undrew HF1.out)) (COut.of hf2) HA1.out)
        have HC3 := Lib.hid hc2
        have HRW2 := Lib.hid hrow
        clear hc2 hrow hO2 hf2 hown hg hat
        have HK52 := Lib.hid (show w2.cell? ⟨A.q (i + 1), 5, none⟩ = some (.pointer (some ⟨A.m (i + 1), 0, none⟩)) from (HC3.out.qb (i + 1) HM1.out h0 (ct_ne (by omega))).1.cell 5)
        have ki2 : w2.cell? ⟨tb, i * 7 + 4, none⟩ = some (.slice (A.it i).1 tx.items.length (A.it i).2) := told_cell (HC3.out.told (ct_ne (by omega))) HTX1.out HIN1.out HTA.out 4 (by omega)
        have fz : w2.frozen? ⟨tb, i * 7 + 4, none⟩ = false := told_fz (HC3.out.told (ct_ne (by omega))) HTA.out (i * 7 + 4)
        have htc := HC3.out.tcell (ct_ne (by omega)) HTX1.out HTA.out (j := 4) (by omega) (.slice ao3 (tx.items.length + l.length) c3)
        obtain ⟨hx, hr3, hf3⟩ := htc
        have hc4 := CW.with_it (t' := { tx with items := tx.items ++ l }) (hx.frm (Frm.refl (fun _ => False) _) (AgO.refl _ _) (fun t q => q.elim .inr .inl) (fun _ _ q => q.elim)) HIN1.out (ao3, c3) (by rw [show (TS.cells { tx with items := tx.items ++ l } ((i : Int) + 1) (ao3, c3)) = (tx.cells ((i : Int) + 1) (A.it i)).set 4 (.slice ao3 (tx.items.length + l.length : Nat) c3) from by unfold TS.cells; rw [List.length_append]; rfl]; exact hr3) (by rw [List.length_append, List.flatMap_append]; exact Row.frm HRW2.out ((Frm.refl (fun b => b = tb) w2).setCell ⟨tb, i * 7 + 4, none⟩ _ (.inl rfl)) (fun b _ ho e => by subst e; rw [(HC3.out.told (ct_ne (by omega))).2 b (by rw [HTA.out]; rfl)] at ho; exact ct_ne (by omega) ho) (AgO.refl _ _))
        have HC4 := Lib.hid hc4
        have HF4 := Lib.hid (show COut O w _ from COut.trans HF2.out hf3 HA2.out)
        clear hx hr3 hf3 hc4
        have HK53 := Lib.hid (show (w2.setCell ⟨tb, i * 7 + 4, none⟩ (.slice ao3 (tx.items.length + l.length : Nat) c3)).cell? ⟨A.q (i + 1), 5, none⟩ = some (.pointer (some ⟨A.m (i + 1), 0, none⟩)) from (CWx.qb HC4.out (i + 1) HM1.out h0 (fun h => h)).1.cell 5)
        refine hK.out _ _ (by first | exact HK5.out | exact HK51.out | exact HK52.out | exact HK53.out) (fun hHeld => ?_)
        clear hK K
        try simp only [Act.put, List.setIfInBounds_toArray, List.set_cons_zero, List.set_cons_succ]
        refine takeO 11 (some 27) (v := ?_) rfl rfl (by kernel_rfl) (by kernel_rfl) (by kernel_rfl) (fun _ _ _ h => h) (Or.inl ⟨by rfl, ?_⟩) (by assumption) ?_
        rotate_left 1
        · intro w hSw; (try dsimp only at hSw); go_simp; all_goals with_reducible rfl
        try simp only [Act.put, List.setIfInBounds_toArray, List.set_cons_zero, List.set_cons_succ]
        refine takeO 12 (some 28) (v := ?_) rfl rfl (by kernel_rfl) (by kernel_rfl) (by kernel_rfl) (fun _ _ _ h => h) (Or.inl ⟨by rfl, ?_⟩) (by assumption) ?_
        rotate_left 1
        · intro w hSw; (try dsimp only at hSw); go_simp; all_goals with_reducible rfl
        try simp only [Act.put, List.setIfInBounds_toArray, List.set_cons_zero, List.set_cons_succ]
        refine wpAnyH_ready (rs := [13]) (by kernel_rfl) (by simp) ?_
        refine AllReadyH.cons rfl (fun K hK => ?_) AllReadyH.nil
        · go_simp
          go_wp2_with fail
          refine hK.out _ _ (by first | exact HK5.out | exact HK51.out | exact HK52.out | exact HK53.out) (fun hHeld => ?_)
          clear hK K
          try simp only [Act.put, List.setIfInBounds_toArray, List.set_cons_zero, List.set_cons_succ]
          refine wpAnyH_done (by kernel_rfl) ?_ _
          clear HC3 HRW2 HRW HK52 HK51 HF2 HF1 HOU hHeld ki2 fz A1 A2 HK5
          obtain ⟨w4, hw4⟩ : ∃ V, w2.setCell ⟨tb, i * 7 + 4, none⟩ (.slice ao3 (tx.items.length + l.length) c3) = V := ⟨_, rfl⟩
          rw [hw4] at HC4 HF4 HK53 ⊢
          clear hw4
          have hS4 : S1.setT i { tx with items := tx.items ++ l } = S.tell (i + 1) := by unfold CS.tell CS.tellR; rw [HR.out, HTO.out, ← HS1.out]; rfl
          obtain ⟨A4, hA4⟩ : ∃ A4, { A with it := fun j => if j = i then (ao3, c3) else A.it j } = A4 := ⟨_, rfl⟩
          rw [hS4, hA4] at HC4
          have hq4 : A4.q = A.q := by rw [← hA4]
          have hm4 : A4.m = A.m := by rw [← hA4]
          have hc4 : A4.cps = A.cps := by rw [← hA4]
          have ht4 : A4.ta = A.ta := by rw [← hA4]
          have HM4 := Lib.hid (show i + 1 ∈ (S.tell (i + 1)).L from HM.out)
          have hdn := done_any 0 (A4.m (i + 1)) _ _ _ w4 (CWx.mg HC4.out (i + 1) HM4.out h0 (fun h => h)).mg
          obtain ⟨d, hd⟩ : ∃ d, (S.tell (i + 1)).isDone (i + 1) = d := ⟨_, rfl⟩
          rw [show doneP ((S.tell (i + 1)).Q (i + 1)).n ((S.tell (i + 1)).Q (i + 1)).S ((S.tell (i + 1)).Q (i + 1)).T = d from hd, hm4] at hdn
          have HDN := Lib.hid hdn
          have HD := Lib.hid hd
          have HQ4 := Lib.hid hq4
          have HC4A := Lib.hid hc4
          have HT4 := Lib.hid ht4
          have k5 : w4.cell? ⟨A.q (i + 1), 5, none⟩ = some (.pointer (some ⟨A.m (i + 1), 0, none⟩)) := HK53.out
          clear hS4 hA4 hq4 hm4 hc4 ht4 hdn hd HK53 HS1 HTX1 HN1 HIN1 HM1 HC1 HA1
          go_wp2_with fail
          clear k5
          refine HDN.out.mono ?_
          clear HDN
          rintro e w5 ⟨rfl, hb⟩
          have HC5 := Lib.hid (HC4.out.below hb (AgO.refl _ _))
          have HF5 := Lib.hid (COut.trans HF4.out (COut.below hb) HA2.out)
          clear hb HC4 HF4
          cases d
          case false =>
            go_wp2_with fail
            go_ret
            refine ⟨.slice none 0 0, O2, A4, rfl, ?_, HC4A.out, HT4.out, ?_, HA2.out, HF5.out⟩
            · unfold CS.goes; rw [if_neg (by rw [HD.out]; decide)]; exact HC5.out
            · unfold CS.goesL; rw [if_neg (by rw [HD.out]; decide)]; exact LetAt.nil _ _ _
          have ht5 := tell_told S HIN.out
          have HT5 := Lib.hid ht5
          have HT5A := Lib.hid (show A4.ta = some ⟨tb, 0, none⟩ from HT4.out.trans HTA.out)
          have HIN5 := Lib.hid (show i < (S.tell (i + 1)).told.length from by rw [tell_len]; exact HIN.out)
          have k5 := told_cell HC5.out.toldRow HT5.out HIN5.out HT5A.out 5 (by omega)
          have k5' : w5.cell? ⟨tb, i * 7 + 5, none⟩ = some (.bool (S.tof (i + 1)).done) := k5
          clear k5 ht5
          have fz : w5.frozen? ⟨tb, i * 7 + 5, none⟩ = false := told_fz HC5.out.toldRow HT5A.out (i * 7 + 5)
          obtain ⟨hx, hr6, hf6⟩ := CWx.tcell HC5.out (fun h => h) HT5.out HT5A.out (j := 5) (by omega) (.bool true)
          have hc6 := CW.with_flag (hx.frm (Frm.refl (fun _ => False) _) (AgO.refl _ _) (fun t q => q.elim False.elim id) (fun _ _ q => q.elim)) HT5.out (t' := { (S.tell (i + 1)).tof (i + 1) with done := true }) (by rw [tof_of HT5.out]) (by rw [tof_of HT5.out]; exact hr6)
          have HC6 := Lib.hid (show CW (w5.setCell ⟨tb, i * 7 + 5, none⟩ (.bool true)) O2 A4 p ((S.tell (i + 1)).fin (i + 1)) from hc6)
          have HF6 := Lib.hid (COut.trans HF5.out hf6 HA2.out)
          clear hx hr6 hf6 hc6 HC5 HF5
          go_wp2_with fail
          clear k5' fz
          obtain ⟨w6, hw6⟩ : ∃ V, w5.setCell ⟨tb, i * 7 + 5, none⟩ (.bool true) = V := ⟨_, rfl⟩
          rw [hw6] at HC6 HF6 ⊢
          clear hw6
          have hov := over_any O2 A4 p ((S.tell (i + 1)).fin (i + 1)) (i + 1) wk w6 HC6.out HM.out h0 (by rw [HC4A.out]; exact hsh) HWK.out hwk5 (by show ((S.tell (i + 1)).Q (i + 1)).slot ≤ 4; rw [tell_Q]; exact hslot) hid
          rw [HQ4.out] at hov
          refine hov.mono ?_
          clear hov
          rintro e w7 ⟨v, O3, rfl, hc7, hl7, ha7, hf7⟩
          have HC7 := Lib.hid hc7
          have HL7 := Lib.hid hl7
          have HA7 := Lib.hid ha7
          have HF7 := Lib.hid hf7
          clear hc7 hl7 ha7 hf7
          go_wp2_with fail
          go_ret
          refine ⟨v, O3, A4, rfl, ?_, HC4A.out, HT4.out, ?_, HA2.out.trans HA7.out HF6.out.size, COut.trans HF6.out HF7.out HA2.out⟩
          · unfold CS.goes; rw [if_pos (by rw [HD.out])]; have q := HC7.out; rw [HC4A.out] at q; exact q
          · unfold CS.goesL; rw [if_pos (by rw [HD.out])]; have q := HL7.out.base HF6.out.size; rw [show (((S.tell (i + 1)).fin (i + 1)).Q (i + 1)).slot = (S.Q (i + 1)).slot from by show ((S.tell (i + 1)).Q (i + 1)).slot = _; rw [tell_Q]] at q; exact q
end
end Go.Proofs.YtinkbgeckjbnbaaGreat
namespace Go.Proofs.YtinkbgeckjbnbaaGreat
section
open Go.RowKit
set_option linter.unusedVariables false

set_option maxRecDepth 100000 in
theorem hello_cases (t : Tab) (v life now : Int) :
    (okHello t v life now = false ∧ t.hello v life now = (t, 0, 2)) ∨ (okHello t v life now = true ∧ life < (t.at v).life ∧ t.hello v life now = (t, 0, 4)) ∨
    (okHello t v life now = true ∧ life = (t.at v).life ∧ t.hello v life now = (t.put v ((t.at v).on (now + t.term)), (t.at v).epoch, 0)) ∨
    (okHello t v life now = true ∧ (t.at v).life < life ∧ t.hello v life now = (t.put v (((t.at v).told life).on (now + t.term)), (t.at v).epoch + 1, 0)) := by
  unfold Tab.hello
  cases h : okHello t v life now with
  | false => exact .inl ⟨rfl, by simp⟩
  | true =>
    refine .inr ?_
    rcases Int.lt_trichotomy life (t.at v).life with h1 | h1 | h1
    · exact .inl ⟨rfl, h1, by simp [h1]⟩
    · refine .inr (.inl ⟨rfl, h1, ?_⟩)
      have h2 : ¬ life < (t.at v).life := by omega
      have h3 : (t.at v).told life = t.at v := by unfold L1.told; rw [if_neg (by omega)]
      simp [h2, h3]
    · refine .inr (.inr ⟨rfl, h1, ?_⟩)
      have h2 : ¬ life < (t.at v).life := by omega
      have h3 : ((t.at v).told life).epoch = (t.at v).epoch + 1 := by unfold L1.told; rw [if_pos h1]
      simp [h2, h3]
set_option maxRecDepth 100000 in
theorem hello_any (w : World) (g : Nat) (t : Tab) (v life now : Int) (h : TB w g t) (ho : t.ok) :
    Calls Tryz.prog 105 #[.pointer (some ⟨g, 0, none⟩), .int .i64 v, .int .i64 life, .int .i64 now] w fun e w' => e = .returned (.tuple #[.int .i64 (t.hello v life now).2.1, .int .i64 (t.hello v life now).2.2]) ∧ TB w' g (t.hello v life now).1 ∧ w.grownBy w' (some g) := by
  rcases hello_cases t v life now with ⟨h1, e⟩ | ⟨h1, h2, e⟩ | ⟨h1, h2, e⟩ | ⟨h1, h2, e⟩
  · rw [e]
    refine (hello_bad w g t v life now h ho h1).mono fun e w' hh => ⟨hh.1, ?_, ?_⟩
    · rw [← hh.2]; exact h
    · rw [← hh.2]; exact World.grownBy.refl _ _
  · rw [e]
    refine (hello_old w g t v life now h ho h1 h2).mono fun e w' hh => ⟨hh.1, ?_, ?_⟩
    · rw [← hh.2]; exact h
    · rw [← hh.2]; exact World.grownBy.refl _ _
  · rw [e]; exact hello_same w g t v life now h ho h1 h2
  · rw [e]; exact hello_new w g t v life now h ho h1 h2
end
end Go.Proofs.YtinkbgeckjbnbaaGreat
namespace Go.Proofs.YtinkbgeckjbnbaaGreat
section
open Go.RowKit
set_option linter.unusedVariables false

set_option maxRecDepth 100000 in
theorem now_any {O : Own} {A : CA} {p : Nat} {S : CS} (w : World) (h : CW w O A p S) : Calls Tryz.prog 18 #[.pointer (some ⟨p, 0, none⟩)] w fun e w' => e = .returned (.int .i64 S.now) ∧ w = w' := by
  have t13 : w.cell? ⟨p, 13, none⟩ = some (.int .i64 S.now) := h.blk.cell 13
  have hq := fun V => cptr_ne p 0 V
  clear h
  go_enter Tryz.func18, Tryz.ntmps18
  go_wp2_with fail
  go_ret
  exact ⟨rfl, rfl⟩
set_option maxRecDepth 100000 in
theorem timers_any {O : Own} {A : CA} {p : Nat} {S : CS} (w : World) (h : CW w O A p S) : Calls Tryz.prog 33 #[.pointer (some ⟨p, 0, none⟩)] w fun e w' => e = .returned (.int .i64 (S.tm.length : Nat)) ∧ w = w' := by
  have t16 : w.cell? ⟨p, 16, none⟩ = some (.pointer (some ⟨A.ti, 0, none⟩)) := h.blk.cell 16
  have hq := fun V => cptr_ne p 0 V
  obtain ⟨go, h1, h2, h3⟩ := CWx.ti h (fun q => q)
  have HL := Lib.hid (t_len A.ti w go 24 S.tm h1)
  clear h h1 h2 h3
  go_enter Tryz.func33, Tryz.ntmps33
  go_wp2_with fail
  refine HL.out.mono ?_
  rintro e w' ⟨rfl, rfl⟩
  go_wp2_with fail
  go_ret
  exact ⟨rfl, rfl⟩
def CS.tick (S : CS) : CS := { S with now := min (S.now + 1) 1099511627776 }
set_option maxRecDepth 100000 in
theorem tick_any {O : Own} {A : CA} {p : Nat} {S : CS} (w : World) (h : CW w O A p S) (h1 : 0 ≤ S.now) (h2 : S.now ≤ 1099511627776) : Calls Tryz.prog 23 #[.pointer (some ⟨p, 0, none⟩)] w fun e w' => e = .returned (.tuple #[]) ∧ CW w' O A p S.tick ∧ COut O w w' := by
  have t13 : w.cell? ⟨p, 13, none⟩ = some (.int .i64 S.now) := h.blk.cell 13
  have hq : ∀ W : World, (binOp .neq 29 (.pointer (some ⟨p, 0, none⟩)) (.pointer none)).run Tryz.prog W = .ok (.bool true) W := fun W => by kernel_rfl
  have fz := fz_of (o := 13) h.blk
  obtain ⟨r, hr⟩ : ∃ r, (if 1099511627776 < S.now + 1 then 1099511627776 else S.now + 1) = r := ⟨_, rfl⟩
  have hr2 : min (S.now + 1) 1099511627776 = r := by rw [← hr]; split <;> omega
  have hf : Frm (fun b => b = p) w (w.setCell ⟨p, 13, none⟩ (.int .i64 r)) := (Frm.refl _ w).setCell ⟨p, 13, none⟩ _ (.inl rfl)
  have hO : OFrm O (ct 0) w (w.setCell ⟨p, 13, none⟩ (.int .i64 r)) := OFrm.of hf (fun b e _ => by subst e; exact (CWx.blk h (fun q => q)).2)
  have HC := Lib.hid (show CW (w.setCell ⟨p, 13, none⟩ (.int .i64 r)) O A p S.tick from by unfold CS.tick; rw [hr2]; exact CW.with_now (CW.only h 0 hO (AgO.refl _ _)) r ⟨h.blk.set 13 (.int .i64 r), (CWx.blk h (fun q => q)).2⟩)
  have HF := Lib.hid (COut.of hO)
  clear h hf hO hr2
  go_enter Tryz.func23, Tryz.ntmps23
  go_wp2_with fail
  go_end0
  exact ⟨rfl, HC.out, HF.out⟩
set_option maxRecDepth 100000 in
theorem LetAt.one (O : Own) (w : World) (base : Nat) (td : Int) (m : MV) (hb : base ≤ w.heap.size) : LetAt (O.upd w.heap.size 0) (w.alloc (.cells #[.int .i64 td, m.val] 51)) base (.slice (some ⟨w.heap.size, 0, none⟩) 1 1) [(td, m)] :=
  ⟨some ⟨w.heap.size, 0, none⟩, 1, rfl, ⟨rfl, .inr ⟨w.heap.size, 1, #[.int .i64 td, m.val], rfl, hb, heap_alloc_new w _, Nat.le_refl 1, by decide, rfl, rfl⟩⟩, fun k hk => by simp only [Value.ownBlock, Option.some.injEq] at hk; subst hk; exact Own.upd_ge (Nat.le_refl _)⟩
def CS.hello (S : CS) (v life : Int) : CS := { S with t := (S.t.hello v life S.now).1 }
def CS.helloL (S : CS) (v life : Int) : List LV := if (S.t.hello v life S.now).2.2 = 0 then [(v, .grant v life (S.t.hello v life S.now).2.1)] else []
def HeE (O : Own) (A : CA) (p : Nat) (S : CS) (v life : Int) (w : World) (e : Ending) (w' : World) : Prop := ∃ u O', e = .returned u ∧ CW w' O' A p (S.hello v life) ∧ LetAt O' w' w.heap.size u (S.helloL v life) ∧ AgO w.heap.size O O' ∧ COut O w w'
set_option linter.unusedSimpArgs false in
set_option maxRecDepth 100000 in
set_option maxHeartbeats 4000000 in
theorem chello_any (O : Own) (A : CA) (p : Nat) (S : CS) (v life : Int) (w : World) (h : CW w O A p S) (ho : S.t.ok) :
    Calls Tryz.prog 61 #[.pointer (some ⟨p, 0, none⟩), .agg #[.int .i64 v, .int .i64 life]] w (HeE O A p S v life w) := by
  obtain ⟨R, hR⟩ : ∃ R, S.t.hello v life S.now = R := ⟨_, rfl⟩
  have HH := Lib.hid (show CS.hello S v life = { S with t := R.1 } from by unfold CS.hello; rw [hR])
  have HL := Lib.hid (show S.helloL v life = if R.2.2 = 0 then [(v, .grant v life R.2.1)] else [] from by unfold CS.helloL; rw [hR])
  have HHA := Lib.hid (fun W hb => by have q := hello_any W A.le S.t v life S.now hb ho; rw [hR] at q; exact q)
  obtain ⟨W, hW⟩ : ∃ W, w.alloc (.cells #[.int .i64 v, .int .i64 life] 36) = W := ⟨_, rfl⟩
  have hbl : Below w.heap.size w W := by rw [← hW]; exact (Below.refl _ w).alloc (Nat.le_refl _) _
  have HK := Lib.hid (show Blk W w.heap.size 36 [.int .i64 v, .int .i64 life] from by rw [← hW]; exact heap_alloc_new w _)
  have HC := Lib.hid (show CW W O A p S from h.below hbl (AgO.refl _ _))
  have HB := Lib.hid hbl
  clear h hbl hR
  go_enter Tryz.func61, Tryz.ntmps61
  go_upto_region 1 with (rw [hW])
  clear hW
  have HC1 := Lib.hid (show CW W.drew O A p S from HC.out.below (below_drewN (Below.refl _ W) 1) (AgO.refl _ _))
  have HK1 := Lib.hid (show Blk W.drew w.heap.size 36 [.int .i64 v, .int .i64 life] from HK.out)
  have HHB := Lib.hid (HHA.out W.drew (CWx.le HC1.out (fun q => q)).1)
  clear HHA HK
  have HNE := Lib.hid (show w.heap.size ≠ A.le from fun e => by have q := HK1.out; rw [e] at q; exact blk_ne q (CWx.le HC1.out (fun q => q)).1 (by decide) rfl)
  refine wp_region_held_drew (S := (fun w' => w'.cell? ⟨p, 14, none⟩ = some (.pointer (some ⟨A.le, 0, none⟩)) ∧ w'.cell? ⟨p, 13, none⟩ = some (.int .i64 S.now) ∧ w'.cell? ⟨w.heap.size, 0, none⟩ = some (.int .i64 v) ∧ w'.cell? ⟨w.heap.size, 1, none⟩ = some (.int .i64 life))) (by kernel_rfl) (by first | exact ⟨HC1.out.blk.cell 14, HC1.out.blk.cell 13, HK1.out.cell 0, HK1.out.cell 1⟩ | exact ⟨HC2.out.blk.cell 14, HC2.out.blk.cell 13, HK2.out.cell 0, HK2.out.cell 1⟩) (fun hHeld => ?_)
  refine takeO 0 (some 8) (v := ?_) rfl rfl (by kernel_rfl) (by kernel_rfl) (by kernel_rfl) (fun _ _ _ h => h) (Or.inl ⟨by rfl, ?_⟩) (by assumption) ?_
  rotate_left 1
  · intro w hSw; (try dsimp only at hSw); go_simp; all_goals with_reducible rfl
  try simp only [Act.put, List.setIfInBounds_toArray, List.set_cons_zero, List.set_cons_succ]
  refine takeO 1 (some 9) (v := ?_) rfl rfl (by kernel_rfl) (by kernel_rfl) (by kernel_rfl) (fun _ _ _ h => h) (Or.inl ⟨by rfl, ?_⟩) (by assumption) ?_
  rotate_left 1
  · intro w hSw; (try dsimp only at hSw); go_simp; all_goals with_reducible rfl
  try simp only [Act.put, List.setIfInBounds_toArray, List.set_cons_zero, List.set_cons_succ]
  refine takeO 2 (some 10) (v := ?_) rfl rfl (by kernel_rfl) (by kernel_rfl) (by kernel_rfl) (fun _ _ _ h => h) (Or.inl ⟨by rfl, ?_⟩) (by assumption) ?_
  rotate_left 1
  · intro w hSw; (try dsimp only at hSw); go_simp; all_goals with_reducible rfl
  try simp only [Act.put, List.setIfInBounds_toArray, List.set_cons_zero, List.set_cons_succ]
  refine takeO 3 (some 11) (v := ?_) rfl rfl (by kernel_rfl) (by kernel_rfl) (by kernel_rfl) (fun _ _ _ h => h) (Or.inl ⟨by rfl, ?_⟩) (by assumption) ?_
  rotate_left 1
  · intro w hSw; (try dsimp only at hSw); go_simp; all_goals with_reducible rfl
  try simp only [Act.put, List.setIfInBounds_toArray, List.set_cons_zero, List.set_cons_succ]
  refine takeO 4 (some 12) (v := ?_) rfl rfl (by kernel_rfl) (by kernel_rfl) (by kernel_rfl) (fun _ _ _ h => h) (Or.inl ⟨by rfl, ?_⟩) (by assumption) ?_
  rotate_left 1
  · intro w hSw; (try dsimp only at hSw); go_simp; all_goals with_reducible rfl
  try simp only [Act.put, List.setIfInBounds_toArray, List.set_cons_zero, List.set_cons_succ]
  refine takeO 5 (some 13) (v := ?_) rfl rfl (by kernel_rfl) (by kernel_rfl) (by kernel_rfl) (fun _ _ _ h => h) (Or.inl ⟨by rfl, ?_⟩) (by assumption) ?_
  rotate_left 1
  · intro w hSw; (try dsimp only at hSw); go_simp; all_goals with_reducible rfl
  try simp only [Act.put, List.setIfInBounds_toArray, List.set_cons_zero, List.set_cons_succ]
  refine takeO 6 (some 14) (v := ?_) rfl rfl (by kernel_rfl) (by kernel_rfl) (by kernel_rfl) (fun _ _ _ h => h) (Or.inl ⟨by rfl, ?_⟩) (by assumption) ?_
  rotate_left 1
  · intro w hSw; (try dsimp only at hSw); go_simp; all_goals with_reducible rfl
  try simp only [Act.put, List.setIfInBounds_toArray, List.set_cons_zero, List.set_cons_succ]
  refine takeO 7 (some 15) (v := ?_) rfl rfl (by kernel_rfl) (by kernel_rfl) (by kernel_rfl) (fun _ _ _ h => h) (Or.inl ⟨by rfl, ?_⟩) (by assumption) ?_
  rotate_left 1
  · intro w hSw; (try dsimp only at hSw); go_simp; all_goals with_reducible rfl
  try simp only [Act.put, List.setIfInBounds_toArray, List.set_cons_zero, List.set_cons_succ]
  refine takeO 8 (some 16) (v := ?_) rfl rfl (by kernel_rfl) (by kernel_rfl) (by kernel_rfl) (fun _ _ _ h => h) (Or.inl ⟨by rfl, ?_⟩) (by assumption) ?_
  rotate_left 1
  · intro w hSw; (try dsimp only at hSw); go_simp; all_goals with_reducible rfl
  try simp only [Act.put, List.setIfInBounds_toArray, List.set_cons_zero, List.set_cons_succ]
  refine takeO 9 (some 17) (v := ?_) rfl rfl (by kernel_rfl) (by kernel_rfl) (by kernel_rfl) (fun _ _ _ h => h) (Or.inl ⟨by rfl, ?_⟩) (by assumption) ?_
  rotate_left 1
  · intro w hSw; (try dsimp only at hSw); go_simp; all_goals with_reducible rfl
  try simp only [Act.put, List.setIfInBounds_toArray, List.set_cons_zero, List.set_cons_succ]
  refine takeO 10 (some 18) (v := ?_) rfl rfl (by kernel_rfl) (by kernel_rfl) (by kernel_rfl) (fun _ _ _ h => h) (Or.inl ⟨by rfl, ?_⟩) (by assumption) ?_
  rotate_left 1
  · intro w hSw; (try dsimp only at hSw); go_simp; all_goals with_reducible rfl
  try simp only [Act.put, List.setIfInBounds_toArray, List.set_cons_zero, List.set_cons_succ]
  refine takeO 11 (some 19) (v := ?_) rfl rfl (by kernel_rfl) (by kernel_rfl) (by kernel_rfl) (fun _ _ _ h => h) (Or.inl ⟨by rfl, ?_⟩) (by assumption) ?_
  rotate_left 1
  · intro w hSw; (try dsimp only at hSw); go_simp; all_goals with_reducible rfl
  try simp only [Act.put, List.setIfInBounds_toArray, List.set_cons_zero, List.set_cons_succ]
  refine wpAnyH_ready (rs := [12]) (by kernel_rfl) (by simp) ?_
  refine AllReadyH.cons rfl (fun K hK => ?_) AllReadyH.nil
  go_simp
  refine HHB.out.mono ?_; rintro e w2 ⟨rfl, htb, hg⟩; clear HHB; have hO : OFrm O (ct 2) W.drew w2 := OFrm.of (S := fun b => b = A.le) (Frm.grown hg (fun g e => (Option.some.inj e).symm)) (fun b e _ => by subst e; exact (CWx.le HC1.out (fun q => q)).2); have hc2 : CW w2 O A p { S with t := R.1 } := CW.with_le (CW.only HC1.out 2 hO (AgO.refl _ _)) _ ⟨htb, (CWx.le HC1.out (fun q => q)).2⟩; have HC2 := Lib.hid hc2; have HK2 := Lib.hid (show Blk w2 w.heap.size 36 [.int .i64 v, .int .i64 life] from HK1.out.kept hg (fun e => HNE.out (Option.some.inj e))); have HF2 := Lib.hid (show COut O w w2 from COut.trans (show COut O w W.drew from Frm.drew (Frm.below HB.out)) (COut.of hO) (AgO.refl _ _)); clear htb hg hO hc2
  go_wp2_with fail
  refine hK.out _ _ (by first | exact ⟨HC1.out.blk.cell 14, HC1.out.blk.cell 13, HK1.out.cell 0, HK1.out.cell 1⟩ | exact ⟨HC2.out.blk.cell 14, HC2.out.blk.cell 13, HK2.out.cell 0, HK2.out.cell 1⟩) (fun hHeld => ?_)
  clear hK K
  try simp only [Act.put, List.setIfInBounds_toArray, List.set_cons_zero, List.set_cons_succ]
  refine takeO 13 (some 7) (v := ?_) rfl rfl (by kernel_rfl) (by kernel_rfl) (by kernel_rfl) (fun _ _ _ h => h) (Or.inl ⟨by rfl, ?_⟩) (by assumption) ?_
  rotate_left 1
  · intro w hSw; (try dsimp only at hSw); go_simp; all_goals with_reducible rfl
  try simp only [Act.put, List.setIfInBounds_toArray, List.set_cons_zero, List.set_cons_succ]
  refine takeO 14 (some 21) (v := ?_) rfl rfl (by kernel_rfl) (by kernel_rfl) (by kernel_rfl) (fun _ _ _ h => h) (Or.inl ⟨by rfl, ?_⟩) (by assumption) ?_
  rotate_left 1
  · intro w hSw; (try dsimp only at hSw); go_simp; all_goals with_reducible rfl
  try simp only [Act.put, List.setIfInBounds_toArray, List.set_cons_zero, List.set_cons_succ]
  refine takeO 15 (some 22) (v := ?_) rfl rfl (by kernel_rfl) (by kernel_rfl) (by kernel_rfl) (fun _ _ _ h => h) (Or.inl ⟨by rfl, ?_⟩) (by assumption) ?_
  rotate_left 1
  · intro w hSw; (try dsimp only at hSw); go_simp; all_goals with_reducible rfl
  try simp only [Act.put, List.setIfInBounds_toArray, List.set_cons_zero, List.set_cons_succ]
  refine takeO 16 (some 5) (v := ?_) rfl rfl (by kernel_rfl) (by kernel_rfl) (by kernel_rfl) (fun _ _ _ h => h) (Or.inl ⟨by rfl, ?_⟩) (by assumption) ?_
  rotate_left 1
  · intro w hSw; (try dsimp only at hSw); go_simp; all_goals with_reducible rfl
  try simp only [Act.put, List.setIfInBounds_toArray, List.set_cons_zero, List.set_cons_succ]
  refine takeO 17 (some 6) (v := ?_) rfl rfl (by kernel_rfl) (by kernel_rfl) (by kernel_rfl) (fun _ _ _ h => h) (Or.inl ⟨by rfl, ?_⟩) (by assumption) ?_
  rotate_left 1
  · intro w hSw; (try dsimp only at hSw); go_simp; all_goals with_reducible rfl
  try simp only [Act.put, List.setIfInBounds_toArray, List.set_cons_zero, List.set_cons_succ]
  refine wpAnyH_done (by kernel_rfl) ?_ _
  have n0 : w2.cell? ⟨w.heap.size, 0, none⟩ = some (.int .i64 v) := HK2.out.cell 0
  have n1 : w2.cell? ⟨w.heap.size, 1, none⟩ = some (.int .i64 life) := HK2.out.cell 1
  clear hHeld
  obtain ⟨t', ep, er⟩ := R
  simp only at HC2 HH HL
  by_cases he : er = 0
  · subst he
    go_wp2_with fail
    go_ret
    first | rw [if_pos rfl] at HL | rw [if_pos trivial] at HL
    refine ⟨.slice (some ⟨w2.heap.size, 0, none⟩) 1 1, O.upd w2.heap.size 0, rfl, ?_, ?_, AgO.upd' HF2.out.size 0 O, COut.trans HF2.out (COut.below ((Below.refl _ w2).alloc (Nat.le_refl _) _)) (AgO.refl _ _)⟩
    · rw [HH.out]; exact HC2.out.below ((Below.refl _ w2).alloc (Nat.le_refl _) _) (AgO.upd _ _ _)
    · rw [HL.out]; exact LetAt.one O w2 w.heap.size v (.grant v life ep) HF2.out.size
  · have e1 : (er == (0 : Int)) = false := by rw [beq_eq_false_iff_ne]; exact he
    go_wp2_with fail
    go_ret
    rw [if_neg he] at HL
    exact ⟨.slice none 0 0, O, rfl, by rw [HH.out]; exact HC2.out, by rw [HL.out]; exact LetAt.nil _ _ _, AgO.refl _ _, HF2.out⟩
/-- is it under way? -/
def CS.has (S : CS) (id : Int) : Bool := decide (0 < id ∧ id.toNat ∈ S.L)
def CS.stop (S : CS) (id : Nat) : CS := S.setT (id - 1) { S.tof id with canc := true }
def CS.cancelL (S : CS) (id : Int) (wk : Nat) : List LV := if S.has id = true then stopsL (S.Q id.toNat).slot id.toNat wk else []
set_option maxRecDepth 100000 in
theorem qzero (W : World) : (zeroValue 136).run Tryz.prog W = .ok (encP none) W := by kernel_rfl
end
end Go.Proofs.YtinkbgeckjbnbaaGreat
