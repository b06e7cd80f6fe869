/- msg.Encode at any message; msg's reader: num, text, flag, item. -/
import Derived.Test.YtjhkdbcfkaaffaaMm7
namespace Go.Proofs.Ytjhkdbcfkaaffaa
open Go.RowKit
set_option linter.unusedVariables false

/-- its texts are of moderate size -/
def MV.short : MV → Prop
  | .ask s q h sq ep tx k b f d wd => tx.size ≤ 2000 ∧ wd.size ≤ 2000
  | .reply s q h sq wk ep l en => ∀ x ∈ l, x.2.size ≤ 2000
  | _ => True
set_option maxRecDepth 100000 in
theorem MV.short.small {m : MV} (h : m.short) : m.small := by
  cases m with
  | ask => exact ⟨by have := h.1; unfold maxLen; omega, by have := h.2; unfold maxLen; omega⟩
  | reply => exact fun x hx => by have := h x hx; unfold maxLen; omega
  | _ => trivial
set_option maxRecDepth 100000 in
theorem mencode_yes (m : MV) (u : Value) (w : World) (h : m.At w u) (hz : m.short) (hm : m.may = true) : Calls Try.prog 14 #[u] w fun e w' => EncE w (encL m) e w' := by
  cases m with
  | hello w0 l0 => obtain rfl := h; exact mencode_hello w0 l0 w hm
  | grant w0 l0 e0 => obtain rfl := h; exact mencode_grant w0 l0 e0 w hm
  | stop s q => obtain rfl := h; exact mencode_stop s q w hm
  | ask s q h' sq ep tx k b f d wd => obtain rfl := h; exact mencode_ask s q h' sq ep tx k b f d wd w hm hz.1 hz.2
  | reply s q h' sq wk ep l en => obtain ⟨a, c, rfl, hr⟩ := h; exact mencode_reply s q h' sq wk ep l en a c w hr hm hz
  | other t v => simp [MV.may] at hm
  | nil => simp [MV.may] at hm

set_option maxRecDepth 100000 in
theorem isz_item : (Try.prog.info? 27).map (·.size) = some 2 := by kernel_rfl
/-- reading on: the place and whether something was bad -/
def numS (l : List Nat) (k : Nat) (st : Nat × Bool) : Int × (Nat × Bool) := if st.1 + k ≤ l.length then ((numAt l st.1 k : Nat), (st.1 + k, st.2)) else (0, (st.1, true))
def textS (l : List Nat) (st : Nat × Bool) : ByteArray × (Nat × Bool) := if textOk l st.1 = true then (strN (textAt l st.1), (st.1 + 2 + numAt l st.1 2, st.2)) else (⟨#[]⟩, (st.1, true))
def flagS (l : List Nat) (st : Nat × Bool) : Bool × (Nat × Bool) := (decide ((numS l 1 st).1 = 1), ((numS l 1 st).2.1, (numS l 1 st).2.2 || decide (1 < (numS l 1 st).1)))
def itemS (l : List Nat) (st : Nat × Bool) : KeyL × (Nat × Bool) := (((numS l 1 st).1, (textS l (numS l 1 st).2).1), (textS l (numS l 1 st).2).2)
set_option maxRecDepth 100000 in
theorem numAt_lt {l : List Nat} (hb : ∀ b ∈ l, b < 256) (t : Int) (k : Nat) (hk : k ≤ 4) : numAt l t k < 4294967296 := by
  have h := num_lt ((l.drop t.toNat).take k) (fun x hx => hb x (List.mem_of_mem_drop (List.mem_of_mem_take hx)))
  have h2 : ((l.drop t.toNat).take k).length ≤ 4 := by simp; omega
  have h3 := Nat.pow_le_pow_right (show 0 < 256 by decide) h2
  unfold numAt
  rw [Int.toNat_natCast]
  omega
set_option maxRecDepth 100000 in
theorem numAt1_lt {l : List Nat} (hb : ∀ b ∈ l, b < 256) (t : Int) : numAt l t 1 < 256 := by
  have h := num_lt ((l.drop t.toNat).take 1) (fun x hx => hb x (List.mem_of_mem_drop (List.mem_of_mem_take hx)))
  have h2 : ((l.drop t.toNat).take 1).length ≤ 1 := by simp; omega
  have h3 := Nat.pow_le_pow_right (show 0 < 256 by decide) h2
  unfold numAt
  rw [show Int.toNat 1 = 1 from rfl]
  omega
set_option maxRecDepth 100000 in
theorem numS_le {l : List Nat} {k : Nat} {st : Nat × Bool} (h : st.1 ≤ l.length) : (numS l k st).2.1 ≤ l.length := by unfold numS; split <;> assumption
set_option maxRecDepth 100000 in
theorem textS_le {l : List Nat} {st : Nat × Bool} (h : st.1 ≤ l.length) : (textS l st).2.1 ≤ l.length := by
  unfold textS; split
  · rename_i h2
    unfold textOk numOk at h2
    simp at h2
    show st.1 + 2 + numAt l st.1 2 ≤ l.length
    omega
  · exact h
set_option maxRecDepth 100000 in
theorem numS_in {l : List Nat} {k : Nat} {st : Nat × Bool} (hb : ∀ b ∈ l, b < 256) (hk : k ≤ 4) : 0 ≤ (numS l k st).1 ∧ (numS l k st).1 < 4294967296 := by
  unfold numS; split
  · have := numAt_lt hb st.1 k hk
    show (0 : Int) ≤ (numAt l st.1 k : Nat) ∧ ((numAt l st.1 k : Nat) : Int) < 4294967296
    omega
  · exact ⟨Int.le_refl _, by show (0 : Int) < 4294967296; decide⟩
/-- the reader's block, over the bytes l -/
def RAt (w : World) (g : Nat) (a : Option Addr) (c : Nat) (l : List Nat) (st : Nat × Bool) : Prop :=
  Rd w a l.length c (u8s l) ∧ (∀ b o, a = some ⟨b, o, none⟩ → b ≠ g) ∧ Blk w g 99 [.slice a l.length c, .int .i64 st.1, .bool st.2] ∧ st.1 ≤ l.length ∧ l.length ≤ 2000 ∧ ∀ x ∈ l, x < 256
def RR (g : Nat) (a : Option Addr) (c : Nat) (l : List Nat) (v : Value) (st : Nat × Bool) (w : World) (e : Ending) (w' : World) : Prop := e = .returned v ∧ RAt w' g a c l st ∧ Frm (fun i => i = g) w w'
set_option maxRecDepth 100000 in
theorem Rd.frm {S : Nat → Prop} {w w' : World} {a : Option Addr} {n c : Nat} {xs : List Value} (h : Rd w a n c xs) (hf : Frm S w w') (hne : ∀ b o, a = some ⟨b, o, none⟩ → ¬ S b) : Rd w' a n c xs := by
  obtain ⟨h1, h2, h3, h4, h5⟩ := h
  refine ⟨h1, h2, h3, h4, fun i hi => ?_⟩
  obtain ⟨b, o, e, hl, hc⟩ := h5 i hi
  exact ⟨b, o, e, Nat.lt_of_lt_of_le hl hf.size, by rw [Frm.cell hf (p := ⟨b, o + i, none⟩) hl (hne b o e)]; exact hc⟩
set_option maxRecDepth 100000 in
theorem RAt.frm {S : Nat → Prop} {w w' : World} {g : Nat} {a : Option Addr} {c : Nat} {l : List Nat} {st : Nat × Bool} (h : RAt w g a c l st) (hf : Frm S w w') (hg : ¬ S g) (hne : ∀ b o, a = some ⟨b, o, none⟩ → ¬ S b) : RAt w' g a c l st :=
  ⟨h.1.frm hf hne, h.2.1, h.2.2.1.frm hf hg, h.2.2.2⟩
set_option maxRecDepth 100000 in
theorem RAt.next {w w' : World} {g : Nat} {a : Option Addr} {c : Nat} {l : List Nat} {st st' : Nat × Bool} (h : RAt w g a c l st) (hf : Frm (fun i => i = g) w w') (hk : Blk w' g 99 [.slice a l.length c, .int .i64 st'.1, .bool st'.2]) (hl : st'.1 ≤ l.length) : RAt w' g a c l st' :=
  ⟨h.1.frm hf (fun b o e => h.2.1 b o e), h.2.1, hk, hl, h.2.2.2.2⟩
/- walks -/
set_option maxRecDepth 100000 in
set_option maxHeartbeats 4000000 in
theorem rnum_any (g : Nat) (a : Option Addr) (c : Nat) (l : List Nat) (k : Nat) (st : Nat × Bool) (w : World) (h : RAt w g a c l st) (hk1 : 1 ≤ k) (hk4 : k ≤ 4) :
    Calls Try.prog 72 #[.pointer (some ⟨g, 0, none⟩), .int .i64 k] w (RR g a c l (.int .i64 (numS l k st).1) (numS l k st).2 w) := by
  have HW := Lib.hid (show RAt w.drew g a c l st from h)
  obtain ⟨hr, hne, hk, hst, hl, hb⟩ := h
  have HK := Lib.hid (show Blk w.drew g 99 [.slice a l.length c, .int .i64 st.1, .bool st.2] from hk)
  have t0 : w.drew.cell? ⟨g, 0, none⟩ = some (.slice a l.length c) := hk.cell 0
  have t1 : w.drew.cell? ⟨g, 1, none⟩ = some (.int .i64 st.1) := hk.cell 1
  have t2 : w.drew.cell? ⟨g, 2, none⟩ = some (.bool st.2) := hk.cell 2
  have fz : ∀ o, w.drew.frozen? ⟨g, o, none⟩ = false := fun o => fz_of (o := o) hk
  obtain ⟨R, hR⟩ : ∃ R, numS l k st = R := ⟨_, rfl⟩
  rw [hR]
  by_cases hok : st.1 + k ≤ l.length
  · have HN := Lib.hid (num_yes a l.length c l st.1 k w.drew hr hb (by omega) (by unfold numOk; simp; omega))
    have hw : wrap64 (numAt l st.1 k : Nat) = (numAt l st.1 k : Nat) := by have := numAt_lt hb st.1 k hk4; unfold wrap64; omega
    rw [hw] at HN
    have HR := Lib.hid (show R = (((numAt l st.1 k : Nat) : Int), (st.1 + k, st.2)) from by rw [← hR]; unfold numS; rw [if_pos hok])
    generalize numAt l st.1 k = nv at *
    have kw : IntKind.i64.wrap ((st.1 : Int) + k) = (st.1 : Int) + k := IntWalk.i64_in _ (by omega)
    have HZ := Lib.hid (hk.set 1 (.int .i64 ((st.1 : Int) + k)))
    clear hr hne hk hl hb hR hw
    go_enter Try.func72, Try.ntmps72
    go_wp2_with fail
    refine wp_region_held_drew (S := (fun w' => w'.cell? ⟨g, 0, none⟩ = some (.slice a l.length c) ∧ w'.cell? ⟨g, 1, none⟩ = some (.int .i64 st.1))) (by kernel_rfl) (by exact ⟨HK.out.cell 0, HK.out.cell 1⟩) (fun hHeld => ?_)
    refine takeO 0 (some 8) (v := ?_) rfl rfl (by kernel_rfl) (by kernel_rfl) (by kernel_rfl) (fun _ _ _ h => h) (Or.inl ⟨by rfl, ?_⟩) (by assumption) ?_
    rotate_left 1
    · intro w hSw; (try dsimp only at hSw); go_simp; all_goals with_reducible rfl
    try simp only [Act.put, List.setIfInBounds_toArray, List.set_cons_zero, List.set_cons_succ]
    refine takeO 1 (some 9) (v := ?_) rfl rfl (by kernel_rfl) (by kernel_rfl) (by kernel_rfl) (fun _ _ _ h => h) (Or.inl ⟨by rfl, ?_⟩) (by assumption) ?_
    rotate_left 1
    · intro w hSw; (try dsimp only at hSw); go_simp; all_goals with_reducible rfl
    try simp only [Act.put, List.setIfInBounds_toArray, List.set_cons_zero, List.set_cons_succ]
    refine takeO 2 (some 10) (v := ?_) rfl rfl (by kernel_rfl) (by kernel_rfl) (by kernel_rfl) (fun _ _ _ h => h) (Or.inl ⟨by rfl, ?_⟩) (by assumption) ?_
    rotate_left 1
    · intro w hSw; (try dsimp only at hSw); go_simp; all_goals with_reducible rfl
    try simp only [Act.put, List.setIfInBounds_toArray, List.set_cons_zero, List.set_cons_succ]
    refine takeO 3 (some 11) (v := ?_) rfl rfl (by kernel_rfl) (by kernel_rfl) (by kernel_rfl) (fun _ _ _ h => h) (Or.inl ⟨by rfl, ?_⟩) (by assumption) ?_
    rotate_left 1
    · intro w hSw; (try dsimp only at hSw); go_simp; all_goals with_reducible rfl
    try simp only [Act.put, List.setIfInBounds_toArray, List.set_cons_zero, List.set_cons_succ]
    refine takeO 4 (some 12) (v := ?_) rfl rfl (by kernel_rfl) (by kernel_rfl) (by kernel_rfl) (fun _ _ _ h => h) (Or.inl ⟨by rfl, ?_⟩) (by assumption) ?_
    rotate_left 1
    · intro w hSw; (try dsimp only at hSw); go_simp; all_goals with_reducible rfl
    try simp only [Act.put, List.setIfInBounds_toArray, List.set_cons_zero, List.set_cons_succ]
    refine takeO 5 (some 13) (v := ?_) rfl rfl (by kernel_rfl) (by kernel_rfl) (by kernel_rfl) (fun _ _ _ h => h) (Or.inl ⟨by rfl, ?_⟩) (by assumption) ?_
    rotate_left 1
    · intro w hSw; (try dsimp only at hSw); go_simp; all_goals with_reducible rfl
    try simp only [Act.put, List.setIfInBounds_toArray, List.set_cons_zero, List.set_cons_succ]
    refine takeO 6 (some 14) (v := ?_) rfl rfl (by kernel_rfl) (by kernel_rfl) (by kernel_rfl) (fun _ _ _ h => h) (Or.inl ⟨by rfl, ?_⟩) (by assumption) ?_
    rotate_left 1
    · intro w hSw; (try dsimp only at hSw); go_simp; all_goals with_reducible rfl
    try simp only [Act.put, List.setIfInBounds_toArray, List.set_cons_zero, List.set_cons_succ]
    refine takeO 7 (some 15) (v := ?_) rfl rfl (by kernel_rfl) (by kernel_rfl) (by kernel_rfl) (fun _ _ _ h => h) (Or.inl ⟨by rfl, ?_⟩) (by assumption) ?_
    rotate_left 1
    · intro w hSw; (try dsimp only at hSw); go_simp; all_goals with_reducible rfl
    try simp only [Act.put, List.setIfInBounds_toArray, List.set_cons_zero, List.set_cons_succ]
    refine takeO 8 (some 16) (v := ?_) rfl rfl (by kernel_rfl) (by kernel_rfl) (by kernel_rfl) (fun _ _ _ h => h) (Or.inl ⟨by rfl, ?_⟩) (by assumption) ?_
    rotate_left 1
    · intro w hSw; (try dsimp only at hSw); go_simp; all_goals with_reducible rfl
    try simp only [Act.put, List.setIfInBounds_toArray, List.set_cons_zero, List.set_cons_succ]
    refine wpAnyH_ready (rs := [9]) (by kernel_rfl) (by simp) ?_
    refine AllReadyH.cons rfl (fun K hK => ?_) AllReadyH.nil
    go_simp
    refine HN.out.mono ?_; rintro e w1 ⟨rfl, rfl⟩
    go_wp2_with fail
    refine hK.out _ _ (by exact ⟨HK.out.cell 0, HK.out.cell 1⟩) (fun hHeld => ?_)
    clear hK K
    try simp only [Act.put, List.setIfInBounds_toArray, List.set_cons_zero, List.set_cons_succ]
    refine takeO 10 (some 7) (v := ?_) rfl rfl (by kernel_rfl) (by kernel_rfl) (by kernel_rfl) (fun _ _ _ h => h) (Or.inl ⟨by rfl, ?_⟩) (by assumption) ?_
    rotate_left 1
    · intro w hSw; (try dsimp only at hSw); go_simp; all_goals with_reducible rfl
    try simp only [Act.put, List.setIfInBounds_toArray, List.set_cons_zero, List.set_cons_succ]
    refine takeO 11 (some 18) (v := ?_) rfl rfl (by kernel_rfl) (by kernel_rfl) (by kernel_rfl) (fun _ _ _ h => h) (Or.inl ⟨by rfl, ?_⟩) (by assumption) ?_
    rotate_left 1
    · intro w hSw; (try dsimp only at hSw); go_simp; all_goals with_reducible rfl
    try simp only [Act.put, List.setIfInBounds_toArray, List.set_cons_zero, List.set_cons_succ]
    refine takeO 12 (some 19) (v := ?_) rfl rfl (by kernel_rfl) (by kernel_rfl) (by kernel_rfl) (fun _ _ _ h => h) (Or.inl ⟨by rfl, ?_⟩) (by assumption) ?_
    rotate_left 1
    · intro w hSw; (try dsimp only at hSw); go_simp; all_goals with_reducible rfl
    try simp only [Act.put, List.setIfInBounds_toArray, List.set_cons_zero, List.set_cons_succ]
    refine takeO 13 (some 5) (v := ?_) rfl rfl (by kernel_rfl) (by kernel_rfl) (by kernel_rfl) (fun _ _ _ h => h) (Or.inl ⟨by rfl, ?_⟩) (by assumption) ?_
    rotate_left 1
    · intro w hSw; (try dsimp only at hSw); go_simp; all_goals with_reducible rfl
    try simp only [Act.put, List.setIfInBounds_toArray, List.set_cons_zero, List.set_cons_succ]
    refine takeO 14 (some 6) (v := ?_) rfl rfl (by kernel_rfl) (by kernel_rfl) (by kernel_rfl) (fun _ _ _ h => h) (Or.inl ⟨by rfl, ?_⟩) (by assumption) ?_
    rotate_left 1
    · intro w hSw; (try dsimp only at hSw); go_simp; all_goals with_reducible rfl
    try simp only [Act.put, List.setIfInBounds_toArray, List.set_cons_zero, List.set_cons_succ]
    refine wpAnyH_done (by kernel_rfl) ?_ _
    go_wp2_with fail
    go_ret
    rw [HR.out]
    have hf : Frm (fun i => i = g) w (w.drew.setCell ⟨g, 1, none⟩ (.int .i64 ((st.1 : Int) + k))) := ((Frm.refl _ w).drew).setCell _ _ (.inl rfl)
    exact ⟨rfl, HW.out.next (((Frm.refl _ w.drew)).setCell _ _ (.inl rfl)) (by have q := HZ.out; rw [← Int.natCast_add] at q ⊢; exact q) hok, hf⟩
  · have HN := Lib.hid (num_no a l.length c st.1 k w.drew (by omega) (by unfold numOk; simp; omega) (by omega) (by omega))
    have HR := Lib.hid (show R = ((0 : Int), (st.1, true)) from by rw [← hR]; unfold numS; rw [if_neg hok])
    have HZ := Lib.hid (hk.set 2 (.bool true))
    clear hr hne hk hl hb hR
    go_enter Try.func72, Try.ntmps72
    go_wp2_with fail
    refine wp_region_held_drew (S := (fun w' => w'.cell? ⟨g, 0, none⟩ = some (.slice a l.length c) ∧ w'.cell? ⟨g, 1, none⟩ = some (.int .i64 st.1))) (by kernel_rfl) (by exact ⟨HK.out.cell 0, HK.out.cell 1⟩) (fun hHeld => ?_)
    refine takeO 0 (some 8) (v := ?_) rfl rfl (by kernel_rfl) (by kernel_rfl) (by kernel_rfl) (fun _ _ _ h => h) (Or.inl ⟨by rfl, ?_⟩) (by assumption) ?_
    rotate_left 1
    · intro w hSw; (try dsimp only at hSw); go_simp; all_goals with_reducible rfl
    try simp only [Act.put, List.setIfInBounds_toArray, List.set_cons_zero, List.set_cons_succ]
    refine takeO 1 (some 9) (v := ?_) rfl rfl (by kernel_rfl) (by kernel_rfl) (by kernel_rfl) (fun _ _ _ h => h) (Or.inl ⟨by rfl, ?_⟩) (by assumption) ?_
    rotate_left 1
    · intro w hSw; (try dsimp only at hSw); go_simp; all_goals with_reducible rfl
    try simp only [Act.put, List.setIfInBounds_toArray, List.set_cons_zero, List.set_cons_succ]
    refine takeO 2 (some 10) (v := ?_) rfl rfl (by kernel_rfl) (by kernel_rfl) (by kernel_rfl) (fun _ _ _ h => h) (Or.inl ⟨by rfl, ?_⟩) (by assumption) ?_
    rotate_left 1
    · intro w hSw; (try dsimp only at hSw); go_simp; all_goals with_reducible rfl
    try simp only [Act.put, List.setIfInBounds_toArray, List.set_cons_zero, List.set_cons_succ]
    refine takeO 3 (some 11) (v := ?_) rfl rfl (by kernel_rfl) (by kernel_rfl) (by kernel_rfl) (fun _ _ _ h => h) (Or.inl ⟨by rfl, ?_⟩) (by assumption) ?_
    rotate_left 1
    · intro w hSw; (try dsimp only at hSw); go_simp; all_goals with_reducible rfl
    try simp only [Act.put, List.setIfInBounds_toArray, List.set_cons_zero, List.set_cons_succ]
    refine takeO 4 (some 12) (v := ?_) rfl rfl (by kernel_rfl) (by kernel_rfl) (by kernel_rfl) (fun _ _ _ h => h) (Or.inl ⟨by rfl, ?_⟩) (by assumption) ?_
    rotate_left 1
    · intro w hSw; (try dsimp only at hSw); go_simp; all_goals with_reducible rfl
    try simp only [Act.put, List.setIfInBounds_toArray, List.set_cons_zero, List.set_cons_succ]
    refine takeO 5 (some 13) (v := ?_) rfl rfl (by kernel_rfl) (by kernel_rfl) (by kernel_rfl) (fun _ _ _ h => h) (Or.inl ⟨by rfl, ?_⟩) (by assumption) ?_
    rotate_left 1
    · intro w hSw; (try dsimp only at hSw); go_simp; all_goals with_reducible rfl
    try simp only [Act.put, List.setIfInBounds_toArray, List.set_cons_zero, List.set_cons_succ]
    refine takeO 6 (some 14) (v := ?_) rfl rfl (by kernel_rfl) (by kernel_rfl) (by kernel_rfl) (fun _ _ _ h => h) (Or.inl ⟨by rfl, ?_⟩) (by assumption) ?_
    rotate_left 1
    · intro w hSw; (try dsimp only at hSw); go_simp; all_goals with_reducible rfl
    try simp only [Act.put, List.setIfInBounds_toArray, List.set_cons_zero, List.set_cons_succ]
    refine takeO 7 (some 15) (v := ?_) rfl rfl (by kernel_rfl) (by kernel_rfl) (by kernel_rfl) (fun _ _ _ h => h) (Or.inl ⟨by rfl, ?_⟩) (by assumption) ?_
    rotate_left 1
    · intro w hSw; (try dsimp only at hSw); go_simp; all_goals with_reducible rfl
    try simp only [Act.put, List.setIfInBounds_toArray, List.set_cons_zero, List.set_cons_succ]
    refine takeO 8 (some 16) (v := ?_) rfl rfl (by kernel_rfl) (by kernel_rfl) (by kernel_rfl) (fun _ _ _ h => h) (Or.inl ⟨by rfl, ?_⟩) (by assumption) ?_
    rotate_left 1
    · intro w hSw; (try dsimp only at hSw); go_simp; all_goals with_reducible rfl
    try simp only [Act.put, List.setIfInBounds_toArray, List.set_cons_zero, List.set_cons_succ]
    refine wpAnyH_ready (rs := [9]) (by kernel_rfl) (by simp) ?_
    refine AllReadyH.cons rfl (fun K hK => ?_) AllReadyH.nil
    go_simp
    refine HN.out.mono ?_; rintro e w1 ⟨rfl, rfl⟩
    go_wp2_with fail
    refine hK.out _ _ (by exact ⟨HK.out.cell 0, HK.out.cell 1⟩) (fun hHeld => ?_)
    clear hK K
    try simp only [Act.put, List.setIfInBounds_toArray, List.set_cons_zero, List.set_cons_succ]
    refine takeO 10 (some 7) (v := ?_) rfl rfl (by kernel_rfl) (by kernel_rfl) (by kernel_rfl) (fun _ _ _ h => h) (Or.inl ⟨by rfl, ?_⟩) (by assumption) ?_
    rotate_left 1
    · intro w hSw; (try dsimp only at hSw); go_simp; all_goals with_reducible rfl
    try simp only [Act.put, List.setIfInBounds_toArray, List.set_cons_zero, List.set_cons_succ]
    refine takeO 11 (some 18) (v := ?_) rfl rfl (by kernel_rfl) (by kernel_rfl) (by kernel_rfl) (fun _ _ _ h => h) (Or.inl ⟨by rfl, ?_⟩) (by assumption) ?_
    rotate_left 1
    · intro w hSw; (try dsimp only at hSw); go_simp; all_goals with_reducible rfl
    try simp only [Act.put, List.setIfInBounds_toArray, List.set_cons_zero, List.set_cons_succ]
    refine takeO 12 (some 19) (v := ?_) rfl rfl (by kernel_rfl) (by kernel_rfl) (by kernel_rfl) (fun _ _ _ h => h) (Or.inl ⟨by rfl, ?_⟩) (by assumption) ?_
    rotate_left 1
    · intro w hSw; (try dsimp only at hSw); go_simp; all_goals with_reducible rfl
    try simp only [Act.put, List.setIfInBounds_toArray, List.set_cons_zero, List.set_cons_succ]
    refine takeO 13 (some 5) (v := ?_) rfl rfl (by kernel_rfl) (by kernel_rfl) (by kernel_rfl) (fun _ _ _ h => h) (Or.inl ⟨by rfl, ?_⟩) (by assumption) ?_
    rotate_left 1
    · intro w hSw; (try dsimp only at hSw); go_simp; all_goals with_reducible rfl
    try simp only [Act.put, List.setIfInBounds_toArray, List.set_cons_zero, List.set_cons_succ]
    refine takeO 14 (some 6) (v := ?_) rfl rfl (by kernel_rfl) (by kernel_rfl) (by kernel_rfl) (fun _ _ _ h => h) (Or.inl ⟨by rfl, ?_⟩) (by assumption) ?_
    rotate_left 1
    · intro w hSw; (try dsimp only at hSw); go_simp; all_goals with_reducible rfl
    try simp only [Act.put, List.setIfInBounds_toArray, List.set_cons_zero, List.set_cons_succ]
    refine wpAnyH_done (by kernel_rfl) ?_ _
    go_wp2_with fail
    go_ret
    rw [HR.out]
    have hf : Frm (fun i => i = g) w (w.drew.setCell ⟨g, 2, none⟩ (.bool true)) := ((Frm.refl _ w).drew).setCell _ _ (.inl rfl)
    exact ⟨rfl, HW.out.next (((Frm.refl _ w.drew)).setCell _ _ (.inl rfl)) HZ.out hst, hf⟩
set_option maxRecDepth 100000 in
set_option maxHeartbeats 4000000 in
theorem rtext_any (g : Nat) (a : Option Addr) (c : Nat) (l : List Nat) (st : Nat × Bool) (w : World) (h : RAt w g a c l st) :
    Calls Try.prog 73 #[.pointer (some ⟨g, 0, none⟩)] w (RR g a c l (.string (textS l st).1) (textS l st).2 w) := by
  have HW := Lib.hid (show RAt w.drew g a c l st from h)
  obtain ⟨hr, hne, hk, hst, hl, hb⟩ := h
  have HK := Lib.hid (show Blk w.drew g 99 [.slice a l.length c, .int .i64 st.1, .bool st.2] from hk)
  have t0 : w.drew.cell? ⟨g, 0, none⟩ = some (.slice a l.length c) := hk.cell 0
  have t1 : w.drew.cell? ⟨g, 1, none⟩ = some (.int .i64 st.1) := hk.cell 1
  have t2 : w.drew.cell? ⟨g, 2, none⟩ = some (.bool st.2) := hk.cell 2
  have fz : ∀ o, w.drew.frozen? ⟨g, o, none⟩ = false := fun o => fz_of (o := o) hk
  obtain ⟨R, hR⟩ : ∃ R, textS l st = R := ⟨_, rfl⟩
  have hle := textS_le hst
  rw [hR] at hle ⊢
  have HLE := Lib.hid hle
  clear hle
  cases hok : textOk l st.1
  · have HN := Lib.hid (text_no a l.length c l st.1 w.drew hr hb (by omega) hok (by omega))
    have HR := Lib.hid (show R = ((⟨#[]⟩ : ByteArray), (st.1, true)) from by rw [← hR]; unfold textS; rw [if_neg (by rw [hok]; decide)])
    have HZ := Lib.hid (hk.set 2 (.bool true))
    clear hr hne hk hl hb hR hok
    go_enter Try.func73, Try.ntmps73
    go_wp2_with fail
    refine wp_region_held_drew (S := (fun w' => w'.cell? ⟨g, 0, none⟩ = some (.slice a l.length c) ∧ w'.cell? ⟨g, 1, none⟩ = some (.int .i64 st.1))) (by kernel_rfl) (by exact ⟨HK.out.cell 0, HK.out.cell 1⟩) (fun hHeld => ?_)
    refine takeO 0 (some 7) (v := ?_) rfl rfl (by kernel_rfl) (by kernel_rfl) (by kernel_rfl) (fun _ _ _ h => h) (Or.inl ⟨by rfl, ?_⟩) (by assumption) ?_
    rotate_left 1
    · intro w hSw; (try dsimp only at hSw); go_simp; all_goals with_reducible rfl
    try simp only [Act.put, List.setIfInBounds_toArray, List.set_cons_zero, List.set_cons_succ]
    refine takeO 1 (some 8) (v := ?_) rfl rfl (by kernel_rfl) (by kernel_rfl) (by kernel_rfl) (fun _ _ _ h => h) (Or.inl ⟨by rfl, ?_⟩) (by assumption) ?_
    rotate_left 1
    · intro w hSw; (try dsimp only at hSw); go_simp; all_goals with_reducible rfl
    try simp only [Act.put, List.setIfInBounds_toArray, List.set_cons_zero, List.set_cons_succ]
    refine takeO 2 (some 9) (v := ?_) rfl rfl (by kernel_rfl) (by kernel_rfl) (by kernel_rfl) (fun _ _ _ h => h) (Or.inl ⟨by rfl, ?_⟩) (by assumption) ?_
    rotate_left 1
    · intro w hSw; (try dsimp only at hSw); go_simp; all_goals with_reducible rfl
    try simp only [Act.put, List.setIfInBounds_toArray, List.set_cons_zero, List.set_cons_succ]
    refine takeO 3 (some 10) (v := ?_) rfl rfl (by kernel_rfl) (by kernel_rfl) (by kernel_rfl) (fun _ _ _ h => h) (Or.inl ⟨by rfl, ?_⟩) (by assumption) ?_
    rotate_left 1
    · intro w hSw; (try dsimp only at hSw); go_simp; all_goals with_reducible rfl
    try simp only [Act.put, List.setIfInBounds_toArray, List.set_cons_zero, List.set_cons_succ]
    refine takeO 4 (some 11) (v := ?_) rfl rfl (by kernel_rfl) (by kernel_rfl) (by kernel_rfl) (fun _ _ _ h => h) (Or.inl ⟨by rfl, ?_⟩) (by assumption) ?_
    rotate_left 1
    · intro w hSw; (try dsimp only at hSw); go_simp; all_goals with_reducible rfl
    try simp only [Act.put, List.setIfInBounds_toArray, List.set_cons_zero, List.set_cons_succ]
    refine takeO 5 (some 12) (v := ?_) rfl rfl (by kernel_rfl) (by kernel_rfl) (by kernel_rfl) (fun _ _ _ h => h) (Or.inl ⟨by rfl, ?_⟩) (by assumption) ?_
    rotate_left 1
    · intro w hSw; (try dsimp only at hSw); go_simp; all_goals with_reducible rfl
    try simp only [Act.put, List.setIfInBounds_toArray, List.set_cons_zero, List.set_cons_succ]
    refine takeO 6 (some 13) (v := ?_) rfl rfl (by kernel_rfl) (by kernel_rfl) (by kernel_rfl) (fun _ _ _ h => h) (Or.inl ⟨by rfl, ?_⟩) (by assumption) ?_
    rotate_left 1
    · intro w hSw; (try dsimp only at hSw); go_simp; all_goals with_reducible rfl
    try simp only [Act.put, List.setIfInBounds_toArray, List.set_cons_zero, List.set_cons_succ]
    refine takeO 7 (some 14) (v := ?_) rfl rfl (by kernel_rfl) (by kernel_rfl) (by kernel_rfl) (fun _ _ _ h => h) (Or.inl ⟨by rfl, ?_⟩) (by assumption) ?_
    rotate_left 1
    · intro w hSw; (try dsimp only at hSw); go_simp; all_goals with_reducible rfl
    try simp only [Act.put, List.setIfInBounds_toArray, List.set_cons_zero, List.set_cons_succ]
    refine wpAnyH_ready (rs := [8]) (by kernel_rfl) (by simp) ?_
    refine AllReadyH.cons rfl (fun K hK => ?_) AllReadyH.nil
    go_simp
    refine HN.out.mono ?_; rintro e w1 ⟨rfl, rfl⟩
    go_wp2_with fail
    refine hK.out _ _ (by exact ⟨HK.out.cell 0, HK.out.cell 1⟩) (fun hHeld => ?_)
    clear hK K
    try simp only [Act.put, List.setIfInBounds_toArray, List.set_cons_zero, List.set_cons_succ]
    refine takeO 9 (some 6) (v := ?_) rfl rfl (by kernel_rfl) (by kernel_rfl) (by kernel_rfl) (fun _ _ _ h => h) (Or.inl ⟨by rfl, ?_⟩) (by assumption) ?_
    rotate_left 1
    · intro w hSw; (try dsimp only at hSw); go_simp; all_goals with_reducible rfl
    try simp only [Act.put, List.setIfInBounds_toArray, List.set_cons_zero, List.set_cons_succ]
    refine takeO 10 (some 16) (v := ?_) rfl rfl (by kernel_rfl) (by kernel_rfl) (by kernel_rfl) (fun _ _ _ h => h) (Or.inl ⟨by rfl, ?_⟩) (by assumption) ?_
    rotate_left 1
    · intro w hSw; (try dsimp only at hSw); go_simp; all_goals with_reducible rfl
    try simp only [Act.put, List.setIfInBounds_toArray, List.set_cons_zero, List.set_cons_succ]
    refine takeO 11 (some 17) (v := ?_) rfl rfl (by kernel_rfl) (by kernel_rfl) (by kernel_rfl) (fun _ _ _ h => h) (Or.inl ⟨by rfl, ?_⟩) (by assumption) ?_
    rotate_left 1
    · intro w hSw; (try dsimp only at hSw); go_simp; all_goals with_reducible rfl
    try simp only [Act.put, List.setIfInBounds_toArray, List.set_cons_zero, List.set_cons_succ]
    refine takeO 12 (some 18) (v := ?_) rfl rfl (by kernel_rfl) (by kernel_rfl) (by kernel_rfl) (fun _ _ _ h => h) (Or.inl ⟨by rfl, ?_⟩) (by assumption) ?_
    rotate_left 1
    · intro w hSw; (try dsimp only at hSw); go_simp; all_goals with_reducible rfl
    try simp only [Act.put, List.setIfInBounds_toArray, List.set_cons_zero, List.set_cons_succ]
    refine takeO 13 (some 3) (v := ?_) rfl rfl (by kernel_rfl) (by kernel_rfl) (by kernel_rfl) (fun _ _ _ h => h) (Or.inl ⟨by rfl, ?_⟩) (by assumption) ?_
    rotate_left 1
    · intro w hSw; (try dsimp only at hSw); go_simp; all_goals with_reducible rfl
    try simp only [Act.put, List.setIfInBounds_toArray, List.set_cons_zero, List.set_cons_succ]
    refine takeO 14 (some 4) (v := ?_) rfl rfl (by kernel_rfl) (by kernel_rfl) (by kernel_rfl) (fun _ _ _ h => h) (Or.inl ⟨by rfl, ?_⟩) (by assumption) ?_
    rotate_left 1
    · intro w hSw; (try dsimp only at hSw); go_simp; all_goals with_reducible rfl
    try simp only [Act.put, List.setIfInBounds_toArray, List.set_cons_zero, List.set_cons_succ]
    refine takeO 15 (some 5) (v := ?_) rfl rfl (by kernel_rfl) (by kernel_rfl) (by kernel_rfl) (fun _ _ _ h => h) (Or.inl ⟨by rfl, ?_⟩) (by assumption) ?_
    rotate_left 1
    · intro w hSw; (try dsimp only at hSw); go_simp; all_goals with_reducible rfl
    try simp only [Act.put, List.setIfInBounds_toArray, List.set_cons_zero, List.set_cons_succ]
    refine wpAnyH_done (by kernel_rfl) ?_ _
    go_wp2_with fail
    go_ret
    rw [HR.out]
    have hf : Frm (fun i => i = g) w (w.drew.setCell ⟨g, 2, none⟩ (.bool true)) := ((Frm.refl _ w).drew).setCell _ _ (.inl rfl)
    exact ⟨rfl, HW.out.next (((Frm.refl _ w.drew)).setCell _ _ (.inl rfl)) HZ.out hst, hf⟩
  · have HN := Lib.hid (text_yes a l.length c l st.1 w.drew hr hb (by omega) hok)
    have HR := Lib.hid (show R = (strN (textAt l st.1), (st.1 + 2 + numAt l st.1 2, st.2)) from by rw [← hR]; unfold textS; rw [if_pos hok])
    have hle2 : st.1 + 2 + numAt l st.1 2 ≤ l.length := by have q := HLE.out; rw [HR.out] at q; exact q
    generalize strN (textAt l st.1) = tv at *
    generalize numAt l st.1 2 = nv at *
    have HZ := Lib.hid (hk.set 1 (.int .i64 ((st.1 : Int) + 2 + nv)))
    clear hr hne hk hl hb hR hok
    go_enter Try.func73, Try.ntmps73
    go_wp2_with fail
    refine wp_region_held_drew (S := (fun w' => w'.cell? ⟨g, 0, none⟩ = some (.slice a l.length c) ∧ w'.cell? ⟨g, 1, none⟩ = some (.int .i64 st.1))) (by kernel_rfl) (by exact ⟨HK.out.cell 0, HK.out.cell 1⟩) (fun hHeld => ?_)
    refine takeO 0 (some 7) (v := ?_) rfl rfl (by kernel_rfl) (by kernel_rfl) (by kernel_rfl) (fun _ _ _ h => h) (Or.inl ⟨by rfl, ?_⟩) (by assumption) ?_
    rotate_left 1
    · intro w hSw; (try dsimp only at hSw); go_simp; all_goals with_reducible rfl
    try simp only [Act.put, List.setIfInBounds_toArray, List.set_cons_zero, List.set_cons_succ]
    refine takeO 1 (some 8) (v := ?_) rfl rfl (by kernel_rfl) (by kernel_rfl) (by kernel_rfl) (fun _ _ _ h => h) (Or.inl ⟨by rfl, ?_⟩) (by assumption) ?_
    rotate_left 1
    · intro w hSw; (try dsimp only at hSw); go_simp; all_goals with_reducible rfl
    try simp only [Act.put, List.setIfInBounds_toArray, List.set_cons_zero, List.set_cons_succ]
    refine takeO 2 (some 9) (v := ?_) rfl rfl (by kernel_rfl) (by kernel_rfl) (by kernel_rfl) (fun _ _ _ h => h) (Or.inl ⟨by rfl, ?_⟩) (by assumption) ?_
    rotate_left 1
    · intro w hSw; (try dsimp only at hSw); go_simp; all_goals with_reducible rfl
    try simp only [Act.put, List.setIfInBounds_toArray, List.set_cons_zero, List.set_cons_succ]
    refine takeO 3 (some 10) (v := ?_) rfl rfl (by kernel_rfl) (by kernel_rfl) (by kernel_rfl) (fun _ _ _ h => h) (Or.inl ⟨by rfl, ?_⟩) (by assumption) ?_
    rotate_left 1
    · intro w hSw; (try dsimp only at hSw); go_simp; all_goals with_reducible rfl
    try simp only [Act.put, List.setIfInBounds_toArray, List.set_cons_zero, List.set_cons_succ]
    refine takeO 4 (some 11) (v := ?_) rfl rfl (by kernel_rfl) (by kernel_rfl) (by kernel_rfl) (fun _ _ _ h => h) (Or.inl ⟨by rfl, ?_⟩) (by assumption) ?_
    rotate_left 1
    · intro w hSw; (try dsimp only at hSw); go_simp; all_goals with_reducible rfl
    try simp only [Act.put, List.setIfInBounds_toArray, List.set_cons_zero, List.set_cons_succ]
    refine takeO 5 (some 12) (v := ?_) rfl rfl (by kernel_rfl) (by kernel_rfl) (by kernel_rfl) (fun _ _ _ h => h) (Or.inl ⟨by rfl, ?_⟩) (by assumption) ?_
    rotate_left 1
    · intro w hSw; (try dsimp only at hSw); go_simp; all_goals with_reducible rfl
    try simp only [Act.put, List.setIfInBounds_toArray, List.set_cons_zero, List.set_cons_succ]
    refine takeO 6 (some 13) (v := ?_) rfl rfl (by kernel_rfl) (by kernel_rfl) (by kernel_rfl) (fun _ _ _ h => h) (Or.inl ⟨by rfl, ?_⟩) (by assumption) ?_
    rotate_left 1
    · intro w hSw; (try dsimp only at hSw); go_simp; all_goals with_reducible rfl
    try simp only [Act.put, List.setIfInBounds_toArray, List.set_cons_zero, List.set_cons_succ]
    refine takeO 7 (some 14) (v := ?_) rfl rfl (by kernel_rfl) (by kernel_rfl) (by kernel_rfl) (fun _ _ _ h => h) (Or.inl ⟨by rfl, ?_⟩) (by assumption) ?_
    rotate_left 1
    · intro w hSw; (try dsimp only at hSw); go_simp; all_goals with_reducible rfl
    try simp only [Act.put, List.setIfInBounds_toArray, List.set_cons_zero, List.set_cons_succ]
    refine wpAnyH_ready (rs := [8]) (by kernel_rfl) (by simp) ?_
    refine AllReadyH.cons rfl (fun K hK => ?_) AllReadyH.nil
    go_simp
    refine HN.out.mono ?_; rintro e w1 ⟨rfl, rfl⟩
    go_wp2_with fail
    refine hK.out _ _ (by exact ⟨HK.out.cell 0, HK.out.cell 1⟩) (fun hHeld => ?_)
    clear hK K
    try simp only [Act.put, List.setIfInBounds_toArray, List.set_cons_zero, List.set_cons_succ]
    refine takeO 9 (some 6) (v := ?_) rfl rfl (by kernel_rfl) (by kernel_rfl) (by kernel_rfl) (fun _ _ _ h => h) (Or.inl ⟨by rfl, ?_⟩) (by assumption) ?_
    rotate_left 1
    · intro w hSw; (try dsimp only at hSw); go_simp; all_goals with_reducible rfl
    try simp only [Act.put, List.setIfInBounds_toArray, List.set_cons_zero, List.set_cons_succ]
    refine takeO 10 (some 16) (v := ?_) rfl rfl (by kernel_rfl) (by kernel_rfl) (by kernel_rfl) (fun _ _ _ h => h) (Or.inl ⟨by rfl, ?_⟩) (by assumption) ?_
    rotate_left 1
    · intro w hSw; (try dsimp only at hSw); go_simp; all_goals with_reducible rfl
    try simp only [Act.put, List.setIfInBounds_toArray, List.set_cons_zero, List.set_cons_succ]
    refine takeO 11 (some 17) (v := ?_) rfl rfl (by kernel_rfl) (by kernel_rfl) (by kernel_rfl) (fun _ _ _ h => h) (Or.inl ⟨by rfl, ?_⟩) (by assumption) ?_
    rotate_left 1
    · intro w hSw; (try dsimp only at hSw); go_simp; all_goals with_reducible rfl
    try simp only [Act.put, List.setIfInBounds_toArray, List.set_cons_zero, List.set_cons_succ]
    refine takeO 12 (some 18) (v := ?_) rfl rfl (by kernel_rfl) (by kernel_rfl) (by kernel_rfl) (fun _ _ _ h => h) (Or.inl ⟨by rfl, ?_⟩) (by assumption) ?_
    rotate_left 1
    · intro w hSw; (try dsimp only at hSw); go_simp; all_goals with_reducible rfl
    try simp only [Act.put, List.setIfInBounds_toArray, List.set_cons_zero, List.set_cons_succ]
    refine takeO 13 (some 3) (v := ?_) rfl rfl (by kernel_rfl) (by kernel_rfl) (by kernel_rfl) (fun _ _ _ h => h) (Or.inl ⟨by rfl, ?_⟩) (by assumption) ?_
    rotate_left 1
    · intro w hSw; (try dsimp only at hSw); go_simp; all_goals with_reducible rfl
    try simp only [Act.put, List.setIfInBounds_toArray, List.set_cons_zero, List.set_cons_succ]
    refine takeO 14 (some 4) (v := ?_) rfl rfl (by kernel_rfl) (by kernel_rfl) (by kernel_rfl) (fun _ _ _ h => h) (Or.inl ⟨by rfl, ?_⟩) (by assumption) ?_
    rotate_left 1
    · intro w hSw; (try dsimp only at hSw); go_simp; all_goals with_reducible rfl
    try simp only [Act.put, List.setIfInBounds_toArray, List.set_cons_zero, List.set_cons_succ]
    refine takeO 15 (some 5) (v := ?_) rfl rfl (by kernel_rfl) (by kernel_rfl) (by kernel_rfl) (fun _ _ _ h => h) (Or.inl ⟨by rfl, ?_⟩) (by assumption) ?_
    rotate_left 1
    · intro w hSw; (try dsimp only at hSw); go_simp; all_goals with_reducible rfl
    try simp only [Act.put, List.setIfInBounds_toArray, List.set_cons_zero, List.set_cons_succ]
    refine wpAnyH_done (by kernel_rfl) ?_ _
    go_wp2_with fail
    go_ret
    rw [HR.out]
    have hf : Frm (fun i => i = g) w (w.drew.setCell ⟨g, 1, none⟩ (.int .i64 ((st.1 : Int) + 2 + nv))) := ((Frm.refl _ w).drew).setCell _ _ (.inl rfl)
    exact ⟨rfl, HW.out.next (((Frm.refl _ w.drew)).setCell _ _ (.inl rfl)) (by have q := HZ.out; rw [show (st.1 : Int) + 2 + nv = ((st.1 + 2 + nv : Nat) : Int) from by omega] at q ⊢; exact q) hle2, hf⟩
set_option maxRecDepth 100000 in
set_option maxHeartbeats 4000000 in
theorem rflag_any (g : Nat) (a : Option Addr) (c : Nat) (l : List Nat) (st : Nat × Bool) (w : World) (h : RAt w g a c l st) :
    Calls Try.prog 74 #[.pointer (some ⟨g, 0, none⟩)] w (RR g a c l (.bool (flagS l st).1) (flagS l st).2 w) := by
  have HC := Lib.hid (rnum_any g a c l 1 st w h (by decide) (by decide))
  have HF1 := Lib.hid (show (flagS l st).1 = decide ((numS l 1 st).1 = 1) from rfl)
  have HF2 := Lib.hid (show (flagS l st).2 = ((numS l 1 st).2.1, (numS l 1 st).2.2 || decide (1 < (numS l 1 st).1)) from rfl)
  clear h
  generalize flagS l st = R at *
  obtain ⟨R1, R2⟩ := R
  generalize numS l 1 st = q at *
  obtain ⟨v, s1⟩ := q
  simp only at HC HF1 HF2 ⊢
  go_enter Try.func74, Try.ntmps74
  go_wp2_with fail
  refine HC.out.mono ?_
  rintro e V ⟨rfl, hz, hf⟩
  have HZ := Lib.hid hz
  have HFR := Lib.hid hf
  have t2 : V.cell? ⟨g, 2, none⟩ = some (.bool s1.2) := hz.2.2.1.cell 2
  have fz : V.frozen? ⟨g, 2, none⟩ = false := fz_of hz.2.2.1
  have H0 := Lib.hid (show ∀ b : Bool, RAt (V.setCell ⟨g, 2, none⟩ (.bool b)) g a c l (s1.1, b) ∧ Frm (fun i => i = g) w (V.setCell ⟨g, 2, none⟩ (.bool b)) from fun b => ⟨hz.next ((Frm.refl _ V).setCell _ _ (.inl rfl)) (hz.2.2.1.set 2 _) hz.2.2.2.1, hf.setCell _ _ (.inl rfl)⟩)
  clear hz hf HC
  go_wp2_with fail
  all_goals go_ret
  all_goals rw [HF1.out, HF2.out]
  · rename_i hs
    refine ⟨rfl, ?_, (H0.out true).2⟩
    rw [hs]
    exact (H0.out true).1
  · rename_i hs
    refine ⟨rfl, ?_, (H0.out _).2⟩
    rw [show s1.2 = false from by simpa using hs]
    exact (H0.out _).1
set_option maxRecDepth 100000 in
set_option maxHeartbeats 4000000 in
theorem ritem_any (g : Nat) (a : Option Addr) (c : Nat) (l : List Nat) (st : Nat × Bool) (w : World) (h : RAt w g a c l st) :
    Calls Try.prog 75 #[.pointer (some ⟨g, 0, none⟩)] w (RR g a c l (.agg #[.int .i64 (itemS l st).1.1, .string (itemS l st).1.2]) (itemS l st).2 w) := by
  have HW := Lib.hid h
  have hg := h.2.2.1.lt
  have hA := h.frm (((Frm.refl (fun _ => False) w).alloc (.cells #[.int .i64 0, .string ⟨#[]⟩] 27))) (fun h => h) (fun _ _ _ h => h)
  have hfa := (Frm.refl (fun i => i = g) w).alloc (.cells #[.int .i64 0, .string ⟨#[]⟩] 27)
  have HXA := Lib.hid (show Blk (w.alloc (.cells #[.int .i64 0, .string ⟨#[]⟩] 27)) w.heap.size 27 [.int .i64 0, .string ⟨#[]⟩] from heap_alloc_new w _)
  obtain ⟨W, hW⟩ : ∃ W, w.alloc (.cells #[.int .i64 0, .string ⟨#[]⟩] 27) = W := ⟨_, rfl⟩
  rw [hW] at hA hfa HXA
  have HFA := Lib.hid hfa
  have HC := Lib.hid (rnum_any g a c l 1 st W hA (by decide) (by decide))
  have HT := Lib.hid (fun V hv => rtext_any g a c l (numS l 1 st).2 V hv)
  have HF := Lib.hid (show itemS l st = (((numS l 1 st).1, (textS l (numS l 1 st).2).1), (textS l (numS l 1 st).2).2) from rfl)
  clear h hA hfa
  generalize itemS l st = R at *
  generalize numS l 1 st = q at *
  obtain ⟨v, s1⟩ := q
  simp only at HC HT HF ⊢
  generalize textS l s1 = q at *
  obtain ⟨tv, s2⟩ := q
  simp only at HC HT HF ⊢
  go_enter Try.func75, Try.ntmps75
  go_wp2_with (rw [hW])
  clear hW
  refine HC.out.mono ?_
  rintro e V ⟨rfl, hz, hf⟩
  have HZ := Lib.hid hz
  have HFR := Lib.hid (HFA.out.trans hf (fun i h _ => h))
  have HX := Lib.hid (Blk.frm HXA.out hf (fun hh => absurd (show w.heap.size = g from hh) (Nat.ne_of_gt hg)))
  clear hz hf HC HXA HFA
  go_wp2_with fail
  refine (HT.out _ HZ.out).mono ?_
  rintro e V2 ⟨rfl, hz, hf⟩
  have HFR2 := Lib.hid (HFR.out.trans hf (fun i h _ => h))
  have HX2 := Lib.hid (Blk.frm HX.out hf (fun hh => absurd (show w.heap.size = g from hh) (Nat.ne_of_gt hg)))
  have HZ2 := Lib.hid hz
  clear hz hf HT HFR HX HZ
  have y0 : V2.cell? ⟨w.heap.size, 0, none⟩ = some (.int .i64 0) := HX2.out.cell 0
  have y1 : V2.cell? ⟨w.heap.size, 1, none⟩ = some (.string ⟨#[]⟩) := HX2.out.cell 1
  have fz : ∀ o, V2.frozen? ⟨w.heap.size, o, none⟩ = false := fun o => fz_of (o := o) HX2.out
  go_wp2_with fail
  rw [HF.out]
  have hX := (HX2.out.set 0 (.int .i64 v)).set 1 (.string tv)
  refine bodyPost_ret (results_cell_row rfl _ _ w.heap.size 27 #[.int .i64 v, .string tv] (0, 0) _ rfl hX Try.underlying27 rfl isz_item) rfl ?_
  have hf : Frm (fun i => i = g) w ((V2.setCell ⟨w.heap.size, 0, none⟩ (.int .i64 v)).setCell ⟨w.heap.size, 1, none⟩ (.string tv)) := (HFR2.out.setCell ⟨w.heap.size, 0, none⟩ _ (.inr (Nat.le_refl _))).setCell ⟨w.heap.size, 1, none⟩ _ (.inr (Nat.le_refl _))
  exact ⟨rfl, HW.out.next hf ((HZ2.out.2.2.1.far ⟨w.heap.size, 0, none⟩ _ (Nat.ne_of_lt hg)).far ⟨w.heap.size, 1, none⟩ _ (Nat.ne_of_lt hg)) HZ2.out.2.2.2.1, hf⟩
end Go.Proofs.Ytjhkdbcfkaaffaa
