/- The document's reader: num, text. -/
import Derived.Test.YtjhkdbcfkaaffaaMm12
import Derived.Test.YtjhkdbcfkaaffaaJB
import Derived.Deep.MidRow
namespace Go.Proofs.Ytjhkdbcfkaaffaa
open Go.RowKit
set_option linter.unusedVariables false

/-- the reader's block, over the bytes l -/
def QAt (w : World) (g : Nat) (a : Option Addr) (c : Nat) (l : List Nat) (st : Nat × Bool) : Prop :=
  Rd w a l.length c (u8s l) ∧ (∀ b o, a = some ⟨b, o, none⟩ → b ≠ g) ∧ Blk w g 103 [.slice a l.length c, .int .i64 st.1, .bool st.2] ∧ st.1 ≤ l.length ∧ l.length ≤ 2000 ∧ ∀ x ∈ l, x < 256
def QR (g : Nat) (a : Option Addr) (c : Nat) (l : List Nat) (v : Value) (st : Nat × Bool) (w : World) (e : Ending) (w' : World) : Prop := e = .returned v ∧ QAt w' g a c l st ∧ Frm (fun i => i = g) w w'
set_option maxRecDepth 100000 in
theorem QAt.frm {S : Nat → Prop} {w w' : World} {g : Nat} {a : Option Addr} {c : Nat} {l : List Nat} {st : Nat × Bool} (h : QAt w g a c l st) (hf : Frm S w w') (hg : ¬ S g) (hne : ∀ b o, a = some ⟨b, o, none⟩ → ¬ S b) : QAt w' g a c l st :=
  ⟨h.1.frm hf hne, h.2.1, h.2.2.1.frm hf hg, h.2.2.2⟩
set_option maxRecDepth 100000 in
theorem QAt.next {w w' : World} {g : Nat} {a : Option Addr} {c : Nat} {l : List Nat} {st st' : Nat × Bool} (h : QAt w g a c l st) (hf : Frm (fun i => i = g) w w') (hk : Blk w' g 103 [.slice a l.length c, .int .i64 st'.1, .bool st'.2]) (hl : st'.1 ≤ l.length) : QAt w' g a c l st' :=
  ⟨h.1.frm hf (fun b o e => h.2.1 b o e), h.2.1, hk, hl, h.2.2.2.2⟩
set_option maxRecDepth 100000 in
theorem QAt.alloc {w : World} {g : Nat} {a : Option Addr} {c : Nat} {l : List Nat} {st : Nat × Bool} (h : QAt w g a c l st) (o : Obj) : QAt (w.alloc o) g a c l st := h.frm (((Frm.refl (fun _ => False) w).alloc o)) (fun h => h) (fun _ _ _ h => h)
set_option maxRecDepth 100000 in
set_option maxHeartbeats 4000000 in
theorem qnum_any (g : Nat) (a : Option Addr) (c : Nat) (l : List Nat) (k : Nat) (st : Nat × Bool) (w : World) (h : QAt w g a c l st) (hk1 : 1 ≤ k) (hk4 : k ≤ 4) :
    Calls Try.prog 76 #[.pointer (some ⟨g, 0, none⟩), .int .i64 k] w (QR g a c l (.int .i64 (numS l k st).1) (numS l k st).2 w) := by
  have HW := Lib.hid (show QAt w.drew g a c l st from h)
  obtain ⟨hr, hne, hk, hst, hl, hb⟩ := h
  have HK := Lib.hid (show Blk w.drew g 103 [.slice a l.length c, .int .i64 st.1, .bool st.2] from hk)
  have t0 : w.drew.cell? ⟨g, 0, none⟩ = some (.slice a l.length c) := hk.cell 0
  have t1 : w.drew.cell? ⟨g, 1, none⟩ = some (.int .i64 st.1) := hk.cell 1
  have t2 : w.drew.cell? ⟨g, 2, none⟩ = some (.bool st.2) := hk.cell 2
  have fz : ∀ o, w.drew.frozen? ⟨g, o, none⟩ = false := fun o => fz_of (o := o) hk
  obtain ⟨R, hR⟩ : ∃ R, numS l k st = R := ⟨_, rfl⟩
  rw [hR]
  by_cases hok : st.1 + k ≤ l.length
  · have HN := Lib.hid (refnum_yes a l.length c l st.1 k w.drew hr hb (by omega) (by unfold numOk; simp; omega))
    have hw : wrap64 (numAt l st.1 k : Nat) = (numAt l st.1 k : Nat) := by have := numAt_lt hb st.1 k hk4; unfold wrap64; omega
    rw [hw] at HN
    have HR := Lib.hid (show R = (((numAt l st.1 k : Nat) : Int), (st.1 + k, st.2)) from by rw [← hR]; unfold numS; rw [if_pos hok])
    generalize numAt l st.1 k = nv at *
    have kw : IntKind.i64.wrap ((st.1 : Int) + k) = (st.1 : Int) + k := IntWalk.i64_in _ (by omega)
    have HZ := Lib.hid (hk.set 1 (.int .i64 ((st.1 : Int) + k)))
    clear hr hne hk hl hb hR hw
    go_enter Try.func76, Try.ntmps76
    go_wp2_with fail
    refine wp_region_held_drew (S := (fun w' => w'.cell? ⟨g, 0, none⟩ = some (.slice a l.length c) ∧ w'.cell? ⟨g, 1, none⟩ = some (.int .i64 st.1))) (by kernel_rfl) (by exact ⟨HK.out.cell 0, HK.out.cell 1⟩) (fun hHeld => ?_)
    refine takeO 0 (some 8) (v := ?_) rfl rfl (by kernel_rfl) (by kernel_rfl) (by kernel_rfl) (fun _ _ _ h => h) (Or.inl ⟨by rfl, ?_⟩) (by assumption) ?_
    rotate_left 1
    · intro w hSw; (try dsimp only at hSw); go_simp; all_goals with_reducible rfl
    try simp only [Act.put, List.setIfInBounds_toArray, List.set_cons_zero, List.set_cons_succ]
    refine takeO 1 (some 9) (v := ?_) rfl rfl (by kernel_rfl) (by kernel_rfl) (by kernel_rfl) (fun _ _ _ h => h) (Or.inl ⟨by rfl, ?_⟩) (by assumption) ?_
    rotate_left 1
    · intro w hSw; (try dsimp only at hSw); go_simp; all_goals with_reducible rfl
    try simp only [Act.put, List.setIfInBounds_toArray, List.set_cons_zero, List.set_cons_succ]
    refine takeO 2 (some 10) (v := ?_) rfl rfl (by kernel_rfl) (by kernel_rfl) (by kernel_rfl) (fun _ _ _ h => h) (Or.inl ⟨by rfl, ?_⟩) (by assumption) ?_
    rotate_left 1
    · intro w hSw; (try dsimp only at hSw); go_simp; all_goals with_reducible rfl
    try simp only [Act.put, List.setIfInBounds_toArray, List.set_cons_zero, List.set_cons_succ]
    refine takeO 3 (some 11) (v := ?_) rfl rfl (by kernel_rfl) (by kernel_rfl) (by kernel_rfl) (fun _ _ _ h => h) (Or.inl ⟨by rfl, ?_⟩) (by assumption) ?_
    rotate_left 1
    · intro w hSw; (try dsimp only at hSw); go_simp; all_goals with_reducible rfl
    try simp only [Act.put, List.setIfInBounds_toArray, List.set_cons_zero, List.set_cons_succ]
    refine takeO 4 (some 12) (v := ?_) rfl rfl (by kernel_rfl) (by kernel_rfl) (by kernel_rfl) (fun _ _ _ h => h) (Or.inl ⟨by rfl, ?_⟩) (by assumption) ?_
    rotate_left 1
    · intro w hSw; (try dsimp only at hSw); go_simp; all_goals with_reducible rfl
    try simp only [Act.put, List.setIfInBounds_toArray, List.set_cons_zero, List.set_cons_succ]
    refine takeO 5 (some 13) (v := ?_) rfl rfl (by kernel_rfl) (by kernel_rfl) (by kernel_rfl) (fun _ _ _ h => h) (Or.inl ⟨by rfl, ?_⟩) (by assumption) ?_
    rotate_left 1
    · intro w hSw; (try dsimp only at hSw); go_simp; all_goals with_reducible rfl
    try simp only [Act.put, List.setIfInBounds_toArray, List.set_cons_zero, List.set_cons_succ]
    refine takeO 6 (some 14) (v := ?_) rfl rfl (by kernel_rfl) (by kernel_rfl) (by kernel_rfl) (fun _ _ _ h => h) (Or.inl ⟨by rfl, ?_⟩) (by assumption) ?_
    rotate_left 1
    · intro w hSw; (try dsimp only at hSw); go_simp; all_goals with_reducible rfl
    try simp only [Act.put, List.setIfInBounds_toArray, List.set_cons_zero, List.set_cons_succ]
    refine takeO 7 (some 15) (v := ?_) rfl rfl (by kernel_rfl) (by kernel_rfl) (by kernel_rfl) (fun _ _ _ h => h) (Or.inl ⟨by rfl, ?_⟩) (by assumption) ?_
    rotate_left 1
    · intro w hSw; (try dsimp only at hSw); go_simp; all_goals with_reducible rfl
    try simp only [Act.put, List.setIfInBounds_toArray, List.set_cons_zero, List.set_cons_succ]
    refine takeO 8 (some 16) (v := ?_) rfl rfl (by kernel_rfl) (by kernel_rfl) (by kernel_rfl) (fun _ _ _ h => h) (Or.inl ⟨by rfl, ?_⟩) (by assumption) ?_
    rotate_left 1
    · intro w hSw; (try dsimp only at hSw); go_simp; all_goals with_reducible rfl
    try simp only [Act.put, List.setIfInBounds_toArray, List.set_cons_zero, List.set_cons_succ]
    refine wpAnyH_ready (rs := [9]) (by kernel_rfl) (by simp) ?_
    refine AllReadyH.cons rfl (fun K hK => ?_) AllReadyH.nil
    go_simp
    refine HN.out.mono ?_; rintro e w1 ⟨rfl, rfl⟩
    go_wp2_with fail
    refine hK.out _ _ (by exact ⟨HK.out.cell 0, HK.out.cell 1⟩) (fun hHeld => ?_)
    clear hK K
    try simp only [Act.put, List.setIfInBounds_toArray, List.set_cons_zero, List.set_cons_succ]
    refine takeO 10 (some 7) (v := ?_) rfl rfl (by kernel_rfl) (by kernel_rfl) (by kernel_rfl) (fun _ _ _ h => h) (Or.inl ⟨by rfl, ?_⟩) (by assumption) ?_
    rotate_left 1
    · intro w hSw; (try dsimp only at hSw); go_simp; all_goals with_reducible rfl
    try simp only [Act.put, List.setIfInBounds_toArray, List.set_cons_zero, List.set_cons_succ]
    refine takeO 11 (some 18) (v := ?_) rfl rfl (by kernel_rfl) (by kernel_rfl) (by kernel_rfl) (fun _ _ _ h => h) (Or.inl ⟨by rfl, ?_⟩) (by assumption) ?_
    rotate_left 1
    · intro w hSw; (try dsimp only at hSw); go_simp; all_goals with_reducible rfl
    try simp only [Act.put, List.setIfInBounds_toArray, List.set_cons_zero, List.set_cons_succ]
    refine takeO 12 (some 19) (v := ?_) rfl rfl (by kernel_rfl) (by kernel_rfl) (by kernel_rfl) (fun _ _ _ h => h) (Or.inl ⟨by rfl, ?_⟩) (by assumption) ?_
    rotate_left 1
    · intro w hSw; (try dsimp only at hSw); go_simp; all_goals with_reducible rfl
    try simp only [Act.put, List.setIfInBounds_toArray, List.set_cons_zero, List.set_cons_succ]
    refine takeO 13 (some 5) (v := ?_) rfl rfl (by kernel_rfl) (by kernel_rfl) (by kernel_rfl) (fun _ _ _ h => h) (Or.inl ⟨by rfl, ?_⟩) (by assumption) ?_
    rotate_left 1
    · intro w hSw; (try dsimp only at hSw); go_simp; all_goals with_reducible rfl
    try simp only [Act.put, List.setIfInBounds_toArray, List.set_cons_zero, List.set_cons_succ]
    refine takeO 14 (some 6) (v := ?_) rfl rfl (by kernel_rfl) (by kernel_rfl) (by kernel_rfl) (fun _ _ _ h => h) (Or.inl ⟨by rfl, ?_⟩) (by assumption) ?_
    rotate_left 1
    · intro w hSw; (try dsimp only at hSw); go_simp; all_goals with_reducible rfl
    try simp only [Act.put, List.setIfInBounds_toArray, List.set_cons_zero, List.set_cons_succ]
    refine wpAnyH_done (by kernel_rfl) ?_ _
    go_wp2_with fail
    go_ret
    rw [HR.out]
    have hf : Frm (fun i => i = g) w (w.drew.setCell ⟨g, 1, none⟩ (.int .i64 ((st.1 : Int) + k))) := ((Frm.refl _ w).drew).setCell _ _ (.inl rfl)
    exact ⟨rfl, HW.out.next (((Frm.refl _ w.drew)).setCell _ _ (.inl rfl)) (by have q := HZ.out; rw [← Int.natCast_add] at q ⊢; exact q) hok, hf⟩
  · have HN := Lib.hid (refnum_no a l.length c st.1 k w.drew (by omega) (by unfold numOk; simp; omega) (by omega) (by omega))
    have HR := Lib.hid (show R = ((0 : Int), (st.1, true)) from by rw [← hR]; unfold numS; rw [if_neg hok])
    have HZ := Lib.hid (hk.set 2 (.bool true))
    clear hr hne hk hl hb hR
    go_enter Try.func76, Try.ntmps76
    go_wp2_with fail
    refine wp_region_held_drew (S := (fun w' => w'.cell? ⟨g, 0, none⟩ = some (.slice a l.length c) ∧ w'.cell? ⟨g, 1, none⟩ = some (.int .i64 st.1))) (by kernel_rfl) (by exact ⟨HK.out.cell 0, HK.out.cell 1⟩) (fun hHeld => ?_)
    refine takeO 0 (some 8) (v := ?_) rfl rfl (by kernel_rfl) (by kernel_rfl) (by kernel_rfl) (fun _ _ _ h => h) (Or.inl ⟨by rfl, ?_⟩) (by assumption) ?_
    rotate_left 1
    · intro w hSw; (try dsimp only at hSw); go_simp; all_goals with_reducible rfl
    try simp only [Act.put, List.setIfInBounds_toArray, List.set_cons_zero, List.set_cons_succ]
    refine takeO 1 (some 9) (v := ?_) rfl rfl (by kernel_rfl) (by kernel_rfl) (by kernel_rfl) (fun _ _ _ h => h) (Or.inl ⟨by rfl, ?_⟩) (by assumption) ?_
    rotate_left 1
    · intro w hSw; (try dsimp only at hSw); go_simp; all_goals with_reducible rfl
    try simp only [Act.put, List.setIfInBounds_toArray, List.set_cons_zero, List.set_cons_succ]
    refine takeO 2 (some 10) (v := ?_) rfl rfl (by kernel_rfl) (by kernel_rfl) (by kernel_rfl) (fun _ _ _ h => h) (Or.inl ⟨by rfl, ?_⟩) (by assumption) ?_
    rotate_left 1
    · intro w hSw; (try dsimp only at hSw); go_simp; all_goals with_reducible rfl
    try simp only [Act.put, List.setIfInBounds_toArray, List.set_cons_zero, List.set_cons_succ]
    refine takeO 3 (some 11) (v := ?_) rfl rfl (by kernel_rfl) (by kernel_rfl) (by kernel_rfl) (fun _ _ _ h => h) (Or.inl ⟨by rfl, ?_⟩) (by assumption) ?_
    rotate_left 1
    · intro w hSw; (try dsimp only at hSw); go_simp; all_goals with_reducible rfl
    try simp only [Act.put, List.setIfInBounds_toArray, List.set_cons_zero, List.set_cons_succ]
    refine takeO 4 (some 12) (v := ?_) rfl rfl (by kernel_rfl) (by kernel_rfl) (by kernel_rfl) (fun _ _ _ h => h) (Or.inl ⟨by rfl, ?_⟩) (by assumption) ?_
    rotate_left 1
    · intro w hSw; (try dsimp only at hSw); go_simp; all_goals with_reducible rfl
    try simp only [Act.put, List.setIfInBounds_toArray, List.set_cons_zero, List.set_cons_succ]
    refine takeO 5 (some 13) (v := ?_) rfl rfl (by kernel_rfl) (by kernel_rfl) (by kernel_rfl) (fun _ _ _ h => h) (Or.inl ⟨by rfl, ?_⟩) (by assumption) ?_
    rotate_left 1
    · intro w hSw; (try dsimp only at hSw); go_simp; all_goals with_reducible rfl
    try simp only [Act.put, List.setIfInBounds_toArray, List.set_cons_zero, List.set_cons_succ]
    refine takeO 6 (some 14) (v := ?_) rfl rfl (by kernel_rfl) (by kernel_rfl) (by kernel_rfl) (fun _ _ _ h => h) (Or.inl ⟨by rfl, ?_⟩) (by assumption) ?_
    rotate_left 1
    · intro w hSw; (try dsimp only at hSw); go_simp; all_goals with_reducible rfl
    try simp only [Act.put, List.setIfInBounds_toArray, List.set_cons_zero, List.set_cons_succ]
    refine takeO 7 (some 15) (v := ?_) rfl rfl (by kernel_rfl) (by kernel_rfl) (by kernel_rfl) (fun _ _ _ h => h) (Or.inl ⟨by rfl, ?_⟩) (by assumption) ?_
    rotate_left 1
    · intro w hSw; (try dsimp only at hSw); go_simp; all_goals with_reducible rfl
    try simp only [Act.put, List.setIfInBounds_toArray, List.set_cons_zero, List.set_cons_succ]
    refine takeO 8 (some 16) (v := ?_) rfl rfl (by kernel_rfl) (by kernel_rfl) (by kernel_rfl) (fun _ _ _ h => h) (Or.inl ⟨by rfl, ?_⟩) (by assumption) ?_
    rotate_left 1
    · intro w hSw; (try dsimp only at hSw); go_simp; all_goals with_reducible rfl
    try simp only [Act.put, List.setIfInBounds_toArray, List.set_cons_zero, List.set_cons_succ]
    refine wpAnyH_ready (rs := [9]) (by kernel_rfl) (by simp) ?_
    refine AllReadyH.cons rfl (fun K hK => ?_) AllReadyH.nil
    go_simp
    refine HN.out.mono ?_; rintro e w1 ⟨rfl, rfl⟩
    go_wp2_with fail
    refine hK.out _ _ (by exact ⟨HK.out.cell 0, HK.out.cell 1⟩) (fun hHeld => ?_)
    clear hK K
    try simp only [Act.put, List.setIfInBounds_toArray, List.set_cons_zero, List.set_cons_succ]
    refine takeO 10 (some 7) (v := ?_) rfl rfl (by kernel_rfl) (by kernel_rfl) (by kernel_rfl) (fun _ _ _ h => h) (Or.inl ⟨by rfl, ?_⟩) (by assumption) ?_
    rotate_left 1
    · intro w hSw; (try dsimp only at hSw); go_simp; all_goals with_reducible rfl
    try simp only [Act.put, List.setIfInBounds_toArray, List.set_cons_zero, List.set_cons_succ]
    refine takeO 11 (some 18) (v := ?_) rfl rfl (by kernel_rfl) (by kernel_rfl) (by kernel_rfl) (fun _ _ _ h => h) (Or.inl ⟨by rfl, ?_⟩) (by assumption) ?_
    rotate_left 1
    · intro w hSw; (try dsimp only at hSw); go_simp; all_goals with_reducible rfl
    try simp only [Act.put, List.setIfInBounds_toArray, List.set_cons_zero, List.set_cons_succ]
    refine takeO 12 (some 19) (v := ?_) rfl rfl (by kernel_rfl) (by kernel_rfl) (by kernel_rfl) (fun _ _ _ h => h) (Or.inl ⟨by rfl, ?_⟩) (by assumption) ?_
    rotate_left 1
    · intro w hSw; (try dsimp only at hSw); go_simp; all_goals with_reducible rfl
    try simp only [Act.put, List.setIfInBounds_toArray, List.set_cons_zero, List.set_cons_succ]
    refine takeO 13 (some 5) (v := ?_) rfl rfl (by kernel_rfl) (by kernel_rfl) (by kernel_rfl) (fun _ _ _ h => h) (Or.inl ⟨by rfl, ?_⟩) (by assumption) ?_
    rotate_left 1
    · intro w hSw; (try dsimp only at hSw); go_simp; all_goals with_reducible rfl
    try simp only [Act.put, List.setIfInBounds_toArray, List.set_cons_zero, List.set_cons_succ]
    refine takeO 14 (some 6) (v := ?_) rfl rfl (by kernel_rfl) (by kernel_rfl) (by kernel_rfl) (fun _ _ _ h => h) (Or.inl ⟨by rfl, ?_⟩) (by assumption) ?_
    rotate_left 1
    · intro w hSw; (try dsimp only at hSw); go_simp; all_goals with_reducible rfl
    try simp only [Act.put, List.setIfInBounds_toArray, List.set_cons_zero, List.set_cons_succ]
    refine wpAnyH_done (by kernel_rfl) ?_ _
    go_wp2_with fail
    go_ret
    rw [HR.out]
    have hf : Frm (fun i => i = g) w (w.drew.setCell ⟨g, 2, none⟩ (.bool true)) := ((Frm.refl _ w).drew).setCell _ _ (.inl rfl)
    exact ⟨rfl, HW.out.next (((Frm.refl _ w.drew)).setCell _ _ (.inl rfl)) HZ.out hst, hf⟩
set_option maxRecDepth 100000 in
set_option maxHeartbeats 4000000 in
theorem qtext_any (g : Nat) (a : Option Addr) (c : Nat) (l : List Nat) (st : Nat × Bool) (w : World) (h : QAt w g a c l st) :
    Calls Try.prog 77 #[.pointer (some ⟨g, 0, none⟩)] w (QR g a c l (.string (textS l st).1) (textS l st).2 w) := by
  have HW := Lib.hid (show QAt w.drew g a c l st from h)
  obtain ⟨hr, hne, hk, hst, hl, hb⟩ := h
  have HK := Lib.hid (show Blk w.drew g 103 [.slice a l.length c, .int .i64 st.1, .bool st.2] from hk)
  have t0 : w.drew.cell? ⟨g, 0, none⟩ = some (.slice a l.length c) := hk.cell 0
  have t1 : w.drew.cell? ⟨g, 1, none⟩ = some (.int .i64 st.1) := hk.cell 1
  have t2 : w.drew.cell? ⟨g, 2, none⟩ = some (.bool st.2) := hk.cell 2
  have fz : ∀ o, w.drew.frozen? ⟨g, o, none⟩ = false := fun o => fz_of (o := o) hk
  obtain ⟨R, hR⟩ : ∃ R, textS l st = R := ⟨_, rfl⟩
  have hle := textS_le hst
  rw [hR] at hle ⊢
  have HLE := Lib.hid hle
  clear hle
  cases hok : textOk l st.1
  · have HN := Lib.hid (reftext_no a l.length c l st.1 w.drew hr hb (by omega) hok (by omega))
    have HR := Lib.hid (show R = ((⟨#[]⟩ : ByteArray), (st.1, true)) from by rw [← hR]; unfold textS; rw [if_neg (by rw [hok]; decide)])
    have HZ := Lib.hid (hk.set 2 (.bool true))
    clear hr hne hk hl hb hR hok
    go_enter Try.func77, Try.ntmps77
    go_wp2_with fail
    refine wp_region_held_drew (S := (fun w' => w'.cell? ⟨g, 0, none⟩ = some (.slice a l.length c) ∧ w'.cell? ⟨g, 1, none⟩ = some (.int .i64 st.1))) (by kernel_rfl) (by exact ⟨HK.out.cell 0, HK.out.cell 1⟩) (fun hHeld => ?_)
    refine takeO 0 (some 7) (v := ?_) rfl rfl (by kernel_rfl) (by kernel_rfl) (by kernel_rfl) (fun _ _ _ h => h) (Or.inl ⟨by rfl, ?_⟩) (by assumption) ?_
    rotate_left 1
    · intro w hSw; (try dsimp only at hSw); go_simp; all_goals with_reducible rfl
    try simp only [Act.put, List.setIfInBounds_toArray, List.set_cons_zero, List.set_cons_succ]
    refine takeO 1 (some 8) (v := ?_) rfl rfl (by kernel_rfl) (by kernel_rfl) (by kernel_rfl) (fun _ _ _ h => h) (Or.inl ⟨by rfl, ?_⟩) (by assumption) ?_
    rotate_left 1
    · intro w hSw; (try dsimp only at hSw); go_simp; all_goals with_reducible rfl
    try simp only [Act.put, List.setIfInBounds_toArray, List.set_cons_zero, List.set_cons_succ]
    refine takeO 2 (some 9) (v := ?_) rfl rfl (by kernel_rfl) (by kernel_rfl) (by kernel_rfl) (fun _ _ _ h => h) (Or.inl ⟨by rfl, ?_⟩) (by assumption) ?_
    rotate_left 1
    · intro w hSw; (try dsimp only at hSw); go_simp; all_goals with_reducible rfl
    try simp only [Act.put, List.setIfInBounds_toArray, List.set_cons_zero, List.set_cons_succ]
    refine takeO 3 (some 10) (v := ?_) rfl rfl (by kernel_rfl) (by kernel_rfl) (by kernel_rfl) (fun _ _ _ h => h) (Or.inl ⟨by rfl, ?_⟩) (by assumption) ?_
    rotate_left 1
    · intro w hSw; (try dsimp only at hSw); go_simp; all_goals with_reducible rfl
    try simp only [Act.put, List.setIfInBounds_toArray, List.set_cons_zero, List.set_cons_succ]
    refine takeO 4 (some 11) (v := ?_) rfl rfl (by kernel_rfl) (by kernel_rfl) (by kernel_rfl) (fun _ _ _ h => h) (Or.inl ⟨by rfl, ?_⟩) (by assumption) ?_
    rotate_left 1
    · intro w hSw; (try dsimp only at hSw); go_simp; all_goals with_reducible rfl
    try simp only [Act.put, List.setIfInBounds_toArray, List.set_cons_zero, List.set_cons_succ]
    refine takeO 5 (some 12) (v := ?_) rfl rfl (by kernel_rfl) (by kernel_rfl) (by kernel_rfl) (fun _ _ _ h => h) (Or.inl ⟨by rfl, ?_⟩) (by assumption) ?_
    rotate_left 1
    · intro w hSw; (try dsimp only at hSw); go_simp; all_goals with_reducible rfl
    try simp only [Act.put, List.setIfInBounds_toArray, List.set_cons_zero, List.set_cons_succ]
    refine takeO 6 (some 13) (v := ?_) rfl rfl (by kernel_rfl) (by kernel_rfl) (by kernel_rfl) (fun _ _ _ h => h) (Or.inl ⟨by rfl, ?_⟩) (by assumption) ?_
    rotate_left 1
    · intro w hSw; (try dsimp only at hSw); go_simp; all_goals with_reducible rfl
    try simp only [Act.put, List.setIfInBounds_toArray, List.set_cons_zero, List.set_cons_succ]
    refine takeO 7 (some 14) (v := ?_) rfl rfl (by kernel_rfl) (by kernel_rfl) (by kernel_rfl) (fun _ _ _ h => h) (Or.inl ⟨by rfl, ?_⟩) (by assumption) ?_
    rotate_left 1
    · intro w hSw; (try dsimp only at hSw); go_simp; all_goals with_reducible rfl
    try simp only [Act.put, List.setIfInBounds_toArray, List.set_cons_zero, List.set_cons_succ]
    refine wpAnyH_ready (rs := [8]) (by kernel_rfl) (by simp) ?_
    refine AllReadyH.cons rfl (fun K hK => ?_) AllReadyH.nil
    go_simp
    refine HN.out.mono ?_; rintro e w1 ⟨rfl, rfl⟩
    go_wp2_with fail
    refine hK.out _ _ (by exact ⟨HK.out.cell 0, HK.out.cell 1⟩) (fun hHeld => ?_)
    clear hK K
    try simp only [Act.put, List.setIfInBounds_toArray, List.set_cons_zero, List.set_cons_succ]
    refine takeO 9 (some 6) (v := ?_) rfl rfl (by kernel_rfl) (by kernel_rfl) (by kernel_rfl) (fun _ _ _ h => h) (Or.inl ⟨by rfl, ?_⟩) (by assumption) ?_
    rotate_left 1
    · intro w hSw; (try dsimp only at hSw); go_simp; all_goals with_reducible rfl
    try simp only [Act.put, List.setIfInBounds_toArray, List.set_cons_zero, List.set_cons_succ]
    refine takeO 10 (some 16) (v := ?_) rfl rfl (by kernel_rfl) (by kernel_rfl) (by kernel_rfl) (fun _ _ _ h => h) (Or.inl ⟨by rfl, ?_⟩) (by assumption) ?_
    rotate_left 1
    · intro w hSw; (try dsimp only at hSw); go_simp; all_goals with_reducible rfl
    try simp only [Act.put, List.setIfInBounds_toArray, List.set_cons_zero, List.set_cons_succ]
    refine takeO 11 (some 17) (v := ?_) rfl rfl (by kernel_rfl) (by kernel_rfl) (by kernel_rfl) (fun _ _ _ h => h) (Or.inl ⟨by rfl, ?_⟩) (by assumption) ?_
    rotate_left 1
    · intro w hSw; (try dsimp only at hSw); go_simp; all_goals with_reducible rfl
    try simp only [Act.put, List.setIfInBounds_toArray, List.set_cons_zero, List.set_cons_succ]
    refine takeO 12 (some 18) (v := ?_) rfl rfl (by kernel_rfl) (by kernel_rfl) (by kernel_rfl) (fun _ _ _ h => h) (Or.inl ⟨by rfl, ?_⟩) (by assumption) ?_
    rotate_left 1
    · intro w hSw; (try dsimp only at hSw); go_simp; all_goals with_reducible rfl
    try simp only [Act.put, List.setIfInBounds_toArray, List.set_cons_zero, List.set_cons_succ]
    refine takeO 13 (some 3) (v := ?_) rfl rfl (by kernel_rfl) (by kernel_rfl) (by kernel_rfl) (fun _ _ _ h => h) (Or.inl ⟨by rfl, ?_⟩) (by assumption) ?_
    rotate_left 1
    · intro w hSw; (try dsimp only at hSw); go_simp; all_goals with_reducible rfl
    try simp only [Act.put, List.setIfInBounds_toArray, List.set_cons_zero, List.set_cons_succ]
    refine takeO 14 (some 4) (v := ?_) rfl rfl (by kernel_rfl) (by kernel_rfl) (by kernel_rfl) (fun _ _ _ h => h) (Or.inl ⟨by rfl, ?_⟩) (by assumption) ?_
    rotate_left 1
    · intro w hSw; (try dsimp only at hSw); go_simp; all_goals with_reducible rfl
    try simp only [Act.put, List.setIfInBounds_toArray, List.set_cons_zero, List.set_cons_succ]
    refine takeO 15 (some 5) (v := ?_) rfl rfl (by kernel_rfl) (by kernel_rfl) (by kernel_rfl) (fun _ _ _ h => h) (Or.inl ⟨by rfl, ?_⟩) (by assumption) ?_
    rotate_left 1
    · intro w hSw; (try dsimp only at hSw); go_simp; all_goals with_reducible rfl
    try simp only [Act.put, List.setIfInBounds_toArray, List.set_cons_zero, List.set_cons_succ]
    refine wpAnyH_done (by kernel_rfl) ?_ _
    go_wp2_with fail
    go_ret
    rw [HR.out]
    have hf : Frm (fun i => i = g) w (w.drew.setCell ⟨g, 2, none⟩ (.bool true)) := ((Frm.refl _ w).drew).setCell _ _ (.inl rfl)
    exact ⟨rfl, HW.out.next (((Frm.refl _ w.drew)).setCell _ _ (.inl rfl)) HZ.out hst, hf⟩
  · have HN := Lib.hid (reftext_yes a l.length c l st.1 w.drew hr hb (by omega) hok)
    have HR := Lib.hid (show R = (strN (textAt l st.1), (st.1 + 2 + numAt l st.1 2, st.2)) from by rw [← hR]; unfold textS; rw [if_pos hok])
    have hle2 : st.1 + 2 + numAt l st.1 2 ≤ l.length := by have q := HLE.out; rw [HR.out] at q; exact q
    generalize strN (textAt l st.1) = tv at *
    generalize numAt l st.1 2 = nv at *
    have HZ := Lib.hid (hk.set 1 (.int .i64 ((st.1 : Int) + 2 + nv)))
    clear hr hne hk hl hb hR hok
    go_enter Try.func77, Try.ntmps77
    go_wp2_with fail
    refine wp_region_held_drew (S := (fun w' => w'.cell? ⟨g, 0, none⟩ = some (.slice a l.length c) ∧ w'.cell? ⟨g, 1, none⟩ = some (.int .i64 st.1))) (by kernel_rfl) (by exact ⟨HK.out.cell 0, HK.out.cell 1⟩) (fun hHeld => ?_)
    refine takeO 0 (some 7) (v := ?_) rfl rfl (by kernel_rfl) (by kernel_rfl) (by kernel_rfl) (fun _ _ _ h => h) (Or.inl ⟨by rfl, ?_⟩) (by assumption) ?_
    rotate_left 1
    · intro w hSw; (try dsimp only at hSw); go_simp; all_goals with_reducible rfl
    try simp only [Act.put, List.setIfInBounds_toArray, List.set_cons_zero, List.set_cons_succ]
    refine takeO 1 (some 8) (v := ?_) rfl rfl (by kernel_rfl) (by kernel_rfl) (by kernel_rfl) (fun _ _ _ h => h) (Or.inl ⟨by rfl, ?_⟩) (by assumption) ?_
    rotate_left 1
    · intro w hSw; (try dsimp only at hSw); go_simp; all_goals with_reducible rfl
    try simp only [Act.put, List.setIfInBounds_toArray, List.set_cons_zero, List.set_cons_succ]
    refine takeO 2 (some 9) (v := ?_) rfl rfl (by kernel_rfl) (by kernel_rfl) (by kernel_rfl) (fun _ _ _ h => h) (Or.inl ⟨by rfl, ?_⟩) (by assumption) ?_
    rotate_left 1
    · intro w hSw; (try dsimp only at hSw); go_simp; all_goals with_reducible rfl
    try simp only [Act.put, List.setIfInBounds_toArray, List.set_cons_zero, List.set_cons_succ]
    refine takeO 3 (some 10) (v := ?_) rfl rfl (by kernel_rfl) (by kernel_rfl) (by kernel_rfl) (fun _ _ _ h => h) (Or.inl ⟨by rfl, ?_⟩) (by assumption) ?_
    rotate_left 1
    · intro w hSw; (try dsimp only at hSw); go_simp; all_goals with_reducible rfl
    try simp only [Act.put, List.setIfInBounds_toArray, List.set_cons_zero, List.set_cons_succ]
    refine takeO 4 (some 11) (v := ?_) rfl rfl (by kernel_rfl) (by kernel_rfl) (by kernel_rfl) (fun _ _ _ h => h) (Or.inl ⟨by rfl, ?_⟩) (by assumption) ?_
    rotate_left 1
    · intro w hSw; (try dsimp only at hSw); go_simp; all_goals with_reducible rfl
    try simp only [Act.put, List.setIfInBounds_toArray, List.set_cons_zero, List.set_cons_succ]
    refine takeO 5 (some 12) (v := ?_) rfl rfl (by kernel_rfl) (by kernel_rfl) (by kernel_rfl) (fun _ _ _ h => h) (Or.inl ⟨by rfl, ?_⟩) (by assumption) ?_
    rotate_left 1
    · intro w hSw; (try dsimp only at hSw); go_simp; all_goals with_reducible rfl
    try simp only [Act.put, List.setIfInBounds_toArray, List.set_cons_zero, List.set_cons_succ]
    refine takeO 6 (some 13) (v := ?_) rfl rfl (by kernel_rfl) (by kernel_rfl) (by kernel_rfl) (fun _ _ _ h => h) (Or.inl ⟨by rfl, ?_⟩) (by assumption) ?_
    rotate_left 1
    · intro w hSw; (try dsimp only at hSw); go_simp; all_goals with_reducible rfl
    try simp only [Act.put, List.setIfInBounds_toArray, List.set_cons_zero, List.set_cons_succ]
    refine takeO 7 (some 14) (v := ?_) rfl rfl (by kernel_rfl) (by kernel_rfl) (by kernel_rfl) (fun _ _ _ h => h) (Or.inl ⟨by rfl, ?_⟩) (by assumption) ?_
    rotate_left 1
    · intro w hSw; (try dsimp only at hSw); go_simp; all_goals with_reducible rfl
    try simp only [Act.put, List.setIfInBounds_toArray, List.set_cons_zero, List.set_cons_succ]
    refine wpAnyH_ready (rs := [8]) (by kernel_rfl) (by simp) ?_
    refine AllReadyH.cons rfl (fun K hK => ?_) AllReadyH.nil
    go_simp
    refine HN.out.mono ?_; rintro e w1 ⟨rfl, rfl⟩
    go_wp2_with fail
    refine hK.out _ _ (by exact ⟨HK.out.cell 0, HK.out.cell 1⟩) (fun hHeld => ?_)
    clear hK K
    try simp only [Act.put, List.setIfInBounds_toArray, List.set_cons_zero, List.set_cons_succ]
    refine takeO 9 (some 6) (v := ?_) rfl rfl (by kernel_rfl) (by kernel_rfl) (by kernel_rfl) (fun _ _ _ h => h) (Or.inl ⟨by rfl, ?_⟩) (by assumption) ?_
    rotate_left 1
    · intro w hSw; (try dsimp only at hSw); go_simp; all_goals with_reducible rfl
    try simp only [Act.put, List.setIfInBounds_toArray, List.set_cons_zero, List.set_cons_succ]
    refine takeO 10 (some 16) (v := ?_) rfl rfl (by kernel_rfl) (by kernel_rfl) (by kernel_rfl) (fun _ _ _ h => h) (Or.inl ⟨by rfl, ?_⟩) (by assumption) ?_
    rotate_left 1
    · intro w hSw; (try dsimp only at hSw); go_simp; all_goals with_reducible rfl
    try simp only [Act.put, List.setIfInBounds_toArray, List.set_cons_zero, List.set_cons_succ]
    refine takeO 11 (some 17) (v := ?_) rfl rfl (by kernel_rfl) (by kernel_rfl) (by kernel_rfl) (fun _ _ _ h => h) (Or.inl ⟨by rfl, ?_⟩) (by assumption) ?_
    rotate_left 1
    · intro w hSw; (try dsimp only at hSw); go_simp; all_goals with_reducible rfl
    try simp only [Act.put, List.setIfInBounds_toArray, List.set_cons_zero, List.set_cons_succ]
    refine takeO 12 (some 18) (v := ?_) rfl rfl (by kernel_rfl) (by kernel_rfl) (by kernel_rfl) (fun _ _ _ h => h) (Or.inl ⟨by rfl, ?_⟩) (by assumption) ?_
    rotate_left 1
    · intro w hSw; (try dsimp only at hSw); go_simp; all_goals with_reducible rfl
    try simp only [Act.put, List.setIfInBounds_toArray, List.set_cons_zero, List.set_cons_succ]
    refine takeO 13 (some 3) (v := ?_) rfl rfl (by kernel_rfl) (by kernel_rfl) (by kernel_rfl) (fun _ _ _ h => h) (Or.inl ⟨by rfl, ?_⟩) (by assumption) ?_
    rotate_left 1
    · intro w hSw; (try dsimp only at hSw); go_simp; all_goals with_reducible rfl
    try simp only [Act.put, List.setIfInBounds_toArray, List.set_cons_zero, List.set_cons_succ]
    refine takeO 14 (some 4) (v := ?_) rfl rfl (by kernel_rfl) (by kernel_rfl) (by kernel_rfl) (fun _ _ _ h => h) (Or.inl ⟨by rfl, ?_⟩) (by assumption) ?_
    rotate_left 1
    · intro w hSw; (try dsimp only at hSw); go_simp; all_goals with_reducible rfl
    try simp only [Act.put, List.setIfInBounds_toArray, List.set_cons_zero, List.set_cons_succ]
    refine takeO 15 (some 5) (v := ?_) rfl rfl (by kernel_rfl) (by kernel_rfl) (by kernel_rfl) (fun _ _ _ h => h) (Or.inl ⟨by rfl, ?_⟩) (by assumption) ?_
    rotate_left 1
    · intro w hSw; (try dsimp only at hSw); go_simp; all_goals with_reducible rfl
    try simp only [Act.put, List.setIfInBounds_toArray, List.set_cons_zero, List.set_cons_succ]
    refine wpAnyH_done (by kernel_rfl) ?_ _
    go_wp2_with fail
    go_ret
    rw [HR.out]
    have hf : Frm (fun i => i = g) w (w.drew.setCell ⟨g, 1, none⟩ (.int .i64 ((st.1 : Int) + 2 + nv))) := ((Frm.refl _ w).drew).setCell _ _ (.inl rfl)
    exact ⟨rfl, HW.out.next (((Frm.refl _ w.drew)).setCell _ _ (.inl rfl)) (by have q := HZ.out; rw [show (st.1 : Int) + 2 + nv = ((st.1 + 2 + nv : Nat) : Int) from by omega] at q ⊢; exact q) hle2, hf⟩
end Go.Proofs.Ytjhkdbcfkaaffaa
/- The document's reader: items. -/
namespace Go.Proofs.Ytjhkdbcfkaaffaa
open Go.RowKit
set_option linter.unusedVariables false

/-- what the loop over the items keeps -/
def QpI (g : Nat) (a : Option Addr) (c : Nat) (l : List Nat) (w : World) (N : Nat) (tot : List KeyL × (Nat × Bool)) (i : Nat) (acc : List KeyL) (s' : Nat × Bool) (a' : Option Addr) (c' : Nat) (wr : World) : Prop :=
  RowKit.Hid (QAt wr g a c l s') ∧ RowKit.Hid (wr.ownsRow w.heap.size 27 2 (.slice a' acc.length c') acc.length (acc.flatMap KeyL.cells)) ∧ RowKit.Hid (Frm (fun i => i = g) w wr) ∧ RowKit.Hid ((acc ++ (itemsS l (N - i) s').1, (itemsS l (N - i) s').2) = tot) ∧ acc.length ≤ i
def QI (g : Nat) (a : Option Addr) (c : Nat) (l : List Nat) (r : List KeyL × (Nat × Bool)) (w : World) (e : Ending) (w' : World) : Prop := ∃ ao co, e = .returned (.slice ao r.1.length co) ∧ w'.ownsRow w.heap.size 27 2 (.slice ao r.1.length co) r.1.length (r.1.flatMap KeyL.cells) ∧ QAt w' g a c l r.2 ∧ Frm (fun i => i = g) w w'
set_option maxRecDepth 100000 in
set_option maxHeartbeats 8000000 in
theorem qitems_any (g : Nat) (a : Option Addr) (c : Nat) (l : List Nat) (N : Nat) (st : Nat × Bool) (w : World) (h : QAt w g a c l st) (hN : N ≤ 4294967296) :
    Calls Try.prog 78 #[.pointer (some ⟨g, 0, none⟩), .int .i64 N] w (QI g a c l (itemsS l N st) w) := by
  obtain ⟨i0, hi, hz0, hz1, hz2⟩ := info_parts infoI2
  have HI0 := Lib.hid hi
  have HZ0 := Lib.hid hz0
  have HZ1 := Lib.hid hz1
  have HZ2 : RowKit.Hid (i0.bytes = 24) := hz2
  clear hi hz0 hz1 hz2
  have hg := h.2.2.1.lt
  have HW := Lib.hid h
  obtain ⟨tot, e7⟩ : ∃ q, itemsS l N st = q := ⟨_, rfl⟩
  rw [e7]
  have E7 := Lib.hid e7
  clear h e7
  unfold QI
  go_enter Try.func78, Try.ntmps78
  go_wp2_with fail
  go_loopw [5, 6, 7] (fun lv v dv wr => ∃ (i : Nat) (acc : List KeyL) (s' : Nat × Bool) (a' : Option Addr) (c' : Nat), i ≤ N ∧ v = .int .i64 i ∧ lv = .slice a' acc.length c' ∧ QpI g a c l w N tot i acc s' a' c' wr) (fun _ v _ _ => N - (intOf v).toNat)
  case atStart => exact ⟨0, [], st, none, 0, by omega, rfl, rfl, HW.out, World.ownsRow_nil _ _ _ _, Frm.refl _ _, by unfold RowKit.Hid; rw [Nat.sub_zero, E7.out]; rfl, Nat.le_refl _⟩
  case round =>
    obtain ⟨i, acc, s', a', c', hi, rfl, rfl, HZ, HO, HF, HTO, hai⟩ := hrel
    have t2 : wr.cell? ⟨g, 2, none⟩ = some (.bool s'.2) := HZ.out.2.2.1.cell 2
    by_cases hlt : i < N
    · have k2 : (i : Int) < (N : Int) := by omega
      cases hbad : s'.2
      · rw [hbad] at t2
        have HNX := Lib.hid (itemsS_next l (N - (i + 1)) s' hbad)
        obtain ⟨⟨d9, s8⟩, e8⟩ : ∃ q, numS l 1 s' = q := ⟨_, rfl⟩
        obtain ⟨⟨z9, s9⟩, e9⟩ : ∃ q, textS l s8 = q := ⟨_, rfl⟩
        have HIT := Lib.hid (show itemS l s' = ((d9, z9), s9) from by unfold itemS; rw [e8]; show ((d9, (textS l s8).1), (textS l s8).2) = _; rw [e9])
        have HTO2 := Lib.hid (show ((acc ++ [(d9, z9)]) ++ (itemsS l (N - (i + 1)) s9).1, (itemsS l (N - (i + 1)) s9).2) = tot from by
          rw [← HTO.out, show N - i = N - (i + 1) + 1 from by omega, HNX.out, HIT.out]; simp)
        have HC := Lib.hid (qnum_any g a c l 1 s' wr HZ.out (by decide) (by decide))
        rw [e8] at HC
        simp only at HC
        have HCT := Lib.hid (fun W hq => qtext_any g a c l s8 W hq)
        rw [e9] at HCT
        simp only at HCT
        have A1 : acc.length + 1 ≤ maxLen := by unfold maxLen; omega
        have A2 : (acc.length + 1) * 24 ≤ 140737488355328 := by omega
        clear e8 e9 HNX HIT HTO
        go_wp2_with fail
        refine HC.out.mono ?_
        clear HC
        rintro e V1 ⟨rfl, hz, hf⟩
        have HZ1' := Lib.hid hz
        have HF1 := Lib.hid (HF.out.trans hf (fun i h _ => h))
        have HO1 := Lib.hid (ownsRow_frm HO.out hf (fun k hk hh => absurd (show k = g from hh) (Nat.ne_of_gt (Nat.lt_of_lt_of_le hg (own_ge HO.out k hk)))))
        clear hz hf t2 HZ HF HO
        go_wp2_with fail
        refine (HCT.out _ HZ1'.out).mono ?_
        clear HCT
        rintro e V2 ⟨rfl, hz, hf⟩
        have HZ2' := Lib.hid hz
        have HF2 := Lib.hid (HF1.out.trans hf (fun i h _ => h))
        have HO2 := Lib.hid (ownsRow_frm HO1.out hf (fun k hk hh => absurd (show k = g from hh) (Nat.ne_of_gt (Nat.lt_of_lt_of_le hg (own_ge HO1.out k hk)))))
        have hsz2 : w.heap.size ≤ V2.heap.size := HF2.out.size
        clear hz hf HZ1' HF1 HO1
        go_wp2_with (at_builtin; refine wpList_app rfl _ _ 30 30 rfl w.heap.size 27 i0 (.agg #[.int .i64 0, .string ⟨#[]⟩]) 2 24 Try.underlying30 HI0.out HZ0.out HZ1.out HZ2.out rfl (by decide) a' acc.length c' (acc.flatMap KeyL.cells) rfl (HO2.out.alloc _) _ 1 _ rfl (Src.two Try.underlying30 V2 _ _ 27 rfl rfl) A1 A2 (by simp; omega) ?_; intro ao3 c3 w5 hown5 hg5; have HO5 := Lib.hid hown5; have HG5 := Lib.hid (Frm.grown (S := fun i => (Value.slice a' acc.length c').ownBlock = some i) hg5 (fun _ h => h)); clear hown5 hg5)
        have hl : (acc ++ [(d9, z9)]).length = acc.length + 1 := by simp
        have hoz : ∀ k, (Value.slice a' acc.length c').ownBlock = some k → w.heap.size ≤ k := own_ge HO2.out
        have hf5 : Frm (fun i => i = g) w w5 := (HF2.out.alloc (.cells #[.int .i64 d9, .string z9] 27)).trans HG5.out (fun i h hi => by have := hoz i h; omega)
        have HZz := Lib.hid (HW.out.next hf5 ((HZ2'.out.2.2.1.alloc (.cells #[.int .i64 d9, .string z9] 27)).frm HG5.out (fun hh => by have := hoz g hh; omega)) HZ2'.out.2.2.2.1)
        have hOz := HO5.out
        rw [show acc.flatMap KeyL.cells ++ [Value.int .i64 d9, .string z9] = (acc ++ [(d9, z9)]).flatMap KeyL.cells from by simp [KeyL.cells], ← hl] at hOz
        have HOz := Lib.hid hOz
        have HFz := Lib.hid hf5
        clear hf5 hOz hoz
        go_roundw
        case rel => exact ⟨i + 1, acc ++ [(d9, z9)], s9, ao3, c3, by omega, by go_num, by rw [hl], HZz, HOz, HFz, HTO2, by simp; omega⟩
        case measure => simp [intOf]; omega
      · have HT := Lib.hid (show tot = (acc, s') from by rw [← HTO.out, itemsS_bad l _ s' hbad]; simp)
        rw [hbad] at t2
        clear HTO
        go_wp2_with fail
        go_ret
        rw [HT.out]
        exact ⟨a', c', rfl, HO.out, HZ.out, HF.out⟩
    · obtain rfl : i = N := by omega
      have HT := Lib.hid (show tot = (acc, s') from by rw [← HTO.out, Nat.sub_self]; simp [itemsS])
      clear HTO
      go_wp2_with fail
      go_ret
      rw [HT.out]
      exact ⟨a', c', rfl, HO.out, HZ.out, HF.out⟩
end Go.Proofs.Ytjhkdbcfkaaffaa
/- The document's reader.read, kind by kind. -/
namespace Go.Proofs.Ytjhkdbcfkaaffaa
open Go.RowKit
set_option linter.unusedVariables false

/-- its items, if there are any, lie in new memory -/
def P5.fresh (p : P5) (B : Nat) : Prop := ∀ b o sp, p.ra = some ⟨b, o, sp⟩ → B ≤ b
set_option maxRecDepth 100000 in
theorem own_fresh {w : World} {base e size n m c : Nat} {a : Option Addr} {xs : List Value} (h : w.ownsRow base e size (.slice a m c) n xs) : ∀ b o sp, a = some ⟨b, o, sp⟩ → base ≤ b := by
  intro b o sp ha
  rcases h.2 with ⟨h1, _⟩ | ⟨g, cap, cur, h1, h2, _⟩
  · cases h1; cases ha
  · cases h1; cases ha; exact h2
def QM (g : Nat) (a : Option Addr) (c : Nat) (l : List Nat) (k : Int) (r : MV × (Nat × Bool)) (w : World) (e : Ending) (w' : World) : Prop := ∃ p : P5, e = .returned (p.msg k) ∧ p.kd k = r.1 ∧ QAt w' g a c l r.2 ∧ p.fit w' ∧ Frm (fun i => i = g) w w' ∧ p.fresh w.heap.size
set_option maxRecDepth 100000 in
set_option maxHeartbeats 8000000 in
theorem qread_hello (g : Nat) (a : Option Addr) (c : Nat) (l : List Nat) (st : Nat × Bool) (w : World) (h : QAt w g a c l st) :
    Calls Try.prog 58 #[.pointer (some ⟨g, 0, none⟩), .int .i64 1] w (QM g a c l 1 (helloS l st) w) := by
  have hg := h.2.2.1.lt
  have HW := Lib.hid h
  have HX0 := Lib.hid (show Blk ((w.alloc (.cells #[.int .i64 0, .int .i64 0, .int .i64 0, .int .i64 0, .int .i64 0, .int .i64 0, .int .i64 0, .int .i64 0, .int .i64 0, .int .i64 0, .int .i64 0, .string ⟨#[]⟩, .int .i64 0, .int .i64 0, .bool false, .int .i64 0, .string ⟨#[]⟩, .int .i64 0, .int .i64 0, .int .i64 0, .int .i64 0, .int .i64 0, .int .i64 0, .slice none 0 0, .bool false, .int .i64 0, .int .i64 0] 46)).alloc (.cells #[.int .i64 0, .int .i64 0, .int .i64 0, .int .i64 0, .int .i64 0, .int .i64 0, .int .i64 0, .int .i64 0, .int .i64 0, .int .i64 0, .int .i64 0, .string ⟨#[]⟩, .int .i64 0, .int .i64 0, .bool false, .int .i64 0, .string ⟨#[]⟩, .int .i64 0, .int .i64 0, .int .i64 0, .int .i64 0, .int .i64 0, .int .i64 0, .slice none 0 0, .bool false, .int .i64 0, .int .i64 0] 46)) (w.heap.size + 1) 46 [.int .i64 0, .int .i64 0, .int .i64 0, .int .i64 0, .int .i64 0, .int .i64 0, .int .i64 0, .int .i64 0, .int .i64 0, .int .i64 0, .int .i64 0, .string ⟨#[]⟩, .int .i64 0, .int .i64 0, .bool false, .int .i64 0, .string ⟨#[]⟩, .int .i64 0, .int .i64 0, .int .i64 0, .int .i64 0, .int .i64 0, .int .i64 0, .slice none 0 0, .bool false, .int .i64 0, .int .i64 0] from by have q := heap_alloc_new (w.alloc (.cells #[.int .i64 0, .int .i64 0, .int .i64 0, .int .i64 0, .int .i64 0, .int .i64 0, .int .i64 0, .int .i64 0, .int .i64 0, .int .i64 0, .int .i64 0, .string ⟨#[]⟩, .int .i64 0, .int .i64 0, .bool false, .int .i64 0, .string ⟨#[]⟩, .int .i64 0, .int .i64 0, .int .i64 0, .int .i64 0, .int .i64 0, .int .i64 0, .slice none 0 0, .bool false, .int .i64 0, .int .i64 0] 46)) (.cells #[.int .i64 0, .int .i64 0, .int .i64 0, .int .i64 0, .int .i64 0, .int .i64 0, .int .i64 0, .int .i64 0, .int .i64 0, .int .i64 0, .int .i64 0, .string ⟨#[]⟩, .int .i64 0, .int .i64 0, .bool false, .int .i64 0, .string ⟨#[]⟩, .int .i64 0, .int .i64 0, .int .i64 0, .int .i64 0, .int .i64 0, .int .i64 0, .slice none 0 0, .bool false, .int .i64 0, .int .i64 0] 46); rw [show (w.alloc (.cells #[.int .i64 0, .int .i64 0, .int .i64 0, .int .i64 0, .int .i64 0, .int .i64 0, .int .i64 0, .int .i64 0, .int .i64 0, .int .i64 0, .int .i64 0, .string ⟨#[]⟩, .int .i64 0, .int .i64 0, .bool false, .int .i64 0, .string ⟨#[]⟩, .int .i64 0, .int .i64 0, .int .i64 0, .int .i64 0, .int .i64 0, .int .i64 0, .slice none 0 0, .bool false, .int .i64 0, .int .i64 0] 46)).heap.size = w.heap.size + 1 from by simp] at q; exact q)
  have hG0 := Blk.alloc (show Blk (w.alloc (.cells #[.int .i64 0, .int .i64 0, .int .i64 0, .int .i64 0, .int .i64 0, .int .i64 0, .int .i64 0, .int .i64 0, .int .i64 0, .int .i64 0, .int .i64 0, .string ⟨#[]⟩, .int .i64 0, .int .i64 0, .bool false, .int .i64 0, .string ⟨#[]⟩, .int .i64 0, .int .i64 0, .int .i64 0, .int .i64 0, .int .i64 0, .int .i64 0, .slice none 0 0, .bool false, .int .i64 0, .int .i64 0] 46)) w.heap.size 46 [.int .i64 0, .int .i64 0, .int .i64 0, .int .i64 0, .int .i64 0, .int .i64 0, .int .i64 0, .int .i64 0, .int .i64 0, .int .i64 0, .int .i64 0, .string ⟨#[]⟩, .int .i64 0, .int .i64 0, .bool false, .int .i64 0, .string ⟨#[]⟩, .int .i64 0, .int .i64 0, .int .i64 0, .int .i64 0, .int .i64 0, .int .i64 0, .slice none 0 0, .bool false, .int .i64 0, .int .i64 0] from heap_alloc_new w _) (.cells #[.int .i64 0, .int .i64 0, .int .i64 0, .int .i64 0, .int .i64 0, .int .i64 0, .int .i64 0, .int .i64 0, .int .i64 0, .int .i64 0, .int .i64 0, .string ⟨#[]⟩, .int .i64 0, .int .i64 0, .bool false, .int .i64 0, .string ⟨#[]⟩, .int .i64 0, .int .i64 0, .int .i64 0, .int .i64 0, .int .i64 0, .int .i64 0, .slice none 0 0, .bool false, .int .i64 0, .int .i64 0] 46)
  have hF0 : Frm (fun i => i = g) w (((w.alloc (.cells #[.int .i64 0, .int .i64 0, .int .i64 0, .int .i64 0, .int .i64 0, .int .i64 0, .int .i64 0, .int .i64 0, .int .i64 0, .int .i64 0, .int .i64 0, .string ⟨#[]⟩, .int .i64 0, .int .i64 0, .bool false, .int .i64 0, .string ⟨#[]⟩, .int .i64 0, .int .i64 0, .int .i64 0, .int .i64 0, .int .i64 0, .int .i64 0, .slice none 0 0, .bool false, .int .i64 0, .int .i64 0] 46)).alloc (.cells #[.int .i64 0, .int .i64 0, .int .i64 0, .int .i64 0, .int .i64 0, .int .i64 0, .int .i64 0, .int .i64 0, .int .i64 0, .int .i64 0, .int .i64 0, .string ⟨#[]⟩, .int .i64 0, .int .i64 0, .bool false, .int .i64 0, .string ⟨#[]⟩, .int .i64 0, .int .i64 0, .int .i64 0, .int .i64 0, .int .i64 0, .int .i64 0, .slice none 0 0, .bool false, .int .i64 0, .int .i64 0] 46)).setRow (w.heap.size + 1) #[.int .i64 1, .int .i64 0, .int .i64 0, .int .i64 0, .int .i64 0, .int .i64 0, .int .i64 0, .int .i64 0, .int .i64 0, .int .i64 0, .int .i64 0, .string ⟨#[]⟩, .int .i64 0, .int .i64 0, .bool false, .int .i64 0, .string ⟨#[]⟩, .int .i64 0, .int .i64 0, .int .i64 0, .int .i64 0, .int .i64 0, .int .i64 0, .slice none 0 0, .bool false, .int .i64 0, .int .i64 0]) := (((Frm.refl (fun i => i = g) w).alloc (.cells #[.int .i64 0, .int .i64 0, .int .i64 0, .int .i64 0, .int .i64 0, .int .i64 0, .int .i64 0, .int .i64 0, .int .i64 0, .int .i64 0, .int .i64 0, .string ⟨#[]⟩, .int .i64 0, .int .i64 0, .bool false, .int .i64 0, .string ⟨#[]⟩, .int .i64 0, .int .i64 0, .int .i64 0, .int .i64 0, .int .i64 0, .int .i64 0, .slice none 0 0, .bool false, .int .i64 0, .int .i64 0] 46)).alloc (.cells #[.int .i64 0, .int .i64 0, .int .i64 0, .int .i64 0, .int .i64 0, .int .i64 0, .int .i64 0, .int .i64 0, .int .i64 0, .int .i64 0, .int .i64 0, .string ⟨#[]⟩, .int .i64 0, .int .i64 0, .bool false, .int .i64 0, .string ⟨#[]⟩, .int .i64 0, .int .i64 0, .int .i64 0, .int .i64 0, .int .i64 0, .int .i64 0, .slice none 0 0, .bool false, .int .i64 0, .int .i64 0] 46)).trans (fsetRow #[.int .i64 1, .int .i64 0, .int .i64 0, .int .i64 0, .int .i64 0, .int .i64 0, .int .i64 0, .int .i64 0, .int .i64 0, .int .i64 0, .int .i64 0, .string ⟨#[]⟩, .int .i64 0, .int .i64 0, .bool false, .int .i64 0, .string ⟨#[]⟩, .int .i64 0, .int .i64 0, .int .i64 0, .int .i64 0, .int .i64 0, .int .i64 0, .slice none 0 0, .bool false, .int .i64 0, .int .i64 0]) (fun i hi hl => by have hi' : i = w.heap.size + 1 := hi; omega)
  have HX := Lib.hid (show Blk (((w.alloc (.cells #[.int .i64 0, .int .i64 0, .int .i64 0, .int .i64 0, .int .i64 0, .int .i64 0, .int .i64 0, .int .i64 0, .int .i64 0, .int .i64 0, .int .i64 0, .string ⟨#[]⟩, .int .i64 0, .int .i64 0, .bool false, .int .i64 0, .string ⟨#[]⟩, .int .i64 0, .int .i64 0, .int .i64 0, .int .i64 0, .int .i64 0, .int .i64 0, .slice none 0 0, .bool false, .int .i64 0, .int .i64 0] 46)).alloc (.cells #[.int .i64 0, .int .i64 0, .int .i64 0, .int .i64 0, .int .i64 0, .int .i64 0, .int .i64 0, .int .i64 0, .int .i64 0, .int .i64 0, .int .i64 0, .string ⟨#[]⟩, .int .i64 0, .int .i64 0, .bool false, .int .i64 0, .string ⟨#[]⟩, .int .i64 0, .int .i64 0, .int .i64 0, .int .i64 0, .int .i64 0, .int .i64 0, .slice none 0 0, .bool false, .int .i64 0, .int .i64 0] 46)).setRow (w.heap.size + 1) #[.int .i64 1, .int .i64 0, .int .i64 0, .int .i64 0, .int .i64 0, .int .i64 0, .int .i64 0, .int .i64 0, .int .i64 0, .int .i64 0, .int .i64 0, .string ⟨#[]⟩, .int .i64 0, .int .i64 0, .bool false, .int .i64 0, .string ⟨#[]⟩, .int .i64 0, .int .i64 0, .int .i64 0, .int .i64 0, .int .i64 0, .int .i64 0, .slice none 0 0, .bool false, .int .i64 0, .int .i64 0]) (w.heap.size + 1) 46 [.int .i64 1, .int .i64 0, .int .i64 0, .int .i64 0, .int .i64 0, .int .i64 0, .int .i64 0, .int .i64 0, .int .i64 0, .int .i64 0, .int .i64 0, .string ⟨#[]⟩, .int .i64 0, .int .i64 0, .bool false, .int .i64 0, .string ⟨#[]⟩, .int .i64 0, .int .i64 0, .int .i64 0, .int .i64 0, .int .i64 0, .int .i64 0, .slice none 0 0, .bool false, .int .i64 0, .int .i64 0] from setRow_heap ((w.alloc (.cells #[.int .i64 0, .int .i64 0, .int .i64 0, .int .i64 0, .int .i64 0, .int .i64 0, .int .i64 0, .int .i64 0, .int .i64 0, .int .i64 0, .int .i64 0, .string ⟨#[]⟩, .int .i64 0, .int .i64 0, .bool false, .int .i64 0, .string ⟨#[]⟩, .int .i64 0, .int .i64 0, .int .i64 0, .int .i64 0, .int .i64 0, .int .i64 0, .slice none 0 0, .bool false, .int .i64 0, .int .i64 0] 46)).alloc (.cells #[.int .i64 0, .int .i64 0, .int .i64 0, .int .i64 0, .int .i64 0, .int .i64 0, .int .i64 0, .int .i64 0, .int .i64 0, .int .i64 0, .int .i64 0, .string ⟨#[]⟩, .int .i64 0, .int .i64 0, .bool false, .int .i64 0, .string ⟨#[]⟩, .int .i64 0, .int .i64 0, .int .i64 0, .int .i64 0, .int .i64 0, .int .i64 0, .slice none 0 0, .bool false, .int .i64 0, .int .i64 0] 46)) (w.heap.size + 1) #[.int .i64 0, .int .i64 0, .int .i64 0, .int .i64 0, .int .i64 0, .int .i64 0, .int .i64 0, .int .i64 0, .int .i64 0, .int .i64 0, .int .i64 0, .string ⟨#[]⟩, .int .i64 0, .int .i64 0, .bool false, .int .i64 0, .string ⟨#[]⟩, .int .i64 0, .int .i64 0, .int .i64 0, .int .i64 0, .int .i64 0, .int .i64 0, .slice none 0 0, .bool false, .int .i64 0, .int .i64 0] #[.int .i64 1, .int .i64 0, .int .i64 0, .int .i64 0, .int .i64 0, .int .i64 0, .int .i64 0, .int .i64 0, .int .i64 0, .int .i64 0, .int .i64 0, .string ⟨#[]⟩, .int .i64 0, .int .i64 0, .bool false, .int .i64 0, .string ⟨#[]⟩, .int .i64 0, .int .i64 0, .int .i64 0, .int .i64 0, .int .i64 0, .int .i64 0, .slice none 0 0, .bool false, .int .i64 0, .int .i64 0] 46 (0, 0) HX0.out)
  have HG := Lib.hid (Blk.frm hG0 (fsetRow (g := w.heap.size + 1) #[.int .i64 1, .int .i64 0, .int .i64 0, .int .i64 0, .int .i64 0, .int .i64 0, .int .i64 0, .int .i64 0, .int .i64 0, .int .i64 0, .int .i64 0, .string ⟨#[]⟩, .int .i64 0, .int .i64 0, .bool false, .int .i64 0, .string ⟨#[]⟩, .int .i64 0, .int .i64 0, .int .i64 0, .int .i64 0, .int .i64 0, .int .i64 0, .slice none 0 0, .bool false, .int .i64 0, .int .i64 0]) (fun hh => absurd (show w.heap.size = w.heap.size + 1 from hh) (by omega)))
  have HZ := Lib.hid (h.next hF0 ((Blk.alloc (Blk.alloc h.2.2.1 (.cells #[.int .i64 0, .int .i64 0, .int .i64 0, .int .i64 0, .int .i64 0, .int .i64 0, .int .i64 0, .int .i64 0, .int .i64 0, .int .i64 0, .int .i64 0, .string ⟨#[]⟩, .int .i64 0, .int .i64 0, .bool false, .int .i64 0, .string ⟨#[]⟩, .int .i64 0, .int .i64 0, .int .i64 0, .int .i64 0, .int .i64 0, .int .i64 0, .slice none 0 0, .bool false, .int .i64 0, .int .i64 0] 46)) (.cells #[.int .i64 0, .int .i64 0, .int .i64 0, .int .i64 0, .int .i64 0, .int .i64 0, .int .i64 0, .int .i64 0, .int .i64 0, .int .i64 0, .int .i64 0, .string ⟨#[]⟩, .int .i64 0, .int .i64 0, .bool false, .int .i64 0, .string ⟨#[]⟩, .int .i64 0, .int .i64 0, .int .i64 0, .int .i64 0, .int .i64 0, .int .i64 0, .slice none 0 0, .bool false, .int .i64 0, .int .i64 0] 46)).frm (fsetRow (g := w.heap.size + 1) #[.int .i64 1, .int .i64 0, .int .i64 0, .int .i64 0, .int .i64 0, .int .i64 0, .int .i64 0, .int .i64 0, .int .i64 0, .int .i64 0, .int .i64 0, .string ⟨#[]⟩, .int .i64 0, .int .i64 0, .bool false, .int .i64 0, .string ⟨#[]⟩, .int .i64 0, .int .i64 0, .int .i64 0, .int .i64 0, .int .i64 0, .int .i64 0, .slice none 0 0, .bool false, .int .i64 0, .int .i64 0]) (fun hh => absurd (show g = w.heap.size + 1 from hh) (by omega))) h.2.2.2.1)
  have HF := Lib.hid hF0
  obtain ⟨W, hW⟩ : ∃ W, (((w.alloc (.cells #[.int .i64 0, .int .i64 0, .int .i64 0, .int .i64 0, .int .i64 0, .int .i64 0, .int .i64 0, .int .i64 0, .int .i64 0, .int .i64 0, .int .i64 0, .string ⟨#[]⟩, .int .i64 0, .int .i64 0, .bool false, .int .i64 0, .string ⟨#[]⟩, .int .i64 0, .int .i64 0, .int .i64 0, .int .i64 0, .int .i64 0, .int .i64 0, .slice none 0 0, .bool false, .int .i64 0, .int .i64 0] 46)).alloc (.cells #[.int .i64 0, .int .i64 0, .int .i64 0, .int .i64 0, .int .i64 0, .int .i64 0, .int .i64 0, .int .i64 0, .int .i64 0, .int .i64 0, .int .i64 0, .string ⟨#[]⟩, .int .i64 0, .int .i64 0, .bool false, .int .i64 0, .string ⟨#[]⟩, .int .i64 0, .int .i64 0, .int .i64 0, .int .i64 0, .int .i64 0, .int .i64 0, .slice none 0 0, .bool false, .int .i64 0, .int .i64 0] 46)).setRow (w.heap.size + 1) #[.int .i64 1, .int .i64 0, .int .i64 0, .int .i64 0, .int .i64 0, .int .i64 0, .int .i64 0, .int .i64 0, .int .i64 0, .int .i64 0, .int .i64 0, .string ⟨#[]⟩, .int .i64 0, .int .i64 0, .bool false, .int .i64 0, .string ⟨#[]⟩, .int .i64 0, .int .i64 0, .int .i64 0, .int .i64 0, .int .i64 0, .int .i64 0, .slice none 0 0, .bool false, .int .i64 0, .int .i64 0]) = W := ⟨_, rfl⟩
  rw [hW] at HZ HF HG HX
  have HQ := Lib.hid hW
  clear h hW hG0 hF0
  obtain ⟨⟨v0, s0⟩, e0⟩ : ∃ q, numS l 4 st = q := ⟨_, rfl⟩
  obtain ⟨⟨v1, s1⟩, e1⟩ : ∃ q, numS l 4 s0 = q := ⟨_, rfl⟩
  have HR := Lib.hid (show helloS l st = (.hello v0 v1, s1) from by unfold helloS; simp only [e0, e1])
  rw [HR.out]
  clear HR
  have E0 := Lib.hid e0
  clear e0
  have E1 := Lib.hid e1
  clear e1
  go_enter Try.func58, Try.ntmps58
  have HC := Lib.hid (qnum_any g a c l 4 st W HZ.out (by decide) (by decide))
  rw [E0.out] at HC
  simp only at HC
  go_wp2_with (refine wpList_store_row rfl 46 _ _ rfl (w.heap.size + 1) #[.int .i64 1, .int .i64 0, .int .i64 0, .int .i64 0, .int .i64 0, .int .i64 0, .int .i64 0, .int .i64 0, .int .i64 0, .int .i64 0, .int .i64 0, .string ⟨#[]⟩, .int .i64 0, .int .i64 0, .bool false, .int .i64 0, .string ⟨#[]⟩, .int .i64 0, .int .i64 0, .int .i64 0, .int .i64 0, .int .i64 0, .int .i64 0, .slice none 0 0, .bool false, .int .i64 0, .int .i64 0] rfl rfl _ #[.int .i64 0, .int .i64 0, .int .i64 0, .int .i64 0, .int .i64 0, .int .i64 0, .int .i64 0, .int .i64 0, .int .i64 0, .int .i64 0, .int .i64 0, .string ⟨#[]⟩, .int .i64 0, .int .i64 0, .bool false, .int .i64 0, .string ⟨#[]⟩, .int .i64 0, .int .i64 0, .int .i64 0, .int .i64 0, .int .i64 0, .int .i64 0, .slice none 0 0, .bool false, .int .i64 0, .int .i64 0] HX0.out isz_msg rfl (by simp [Value.oneCell']) ?_)
  rw [HQ.out]
  clear HX0
  refine HC.out.mono ?_
  clear HC
  rintro e V0 ⟨rfl, hz, hf⟩
  clear HQ
  have HZb0 := Lib.hid hz
  have HFb0 := Lib.hid (HF.out.trans hf (fun i h _ => h))
  have HXb0 := Lib.hid (Blk.frm HX.out hf (fun hh => absurd (show w.heap.size + 1 = g from hh) (by omega)))
  have HGb0 := Lib.hid (Blk.frm HG.out hf (fun hh => absurd (show w.heap.size = g from hh) (by omega)))
  clear hz hf HZ HF HX HG
  have y1 : V0.cell? ⟨w.heap.size + 1, 1, none⟩ = some (.int .i64 0) := HXb0.out.cell 1
  have fz : V0.frozen? ⟨w.heap.size + 1, 1, none⟩ = false := fz_of HXb0.out
  have hFc0 := Frm.setCell HFb0.out ⟨w.heap.size + 1, 1, none⟩ (.int .i64 v0) (.inr (show w.heap.size ≤ w.heap.size + 1 by omega))
  have HXc0 := Lib.hid (show Blk (V0.setCell ⟨w.heap.size + 1, 1, none⟩ (.int .i64 v0)) (w.heap.size + 1) 46 [.int .i64 1, .int .i64 v0, .int .i64 0, .int .i64 0, .int .i64 0, .int .i64 0, .int .i64 0, .int .i64 0, .int .i64 0, .int .i64 0, .int .i64 0, .string ⟨#[]⟩, .int .i64 0, .int .i64 0, .bool false, .int .i64 0, .string ⟨#[]⟩, .int .i64 0, .int .i64 0, .int .i64 0, .int .i64 0, .int .i64 0, .int .i64 0, .slice none 0 0, .bool false, .int .i64 0, .int .i64 0] from HXb0.out.set 1 (.int .i64 v0))
  have HGc0 := Lib.hid (HGb0.out.far ⟨w.heap.size + 1, 1, none⟩ (.int .i64 v0) (show w.heap.size ≠ w.heap.size + 1 by omega))
  have HZc0 := Lib.hid (HW.out.next hFc0 (HZb0.out.2.2.1.far ⟨w.heap.size + 1, 1, none⟩ (.int .i64 v0) (show g ≠ w.heap.size + 1 by omega)) HZb0.out.2.2.2.1)
  have HFc0 := Lib.hid hFc0
  clear hFc0 HZb0 HFb0 HXb0 HGb0
  go_wp2_with fail
  clear y1 fz
  obtain ⟨U0, hU⟩ : ∃ U, (V0.setCell ⟨w.heap.size + 1, 1, none⟩ (.int .i64 v0)) = U := ⟨_, rfl⟩
  rw [hU] at HXc0 HGc0 HZc0 HFc0 ⊢
  clear hU
  have HC := Lib.hid (qnum_any g a c l 4 s0 U0 HZc0.out (by decide) (by decide))
  rw [E1.out] at HC
  simp only at HC
  refine HC.out.mono ?_
  clear HC
  rintro e V1 ⟨rfl, hz, hf⟩
  have HZb1 := Lib.hid hz
  have HFb1 := Lib.hid (HFc0.out.trans hf (fun i h _ => h))
  have HXb1 := Lib.hid (Blk.frm HXc0.out hf (fun hh => absurd (show w.heap.size + 1 = g from hh) (by omega)))
  have HGb1 := Lib.hid (Blk.frm HGc0.out hf (fun hh => absurd (show w.heap.size = g from hh) (by omega)))
  clear hz hf HZc0 HFc0 HXc0 HGc0
  have y2 : V1.cell? ⟨w.heap.size + 1, 2, none⟩ = some (.int .i64 0) := HXb1.out.cell 2
  have fz : V1.frozen? ⟨w.heap.size + 1, 2, none⟩ = false := fz_of HXb1.out
  have hFc1 := Frm.setCell HFb1.out ⟨w.heap.size + 1, 2, none⟩ (.int .i64 v1) (.inr (show w.heap.size ≤ w.heap.size + 1 by omega))
  have HXc1 := Lib.hid (show Blk (V1.setCell ⟨w.heap.size + 1, 2, none⟩ (.int .i64 v1)) (w.heap.size + 1) 46 [.int .i64 1, .int .i64 v0, .int .i64 v1, .int .i64 0, .int .i64 0, .int .i64 0, .int .i64 0, .int .i64 0, .int .i64 0, .int .i64 0, .int .i64 0, .string ⟨#[]⟩, .int .i64 0, .int .i64 0, .bool false, .int .i64 0, .string ⟨#[]⟩, .int .i64 0, .int .i64 0, .int .i64 0, .int .i64 0, .int .i64 0, .int .i64 0, .slice none 0 0, .bool false, .int .i64 0, .int .i64 0] from HXb1.out.set 2 (.int .i64 v1))
  have HGc1 := Lib.hid (HGb1.out.far ⟨w.heap.size + 1, 2, none⟩ (.int .i64 v1) (show w.heap.size ≠ w.heap.size + 1 by omega))
  have HZc1 := Lib.hid (HW.out.next hFc1 (HZb1.out.2.2.1.far ⟨w.heap.size + 1, 2, none⟩ (.int .i64 v1) (show g ≠ w.heap.size + 1 by omega)) HZb1.out.2.2.2.1)
  have HFc1 := Lib.hid hFc1
  clear hFc1 HZb1 HFb1 HXb1 HGb1
  go_wp2_with (first | (refine wpList_load_row rfl 46 _ rfl (w.heap.size + 1) rfl _ #[.int .i64 1, .int .i64 v0, .int .i64 v1, .int .i64 0, .int .i64 0, .int .i64 0, .int .i64 0, .int .i64 0, .int .i64 0, .int .i64 0, .int .i64 0, .string ⟨#[]⟩, .int .i64 0, .int .i64 0, .bool false, .int .i64 0, .string ⟨#[]⟩, .int .i64 0, .int .i64 0, .int .i64 0, .int .i64 0, .int .i64 0, .int .i64 0, .slice none 0 0, .bool false, .int .i64 0, .int .i64 0] (0, 0) _ HXc1.out Try.underlying46 rfl isz_msg ?_) | (refine wpList_store_row rfl 46 _ _ rfl w.heap.size #[.int .i64 1, .int .i64 v0, .int .i64 v1, .int .i64 0, .int .i64 0, .int .i64 0, .int .i64 0, .int .i64 0, .int .i64 0, .int .i64 0, .int .i64 0, .string ⟨#[]⟩, .int .i64 0, .int .i64 0, .bool false, .int .i64 0, .string ⟨#[]⟩, .int .i64 0, .int .i64 0, .int .i64 0, .int .i64 0, .int .i64 0, .int .i64 0, .slice none 0 0, .bool false, .int .i64 0, .int .i64 0] rfl rfl _ #[.int .i64 0, .int .i64 0, .int .i64 0, .int .i64 0, .int .i64 0, .int .i64 0, .int .i64 0, .int .i64 0, .int .i64 0, .int .i64 0, .int .i64 0, .string ⟨#[]⟩, .int .i64 0, .int .i64 0, .bool false, .int .i64 0, .string ⟨#[]⟩, .int .i64 0, .int .i64 0, .int .i64 0, .int .i64 0, .int .i64 0, .int .i64 0, .slice none 0 0, .bool false, .int .i64 0, .int .i64 0] HGc1.out isz_msg rfl (by simp [Value.oneCell']) ?_))
  have hS := setRow_heap (V1.setCell ⟨w.heap.size + 1, 2, none⟩ (.int .i64 v1)) w.heap.size #[.int .i64 0, .int .i64 0, .int .i64 0, .int .i64 0, .int .i64 0, .int .i64 0, .int .i64 0, .int .i64 0, .int .i64 0, .int .i64 0, .int .i64 0, .string ⟨#[]⟩, .int .i64 0, .int .i64 0, .bool false, .int .i64 0, .string ⟨#[]⟩, .int .i64 0, .int .i64 0, .int .i64 0, .int .i64 0, .int .i64 0, .int .i64 0, .slice none 0 0, .bool false, .int .i64 0, .int .i64 0] #[.int .i64 1, .int .i64 v0, .int .i64 v1, .int .i64 0, .int .i64 0, .int .i64 0, .int .i64 0, .int .i64 0, .int .i64 0, .int .i64 0, .int .i64 0, .string ⟨#[]⟩, .int .i64 0, .int .i64 0, .bool false, .int .i64 0, .string ⟨#[]⟩, .int .i64 0, .int .i64 0, .int .i64 0, .int .i64 0, .int .i64 0, .int .i64 0, .slice none 0 0, .bool false, .int .i64 0, .int .i64 0] 46 (0, 0) HGc1.out
  have hf : Frm (fun i => i = g) w ((V1.setCell ⟨w.heap.size + 1, 2, none⟩ (.int .i64 v1)).setRow w.heap.size #[.int .i64 1, .int .i64 v0, .int .i64 v1, .int .i64 0, .int .i64 0, .int .i64 0, .int .i64 0, .int .i64 0, .int .i64 0, .int .i64 0, .int .i64 0, .string ⟨#[]⟩, .int .i64 0, .int .i64 0, .bool false, .int .i64 0, .string ⟨#[]⟩, .int .i64 0, .int .i64 0, .int .i64 0, .int .i64 0, .int .i64 0, .int .i64 0, .slice none 0 0, .bool false, .int .i64 0, .int .i64 0]) := HFc1.out.trans (fsetRow #[.int .i64 1, .int .i64 v0, .int .i64 v1, .int .i64 0, .int .i64 0, .int .i64 0, .int .i64 0, .int .i64 0, .int .i64 0, .int .i64 0, .int .i64 0, .string ⟨#[]⟩, .int .i64 0, .int .i64 0, .bool false, .int .i64 0, .string ⟨#[]⟩, .int .i64 0, .int .i64 0, .int .i64 0, .int .i64 0, .int .i64 0, .int .i64 0, .slice none 0 0, .bool false, .int .i64 0, .int .i64 0]) (fun i hi hl => by have hi' : i = w.heap.size := hi; omega)
  refine bodyPost_ret (results_cell_row rfl _ _ w.heap.size 46 #[.int .i64 1, .int .i64 v0, .int .i64 v1, .int .i64 0, .int .i64 0, .int .i64 0, .int .i64 0, .int .i64 0, .int .i64 0, .int .i64 0, .int .i64 0, .string ⟨#[]⟩, .int .i64 0, .int .i64 0, .bool false, .int .i64 0, .string ⟨#[]⟩, .int .i64 0, .int .i64 0, .int .i64 0, .int .i64 0, .int .i64 0, .int .i64 0, .slice none 0 0, .bool false, .int .i64 0, .int .i64 0] (0, 0) _ rfl hS Try.underlying46 rfl isz_msg) rfl ?_
  exact ⟨(⟨v0, v1, 0, 0, 0, 0, 0, 0, 0, 0, ⟨#[]⟩, 0, 0, false, 0, ⟨#[]⟩, 0, 0, 0, 0, 0, 0, none, 0, [], false, 0, 0⟩ : P5), rfl, rfl, HW.out.next hf (Blk.frm HZc1.out.2.2.1 (fsetRow #[.int .i64 1, .int .i64 v0, .int .i64 v1, .int .i64 0, .int .i64 0, .int .i64 0, .int .i64 0, .int .i64 0, .int .i64 0, .int .i64 0, .int .i64 0, .string ⟨#[]⟩, .int .i64 0, .int .i64 0, .bool false, .int .i64 0, .string ⟨#[]⟩, .int .i64 0, .int .i64 0, .int .i64 0, .int .i64 0, .int .i64 0, .int .i64 0, .slice none 0 0, .bool false, .int .i64 0, .int .i64 0]) (fun hh => absurd (show g = w.heap.size from hh) (by omega))) HZc1.out.2.2.2.1, ⟨rdE_nil0 _, by simp, Nat.zero_le 2000, Nat.zero_le 2000⟩, hf, fun _ _ _ h => by cases h⟩
set_option maxRecDepth 100000 in
set_option maxHeartbeats 8000000 in
theorem qread_grant (g : Nat) (a : Option Addr) (c : Nat) (l : List Nat) (st : Nat × Bool) (w : World) (h : QAt w g a c l st) :
    Calls Try.prog 58 #[.pointer (some ⟨g, 0, none⟩), .int .i64 2] w (QM g a c l 2 (grantS l st) w) := by
  have hg := h.2.2.1.lt
  have HW := Lib.hid h
  have HX0 := Lib.hid (show Blk ((w.alloc (.cells #[.int .i64 0, .int .i64 0, .int .i64 0, .int .i64 0, .int .i64 0, .int .i64 0, .int .i64 0, .int .i64 0, .int .i64 0, .int .i64 0, .int .i64 0, .string ⟨#[]⟩, .int .i64 0, .int .i64 0, .bool false, .int .i64 0, .string ⟨#[]⟩, .int .i64 0, .int .i64 0, .int .i64 0, .int .i64 0, .int .i64 0, .int .i64 0, .slice none 0 0, .bool false, .int .i64 0, .int .i64 0] 46)).alloc (.cells #[.int .i64 0, .int .i64 0, .int .i64 0, .int .i64 0, .int .i64 0, .int .i64 0, .int .i64 0, .int .i64 0, .int .i64 0, .int .i64 0, .int .i64 0, .string ⟨#[]⟩, .int .i64 0, .int .i64 0, .bool false, .int .i64 0, .string ⟨#[]⟩, .int .i64 0, .int .i64 0, .int .i64 0, .int .i64 0, .int .i64 0, .int .i64 0, .slice none 0 0, .bool false, .int .i64 0, .int .i64 0] 46)) (w.heap.size + 1) 46 [.int .i64 0, .int .i64 0, .int .i64 0, .int .i64 0, .int .i64 0, .int .i64 0, .int .i64 0, .int .i64 0, .int .i64 0, .int .i64 0, .int .i64 0, .string ⟨#[]⟩, .int .i64 0, .int .i64 0, .bool false, .int .i64 0, .string ⟨#[]⟩, .int .i64 0, .int .i64 0, .int .i64 0, .int .i64 0, .int .i64 0, .int .i64 0, .slice none 0 0, .bool false, .int .i64 0, .int .i64 0] from by have q := heap_alloc_new (w.alloc (.cells #[.int .i64 0, .int .i64 0, .int .i64 0, .int .i64 0, .int .i64 0, .int .i64 0, .int .i64 0, .int .i64 0, .int .i64 0, .int .i64 0, .int .i64 0, .string ⟨#[]⟩, .int .i64 0, .int .i64 0, .bool false, .int .i64 0, .string ⟨#[]⟩, .int .i64 0, .int .i64 0, .int .i64 0, .int .i64 0, .int .i64 0, .int .i64 0, .slice none 0 0, .bool false, .int .i64 0, .int .i64 0] 46)) (.cells #[.int .i64 0, .int .i64 0, .int .i64 0, .int .i64 0, .int .i64 0, .int .i64 0, .int .i64 0, .int .i64 0, .int .i64 0, .int .i64 0, .int .i64 0, .string ⟨#[]⟩, .int .i64 0, .int .i64 0, .bool false, .int .i64 0, .string ⟨#[]⟩, .int .i64 0, .int .i64 0, .int .i64 0, .int .i64 0, .int .i64 0, .int .i64 0, .slice none 0 0, .bool false, .int .i64 0, .int .i64 0] 46); rw [show (w.alloc (.cells #[.int .i64 0, .int .i64 0, .int .i64 0, .int .i64 0, .int .i64 0, .int .i64 0, .int .i64 0, .int .i64 0, .int .i64 0, .int .i64 0, .int .i64 0, .string ⟨#[]⟩, .int .i64 0, .int .i64 0, .bool false, .int .i64 0, .string ⟨#[]⟩, .int .i64 0, .int .i64 0, .int .i64 0, .int .i64 0, .int .i64 0, .int .i64 0, .slice none 0 0, .bool false, .int .i64 0, .int .i64 0] 46)).heap.size = w.heap.size + 1 from by simp] at q; exact q)
  have hG0 := Blk.alloc (show Blk (w.alloc (.cells #[.int .i64 0, .int .i64 0, .int .i64 0, .int .i64 0, .int .i64 0, .int .i64 0, .int .i64 0, .int .i64 0, .int .i64 0, .int .i64 0, .int .i64 0, .string ⟨#[]⟩, .int .i64 0, .int .i64 0, .bool false, .int .i64 0, .string ⟨#[]⟩, .int .i64 0, .int .i64 0, .int .i64 0, .int .i64 0, .int .i64 0, .int .i64 0, .slice none 0 0, .bool false, .int .i64 0, .int .i64 0] 46)) w.heap.size 46 [.int .i64 0, .int .i64 0, .int .i64 0, .int .i64 0, .int .i64 0, .int .i64 0, .int .i64 0, .int .i64 0, .int .i64 0, .int .i64 0, .int .i64 0, .string ⟨#[]⟩, .int .i64 0, .int .i64 0, .bool false, .int .i64 0, .string ⟨#[]⟩, .int .i64 0, .int .i64 0, .int .i64 0, .int .i64 0, .int .i64 0, .int .i64 0, .slice none 0 0, .bool false, .int .i64 0, .int .i64 0] from heap_alloc_new w _) (.cells #[.int .i64 0, .int .i64 0, .int .i64 0, .int .i64 0, .int .i64 0, .int .i64 0, .int .i64 0, .int .i64 0, .int .i64 0, .int .i64 0, .int .i64 0, .string ⟨#[]⟩, .int .i64 0, .int .i64 0, .bool false, .int .i64 0, .string ⟨#[]⟩, .int .i64 0, .int .i64 0, .int .i64 0, .int .i64 0, .int .i64 0, .int .i64 0, .slice none 0 0, .bool false, .int .i64 0, .int .i64 0] 46)
  have hF0 : Frm (fun i => i = g) w (((w.alloc (.cells #[.int .i64 0, .int .i64 0, .int .i64 0, .int .i64 0, .int .i64 0, .int .i64 0, .int .i64 0, .int .i64 0, .int .i64 0, .int .i64 0, .int .i64 0, .string ⟨#[]⟩, .int .i64 0, .int .i64 0, .bool false, .int .i64 0, .string ⟨#[]⟩, .int .i64 0, .int .i64 0, .int .i64 0, .int .i64 0, .int .i64 0, .int .i64 0, .slice none 0 0, .bool false, .int .i64 0, .int .i64 0] 46)).alloc (.cells #[.int .i64 0, .int .i64 0, .int .i64 0, .int .i64 0, .int .i64 0, .int .i64 0, .int .i64 0, .int .i64 0, .int .i64 0, .int .i64 0, .int .i64 0, .string ⟨#[]⟩, .int .i64 0, .int .i64 0, .bool false, .int .i64 0, .string ⟨#[]⟩, .int .i64 0, .int .i64 0, .int .i64 0, .int .i64 0, .int .i64 0, .int .i64 0, .slice none 0 0, .bool false, .int .i64 0, .int .i64 0] 46)).setRow (w.heap.size + 1) #[.int .i64 2, .int .i64 0, .int .i64 0, .int .i64 0, .int .i64 0, .int .i64 0, .int .i64 0, .int .i64 0, .int .i64 0, .int .i64 0, .int .i64 0, .string ⟨#[]⟩, .int .i64 0, .int .i64 0, .bool false, .int .i64 0, .string ⟨#[]⟩, .int .i64 0, .int .i64 0, .int .i64 0, .int .i64 0, .int .i64 0, .int .i64 0, .slice none 0 0, .bool false, .int .i64 0, .int .i64 0]) := (((Frm.refl (fun i => i = g) w).alloc (.cells #[.int .i64 0, .int .i64 0, .int .i64 0, .int .i64 0, .int .i64 0, .int .i64 0, .int .i64 0, .int .i64 0, .int .i64 0, .int .i64 0, .int .i64 0, .string ⟨#[]⟩, .int .i64 0, .int .i64 0, .bool false, .int .i64 0, .string ⟨#[]⟩, .int .i64 0, .int .i64 0, .int .i64 0, .int .i64 0, .int .i64 0, .int .i64 0, .slice none 0 0, .bool false, .int .i64 0, .int .i64 0] 46)).alloc (.cells #[.int .i64 0, .int .i64 0, .int .i64 0, .int .i64 0, .int .i64 0, .int .i64 0, .int .i64 0, .int .i64 0, .int .i64 0, .int .i64 0, .int .i64 0, .string ⟨#[]⟩, .int .i64 0, .int .i64 0, .bool false, .int .i64 0, .string ⟨#[]⟩, .int .i64 0, .int .i64 0, .int .i64 0, .int .i64 0, .int .i64 0, .int .i64 0, .slice none 0 0, .bool false, .int .i64 0, .int .i64 0] 46)).trans (fsetRow #[.int .i64 2, .int .i64 0, .int .i64 0, .int .i64 0, .int .i64 0, .int .i64 0, .int .i64 0, .int .i64 0, .int .i64 0, .int .i64 0, .int .i64 0, .string ⟨#[]⟩, .int .i64 0, .int .i64 0, .bool false, .int .i64 0, .string ⟨#[]⟩, .int .i64 0, .int .i64 0, .int .i64 0, .int .i64 0, .int .i64 0, .int .i64 0, .slice none 0 0, .bool false, .int .i64 0, .int .i64 0]) (fun i hi hl => by have hi' : i = w.heap.size + 1 := hi; omega)
  have HX := Lib.hid (show Blk (((w.alloc (.cells #[.int .i64 0, .int .i64 0, .int .i64 0, .int .i64 0, .int .i64 0, .int .i64 0, .int .i64 0, .int .i64 0, .int .i64 0, .int .i64 0, .int .i64 0, .string ⟨#[]⟩, .int .i64 0, .int .i64 0, .bool false, .int .i64 0, .string ⟨#[]⟩, .int .i64 0, .int .i64 0, .int .i64 0, .int .i64 0, .int .i64 0, .int .i64 0, .slice none 0 0, .bool false, .int .i64 0, .int .i64 0] 46)).alloc (.cells #[.int .i64 0, .int .i64 0, .int .i64 0, .int .i64 0, .int .i64 0, .int .i64 0, .int .i64 0, .int .i64 0, .int .i64 0, .int .i64 0, .int .i64 0, .string ⟨#[]⟩, .int .i64 0, .int .i64 0, .bool false, .int .i64 0, .string ⟨#[]⟩, .int .i64 0, .int .i64 0, .int .i64 0, .int .i64 0, .int .i64 0, .int .i64 0, .slice none 0 0, .bool false, .int .i64 0, .int .i64 0] 46)).setRow (w.heap.size + 1) #[.int .i64 2, .int .i64 0, .int .i64 0, .int .i64 0, .int .i64 0, .int .i64 0, .int .i64 0, .int .i64 0, .int .i64 0, .int .i64 0, .int .i64 0, .string ⟨#[]⟩, .int .i64 0, .int .i64 0, .bool false, .int .i64 0, .string ⟨#[]⟩, .int .i64 0, .int .i64 0, .int .i64 0, .int .i64 0, .int .i64 0, .int .i64 0, .slice none 0 0, .bool false, .int .i64 0, .int .i64 0]) (w.heap.size + 1) 46 [.int .i64 2, .int .i64 0, .int .i64 0, .int .i64 0, .int .i64 0, .int .i64 0, .int .i64 0, .int .i64 0, .int .i64 0, .int .i64 0, .int .i64 0, .string ⟨#[]⟩, .int .i64 0, .int .i64 0, .bool false, .int .i64 0, .string ⟨#[]⟩, .int .i64 0, .int .i64 0, .int .i64 0, .int .i64 0, .int .i64 0, .int .i64 0, .slice none 0 0, .bool false, .int .i64 0, .int .i64 0] from setRow_heap ((w.alloc (.cells #[.int .i64 0, .int .i64 0, .int .i64 0, .int .i64 0, .int .i64 0, .int .i64 0, .int .i64 0, .int .i64 0, .int .i64 0, .int .i64 0, .int .i64 0, .string ⟨#[]⟩, .int .i64 0, .int .i64 0, .bool false, .int .i64 0, .string ⟨#[]⟩, .int .i64 0, .int .i64 0, .int .i64 0, .int .i64 0, .int .i64 0, .int .i64 0, .slice none 0 0, .bool false, .int .i64 0, .int .i64 0] 46)).alloc (.cells #[.int .i64 0, .int .i64 0, .int .i64 0, .int .i64 0, .int .i64 0, .int .i64 0, .int .i64 0, .int .i64 0, .int .i64 0, .int .i64 0, .int .i64 0, .string ⟨#[]⟩, .int .i64 0, .int .i64 0, .bool false, .int .i64 0, .string ⟨#[]⟩, .int .i64 0, .int .i64 0, .int .i64 0, .int .i64 0, .int .i64 0, .int .i64 0, .slice none 0 0, .bool false, .int .i64 0, .int .i64 0] 46)) (w.heap.size + 1) #[.int .i64 0, .int .i64 0, .int .i64 0, .int .i64 0, .int .i64 0, .int .i64 0, .int .i64 0, .int .i64 0, .int .i64 0, .int .i64 0, .int .i64 0, .string ⟨#[]⟩, .int .i64 0, .int .i64 0, .bool false, .int .i64 0, .string ⟨#[]⟩, .int .i64 0, .int .i64 0, .int .i64 0, .int .i64 0, .int .i64 0, .int .i64 0, .slice none 0 0, .bool false, .int .i64 0, .int .i64 0] #[.int .i64 2, .int .i64 0, .int .i64 0, .int .i64 0, .int .i64 0, .int .i64 0, .int .i64 0, .int .i64 0, .int .i64 0, .int .i64 0, .int .i64 0, .string ⟨#[]⟩, .int .i64 0, .int .i64 0, .bool false, .int .i64 0, .string ⟨#[]⟩, .int .i64 0, .int .i64 0, .int .i64 0, .int .i64 0, .int .i64 0, .int .i64 0, .slice none 0 0, .bool false, .int .i64 0, .int .i64 0] 46 (0, 0) HX0.out)
  have HG := Lib.hid (Blk.frm hG0 (fsetRow (g := w.heap.size + 1) #[.int .i64 2, .int .i64 0, .int .i64 0, .int .i64 0, .int .i64 0, .int .i64 0, .int .i64 0, .int .i64 0, .int .i64 0, .int .i64 0, .int .i64 0, .string ⟨#[]⟩, .int .i64 0, .int .i64 0, .bool false, .int .i64 0, .string ⟨#[]⟩, .int .i64 0, .int .i64 0, .int .i64 0, .int .i64 0, .int .i64 0, .int .i64 0, .slice none 0 0, .bool false, .int .i64 0, .int .i64 0]) (fun hh => absurd (show w.heap.size = w.heap.size + 1 from hh) (by omega)))
  have HZ := Lib.hid (h.next hF0 ((Blk.alloc (Blk.alloc h.2.2.1 (.cells #[.int .i64 0, .int .i64 0, .int .i64 0, .int .i64 0, .int .i64 0, .int .i64 0, .int .i64 0, .int .i64 0, .int .i64 0, .int .i64 0, .int .i64 0, .string ⟨#[]⟩, .int .i64 0, .int .i64 0, .bool false, .int .i64 0, .string ⟨#[]⟩, .int .i64 0, .int .i64 0, .int .i64 0, .int .i64 0, .int .i64 0, .int .i64 0, .slice none 0 0, .bool false, .int .i64 0, .int .i64 0] 46)) (.cells #[.int .i64 0, .int .i64 0, .int .i64 0, .int .i64 0, .int .i64 0, .int .i64 0, .int .i64 0, .int .i64 0, .int .i64 0, .int .i64 0, .int .i64 0, .string ⟨#[]⟩, .int .i64 0, .int .i64 0, .bool false, .int .i64 0, .string ⟨#[]⟩, .int .i64 0, .int .i64 0, .int .i64 0, .int .i64 0, .int .i64 0, .int .i64 0, .slice none 0 0, .bool false, .int .i64 0, .int .i64 0] 46)).frm (fsetRow (g := w.heap.size + 1) #[.int .i64 2, .int .i64 0, .int .i64 0, .int .i64 0, .int .i64 0, .int .i64 0, .int .i64 0, .int .i64 0, .int .i64 0, .int .i64 0, .int .i64 0, .string ⟨#[]⟩, .int .i64 0, .int .i64 0, .bool false, .int .i64 0, .string ⟨#[]⟩, .int .i64 0, .int .i64 0, .int .i64 0, .int .i64 0, .int .i64 0, .int .i64 0, .slice none 0 0, .bool false, .int .i64 0, .int .i64 0]) (fun hh => absurd (show g = w.heap.size + 1 from hh) (by omega))) h.2.2.2.1)
  have HF := Lib.hid hF0
  obtain ⟨W, hW⟩ : ∃ W, (((w.alloc (.cells #[.int .i64 0, .int .i64 0, .int .i64 0, .int .i64 0, .int .i64 0, .int .i64 0, .int .i64 0, .int .i64 0, .int .i64 0, .int .i64 0, .int .i64 0, .string ⟨#[]⟩, .int .i64 0, .int .i64 0, .bool false, .int .i64 0, .string ⟨#[]⟩, .int .i64 0, .int .i64 0, .int .i64 0, .int .i64 0, .int .i64 0, .int .i64 0, .slice none 0 0, .bool false, .int .i64 0, .int .i64 0] 46)).alloc (.cells #[.int .i64 0, .int .i64 0, .int .i64 0, .int .i64 0, .int .i64 0, .int .i64 0, .int .i64 0, .int .i64 0, .int .i64 0, .int .i64 0, .int .i64 0, .string ⟨#[]⟩, .int .i64 0, .int .i64 0, .bool false, .int .i64 0, .string ⟨#[]⟩, .int .i64 0, .int .i64 0, .int .i64 0, .int .i64 0, .int .i64 0, .int .i64 0, .slice none 0 0, .bool false, .int .i64 0, .int .i64 0] 46)).setRow (w.heap.size + 1) #[.int .i64 2, .int .i64 0, .int .i64 0, .int .i64 0, .int .i64 0, .int .i64 0, .int .i64 0, .int .i64 0, .int .i64 0, .int .i64 0, .int .i64 0, .string ⟨#[]⟩, .int .i64 0, .int .i64 0, .bool false, .int .i64 0, .string ⟨#[]⟩, .int .i64 0, .int .i64 0, .int .i64 0, .int .i64 0, .int .i64 0, .int .i64 0, .slice none 0 0, .bool false, .int .i64 0, .int .i64 0]) = W := ⟨_, rfl⟩
  rw [hW] at HZ HF HG HX
  have HQ := Lib.hid hW
  clear h hW hG0 hF0
  obtain ⟨⟨v0, s0⟩, e0⟩ : ∃ q, numS l 4 st = q := ⟨_, rfl⟩
  obtain ⟨⟨v1, s1⟩, e1⟩ : ∃ q, numS l 4 s0 = q := ⟨_, rfl⟩
  obtain ⟨⟨v2, s2⟩, e2⟩ : ∃ q, numS l 4 s1 = q := ⟨_, rfl⟩
  have HR := Lib.hid (show grantS l st = (.grant v0 v1 v2, s2) from by unfold grantS; simp only [e0, e1, e2])
  rw [HR.out]
  clear HR
  have E0 := Lib.hid e0
  clear e0
  have E1 := Lib.hid e1
  clear e1
  have E2 := Lib.hid e2
  clear e2
  go_enter Try.func58, Try.ntmps58
  have HC := Lib.hid (qnum_any g a c l 4 st W HZ.out (by decide) (by decide))
  rw [E0.out] at HC
  simp only at HC
  go_wp2_with (refine wpList_store_row rfl 46 _ _ rfl (w.heap.size + 1) #[.int .i64 2, .int .i64 0, .int .i64 0, .int .i64 0, .int .i64 0, .int .i64 0, .int .i64 0, .int .i64 0, .int .i64 0, .int .i64 0, .int .i64 0, .string ⟨#[]⟩, .int .i64 0, .int .i64 0, .bool false, .int .i64 0, .string ⟨#[]⟩, .int .i64 0, .int .i64 0, .int .i64 0, .int .i64 0, .int .i64 0, .int .i64 0, .slice none 0 0, .bool false, .int .i64 0, .int .i64 0] rfl rfl _ #[.int .i64 0, .int .i64 0, .int .i64 0, .int .i64 0, .int .i64 0, .int .i64 0, .int .i64 0, .int .i64 0, .int .i64 0, .int .i64 0, .int .i64 0, .string ⟨#[]⟩, .int .i64 0, .int .i64 0, .bool false, .int .i64 0, .string ⟨#[]⟩, .int .i64 0, .int .i64 0, .int .i64 0, .int .i64 0, .int .i64 0, .int .i64 0, .slice none 0 0, .bool false, .int .i64 0, .int .i64 0] HX0.out isz_msg rfl (by simp [Value.oneCell']) ?_)
  rw [HQ.out]
  clear HX0
  refine HC.out.mono ?_
  clear HC
  rintro e V0 ⟨rfl, hz, hf⟩
  clear HQ
  have HZb0 := Lib.hid hz
  have HFb0 := Lib.hid (HF.out.trans hf (fun i h _ => h))
  have HXb0 := Lib.hid (Blk.frm HX.out hf (fun hh => absurd (show w.heap.size + 1 = g from hh) (by omega)))
  have HGb0 := Lib.hid (Blk.frm HG.out hf (fun hh => absurd (show w.heap.size = g from hh) (by omega)))
  clear hz hf HZ HF HX HG
  have y3 : V0.cell? ⟨w.heap.size + 1, 3, none⟩ = some (.int .i64 0) := HXb0.out.cell 3
  have fz : V0.frozen? ⟨w.heap.size + 1, 3, none⟩ = false := fz_of HXb0.out
  have hFc0 := Frm.setCell HFb0.out ⟨w.heap.size + 1, 3, none⟩ (.int .i64 v0) (.inr (show w.heap.size ≤ w.heap.size + 1 by omega))
  have HXc0 := Lib.hid (show Blk (V0.setCell ⟨w.heap.size + 1, 3, none⟩ (.int .i64 v0)) (w.heap.size + 1) 46 [.int .i64 2, .int .i64 0, .int .i64 0, .int .i64 v0, .int .i64 0, .int .i64 0, .int .i64 0, .int .i64 0, .int .i64 0, .int .i64 0, .int .i64 0, .string ⟨#[]⟩, .int .i64 0, .int .i64 0, .bool false, .int .i64 0, .string ⟨#[]⟩, .int .i64 0, .int .i64 0, .int .i64 0, .int .i64 0, .int .i64 0, .int .i64 0, .slice none 0 0, .bool false, .int .i64 0, .int .i64 0] from HXb0.out.set 3 (.int .i64 v0))
  have HGc0 := Lib.hid (HGb0.out.far ⟨w.heap.size + 1, 3, none⟩ (.int .i64 v0) (show w.heap.size ≠ w.heap.size + 1 by omega))
  have HZc0 := Lib.hid (HW.out.next hFc0 (HZb0.out.2.2.1.far ⟨w.heap.size + 1, 3, none⟩ (.int .i64 v0) (show g ≠ w.heap.size + 1 by omega)) HZb0.out.2.2.2.1)
  have HFc0 := Lib.hid hFc0
  clear hFc0 HZb0 HFb0 HXb0 HGb0
  go_wp2_with fail
  clear y3 fz
  obtain ⟨U0, hU⟩ : ∃ U, (V0.setCell ⟨w.heap.size + 1, 3, none⟩ (.int .i64 v0)) = U := ⟨_, rfl⟩
  rw [hU] at HXc0 HGc0 HZc0 HFc0 ⊢
  clear hU
  have HC := Lib.hid (qnum_any g a c l 4 s0 U0 HZc0.out (by decide) (by decide))
  rw [E1.out] at HC
  simp only at HC
  refine HC.out.mono ?_
  clear HC
  rintro e V1 ⟨rfl, hz, hf⟩
  have HZb1 := Lib.hid hz
  have HFb1 := Lib.hid (HFc0.out.trans hf (fun i h _ => h))
  have HXb1 := Lib.hid (Blk.frm HXc0.out hf (fun hh => absurd (show w.heap.size + 1 = g from hh) (by omega)))
  have HGb1 := Lib.hid (Blk.frm HGc0.out hf (fun hh => absurd (show w.heap.size = g from hh) (by omega)))
  clear hz hf HZc0 HFc0 HXc0 HGc0
  have y4 : V1.cell? ⟨w.heap.size + 1, 4, none⟩ = some (.int .i64 0) := HXb1.out.cell 4
  have fz : V1.frozen? ⟨w.heap.size + 1, 4, none⟩ = false := fz_of HXb1.out
  have hFc1 := Frm.setCell HFb1.out ⟨w.heap.size + 1, 4, none⟩ (.int .i64 v1) (.inr (show w.heap.size ≤ w.heap.size + 1 by omega))
  have HXc1 := Lib.hid (show Blk (V1.setCell ⟨w.heap.size + 1, 4, none⟩ (.int .i64 v1)) (w.heap.size + 1) 46 [.int .i64 2, .int .i64 0, .int .i64 0, .int .i64 v0, .int .i64 v1, .int .i64 0, .int .i64 0, .int .i64 0, .int .i64 0, .int .i64 0, .int .i64 0, .string ⟨#[]⟩, .int .i64 0, .int .i64 0, .bool false, .int .i64 0, .string ⟨#[]⟩, .int .i64 0, .int .i64 0, .int .i64 0, .int .i64 0, .int .i64 0, .int .i64 0, .slice none 0 0, .bool false, .int .i64 0, .int .i64 0] from HXb1.out.set 4 (.int .i64 v1))
  have HGc1 := Lib.hid (HGb1.out.far ⟨w.heap.size + 1, 4, none⟩ (.int .i64 v1) (show w.heap.size ≠ w.heap.size + 1 by omega))
  have HZc1 := Lib.hid (HW.out.next hFc1 (HZb1.out.2.2.1.far ⟨w.heap.size + 1, 4, none⟩ (.int .i64 v1) (show g ≠ w.heap.size + 1 by omega)) HZb1.out.2.2.2.1)
  have HFc1 := Lib.hid hFc1
  clear hFc1 HZb1 HFb1 HXb1 HGb1
  go_wp2_with fail
  clear y4 fz
  obtain ⟨U1, hU⟩ : ∃ U, (V1.setCell ⟨w.heap.size + 1, 4, none⟩ (.int .i64 v1)) = U := ⟨_, rfl⟩
  rw [hU] at HXc1 HGc1 HZc1 HFc1 ⊢
  clear hU
  have HC := Lib.hid (qnum_any g a c l 4 s1 U1 HZc1.out (by decide) (by decide))
  rw [E2.out] at HC
  simp only at HC
  refine HC.out.mono ?_
  clear HC
  rintro e V2 ⟨rfl, hz, hf⟩
  have HZb2 := Lib.hid hz
  have HFb2 := Lib.hid (HFc1.out.trans hf (fun i h _ => h))
  have HXb2 := Lib.hid (Blk.frm HXc1.out hf (fun hh => absurd (show w.heap.size + 1 = g from hh) (by omega)))
  have HGb2 := Lib.hid (Blk.frm HGc1.out hf (fun hh => absurd (show w.heap.size = g from hh) (by omega)))
  clear hz hf HZc1 HFc1 HXc1 HGc1
  have y5 : V2.cell? ⟨w.heap.size + 1, 5, none⟩ = some (.int .i64 0) := HXb2.out.cell 5
  have fz : V2.frozen? ⟨w.heap.size + 1, 5, none⟩ = false := fz_of HXb2.out
  have hFc2 := Frm.setCell HFb2.out ⟨w.heap.size + 1, 5, none⟩ (.int .i64 v2) (.inr (show w.heap.size ≤ w.heap.size + 1 by omega))
  have HXc2 := Lib.hid (show Blk (V2.setCell ⟨w.heap.size + 1, 5, none⟩ (.int .i64 v2)) (w.heap.size + 1) 46 [.int .i64 2, .int .i64 0, .int .i64 0, .int .i64 v0, .int .i64 v1, .int .i64 v2, .int .i64 0, .int .i64 0, .int .i64 0, .int .i64 0, .int .i64 0, .string ⟨#[]⟩, .int .i64 0, .int .i64 0, .bool false, .int .i64 0, .string ⟨#[]⟩, .int .i64 0, .int .i64 0, .int .i64 0, .int .i64 0, .int .i64 0, .int .i64 0, .slice none 0 0, .bool false, .int .i64 0, .int .i64 0] from HXb2.out.set 5 (.int .i64 v2))
  have HGc2 := Lib.hid (HGb2.out.far ⟨w.heap.size + 1, 5, none⟩ (.int .i64 v2) (show w.heap.size ≠ w.heap.size + 1 by omega))
  have HZc2 := Lib.hid (HW.out.next hFc2 (HZb2.out.2.2.1.far ⟨w.heap.size + 1, 5, none⟩ (.int .i64 v2) (show g ≠ w.heap.size + 1 by omega)) HZb2.out.2.2.2.1)
  have HFc2 := Lib.hid hFc2
  clear hFc2 HZb2 HFb2 HXb2 HGb2
  go_wp2_with (first | (refine wpList_load_row rfl 46 _ rfl (w.heap.size + 1) rfl _ #[.int .i64 2, .int .i64 0, .int .i64 0, .int .i64 v0, .int .i64 v1, .int .i64 v2, .int .i64 0, .int .i64 0, .int .i64 0, .int .i64 0, .int .i64 0, .string ⟨#[]⟩, .int .i64 0, .int .i64 0, .bool false, .int .i64 0, .string ⟨#[]⟩, .int .i64 0, .int .i64 0, .int .i64 0, .int .i64 0, .int .i64 0, .int .i64 0, .slice none 0 0, .bool false, .int .i64 0, .int .i64 0] (0, 0) _ HXc2.out Try.underlying46 rfl isz_msg ?_) | (refine wpList_store_row rfl 46 _ _ rfl w.heap.size #[.int .i64 2, .int .i64 0, .int .i64 0, .int .i64 v0, .int .i64 v1, .int .i64 v2, .int .i64 0, .int .i64 0, .int .i64 0, .int .i64 0, .int .i64 0, .string ⟨#[]⟩, .int .i64 0, .int .i64 0, .bool false, .int .i64 0, .string ⟨#[]⟩, .int .i64 0, .int .i64 0, .int .i64 0, .int .i64 0, .int .i64 0, .int .i64 0, .slice none 0 0, .bool false, .int .i64 0, .int .i64 0] rfl rfl _ #[.int .i64 0, .int .i64 0, .int .i64 0, .int .i64 0, .int .i64 0, .int .i64 0, .int .i64 0, .int .i64 0, .int .i64 0, .int .i64 0, .int .i64 0, .string ⟨#[]⟩, .int .i64 0, .int .i64 0, .bool false, .int .i64 0, .string ⟨#[]⟩, .int .i64 0, .int .i64 0, .int .i64 0, .int .i64 0, .int .i64 0, .int .i64 0, .slice none 0 0, .bool false, .int .i64 0, .int .i64 0] HGc2.out isz_msg rfl (by simp [Value.oneCell']) ?_))
  have hS := setRow_heap (V2.setCell ⟨w.heap.size + 1, 5, none⟩ (.int .i64 v2)) w.heap.size #[.int .i64 0, .int .i64 0, .int .i64 0, .int .i64 0, .int .i64 0, .int .i64 0, .int .i64 0, .int .i64 0, .int .i64 0, .int .i64 0, .int .i64 0, .string ⟨#[]⟩, .int .i64 0, .int .i64 0, .bool false, .int .i64 0, .string ⟨#[]⟩, .int .i64 0, .int .i64 0, .int .i64 0, .int .i64 0, .int .i64 0, .int .i64 0, .slice none 0 0, .bool false, .int .i64 0, .int .i64 0] #[.int .i64 2, .int .i64 0, .int .i64 0, .int .i64 v0, .int .i64 v1, .int .i64 v2, .int .i64 0, .int .i64 0, .int .i64 0, .int .i64 0, .int .i64 0, .string ⟨#[]⟩, .int .i64 0, .int .i64 0, .bool false, .int .i64 0, .string ⟨#[]⟩, .int .i64 0, .int .i64 0, .int .i64 0, .int .i64 0, .int .i64 0, .int .i64 0, .slice none 0 0, .bool false, .int .i64 0, .int .i64 0] 46 (0, 0) HGc2.out
  have hf : Frm (fun i => i = g) w ((V2.setCell ⟨w.heap.size + 1, 5, none⟩ (.int .i64 v2)).setRow w.heap.size #[.int .i64 2, .int .i64 0, .int .i64 0, .int .i64 v0, .int .i64 v1, .int .i64 v2, .int .i64 0, .int .i64 0, .int .i64 0, .int .i64 0, .int .i64 0, .string ⟨#[]⟩, .int .i64 0, .int .i64 0, .bool false, .int .i64 0, .string ⟨#[]⟩, .int .i64 0, .int .i64 0, .int .i64 0, .int .i64 0, .int .i64 0, .int .i64 0, .slice none 0 0, .bool false, .int .i64 0, .int .i64 0]) := HFc2.out.trans (fsetRow #[.int .i64 2, .int .i64 0, .int .i64 0, .int .i64 v0, .int .i64 v1, .int .i64 v2, .int .i64 0, .int .i64 0, .int .i64 0, .int .i64 0, .int .i64 0, .string ⟨#[]⟩, .int .i64 0, .int .i64 0, .bool false, .int .i64 0, .string ⟨#[]⟩, .int .i64 0, .int .i64 0, .int .i64 0, .int .i64 0, .int .i64 0, .int .i64 0, .slice none 0 0, .bool false, .int .i64 0, .int .i64 0]) (fun i hi hl => by have hi' : i = w.heap.size := hi; omega)
  refine bodyPost_ret (results_cell_row rfl _ _ w.heap.size 46 #[.int .i64 2, .int .i64 0, .int .i64 0, .int .i64 v0, .int .i64 v1, .int .i64 v2, .int .i64 0, .int .i64 0, .int .i64 0, .int .i64 0, .int .i64 0, .string ⟨#[]⟩, .int .i64 0, .int .i64 0, .bool false, .int .i64 0, .string ⟨#[]⟩, .int .i64 0, .int .i64 0, .int .i64 0, .int .i64 0, .int .i64 0, .int .i64 0, .slice none 0 0, .bool false, .int .i64 0, .int .i64 0] (0, 0) _ rfl hS Try.underlying46 rfl isz_msg) rfl ?_
  exact ⟨(⟨0, 0, v0, v1, v2, 0, 0, 0, 0, 0, ⟨#[]⟩, 0, 0, false, 0, ⟨#[]⟩, 0, 0, 0, 0, 0, 0, none, 0, [], false, 0, 0⟩ : P5), rfl, rfl, HW.out.next hf (Blk.frm HZc2.out.2.2.1 (fsetRow #[.int .i64 2, .int .i64 0, .int .i64 0, .int .i64 v0, .int .i64 v1, .int .i64 v2, .int .i64 0, .int .i64 0, .int .i64 0, .int .i64 0, .int .i64 0, .string ⟨#[]⟩, .int .i64 0, .int .i64 0, .bool false, .int .i64 0, .string ⟨#[]⟩, .int .i64 0, .int .i64 0, .int .i64 0, .int .i64 0, .int .i64 0, .int .i64 0, .slice none 0 0, .bool false, .int .i64 0, .int .i64 0]) (fun hh => absurd (show g = w.heap.size from hh) (by omega))) HZc2.out.2.2.2.1, ⟨rdE_nil0 _, by simp, Nat.zero_le 2000, Nat.zero_le 2000⟩, hf, fun _ _ _ h => by cases h⟩
set_option maxRecDepth 100000 in
set_option maxHeartbeats 8000000 in
theorem qread_stop (g : Nat) (a : Option Addr) (c : Nat) (l : List Nat) (st : Nat × Bool) (w : World) (h : QAt w g a c l st) :
    Calls Try.prog 58 #[.pointer (some ⟨g, 0, none⟩), .int .i64 5] w (QM g a c l 5 (stopS l st) w) := by
  have hg := h.2.2.1.lt
  have HW := Lib.hid h
  have HX0 := Lib.hid (show Blk ((w.alloc (.cells #[.int .i64 0, .int .i64 0, .int .i64 0, .int .i64 0, .int .i64 0, .int .i64 0, .int .i64 0, .int .i64 0, .int .i64 0, .int .i64 0, .int .i64 0, .string ⟨#[]⟩, .int .i64 0, .int .i64 0, .bool false, .int .i64 0, .string ⟨#[]⟩, .int .i64 0, .int .i64 0, .int .i64 0, .int .i64 0, .int .i64 0, .int .i64 0, .slice none 0 0, .bool false, .int .i64 0, .int .i64 0] 46)).alloc (.cells #[.int .i64 0, .int .i64 0, .int .i64 0, .int .i64 0, .int .i64 0, .int .i64 0, .int .i64 0, .int .i64 0, .int .i64 0, .int .i64 0, .int .i64 0, .string ⟨#[]⟩, .int .i64 0, .int .i64 0, .bool false, .int .i64 0, .string ⟨#[]⟩, .int .i64 0, .int .i64 0, .int .i64 0, .int .i64 0, .int .i64 0, .int .i64 0, .slice none 0 0, .bool false, .int .i64 0, .int .i64 0] 46)) (w.heap.size + 1) 46 [.int .i64 0, .int .i64 0, .int .i64 0, .int .i64 0, .int .i64 0, .int .i64 0, .int .i64 0, .int .i64 0, .int .i64 0, .int .i64 0, .int .i64 0, .string ⟨#[]⟩, .int .i64 0, .int .i64 0, .bool false, .int .i64 0, .string ⟨#[]⟩, .int .i64 0, .int .i64 0, .int .i64 0, .int .i64 0, .int .i64 0, .int .i64 0, .slice none 0 0, .bool false, .int .i64 0, .int .i64 0] from by have q := heap_alloc_new (w.alloc (.cells #[.int .i64 0, .int .i64 0, .int .i64 0, .int .i64 0, .int .i64 0, .int .i64 0, .int .i64 0, .int .i64 0, .int .i64 0, .int .i64 0, .int .i64 0, .string ⟨#[]⟩, .int .i64 0, .int .i64 0, .bool false, .int .i64 0, .string ⟨#[]⟩, .int .i64 0, .int .i64 0, .int .i64 0, .int .i64 0, .int .i64 0, .int .i64 0, .slice none 0 0, .bool false, .int .i64 0, .int .i64 0] 46)) (.cells #[.int .i64 0, .int .i64 0, .int .i64 0, .int .i64 0, .int .i64 0, .int .i64 0, .int .i64 0, .int .i64 0, .int .i64 0, .int .i64 0, .int .i64 0, .string ⟨#[]⟩, .int .i64 0, .int .i64 0, .bool false, .int .i64 0, .string ⟨#[]⟩, .int .i64 0, .int .i64 0, .int .i64 0, .int .i64 0, .int .i64 0, .int .i64 0, .slice none 0 0, .bool false, .int .i64 0, .int .i64 0] 46); rw [show (w.alloc (.cells #[.int .i64 0, .int .i64 0, .int .i64 0, .int .i64 0, .int .i64 0, .int .i64 0, .int .i64 0, .int .i64 0, .int .i64 0, .int .i64 0, .int .i64 0, .string ⟨#[]⟩, .int .i64 0, .int .i64 0, .bool false, .int .i64 0, .string ⟨#[]⟩, .int .i64 0, .int .i64 0, .int .i64 0, .int .i64 0, .int .i64 0, .int .i64 0, .slice none 0 0, .bool false, .int .i64 0, .int .i64 0] 46)).heap.size = w.heap.size + 1 from by simp] at q; exact q)
  have hG0 := Blk.alloc (show Blk (w.alloc (.cells #[.int .i64 0, .int .i64 0, .int .i64 0, .int .i64 0, .int .i64 0, .int .i64 0, .int .i64 0, .int .i64 0, .int .i64 0, .int .i64 0, .int .i64 0, .string ⟨#[]⟩, .int .i64 0, .int .i64 0, .bool false, .int .i64 0, .string ⟨#[]⟩, .int .i64 0, .int .i64 0, .int .i64 0, .int .i64 0, .int .i64 0, .int .i64 0, .slice none 0 0, .bool false, .int .i64 0, .int .i64 0] 46)) w.heap.size 46 [.int .i64 0, .int .i64 0, .int .i64 0, .int .i64 0, .int .i64 0, .int .i64 0, .int .i64 0, .int .i64 0, .int .i64 0, .int .i64 0, .int .i64 0, .string ⟨#[]⟩, .int .i64 0, .int .i64 0, .bool false, .int .i64 0, .string ⟨#[]⟩, .int .i64 0, .int .i64 0, .int .i64 0, .int .i64 0, .int .i64 0, .int .i64 0, .slice none 0 0, .bool false, .int .i64 0, .int .i64 0] from heap_alloc_new w _) (.cells #[.int .i64 0, .int .i64 0, .int .i64 0, .int .i64 0, .int .i64 0, .int .i64 0, .int .i64 0, .int .i64 0, .int .i64 0, .int .i64 0, .int .i64 0, .string ⟨#[]⟩, .int .i64 0, .int .i64 0, .bool false, .int .i64 0, .string ⟨#[]⟩, .int .i64 0, .int .i64 0, .int .i64 0, .int .i64 0, .int .i64 0, .int .i64 0, .slice none 0 0, .bool false, .int .i64 0, .int .i64 0] 46)
  have hF0 : Frm (fun i => i = g) w (((w.alloc (.cells #[.int .i64 0, .int .i64 0, .int .i64 0, .int .i64 0, .int .i64 0, .int .i64 0, .int .i64 0, .int .i64 0, .int .i64 0, .int .i64 0, .int .i64 0, .string ⟨#[]⟩, .int .i64 0, .int .i64 0, .bool false, .int .i64 0, .string ⟨#[]⟩, .int .i64 0, .int .i64 0, .int .i64 0, .int .i64 0, .int .i64 0, .int .i64 0, .slice none 0 0, .bool false, .int .i64 0, .int .i64 0] 46)).alloc (.cells #[.int .i64 0, .int .i64 0, .int .i64 0, .int .i64 0, .int .i64 0, .int .i64 0, .int .i64 0, .int .i64 0, .int .i64 0, .int .i64 0, .int .i64 0, .string ⟨#[]⟩, .int .i64 0, .int .i64 0, .bool false, .int .i64 0, .string ⟨#[]⟩, .int .i64 0, .int .i64 0, .int .i64 0, .int .i64 0, .int .i64 0, .int .i64 0, .slice none 0 0, .bool false, .int .i64 0, .int .i64 0] 46)).setRow (w.heap.size + 1) #[.int .i64 5, .int .i64 0, .int .i64 0, .int .i64 0, .int .i64 0, .int .i64 0, .int .i64 0, .int .i64 0, .int .i64 0, .int .i64 0, .int .i64 0, .string ⟨#[]⟩, .int .i64 0, .int .i64 0, .bool false, .int .i64 0, .string ⟨#[]⟩, .int .i64 0, .int .i64 0, .int .i64 0, .int .i64 0, .int .i64 0, .int .i64 0, .slice none 0 0, .bool false, .int .i64 0, .int .i64 0]) := (((Frm.refl (fun i => i = g) w).alloc (.cells #[.int .i64 0, .int .i64 0, .int .i64 0, .int .i64 0, .int .i64 0, .int .i64 0, .int .i64 0, .int .i64 0, .int .i64 0, .int .i64 0, .int .i64 0, .string ⟨#[]⟩, .int .i64 0, .int .i64 0, .bool false, .int .i64 0, .string ⟨#[]⟩, .int .i64 0, .int .i64 0, .int .i64 0, .int .i64 0, .int .i64 0, .int .i64 0, .slice none 0 0, .bool false, .int .i64 0, .int .i64 0] 46)).alloc (.cells #[.int .i64 0, .int .i64 0, .int .i64 0, .int .i64 0, .int .i64 0, .int .i64 0, .int .i64 0, .int .i64 0, .int .i64 0, .int .i64 0, .int .i64 0, .string ⟨#[]⟩, .int .i64 0, .int .i64 0, .bool false, .int .i64 0, .string ⟨#[]⟩, .int .i64 0, .int .i64 0, .int .i64 0, .int .i64 0, .int .i64 0, .int .i64 0, .slice none 0 0, .bool false, .int .i64 0, .int .i64 0] 46)).trans (fsetRow #[.int .i64 5, .int .i64 0, .int .i64 0, .int .i64 0, .int .i64 0, .int .i64 0, .int .i64 0, .int .i64 0, .int .i64 0, .int .i64 0, .int .i64 0, .string ⟨#[]⟩, .int .i64 0, .int .i64 0, .bool false, .int .i64 0, .string ⟨#[]⟩, .int .i64 0, .int .i64 0, .int .i64 0, .int .i64 0, .int .i64 0, .int .i64 0, .slice none 0 0, .bool false, .int .i64 0, .int .i64 0]) (fun i hi hl => by have hi' : i = w.heap.size + 1 := hi; omega)
  have HX := Lib.hid (show Blk (((w.alloc (.cells #[.int .i64 0, .int .i64 0, .int .i64 0, .int .i64 0, .int .i64 0, .int .i64 0, .int .i64 0, .int .i64 0, .int .i64 0, .int .i64 0, .int .i64 0, .string ⟨#[]⟩, .int .i64 0, .int .i64 0, .bool false, .int .i64 0, .string ⟨#[]⟩, .int .i64 0, .int .i64 0, .int .i64 0, .int .i64 0, .int .i64 0, .int .i64 0, .slice none 0 0, .bool false, .int .i64 0, .int .i64 0] 46)).alloc (.cells #[.int .i64 0, .int .i64 0, .int .i64 0, .int .i64 0, .int .i64 0, .int .i64 0, .int .i64 0, .int .i64 0, .int .i64 0, .int .i64 0, .int .i64 0, .string ⟨#[]⟩, .int .i64 0, .int .i64 0, .bool false, .int .i64 0, .string ⟨#[]⟩, .int .i64 0, .int .i64 0, .int .i64 0, .int .i64 0, .int .i64 0, .int .i64 0, .slice none 0 0, .bool false, .int .i64 0, .int .i64 0] 46)).setRow (w.heap.size + 1) #[.int .i64 5, .int .i64 0, .int .i64 0, .int .i64 0, .int .i64 0, .int .i64 0, .int .i64 0, .int .i64 0, .int .i64 0, .int .i64 0, .int .i64 0, .string ⟨#[]⟩, .int .i64 0, .int .i64 0, .bool false, .int .i64 0, .string ⟨#[]⟩, .int .i64 0, .int .i64 0, .int .i64 0, .int .i64 0, .int .i64 0, .int .i64 0, .slice none 0 0, .bool false, .int .i64 0, .int .i64 0]) (w.heap.size + 1) 46 [.int .i64 5, .int .i64 0, .int .i64 0, .int .i64 0, .int .i64 0, .int .i64 0, .int .i64 0, .int .i64 0, .int .i64 0, .int .i64 0, .int .i64 0, .string ⟨#[]⟩, .int .i64 0, .int .i64 0, .bool false, .int .i64 0, .string ⟨#[]⟩, .int .i64 0, .int .i64 0, .int .i64 0, .int .i64 0, .int .i64 0, .int .i64 0, .slice none 0 0, .bool false, .int .i64 0, .int .i64 0] from setRow_heap ((w.alloc (.cells #[.int .i64 0, .int .i64 0, .int .i64 0, .int .i64 0, .int .i64 0, .int .i64 0, .int .i64 0, .int .i64 0, .int .i64 0, .int .i64 0, .int .i64 0, .string ⟨#[]⟩, .int .i64 0, .int .i64 0, .bool false, .int .i64 0, .string ⟨#[]⟩, .int .i64 0, .int .i64 0, .int .i64 0, .int .i64 0, .int .i64 0, .int .i64 0, .slice none 0 0, .bool false, .int .i64 0, .int .i64 0] 46)).alloc (.cells #[.int .i64 0, .int .i64 0, .int .i64 0, .int .i64 0, .int .i64 0, .int .i64 0, .int .i64 0, .int .i64 0, .int .i64 0, .int .i64 0, .int .i64 0, .string ⟨#[]⟩, .int .i64 0, .int .i64 0, .bool false, .int .i64 0, .string ⟨#[]⟩, .int .i64 0, .int .i64 0, .int .i64 0, .int .i64 0, .int .i64 0, .int .i64 0, .slice none 0 0, .bool false, .int .i64 0, .int .i64 0] 46)) (w.heap.size + 1) #[.int .i64 0, .int .i64 0, .int .i64 0, .int .i64 0, .int .i64 0, .int .i64 0, .int .i64 0, .int .i64 0, .int .i64 0, .int .i64 0, .int .i64 0, .string ⟨#[]⟩, .int .i64 0, .int .i64 0, .bool false, .int .i64 0, .string ⟨#[]⟩, .int .i64 0, .int .i64 0, .int .i64 0, .int .i64 0, .int .i64 0, .int .i64 0, .slice none 0 0, .bool false, .int .i64 0, .int .i64 0] #[.int .i64 5, .int .i64 0, .int .i64 0, .int .i64 0, .int .i64 0, .int .i64 0, .int .i64 0, .int .i64 0, .int .i64 0, .int .i64 0, .int .i64 0, .string ⟨#[]⟩, .int .i64 0, .int .i64 0, .bool false, .int .i64 0, .string ⟨#[]⟩, .int .i64 0, .int .i64 0, .int .i64 0, .int .i64 0, .int .i64 0, .int .i64 0, .slice none 0 0, .bool false, .int .i64 0, .int .i64 0] 46 (0, 0) HX0.out)
  have HG := Lib.hid (Blk.frm hG0 (fsetRow (g := w.heap.size + 1) #[.int .i64 5, .int .i64 0, .int .i64 0, .int .i64 0, .int .i64 0, .int .i64 0, .int .i64 0, .int .i64 0, .int .i64 0, .int .i64 0, .int .i64 0, .string ⟨#[]⟩, .int .i64 0, .int .i64 0, .bool false, .int .i64 0, .string ⟨#[]⟩, .int .i64 0, .int .i64 0, .int .i64 0, .int .i64 0, .int .i64 0, .int .i64 0, .slice none 0 0, .bool false, .int .i64 0, .int .i64 0]) (fun hh => absurd (show w.heap.size = w.heap.size + 1 from hh) (by omega)))
  have HZ := Lib.hid (h.next hF0 ((Blk.alloc (Blk.alloc h.2.2.1 (.cells #[.int .i64 0, .int .i64 0, .int .i64 0, .int .i64 0, .int .i64 0, .int .i64 0, .int .i64 0, .int .i64 0, .int .i64 0, .int .i64 0, .int .i64 0, .string ⟨#[]⟩, .int .i64 0, .int .i64 0, .bool false, .int .i64 0, .string ⟨#[]⟩, .int .i64 0, .int .i64 0, .int .i64 0, .int .i64 0, .int .i64 0, .int .i64 0, .slice none 0 0, .bool false, .int .i64 0, .int .i64 0] 46)) (.cells #[.int .i64 0, .int .i64 0, .int .i64 0, .int .i64 0, .int .i64 0, .int .i64 0, .int .i64 0, .int .i64 0, .int .i64 0, .int .i64 0, .int .i64 0, .string ⟨#[]⟩, .int .i64 0, .int .i64 0, .bool false, .int .i64 0, .string ⟨#[]⟩, .int .i64 0, .int .i64 0, .int .i64 0, .int .i64 0, .int .i64 0, .int .i64 0, .slice none 0 0, .bool false, .int .i64 0, .int .i64 0] 46)).frm (fsetRow (g := w.heap.size + 1) #[.int .i64 5, .int .i64 0, .int .i64 0, .int .i64 0, .int .i64 0, .int .i64 0, .int .i64 0, .int .i64 0, .int .i64 0, .int .i64 0, .int .i64 0, .string ⟨#[]⟩, .int .i64 0, .int .i64 0, .bool false, .int .i64 0, .string ⟨#[]⟩, .int .i64 0, .int .i64 0, .int .i64 0, .int .i64 0, .int .i64 0, .int .i64 0, .slice none 0 0, .bool false, .int .i64 0, .int .i64 0]) (fun hh => absurd (show g = w.heap.size + 1 from hh) (by omega))) h.2.2.2.1)
  have HF := Lib.hid hF0
  obtain ⟨W, hW⟩ : ∃ W, (((w.alloc (.cells #[.int .i64 0, .int .i64 0, .int .i64 0, .int .i64 0, .int .i64 0, .int .i64 0, .int .i64 0, .int .i64 0, .int .i64 0, .int .i64 0, .int .i64 0, .string ⟨#[]⟩, .int .i64 0, .int .i64 0, .bool false, .int .i64 0, .string ⟨#[]⟩, .int .i64 0, .int .i64 0, .int .i64 0, .int .i64 0, .int .i64 0, .int .i64 0, .slice none 0 0, .bool false, .int .i64 0, .int .i64 0] 46)).alloc (.cells #[.int .i64 0, .int .i64 0, .int .i64 0, .int .i64 0, .int .i64 0, .int .i64 0, .int .i64 0, .int .i64 0, .int .i64 0, .int .i64 0, .int .i64 0, .string ⟨#[]⟩, .int .i64 0, .int .i64 0, .bool false, .int .i64 0, .string ⟨#[]⟩, .int .i64 0, .int .i64 0, .int .i64 0, .int .i64 0, .int .i64 0, .int .i64 0, .slice none 0 0, .bool false, .int .i64 0, .int .i64 0] 46)).setRow (w.heap.size + 1) #[.int .i64 5, .int .i64 0, .int .i64 0, .int .i64 0, .int .i64 0, .int .i64 0, .int .i64 0, .int .i64 0, .int .i64 0, .int .i64 0, .int .i64 0, .string ⟨#[]⟩, .int .i64 0, .int .i64 0, .bool false, .int .i64 0, .string ⟨#[]⟩, .int .i64 0, .int .i64 0, .int .i64 0, .int .i64 0, .int .i64 0, .int .i64 0, .slice none 0 0, .bool false, .int .i64 0, .int .i64 0]) = W := ⟨_, rfl⟩
  rw [hW] at HZ HF HG HX
  have HQ := Lib.hid hW
  clear h hW hG0 hF0
  obtain ⟨⟨v0, s0⟩, e0⟩ : ∃ q, numS l 4 st = q := ⟨_, rfl⟩
  obtain ⟨⟨v1, s1⟩, e1⟩ : ∃ q, numS l 4 s0 = q := ⟨_, rfl⟩
  have HR := Lib.hid (show stopS l st = (.stop v0 v1, s1) from by unfold stopS; simp only [e0, e1])
  rw [HR.out]
  clear HR
  have E0 := Lib.hid e0
  clear e0
  have E1 := Lib.hid e1
  clear e1
  go_enter Try.func58, Try.ntmps58
  have HC := Lib.hid (qnum_any g a c l 4 st W HZ.out (by decide) (by decide))
  rw [E0.out] at HC
  simp only at HC
  go_wp2_with (refine wpList_store_row rfl 46 _ _ rfl (w.heap.size + 1) #[.int .i64 5, .int .i64 0, .int .i64 0, .int .i64 0, .int .i64 0, .int .i64 0, .int .i64 0, .int .i64 0, .int .i64 0, .int .i64 0, .int .i64 0, .string ⟨#[]⟩, .int .i64 0, .int .i64 0, .bool false, .int .i64 0, .string ⟨#[]⟩, .int .i64 0, .int .i64 0, .int .i64 0, .int .i64 0, .int .i64 0, .int .i64 0, .slice none 0 0, .bool false, .int .i64 0, .int .i64 0] rfl rfl _ #[.int .i64 0, .int .i64 0, .int .i64 0, .int .i64 0, .int .i64 0, .int .i64 0, .int .i64 0, .int .i64 0, .int .i64 0, .int .i64 0, .int .i64 0, .string ⟨#[]⟩, .int .i64 0, .int .i64 0, .bool false, .int .i64 0, .string ⟨#[]⟩, .int .i64 0, .int .i64 0, .int .i64 0, .int .i64 0, .int .i64 0, .int .i64 0, .slice none 0 0, .bool false, .int .i64 0, .int .i64 0] HX0.out isz_msg rfl (by simp [Value.oneCell']) ?_)
  rw [HQ.out]
  clear HX0
  refine HC.out.mono ?_
  clear HC
  rintro e V0 ⟨rfl, hz, hf⟩
  clear HQ
  have HZb0 := Lib.hid hz
  have HFb0 := Lib.hid (HF.out.trans hf (fun i h _ => h))
  have HXb0 := Lib.hid (Blk.frm HX.out hf (fun hh => absurd (show w.heap.size + 1 = g from hh) (by omega)))
  have HGb0 := Lib.hid (Blk.frm HG.out hf (fun hh => absurd (show w.heap.size = g from hh) (by omega)))
  clear hz hf HZ HF HX HG
  have y25 : V0.cell? ⟨w.heap.size + 1, 25, none⟩ = some (.int .i64 0) := HXb0.out.cell 25
  have fz : V0.frozen? ⟨w.heap.size + 1, 25, none⟩ = false := fz_of HXb0.out
  have hFc0 := Frm.setCell HFb0.out ⟨w.heap.size + 1, 25, none⟩ (.int .i64 v0) (.inr (show w.heap.size ≤ w.heap.size + 1 by omega))
  have HXc0 := Lib.hid (show Blk (V0.setCell ⟨w.heap.size + 1, 25, none⟩ (.int .i64 v0)) (w.heap.size + 1) 46 [.int .i64 5, .int .i64 0, .int .i64 0, .int .i64 0, .int .i64 0, .int .i64 0, .int .i64 0, .int .i64 0, .int .i64 0, .int .i64 0, .int .i64 0, .string ⟨#[]⟩, .int .i64 0, .int .i64 0, .bool false, .int .i64 0, .string ⟨#[]⟩, .int .i64 0, .int .i64 0, .int .i64 0, .int .i64 0, .int .i64 0, .int .i64 0, .slice none 0 0, .bool false, .int .i64 v0, .int .i64 0] from HXb0.out.set 25 (.int .i64 v0))
  have HGc0 := Lib.hid (HGb0.out.far ⟨w.heap.size + 1, 25, none⟩ (.int .i64 v0) (show w.heap.size ≠ w.heap.size + 1 by omega))
  have HZc0 := Lib.hid (HW.out.next hFc0 (HZb0.out.2.2.1.far ⟨w.heap.size + 1, 25, none⟩ (.int .i64 v0) (show g ≠ w.heap.size + 1 by omega)) HZb0.out.2.2.2.1)
  have HFc0 := Lib.hid hFc0
  clear hFc0 HZb0 HFb0 HXb0 HGb0
  go_wp2_with fail
  clear y25 fz
  obtain ⟨U0, hU⟩ : ∃ U, (V0.setCell ⟨w.heap.size + 1, 25, none⟩ (.int .i64 v0)) = U := ⟨_, rfl⟩
  rw [hU] at HXc0 HGc0 HZc0 HFc0 ⊢
  clear hU
  have HC := Lib.hid (qnum_any g a c l 4 s0 U0 HZc0.out (by decide) (by decide))
  rw [E1.out] at HC
  simp only at HC
  refine HC.out.mono ?_
  clear HC
  rintro e V1 ⟨rfl, hz, hf⟩
  have HZb1 := Lib.hid hz
  have HFb1 := Lib.hid (HFc0.out.trans hf (fun i h _ => h))
  have HXb1 := Lib.hid (Blk.frm HXc0.out hf (fun hh => absurd (show w.heap.size + 1 = g from hh) (by omega)))
  have HGb1 := Lib.hid (Blk.frm HGc0.out hf (fun hh => absurd (show w.heap.size = g from hh) (by omega)))
  clear hz hf HZc0 HFc0 HXc0 HGc0
  have y26 : V1.cell? ⟨w.heap.size + 1, 26, none⟩ = some (.int .i64 0) := HXb1.out.cell 26
  have fz : V1.frozen? ⟨w.heap.size + 1, 26, none⟩ = false := fz_of HXb1.out
  have hFc1 := Frm.setCell HFb1.out ⟨w.heap.size + 1, 26, none⟩ (.int .i64 v1) (.inr (show w.heap.size ≤ w.heap.size + 1 by omega))
  have HXc1 := Lib.hid (show Blk (V1.setCell ⟨w.heap.size + 1, 26, none⟩ (.int .i64 v1)) (w.heap.size + 1) 46 [.int .i64 5, .int .i64 0, .int .i64 0, .int .i64 0, .int .i64 0, .int .i64 0, .int .i64 0, .int .i64 0, .int .i64 0, .int .i64 0, .int .i64 0, .string ⟨#[]⟩, .int .i64 0, .int .i64 0, .bool false, .int .i64 0, .string ⟨#[]⟩, .int .i64 0, .int .i64 0, .int .i64 0, .int .i64 0, .int .i64 0, .int .i64 0, .slice none 0 0, .bool false, .int .i64 v0, .int .i64 v1] from HXb1.out.set 26 (.int .i64 v1))
  have HGc1 := Lib.hid (HGb1.out.far ⟨w.heap.size + 1, 26, none⟩ (.int .i64 v1) (show w.heap.size ≠ w.heap.size + 1 by omega))
  have HZc1 := Lib.hid (HW.out.next hFc1 (HZb1.out.2.2.1.far ⟨w.heap.size + 1, 26, none⟩ (.int .i64 v1) (show g ≠ w.heap.size + 1 by omega)) HZb1.out.2.2.2.1)
  have HFc1 := Lib.hid hFc1
  clear hFc1 HZb1 HFb1 HXb1 HGb1
  go_wp2_with (first | (refine wpList_load_row rfl 46 _ rfl (w.heap.size + 1) rfl _ #[.int .i64 5, .int .i64 0, .int .i64 0, .int .i64 0, .int .i64 0, .int .i64 0, .int .i64 0, .int .i64 0, .int .i64 0, .int .i64 0, .int .i64 0, .string ⟨#[]⟩, .int .i64 0, .int .i64 0, .bool false, .int .i64 0, .string ⟨#[]⟩, .int .i64 0, .int .i64 0, .int .i64 0, .int .i64 0, .int .i64 0, .int .i64 0, .slice none 0 0, .bool false, .int .i64 v0, .int .i64 v1] (0, 0) _ HXc1.out Try.underlying46 rfl isz_msg ?_) | (refine wpList_store_row rfl 46 _ _ rfl w.heap.size #[.int .i64 5, .int .i64 0, .int .i64 0, .int .i64 0, .int .i64 0, .int .i64 0, .int .i64 0, .int .i64 0, .int .i64 0, .int .i64 0, .int .i64 0, .string ⟨#[]⟩, .int .i64 0, .int .i64 0, .bool false, .int .i64 0, .string ⟨#[]⟩, .int .i64 0, .int .i64 0, .int .i64 0, .int .i64 0, .int .i64 0, .int .i64 0, .slice none 0 0, .bool false, .int .i64 v0, .int .i64 v1] rfl rfl _ #[.int .i64 0, .int .i64 0, .int .i64 0, .int .i64 0, .int .i64 0, .int .i64 0, .int .i64 0, .int .i64 0, .int .i64 0, .int .i64 0, .int .i64 0, .string ⟨#[]⟩, .int .i64 0, .int .i64 0, .bool false, .int .i64 0, .string ⟨#[]⟩, .int .i64 0, .int .i64 0, .int .i64 0, .int .i64 0, .int .i64 0, .int .i64 0, .slice none 0 0, .bool false, .int .i64 0, .int .i64 0] HGc1.out isz_msg rfl (by simp [Value.oneCell']) ?_))
  have hS := setRow_heap (V1.setCell ⟨w.heap.size + 1, 26, none⟩ (.int .i64 v1)) w.heap.size #[.int .i64 0, .int .i64 0, .int .i64 0, .int .i64 0, .int .i64 0, .int .i64 0, .int .i64 0, .int .i64 0, .int .i64 0, .int .i64 0, .int .i64 0, .string ⟨#[]⟩, .int .i64 0, .int .i64 0, .bool false, .int .i64 0, .string ⟨#[]⟩, .int .i64 0, .int .i64 0, .int .i64 0, .int .i64 0, .int .i64 0, .int .i64 0, .slice none 0 0, .bool false, .int .i64 0, .int .i64 0] #[.int .i64 5, .int .i64 0, .int .i64 0, .int .i64 0, .int .i64 0, .int .i64 0, .int .i64 0, .int .i64 0, .int .i64 0, .int .i64 0, .int .i64 0, .string ⟨#[]⟩, .int .i64 0, .int .i64 0, .bool false, .int .i64 0, .string ⟨#[]⟩, .int .i64 0, .int .i64 0, .int .i64 0, .int .i64 0, .int .i64 0, .int .i64 0, .slice none 0 0, .bool false, .int .i64 v0, .int .i64 v1] 46 (0, 0) HGc1.out
  have hf : Frm (fun i => i = g) w ((V1.setCell ⟨w.heap.size + 1, 26, none⟩ (.int .i64 v1)).setRow w.heap.size #[.int .i64 5, .int .i64 0, .int .i64 0, .int .i64 0, .int .i64 0, .int .i64 0, .int .i64 0, .int .i64 0, .int .i64 0, .int .i64 0, .int .i64 0, .string ⟨#[]⟩, .int .i64 0, .int .i64 0, .bool false, .int .i64 0, .string ⟨#[]⟩, .int .i64 0, .int .i64 0, .int .i64 0, .int .i64 0, .int .i64 0, .int .i64 0, .slice none 0 0, .bool false, .int .i64 v0, .int .i64 v1]) := HFc1.out.trans (fsetRow #[.int .i64 5, .int .i64 0, .int .i64 0, .int .i64 0, .int .i64 0, .int .i64 0, .int .i64 0, .int .i64 0, .int .i64 0, .int .i64 0, .int .i64 0, .string ⟨#[]⟩, .int .i64 0, .int .i64 0, .bool false, .int .i64 0, .string ⟨#[]⟩, .int .i64 0, .int .i64 0, .int .i64 0, .int .i64 0, .int .i64 0, .int .i64 0, .slice none 0 0, .bool false, .int .i64 v0, .int .i64 v1]) (fun i hi hl => by have hi' : i = w.heap.size := hi; omega)
  refine bodyPost_ret (results_cell_row rfl _ _ w.heap.size 46 #[.int .i64 5, .int .i64 0, .int .i64 0, .int .i64 0, .int .i64 0, .int .i64 0, .int .i64 0, .int .i64 0, .int .i64 0, .int .i64 0, .int .i64 0, .string ⟨#[]⟩, .int .i64 0, .int .i64 0, .bool false, .int .i64 0, .string ⟨#[]⟩, .int .i64 0, .int .i64 0, .int .i64 0, .int .i64 0, .int .i64 0, .int .i64 0, .slice none 0 0, .bool false, .int .i64 v0, .int .i64 v1] (0, 0) _ rfl hS Try.underlying46 rfl isz_msg) rfl ?_
  exact ⟨(⟨0, 0, 0, 0, 0, 0, 0, 0, 0, 0, ⟨#[]⟩, 0, 0, false, 0, ⟨#[]⟩, 0, 0, 0, 0, 0, 0, none, 0, [], false, v0, v1⟩ : P5), rfl, rfl, HW.out.next hf (Blk.frm HZc1.out.2.2.1 (fsetRow #[.int .i64 5, .int .i64 0, .int .i64 0, .int .i64 0, .int .i64 0, .int .i64 0, .int .i64 0, .int .i64 0, .int .i64 0, .int .i64 0, .int .i64 0, .string ⟨#[]⟩, .int .i64 0, .int .i64 0, .bool false, .int .i64 0, .string ⟨#[]⟩, .int .i64 0, .int .i64 0, .int .i64 0, .int .i64 0, .int .i64 0, .int .i64 0, .slice none 0 0, .bool false, .int .i64 v0, .int .i64 v1]) (fun hh => absurd (show g = w.heap.size from hh) (by omega))) HZc1.out.2.2.2.1, ⟨rdE_nil0 _, by simp, Nat.zero_le 2000, Nat.zero_le 2000⟩, hf, fun _ _ _ h => by cases h⟩
end Go.Proofs.Ytjhkdbcfkaaffaa
/- The document's reader.read at an Ask. -/
namespace Go.Proofs.Ytjhkdbcfkaaffaa
open Go.RowKit
set_option linter.unusedVariables false

set_option maxRecDepth 100000 in
theorem fsetCells {g : Nat} : ∀ (vs : List Value) (o : Nat) (w : World), Frm (fun k => k = g) w (w.setCells g o vs)
  | [], o, w => Frm.refl _ w
  | v :: r, o, w => ((Frm.refl (fun k => k = g) w).setCell ⟨g, o, none⟩ v (.inl rfl)).trans (fsetCells r (o + 1) (w.setCell ⟨g, o, none⟩ v)) (fun _ h _ => h)
set_option maxRecDepth 100000 in
theorem Blk.there {w : World} {g : Nat} {e : TypeId} {cs : List Value} (h : Blk w g e cs) (o n : Nat) (hn : o + n ≤ cs.length) : w.there g o n := fun j hj =>
  ⟨by rw [h.cell, List.getElem?_eq_getElem (by omega)]; rfl, fz_of h⟩
set_option maxRecDepth 100000 in
theorem Blk.rangeAt {w : World} {g : Nat} {e : TypeId} {cs : List Value} (h : Blk w g e cs) (o : Nat) (vs : List Value) (hv : ∀ j v, vs[j]? = some v → cs[o + j]? = some v) : w.rangeAt g o vs := fun j v hj => by
  rw [h.cell]; exact hv j v hj
set_option maxRecDepth 100000 in
theorem isz_ask : (Try.prog.info? 29).map (·.size) = some 11 := by kernel_rfl
set_option maxRecDepth 100000 in
theorem isz_reply : (Try.prog.info? 32).map (·.size) = some 8 := by kernel_rfl
def qaskR (l : List Nat) (st : Nat × Bool) : MV × (Nat × Bool) :=
  let q0 := numS l 4 st
  let q1 := numS l 4 q0.2
  let q2 := numS l 4 q1.2
  let q3 := numS l 4 q2.2
  let q4 := numS l 4 q3.2
  let q5 := textS l q4.2
  let q6 := numS l 1 q5.2
  let q7 := numS l 1 q6.2
  let q8 := numS l 1 q7.2
  let q9 := numS l 1 q8.2
  let q10 := textS l q9.2
  (.ask q0.1 q1.1 q2.1 q3.1 q4.1 q5.1 q6.1 q7.1 (q8.1 == 1) q9.1 q10.1, q10.2)
set_option maxRecDepth 100000 in
set_option maxHeartbeats 16000000 in
theorem qread_ask (g : Nat) (a : Option Addr) (c : Nat) (l : List Nat) (st : Nat × Bool) (w : World) (h : QAt w g a c l st) :
    Calls Try.prog 58 #[.pointer (some ⟨g, 0, none⟩), .int .i64 3] w (QM g a c l 3 (qaskR l st) w) := by
  have hg := h.2.2.1.lt
  have HW := Lib.hid h
  have hl2 := h.2.2.2.2.1
  have hbl := h.2.2.2.2.2
  have HX0 := Lib.hid (show Blk ((w.alloc (.cells #[.int .i64 0, .int .i64 0, .int .i64 0, .int .i64 0, .int .i64 0, .int .i64 0, .int .i64 0, .int .i64 0, .int .i64 0, .int .i64 0, .int .i64 0, .string ⟨#[]⟩, .int .i64 0, .int .i64 0, .bool false, .int .i64 0, .string ⟨#[]⟩, .int .i64 0, .int .i64 0, .int .i64 0, .int .i64 0, .int .i64 0, .int .i64 0, .slice none 0 0, .bool false, .int .i64 0, .int .i64 0] 46)).alloc (.cells #[.int .i64 0, .int .i64 0, .int .i64 0, .int .i64 0, .int .i64 0, .int .i64 0, .int .i64 0, .int .i64 0, .int .i64 0, .int .i64 0, .int .i64 0, .string ⟨#[]⟩, .int .i64 0, .int .i64 0, .bool false, .int .i64 0, .string ⟨#[]⟩, .int .i64 0, .int .i64 0, .int .i64 0, .int .i64 0, .int .i64 0, .int .i64 0, .slice none 0 0, .bool false, .int .i64 0, .int .i64 0] 46)) (w.heap.size + 1) 46 [.int .i64 0, .int .i64 0, .int .i64 0, .int .i64 0, .int .i64 0, .int .i64 0, .int .i64 0, .int .i64 0, .int .i64 0, .int .i64 0, .int .i64 0, .string ⟨#[]⟩, .int .i64 0, .int .i64 0, .bool false, .int .i64 0, .string ⟨#[]⟩, .int .i64 0, .int .i64 0, .int .i64 0, .int .i64 0, .int .i64 0, .int .i64 0, .slice none 0 0, .bool false, .int .i64 0, .int .i64 0] from by have q := heap_alloc_new (w.alloc (.cells #[.int .i64 0, .int .i64 0, .int .i64 0, .int .i64 0, .int .i64 0, .int .i64 0, .int .i64 0, .int .i64 0, .int .i64 0, .int .i64 0, .int .i64 0, .string ⟨#[]⟩, .int .i64 0, .int .i64 0, .bool false, .int .i64 0, .string ⟨#[]⟩, .int .i64 0, .int .i64 0, .int .i64 0, .int .i64 0, .int .i64 0, .int .i64 0, .slice none 0 0, .bool false, .int .i64 0, .int .i64 0] 46)) (.cells #[.int .i64 0, .int .i64 0, .int .i64 0, .int .i64 0, .int .i64 0, .int .i64 0, .int .i64 0, .int .i64 0, .int .i64 0, .int .i64 0, .int .i64 0, .string ⟨#[]⟩, .int .i64 0, .int .i64 0, .bool false, .int .i64 0, .string ⟨#[]⟩, .int .i64 0, .int .i64 0, .int .i64 0, .int .i64 0, .int .i64 0, .int .i64 0, .slice none 0 0, .bool false, .int .i64 0, .int .i64 0] 46); rw [show (w.alloc (.cells #[.int .i64 0, .int .i64 0, .int .i64 0, .int .i64 0, .int .i64 0, .int .i64 0, .int .i64 0, .int .i64 0, .int .i64 0, .int .i64 0, .int .i64 0, .string ⟨#[]⟩, .int .i64 0, .int .i64 0, .bool false, .int .i64 0, .string ⟨#[]⟩, .int .i64 0, .int .i64 0, .int .i64 0, .int .i64 0, .int .i64 0, .int .i64 0, .slice none 0 0, .bool false, .int .i64 0, .int .i64 0] 46)).heap.size = w.heap.size + 1 from by simp] at q; exact q)
  have hG0 := Blk.alloc (show Blk (w.alloc (.cells #[.int .i64 0, .int .i64 0, .int .i64 0, .int .i64 0, .int .i64 0, .int .i64 0, .int .i64 0, .int .i64 0, .int .i64 0, .int .i64 0, .int .i64 0, .string ⟨#[]⟩, .int .i64 0, .int .i64 0, .bool false, .int .i64 0, .string ⟨#[]⟩, .int .i64 0, .int .i64 0, .int .i64 0, .int .i64 0, .int .i64 0, .int .i64 0, .slice none 0 0, .bool false, .int .i64 0, .int .i64 0] 46)) w.heap.size 46 [.int .i64 0, .int .i64 0, .int .i64 0, .int .i64 0, .int .i64 0, .int .i64 0, .int .i64 0, .int .i64 0, .int .i64 0, .int .i64 0, .int .i64 0, .string ⟨#[]⟩, .int .i64 0, .int .i64 0, .bool false, .int .i64 0, .string ⟨#[]⟩, .int .i64 0, .int .i64 0, .int .i64 0, .int .i64 0, .int .i64 0, .int .i64 0, .slice none 0 0, .bool false, .int .i64 0, .int .i64 0] from heap_alloc_new w _) (.cells #[.int .i64 0, .int .i64 0, .int .i64 0, .int .i64 0, .int .i64 0, .int .i64 0, .int .i64 0, .int .i64 0, .int .i64 0, .int .i64 0, .int .i64 0, .string ⟨#[]⟩, .int .i64 0, .int .i64 0, .bool false, .int .i64 0, .string ⟨#[]⟩, .int .i64 0, .int .i64 0, .int .i64 0, .int .i64 0, .int .i64 0, .int .i64 0, .slice none 0 0, .bool false, .int .i64 0, .int .i64 0] 46)
  have hsz : (((w.alloc (.cells #[.int .i64 0, .int .i64 0, .int .i64 0, .int .i64 0, .int .i64 0, .int .i64 0, .int .i64 0, .int .i64 0, .int .i64 0, .int .i64 0, .int .i64 0, .string ⟨#[]⟩, .int .i64 0, .int .i64 0, .bool false, .int .i64 0, .string ⟨#[]⟩, .int .i64 0, .int .i64 0, .int .i64 0, .int .i64 0, .int .i64 0, .int .i64 0, .slice none 0 0, .bool false, .int .i64 0, .int .i64 0] 46)).alloc (.cells #[.int .i64 0, .int .i64 0, .int .i64 0, .int .i64 0, .int .i64 0, .int .i64 0, .int .i64 0, .int .i64 0, .int .i64 0, .int .i64 0, .int .i64 0, .string ⟨#[]⟩, .int .i64 0, .int .i64 0, .bool false, .int .i64 0, .string ⟨#[]⟩, .int .i64 0, .int .i64 0, .int .i64 0, .int .i64 0, .int .i64 0, .int .i64 0, .slice none 0 0, .bool false, .int .i64 0, .int .i64 0] 46)).setRow (w.heap.size + 1) #[.int .i64 3, .int .i64 0, .int .i64 0, .int .i64 0, .int .i64 0, .int .i64 0, .int .i64 0, .int .i64 0, .int .i64 0, .int .i64 0, .int .i64 0, .string ⟨#[]⟩, .int .i64 0, .int .i64 0, .bool false, .int .i64 0, .string ⟨#[]⟩, .int .i64 0, .int .i64 0, .int .i64 0, .int .i64 0, .int .i64 0, .int .i64 0, .slice none 0 0, .bool false, .int .i64 0, .int .i64 0]).heap.size = w.heap.size + 1 + 1 := by simp [World.setRow]
  have hF0 : Frm (fun i => i = g) w ((((w.alloc (.cells #[.int .i64 0, .int .i64 0, .int .i64 0, .int .i64 0, .int .i64 0, .int .i64 0, .int .i64 0, .int .i64 0, .int .i64 0, .int .i64 0, .int .i64 0, .string ⟨#[]⟩, .int .i64 0, .int .i64 0, .bool false, .int .i64 0, .string ⟨#[]⟩, .int .i64 0, .int .i64 0, .int .i64 0, .int .i64 0, .int .i64 0, .int .i64 0, .slice none 0 0, .bool false, .int .i64 0, .int .i64 0] 46)).alloc (.cells #[.int .i64 0, .int .i64 0, .int .i64 0, .int .i64 0, .int .i64 0, .int .i64 0, .int .i64 0, .int .i64 0, .int .i64 0, .int .i64 0, .int .i64 0, .string ⟨#[]⟩, .int .i64 0, .int .i64 0, .bool false, .int .i64 0, .string ⟨#[]⟩, .int .i64 0, .int .i64 0, .int .i64 0, .int .i64 0, .int .i64 0, .int .i64 0, .slice none 0 0, .bool false, .int .i64 0, .int .i64 0] 46)).setRow (w.heap.size + 1) #[.int .i64 3, .int .i64 0, .int .i64 0, .int .i64 0, .int .i64 0, .int .i64 0, .int .i64 0, .int .i64 0, .int .i64 0, .int .i64 0, .int .i64 0, .string ⟨#[]⟩, .int .i64 0, .int .i64 0, .bool false, .int .i64 0, .string ⟨#[]⟩, .int .i64 0, .int .i64 0, .int .i64 0, .int .i64 0, .int .i64 0, .int .i64 0, .slice none 0 0, .bool false, .int .i64 0, .int .i64 0]).alloc (.cells #[.int .i64 0, .int .i64 0, .int .i64 0, .int .i64 0, .int .i64 0, .string ⟨#[]⟩, .int .i64 0, .int .i64 0, .bool false, .int .i64 0, .string ⟨#[]⟩] 29)) := ((((Frm.refl (fun i => i = g) w).alloc (.cells #[.int .i64 0, .int .i64 0, .int .i64 0, .int .i64 0, .int .i64 0, .int .i64 0, .int .i64 0, .int .i64 0, .int .i64 0, .int .i64 0, .int .i64 0, .string ⟨#[]⟩, .int .i64 0, .int .i64 0, .bool false, .int .i64 0, .string ⟨#[]⟩, .int .i64 0, .int .i64 0, .int .i64 0, .int .i64 0, .int .i64 0, .int .i64 0, .slice none 0 0, .bool false, .int .i64 0, .int .i64 0] 46)).alloc (.cells #[.int .i64 0, .int .i64 0, .int .i64 0, .int .i64 0, .int .i64 0, .int .i64 0, .int .i64 0, .int .i64 0, .int .i64 0, .int .i64 0, .int .i64 0, .string ⟨#[]⟩, .int .i64 0, .int .i64 0, .bool false, .int .i64 0, .string ⟨#[]⟩, .int .i64 0, .int .i64 0, .int .i64 0, .int .i64 0, .int .i64 0, .int .i64 0, .slice none 0 0, .bool false, .int .i64 0, .int .i64 0] 46)).trans (fsetRow #[.int .i64 3, .int .i64 0, .int .i64 0, .int .i64 0, .int .i64 0, .int .i64 0, .int .i64 0, .int .i64 0, .int .i64 0, .int .i64 0, .int .i64 0, .string ⟨#[]⟩, .int .i64 0, .int .i64 0, .bool false, .int .i64 0, .string ⟨#[]⟩, .int .i64 0, .int .i64 0, .int .i64 0, .int .i64 0, .int .i64 0, .int .i64 0, .slice none 0 0, .bool false, .int .i64 0, .int .i64 0]) (fun i hi hl => by have hi' : i = w.heap.size + 1 := hi; omega)).alloc (.cells #[.int .i64 0, .int .i64 0, .int .i64 0, .int .i64 0, .int .i64 0, .string ⟨#[]⟩, .int .i64 0, .int .i64 0, .bool false, .int .i64 0, .string ⟨#[]⟩] 29)
  have HX := Lib.hid (Blk.alloc (show Blk (((w.alloc (.cells #[.int .i64 0, .int .i64 0, .int .i64 0, .int .i64 0, .int .i64 0, .int .i64 0, .int .i64 0, .int .i64 0, .int .i64 0, .int .i64 0, .int .i64 0, .string ⟨#[]⟩, .int .i64 0, .int .i64 0, .bool false, .int .i64 0, .string ⟨#[]⟩, .int .i64 0, .int .i64 0, .int .i64 0, .int .i64 0, .int .i64 0, .int .i64 0, .slice none 0 0, .bool false, .int .i64 0, .int .i64 0] 46)).alloc (.cells #[.int .i64 0, .int .i64 0, .int .i64 0, .int .i64 0, .int .i64 0, .int .i64 0, .int .i64 0, .int .i64 0, .int .i64 0, .int .i64 0, .int .i64 0, .string ⟨#[]⟩, .int .i64 0, .int .i64 0, .bool false, .int .i64 0, .string ⟨#[]⟩, .int .i64 0, .int .i64 0, .int .i64 0, .int .i64 0, .int .i64 0, .int .i64 0, .slice none 0 0, .bool false, .int .i64 0, .int .i64 0] 46)).setRow (w.heap.size + 1) #[.int .i64 3, .int .i64 0, .int .i64 0, .int .i64 0, .int .i64 0, .int .i64 0, .int .i64 0, .int .i64 0, .int .i64 0, .int .i64 0, .int .i64 0, .string ⟨#[]⟩, .int .i64 0, .int .i64 0, .bool false, .int .i64 0, .string ⟨#[]⟩, .int .i64 0, .int .i64 0, .int .i64 0, .int .i64 0, .int .i64 0, .int .i64 0, .slice none 0 0, .bool false, .int .i64 0, .int .i64 0]) (w.heap.size + 1) 46 [.int .i64 3, .int .i64 0, .int .i64 0, .int .i64 0, .int .i64 0, .int .i64 0, .int .i64 0, .int .i64 0, .int .i64 0, .int .i64 0, .int .i64 0, .string ⟨#[]⟩, .int .i64 0, .int .i64 0, .bool false, .int .i64 0, .string ⟨#[]⟩, .int .i64 0, .int .i64 0, .int .i64 0, .int .i64 0, .int .i64 0, .int .i64 0, .slice none 0 0, .bool false, .int .i64 0, .int .i64 0] from setRow_heap ((w.alloc (.cells #[.int .i64 0, .int .i64 0, .int .i64 0, .int .i64 0, .int .i64 0, .int .i64 0, .int .i64 0, .int .i64 0, .int .i64 0, .int .i64 0, .int .i64 0, .string ⟨#[]⟩, .int .i64 0, .int .i64 0, .bool false, .int .i64 0, .string ⟨#[]⟩, .int .i64 0, .int .i64 0, .int .i64 0, .int .i64 0, .int .i64 0, .int .i64 0, .slice none 0 0, .bool false, .int .i64 0, .int .i64 0] 46)).alloc (.cells #[.int .i64 0, .int .i64 0, .int .i64 0, .int .i64 0, .int .i64 0, .int .i64 0, .int .i64 0, .int .i64 0, .int .i64 0, .int .i64 0, .int .i64 0, .string ⟨#[]⟩, .int .i64 0, .int .i64 0, .bool false, .int .i64 0, .string ⟨#[]⟩, .int .i64 0, .int .i64 0, .int .i64 0, .int .i64 0, .int .i64 0, .int .i64 0, .slice none 0 0, .bool false, .int .i64 0, .int .i64 0] 46)) (w.heap.size + 1) #[.int .i64 0, .int .i64 0, .int .i64 0, .int .i64 0, .int .i64 0, .int .i64 0, .int .i64 0, .int .i64 0, .int .i64 0, .int .i64 0, .int .i64 0, .string ⟨#[]⟩, .int .i64 0, .int .i64 0, .bool false, .int .i64 0, .string ⟨#[]⟩, .int .i64 0, .int .i64 0, .int .i64 0, .int .i64 0, .int .i64 0, .int .i64 0, .slice none 0 0, .bool false, .int .i64 0, .int .i64 0] #[.int .i64 3, .int .i64 0, .int .i64 0, .int .i64 0, .int .i64 0, .int .i64 0, .int .i64 0, .int .i64 0, .int .i64 0, .int .i64 0, .int .i64 0, .string ⟨#[]⟩, .int .i64 0, .int .i64 0, .bool false, .int .i64 0, .string ⟨#[]⟩, .int .i64 0, .int .i64 0, .int .i64 0, .int .i64 0, .int .i64 0, .int .i64 0, .slice none 0 0, .bool false, .int .i64 0, .int .i64 0] 46 (0, 0) HX0.out) (.cells #[.int .i64 0, .int .i64 0, .int .i64 0, .int .i64 0, .int .i64 0, .string ⟨#[]⟩, .int .i64 0, .int .i64 0, .bool false, .int .i64 0, .string ⟨#[]⟩] 29))
  have HY := Lib.hid (show Blk ((((w.alloc (.cells #[.int .i64 0, .int .i64 0, .int .i64 0, .int .i64 0, .int .i64 0, .int .i64 0, .int .i64 0, .int .i64 0, .int .i64 0, .int .i64 0, .int .i64 0, .string ⟨#[]⟩, .int .i64 0, .int .i64 0, .bool false, .int .i64 0, .string ⟨#[]⟩, .int .i64 0, .int .i64 0, .int .i64 0, .int .i64 0, .int .i64 0, .int .i64 0, .slice none 0 0, .bool false, .int .i64 0, .int .i64 0] 46)).alloc (.cells #[.int .i64 0, .int .i64 0, .int .i64 0, .int .i64 0, .int .i64 0, .int .i64 0, .int .i64 0, .int .i64 0, .int .i64 0, .int .i64 0, .int .i64 0, .string ⟨#[]⟩, .int .i64 0, .int .i64 0, .bool false, .int .i64 0, .string ⟨#[]⟩, .int .i64 0, .int .i64 0, .int .i64 0, .int .i64 0, .int .i64 0, .int .i64 0, .slice none 0 0, .bool false, .int .i64 0, .int .i64 0] 46)).setRow (w.heap.size + 1) #[.int .i64 3, .int .i64 0, .int .i64 0, .int .i64 0, .int .i64 0, .int .i64 0, .int .i64 0, .int .i64 0, .int .i64 0, .int .i64 0, .int .i64 0, .string ⟨#[]⟩, .int .i64 0, .int .i64 0, .bool false, .int .i64 0, .string ⟨#[]⟩, .int .i64 0, .int .i64 0, .int .i64 0, .int .i64 0, .int .i64 0, .int .i64 0, .slice none 0 0, .bool false, .int .i64 0, .int .i64 0]).alloc (.cells #[.int .i64 0, .int .i64 0, .int .i64 0, .int .i64 0, .int .i64 0, .string ⟨#[]⟩, .int .i64 0, .int .i64 0, .bool false, .int .i64 0, .string ⟨#[]⟩] 29)) (w.heap.size + 1 + 1) 29 [.int .i64 0, .int .i64 0, .int .i64 0, .int .i64 0, .int .i64 0, .string ⟨#[]⟩, .int .i64 0, .int .i64 0, .bool false, .int .i64 0, .string ⟨#[]⟩] from by have q := heap_alloc_new (((w.alloc (.cells #[.int .i64 0, .int .i64 0, .int .i64 0, .int .i64 0, .int .i64 0, .int .i64 0, .int .i64 0, .int .i64 0, .int .i64 0, .int .i64 0, .int .i64 0, .string ⟨#[]⟩, .int .i64 0, .int .i64 0, .bool false, .int .i64 0, .string ⟨#[]⟩, .int .i64 0, .int .i64 0, .int .i64 0, .int .i64 0, .int .i64 0, .int .i64 0, .slice none 0 0, .bool false, .int .i64 0, .int .i64 0] 46)).alloc (.cells #[.int .i64 0, .int .i64 0, .int .i64 0, .int .i64 0, .int .i64 0, .int .i64 0, .int .i64 0, .int .i64 0, .int .i64 0, .int .i64 0, .int .i64 0, .string ⟨#[]⟩, .int .i64 0, .int .i64 0, .bool false, .int .i64 0, .string ⟨#[]⟩, .int .i64 0, .int .i64 0, .int .i64 0, .int .i64 0, .int .i64 0, .int .i64 0, .slice none 0 0, .bool false, .int .i64 0, .int .i64 0] 46)).setRow (w.heap.size + 1) #[.int .i64 3, .int .i64 0, .int .i64 0, .int .i64 0, .int .i64 0, .int .i64 0, .int .i64 0, .int .i64 0, .int .i64 0, .int .i64 0, .int .i64 0, .string ⟨#[]⟩, .int .i64 0, .int .i64 0, .bool false, .int .i64 0, .string ⟨#[]⟩, .int .i64 0, .int .i64 0, .int .i64 0, .int .i64 0, .int .i64 0, .int .i64 0, .slice none 0 0, .bool false, .int .i64 0, .int .i64 0]) (.cells #[.int .i64 0, .int .i64 0, .int .i64 0, .int .i64 0, .int .i64 0, .string ⟨#[]⟩, .int .i64 0, .int .i64 0, .bool false, .int .i64 0, .string ⟨#[]⟩] 29); rw [hsz] at q; exact q)
  have HG := Lib.hid (Blk.alloc (Blk.frm hG0 (fsetRow (g := w.heap.size + 1) #[.int .i64 3, .int .i64 0, .int .i64 0, .int .i64 0, .int .i64 0, .int .i64 0, .int .i64 0, .int .i64 0, .int .i64 0, .int .i64 0, .int .i64 0, .string ⟨#[]⟩, .int .i64 0, .int .i64 0, .bool false, .int .i64 0, .string ⟨#[]⟩, .int .i64 0, .int .i64 0, .int .i64 0, .int .i64 0, .int .i64 0, .int .i64 0, .slice none 0 0, .bool false, .int .i64 0, .int .i64 0]) (fun hh => absurd (show w.heap.size = w.heap.size + 1 from hh) (by omega))) (.cells #[.int .i64 0, .int .i64 0, .int .i64 0, .int .i64 0, .int .i64 0, .string ⟨#[]⟩, .int .i64 0, .int .i64 0, .bool false, .int .i64 0, .string ⟨#[]⟩] 29))
  have HZ := Lib.hid (h.next hF0 (((Blk.alloc (Blk.alloc h.2.2.1 (.cells #[.int .i64 0, .int .i64 0, .int .i64 0, .int .i64 0, .int .i64 0, .int .i64 0, .int .i64 0, .int .i64 0, .int .i64 0, .int .i64 0, .int .i64 0, .string ⟨#[]⟩, .int .i64 0, .int .i64 0, .bool false, .int .i64 0, .string ⟨#[]⟩, .int .i64 0, .int .i64 0, .int .i64 0, .int .i64 0, .int .i64 0, .int .i64 0, .slice none 0 0, .bool false, .int .i64 0, .int .i64 0] 46)) (.cells #[.int .i64 0, .int .i64 0, .int .i64 0, .int .i64 0, .int .i64 0, .int .i64 0, .int .i64 0, .int .i64 0, .int .i64 0, .int .i64 0, .int .i64 0, .string ⟨#[]⟩, .int .i64 0, .int .i64 0, .bool false, .int .i64 0, .string ⟨#[]⟩, .int .i64 0, .int .i64 0, .int .i64 0, .int .i64 0, .int .i64 0, .int .i64 0, .slice none 0 0, .bool false, .int .i64 0, .int .i64 0] 46)).frm (fsetRow (g := w.heap.size + 1) #[.int .i64 3, .int .i64 0, .int .i64 0, .int .i64 0, .int .i64 0, .int .i64 0, .int .i64 0, .int .i64 0, .int .i64 0, .int .i64 0, .int .i64 0, .string ⟨#[]⟩, .int .i64 0, .int .i64 0, .bool false, .int .i64 0, .string ⟨#[]⟩, .int .i64 0, .int .i64 0, .int .i64 0, .int .i64 0, .int .i64 0, .int .i64 0, .slice none 0 0, .bool false, .int .i64 0, .int .i64 0]) (fun hh => absurd (show g = w.heap.size + 1 from hh) (by omega))).alloc (.cells #[.int .i64 0, .int .i64 0, .int .i64 0, .int .i64 0, .int .i64 0, .string ⟨#[]⟩, .int .i64 0, .int .i64 0, .bool false, .int .i64 0, .string ⟨#[]⟩] 29)) h.2.2.2.1)
  have HF := Lib.hid hF0
  obtain ⟨W, hW⟩ : ∃ W, ((((w.alloc (.cells #[.int .i64 0, .int .i64 0, .int .i64 0, .int .i64 0, .int .i64 0, .int .i64 0, .int .i64 0, .int .i64 0, .int .i64 0, .int .i64 0, .int .i64 0, .string ⟨#[]⟩, .int .i64 0, .int .i64 0, .bool false, .int .i64 0, .string ⟨#[]⟩, .int .i64 0, .int .i64 0, .int .i64 0, .int .i64 0, .int .i64 0, .int .i64 0, .slice none 0 0, .bool false, .int .i64 0, .int .i64 0] 46)).alloc (.cells #[.int .i64 0, .int .i64 0, .int .i64 0, .int .i64 0, .int .i64 0, .int .i64 0, .int .i64 0, .int .i64 0, .int .i64 0, .int .i64 0, .int .i64 0, .string ⟨#[]⟩, .int .i64 0, .int .i64 0, .bool false, .int .i64 0, .string ⟨#[]⟩, .int .i64 0, .int .i64 0, .int .i64 0, .int .i64 0, .int .i64 0, .int .i64 0, .slice none 0 0, .bool false, .int .i64 0, .int .i64 0] 46)).setRow (w.heap.size + 1) #[.int .i64 3, .int .i64 0, .int .i64 0, .int .i64 0, .int .i64 0, .int .i64 0, .int .i64 0, .int .i64 0, .int .i64 0, .int .i64 0, .int .i64 0, .string ⟨#[]⟩, .int .i64 0, .int .i64 0, .bool false, .int .i64 0, .string ⟨#[]⟩, .int .i64 0, .int .i64 0, .int .i64 0, .int .i64 0, .int .i64 0, .int .i64 0, .slice none 0 0, .bool false, .int .i64 0, .int .i64 0]).alloc (.cells #[.int .i64 0, .int .i64 0, .int .i64 0, .int .i64 0, .int .i64 0, .string ⟨#[]⟩, .int .i64 0, .int .i64 0, .bool false, .int .i64 0, .string ⟨#[]⟩] 29)) = W := ⟨_, rfl⟩
  rw [hW] at HZ HF HG HX HY
  have HQ := Lib.hid hW
  have HSZ := Lib.hid hsz
  clear h hW hG0 hF0 hsz
  obtain ⟨⟨v0, s0⟩, e0⟩ : ∃ q, numS l 4 st = q := ⟨_, rfl⟩
  obtain ⟨⟨v1, s1⟩, e1⟩ : ∃ q, numS l 4 s0 = q := ⟨_, rfl⟩
  obtain ⟨⟨v2, s2⟩, e2⟩ : ∃ q, numS l 4 s1 = q := ⟨_, rfl⟩
  obtain ⟨⟨v3, s3⟩, e3⟩ : ∃ q, numS l 4 s2 = q := ⟨_, rfl⟩
  obtain ⟨⟨v4, s4⟩, e4⟩ : ∃ q, numS l 4 s3 = q := ⟨_, rfl⟩
  obtain ⟨⟨v5, s5⟩, e5⟩ : ∃ q, textS l s4 = q := ⟨_, rfl⟩
  obtain ⟨⟨v6, s6⟩, e6⟩ : ∃ q, numS l 1 s5 = q := ⟨_, rfl⟩
  obtain ⟨⟨v7, s7⟩, e7⟩ : ∃ q, numS l 1 s6 = q := ⟨_, rfl⟩
  obtain ⟨⟨v8, s8⟩, e8⟩ : ∃ q, numS l 1 s7 = q := ⟨_, rfl⟩
  obtain ⟨⟨v9, s9⟩, e9⟩ : ∃ q, numS l 1 s8 = q := ⟨_, rfl⟩
  obtain ⟨⟨v10, s10⟩, e10⟩ : ∃ q, textS l s9 = q := ⟨_, rfl⟩
  clear hbl
  have HT5 := Lib.hid (show v5.size ≤ 2000 from by have q := textS_size l s4; rw [e5] at q; exact Nat.le_trans q hl2)
  have HT10 := Lib.hid (show v10.size ≤ 2000 from by have q := textS_size l s9; rw [e10] at q; exact Nat.le_trans q hl2)
  have HR := Lib.hid (show qaskR l st = (.ask v0 v1 v2 v3 v4 v5 v6 v7 (v8 == 1) v9 v10, s10) from by unfold qaskR; simp only [e0, e1, e2, e3, e4, e5, e6, e7, e8, e9, e10])
  rw [HR.out]
  clear HR hl2
  have E0 := Lib.hid e0
  clear e0
  have E1 := Lib.hid e1
  clear e1
  have E2 := Lib.hid e2
  clear e2
  have E3 := Lib.hid e3
  clear e3
  have E4 := Lib.hid e4
  clear e4
  have E5 := Lib.hid e5
  clear e5
  have E6 := Lib.hid e6
  clear e6
  have E7 := Lib.hid e7
  clear e7
  have E8 := Lib.hid e8
  clear e8
  have E9 := Lib.hid e9
  clear e9
  have E10 := Lib.hid e10
  clear e10
  go_enter Try.func58, Try.ntmps58
  have HC := Lib.hid (qnum_any g a c l 4 st W HZ.out (by decide) (by decide))
  rw [E0.out] at HC
  simp only at HC
  go_wp2_with (refine wpList_store_row rfl 46 _ _ rfl (w.heap.size + 1) #[.int .i64 3, .int .i64 0, .int .i64 0, .int .i64 0, .int .i64 0, .int .i64 0, .int .i64 0, .int .i64 0, .int .i64 0, .int .i64 0, .int .i64 0, .string ⟨#[]⟩, .int .i64 0, .int .i64 0, .bool false, .int .i64 0, .string ⟨#[]⟩, .int .i64 0, .int .i64 0, .int .i64 0, .int .i64 0, .int .i64 0, .int .i64 0, .slice none 0 0, .bool false, .int .i64 0, .int .i64 0] rfl rfl _ #[.int .i64 0, .int .i64 0, .int .i64 0, .int .i64 0, .int .i64 0, .int .i64 0, .int .i64 0, .int .i64 0, .int .i64 0, .int .i64 0, .int .i64 0, .string ⟨#[]⟩, .int .i64 0, .int .i64 0, .bool false, .int .i64 0, .string ⟨#[]⟩, .int .i64 0, .int .i64 0, .int .i64 0, .int .i64 0, .int .i64 0, .int .i64 0, .slice none 0 0, .bool false, .int .i64 0, .int .i64 0] HX0.out isz_msg rfl (by simp [Value.oneCell']) ?_)
  (try rw [HSZ.out])
  rw [HQ.out]
  clear HX0 HSZ
  refine HC.out.mono ?_
  clear HC
  rintro e V0 ⟨rfl, hz, hf⟩
  clear HQ
  have HZb0 := Lib.hid hz
  have HFb0 := Lib.hid (HF.out.trans hf (fun i h _ => h))
  have HXb0 := Lib.hid (Blk.frm HX.out hf (fun hh => absurd (show w.heap.size + 1 = g from hh) (by omega)))
  have HYb0 := Lib.hid (Blk.frm HY.out hf (fun hh => absurd (show w.heap.size + 1 + 1 = g from hh) (by omega)))
  have HGb0 := Lib.hid (Blk.frm HG.out hf (fun hh => absurd (show w.heap.size = g from hh) (by omega)))
  clear hz hf HZ HF HX HY HG
  have y0 : V0.cell? ⟨w.heap.size + 1 + 1, 0, none⟩ = some (.int .i64 0) := HYb0.out.cell 0
  have fz : ∀ o, V0.frozen? ⟨w.heap.size + 1 + 1, o, none⟩ = false := fun o => fz_of (o := o) HYb0.out
  have hFc0 := Frm.setCell HFb0.out ⟨w.heap.size + 1 + 1, 0, none⟩ (.int .i64 v0) (.inr (by show w.heap.size ≤ w.heap.size + 1 + 1; omega))
  have HXc0 := Lib.hid (Blk.far HXb0.out ⟨w.heap.size + 1 + 1, 0, none⟩ (.int .i64 v0) (by show w.heap.size + 1 ≠ w.heap.size + 1 + 1; omega))
  have HYc0 := Lib.hid (show Blk (V0.setCell ⟨w.heap.size + 1 + 1, 0, none⟩ (.int .i64 v0)) (w.heap.size + 1 + 1) 29 [.int .i64 v0, .int .i64 0, .int .i64 0, .int .i64 0, .int .i64 0, .string ⟨#[]⟩, .int .i64 0, .int .i64 0, .bool false, .int .i64 0, .string ⟨#[]⟩] from Blk.set HYb0.out 0 (.int .i64 v0))
  have HGc0 := Lib.hid (Blk.far HGb0.out ⟨w.heap.size + 1 + 1, 0, none⟩ (.int .i64 v0) (by show w.heap.size ≠ w.heap.size + 1 + 1; omega))
  have HZc0 := Lib.hid (HW.out.next hFc0 (Blk.far HZb0.out.2.2.1 ⟨w.heap.size + 1 + 1, 0, none⟩ (.int .i64 v0) (by show g ≠ w.heap.size + 1 + 1; omega)) HZb0.out.2.2.2.1)
  have HFc0 := Lib.hid hFc0
  clear hFc0 HZb0 HFb0 HXb0 HYb0 HGb0
  go_wp2_with fail
  clear y0 fz
  obtain ⟨U0, hU⟩ : ∃ U, (V0.setCell ⟨w.heap.size + 1 + 1, 0, none⟩ (.int .i64 v0)) = U := ⟨_, rfl⟩
  rw [hU] at HXc0 HYc0 HGc0 HZc0 HFc0 ⊢
  clear hU
  have HC := Lib.hid (qnum_any g a c l 4 s0 U0 HZc0.out (by decide) (by decide))
  rw [E1.out] at HC
  simp only at HC
  refine HC.out.mono ?_
  clear HC
  rintro e V1 ⟨rfl, hz, hf⟩
  have HZb1 := Lib.hid hz
  have HFb1 := Lib.hid (HFc0.out.trans hf (fun i h _ => h))
  have HXb1 := Lib.hid (Blk.frm HXc0.out hf (fun hh => absurd (show w.heap.size + 1 = g from hh) (by omega)))
  have HYb1 := Lib.hid (Blk.frm HYc0.out hf (fun hh => absurd (show w.heap.size + 1 + 1 = g from hh) (by omega)))
  have HGb1 := Lib.hid (Blk.frm HGc0.out hf (fun hh => absurd (show w.heap.size = g from hh) (by omega)))
  clear hz hf HZc0 HFc0 HXc0 HYc0 HGc0
  have y1 : V1.cell? ⟨w.heap.size + 1 + 1, 1, none⟩ = some (.int .i64 0) := HYb1.out.cell 1
  have fz : ∀ o, V1.frozen? ⟨w.heap.size + 1 + 1, o, none⟩ = false := fun o => fz_of (o := o) HYb1.out
  have hFc1 := Frm.setCell HFb1.out ⟨w.heap.size + 1 + 1, 1, none⟩ (.int .i64 v1) (.inr (by show w.heap.size ≤ w.heap.size + 1 + 1; omega))
  have HXc1 := Lib.hid (Blk.far HXb1.out ⟨w.heap.size + 1 + 1, 1, none⟩ (.int .i64 v1) (by show w.heap.size + 1 ≠ w.heap.size + 1 + 1; omega))
  have HYc1 := Lib.hid (show Blk (V1.setCell ⟨w.heap.size + 1 + 1, 1, none⟩ (.int .i64 v1)) (w.heap.size + 1 + 1) 29 [.int .i64 v0, .int .i64 v1, .int .i64 0, .int .i64 0, .int .i64 0, .string ⟨#[]⟩, .int .i64 0, .int .i64 0, .bool false, .int .i64 0, .string ⟨#[]⟩] from Blk.set HYb1.out 1 (.int .i64 v1))
  have HGc1 := Lib.hid (Blk.far HGb1.out ⟨w.heap.size + 1 + 1, 1, none⟩ (.int .i64 v1) (by show w.heap.size ≠ w.heap.size + 1 + 1; omega))
  have HZc1 := Lib.hid (HW.out.next hFc1 (Blk.far HZb1.out.2.2.1 ⟨w.heap.size + 1 + 1, 1, none⟩ (.int .i64 v1) (by show g ≠ w.heap.size + 1 + 1; omega)) HZb1.out.2.2.2.1)
  have HFc1 := Lib.hid hFc1
  clear hFc1 HZb1 HFb1 HXb1 HYb1 HGb1
  go_wp2_with fail
  clear y1 fz
  obtain ⟨U1, hU⟩ : ∃ U, (V1.setCell ⟨w.heap.size + 1 + 1, 1, none⟩ (.int .i64 v1)) = U := ⟨_, rfl⟩
  rw [hU] at HXc1 HYc1 HGc1 HZc1 HFc1 ⊢
  clear hU
  have HC := Lib.hid (qnum_any g a c l 4 s1 U1 HZc1.out (by decide) (by decide))
  rw [E2.out] at HC
  simp only at HC
  refine HC.out.mono ?_
  clear HC
  rintro e V2 ⟨rfl, hz, hf⟩
  have HZb2 := Lib.hid hz
  have HFb2 := Lib.hid (HFc1.out.trans hf (fun i h _ => h))
  have HXb2 := Lib.hid (Blk.frm HXc1.out hf (fun hh => absurd (show w.heap.size + 1 = g from hh) (by omega)))
  have HYb2 := Lib.hid (Blk.frm HYc1.out hf (fun hh => absurd (show w.heap.size + 1 + 1 = g from hh) (by omega)))
  have HGb2 := Lib.hid (Blk.frm HGc1.out hf (fun hh => absurd (show w.heap.size = g from hh) (by omega)))
  clear hz hf HZc1 HFc1 HXc1 HYc1 HGc1
  have y2 : V2.cell? ⟨w.heap.size + 1 + 1, 2, none⟩ = some (.int .i64 0) := HYb2.out.cell 2
  have fz : ∀ o, V2.frozen? ⟨w.heap.size + 1 + 1, o, none⟩ = false := fun o => fz_of (o := o) HYb2.out
  have hFc2 := Frm.setCell HFb2.out ⟨w.heap.size + 1 + 1, 2, none⟩ (.int .i64 v2) (.inr (by show w.heap.size ≤ w.heap.size + 1 + 1; omega))
  have HXc2 := Lib.hid (Blk.far HXb2.out ⟨w.heap.size + 1 + 1, 2, none⟩ (.int .i64 v2) (by show w.heap.size + 1 ≠ w.heap.size + 1 + 1; omega))
  have HYc2 := Lib.hid (show Blk (V2.setCell ⟨w.heap.size + 1 + 1, 2, none⟩ (.int .i64 v2)) (w.heap.size + 1 + 1) 29 [.int .i64 v0, .int .i64 v1, .int .i64 v2, .int .i64 0, .int .i64 0, .string ⟨#[]⟩, .int .i64 0, .int .i64 0, .bool false, .int .i64 0, .string ⟨#[]⟩] from Blk.set HYb2.out 2 (.int .i64 v2))
  have HGc2 := Lib.hid (Blk.far HGb2.out ⟨w.heap.size + 1 + 1, 2, none⟩ (.int .i64 v2) (by show w.heap.size ≠ w.heap.size + 1 + 1; omega))
  have HZc2 := Lib.hid (HW.out.next hFc2 (Blk.far HZb2.out.2.2.1 ⟨w.heap.size + 1 + 1, 2, none⟩ (.int .i64 v2) (by show g ≠ w.heap.size + 1 + 1; omega)) HZb2.out.2.2.2.1)
  have HFc2 := Lib.hid hFc2
  clear hFc2 HZb2 HFb2 HXb2 HYb2 HGb2
  go_wp2_with fail
  clear y2 fz
  obtain ⟨U2, hU⟩ : ∃ U, (V2.setCell ⟨w.heap.size + 1 + 1, 2, none⟩ (.int .i64 v2)) = U := ⟨_, rfl⟩
  rw [hU] at HXc2 HYc2 HGc2 HZc2 HFc2 ⊢
  clear hU
  have HC := Lib.hid (qnum_any g a c l 4 s2 U2 HZc2.out (by decide) (by decide))
  rw [E3.out] at HC
  simp only at HC
  refine HC.out.mono ?_
  clear HC
  rintro e V3 ⟨rfl, hz, hf⟩
  have HZb3 := Lib.hid hz
  have HFb3 := Lib.hid (HFc2.out.trans hf (fun i h _ => h))
  have HXb3 := Lib.hid (Blk.frm HXc2.out hf (fun hh => absurd (show w.heap.size + 1 = g from hh) (by omega)))
  have HYb3 := Lib.hid (Blk.frm HYc2.out hf (fun hh => absurd (show w.heap.size + 1 + 1 = g from hh) (by omega)))
  have HGb3 := Lib.hid (Blk.frm HGc2.out hf (fun hh => absurd (show w.heap.size = g from hh) (by omega)))
  clear hz hf HZc2 HFc2 HXc2 HYc2 HGc2
  have y3 : V3.cell? ⟨w.heap.size + 1 + 1, 3, none⟩ = some (.int .i64 0) := HYb3.out.cell 3
  have fz : ∀ o, V3.frozen? ⟨w.heap.size + 1 + 1, o, none⟩ = false := fun o => fz_of (o := o) HYb3.out
  have hFc3 := Frm.setCell HFb3.out ⟨w.heap.size + 1 + 1, 3, none⟩ (.int .i64 v3) (.inr (by show w.heap.size ≤ w.heap.size + 1 + 1; omega))
  have HXc3 := Lib.hid (Blk.far HXb3.out ⟨w.heap.size + 1 + 1, 3, none⟩ (.int .i64 v3) (by show w.heap.size + 1 ≠ w.heap.size + 1 + 1; omega))
  have HYc3 := Lib.hid (show Blk (V3.setCell ⟨w.heap.size + 1 + 1, 3, none⟩ (.int .i64 v3)) (w.heap.size + 1 + 1) 29 [.int .i64 v0, .int .i64 v1, .int .i64 v2, .int .i64 v3, .int .i64 0, .string ⟨#[]⟩, .int .i64 0, .int .i64 0, .bool false, .int .i64 0, .string ⟨#[]⟩] from Blk.set HYb3.out 3 (.int .i64 v3))
  have HGc3 := Lib.hid (Blk.far HGb3.out ⟨w.heap.size + 1 + 1, 3, none⟩ (.int .i64 v3) (by show w.heap.size ≠ w.heap.size + 1 + 1; omega))
  have HZc3 := Lib.hid (HW.out.next hFc3 (Blk.far HZb3.out.2.2.1 ⟨w.heap.size + 1 + 1, 3, none⟩ (.int .i64 v3) (by show g ≠ w.heap.size + 1 + 1; omega)) HZb3.out.2.2.2.1)
  have HFc3 := Lib.hid hFc3
  clear hFc3 HZb3 HFb3 HXb3 HYb3 HGb3
  go_wp2_with fail
  clear y3 fz
  obtain ⟨U3, hU⟩ : ∃ U, (V3.setCell ⟨w.heap.size + 1 + 1, 3, none⟩ (.int .i64 v3)) = U := ⟨_, rfl⟩
  rw [hU] at HXc3 HYc3 HGc3 HZc3 HFc3 ⊢
  clear hU
  have HC := Lib.hid (qnum_any g a c l 4 s3 U3 HZc3.out (by decide) (by decide))
  rw [E4.out] at HC
  simp only at HC
  refine HC.out.mono ?_
  clear HC
  rintro e V4 ⟨rfl, hz, hf⟩
  have HZb4 := Lib.hid hz
  have HFb4 := Lib.hid (HFc3.out.trans hf (fun i h _ => h))
  have HXb4 := Lib.hid (Blk.frm HXc3.out hf (fun hh => absurd (show w.heap.size + 1 = g from hh) (by omega)))
  have HYb4 := Lib.hid (Blk.frm HYc3.out hf (fun hh => absurd (show w.heap.size + 1 + 1 = g from hh) (by omega)))
  have HGb4 := Lib.hid (Blk.frm HGc3.out hf (fun hh => absurd (show w.heap.size = g from hh) (by omega)))
  clear hz hf HZc3 HFc3 HXc3 HYc3 HGc3
  have y4 : V4.cell? ⟨w.heap.size + 1 + 1, 4, none⟩ = some (.int .i64 0) := HYb4.out.cell 4
  have fz : ∀ o, V4.frozen? ⟨w.heap.size + 1 + 1, o, none⟩ = false := fun o => fz_of (o := o) HYb4.out
  have hFc4 := Frm.setCell HFb4.out ⟨w.heap.size + 1 + 1, 4, none⟩ (.int .i64 v4) (.inr (by show w.heap.size ≤ w.heap.size + 1 + 1; omega))
  have HXc4 := Lib.hid (Blk.far HXb4.out ⟨w.heap.size + 1 + 1, 4, none⟩ (.int .i64 v4) (by show w.heap.size + 1 ≠ w.heap.size + 1 + 1; omega))
  have HYc4 := Lib.hid (show Blk (V4.setCell ⟨w.heap.size + 1 + 1, 4, none⟩ (.int .i64 v4)) (w.heap.size + 1 + 1) 29 [.int .i64 v0, .int .i64 v1, .int .i64 v2, .int .i64 v3, .int .i64 v4, .string ⟨#[]⟩, .int .i64 0, .int .i64 0, .bool false, .int .i64 0, .string ⟨#[]⟩] from Blk.set HYb4.out 4 (.int .i64 v4))
  have HGc4 := Lib.hid (Blk.far HGb4.out ⟨w.heap.size + 1 + 1, 4, none⟩ (.int .i64 v4) (by show w.heap.size ≠ w.heap.size + 1 + 1; omega))
  have HZc4 := Lib.hid (HW.out.next hFc4 (Blk.far HZb4.out.2.2.1 ⟨w.heap.size + 1 + 1, 4, none⟩ (.int .i64 v4) (by show g ≠ w.heap.size + 1 + 1; omega)) HZb4.out.2.2.2.1)
  have HFc4 := Lib.hid hFc4
  clear hFc4 HZb4 HFb4 HXb4 HYb4 HGb4
  go_wp2_with fail
  clear y4 fz
  obtain ⟨U4, hU⟩ : ∃ U, (V4.setCell ⟨w.heap.size + 1 + 1, 4, none⟩ (.int .i64 v4)) = U := ⟨_, rfl⟩
  rw [hU] at HXc4 HYc4 HGc4 HZc4 HFc4 ⊢
  clear hU
  have HC := Lib.hid (qtext_any g a c l s4 U4 HZc4.out)
  rw [E5.out] at HC
  simp only at HC
  refine HC.out.mono ?_
  clear HC
  rintro e V5 ⟨rfl, hz, hf⟩
  have HZb5 := Lib.hid hz
  have HFb5 := Lib.hid (HFc4.out.trans hf (fun i h _ => h))
  have HXb5 := Lib.hid (Blk.frm HXc4.out hf (fun hh => absurd (show w.heap.size + 1 = g from hh) (by omega)))
  have HYb5 := Lib.hid (Blk.frm HYc4.out hf (fun hh => absurd (show w.heap.size + 1 + 1 = g from hh) (by omega)))
  have HGb5 := Lib.hid (Blk.frm HGc4.out hf (fun hh => absurd (show w.heap.size = g from hh) (by omega)))
  clear hz hf HZc4 HFc4 HXc4 HYc4 HGc4
  have y5 : V5.cell? ⟨w.heap.size + 1 + 1, 5, none⟩ = some (.string ⟨#[]⟩) := HYb5.out.cell 5
  have fz : ∀ o, V5.frozen? ⟨w.heap.size + 1 + 1, o, none⟩ = false := fun o => fz_of (o := o) HYb5.out
  have hFc5 := Frm.setCell HFb5.out ⟨w.heap.size + 1 + 1, 5, none⟩ (.string v5) (.inr (by show w.heap.size ≤ w.heap.size + 1 + 1; omega))
  have HXc5 := Lib.hid (Blk.far HXb5.out ⟨w.heap.size + 1 + 1, 5, none⟩ (.string v5) (by show w.heap.size + 1 ≠ w.heap.size + 1 + 1; omega))
  have HYc5 := Lib.hid (show Blk (V5.setCell ⟨w.heap.size + 1 + 1, 5, none⟩ (.string v5)) (w.heap.size + 1 + 1) 29 [.int .i64 v0, .int .i64 v1, .int .i64 v2, .int .i64 v3, .int .i64 v4, .string v5, .int .i64 0, .int .i64 0, .bool false, .int .i64 0, .string ⟨#[]⟩] from Blk.set HYb5.out 5 (.string v5))
  have HGc5 := Lib.hid (Blk.far HGb5.out ⟨w.heap.size + 1 + 1, 5, none⟩ (.string v5) (by show w.heap.size ≠ w.heap.size + 1 + 1; omega))
  have HZc5 := Lib.hid (HW.out.next hFc5 (Blk.far HZb5.out.2.2.1 ⟨w.heap.size + 1 + 1, 5, none⟩ (.string v5) (by show g ≠ w.heap.size + 1 + 1; omega)) HZb5.out.2.2.2.1)
  have HFc5 := Lib.hid hFc5
  clear hFc5 HZb5 HFb5 HXb5 HYb5 HGb5
  go_wp2_with fail
  clear y5 fz
  obtain ⟨U5, hU⟩ : ∃ U, (V5.setCell ⟨w.heap.size + 1 + 1, 5, none⟩ (.string v5)) = U := ⟨_, rfl⟩
  rw [hU] at HXc5 HYc5 HGc5 HZc5 HFc5 ⊢
  clear hU
  have HC := Lib.hid (qnum_any g a c l 1 s5 U5 HZc5.out (by decide) (by decide))
  rw [E6.out] at HC
  simp only at HC
  refine HC.out.mono ?_
  clear HC
  rintro e V6 ⟨rfl, hz, hf⟩
  have HZb6 := Lib.hid hz
  have HFb6 := Lib.hid (HFc5.out.trans hf (fun i h _ => h))
  have HXb6 := Lib.hid (Blk.frm HXc5.out hf (fun hh => absurd (show w.heap.size + 1 = g from hh) (by omega)))
  have HYb6 := Lib.hid (Blk.frm HYc5.out hf (fun hh => absurd (show w.heap.size + 1 + 1 = g from hh) (by omega)))
  have HGb6 := Lib.hid (Blk.frm HGc5.out hf (fun hh => absurd (show w.heap.size = g from hh) (by omega)))
  clear hz hf HZc5 HFc5 HXc5 HYc5 HGc5
  have y6 : V6.cell? ⟨w.heap.size + 1 + 1, 6, none⟩ = some (.int .i64 0) := HYb6.out.cell 6
  have fz : ∀ o, V6.frozen? ⟨w.heap.size + 1 + 1, o, none⟩ = false := fun o => fz_of (o := o) HYb6.out
  have hFc6 := Frm.setCell HFb6.out ⟨w.heap.size + 1 + 1, 6, none⟩ (.int .i64 v6) (.inr (by show w.heap.size ≤ w.heap.size + 1 + 1; omega))
  have HXc6 := Lib.hid (Blk.far HXb6.out ⟨w.heap.size + 1 + 1, 6, none⟩ (.int .i64 v6) (by show w.heap.size + 1 ≠ w.heap.size + 1 + 1; omega))
  have HYc6 := Lib.hid (show Blk (V6.setCell ⟨w.heap.size + 1 + 1, 6, none⟩ (.int .i64 v6)) (w.heap.size + 1 + 1) 29 [.int .i64 v0, .int .i64 v1, .int .i64 v2, .int .i64 v3, .int .i64 v4, .string v5, .int .i64 v6, .int .i64 0, .bool false, .int .i64 0, .string ⟨#[]⟩] from Blk.set HYb6.out 6 (.int .i64 v6))
  have HGc6 := Lib.hid (Blk.far HGb6.out ⟨w.heap.size + 1 + 1, 6, none⟩ (.int .i64 v6) (by show w.heap.size ≠ w.heap.size + 1 + 1; omega))
  have HZc6 := Lib.hid (HW.out.next hFc6 (Blk.far HZb6.out.2.2.1 ⟨w.heap.size + 1 + 1, 6, none⟩ (.int .i64 v6) (by show g ≠ w.heap.size + 1 + 1; omega)) HZb6.out.2.2.2.1)
  have HFc6 := Lib.hid hFc6
  clear hFc6 HZb6 HFb6 HXb6 HYb6 HGb6
  go_wp2_with fail
  clear y6 fz
  obtain ⟨U6, hU⟩ : ∃ U, (V6.setCell ⟨w.heap.size + 1 + 1, 6, none⟩ (.int .i64 v6)) = U := ⟨_, rfl⟩
  rw [hU] at HXc6 HYc6 HGc6 HZc6 HFc6 ⊢
  clear hU
  have HC := Lib.hid (qnum_any g a c l 1 s6 U6 HZc6.out (by decide) (by decide))
  rw [E7.out] at HC
  simp only at HC
  refine HC.out.mono ?_
  clear HC
  rintro e V7 ⟨rfl, hz, hf⟩
  have HZb7 := Lib.hid hz
  have HFb7 := Lib.hid (HFc6.out.trans hf (fun i h _ => h))
  have HXb7 := Lib.hid (Blk.frm HXc6.out hf (fun hh => absurd (show w.heap.size + 1 = g from hh) (by omega)))
  have HYb7 := Lib.hid (Blk.frm HYc6.out hf (fun hh => absurd (show w.heap.size + 1 + 1 = g from hh) (by omega)))
  have HGb7 := Lib.hid (Blk.frm HGc6.out hf (fun hh => absurd (show w.heap.size = g from hh) (by omega)))
  clear hz hf HZc6 HFc6 HXc6 HYc6 HGc6
  have y7 : V7.cell? ⟨w.heap.size + 1 + 1, 7, none⟩ = some (.int .i64 0) := HYb7.out.cell 7
  have fz : ∀ o, V7.frozen? ⟨w.heap.size + 1 + 1, o, none⟩ = false := fun o => fz_of (o := o) HYb7.out
  have hFc7 := Frm.setCell HFb7.out ⟨w.heap.size + 1 + 1, 7, none⟩ (.int .i64 v7) (.inr (by show w.heap.size ≤ w.heap.size + 1 + 1; omega))
  have HXc7 := Lib.hid (Blk.far HXb7.out ⟨w.heap.size + 1 + 1, 7, none⟩ (.int .i64 v7) (by show w.heap.size + 1 ≠ w.heap.size + 1 + 1; omega))
  have HYc7 := Lib.hid (show Blk (V7.setCell ⟨w.heap.size + 1 + 1, 7, none⟩ (.int .i64 v7)) (w.heap.size + 1 + 1) 29 [.int .i64 v0, .int .i64 v1, .int .i64 v2, .int .i64 v3, .int .i64 v4, .string v5, .int .i64 v6, .int .i64 v7, .bool false, .int .i64 0, .string ⟨#[]⟩] from Blk.set HYb7.out 7 (.int .i64 v7))
  have HGc7 := Lib.hid (Blk.far HGb7.out ⟨w.heap.size + 1 + 1, 7, none⟩ (.int .i64 v7) (by show w.heap.size ≠ w.heap.size + 1 + 1; omega))
  have HZc7 := Lib.hid (HW.out.next hFc7 (Blk.far HZb7.out.2.2.1 ⟨w.heap.size + 1 + 1, 7, none⟩ (.int .i64 v7) (by show g ≠ w.heap.size + 1 + 1; omega)) HZb7.out.2.2.2.1)
  have HFc7 := Lib.hid hFc7
  clear hFc7 HZb7 HFb7 HXb7 HYb7 HGb7
  go_wp2_with fail
  clear y7 fz
  obtain ⟨U7, hU⟩ : ∃ U, (V7.setCell ⟨w.heap.size + 1 + 1, 7, none⟩ (.int .i64 v7)) = U := ⟨_, rfl⟩
  rw [hU] at HXc7 HYc7 HGc7 HZc7 HFc7 ⊢
  clear hU
  have HC := Lib.hid (qnum_any g a c l 1 s7 U7 HZc7.out (by decide) (by decide))
  rw [E8.out] at HC
  simp only at HC
  refine HC.out.mono ?_
  clear HC
  rintro e V8 ⟨rfl, hz, hf⟩
  have HZb8 := Lib.hid hz
  have HFb8 := Lib.hid (HFc7.out.trans hf (fun i h _ => h))
  have HXb8 := Lib.hid (Blk.frm HXc7.out hf (fun hh => absurd (show w.heap.size + 1 = g from hh) (by omega)))
  have HYb8 := Lib.hid (Blk.frm HYc7.out hf (fun hh => absurd (show w.heap.size + 1 + 1 = g from hh) (by omega)))
  have HGb8 := Lib.hid (Blk.frm HGc7.out hf (fun hh => absurd (show w.heap.size = g from hh) (by omega)))
  clear hz hf HZc7 HFc7 HXc7 HYc7 HGc7
  have y8 : V8.cell? ⟨w.heap.size + 1 + 1, 8, none⟩ = some (.bool false) := HYb8.out.cell 8
  have fz : ∀ o, V8.frozen? ⟨w.heap.size + 1 + 1, o, none⟩ = false := fun o => fz_of (o := o) HYb8.out
  have hFc8 := Frm.setCell HFb8.out ⟨w.heap.size + 1 + 1, 8, none⟩ (.bool (v8 == 1)) (.inr (by show w.heap.size ≤ w.heap.size + 1 + 1; omega))
  have HXc8 := Lib.hid (Blk.far HXb8.out ⟨w.heap.size + 1 + 1, 8, none⟩ (.bool (v8 == 1)) (by show w.heap.size + 1 ≠ w.heap.size + 1 + 1; omega))
  have HYc8 := Lib.hid (show Blk (V8.setCell ⟨w.heap.size + 1 + 1, 8, none⟩ (.bool (v8 == 1))) (w.heap.size + 1 + 1) 29 [.int .i64 v0, .int .i64 v1, .int .i64 v2, .int .i64 v3, .int .i64 v4, .string v5, .int .i64 v6, .int .i64 v7, .bool (v8 == 1), .int .i64 0, .string ⟨#[]⟩] from Blk.set HYb8.out 8 (.bool (v8 == 1)))
  have HGc8 := Lib.hid (Blk.far HGb8.out ⟨w.heap.size + 1 + 1, 8, none⟩ (.bool (v8 == 1)) (by show w.heap.size ≠ w.heap.size + 1 + 1; omega))
  have HZc8 := Lib.hid (HW.out.next hFc8 (Blk.far HZb8.out.2.2.1 ⟨w.heap.size + 1 + 1, 8, none⟩ (.bool (v8 == 1)) (by show g ≠ w.heap.size + 1 + 1; omega)) HZb8.out.2.2.2.1)
  have HFc8 := Lib.hid hFc8
  clear hFc8 HZb8 HFb8 HXb8 HYb8 HGb8
  go_wp2_with fail
  clear y8 fz
  obtain ⟨U8, hU⟩ : ∃ U, (V8.setCell ⟨w.heap.size + 1 + 1, 8, none⟩ (.bool (v8 == 1))) = U := ⟨_, rfl⟩
  rw [hU] at HXc8 HYc8 HGc8 HZc8 HFc8 ⊢
  clear hU
  have HC := Lib.hid (qnum_any g a c l 1 s8 U8 HZc8.out (by decide) (by decide))
  rw [E9.out] at HC
  simp only at HC
  refine HC.out.mono ?_
  clear HC
  rintro e V9 ⟨rfl, hz, hf⟩
  have HZb9 := Lib.hid hz
  have HFb9 := Lib.hid (HFc8.out.trans hf (fun i h _ => h))
  have HXb9 := Lib.hid (Blk.frm HXc8.out hf (fun hh => absurd (show w.heap.size + 1 = g from hh) (by omega)))
  have HYb9 := Lib.hid (Blk.frm HYc8.out hf (fun hh => absurd (show w.heap.size + 1 + 1 = g from hh) (by omega)))
  have HGb9 := Lib.hid (Blk.frm HGc8.out hf (fun hh => absurd (show w.heap.size = g from hh) (by omega)))
  clear hz hf HZc8 HFc8 HXc8 HYc8 HGc8
  have y9 : V9.cell? ⟨w.heap.size + 1 + 1, 9, none⟩ = some (.int .i64 0) := HYb9.out.cell 9
  have fz : ∀ o, V9.frozen? ⟨w.heap.size + 1 + 1, o, none⟩ = false := fun o => fz_of (o := o) HYb9.out
  have hFc9 := Frm.setCell HFb9.out ⟨w.heap.size + 1 + 1, 9, none⟩ (.int .i64 v9) (.inr (by show w.heap.size ≤ w.heap.size + 1 + 1; omega))
  have HXc9 := Lib.hid (Blk.far HXb9.out ⟨w.heap.size + 1 + 1, 9, none⟩ (.int .i64 v9) (by show w.heap.size + 1 ≠ w.heap.size + 1 + 1; omega))
  have HYc9 := Lib.hid (show Blk (V9.setCell ⟨w.heap.size + 1 + 1, 9, none⟩ (.int .i64 v9)) (w.heap.size + 1 + 1) 29 [.int .i64 v0, .int .i64 v1, .int .i64 v2, .int .i64 v3, .int .i64 v4, .string v5, .int .i64 v6, .int .i64 v7, .bool (v8 == 1), .int .i64 v9, .string ⟨#[]⟩] from Blk.set HYb9.out 9 (.int .i64 v9))
  have HGc9 := Lib.hid (Blk.far HGb9.out ⟨w.heap.size + 1 + 1, 9, none⟩ (.int .i64 v9) (by show w.heap.size ≠ w.heap.size + 1 + 1; omega))
  have HZc9 := Lib.hid (HW.out.next hFc9 (Blk.far HZb9.out.2.2.1 ⟨w.heap.size + 1 + 1, 9, none⟩ (.int .i64 v9) (by show g ≠ w.heap.size + 1 + 1; omega)) HZb9.out.2.2.2.1)
  have HFc9 := Lib.hid hFc9
  clear hFc9 HZb9 HFb9 HXb9 HYb9 HGb9
  go_wp2_with fail
  clear y9 fz
  obtain ⟨U9, hU⟩ : ∃ U, (V9.setCell ⟨w.heap.size + 1 + 1, 9, none⟩ (.int .i64 v9)) = U := ⟨_, rfl⟩
  rw [hU] at HXc9 HYc9 HGc9 HZc9 HFc9 ⊢
  clear hU
  have HC := Lib.hid (qtext_any g a c l s9 U9 HZc9.out)
  rw [E10.out] at HC
  simp only at HC
  refine HC.out.mono ?_
  clear HC
  rintro e V10 ⟨rfl, hz, hf⟩
  have HZb10 := Lib.hid hz
  have HFb10 := Lib.hid (HFc9.out.trans hf (fun i h _ => h))
  have HXb10 := Lib.hid (Blk.frm HXc9.out hf (fun hh => absurd (show w.heap.size + 1 = g from hh) (by omega)))
  have HYb10 := Lib.hid (Blk.frm HYc9.out hf (fun hh => absurd (show w.heap.size + 1 + 1 = g from hh) (by omega)))
  have HGb10 := Lib.hid (Blk.frm HGc9.out hf (fun hh => absurd (show w.heap.size = g from hh) (by omega)))
  clear hz hf HZc9 HFc9 HXc9 HYc9 HGc9
  have y10 : V10.cell? ⟨w.heap.size + 1 + 1, 10, none⟩ = some (.string ⟨#[]⟩) := HYb10.out.cell 10
  have fz : ∀ o, V10.frozen? ⟨w.heap.size + 1 + 1, o, none⟩ = false := fun o => fz_of (o := o) HYb10.out
  have hFc10 := Frm.setCell HFb10.out ⟨w.heap.size + 1 + 1, 10, none⟩ (.string v10) (.inr (by show w.heap.size ≤ w.heap.size + 1 + 1; omega))
  have HXc10 := Lib.hid (Blk.far HXb10.out ⟨w.heap.size + 1 + 1, 10, none⟩ (.string v10) (by show w.heap.size + 1 ≠ w.heap.size + 1 + 1; omega))
  have HYc10 := Lib.hid (show Blk (V10.setCell ⟨w.heap.size + 1 + 1, 10, none⟩ (.string v10)) (w.heap.size + 1 + 1) 29 [.int .i64 v0, .int .i64 v1, .int .i64 v2, .int .i64 v3, .int .i64 v4, .string v5, .int .i64 v6, .int .i64 v7, .bool (v8 == 1), .int .i64 v9, .string v10] from Blk.set HYb10.out 10 (.string v10))
  have HGc10 := Lib.hid (Blk.far HGb10.out ⟨w.heap.size + 1 + 1, 10, none⟩ (.string v10) (by show w.heap.size ≠ w.heap.size + 1 + 1; omega))
  have HZc10 := Lib.hid (HW.out.next hFc10 (Blk.far HZb10.out.2.2.1 ⟨w.heap.size + 1 + 1, 10, none⟩ (.string v10) (by show g ≠ w.heap.size + 1 + 1; omega)) HZb10.out.2.2.2.1)
  have HFc10 := Lib.hid hFc10
  clear hFc10 HZb10 HFb10 HXb10 HYb10 HGb10
  have hX5 : Blk ((V10.setCell ⟨w.heap.size + 1 + 1, 10, none⟩ (.string v10)).setCells (w.heap.size + 1) 6 [.int .i64 v0, .int .i64 v1, .int .i64 v2, .int .i64 v3, .int .i64 v4, .string v5, .int .i64 v6, .int .i64 v7, .bool (v8 == 1), .int .i64 v9, .string v10]) (w.heap.size + 1) 46 [.int .i64 3, .int .i64 0, .int .i64 0, .int .i64 0, .int .i64 0, .int .i64 0, .int .i64 v0, .int .i64 v1, .int .i64 v2, .int .i64 v3, .int .i64 v4, .string v5, .int .i64 v6, .int .i64 v7, .bool (v8 == 1), .int .i64 v9, .string v10, .int .i64 0, .int .i64 0, .int .i64 0, .int .i64 0, .int .i64 0, .int .i64 0, .slice none 0 0, .bool false, .int .i64 0, .int .i64 0] := Blk.setCells [.int .i64 v0, .int .i64 v1, .int .i64 v2, .int .i64 v3, .int .i64 v4, .string v5, .int .i64 v6, .int .i64 v7, .bool (v8 == 1), .int .i64 v9, .string v10] HXc10.out 6 (by show 6 + 11 ≤ 27; decide)
  have hF5 : Frm (fun i => i = w.heap.size + 1) (V10.setCell ⟨w.heap.size + 1 + 1, 10, none⟩ (.string v10)) ((V10.setCell ⟨w.heap.size + 1 + 1, 10, none⟩ (.string v10)).setCells (w.heap.size + 1) 6 [.int .i64 v0, .int .i64 v1, .int .i64 v2, .int .i64 v3, .int .i64 v4, .string v5, .int .i64 v6, .int .i64 v7, .bool (v8 == 1), .int .i64 v9, .string v10]) := fsetCells [.int .i64 v0, .int .i64 v1, .int .i64 v2, .int .i64 v3, .int .i64 v4, .string v5, .int .i64 v6, .int .i64 v7, .bool (v8 == 1), .int .i64 v9, .string v10] 6 (V10.setCell ⟨w.heap.size + 1 + 1, 10, none⟩ (.string v10))
  have HTH := Lib.hid (HXc10.out.there 6 11 (by show 6 + 11 ≤ 27; decide))
  have HF5 := Lib.hid (HFc10.out.trans hF5 (fun i hi hl => by have hi' : i = w.heap.size + 1 := hi; omega))
  have HX5 := Lib.hid hX5
  have HG5 := Lib.hid (Blk.frm HGc10.out hF5 (fun hh => absurd (show w.heap.size = w.heap.size + 1 from hh) (by omega)))
  have HZ5 := Lib.hid (Blk.frm HZc10.out.2.2.1 hF5 (fun hh => absurd (show g = w.heap.size + 1 from hh) (by omega)))
  obtain ⟨U5, hU5⟩ : ∃ U, ((V10.setCell ⟨w.heap.size + 1 + 1, 10, none⟩ (.string v10)).setCells (w.heap.size + 1) 6 [.int .i64 v0, .int .i64 v1, .int .i64 v2, .int .i64 v3, .int .i64 v4, .string v5, .int .i64 v6, .int .i64 v7, .bool (v8 == 1), .int .i64 v9, .string v10]) = U := ⟨_, rfl⟩
  rw [hU5] at HX5 HG5 HZ5 HF5 
  have HQ5 := Lib.hid (show (V10.setCell ⟨w.heap.size + 1 + 1, 10, none⟩ (.string v10)).setCells (w.heap.size + 1) 6 #[.int .i64 v0, .int .i64 v1, .int .i64 v2, .int .i64 v3, .int .i64 v4, .string v5, .int .i64 v6, .int .i64 v7, .bool (v8 == 1), .int .i64 v9, .string v10].toList = U5 from hU5)
  clear hX5 hF5 hU5
  go_wp2_with (first | (refine wpList_load_row rfl 29 _ rfl (w.heap.size + 1 + 1) rfl _ #[.int .i64 v0, .int .i64 v1, .int .i64 v2, .int .i64 v3, .int .i64 v4, .string v5, .int .i64 v6, .int .i64 v7, .bool (v8 == 1), .int .i64 v9, .string v10] (0, 0) _ HYc10.out Try.underlying29 rfl isz_ask ?_) | ((refine wpList_store_mid rfl 29 _ _ rfl (w.heap.size + 1) 6 #[.int .i64 v0, .int .i64 v1, .int .i64 v2, .int .i64 v3, .int .i64 v4, .string v5, .int .i64 v6, .int .i64 v7, .bool (v8 == 1), .int .i64 v9, .string v10] rfl rfl HTH.out isz_ask (by simp [Value.oneCell']) ?_); rw [HQ5.out]) | (refine wpList_load_row rfl 46 _ rfl (w.heap.size + 1) rfl _ #[.int .i64 3, .int .i64 0, .int .i64 0, .int .i64 0, .int .i64 0, .int .i64 0, .int .i64 v0, .int .i64 v1, .int .i64 v2, .int .i64 v3, .int .i64 v4, .string v5, .int .i64 v6, .int .i64 v7, .bool (v8 == 1), .int .i64 v9, .string v10, .int .i64 0, .int .i64 0, .int .i64 0, .int .i64 0, .int .i64 0, .int .i64 0, .slice none 0 0, .bool false, .int .i64 0, .int .i64 0] (0, 0) _ HX5.out Try.underlying46 rfl isz_msg ?_) | (refine wpList_store_row rfl 46 _ _ rfl w.heap.size #[.int .i64 3, .int .i64 0, .int .i64 0, .int .i64 0, .int .i64 0, .int .i64 0, .int .i64 v0, .int .i64 v1, .int .i64 v2, .int .i64 v3, .int .i64 v4, .string v5, .int .i64 v6, .int .i64 v7, .bool (v8 == 1), .int .i64 v9, .string v10, .int .i64 0, .int .i64 0, .int .i64 0, .int .i64 0, .int .i64 0, .int .i64 0, .slice none 0 0, .bool false, .int .i64 0, .int .i64 0] rfl rfl _ #[.int .i64 0, .int .i64 0, .int .i64 0, .int .i64 0, .int .i64 0, .int .i64 0, .int .i64 0, .int .i64 0, .int .i64 0, .int .i64 0, .int .i64 0, .string ⟨#[]⟩, .int .i64 0, .int .i64 0, .bool false, .int .i64 0, .string ⟨#[]⟩, .int .i64 0, .int .i64 0, .int .i64 0, .int .i64 0, .int .i64 0, .int .i64 0, .slice none 0 0, .bool false, .int .i64 0, .int .i64 0] HG5.out isz_msg rfl (by simp [Value.oneCell']) ?_))
  have hS := setRow_heap U5 w.heap.size #[.int .i64 0, .int .i64 0, .int .i64 0, .int .i64 0, .int .i64 0, .int .i64 0, .int .i64 0, .int .i64 0, .int .i64 0, .int .i64 0, .int .i64 0, .string ⟨#[]⟩, .int .i64 0, .int .i64 0, .bool false, .int .i64 0, .string ⟨#[]⟩, .int .i64 0, .int .i64 0, .int .i64 0, .int .i64 0, .int .i64 0, .int .i64 0, .slice none 0 0, .bool false, .int .i64 0, .int .i64 0] #[.int .i64 3, .int .i64 0, .int .i64 0, .int .i64 0, .int .i64 0, .int .i64 0, .int .i64 v0, .int .i64 v1, .int .i64 v2, .int .i64 v3, .int .i64 v4, .string v5, .int .i64 v6, .int .i64 v7, .bool (v8 == 1), .int .i64 v9, .string v10, .int .i64 0, .int .i64 0, .int .i64 0, .int .i64 0, .int .i64 0, .int .i64 0, .slice none 0 0, .bool false, .int .i64 0, .int .i64 0] 46 (0, 0) HG5.out
  have hfr : Frm (fun k => k = w.heap.size) U5 (U5.setRow w.heap.size #[.int .i64 3, .int .i64 0, .int .i64 0, .int .i64 0, .int .i64 0, .int .i64 0, .int .i64 v0, .int .i64 v1, .int .i64 v2, .int .i64 v3, .int .i64 v4, .string v5, .int .i64 v6, .int .i64 v7, .bool (v8 == 1), .int .i64 v9, .string v10, .int .i64 0, .int .i64 0, .int .i64 0, .int .i64 0, .int .i64 0, .int .i64 0, .slice none 0 0, .bool false, .int .i64 0, .int .i64 0]) := fsetRow #[.int .i64 3, .int .i64 0, .int .i64 0, .int .i64 0, .int .i64 0, .int .i64 0, .int .i64 v0, .int .i64 v1, .int .i64 v2, .int .i64 v3, .int .i64 v4, .string v5, .int .i64 v6, .int .i64 v7, .bool (v8 == 1), .int .i64 v9, .string v10, .int .i64 0, .int .i64 0, .int .i64 0, .int .i64 0, .int .i64 0, .int .i64 0, .slice none 0 0, .bool false, .int .i64 0, .int .i64 0]
  have hf : Frm (fun i => i = g) w (U5.setRow w.heap.size #[.int .i64 3, .int .i64 0, .int .i64 0, .int .i64 0, .int .i64 0, .int .i64 0, .int .i64 v0, .int .i64 v1, .int .i64 v2, .int .i64 v3, .int .i64 v4, .string v5, .int .i64 v6, .int .i64 v7, .bool (v8 == 1), .int .i64 v9, .string v10, .int .i64 0, .int .i64 0, .int .i64 0, .int .i64 0, .int .i64 0, .int .i64 0, .slice none 0 0, .bool false, .int .i64 0, .int .i64 0]) := HF5.out.trans hfr (fun i hi hl => by have hi' : i = w.heap.size := hi; omega)
  refine bodyPost_ret (results_cell_row rfl _ _ w.heap.size 46 #[.int .i64 3, .int .i64 0, .int .i64 0, .int .i64 0, .int .i64 0, .int .i64 0, .int .i64 v0, .int .i64 v1, .int .i64 v2, .int .i64 v3, .int .i64 v4, .string v5, .int .i64 v6, .int .i64 v7, .bool (v8 == 1), .int .i64 v9, .string v10, .int .i64 0, .int .i64 0, .int .i64 0, .int .i64 0, .int .i64 0, .int .i64 0, .slice none 0 0, .bool false, .int .i64 0, .int .i64 0] (0, 0) _ rfl hS Try.underlying46 rfl isz_msg) rfl ?_
  exact ⟨(⟨0, 0, 0, 0, 0, v0, v1, v2, v3, v4, v5, v6, v7, (v8 == 1), v9, v10, 0, 0, 0, 0, 0, 0, none, 0, [], false, 0, 0⟩ : P5), rfl, rfl, HW.out.next hf (Blk.frm HZ5.out hfr (fun hh => absurd (show g = w.heap.size from hh) (by omega))) HZc10.out.2.2.2.1, ⟨rdE_nil0 _, by simp, HT5.out, HT10.out⟩, hf, fun _ _ _ h => by cases h⟩
end Go.Proofs.Ytjhkdbcfkaaffaa
/- The document's reader.read at a Reply. -/
namespace Go.Proofs.Ytjhkdbcfkaaffaa
open Go.RowKit
set_option linter.unusedVariables false

def qreplyR (l : List Nat) (st : Nat × Bool) : MV × (Nat × Bool) :=
  let q0 := numS l 4 st
  let q1 := numS l 4 q0.2
  let q2 := numS l 4 q1.2
  let q3 := numS l 4 q2.2
  let q4 := numS l 4 q3.2
  let q5 := numS l 4 q4.2
  let q6 := numS l 1 q5.2
  let q7 := itemsS l q6.1.toNat q6.2
  let q8 := numS l 1 q7.2
  (.reply q0.1 q1.1 q2.1 q3.1 q4.1 q5.1 q7.1 (q8.1 == 1), q8.2)
set_option maxRecDepth 100000 in
set_option maxHeartbeats 16000000 in
theorem qread_reply (g : Nat) (a : Option Addr) (c : Nat) (l : List Nat) (st : Nat × Bool) (w : World) (h : QAt w g a c l st) :
    Calls Try.prog 58 #[.pointer (some ⟨g, 0, none⟩), .int .i64 4] w (QM g a c l 4 (qreplyR l st) w) := by
  have hg := h.2.2.1.lt
  have HW := Lib.hid h
  have hl2 := h.2.2.2.2.1
  have hbl := h.2.2.2.2.2
  have HX0 := Lib.hid (show Blk ((w.alloc (.cells #[.int .i64 0, .int .i64 0, .int .i64 0, .int .i64 0, .int .i64 0, .int .i64 0, .int .i64 0, .int .i64 0, .int .i64 0, .int .i64 0, .int .i64 0, .string ⟨#[]⟩, .int .i64 0, .int .i64 0, .bool false, .int .i64 0, .string ⟨#[]⟩, .int .i64 0, .int .i64 0, .int .i64 0, .int .i64 0, .int .i64 0, .int .i64 0, .slice none 0 0, .bool false, .int .i64 0, .int .i64 0] 46)).alloc (.cells #[.int .i64 0, .int .i64 0, .int .i64 0, .int .i64 0, .int .i64 0, .int .i64 0, .int .i64 0, .int .i64 0, .int .i64 0, .int .i64 0, .int .i64 0, .string ⟨#[]⟩, .int .i64 0, .int .i64 0, .bool false, .int .i64 0, .string ⟨#[]⟩, .int .i64 0, .int .i64 0, .int .i64 0, .int .i64 0, .int .i64 0, .int .i64 0, .slice none 0 0, .bool false, .int .i64 0, .int .i64 0] 46)) (w.heap.size + 1) 46 [.int .i64 0, .int .i64 0, .int .i64 0, .int .i64 0, .int .i64 0, .int .i64 0, .int .i64 0, .int .i64 0, .int .i64 0, .int .i64 0, .int .i64 0, .string ⟨#[]⟩, .int .i64 0, .int .i64 0, .bool false, .int .i64 0, .string ⟨#[]⟩, .int .i64 0, .int .i64 0, .int .i64 0, .int .i64 0, .int .i64 0, .int .i64 0, .slice none 0 0, .bool false, .int .i64 0, .int .i64 0] from by have q := heap_alloc_new (w.alloc (.cells #[.int .i64 0, .int .i64 0, .int .i64 0, .int .i64 0, .int .i64 0, .int .i64 0, .int .i64 0, .int .i64 0, .int .i64 0, .int .i64 0, .int .i64 0, .string ⟨#[]⟩, .int .i64 0, .int .i64 0, .bool false, .int .i64 0, .string ⟨#[]⟩, .int .i64 0, .int .i64 0, .int .i64 0, .int .i64 0, .int .i64 0, .int .i64 0, .slice none 0 0, .bool false, .int .i64 0, .int .i64 0] 46)) (.cells #[.int .i64 0, .int .i64 0, .int .i64 0, .int .i64 0, .int .i64 0, .int .i64 0, .int .i64 0, .int .i64 0, .int .i64 0, .int .i64 0, .int .i64 0, .string ⟨#[]⟩, .int .i64 0, .int .i64 0, .bool false, .int .i64 0, .string ⟨#[]⟩, .int .i64 0, .int .i64 0, .int .i64 0, .int .i64 0, .int .i64 0, .int .i64 0, .slice none 0 0, .bool false, .int .i64 0, .int .i64 0] 46); rw [show (w.alloc (.cells #[.int .i64 0, .int .i64 0, .int .i64 0, .int .i64 0, .int .i64 0, .int .i64 0, .int .i64 0, .int .i64 0, .int .i64 0, .int .i64 0, .int .i64 0, .string ⟨#[]⟩, .int .i64 0, .int .i64 0, .bool false, .int .i64 0, .string ⟨#[]⟩, .int .i64 0, .int .i64 0, .int .i64 0, .int .i64 0, .int .i64 0, .int .i64 0, .slice none 0 0, .bool false, .int .i64 0, .int .i64 0] 46)).heap.size = w.heap.size + 1 from by simp] at q; exact q)
  have hG0 := Blk.alloc (show Blk (w.alloc (.cells #[.int .i64 0, .int .i64 0, .int .i64 0, .int .i64 0, .int .i64 0, .int .i64 0, .int .i64 0, .int .i64 0, .int .i64 0, .int .i64 0, .int .i64 0, .string ⟨#[]⟩, .int .i64 0, .int .i64 0, .bool false, .int .i64 0, .string ⟨#[]⟩, .int .i64 0, .int .i64 0, .int .i64 0, .int .i64 0, .int .i64 0, .int .i64 0, .slice none 0 0, .bool false, .int .i64 0, .int .i64 0] 46)) w.heap.size 46 [.int .i64 0, .int .i64 0, .int .i64 0, .int .i64 0, .int .i64 0, .int .i64 0, .int .i64 0, .int .i64 0, .int .i64 0, .int .i64 0, .int .i64 0, .string ⟨#[]⟩, .int .i64 0, .int .i64 0, .bool false, .int .i64 0, .string ⟨#[]⟩, .int .i64 0, .int .i64 0, .int .i64 0, .int .i64 0, .int .i64 0, .int .i64 0, .slice none 0 0, .bool false, .int .i64 0, .int .i64 0] from heap_alloc_new w _) (.cells #[.int .i64 0, .int .i64 0, .int .i64 0, .int .i64 0, .int .i64 0, .int .i64 0, .int .i64 0, .int .i64 0, .int .i64 0, .int .i64 0, .int .i64 0, .string ⟨#[]⟩, .int .i64 0, .int .i64 0, .bool false, .int .i64 0, .string ⟨#[]⟩, .int .i64 0, .int .i64 0, .int .i64 0, .int .i64 0, .int .i64 0, .int .i64 0, .slice none 0 0, .bool false, .int .i64 0, .int .i64 0] 46)
  have hsz : (((w.alloc (.cells #[.int .i64 0, .int .i64 0, .int .i64 0, .int .i64 0, .int .i64 0, .int .i64 0, .int .i64 0, .int .i64 0, .int .i64 0, .int .i64 0, .int .i64 0, .string ⟨#[]⟩, .int .i64 0, .int .i64 0, .bool false, .int .i64 0, .string ⟨#[]⟩, .int .i64 0, .int .i64 0, .int .i64 0, .int .i64 0, .int .i64 0, .int .i64 0, .slice none 0 0, .bool false, .int .i64 0, .int .i64 0] 46)).alloc (.cells #[.int .i64 0, .int .i64 0, .int .i64 0, .int .i64 0, .int .i64 0, .int .i64 0, .int .i64 0, .int .i64 0, .int .i64 0, .int .i64 0, .int .i64 0, .string ⟨#[]⟩, .int .i64 0, .int .i64 0, .bool false, .int .i64 0, .string ⟨#[]⟩, .int .i64 0, .int .i64 0, .int .i64 0, .int .i64 0, .int .i64 0, .int .i64 0, .slice none 0 0, .bool false, .int .i64 0, .int .i64 0] 46)).setRow (w.heap.size + 1) #[.int .i64 4, .int .i64 0, .int .i64 0, .int .i64 0, .int .i64 0, .int .i64 0, .int .i64 0, .int .i64 0, .int .i64 0, .int .i64 0, .int .i64 0, .string ⟨#[]⟩, .int .i64 0, .int .i64 0, .bool false, .int .i64 0, .string ⟨#[]⟩, .int .i64 0, .int .i64 0, .int .i64 0, .int .i64 0, .int .i64 0, .int .i64 0, .slice none 0 0, .bool false, .int .i64 0, .int .i64 0]).heap.size = w.heap.size + 1 + 1 := by simp [World.setRow]
  have hF0 : Frm (fun i => i = g) w ((((w.alloc (.cells #[.int .i64 0, .int .i64 0, .int .i64 0, .int .i64 0, .int .i64 0, .int .i64 0, .int .i64 0, .int .i64 0, .int .i64 0, .int .i64 0, .int .i64 0, .string ⟨#[]⟩, .int .i64 0, .int .i64 0, .bool false, .int .i64 0, .string ⟨#[]⟩, .int .i64 0, .int .i64 0, .int .i64 0, .int .i64 0, .int .i64 0, .int .i64 0, .slice none 0 0, .bool false, .int .i64 0, .int .i64 0] 46)).alloc (.cells #[.int .i64 0, .int .i64 0, .int .i64 0, .int .i64 0, .int .i64 0, .int .i64 0, .int .i64 0, .int .i64 0, .int .i64 0, .int .i64 0, .int .i64 0, .string ⟨#[]⟩, .int .i64 0, .int .i64 0, .bool false, .int .i64 0, .string ⟨#[]⟩, .int .i64 0, .int .i64 0, .int .i64 0, .int .i64 0, .int .i64 0, .int .i64 0, .slice none 0 0, .bool false, .int .i64 0, .int .i64 0] 46)).setRow (w.heap.size + 1) #[.int .i64 4, .int .i64 0, .int .i64 0, .int .i64 0, .int .i64 0, .int .i64 0, .int .i64 0, .int .i64 0, .int .i64 0, .int .i64 0, .int .i64 0, .string ⟨#[]⟩, .int .i64 0, .int .i64 0, .bool false, .int .i64 0, .string ⟨#[]⟩, .int .i64 0, .int .i64 0, .int .i64 0, .int .i64 0, .int .i64 0, .int .i64 0, .slice none 0 0, .bool false, .int .i64 0, .int .i64 0]).alloc (.cells #[.int .i64 0, .int .i64 0, .int .i64 0, .int .i64 0, .int .i64 0, .int .i64 0, .slice none 0 0, .bool false] 32)) := ((((Frm.refl (fun i => i = g) w).alloc (.cells #[.int .i64 0, .int .i64 0, .int .i64 0, .int .i64 0, .int .i64 0, .int .i64 0, .int .i64 0, .int .i64 0, .int .i64 0, .int .i64 0, .int .i64 0, .string ⟨#[]⟩, .int .i64 0, .int .i64 0, .bool false, .int .i64 0, .string ⟨#[]⟩, .int .i64 0, .int .i64 0, .int .i64 0, .int .i64 0, .int .i64 0, .int .i64 0, .slice none 0 0, .bool false, .int .i64 0, .int .i64 0] 46)).alloc (.cells #[.int .i64 0, .int .i64 0, .int .i64 0, .int .i64 0, .int .i64 0, .int .i64 0, .int .i64 0, .int .i64 0, .int .i64 0, .int .i64 0, .int .i64 0, .string ⟨#[]⟩, .int .i64 0, .int .i64 0, .bool false, .int .i64 0, .string ⟨#[]⟩, .int .i64 0, .int .i64 0, .int .i64 0, .int .i64 0, .int .i64 0, .int .i64 0, .slice none 0 0, .bool false, .int .i64 0, .int .i64 0] 46)).trans (fsetRow #[.int .i64 4, .int .i64 0, .int .i64 0, .int .i64 0, .int .i64 0, .int .i64 0, .int .i64 0, .int .i64 0, .int .i64 0, .int .i64 0, .int .i64 0, .string ⟨#[]⟩, .int .i64 0, .int .i64 0, .bool false, .int .i64 0, .string ⟨#[]⟩, .int .i64 0, .int .i64 0, .int .i64 0, .int .i64 0, .int .i64 0, .int .i64 0, .slice none 0 0, .bool false, .int .i64 0, .int .i64 0]) (fun i hi hl => by have hi' : i = w.heap.size + 1 := hi; omega)).alloc (.cells #[.int .i64 0, .int .i64 0, .int .i64 0, .int .i64 0, .int .i64 0, .int .i64 0, .slice none 0 0, .bool false] 32)
  have HX := Lib.hid (Blk.alloc (show Blk (((w.alloc (.cells #[.int .i64 0, .int .i64 0, .int .i64 0, .int .i64 0, .int .i64 0, .int .i64 0, .int .i64 0, .int .i64 0, .int .i64 0, .int .i64 0, .int .i64 0, .string ⟨#[]⟩, .int .i64 0, .int .i64 0, .bool false, .int .i64 0, .string ⟨#[]⟩, .int .i64 0, .int .i64 0, .int .i64 0, .int .i64 0, .int .i64 0, .int .i64 0, .slice none 0 0, .bool false, .int .i64 0, .int .i64 0] 46)).alloc (.cells #[.int .i64 0, .int .i64 0, .int .i64 0, .int .i64 0, .int .i64 0, .int .i64 0, .int .i64 0, .int .i64 0, .int .i64 0, .int .i64 0, .int .i64 0, .string ⟨#[]⟩, .int .i64 0, .int .i64 0, .bool false, .int .i64 0, .string ⟨#[]⟩, .int .i64 0, .int .i64 0, .int .i64 0, .int .i64 0, .int .i64 0, .int .i64 0, .slice none 0 0, .bool false, .int .i64 0, .int .i64 0] 46)).setRow (w.heap.size + 1) #[.int .i64 4, .int .i64 0, .int .i64 0, .int .i64 0, .int .i64 0, .int .i64 0, .int .i64 0, .int .i64 0, .int .i64 0, .int .i64 0, .int .i64 0, .string ⟨#[]⟩, .int .i64 0, .int .i64 0, .bool false, .int .i64 0, .string ⟨#[]⟩, .int .i64 0, .int .i64 0, .int .i64 0, .int .i64 0, .int .i64 0, .int .i64 0, .slice none 0 0, .bool false, .int .i64 0, .int .i64 0]) (w.heap.size + 1) 46 [.int .i64 4, .int .i64 0, .int .i64 0, .int .i64 0, .int .i64 0, .int .i64 0, .int .i64 0, .int .i64 0, .int .i64 0, .int .i64 0, .int .i64 0, .string ⟨#[]⟩, .int .i64 0, .int .i64 0, .bool false, .int .i64 0, .string ⟨#[]⟩, .int .i64 0, .int .i64 0, .int .i64 0, .int .i64 0, .int .i64 0, .int .i64 0, .slice none 0 0, .bool false, .int .i64 0, .int .i64 0] from setRow_heap ((w.alloc (.cells #[.int .i64 0, .int .i64 0, .int .i64 0, .int .i64 0, .int .i64 0, .int .i64 0, .int .i64 0, .int .i64 0, .int .i64 0, .int .i64 0, .int .i64 0, .string ⟨#[]⟩, .int .i64 0, .int .i64 0, .bool false, .int .i64 0, .string ⟨#[]⟩, .int .i64 0, .int .i64 0, .int .i64 0, .int .i64 0, .int .i64 0, .int .i64 0, .slice none 0 0, .bool false, .int .i64 0, .int .i64 0] 46)).alloc (.cells #[.int .i64 0, .int .i64 0, .int .i64 0, .int .i64 0, .int .i64 0, .int .i64 0, .int .i64 0, .int .i64 0, .int .i64 0, .int .i64 0, .int .i64 0, .string ⟨#[]⟩, .int .i64 0, .int .i64 0, .bool false, .int .i64 0, .string ⟨#[]⟩, .int .i64 0, .int .i64 0, .int .i64 0, .int .i64 0, .int .i64 0, .int .i64 0, .slice none 0 0, .bool false, .int .i64 0, .int .i64 0] 46)) (w.heap.size + 1) #[.int .i64 0, .int .i64 0, .int .i64 0, .int .i64 0, .int .i64 0, .int .i64 0, .int .i64 0, .int .i64 0, .int .i64 0, .int .i64 0, .int .i64 0, .string ⟨#[]⟩, .int .i64 0, .int .i64 0, .bool false, .int .i64 0, .string ⟨#[]⟩, .int .i64 0, .int .i64 0, .int .i64 0, .int .i64 0, .int .i64 0, .int .i64 0, .slice none 0 0, .bool false, .int .i64 0, .int .i64 0] #[.int .i64 4, .int .i64 0, .int .i64 0, .int .i64 0, .int .i64 0, .int .i64 0, .int .i64 0, .int .i64 0, .int .i64 0, .int .i64 0, .int .i64 0, .string ⟨#[]⟩, .int .i64 0, .int .i64 0, .bool false, .int .i64 0, .string ⟨#[]⟩, .int .i64 0, .int .i64 0, .int .i64 0, .int .i64 0, .int .i64 0, .int .i64 0, .slice none 0 0, .bool false, .int .i64 0, .int .i64 0] 46 (0, 0) HX0.out) (.cells #[.int .i64 0, .int .i64 0, .int .i64 0, .int .i64 0, .int .i64 0, .int .i64 0, .slice none 0 0, .bool false] 32))
  have HY := Lib.hid (show Blk ((((w.alloc (.cells #[.int .i64 0, .int .i64 0, .int .i64 0, .int .i64 0, .int .i64 0, .int .i64 0, .int .i64 0, .int .i64 0, .int .i64 0, .int .i64 0, .int .i64 0, .string ⟨#[]⟩, .int .i64 0, .int .i64 0, .bool false, .int .i64 0, .string ⟨#[]⟩, .int .i64 0, .int .i64 0, .int .i64 0, .int .i64 0, .int .i64 0, .int .i64 0, .slice none 0 0, .bool false, .int .i64 0, .int .i64 0] 46)).alloc (.cells #[.int .i64 0, .int .i64 0, .int .i64 0, .int .i64 0, .int .i64 0, .int .i64 0, .int .i64 0, .int .i64 0, .int .i64 0, .int .i64 0, .int .i64 0, .string ⟨#[]⟩, .int .i64 0, .int .i64 0, .bool false, .int .i64 0, .string ⟨#[]⟩, .int .i64 0, .int .i64 0, .int .i64 0, .int .i64 0, .int .i64 0, .int .i64 0, .slice none 0 0, .bool false, .int .i64 0, .int .i64 0] 46)).setRow (w.heap.size + 1) #[.int .i64 4, .int .i64 0, .int .i64 0, .int .i64 0, .int .i64 0, .int .i64 0, .int .i64 0, .int .i64 0, .int .i64 0, .int .i64 0, .int .i64 0, .string ⟨#[]⟩, .int .i64 0, .int .i64 0, .bool false, .int .i64 0, .string ⟨#[]⟩, .int .i64 0, .int .i64 0, .int .i64 0, .int .i64 0, .int .i64 0, .int .i64 0, .slice none 0 0, .bool false, .int .i64 0, .int .i64 0]).alloc (.cells #[.int .i64 0, .int .i64 0, .int .i64 0, .int .i64 0, .int .i64 0, .int .i64 0, .slice none 0 0, .bool false] 32)) (w.heap.size + 1 + 1) 32 [.int .i64 0, .int .i64 0, .int .i64 0, .int .i64 0, .int .i64 0, .int .i64 0, .slice none 0 0, .bool false] from by have q := heap_alloc_new (((w.alloc (.cells #[.int .i64 0, .int .i64 0, .int .i64 0, .int .i64 0, .int .i64 0, .int .i64 0, .int .i64 0, .int .i64 0, .int .i64 0, .int .i64 0, .int .i64 0, .string ⟨#[]⟩, .int .i64 0, .int .i64 0, .bool false, .int .i64 0, .string ⟨#[]⟩, .int .i64 0, .int .i64 0, .int .i64 0, .int .i64 0, .int .i64 0, .int .i64 0, .slice none 0 0, .bool false, .int .i64 0, .int .i64 0] 46)).alloc (.cells #[.int .i64 0, .int .i64 0, .int .i64 0, .int .i64 0, .int .i64 0, .int .i64 0, .int .i64 0, .int .i64 0, .int .i64 0, .int .i64 0, .int .i64 0, .string ⟨#[]⟩, .int .i64 0, .int .i64 0, .bool false, .int .i64 0, .string ⟨#[]⟩, .int .i64 0, .int .i64 0, .int .i64 0, .int .i64 0, .int .i64 0, .int .i64 0, .slice none 0 0, .bool false, .int .i64 0, .int .i64 0] 46)).setRow (w.heap.size + 1) #[.int .i64 4, .int .i64 0, .int .i64 0, .int .i64 0, .int .i64 0, .int .i64 0, .int .i64 0, .int .i64 0, .int .i64 0, .int .i64 0, .int .i64 0, .string ⟨#[]⟩, .int .i64 0, .int .i64 0, .bool false, .int .i64 0, .string ⟨#[]⟩, .int .i64 0, .int .i64 0, .int .i64 0, .int .i64 0, .int .i64 0, .int .i64 0, .slice none 0 0, .bool false, .int .i64 0, .int .i64 0]) (.cells #[.int .i64 0, .int .i64 0, .int .i64 0, .int .i64 0, .int .i64 0, .int .i64 0, .slice none 0 0, .bool false] 32); rw [hsz] at q; exact q)
  have HG := Lib.hid (Blk.alloc (Blk.frm hG0 (fsetRow (g := w.heap.size + 1) #[.int .i64 4, .int .i64 0, .int .i64 0, .int .i64 0, .int .i64 0, .int .i64 0, .int .i64 0, .int .i64 0, .int .i64 0, .int .i64 0, .int .i64 0, .string ⟨#[]⟩, .int .i64 0, .int .i64 0, .bool false, .int .i64 0, .string ⟨#[]⟩, .int .i64 0, .int .i64 0, .int .i64 0, .int .i64 0, .int .i64 0, .int .i64 0, .slice none 0 0, .bool false, .int .i64 0, .int .i64 0]) (fun hh => absurd (show w.heap.size = w.heap.size + 1 from hh) (by omega))) (.cells #[.int .i64 0, .int .i64 0, .int .i64 0, .int .i64 0, .int .i64 0, .int .i64 0, .slice none 0 0, .bool false] 32))
  have HZ := Lib.hid (h.next hF0 (((Blk.alloc (Blk.alloc h.2.2.1 (.cells #[.int .i64 0, .int .i64 0, .int .i64 0, .int .i64 0, .int .i64 0, .int .i64 0, .int .i64 0, .int .i64 0, .int .i64 0, .int .i64 0, .int .i64 0, .string ⟨#[]⟩, .int .i64 0, .int .i64 0, .bool false, .int .i64 0, .string ⟨#[]⟩, .int .i64 0, .int .i64 0, .int .i64 0, .int .i64 0, .int .i64 0, .int .i64 0, .slice none 0 0, .bool false, .int .i64 0, .int .i64 0] 46)) (.cells #[.int .i64 0, .int .i64 0, .int .i64 0, .int .i64 0, .int .i64 0, .int .i64 0, .int .i64 0, .int .i64 0, .int .i64 0, .int .i64 0, .int .i64 0, .string ⟨#[]⟩, .int .i64 0, .int .i64 0, .bool false, .int .i64 0, .string ⟨#[]⟩, .int .i64 0, .int .i64 0, .int .i64 0, .int .i64 0, .int .i64 0, .int .i64 0, .slice none 0 0, .bool false, .int .i64 0, .int .i64 0] 46)).frm (fsetRow (g := w.heap.size + 1) #[.int .i64 4, .int .i64 0, .int .i64 0, .int .i64 0, .int .i64 0, .int .i64 0, .int .i64 0, .int .i64 0, .int .i64 0, .int .i64 0, .int .i64 0, .string ⟨#[]⟩, .int .i64 0, .int .i64 0, .bool false, .int .i64 0, .string ⟨#[]⟩, .int .i64 0, .int .i64 0, .int .i64 0, .int .i64 0, .int .i64 0, .int .i64 0, .slice none 0 0, .bool false, .int .i64 0, .int .i64 0]) (fun hh => absurd (show g = w.heap.size + 1 from hh) (by omega))).alloc (.cells #[.int .i64 0, .int .i64 0, .int .i64 0, .int .i64 0, .int .i64 0, .int .i64 0, .slice none 0 0, .bool false] 32)) h.2.2.2.1)
  have HF := Lib.hid hF0
  obtain ⟨W, hW⟩ : ∃ W, ((((w.alloc (.cells #[.int .i64 0, .int .i64 0, .int .i64 0, .int .i64 0, .int .i64 0, .int .i64 0, .int .i64 0, .int .i64 0, .int .i64 0, .int .i64 0, .int .i64 0, .string ⟨#[]⟩, .int .i64 0, .int .i64 0, .bool false, .int .i64 0, .string ⟨#[]⟩, .int .i64 0, .int .i64 0, .int .i64 0, .int .i64 0, .int .i64 0, .int .i64 0, .slice none 0 0, .bool false, .int .i64 0, .int .i64 0] 46)).alloc (.cells #[.int .i64 0, .int .i64 0, .int .i64 0, .int .i64 0, .int .i64 0, .int .i64 0, .int .i64 0, .int .i64 0, .int .i64 0, .int .i64 0, .int .i64 0, .string ⟨#[]⟩, .int .i64 0, .int .i64 0, .bool false, .int .i64 0, .string ⟨#[]⟩, .int .i64 0, .int .i64 0, .int .i64 0, .int .i64 0, .int .i64 0, .int .i64 0, .slice none 0 0, .bool false, .int .i64 0, .int .i64 0] 46)).setRow (w.heap.size + 1) #[.int .i64 4, .int .i64 0, .int .i64 0, .int .i64 0, .int .i64 0, .int .i64 0, .int .i64 0, .int .i64 0, .int .i64 0, .int .i64 0, .int .i64 0, .string ⟨#[]⟩, .int .i64 0, .int .i64 0, .bool false, .int .i64 0, .string ⟨#[]⟩, .int .i64 0, .int .i64 0, .int .i64 0, .int .i64 0, .int .i64 0, .int .i64 0, .slice none 0 0, .bool false, .int .i64 0, .int .i64 0]).alloc (.cells #[.int .i64 0, .int .i64 0, .int .i64 0, .int .i64 0, .int .i64 0, .int .i64 0, .slice none 0 0, .bool false] 32)) = W := ⟨_, rfl⟩
  rw [hW] at HZ HF HG HX HY
  have HQ := Lib.hid hW
  have HSZ := Lib.hid hsz
  clear h hW hG0 hF0 hsz
  obtain ⟨⟨v0, s0⟩, e0⟩ : ∃ q, numS l 4 st = q := ⟨_, rfl⟩
  obtain ⟨⟨v1, s1⟩, e1⟩ : ∃ q, numS l 4 s0 = q := ⟨_, rfl⟩
  obtain ⟨⟨v2, s2⟩, e2⟩ : ∃ q, numS l 4 s1 = q := ⟨_, rfl⟩
  obtain ⟨⟨v3, s3⟩, e3⟩ : ∃ q, numS l 4 s2 = q := ⟨_, rfl⟩
  obtain ⟨⟨v4, s4⟩, e4⟩ : ∃ q, numS l 4 s3 = q := ⟨_, rfl⟩
  obtain ⟨⟨v5, s5⟩, e5⟩ : ∃ q, numS l 4 s4 = q := ⟨_, rfl⟩
  obtain ⟨⟨v6, s6⟩, e6⟩ : ∃ q, numS l 1 s5 = q := ⟨_, rfl⟩
  have hv6 : 0 ≤ v6 ∧ v6 < 4294967296 := by have q := numS_in (l := l) (k := 1) (st := s5) hbl (by decide); rw [e6] at q; exact q
  clear hbl
  obtain ⟨N, hN⟩ : ∃ N : Nat, v6 = (N : Int) := ⟨v6.toNat, by omega⟩
  subst hN
  have hN : N ≤ 4294967296 := by omega
  clear hv6
  obtain ⟨⟨v7, s7⟩, e7⟩ : ∃ q, itemsS l N s6 = q := ⟨_, rfl⟩
  obtain ⟨⟨v8, s8⟩, e8⟩ : ∃ q, numS l 1 s7 = q := ⟨_, rfl⟩
  have HT := Lib.hid (show ∀ x ∈ v7, x.2.size ≤ 2000 from fun x hx => by have q := itemsS_size l N s6 x (by rw [e7]; exact hx); omega)
  have HR := Lib.hid (show qreplyR l st = (.reply v0 v1 v2 v3 v4 v5 v7 (v8 == 1), s8) from by unfold qreplyR; simp only [e0, e1, e2, e3, e4, e5, e6, e7, e8, Int.toNat_natCast])
  rw [HR.out]
  clear HR hl2
  have E0 := Lib.hid e0
  clear e0
  have E1 := Lib.hid e1
  clear e1
  have E2 := Lib.hid e2
  clear e2
  have E3 := Lib.hid e3
  clear e3
  have E4 := Lib.hid e4
  clear e4
  have E5 := Lib.hid e5
  clear e5
  have E6 := Lib.hid e6
  clear e6
  have E7 := Lib.hid e7
  clear e7
  have E8 := Lib.hid e8
  clear e8
  go_enter Try.func58, Try.ntmps58
  have HC := Lib.hid (qnum_any g a c l 4 st W HZ.out (by decide) (by decide))
  rw [E0.out] at HC
  simp only at HC
  go_wp2_with (refine wpList_store_row rfl 46 _ _ rfl (w.heap.size + 1) #[.int .i64 4, .int .i64 0, .int .i64 0, .int .i64 0, .int .i64 0, .int .i64 0, .int .i64 0, .int .i64 0, .int .i64 0, .int .i64 0, .int .i64 0, .string ⟨#[]⟩, .int .i64 0, .int .i64 0, .bool false, .int .i64 0, .string ⟨#[]⟩, .int .i64 0, .int .i64 0, .int .i64 0, .int .i64 0, .int .i64 0, .int .i64 0, .slice none 0 0, .bool false, .int .i64 0, .int .i64 0] rfl rfl _ #[.int .i64 0, .int .i64 0, .int .i64 0, .int .i64 0, .int .i64 0, .int .i64 0, .int .i64 0, .int .i64 0, .int .i64 0, .int .i64 0, .int .i64 0, .string ⟨#[]⟩, .int .i64 0, .int .i64 0, .bool false, .int .i64 0, .string ⟨#[]⟩, .int .i64 0, .int .i64 0, .int .i64 0, .int .i64 0, .int .i64 0, .int .i64 0, .slice none 0 0, .bool false, .int .i64 0, .int .i64 0] HX0.out isz_msg rfl (by simp [Value.oneCell']) ?_)
  (try rw [HSZ.out])
  rw [HQ.out]
  clear HX0 HSZ
  refine HC.out.mono ?_
  clear HC
  rintro e V0 ⟨rfl, hz, hf⟩
  clear HQ
  have HZb0 := Lib.hid hz
  have HFb0 := Lib.hid (HF.out.trans hf (fun i h _ => h))
  have HXb0 := Lib.hid (Blk.frm HX.out hf (fun hh => absurd (show w.heap.size + 1 = g from hh) (by omega)))
  have HYb0 := Lib.hid (Blk.frm HY.out hf (fun hh => absurd (show w.heap.size + 1 + 1 = g from hh) (by omega)))
  have HGb0 := Lib.hid (Blk.frm HG.out hf (fun hh => absurd (show w.heap.size = g from hh) (by omega)))
  clear hz hf HZ HF HX HY HG
  have y0 : V0.cell? ⟨w.heap.size + 1 + 1, 0, none⟩ = some (.int .i64 0) := HYb0.out.cell 0
  have fz : ∀ o, V0.frozen? ⟨w.heap.size + 1 + 1, o, none⟩ = false := fun o => fz_of (o := o) HYb0.out
  have hFc0 := Frm.setCell HFb0.out ⟨w.heap.size + 1 + 1, 0, none⟩ (.int .i64 v0) (.inr (by show w.heap.size ≤ w.heap.size + 1 + 1; omega))
  have HXc0 := Lib.hid (Blk.far HXb0.out ⟨w.heap.size + 1 + 1, 0, none⟩ (.int .i64 v0) (by show w.heap.size + 1 ≠ w.heap.size + 1 + 1; omega))
  have HYc0 := Lib.hid (show Blk (V0.setCell ⟨w.heap.size + 1 + 1, 0, none⟩ (.int .i64 v0)) (w.heap.size + 1 + 1) 32 [.int .i64 v0, .int .i64 0, .int .i64 0, .int .i64 0, .int .i64 0, .int .i64 0, .slice none 0 0, .bool false] from Blk.set HYb0.out 0 (.int .i64 v0))
  have HGc0 := Lib.hid (Blk.far HGb0.out ⟨w.heap.size + 1 + 1, 0, none⟩ (.int .i64 v0) (by show w.heap.size ≠ w.heap.size + 1 + 1; omega))
  have HZc0 := Lib.hid (HW.out.next hFc0 (Blk.far HZb0.out.2.2.1 ⟨w.heap.size + 1 + 1, 0, none⟩ (.int .i64 v0) (by show g ≠ w.heap.size + 1 + 1; omega)) HZb0.out.2.2.2.1)
  have HFc0 := Lib.hid hFc0
  clear hFc0 HZb0 HFb0 HXb0 HYb0 HGb0
  go_wp2_with fail
  clear y0 fz
  obtain ⟨U0, hU⟩ : ∃ U, (V0.setCell ⟨w.heap.size + 1 + 1, 0, none⟩ (.int .i64 v0)) = U := ⟨_, rfl⟩
  rw [hU] at HXc0 HYc0 HGc0 HZc0 HFc0 ⊢
  clear hU
  have HC := Lib.hid (qnum_any g a c l 4 s0 U0 HZc0.out (by decide) (by decide))
  rw [E1.out] at HC
  simp only at HC
  refine HC.out.mono ?_
  clear HC
  rintro e V1 ⟨rfl, hz, hf⟩
  have HZb1 := Lib.hid hz
  have HFb1 := Lib.hid (HFc0.out.trans hf (fun i h _ => h))
  have HXb1 := Lib.hid (Blk.frm HXc0.out hf (fun hh => absurd (show w.heap.size + 1 = g from hh) (by omega)))
  have HYb1 := Lib.hid (Blk.frm HYc0.out hf (fun hh => absurd (show w.heap.size + 1 + 1 = g from hh) (by omega)))
  have HGb1 := Lib.hid (Blk.frm HGc0.out hf (fun hh => absurd (show w.heap.size = g from hh) (by omega)))
  clear hz hf HZc0 HFc0 HXc0 HYc0 HGc0
  have y1 : V1.cell? ⟨w.heap.size + 1 + 1, 1, none⟩ = some (.int .i64 0) := HYb1.out.cell 1
  have fz : ∀ o, V1.frozen? ⟨w.heap.size + 1 + 1, o, none⟩ = false := fun o => fz_of (o := o) HYb1.out
  have hFc1 := Frm.setCell HFb1.out ⟨w.heap.size + 1 + 1, 1, none⟩ (.int .i64 v1) (.inr (by show w.heap.size ≤ w.heap.size + 1 + 1; omega))
  have HXc1 := Lib.hid (Blk.far HXb1.out ⟨w.heap.size + 1 + 1, 1, none⟩ (.int .i64 v1) (by show w.heap.size + 1 ≠ w.heap.size + 1 + 1; omega))
  have HYc1 := Lib.hid (show Blk (V1.setCell ⟨w.heap.size + 1 + 1, 1, none⟩ (.int .i64 v1)) (w.heap.size + 1 + 1) 32 [.int .i64 v0, .int .i64 v1, .int .i64 0, .int .i64 0, .int .i64 0, .int .i64 0, .slice none 0 0, .bool false] from Blk.set HYb1.out 1 (.int .i64 v1))
  have HGc1 := Lib.hid (Blk.far HGb1.out ⟨w.heap.size + 1 + 1, 1, none⟩ (.int .i64 v1) (by show w.heap.size ≠ w.heap.size + 1 + 1; omega))
  have HZc1 := Lib.hid (HW.out.next hFc1 (Blk.far HZb1.out.2.2.1 ⟨w.heap.size + 1 + 1, 1, none⟩ (.int .i64 v1) (by show g ≠ w.heap.size + 1 + 1; omega)) HZb1.out.2.2.2.1)
  have HFc1 := Lib.hid hFc1
  clear hFc1 HZb1 HFb1 HXb1 HYb1 HGb1
  go_wp2_with fail
  clear y1 fz
  obtain ⟨U1, hU⟩ : ∃ U, (V1.setCell ⟨w.heap.size + 1 + 1, 1, none⟩ (.int .i64 v1)) = U := ⟨_, rfl⟩
  rw [hU] at HXc1 HYc1 HGc1 HZc1 HFc1 ⊢
  clear hU
  have HC := Lib.hid (qnum_any g a c l 4 s1 U1 HZc1.out (by decide) (by decide))
  rw [E2.out] at HC
  simp only at HC
  refine HC.out.mono ?_
  clear HC
  rintro e V2 ⟨rfl, hz, hf⟩
  have HZb2 := Lib.hid hz
  have HFb2 := Lib.hid (HFc1.out.trans hf (fun i h _ => h))
  have HXb2 := Lib.hid (Blk.frm HXc1.out hf (fun hh => absurd (show w.heap.size + 1 = g from hh) (by omega)))
  have HYb2 := Lib.hid (Blk.frm HYc1.out hf (fun hh => absurd (show w.heap.size + 1 + 1 = g from hh) (by omega)))
  have HGb2 := Lib.hid (Blk.frm HGc1.out hf (fun hh => absurd (show w.heap.size = g from hh) (by omega)))
  clear hz hf HZc1 HFc1 HXc1 HYc1 HGc1
  have y2 : V2.cell? ⟨w.heap.size + 1 + 1, 2, none⟩ = some (.int .i64 0) := HYb2.out.cell 2
  have fz : ∀ o, V2.frozen? ⟨w.heap.size + 1 + 1, o, none⟩ = false := fun o => fz_of (o := o) HYb2.out
  have hFc2 := Frm.setCell HFb2.out ⟨w.heap.size + 1 + 1, 2, none⟩ (.int .i64 v2) (.inr (by show w.heap.size ≤ w.heap.size + 1 + 1; omega))
  have HXc2 := Lib.hid (Blk.far HXb2.out ⟨w.heap.size + 1 + 1, 2, none⟩ (.int .i64 v2) (by show w.heap.size + 1 ≠ w.heap.size + 1 + 1; omega))
  have HYc2 := Lib.hid (show Blk (V2.setCell ⟨w.heap.size + 1 + 1, 2, none⟩ (.int .i64 v2)) (w.heap.size + 1 + 1) 32 [.int .i64 v0, .int .i64 v1, .int .i64 v2, .int .i64 0, .int .i64 0, .int .i64 0, .slice none 0 0, .bool false] from Blk.set HYb2.out 2 (.int .i64 v2))
  have HGc2 := Lib.hid (Blk.far HGb2.out ⟨w.heap.size + 1 + 1, 2, none⟩ (.int .i64 v2) (by show w.heap.size ≠ w.heap.size + 1 + 1; omega))
  have HZc2 := Lib.hid (HW.out.next hFc2 (Blk.far HZb2.out.2.2.1 ⟨w.heap.size + 1 + 1, 2, none⟩ (.int .i64 v2) (by show g ≠ w.heap.size + 1 + 1; omega)) HZb2.out.2.2.2.1)
  have HFc2 := Lib.hid hFc2
  clear hFc2 HZb2 HFb2 HXb2 HYb2 HGb2
  go_wp2_with fail
  clear y2 fz
  obtain ⟨U2, hU⟩ : ∃ U, (V2.setCell ⟨w.heap.size + 1 + 1, 2, none⟩ (.int .i64 v2)) = U := ⟨_, rfl⟩
  rw [hU] at HXc2 HYc2 HGc2 HZc2 HFc2 ⊢
  clear hU
  have HC := Lib.hid (qnum_any g a c l 4 s2 U2 HZc2.out (by decide) (by decide))
  rw [E3.out] at HC
  simp only at HC
  refine HC.out.mono ?_
  clear HC
  rintro e V3 ⟨rfl, hz, hf⟩
  have HZb3 := Lib.hid hz
  have HFb3 := Lib.hid (HFc2.out.trans hf (fun i h _ => h))
  have HXb3 := Lib.hid (Blk.frm HXc2.out hf (fun hh => absurd (show w.heap.size + 1 = g from hh) (by omega)))
  have HYb3 := Lib.hid (Blk.frm HYc2.out hf (fun hh => absurd (show w.heap.size + 1 + 1 = g from hh) (by omega)))
  have HGb3 := Lib.hid (Blk.frm HGc2.out hf (fun hh => absurd (show w.heap.size = g from hh) (by omega)))
  clear hz hf HZc2 HFc2 HXc2 HYc2 HGc2
  have y3 : V3.cell? ⟨w.heap.size + 1 + 1, 3, none⟩ = some (.int .i64 0) := HYb3.out.cell 3
  have fz : ∀ o, V3.frozen? ⟨w.heap.size + 1 + 1, o, none⟩ = false := fun o => fz_of (o := o) HYb3.out
  have hFc3 := Frm.setCell HFb3.out ⟨w.heap.size + 1 + 1, 3, none⟩ (.int .i64 v3) (.inr (by show w.heap.size ≤ w.heap.size + 1 + 1; omega))
  have HXc3 := Lib.hid (Blk.far HXb3.out ⟨w.heap.size + 1 + 1, 3, none⟩ (.int .i64 v3) (by show w.heap.size + 1 ≠ w.heap.size + 1 + 1; omega))
  have HYc3 := Lib.hid (show Blk (V3.setCell ⟨w.heap.size + 1 + 1, 3, none⟩ (.int .i64 v3)) (w.heap.size + 1 + 1) 32 [.int .i64 v0, .int .i64 v1, .int .i64 v2, .int .i64 v3, .int .i64 0, .int .i64 0, .slice none 0 0, .bool false] from Blk.set HYb3.out 3 (.int .i64 v3))
  have HGc3 := Lib.hid (Blk.far HGb3.out ⟨w.heap.size + 1 + 1, 3, none⟩ (.int .i64 v3) (by show w.heap.size ≠ w.heap.size + 1 + 1; omega))
  have HZc3 := Lib.hid (HW.out.next hFc3 (Blk.far HZb3.out.2.2.1 ⟨w.heap.size + 1 + 1, 3, none⟩ (.int .i64 v3) (by show g ≠ w.heap.size + 1 + 1; omega)) HZb3.out.2.2.2.1)
  have HFc3 := Lib.hid hFc3
  clear hFc3 HZb3 HFb3 HXb3 HYb3 HGb3
  go_wp2_with fail
  clear y3 fz
  obtain ⟨U3, hU⟩ : ∃ U, (V3.setCell ⟨w.heap.size + 1 + 1, 3, none⟩ (.int .i64 v3)) = U := ⟨_, rfl⟩
  rw [hU] at HXc3 HYc3 HGc3 HZc3 HFc3 ⊢
  clear hU
  have HC := Lib.hid (qnum_any g a c l 4 s3 U3 HZc3.out (by decide) (by decide))
  rw [E4.out] at HC
  simp only at HC
  refine HC.out.mono ?_
  clear HC
  rintro e V4 ⟨rfl, hz, hf⟩
  have HZb4 := Lib.hid hz
  have HFb4 := Lib.hid (HFc3.out.trans hf (fun i h _ => h))
  have HXb4 := Lib.hid (Blk.frm HXc3.out hf (fun hh => absurd (show w.heap.size + 1 = g from hh) (by omega)))
  have HYb4 := Lib.hid (Blk.frm HYc3.out hf (fun hh => absurd (show w.heap.size + 1 + 1 = g from hh) (by omega)))
  have HGb4 := Lib.hid (Blk.frm HGc3.out hf (fun hh => absurd (show w.heap.size = g from hh) (by omega)))
  clear hz hf HZc3 HFc3 HXc3 HYc3 HGc3
  have y4 : V4.cell? ⟨w.heap.size + 1 + 1, 4, none⟩ = some (.int .i64 0) := HYb4.out.cell 4
  have fz : ∀ o, V4.frozen? ⟨w.heap.size + 1 + 1, o, none⟩ = false := fun o => fz_of (o := o) HYb4.out
  have hFc4 := Frm.setCell HFb4.out ⟨w.heap.size + 1 + 1, 4, none⟩ (.int .i64 v4) (.inr (by show w.heap.size ≤ w.heap.size + 1 + 1; omega))
  have HXc4 := Lib.hid (Blk.far HXb4.out ⟨w.heap.size + 1 + 1, 4, none⟩ (.int .i64 v4) (by show w.heap.size + 1 ≠ w.heap.size + 1 + 1; omega))
  have HYc4 := Lib.hid (show Blk (V4.setCell ⟨w.heap.size + 1 + 1, 4, none⟩ (.int .i64 v4)) (w.heap.size + 1 + 1) 32 [.int .i64 v0, .int .i64 v1, .int .i64 v2, .int .i64 v3, .int .i64 v4, .int .i64 0, .slice none 0 0, .bool false] from Blk.set HYb4.out 4 (.int .i64 v4))
  have HGc4 := Lib.hid (Blk.far HGb4.out ⟨w.heap.size + 1 + 1, 4, none⟩ (.int .i64 v4) (by show w.heap.size ≠ w.heap.size + 1 + 1; omega))
  have HZc4 := Lib.hid (HW.out.next hFc4 (Blk.far HZb4.out.2.2.1 ⟨w.heap.size + 1 + 1, 4, none⟩ (.int .i64 v4) (by show g ≠ w.heap.size + 1 + 1; omega)) HZb4.out.2.2.2.1)
  have HFc4 := Lib.hid hFc4
  clear hFc4 HZb4 HFb4 HXb4 HYb4 HGb4
  go_wp2_with fail
  clear y4 fz
  obtain ⟨U4, hU⟩ : ∃ U, (V4.setCell ⟨w.heap.size + 1 + 1, 4, none⟩ (.int .i64 v4)) = U := ⟨_, rfl⟩
  rw [hU] at HXc4 HYc4 HGc4 HZc4 HFc4 ⊢
  clear hU
  have HC := Lib.hid (qnum_any g a c l 4 s4 U4 HZc4.out (by decide) (by decide))
  rw [E5.out] at HC
  simp only at HC
  refine HC.out.mono ?_
  clear HC
  rintro e V5 ⟨rfl, hz, hf⟩
  have HZb5 := Lib.hid hz
  have HFb5 := Lib.hid (HFc4.out.trans hf (fun i h _ => h))
  have HXb5 := Lib.hid (Blk.frm HXc4.out hf (fun hh => absurd (show w.heap.size + 1 = g from hh) (by omega)))
  have HYb5 := Lib.hid (Blk.frm HYc4.out hf (fun hh => absurd (show w.heap.size + 1 + 1 = g from hh) (by omega)))
  have HGb5 := Lib.hid (Blk.frm HGc4.out hf (fun hh => absurd (show w.heap.size = g from hh) (by omega)))
  clear hz hf HZc4 HFc4 HXc4 HYc4 HGc4
  have y5 : V5.cell? ⟨w.heap.size + 1 + 1, 5, none⟩ = some (.int .i64 0) := HYb5.out.cell 5
  have fz : ∀ o, V5.frozen? ⟨w.heap.size + 1 + 1, o, none⟩ = false := fun o => fz_of (o := o) HYb5.out
  have hFc5 := Frm.setCell HFb5.out ⟨w.heap.size + 1 + 1, 5, none⟩ (.int .i64 v5) (.inr (by show w.heap.size ≤ w.heap.size + 1 + 1; omega))
  have HXc5 := Lib.hid (Blk.far HXb5.out ⟨w.heap.size + 1 + 1, 5, none⟩ (.int .i64 v5) (by show w.heap.size + 1 ≠ w.heap.size + 1 + 1; omega))
  have HYc5 := Lib.hid (show Blk (V5.setCell ⟨w.heap.size + 1 + 1, 5, none⟩ (.int .i64 v5)) (w.heap.size + 1 + 1) 32 [.int .i64 v0, .int .i64 v1, .int .i64 v2, .int .i64 v3, .int .i64 v4, .int .i64 v5, .slice none 0 0, .bool false] from Blk.set HYb5.out 5 (.int .i64 v5))
  have HGc5 := Lib.hid (Blk.far HGb5.out ⟨w.heap.size + 1 + 1, 5, none⟩ (.int .i64 v5) (by show w.heap.size ≠ w.heap.size + 1 + 1; omega))
  have HZc5 := Lib.hid (HW.out.next hFc5 (Blk.far HZb5.out.2.2.1 ⟨w.heap.size + 1 + 1, 5, none⟩ (.int .i64 v5) (by show g ≠ w.heap.size + 1 + 1; omega)) HZb5.out.2.2.2.1)
  have HFc5 := Lib.hid hFc5
  clear hFc5 HZb5 HFb5 HXb5 HYb5 HGb5
  go_wp2_with fail
  clear y5 fz
  obtain ⟨U5, hU⟩ : ∃ U, (V5.setCell ⟨w.heap.size + 1 + 1, 5, none⟩ (.int .i64 v5)) = U := ⟨_, rfl⟩
  rw [hU] at HXc5 HYc5 HGc5 HZc5 HFc5 ⊢
  clear hU
  have HC := Lib.hid (qnum_any g a c l 1 s5 U5 HZc5.out (by decide) (by decide))
  rw [E6.out] at HC
  simp only at HC
  refine HC.out.mono ?_
  clear HC
  rintro e V6 ⟨rfl, hz, hf⟩
  have HZb6 := Lib.hid hz
  have HFb6 := Lib.hid (HFc5.out.trans hf (fun i h _ => h))
  have HXb6 := Lib.hid (Blk.frm HXc5.out hf (fun hh => absurd (show w.heap.size + 1 = g from hh) (by omega)))
  have HYb6 := Lib.hid (Blk.frm HYc5.out hf (fun hh => absurd (show w.heap.size + 1 + 1 = g from hh) (by omega)))
  have HGb6 := Lib.hid (Blk.frm HGc5.out hf (fun hh => absurd (show w.heap.size = g from hh) (by omega)))
  clear hz hf HZc5 HFc5 HXc5 HYc5 HGc5
  have HC := Lib.hid (qitems_any g a c l N s6 V6 HZb6.out hN)
  rw [E7.out] at HC
  go_wp2_with fail
  refine HC.out.mono ?_
  clear HC
  rintro e V7 ⟨ao, co, rfl, ho, hz, hf⟩
  simp only at ho hz
  have hso := HFb6.out.size
  have HOb7 := Lib.hid ho
  have HSO := Lib.hid hso
  clear ho hso
  have HZb7 := Lib.hid hz
  have HFb7 := Lib.hid (HFb6.out.trans hf (fun i h _ => h))
  have HXb7 := Lib.hid (Blk.frm HXb6.out hf (fun hh => absurd (show w.heap.size + 1 = g from hh) (by omega)))
  have HYb7 := Lib.hid (Blk.frm HYb6.out hf (fun hh => absurd (show w.heap.size + 1 + 1 = g from hh) (by omega)))
  have HGb7 := Lib.hid (Blk.frm HGb6.out hf (fun hh => absurd (show w.heap.size = g from hh) (by omega)))
  clear hz hf HZb6 HFb6 HXb6 HYb6 HGb6
  have y6 : V7.cell? ⟨w.heap.size + 1 + 1, 6, none⟩ = some (.slice none 0 0) := HYb7.out.cell 6
  have fz : ∀ o, V7.frozen? ⟨w.heap.size + 1 + 1, o, none⟩ = false := fun o => fz_of (o := o) HYb7.out
  have hFc7 := Frm.setCell HFb7.out ⟨w.heap.size + 1 + 1, 6, none⟩ (.slice ao v7.length co) (.inr (by show w.heap.size ≤ w.heap.size + 1 + 1; omega))
  have HXc7 := Lib.hid (Blk.far HXb7.out ⟨w.heap.size + 1 + 1, 6, none⟩ (.slice ao v7.length co) (by show w.heap.size + 1 ≠ w.heap.size + 1 + 1; omega))
  have HYc7 := Lib.hid (show Blk (V7.setCell ⟨w.heap.size + 1 + 1, 6, none⟩ (.slice ao v7.length co)) (w.heap.size + 1 + 1) 32 [.int .i64 v0, .int .i64 v1, .int .i64 v2, .int .i64 v3, .int .i64 v4, .int .i64 v5, .slice ao v7.length co, .bool false] from Blk.set HYb7.out 6 (.slice ao v7.length co))
  have HGc7 := Lib.hid (Blk.far HGb7.out ⟨w.heap.size + 1 + 1, 6, none⟩ (.slice ao v7.length co) (by show w.heap.size ≠ w.heap.size + 1 + 1; omega))
  have HOc7 := Lib.hid (ownsRow_frm HOb7.out ((Frm.refl (fun i => i = w.heap.size + 1 + 1) V7).setCell ⟨w.heap.size + 1 + 1, 6, none⟩ (.slice ao v7.length co) (.inl rfl)) (fun k hk hh => ownsRow_ne HOb7.out HYb7.out (by decide) k hk hh))
  have HZc7 := Lib.hid (HW.out.next hFc7 (Blk.far HZb7.out.2.2.1 ⟨w.heap.size + 1 + 1, 6, none⟩ (.slice ao v7.length co) (by show g ≠ w.heap.size + 1 + 1; omega)) HZb7.out.2.2.2.1)
  have HFc7 := Lib.hid hFc7
  clear hFc7 HZb7 HFb7 HXb7 HYb7 HGb7 HOb7
  go_wp2_with fail
  clear y6 fz
  obtain ⟨U7, hU⟩ : ∃ U, (V7.setCell ⟨w.heap.size + 1 + 1, 6, none⟩ (.slice ao v7.length co)) = U := ⟨_, rfl⟩
  rw [hU] at HXc7 HYc7 HGc7 HZc7 HFc7 HOc7 ⊢
  clear hU
  have HC := Lib.hid (qnum_any g a c l 1 s7 U7 HZc7.out (by decide) (by decide))
  rw [E8.out] at HC
  simp only at HC
  refine HC.out.mono ?_
  clear HC
  rintro e V8 ⟨rfl, hz, hf⟩
  have HZb8 := Lib.hid hz
  have HFb8 := Lib.hid (HFc7.out.trans hf (fun i h _ => h))
  have HXb8 := Lib.hid (Blk.frm HXc7.out hf (fun hh => absurd (show w.heap.size + 1 = g from hh) (by omega)))
  have HYb8 := Lib.hid (Blk.frm HYc7.out hf (fun hh => absurd (show w.heap.size + 1 + 1 = g from hh) (by omega)))
  have HGb8 := Lib.hid (Blk.frm HGc7.out hf (fun hh => absurd (show w.heap.size = g from hh) (by omega)))
  have HOb8 := Lib.hid (ownsRow_frm HOc7.out hf (fun k hk hh => ownsRow_ne HOc7.out HZc7.out.2.2.1 (by decide) k hk hh))
  clear hz hf HZc7 HFc7 HXc7 HYc7 HGc7 HOc7
  have y7 : V8.cell? ⟨w.heap.size + 1 + 1, 7, none⟩ = some (.bool false) := HYb8.out.cell 7
  have fz : ∀ o, V8.frozen? ⟨w.heap.size + 1 + 1, o, none⟩ = false := fun o => fz_of (o := o) HYb8.out
  have hFc8 := Frm.setCell HFb8.out ⟨w.heap.size + 1 + 1, 7, none⟩ (.bool (v8 == 1)) (.inr (by show w.heap.size ≤ w.heap.size + 1 + 1; omega))
  have HXc8 := Lib.hid (Blk.far HXb8.out ⟨w.heap.size + 1 + 1, 7, none⟩ (.bool (v8 == 1)) (by show w.heap.size + 1 ≠ w.heap.size + 1 + 1; omega))
  have HYc8 := Lib.hid (show Blk (V8.setCell ⟨w.heap.size + 1 + 1, 7, none⟩ (.bool (v8 == 1))) (w.heap.size + 1 + 1) 32 [.int .i64 v0, .int .i64 v1, .int .i64 v2, .int .i64 v3, .int .i64 v4, .int .i64 v5, .slice ao v7.length co, .bool (v8 == 1)] from Blk.set HYb8.out 7 (.bool (v8 == 1)))
  have HGc8 := Lib.hid (Blk.far HGb8.out ⟨w.heap.size + 1 + 1, 7, none⟩ (.bool (v8 == 1)) (by show w.heap.size ≠ w.heap.size + 1 + 1; omega))
  have HOc8 := Lib.hid (ownsRow_frm HOb8.out ((Frm.refl (fun i => i = w.heap.size + 1 + 1) V8).setCell ⟨w.heap.size + 1 + 1, 7, none⟩ (.bool (v8 == 1)) (.inl rfl)) (fun k hk hh => ownsRow_ne HOb8.out HYb8.out (by decide) k hk hh))
  have HZc8 := Lib.hid (HW.out.next hFc8 (Blk.far HZb8.out.2.2.1 ⟨w.heap.size + 1 + 1, 7, none⟩ (.bool (v8 == 1)) (by show g ≠ w.heap.size + 1 + 1; omega)) HZb8.out.2.2.2.1)
  have HFc8 := Lib.hid hFc8
  clear hFc8 HZb8 HFb8 HXb8 HYb8 HGb8 HOb8
  have hX5 : Blk ((V8.setCell ⟨w.heap.size + 1 + 1, 7, none⟩ (.bool (v8 == 1))).setCells (w.heap.size + 1) 17 [.int .i64 v0, .int .i64 v1, .int .i64 v2, .int .i64 v3, .int .i64 v4, .int .i64 v5, .slice ao v7.length co, .bool (v8 == 1)]) (w.heap.size + 1) 46 [.int .i64 4, .int .i64 0, .int .i64 0, .int .i64 0, .int .i64 0, .int .i64 0, .int .i64 0, .int .i64 0, .int .i64 0, .int .i64 0, .int .i64 0, .string ⟨#[]⟩, .int .i64 0, .int .i64 0, .bool false, .int .i64 0, .string ⟨#[]⟩, .int .i64 v0, .int .i64 v1, .int .i64 v2, .int .i64 v3, .int .i64 v4, .int .i64 v5, .slice ao v7.length co, .bool (v8 == 1), .int .i64 0, .int .i64 0] := Blk.setCells [.int .i64 v0, .int .i64 v1, .int .i64 v2, .int .i64 v3, .int .i64 v4, .int .i64 v5, .slice ao v7.length co, .bool (v8 == 1)] HXc8.out 17 (by show 17 + 8 ≤ 27; decide)
  have hF5 : Frm (fun i => i = w.heap.size + 1) (V8.setCell ⟨w.heap.size + 1 + 1, 7, none⟩ (.bool (v8 == 1))) ((V8.setCell ⟨w.heap.size + 1 + 1, 7, none⟩ (.bool (v8 == 1))).setCells (w.heap.size + 1) 17 [.int .i64 v0, .int .i64 v1, .int .i64 v2, .int .i64 v3, .int .i64 v4, .int .i64 v5, .slice ao v7.length co, .bool (v8 == 1)]) := fsetCells [.int .i64 v0, .int .i64 v1, .int .i64 v2, .int .i64 v3, .int .i64 v4, .int .i64 v5, .slice ao v7.length co, .bool (v8 == 1)] 17 (V8.setCell ⟨w.heap.size + 1 + 1, 7, none⟩ (.bool (v8 == 1)))
  have HTH := Lib.hid (HXc8.out.there 17 8 (by show 17 + 8 ≤ 27; decide))
  have HF5 := Lib.hid (HFc8.out.trans hF5 (fun i hi hl => by have hi' : i = w.heap.size + 1 := hi; omega))
  have HX5 := Lib.hid hX5
  have HG5 := Lib.hid (Blk.frm HGc8.out hF5 (fun hh => absurd (show w.heap.size = w.heap.size + 1 from hh) (by omega)))
  have HZ5 := Lib.hid (Blk.frm HZc8.out.2.2.1 hF5 (fun hh => absurd (show g = w.heap.size + 1 from hh) (by omega)))
  have HO5 := Lib.hid (ownsRow_frm HOc8.out hF5 (fun k hk hh => ownsRow_ne HOc8.out HXc8.out (by decide) k hk hh))
  obtain ⟨U5, hU5⟩ : ∃ U, ((V8.setCell ⟨w.heap.size + 1 + 1, 7, none⟩ (.bool (v8 == 1))).setCells (w.heap.size + 1) 17 [.int .i64 v0, .int .i64 v1, .int .i64 v2, .int .i64 v3, .int .i64 v4, .int .i64 v5, .slice ao v7.length co, .bool (v8 == 1)]) = U := ⟨_, rfl⟩
  rw [hU5] at HX5 HG5 HZ5 HF5 HO5
  have HQ5 := Lib.hid (show (V8.setCell ⟨w.heap.size + 1 + 1, 7, none⟩ (.bool (v8 == 1))).setCells (w.heap.size + 1) 17 #[.int .i64 v0, .int .i64 v1, .int .i64 v2, .int .i64 v3, .int .i64 v4, .int .i64 v5, .slice ao v7.length co, .bool (v8 == 1)].toList = U5 from hU5)
  clear hX5 hF5 hU5
  go_wp2_with (first | (refine wpList_load_row rfl 32 _ rfl (w.heap.size + 1 + 1) rfl _ #[.int .i64 v0, .int .i64 v1, .int .i64 v2, .int .i64 v3, .int .i64 v4, .int .i64 v5, .slice ao v7.length co, .bool (v8 == 1)] (0, 0) _ HYc8.out Try.underlying32 rfl isz_reply ?_) | ((refine wpList_store_mid rfl 32 _ _ rfl (w.heap.size + 1) 17 #[.int .i64 v0, .int .i64 v1, .int .i64 v2, .int .i64 v3, .int .i64 v4, .int .i64 v5, .slice ao v7.length co, .bool (v8 == 1)] rfl rfl HTH.out isz_reply (by simp [Value.oneCell']) ?_); rw [HQ5.out]) | (refine wpList_load_row rfl 46 _ rfl (w.heap.size + 1) rfl _ #[.int .i64 4, .int .i64 0, .int .i64 0, .int .i64 0, .int .i64 0, .int .i64 0, .int .i64 0, .int .i64 0, .int .i64 0, .int .i64 0, .int .i64 0, .string ⟨#[]⟩, .int .i64 0, .int .i64 0, .bool false, .int .i64 0, .string ⟨#[]⟩, .int .i64 v0, .int .i64 v1, .int .i64 v2, .int .i64 v3, .int .i64 v4, .int .i64 v5, .slice ao v7.length co, .bool (v8 == 1), .int .i64 0, .int .i64 0] (0, 0) _ HX5.out Try.underlying46 rfl isz_msg ?_) | (refine wpList_store_row rfl 46 _ _ rfl w.heap.size #[.int .i64 4, .int .i64 0, .int .i64 0, .int .i64 0, .int .i64 0, .int .i64 0, .int .i64 0, .int .i64 0, .int .i64 0, .int .i64 0, .int .i64 0, .string ⟨#[]⟩, .int .i64 0, .int .i64 0, .bool false, .int .i64 0, .string ⟨#[]⟩, .int .i64 v0, .int .i64 v1, .int .i64 v2, .int .i64 v3, .int .i64 v4, .int .i64 v5, .slice ao v7.length co, .bool (v8 == 1), .int .i64 0, .int .i64 0] rfl rfl _ #[.int .i64 0, .int .i64 0, .int .i64 0, .int .i64 0, .int .i64 0, .int .i64 0, .int .i64 0, .int .i64 0, .int .i64 0, .int .i64 0, .int .i64 0, .string ⟨#[]⟩, .int .i64 0, .int .i64 0, .bool false, .int .i64 0, .string ⟨#[]⟩, .int .i64 0, .int .i64 0, .int .i64 0, .int .i64 0, .int .i64 0, .int .i64 0, .slice none 0 0, .bool false, .int .i64 0, .int .i64 0] HG5.out isz_msg rfl (by simp [Value.oneCell']) ?_))
  have hS := setRow_heap U5 w.heap.size #[.int .i64 0, .int .i64 0, .int .i64 0, .int .i64 0, .int .i64 0, .int .i64 0, .int .i64 0, .int .i64 0, .int .i64 0, .int .i64 0, .int .i64 0, .string ⟨#[]⟩, .int .i64 0, .int .i64 0, .bool false, .int .i64 0, .string ⟨#[]⟩, .int .i64 0, .int .i64 0, .int .i64 0, .int .i64 0, .int .i64 0, .int .i64 0, .slice none 0 0, .bool false, .int .i64 0, .int .i64 0] #[.int .i64 4, .int .i64 0, .int .i64 0, .int .i64 0, .int .i64 0, .int .i64 0, .int .i64 0, .int .i64 0, .int .i64 0, .int .i64 0, .int .i64 0, .string ⟨#[]⟩, .int .i64 0, .int .i64 0, .bool false, .int .i64 0, .string ⟨#[]⟩, .int .i64 v0, .int .i64 v1, .int .i64 v2, .int .i64 v3, .int .i64 v4, .int .i64 v5, .slice ao v7.length co, .bool (v8 == 1), .int .i64 0, .int .i64 0] 46 (0, 0) HG5.out
  have hfr : Frm (fun k => k = w.heap.size) U5 (U5.setRow w.heap.size #[.int .i64 4, .int .i64 0, .int .i64 0, .int .i64 0, .int .i64 0, .int .i64 0, .int .i64 0, .int .i64 0, .int .i64 0, .int .i64 0, .int .i64 0, .string ⟨#[]⟩, .int .i64 0, .int .i64 0, .bool false, .int .i64 0, .string ⟨#[]⟩, .int .i64 v0, .int .i64 v1, .int .i64 v2, .int .i64 v3, .int .i64 v4, .int .i64 v5, .slice ao v7.length co, .bool (v8 == 1), .int .i64 0, .int .i64 0]) := fsetRow #[.int .i64 4, .int .i64 0, .int .i64 0, .int .i64 0, .int .i64 0, .int .i64 0, .int .i64 0, .int .i64 0, .int .i64 0, .int .i64 0, .int .i64 0, .string ⟨#[]⟩, .int .i64 0, .int .i64 0, .bool false, .int .i64 0, .string ⟨#[]⟩, .int .i64 v0, .int .i64 v1, .int .i64 v2, .int .i64 v3, .int .i64 v4, .int .i64 v5, .slice ao v7.length co, .bool (v8 == 1), .int .i64 0, .int .i64 0]
  have HOz := Lib.hid (ownsRow_frm HO5.out hfr (fun k hk hh => ownsRow_ne HO5.out HG5.out (by decide) k hk hh))
  have hf : Frm (fun i => i = g) w (U5.setRow w.heap.size #[.int .i64 4, .int .i64 0, .int .i64 0, .int .i64 0, .int .i64 0, .int .i64 0, .int .i64 0, .int .i64 0, .int .i64 0, .int .i64 0, .int .i64 0, .string ⟨#[]⟩, .int .i64 0, .int .i64 0, .bool false, .int .i64 0, .string ⟨#[]⟩, .int .i64 v0, .int .i64 v1, .int .i64 v2, .int .i64 v3, .int .i64 v4, .int .i64 v5, .slice ao v7.length co, .bool (v8 == 1), .int .i64 0, .int .i64 0]) := HF5.out.trans hfr (fun i hi hl => by have hi' : i = w.heap.size := hi; omega)
  refine bodyPost_ret (results_cell_row rfl _ _ w.heap.size 46 #[.int .i64 4, .int .i64 0, .int .i64 0, .int .i64 0, .int .i64 0, .int .i64 0, .int .i64 0, .int .i64 0, .int .i64 0, .int .i64 0, .int .i64 0, .string ⟨#[]⟩, .int .i64 0, .int .i64 0, .bool false, .int .i64 0, .string ⟨#[]⟩, .int .i64 v0, .int .i64 v1, .int .i64 v2, .int .i64 v3, .int .i64 v4, .int .i64 v5, .slice ao v7.length co, .bool (v8 == 1), .int .i64 0, .int .i64 0] (0, 0) _ rfl hS Try.underlying46 rfl isz_msg) rfl ?_
  exact ⟨(⟨0, 0, 0, 0, 0, 0, 0, 0, 0, 0, ⟨#[]⟩, 0, 0, false, 0, ⟨#[]⟩, v0, v1, v2, v3, v4, v5, ao, co, v7, (v8 == 1), 0, 0⟩ : P5), rfl, rfl, HW.out.next hf (Blk.frm HZ5.out hfr (fun hh => absurd (show g = w.heap.size from hh) (by omega))) HZc8.out.2.2.2.1, ⟨ownsRow_rdE (enc := KeyL.cells) (size := 2) (fun _ => rfl) rfl HOz.out, HT.out, Nat.zero_le 2000, Nat.zero_le 2000⟩, hf, fun b o sp hh => Nat.le_trans HSO.out (own_fresh HOz.out b o sp hh)⟩
end Go.Proofs.Ytjhkdbcfkaaffaa
