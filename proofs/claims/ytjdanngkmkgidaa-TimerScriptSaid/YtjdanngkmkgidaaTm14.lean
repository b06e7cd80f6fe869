/- What each call on a Timers does, told by the list of its moments. -/
import Derived.Test.YtjdanngkmkgidaaTm13
namespace Go.Proofs.Ytjdanngkmkgidaa
open Go.RowKit
set_option linter.unusedVariables false

/-- a Timers at p, its moments in order L; go: the block that they lie in -/
def TL (w : World) (p : Nat) (go : Option Nat) (most : Int) (L : List One) : Prop :=
  ∃ ao n c f, TM w p most ao n c f ∧ Rep f n L ∧ idsOK L ∧ go = (Value.slice ao n c).ownBlock ∧ (n : Int) ≤ most ∧ most ≤ 24
def setL (most : Int) (L : List One) (id at_ : Int) : Int × List One :=
  if id < 0 ∨ at_ < 0 ∨ 1099511627776 < at_ then (2, L) else if hasL id L = true then (0, insL (at_, id) (cancelL id L)) else if (L.length : Int) = most then (3, L) else (0, insL (at_, id) L)
theorem TL.frm {S : Nat → Prop} {w w' : World} {p : Nat} {go : Option Nat} {most : Int} {L : List One} (h : TL w p go most L) (hf : Frm S w w') (hp : ¬ S p) (hg : ∀ k, go = some k → ¬ S k) : TL w' p go most L := by
  obtain ⟨ao, n, c, f, h1, h2, h3, h4, h5⟩ := h
  exact ⟨ao, n, c, f, h1.frm hf hp (fun k hk => hg k (h4.trans hk)), h2, h3, h4, h5⟩
theorem TL.below {w w' : World} {p : Nat} {go : Option Nat} {most : Int} {L : List One} (h : TL w p go most L) (hb : Below w.heap.size w w') : TL w' p go most L :=
  h.frm (Frm.below (S := fun _ => False) hb) id (fun _ _ => id)
theorem TL.lt {w : World} {p : Nat} {go : Option Nat} {most : Int} {L : List One} (h : TL w p go most L) : p < w.heap.size ∧ ∀ k, go = some k → k < w.heap.size := by
  obtain ⟨ao, n, c, f, h1, h2, h3, h4, h5⟩ := h
  exact ⟨h1.blk.lt, fun k hk => (h1.own.lt k (h4.symm.trans hk)).2⟩
theorem TL.len {w : World} {p : Nat} {go : Option Nat} {most : Int} {L : List One} (h : TL w p go most L) : (L.length : Int) ≤ most ∧ most ≤ 24 := by
  obtain ⟨ao, n, c, f, h1, h2, h3, h4, h5⟩ := h
  rw [h2.len]; exact h5
theorem TL.ids {w : World} {p : Nat} {go : Option Nat} {most : Int} {L : List One} (h : TL w p go most L) : idsOK L ∧ L.Pairwise leO := by
  obtain ⟨ao, n, c, f, h1, h2, h3, h4, h5⟩ := h
  exact ⟨h3, h2.sort⟩
theorem TL.new (w : World) (most : Int) (h1 : 1 ≤ most) (h2 : most ≤ 24) : TL (w.alloc (.cells #[.int .i64 most, .slice none 0 0] 78)) w.heap.size none most [] :=
  ⟨none, 0, 0, fun _ => (0, 0), ⟨heap_alloc_new w _, rfl, World.ownsRow_nil _ _ _ _, by decide⟩, ⟨fun k h1 h2 => by omega, List.Perm.refl _, List.Pairwise.nil⟩, List.nodup_nil, rfl, by omega, h2⟩
theorem t_new (most : Int) (w : World) (h1 : 1 ≤ most) (h2 : most ≤ 24) :
   Calls Try.prog 12 #[.int .i64 most] w fun e w' => e = .returned (.tuple #[.pointer (some ⟨w.heap.size, 0, none⟩), .int .i64 0]) ∧ TL w' w.heap.size none most [] ∧ Below w.heap.size w w' :=
  (new_any most w h1 h2).mono fun e w' h => ⟨h.1, by rw [h.2]; exact TL.new w most h1 h2, by rw [h.2]; exact (Below.refl _ _).alloc (Nat.le_refl _) _⟩
theorem t_at (p : Nat) (id : Int) (w : World) (go : Option Nat) (most : Int) (L : List One) (h : TL w p go most L) :
   Calls Try.prog 18 #[.pointer (some ⟨p, 0, none⟩), .int .i64 id] w fun e w' => e = .returned (.tuple #[.int .i64 (atL id L).1, .bool (atL id L).2]) ∧ Below w.heap.size w w' := by
  obtain ⟨ao, n, c, f, h1, h2, h3, h4, h5, h6⟩ := h
  have := at_any p id w most ao n c f h1 (by omega)
  rw [rep_at h2 h3 id] at this
  exact this
theorem t_len (p : Nat) (w : World) (go : Option Nat) (most : Int) (L : List One) (h : TL w p go most L) :
   Calls Try.prog 17 #[.pointer (some ⟨p, 0, none⟩)] w fun e w' => e = .returned (.int .i64 (L.length : Nat)) ∧ w = w' := by
  obtain ⟨ao, n, c, f, h1, h2, h3, h4, h5, h6⟩ := h
  have := tlen_any p w most ao n c f h1
  rw [← h2.len] at this
  exact this
def dueL (now : Int) (L : List One) : List Int := (L.takeWhile (fun x => decide (x.1 ≤ now))).map (·.2)
theorem dueL_len (now : Int) (L : List One) : (dueL now L).length ≤ L.length := by unfold dueL; rw [List.length_map]; exact (List.takeWhile_sublist _).length_le
theorem t_due (p : Nat) (now : Int) (w : World) (go : Option Nat) (most : Int) (L : List One) (h : TL w p go most L) :
   Calls Try.prog 16 #[.pointer (some ⟨p, 0, none⟩), .int .i64 now] w fun e w' => ∃ ao2 c2, e = .returned (.slice ao2 (dueL now L).length c2) ∧ w'.ownsRow w.heap.size 3 1 (.slice ao2 (dueL now L).length c2) (dueL now L).length ((dueL now L).map (Value.int .i64)) ∧ Below w.heap.size w w' := by
  obtain ⟨ao, n, c, f, h1, h2, h3, h4, h5, h6⟩ := h
  refine (due_any p now w most ao n c f h1 (by omega)).mono ?_
  rintro e w' ⟨ao2, k, c2, R, rfl, hR, rfl, ho, hb⟩
  rw [rep_due n f L now h2] at hR
  have hR' : R = dueL now L := hR
  subst hR'
  exact ⟨ao2, c2, rfl, ho, hb⟩
theorem t_cancel (p : Nat) (id : Int) (w : World) (go : Option Nat) (most : Int) (L : List One) (h : TL w p go most L) :
   Calls Try.prog 19 #[.pointer (some ⟨p, 0, none⟩), .int .i64 id] w fun e w' => e = .returned (.bool (hasL id L)) ∧ TL w' p go most (cancelL id L) ∧ Frm (fun i => i = p ∨ go = some i) w w' := by
  have h0 := h
  obtain ⟨ao, n, c, f, h1, h2, h3, h4, h5, h6⟩ := h
  rcases has_fnd h2 id with ⟨e1, e2⟩ | ⟨e1, k, e2, e3, e4⟩
  · rw [e1, cancelL_no e1]
    exact (cancel_no p id w most ao n c f h1 (by omega) e2).mono fun e w' hh => ⟨hh.1, h0.below hh.2, Frm.below hh.2⟩
  · rw [e1]
    obtain ⟨m, rfl⟩ : ∃ m, n = m + 1 := ⟨n - 1, by omega⟩
    refine (cancel_yes p id w most ao m c k f h1 (by omega) e2 (by omega)).mono ?_
    rintro e w' ⟨he, hT, hF⟩
    have hr := rep_cancel h2 h3 id (by omega) e4
    obtain ⟨g, sp, rfl, _⟩ := h1.open_ (Nat.succ_pos m)
    exact ⟨he, ⟨_, m, c, _, hT, hr, cancelL_ids id h3, h4, by omega, h6⟩, hF.mono (fun i hi _ => hi.imp (fun h => h) (fun e => h4.trans e))⟩
theorem t_set (p : Nat) (id at_ : Int) (w : World) (go : Option Nat) (most : Int) (L : List One) (h : TL w p go most L) :
   Calls Try.prog 13 #[.pointer (some ⟨p, 0, none⟩), .int .i64 id, .int .i64 at_] w fun e w' => ∃ go', e = .returned (.int .i64 (setL most L id at_).1) ∧ TL w' p go' most (setL most L id at_).2 ∧ Frm (fun i => i = p ∨ go = some i) w w' ∧ (go' = go ∨ ∃ g, go' = some g ∧ w.heap.size ≤ g) := by
  have h0 := h
  obtain ⟨ao, n, c, f, h1, h2, h3, h4, h5, h6⟩ := h
  unfold setL
  by_cases hx : id < 0 ∨ at_ < 0 ∨ 1099511627776 < at_
  · rw [if_pos hx]
    exact (set_arg p id at_ w most ao n c f h1 (by omega) hx).mono fun e w' hh => ⟨go, hh.1, h0.below hh.2, Frm.below hh.2, .inl rfl⟩
  · rw [if_neg hx]
    have a1 : 0 ≤ id := by omega
    have a2 : 0 ≤ at_ := by omega
    have a3 : at_ ≤ 1099511627776 := by omega
    rcases has_fnd h2 id with ⟨e1, e2⟩ | ⟨e1, k, e2, e3, e4⟩
    · rw [if_neg (by rw [e1]; exact Bool.false_ne_true), h2.len]
      by_cases hm : (n : Int) = most
      · rw [if_pos hm]
        exact (set_full p id at_ w most ao n c f h1 (by omega) a1 a2 a3 e2 hm).mono fun e w' hh => ⟨go, hh.1, h0.below hh.2, Frm.below hh.2, .inl rfl⟩
      · rw [if_neg hm]
        refine (set_new p id at_ w most ao n c f h1 (by omega) a1 a2 a3 e2 hm).mono ?_
        rintro e w' ⟨g', c', he, hT, hF, hl⟩
        refine ⟨some g', he, ⟨_, n + 1, c', _, hT, rep_new h2 (at_, id), insL_ids h3 e1, rfl, by omega, h6⟩, hF.mono (fun i hi _ => hi.imp (fun h => h) (fun e => h4.trans e)), ?_⟩
        rcases hl with hl | hl
        · exact .inl (h4.trans hl).symm
        · exact .inr ⟨g', rfl, hl⟩
    · rw [if_pos e1]
      refine (set_old p id at_ w most ao n c k f h1 (by omega) a1 a2 a3 e2 e3).mono ?_
      rintro e w' ⟨he, hT, hF⟩
      exact ⟨go, he, ⟨_, n, c, _, hT, rep_old h2 h3 id at_ e3 e4, insL_ids (cancelL_ids id h3) (cancel_has id h3), h4, h5, h6⟩, hF.mono (fun i hi _ => hi.imp (fun h => h) (fun e => h4.trans e)), .inl rfl⟩
end Go.Proofs.Ytjdanngkmkgidaa
