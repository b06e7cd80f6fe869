/- Both Merges tell. -/
import Derived.Test.YtjacebnjmhbcbaaMj0
namespace Go.Proofs.Ytjacebnjmhbcbaa
open Go.RowKit
set_option linter.unusedVariables false

/-- what Tell handed out, and both Merges: the row may be written over -/
def J2a (w0 W : World) (p q : Nat) (n : Int) (S : List PS) (T : List KeyL) (S' : List PS) (T' : List KeyL) (base : Nat) (l : Value) (k : Nat) (xs : List Value) : Prop := W.ownsRow base 31 2 l k xs ∧ w0.heap.size ≤ base ∧ ∃ (gs c : Nat) (M : List MS) (sp : List Value) (ta : Option Addr) (tc : Nat) (qs c' : Nat) (R : List MS) (sp' : List Value) (ta' : Option Addr) (tc' : Nat),
  MGx w0.heap.size W p n S T gs c M sp ta tc ∧ RMx W q n S' T' qs c' R sp' ta' tc' ∧ (∀ k, RItems ta' R k → k ≠ qs ∧ k ≠ q ∧ k ≠ gs ∧ k ≠ p ∧ (Value.slice ta T.length tc).ownBlock ≠ some k) ∧ w0.heap.size ≤ q ∧ w0.heap.size ≤ qs ∧ Below w0.heap.size w0 W ∧ (T.length : Int) ≤ n ∧ (T'.length : Int) ≤ n ∧ ApartL l (.slice ta T.length tc) M ∧ ∀ k, RItems ta' R k → l.ownBlock ≠ some k
theorem J2a.j {w0 W : World} {p q : Nat} {n : Int} {S S' : List PS} {T T' : List KeyL} {base : Nat} {l : Value} {k : Nat} {xs : List Value} (h : J2a w0 W p q n S T S' T' base l k xs) : J2 w0 W p q n S T S' T' := by
  obtain ⟨ho, hb, gs, c, M, sp, ta, tc, qs, c', R, sp', ta', tc', h1, h2, h3, h4, h5, h6, h7, h8, h9, h10⟩ := h
  exact ⟨gs, c, M, sp, ta, tc, qs, c', R, sp', ta', tc', h1, h2, h3, h4, h5, h6, h7, h8⟩
theorem J2a.below {w0 W W' : World} {p q : Nat} {n : Int} {S S' : List PS} {T T' : List KeyL} {base : Nat} {l : Value} {k : Nat} {xs : List Value} (h : J2a w0 W p q n S T S' T' base l k xs) (hb : Below W.heap.size W W') : J2a w0 W' p q n S T S' T' base l k xs := by
  obtain ⟨ho, hb0, gs, c, M, sp, ta, tc, qs, c', R, sp', ta', tc', h1, h2, h3, h4, h5, h6, h7, h8, h9, h10⟩ := h
  exact ⟨ownsRow_frm (S := fun _ => False) ho (Frm.below hb) (fun _ _ h => h.elim), hb0, gs, c, M, sp, ta, tc, qs, c', R, sp', ta', tc', h1.below hb, h2.below hb, h3, h4, h5, h6.trans (hb.mono h6.size), h7, h8, h9, h10⟩
/-- the row was written over -/
theorem J2a.over {w0 W W' : World} {p q : Nat} {n : Int} {S S' : List PS} {T T' : List KeyL} {base : Nat} {l : Value} {k : Nat} {xs : List Value} (h : J2a w0 W p q n S T S' T' base l k xs) (hf : Frm (fun i => l.ownBlock = some i) W W') : J2 w0 W' p q n S T S' T' := by
  obtain ⟨ho, hb0, gs, c, M, sp, ta, tc, qs, c', R, sp', ta', tc', h1, h2, h3, h4, h5, h6, h7, h8, h9, h10⟩ := h
  exact ⟨gs, c, M, sp, ta, tc, qs, c', R, sp', ta', tc', h1.far ho h9 hf, h2.keep hf (fun j hj => ⟨ownsRow_ne ho h2.P (by decide) j hj, ownsRow_ne ho h2.G (by decide) j hj, fun h => h10 j h hj⟩), h3, h4, h5, h6.trans (hf.toBelow h6.size (fun i hi e => by have := own_ge ho i e; omega)), h7, h8⟩
theorem tellA_len {n : Int} : ∀ (f : Nat) (S : List PS) (T out : List KeyL), (T.length : Int) ≤ n → ((tellA n f S T out).2.2.length : Int) ≤ n
  | 0, S, T, out, h => h
  | f + 1, S, T, out, h => by
    unfold tellA
    cases hs : stepP n S T with
    | none => exact h
    | some y =>
      obtain ⟨x, b, s⟩ := y
      simp only
      refine tellA_len f _ _ _ ?_
      have hd : doneP n S T = false := by
        cases hd : doneP n S T with
        | false => rfl
        | true => rw [step_done hd] at hs; cases hs
      have := not_done hd h
      rw [List.length_append, List.length_singleton]
      omega
theorem own_ty {w : World} {base e size n : Nat} {v : Value} {xs : List Value} (h : w.ownsRow base e size v n xs) {k : Nat} (hk : v.ownBlock = some k) : ∃ cs, Blk w k e cs := by
  rcases h.2 with h2 | ⟨g, cap, cur, hv, hb, hg, h3⟩
  · rw [h2.1] at hk; simp [Value.ownBlock] at hk
  · rw [hv] at hk
    simp only [Value.ownBlock, Option.some.injEq] at hk
    subst hk
    exact ⟨cur.toList, by unfold Blk; rw [hg]⟩
theorem tellA_out {n : Int} : ∀ (f : Nat) (S : List PS) (T out : List KeyL), (tellA n f S T out).1.length ≤ out.length + f
  | 0, S, T, out => Nat.le_refl _
  | f + 1, S, T, out => by
    unfold tellA
    cases hs : stepP n S T with
    | none => simp only; omega
    | some y =>
      obtain ⟨x, b, s⟩ := y
      simp only
      have := tellA_out (n := n) f (S.set b s) (T ++ [x]) (out ++ [x])
      rw [List.length_append, List.length_singleton] at this
      omega
/-- what may have changed is no act -/
def NoAct (w w' : World) : Prop := Frm (fun i => ∃ t cs, Blk w i t cs ∧ t ≠ 46) w w'
theorem NoAct.blk {w w' : World} (h : NoAct w w') {k : Nat} {cs : List Value} (hb : Blk w k 46 cs) : Blk w' k 46 cs := hb.frm h (fun ⟨t, cs', h', hn⟩ => blk_ne h' hb hn rfl)
theorem j_mtell {w0 w : World} {p q : Nat} {n : Int} {S S' S2 : List PS} {T T' T2 l : List KeyL} (h : J2 w0 w p q n S T S' T') (he : tellP n S T = (l, S2, T2)) :
    Calls Try.prog 25 #[.pointer (some ⟨p, 0, none⟩)] w fun e w' => ∃ ao c, e = .returned (.slice ao l.length c) ∧ J2a w0 w' p q n S2 T2 S' T' w.heap.size (.slice ao l.length c) l.length (l.flatMap KeyL.cells) ∧ NoAct w w' := by
  obtain ⟨gs, c, M, sp, ta, tc, qs, c', R, sp', ta', tc', h1, h2, h3, h4, h5, h6, h7, h8⟩ := h
  refine (tell_any w0.heap.size p n S T w gs c M sp ta tc h1 h7 h6.size).mono ?_
  have hl : (T2.length : Int) ≤ n := by
    have := tellA_len (n := n) (n.toNat - T.length) S T [] h7
    rw [show tellA n (n.toNat - T.length) S T [] = (l, S2, T2) from he] at this
    exact this
  rw [he]
  rintro e w' ⟨ao, c2, rfl, ho, ⟨M', ta2, tc2, hM, htb, hap⟩, hf⟩
  have hit := h2.itlt
  have hR2 := h2.keep hf (fun k hk => by
    rcases hk with rfl | rfl | hk
    · exact ⟨blk_ne h1.P h2.P (by decide), blk_ne h1.P h2.G (by decide), fun h => (h3 _ h).2.2.2.1 rfl⟩
    · exact ⟨blk_ne h1.G h2.P (by decide), blk_ne h1.G h2.G (by decide), fun h => (h3 _ h).2.2.1 rfl⟩
    · exact ⟨ownsRow_ne h1.told h2.P (by decide) k hk, ownsRow_ne h1.told h2.G (by decide) k hk, fun h => (h3 _ h).2.2.2.2 hk⟩)
  refine ⟨ao, c2, rfl, ⟨ho, h6.size, gs, c, M', sp, ta2, tc2, qs, c', R, sp', ta', tc', hM, hR2, fun k h => ?_, h4, h5, h6.trans (hf.toBelow h6.size (fun i hi e => ?_)), hl, h8, hap, fun k h e => ?_⟩, hf.mono (fun i e _ => ?_)⟩
  · obtain ⟨a1, a2, a3, a4, a5⟩ := h3 k h
    refine ⟨a1, a2, a3, a4, fun e => ?_⟩
    rcases htb k e with h9 | h9
    · exact a5 h9
    · have := hit k h; omega
  · rcases e with e | e | e
    · have := h1.bp; omega
    · have := h1.bg; omega
    · have := own_ge h1.told i e; omega
  · have h9 := own_ge ho k e
    have := hit k h
    omega
  · rcases e with rfl | rfl | e
    · exact ⟨_, _, h1.P, by decide⟩
    · exact ⟨_, _, h1.G, by decide⟩
    · obtain ⟨cs, hb⟩ := own_ty h1.told e
      exact ⟨_, cs, hb, by decide⟩
theorem j_rtell {w0 w : World} {p q : Nat} {n : Int} {S S' S2 : List PS} {T T' T2 l : List KeyL} {base k : Nat} {lv : Value} {xs : List Value} (h : J2a w0 w p q n S T S' T' base lv k xs) (he : tellP n S' T' = (l, S2, T2)) :
    Calls Try.prog 27 #[.pointer (some ⟨q, 0, none⟩)] w fun e w' => ∃ ao c, e = .returned (.slice ao l.length c) ∧ RdE KeyL.cells 2 w' ao l.length c l ∧ J2a w0 w' p q n S T S2 T2 base lv k xs ∧ NoAct w w' := by
  obtain ⟨ho, hb0, gs, c, M, sp, ta, tc, qs, c', R, sp', ta', tc', h1, h2, h3, h4, h5, h6, h7, h8, h9, h10⟩ := h
  refine (rtell_any q n S' T' w qs c' R sp' ta' tc' h2 h8 (fun k h => ⟨(h3 k h).1, (h3 k h).2.1⟩)).mono ?_
  have hl : (T2.length : Int) ≤ n := by
    have := tellA_len (n := n) (n.toNat - T'.length) S' T' [] h8
    rw [show tellA n (n.toNat - T'.length) S' T' [] = (l, S2, T2) from he] at this
    exact this
  rw [he]
  rintro e w' ⟨ao, c2, rfl, hor, ⟨R', ta2, tc2, hR, hI⟩, hf⟩
  have ho2 := ownsRow_frm ho hf (fun j hj e => by
    rcases e with rfl | rfl
    · exact ownsRow_ne ho h2.P (by decide) _ hj rfl
    · exact ownsRow_ne ho h2.G (by decide) _ hj rfl)
  refine ⟨ao, c2, rfl, ownsRow_rdE (enc := KeyL.cells) (fun _ => rfl) rfl hor, ⟨ho2, hb0, gs, c, M, sp, ta, tc, qs, c', R', sp', ta2, tc2, h1.keepR h2 hf (fun k h => h), hR, fun j h => ?_, h4, h5, h6.trans (hf.toBelow h6.size (fun i hi e => by rcases e with e | e <;> omega)), h7, hl, h9, fun j h e => ?_⟩, hf.mono (fun i e _ => by rcases e with rfl | rfl; exact ⟨_, _, h2.P, by decide⟩; exact ⟨_, _, h2.G, by decide⟩)⟩
  · rcases hI j h with h | h
    · exact h3 j h
    · have a1 := h2.G.lt; have a2 := h2.P.lt; have a3 := h1.G.lt; have a4 := h1.P.lt
      exact ⟨by omega, by omega, by omega, by omega, fun e => by have := (h1.told.lt j e).2; omega⟩
  · rcases hI j h with h | h
    · exact h10 j h e
    · have := (ho.lt j e).2; omega
end Go.Proofs.Ytjacebnjmhbcbaa
