/- Both Merges put, beside a row that is lent; Seq stays small. -/
import Derived.Test.YtjacebnjmhbcbaaMj1
namespace Go.Proofs.Ytjacebnjmhbcbaa
open Go.RowKit
set_option linter.unusedVariables false

/-- a row that is new lies apart -/
theorem J2.lend {w0 w w' : World} {p q : Nat} {n : Int} {S S' : List PS} {T T' : List KeyL} (h : J2 w0 w p q n S T S' T') (hb : Below w.heap.size w w') {l : Value} {k : Nat} {xs : List Value} (ho : w'.ownsRow w.heap.size 31 2 l k xs) : J2a w0 w' p q n S T S' T' w.heap.size l k xs := by
  obtain ⟨gs, c, M, sp, ta, tc, qs, c', R, sp', ta', tc', h1, h2, h3, h4, h5, h6, h7, h8⟩ := h
  refine ⟨ho, h6.size, gs, c, M, sp, ta, tc, qs, c', R, sp', ta', tc', h1.below hb, h2.below hb, h3, h4, h5, h6.trans (hb.mono h6.size), h7, h8, ?_, fun j hj e => ?_⟩
  · intro j hj
    have hge := own_ge ho j hj
    refine ⟨fun e => ?_, fun i m hm b o s e e2 => ?_⟩
    · have := (h1.told.lt j e).2; omega
    · have hi := (List.getElem?_eq_some_iff.1 hm).1
      obtain ⟨cs, hbk⟩ := (h1.sh i m _ hm (List.getElem?_eq_getElem (show i < S.length by rw [← h1.len]; exact hi))).ty b o s e
      have := hbk.lt
      omega
  · have h9 := own_ge ho j e
    have := h2.itlt j hj
    omega
theorem ja_mput {w0 w : World} {p q : Nat} {n : Int} {S S' S2 : List PS} {T T' l : List KeyL} {i seq : Int} {e r : Bool} {a : Option Addr} {m cap base k : Nat} {lv : Value} {xs : List Value} (h : J2a w0 w p q n S T S' T' base lv k xs) (hr : RdE KeyL.cells 2 w a m cap l) (hs : ∀ s ∈ S, 0 ≤ s.seq ∧ s.seq ≤ 1000000) (he : putP n S T i seq l e = (r, S2)) :
    Calls Try.prog 13 #[.pointer (some ⟨p, 0, none⟩), .int .i64 i, .int .i64 seq, .slice a m cap, .bool e] w fun e' w' => e' = .returned (.bool r) ∧ J2a w0 w' p q n S2 T S' T' base lv k xs ∧ Frm (fun i => ∃ cs, Blk w i 74 cs) w w' := by
  obtain ⟨ho, hb0, gs, c, M, sp, ta, tc, qs, c', R, sp', ta', tc', h1, h2, h3, h4, h5, h6, h7, h8, h9, h10⟩ := h
  refine (put_any w0.heap.size p n i seq S T l e a m cap w gs c M sp ta tc h1 hr hs h6.size).mono ?_
  rw [he]
  rintro e' w' ⟨rfl, ⟨M', hM, hW⟩, hf, _⟩
  refine ⟨rfl, ⟨ownsRow_frm ho hf (fun j hj e => ownsRow_ne ho h1.G (by decide) j hj e), hb0, gs, c, M', sp, ta, tc, qs, c', R, sp', ta', tc', hM, h2.keep hf (fun k hk => ?_), h3, h4, h5, h6.trans (hf.toBelow h6.size (fun i hi e => by have := h1.bg; omega)), h7, h8, fun j hj => ⟨(h9 j hj).1, fun i x hx b o s e => ?_⟩, h10⟩, hf.mono (fun i e _ => by subst e; exact ⟨_, h1.G⟩)⟩
  · subst hk
    exact ⟨blk_ne h1.G h2.P (by decide), blk_ne h1.G h2.G (by decide), fun h => (h3 _ h).2.2.1 rfl⟩
  · rcases hW i x hx b o s e with ⟨i2, y, hy, e2⟩ | hge
    · exact (h9 j hj).2 i2 y hy b o s e2
    · have := (ho.lt j hj).2; omega
theorem ja_rput {w0 w : World} {p q : Nat} {n : Int} {S S' S2 : List PS} {T T' l : List KeyL} {i seq : Int} {e r : Bool} {a : Option Addr} {m cap base k : Nat} {lv : Value} {xs : List Value} (h : J2a w0 w p q n S T S' T' base lv k xs) (hr : RdE KeyL.cells 2 w a m cap l) (hz : ∀ x ∈ l, x.2.size ≤ 1000000) (hs : ∀ s ∈ S', 0 ≤ s.seq ∧ s.seq ≤ 1000000) (hm : m ≤ 1000) (he : putP n S' T' i seq l e = (r, S2)) :
    Calls Try.prog 22 #[.pointer (some ⟨q, 0, none⟩), .int .i64 i, .int .i64 seq, .slice a m cap, .bool e] w fun e' w' => e' = .returned (.bool r) ∧ J2a w0 w' p q n S T S2 T' base lv k xs ∧ Frm (fun i => ∃ cs, Blk w i 82 cs) w w' := by
  obtain ⟨ho, hb0, gs, c, M, sp, ta, tc, qs, c', R, sp', ta', tc', h1, h2, h3, h4, h5, h6, h7, h8, h9, h10⟩ := h
  refine (rput_any q n i seq S' T' l e a m cap w qs c' R sp' ta' tc' h2 h8 hr hz hs (fun k h => (h3 k h).1) hm).mono ?_
  rw [he]
  rintro e' w' ⟨rfl, ⟨R', hR, hI⟩, hf⟩
  refine ⟨rfl, ⟨ownsRow_frm ho hf (fun j hj e => ownsRow_ne ho h2.G (by decide) j hj e), hb0, gs, c, M, sp, ta, tc, qs, c', R', sp', ta', tc', h1.keepR h2 hf (fun k h => .inr h), hR, fun k h => ?_, h4, h5, h6.trans (hf.toBelow h6.size (fun i hi e => by omega)), h7, h8, h9, fun j h e => ?_⟩, hf.mono (fun i e _ => by subst e; exact ⟨_, h2.G⟩)⟩
  · rcases hI k h with h | h
    · exact h3 k h
    · have a1 := h2.G.lt; have a2 := h2.P.lt; have a3 := h1.G.lt; have a4 := h1.P.lt
      exact ⟨by omega, by omega, by omega, by omega, fun e => by have := (h1.told.lt k e).2; omega⟩
  · rcases hI j h with h | h
    · exact h10 j h e
    · have := (ho.lt j e).2; omega
theorem putP_seq {n i seq : Int} {S : List PS} {T l : List KeyL} {e : Bool} {k : Int} (h : ∀ s ∈ S, 0 ≤ s.seq ∧ s.seq ≤ k) : ∀ s ∈ (putP n S T i seq l e).2, 0 ≤ s.seq ∧ s.seq ≤ k + 1 := by
  intro s hs
  unfold putP putOK at hs
  cases ha : atS S i with
  | none => rw [ha] at hs; have := h s hs; omega
  | some t =>
    rw [ha] at hs
    simp only at hs
    split at hs
    · rename_i heq
      have := h s hs; omega
    · rename_i t2 heq
      obtain ⟨j, rfl, hj⟩ := atS_some ha
      rcases List.mem_or_eq_of_mem_set hs with h1 | h1
      · have := h s h1; omega
      · subst h1
        have h2 := h t (List.mem_of_getElem? hj)
        split at heq
        · cases heq
        · cases heq
          show 0 ≤ t.seq + 1 ∧ t.seq + 1 ≤ k + 1
          omega
theorem tellA_seq {n : Int} {k : Int} : ∀ (f : Nat) (S : List PS) (T out : List KeyL), (∀ s ∈ S, 0 ≤ s.seq ∧ s.seq ≤ k) → ∀ s ∈ (tellA n f S T out).2.1, 0 ≤ s.seq ∧ s.seq ≤ k
  | 0, S, T, out, h => h
  | f + 1, S, T, out, h => by
    unfold tellA
    cases hs : stepP n S T with
    | none => exact h
    | some y =>
      obtain ⟨x, b, s⟩ := y
      simp only
      refine tellA_seq f _ _ _ (fun s' hs' => ?_)
      rcases List.mem_or_eq_of_mem_set hs' with h1 | h1
      · exact h s' h1
      · subst h1
        unfold stepP at hs
        split at hs
        · cases hs
        · split at hs
          · cases hs
          · split at hs
            · cases hs
            · rename_i t ht
              split at hs
              · cases hs
              · cases hs
                exact h t (List.mem_of_getElem? ht)
end Go.Proofs.Ytjacebnjmhbcbaa
