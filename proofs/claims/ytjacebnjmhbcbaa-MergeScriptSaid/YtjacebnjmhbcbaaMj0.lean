/- Both Merges beside one another. -/
import Derived.Test.YtjacebnjmhbcbaaMg14
import Derived.Test.YtjacebnjmhbcbaaMh3
import Derived.Test.YtjacebnjmhbcbaaMh5
import Derived.Test.YtjacebnjmhbcbaaMh7
namespace Go.Proofs.Ytjacebnjmhbcbaa
open Go.RowKit
set_option linter.unusedVariables false

def J2 (w0 W : World) (p q : Nat) (n : Int) (S : List PS) (T : List KeyL) (S' : List PS) (T' : List KeyL) : Prop := ∃ (gs c : Nat) (M : List MS) (sp : List Value) (ta : Option Addr) (tc : Nat) (qs c' : Nat) (R : List MS) (sp' : List Value) (ta' : Option Addr) (tc' : Nat),
  MGx w0.heap.size W p n S T gs c M sp ta tc ∧ RMx W q n S' T' qs c' R sp' ta' tc' ∧ (∀ k, RItems ta' R k → k ≠ qs ∧ k ≠ q ∧ k ≠ gs ∧ k ≠ p ∧ (Value.slice ta T.length tc).ownBlock ≠ some k) ∧ w0.heap.size ≤ q ∧ w0.heap.size ≤ qs ∧ Below w0.heap.size w0 W ∧ (T.length : Int) ≤ n ∧ (T'.length : Int) ≤ n
theorem J2.below {w0 W W' : World} {p q : Nat} {n : Int} {S S' : List PS} {T T' : List KeyL} (h : J2 w0 W p q n S T S' T') (hb : Below W.heap.size W W') : J2 w0 W' p q n S T S' T' := by
  obtain ⟨gs, c, M, sp, ta, tc, qs, c', R, sp', ta', tc', h1, h2, h3, h4, h5, h6, h7⟩ := h
  exact ⟨gs, c, M, sp, ta, tc, qs, c', R, sp', ta', tc', h1.below hb, h2.below hb, h3, h4, h5, h6.trans (hb.mono h6.size), h7⟩
theorem J2.bel {w0 W : World} {p q : Nat} {n : Int} {S S' : List PS} {T T' : List KeyL} (h : J2 w0 W p q n S T S' T') : Below w0.heap.size w0 W := by
  obtain ⟨gs, c, M, sp, ta, tc, qs, c', R, sp', ta', tc', h1, h2, h3, h4, h5, h6, h7⟩ := h
  exact h6
theorem j_mput {w0 w : World} {p q : Nat} {n : Int} {S S' S2 : List PS} {T T' l : List KeyL} {i seq : Int} {e r : Bool} {a : Option Addr} {m cap : Nat} (h : J2 w0 w p q n S T S' T') (hr : RdE KeyL.cells 2 w a m cap l) (hs : ∀ s ∈ S, 0 ≤ s.seq ∧ s.seq ≤ 1000000) (he : putP n S T i seq l e = (r, S2)) :
    Calls Try.prog 13 #[.pointer (some ⟨p, 0, none⟩), .int .i64 i, .int .i64 seq, .slice a m cap, .bool e] w fun e' w' => e' = .returned (.bool r) ∧ J2 w0 w' p q n S2 T S' T' ∧ Frm (fun i => ∃ cs, Blk w i 74 cs) w w' := by
  obtain ⟨gs, c, M, sp, ta, tc, qs, c', R, sp', ta', tc', h1, h2, h3, h4, h5, h6, h7⟩ := h
  refine (put_any w0.heap.size p n i seq S T l e a m cap w gs c M sp ta tc h1 hr hs h6.size).mono ?_
  rw [he]
  rintro e' w' ⟨rfl, ⟨M', hM, _⟩, hf, _⟩
  refine ⟨rfl, ⟨gs, c, M', sp, ta, tc, qs, c', R, sp', ta', tc', hM, h2.keep hf (fun k hk => ?_), h3, h4, h5, h6.trans (hf.toBelow h6.size (fun i hi e => by have := h1.bg; omega)), h7⟩, hf.mono (fun i e _ => by subst e; exact ⟨_, h1.G⟩)⟩
  subst hk
  exact ⟨blk_ne h1.G h2.P (by decide), blk_ne h1.G h2.G (by decide), fun h => (h3 _ h).2.2.1 rfl⟩
theorem MGx.keepR {B : Nat} {X : Nat → Prop} {W W' : World} {p q : Nat} {n : Int} {S S' : List PS} {T T' : List KeyL} {gs c qs c' : Nat} {M R : List MS} {sp sp' : List Value} {ta ta' : Option Addr} {tc tc' : Nat} (h1 : MGx B W p n S T gs c M sp ta tc) (h2 : RMx W q n S' T' qs c' R sp' ta' tc') (hf : Frm X W W') (hX : ∀ k, X k → k = q ∨ k = qs) : MGx B W' p n S T gs c M sp ta tc := by
  refine h1.keep hf (fun k hk => ?_)
  rcases hX k hk with rfl | rfl
  · refine ⟨blk_ne h2.P h1.P (by decide), blk_ne h2.P h1.G (by decide), fun e => ownsRow_ne h1.told h2.P (by decide) _ e rfl, fun i m hm b o s e => ?_⟩
    have hi := (List.getElem?_eq_some_iff.1 hm).1
    obtain ⟨cs, hb⟩ := (h1.sh i m _ hm (List.getElem?_eq_getElem (show i < S.length by rw [← h1.len]; exact hi))).ty b o s e
    exact blk_ne hb h2.P (by decide)
  · refine ⟨blk_ne h2.G h1.P (by decide), blk_ne h2.G h1.G (by decide), fun e => ownsRow_ne h1.told h2.G (by decide) _ e rfl, fun i m hm b o s e => ?_⟩
    have hi := (List.getElem?_eq_some_iff.1 hm).1
    obtain ⟨cs, hb⟩ := (h1.sh i m _ hm (List.getElem?_eq_getElem (show i < S.length by rw [← h1.len]; exact hi))).ty b o s e
    exact blk_ne hb h2.G (by decide)
theorem j_rput {w0 w : World} {p q : Nat} {n : Int} {S S' S2 : List PS} {T T' l : List KeyL} {i seq : Int} {e r : Bool} {a : Option Addr} {m cap : Nat} (h : J2 w0 w p q n S T S' T') (hr : RdE KeyL.cells 2 w a m cap l) (hz : ∀ x ∈ l, x.2.size ≤ 1000000) (hs : ∀ s ∈ S', 0 ≤ s.seq ∧ s.seq ≤ 1000000) (hm : m ≤ 1000) (he : putP n S' T' i seq l e = (r, S2)) :
    Calls Try.prog 22 #[.pointer (some ⟨q, 0, none⟩), .int .i64 i, .int .i64 seq, .slice a m cap, .bool e] w fun e' w' => e' = .returned (.bool r) ∧ J2 w0 w' p q n S T S2 T' ∧ Frm (fun i => ∃ cs, Blk w i 82 cs) w w' := by
  obtain ⟨gs, c, M, sp, ta, tc, qs, c', R, sp', ta', tc', h1, h2, h3, h4, h5, h6, h7⟩ := h
  refine (rput_any q n i seq S' T' l e a m cap w qs c' R sp' ta' tc' h2 h7.2 hr hz hs (fun k h => (h3 k h).1) hm).mono ?_
  rw [he]
  rintro e' w' ⟨rfl, ⟨R', hR, hI⟩, hf⟩
  refine ⟨rfl, ⟨gs, c, M, sp, ta, tc, qs, c', R', sp', ta', tc', h1.keepR h2 hf (fun k h => .inr h), hR, fun k h => ?_, h4, h5, h6.trans (hf.toBelow h6.size (fun i hi e => by omega)), h7⟩, hf.mono (fun i e _ => by subst e; exact ⟨_, h2.G⟩)⟩
  rcases hI k h with h | h
  · exact h3 k h
  · have a1 := h2.G.lt; have a2 := h2.P.lt; have a3 := h1.G.lt; have a4 := h1.P.lt
    exact ⟨by omega, by omega, by omega, by omega, fun e => by have := (h1.told.lt k e).2; omega⟩
end Go.Proofs.Ytjacebnjmhbcbaa
