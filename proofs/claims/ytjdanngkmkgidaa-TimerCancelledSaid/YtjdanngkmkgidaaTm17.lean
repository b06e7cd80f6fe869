/- The walk of TimerTurned. -/
import Derived.Test.YtjdanngkmkgidaaTm16
namespace Go.Proofs.Ytjdanngkmkgidaa
open Go.RowKit List
set_option linter.unusedVariables false

theorem sorted_eq : ∀ {a b : List One}, a.Pairwise leO → b.Pairwise leO → a ~ b → a = b
  | [], b, _, _, h => (h.nil_eq)
  | x :: a, b, ha, hb, h => by
    cases b with
    | nil => have := h.length_eq; simp at this
    | cons y b =>
      obtain ⟨h1, h2⟩ := List.pairwise_cons.1 ha
      obtain ⟨h3, h4⟩ := List.pairwise_cons.1 hb
      have e : x = y := by
        rcases List.mem_cons.1 (h.mem_iff.1 (List.mem_cons_self ..)) with e | e
        · exact e
        · rcases List.mem_cons.1 (h.mem_iff.2 (List.mem_cons_self ..)) with e2 | e2
          · exact e2.symm
          · exact leO_anti (h1 y e2) (h3 x e)
      subst e
      rw [sorted_eq h2 h4 h.cons_inv]
theorem set_fresh {L : List One} {most id at_ : Int} (h1 : 0 ≤ id) (h2 : 0 ≤ at_) (h3 : at_ ≤ 1099511627776) (hn : hasL id L = false) (hl : (L.length : Int) ≠ most) : ∃ L', setL most L id at_ = (0, L') ∧ L' ~ (at_, id) :: L := by
  refine ⟨insL (at_, id) L, ?_, insL_perm _ _⟩
  unfold setL
  rw [if_neg (by omega), if_neg (by rw [hn]; exact Bool.false_ne_true), if_neg hl]
theorem set_again {L : List One} {f : Nat → One} {n k : Nat} {most at_ : Int} (hi : idsOK L) (hp : L ~ rm n f) (hk : k < n) (h1 : 0 ≤ (f k).2) (h2 : 0 ≤ at_) (h3 : at_ ≤ 1099511627776) : ∃ L', setL most L (f k).2 at_ = (0, L') ∧ L' ~ rm n (putF f k (at_, (f k).2)) := by
  obtain ⟨R, p1, p2⟩ := rm_put n k f hk
  refine ⟨insL (at_, (f k).2) (cancelL (f k).2 L), ?_, ?_⟩
  · unfold setL
    rw [if_neg (by omega), if_pos (has_iff.2 ⟨f k, (hp.trans p1).mem_iff.2 (List.mem_cons_self ..), rfl⟩)]
  · exact (insL_perm _ _).trans (((cancelL_perm hi rfl (hp.trans p1)).cons _).trans (p2 _).symm)
/-- two Timers that the call made itself -/
def Two (w0 w : World) (p q : Nat) (m : Int) (L K : List One) : Prop := ∃ go ho, TL w p go m L ∧ TL w q ho m K ∧ Below w0.heap.size w0 w ∧ (w0.heap.size ≤ p ∧ ∀ g, go = some g → w0.heap.size ≤ g) ∧ (w0.heap.size ≤ q ∧ ∀ g, ho = some g → w0.heap.size ≤ g) ∧ p ≠ q ∧ go ≠ some q ∧ ho ≠ some p ∧ ∀ g, go = some g → ho ≠ some g
theorem Two.symm {w0 w : World} {p q : Nat} {m : Int} {L K : List One} (h : Two w0 w p q m L K) : Two w0 w q p m K L := by
  obtain ⟨go, ho, h1, h2, h3, h4, h5, h6, h7, h8, h9⟩ := h
  exact ⟨ho, go, h2, h1, h3, h5, h4, h6.symm, h8, h7, fun g hg e => h9 g e hg⟩
theorem Two.left {w0 w : World} {p q : Nat} {m : Int} {L K : List One} (h : Two w0 w p q m L K) : OwnT w0 w p m L := by
  obtain ⟨go, ho, h1, h2, h3, h4, h5, h6⟩ := h
  exact ⟨go, h1, h3, h4⟩
theorem Two.below {w0 w w' : World} {p q : Nat} {m : Int} {L K : List One} (h : Two w0 w p q m L K) (hb : Below w.heap.size w w') : Two w0 w' p q m L K := by
  obtain ⟨go, ho, h1, h2, h3, h4⟩ := h
  exact ⟨go, ho, h1.below hb, h2.below hb, h3.trans (hb.mono h3.size), h4⟩
theorem two_set {w0 w : World} {p q : Nat} {m : Int} {L L' K : List One} {id at_ r : Int} (h : Two w0 w p q m L K) (he : setL m L id at_ = (r, L')) :
   Calls Try.prog 13 #[.pointer (some ⟨p, 0, none⟩), .int .i64 id, .int .i64 at_] w fun e w' => e = .returned (.int .i64 r) ∧ Two w0 w' p q m L' K := by
  obtain ⟨go, ho, h1, h2, h3, ⟨h4, h4'⟩, h5, h6, h7, h8, h9⟩ := h
  refine (t_set p id at_ w go m L h1).mono ?_
  rintro e w' ⟨go', rfl, hT, hF, hl⟩
  rw [he] at hT
  rw [he]
  have hq := h2.lt
  have hK := h2.frmR hF h6.symm h7 h8 (fun g hg e => h9 g e hg)
  refine ⟨rfl, go', ho, hT, hK, Frm.bel h3 hF h4 h4', ⟨h4, fun g hg => ?_⟩, h5, h6, ?_, h8, fun g hg e => ?_⟩
  · rcases hl with hl | ⟨g', hl, hle⟩
    · exact h4' g (hl ▸ hg)
    · rw [hl] at hg; have := Option.some.inj hg; have := h3.size; omega
  · rcases hl with hl | ⟨g', hl, hle⟩
    · rw [hl]; exact h7
    · rw [hl]; intro e; have := Option.some.inj e; omega
  · rcases hl with hl | ⟨g', hl, hle⟩
    · exact h9 g (hl ▸ hg) e
    · rw [hl] at hg; have := Option.some.inj hg; have := hq.2 g e; omega
theorem Two.new {w0 w w' : World} {p : Nat} {m : Int} {L : List One} (h : OwnT w0 w p m L) (hT : TL w' w.heap.size none m [] ∧ Below w.heap.size w w') : Two w0 w' p w.heap.size m L [] := by
  obtain ⟨go, h1, h2, h3, h4⟩ := h
  refine ⟨go, none, h1.below hT.2, hT.1, h2.trans (hT.2.mono h2.size), ⟨h3, h4⟩, ⟨h2.size, fun _ h => by cases h⟩, ?_, ?_, by simp, by simp⟩
  · have := h1.lt.1; omega
  · intro e; have := h1.lt.2 _ e; omega
end Go.Proofs.Ytjdanngkmkgidaa
