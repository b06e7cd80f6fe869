/- The document's Tell: plain parts. -/
import Derived.Test.YtjacebnjmhbcbaaMh4
import Derived.Test.YtjacebnjmhbcbaaMg9
namespace Go.Proofs.Ytjacebnjmhbcbaa
open Go.RowKit
set_option linter.unusedVariables false

theorem RMx.itlt {W : World} {q : Nat} {n : Int} {S : List PS} {T : List KeyL} {qs c : Nat} {R : List MS} {sp : List Value} {ta : Option Addr} {tc : Nat} (hx : RMx W q n S T qs c R sp ta tc) : ∀ j, RItems ta R j → j < W.heap.size := by
  rintro j (⟨o, s', e'⟩ | ⟨i, m, o, s', h, e'⟩)
  · exact hx.tlt _ _ _ e'
  · have hi := (List.getElem?_eq_some_iff.1 h).1
    exact (hx.sh i m _ h (List.getElem?_eq_getElem (show i < S.length by rw [← hx.len]; exact hi))).lt _ _ _ e'
/-- told is another row now -/
theorem rm_told {w w2 : World} {q : Nat} {n : Int} {S : List PS} {T : List KeyL} {qs c : Nat} {R : List MS} {sp : List Value} {ta : Option Addr} {tc : Nat} (hx : RMx w q n S T qs c R sp ta tc) (hri : ∀ k, RItems ta R k → k ≠ q) {x : KeyL} {ao : Option Addr} {c' base : Nat} (hT : T.length + 1 ≤ 10)
    (hf : Frm (fun _ => False) w w2) (ho : w2.ownsRow base 31 2 (.slice ao (T.length + 1) c') (T.length + 1) (T.flatMap KeyL.cells ++ x.cells)) :
    RMx (w2.setCell ⟨q, 2, none⟩ (.slice ao (T.length + 1) c')) q n S (T ++ [x]) qs c R sp ao c' := by
  have h2 := hx.keep hf (fun _ h => h.elim)
  have hs : Frm (fun k => k = q) w2 (w2.setCell ⟨q, 2, none⟩ (.slice ao (T.length + 1) c')) := (Frm.refl (fun k => k = q) w2).setCell _ _ (.inl rfl)
  have hqq : q ≠ qs := blk_ne hx.P hx.G (by decide)
  have hlen : (T ++ [x]).length = T.length + 1 := by simp
  have ho2 := ownsRow_frm ho hs (fun k hk e => ownsRow_ne ho h2.P (by decide) k hk e)
  refine ⟨by rw [hlen]; exact Blk.set h2.P 2 _, h2.G.frm hs (fun e => hqq e.symm), h2.hc, h2.hm, ?_, fun b o s e => ?_, h2.len, fun i m s h1 h3 => (h2.sh i m s h1 h3).frm hs (fun b o sp' e h => hri b (Or.inr ⟨i, m, o, sp', h1, e⟩) h), by rw [hlen]; exact ⟨h2.bd.1, hT, h2.bd.2.2⟩, h2.sz⟩
  · have := ownsRow_rdE (enc := KeyL.cells) (l := T ++ [x]) (n := T.length + 1) (fun _ => rfl) (by simp) (by rw [List.flatMap_append, List.flatMap_singleton]; exact ho2)
    rw [hlen]; exact this
  · subst e
    exact (own_blk ho2).2.choose_spec.lt
def MS.wait (m : MS) (a : Option Addr) (n c : Nat) : MS := ⟨m.least, m.seq, m.ended, m.heard, m.last, a, n, c⟩
theorem row_wait {M : List MS} {sp : List Value} {k : Nat} {m : MS} (hm : M[k]? = some m) (a : Option Addr) (n c : Nat) :
    (M.flatMap MS.cells ++ sp).set (k * 7 + 6) (.slice a n c) = (M.set k (m.wait a n c)).flatMap MS.cells ++ sp :=
  row_set (m' := m.wait a n c) hm (by decide) rfl
theorem RSh.head {W : World} {m : MS} {s : PS} (h : RSh W m s) (h0 : 0 < s.waits.length) : ∃ wb wo, m.wa = some ⟨wb, wo, none⟩ ∧ W.cell? ⟨wb, wo, none⟩ = some (.int .i64 (headP s).1) ∧ W.cell? ⟨wb, wo + 1, none⟩ = some (.string (headP s).2) := by
  obtain ⟨b, o, e, h1, h2, _⟩ := h.waits.atI (head_at h0)
  rw [Nat.zero_mul, Nat.add_zero] at h1 h2
  exact ⟨b, o, e, h1, h2⟩
/-- shard k's items are another row now -/
theorem rm_wait {w w2 : World} {q : Nat} {n : Int} {S : List PS} {T : List KeyL} {qs c : Nat} {R : List MS} {sp : List Value} {ta : Option Addr} {tc : Nat} (hx : RMx w q n S T qs c R sp ta tc) (hri : ∀ k, RItems ta R k → k ≠ qs) {k : Nat} {m : MS} {s : PS} (hm : R[k]? = some m) (hs : S[k]? = some s) {ao : Option Addr} {mm c' base : Nat}
    (hf : Frm (fun _ => False) w w2) (ho : w2.ownsRow base 31 2 (.slice ao mm c') mm ((s.waits.drop 1).flatMap KeyL.cells)) (hmm : mm = s.waits.length - 1) :
    RMx (w2.setCell ⟨qs, k * 7 + 6, none⟩ (.slice ao mm c')) q n (S.set k s.less) T qs c (R.set k (m.wait ao mm c')) sp ta tc ∧ (∀ j, RItems ta (R.set k (m.wait ao mm c')) j → RItems ta R j ∨ base ≤ j) := by
  have h2 := hx.keep hf (fun _ h => h.elim)
  have hfs : Frm (fun i => i = qs) w2 (w2.setCell ⟨qs, k * 7 + 6, none⟩ (.slice ao mm c')) := (Frm.refl (fun i => i = qs) w2).setCell _ _ (.inl rfl)
  have ho2 := ownsRow_frm ho hfs (fun j hj e => ownsRow_ne ho h2.G (by decide) j hj e)
  have h0 := h2.sh k m s hm hs
  refine ⟨rm_set h2 (fun o s' e' => hri qs (Or.inl ⟨o, s', e'⟩) rfl) (fun i m o s' h e' => hri qs (Or.inr ⟨i, m, o, s', h, e'⟩) rfl) hfs (by rw [← row_wait hm]; exact Blk.set h2.G _ _) (fun _ => ?_) ?_, fun j hj => ?_⟩
  · refine ⟨h0.least, h0.seq, h0.ended, h0.heard, h0.last, ownsRow_rdE (enc := KeyL.cells) (fun _ => rfl) (by show (s.waits.drop 1).length = mm; rw [List.length_drop]; exact hmm.symm) ho2, fun b o sp' e => ?_, by rw [show s.less.waits = s.waits.drop 1 from rfl, List.length_drop]; have := h0.small; omega⟩
    have e2 : ao = some ⟨b, o, sp'⟩ := e
    subst e2
    exact (own_blk ho2).2.choose_spec.lt
  · have := hx.sz s (List.mem_of_getElem? hs)
    exact ⟨this.1, fun x hx' => this.2 x (List.mem_of_mem_drop hx')⟩
  · rcases hj with ⟨o, s', e'⟩ | ⟨i, m2, o, s', h, e'⟩
    · exact .inl (Or.inl ⟨o, s', e'⟩)
    · by_cases e1 : k = i
      · subst e1
        rw [row_at hm] at h
        cases h
        rw [show ao = some ⟨j, o, s'⟩ from e'] at ho
        exact .inr (own_blk ho).1
      · rw [List.getElem?_set_ne e1] at h
        exact .inl (Or.inr ⟨i, m2, o, s', h, e'⟩)
def bestI : Option Nat → Int
  | none => -1
  | some b => b
end Go.Proofs.Ytjacebnjmhbcbaa
