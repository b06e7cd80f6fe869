/- Tell's plain law; what a round of Tell leaves. -/
import Derived.Test.YtjacebnjmhbcbaaMg7b
namespace Go.Proofs.Ytjacebnjmhbcbaa
open Go.RowKit
set_option linter.unusedVariables false

def PS.less (s : PS) : PS := ⟨s.least, s.seq, s.ended, s.heard, s.last, s.waits.drop 1⟩
/-- what is told next: the item, its shard -/
def stepP (n : Int) (S : List PS) (T : List KeyL) : Option (KeyL × Nat × PS) :=
  if doneP n S T = true then none else match aheadP S S.length with
  | none => none
  | some b => match S[b]? with
    | none => none
    | some s => if S.any (fun t => t.might (headP s)) = true then none else some (headP s, b, s.less)
def tellA (n : Int) : Nat → List PS → List KeyL → List KeyL → List KeyL × List PS × List KeyL
  | 0, S, T, out => (out, S, T)
  | f + 1, S, T, out => match stepP n S T with
    | none => (out, S, T)
    | some (x, b, s) => tellA n f (S.set b s) (T ++ [x]) (out ++ [x])
def tellP (n : Int) (S : List PS) (T : List KeyL) : List KeyL × List PS × List KeyL := tellA n (n.toNat - T.length) S T []
theorem tellA_stop {n : Int} {S : List PS} {T : List KeyL} (h : stepP n S T = none) (f : Nat) (out : List KeyL) : tellA n f S T out = (out, S, T) := by
  cases f with
  | zero => rfl
  | succ f => simp only [tellA, h]
theorem tellA_go {n : Int} {S : List PS} {T : List KeyL} {x : KeyL} {b : Nat} {s : PS} (h : stepP n S T = some (x, b, s)) (hT : (T.length : Int) < n) (out : List KeyL) :
    tellA n (n.toNat - T.length) S T out = tellA n (n.toNat - (T ++ [x]).length) (S.set b s) (T ++ [x]) (out ++ [x]) := by
  obtain ⟨f, hf⟩ : ∃ f, n.toNat - T.length = f + 1 := ⟨n.toNat - T.length - 1, by omega⟩
  rw [hf]
  simp only [tellA, h]
  rw [List.length_append, List.length_singleton, show n.toNat - (T.length + 1) = f from by omega]
theorem not_done {n : Int} {S : List PS} {T : List KeyL} (h : doneP n S T = false) (hT : (T.length : Int) ≤ n) : (T.length : Int) < n := by
  unfold doneP at h
  rw [Bool.or_eq_false_iff] at h
  have := h.1
  simp at this
  omega
theorem step_done {n : Int} {S : List PS} {T : List KeyL} (h : doneP n S T = true) : stepP n S T = none := by unfold stepP; rw [if_pos h]
theorem step_none {n : Int} {S : List PS} {T : List KeyL} (h : aheadP S S.length = none) : stepP n S T = none := by
  unfold stepP; rw [h]; split <;> rfl
theorem step_might {n : Int} {S : List PS} {T : List KeyL} {b : Nat} {s : PS} (h : aheadP S S.length = some b) (hs : S[b]? = some s) (hm : S.any (fun t => t.might (headP s)) = true) : stepP n S T = none := by
  unfold stepP; rw [h]; simp only [hs, if_pos hm]; split <;> rfl
theorem step_some {n : Int} {S : List PS} {T : List KeyL} {b : Nat} {s : PS} (hd : doneP n S T = false) (h : aheadP S S.length = some b) (hs : S[b]? = some s) (hm : S.any (fun t => t.might (headP s)) = false) : stepP n S T = some (headP s, b, s.less) := by
  unfold stepP; rw [if_neg (by rw [hd]; simp), h]; simp only [hs]; rw [if_neg (by rw [hm]; simp)]
/-- the shards' items lie apart from the block of l -/
def ApartL (l told : Value) (M : List MS) : Prop := ∀ k, l.ownBlock = some k → told.ownBlock ≠ some k ∧ ∀ (i : Nat) (m : MS), M[i]? = some m → ∀ b o sp, m.wa = some ⟨b, o, sp⟩ → b ≠ k
theorem MGx.keep {B : Nat} {X : Nat → Prop} {W W' : World} {p : Nat} {n : Int} {S : List PS} {T : List KeyL} {gs c : Nat} {M : List MS} {sp : List Value} {ta : Option Addr} {tc : Nat} (h : MGx B W p n S T gs c M sp ta tc) (hf : Frm X W W')
    (hx : ∀ k, X k → k ≠ p ∧ k ≠ gs ∧ (Value.slice ta T.length tc).ownBlock ≠ some k ∧ ∀ (i : Nat) (m : MS), M[i]? = some m → ∀ b o sp, m.wa = some ⟨b, o, sp⟩ → b ≠ k) : MGx B W' p n S T gs c M sp ta tc :=
  ⟨h.P.frm hf (fun e => (hx p e).1 rfl), h.G.frm hf (fun e => (hx gs e).2.1 rfl), h.hc, h.hm, ownsRow_frm h.told hf (fun k hk e => (hx k e).2.2.1 hk), h.len, fun i m s hm hs => (h.sh i m s hm hs).frm hf (fun b o sp e hX => (hx b hX).2.2.2 i m hm b o sp e rfl), h.bp, h.bg, h.bd⟩
theorem MGx.below {B : Nat} {W W' : World} {p : Nat} {n : Int} {S : List PS} {T : List KeyL} {gs c : Nat} {M : List MS} {sp : List Value} {ta : Option Addr} {tc : Nat} (h : MGx B W p n S T gs c M sp ta tc) (hb : Below W.heap.size W W') : MGx B W' p n S T gs c M sp ta tc :=
  h.keep (Frm.below (S := fun _ => False) hb) (fun _ h => h.elim)
theorem MGx.far {B B' k : Nat} {W W' : World} {p : Nat} {n : Int} {S : List PS} {T : List KeyL} {gs c : Nat} {M : List MS} {sp : List Value} {ta : Option Addr} {tc : Nat} (h : MGx B W p n S T gs c M sp ta tc) {l : Value} {xs : List Value} (hl : W.ownsRow B' 31 2 l k xs) (ha : ApartL l (.slice ta T.length tc) M)
    (hf : Frm (fun k => l.ownBlock = some k) W W') : MGx B W' p n S T gs c M sp ta tc :=
  h.keep hf (fun k hk => ⟨ownsRow_ne hl h.P (by decide) k hk, ownsRow_ne hl h.G (by decide) k hk, (ha k hk).1, (ha k hk).2⟩)
/-- told has one more -/
theorem mg_told {B : Nat} {W W2 : World} {p : Nat} {n : Int} {S : List PS} {T : List KeyL} {gs c : Nat} {M : List MS} {sp : List Value} {ta : Option Addr} {tc : Nat} (hx : MGx B W p n S T gs c M sp ta tc) {x : KeyL} {g c' : Nat} (hT : T.length + 1 ≤ 10)
    (hg : Frm (fun k => (Value.slice ta T.length tc).ownBlock = some k) W W2) (hat : (Value.slice ta T.length tc).ownBlock = some g ∨ W.heap.size ≤ g) (ho : W2.ownsRow B 31 2 (.slice (some ⟨g, 0, none⟩) (T.length + 1) c') (T.length + 1) (T.flatMap KeyL.cells ++ x.cells)) :
    MGx B (W2.setCell ⟨p, 2, none⟩ (.slice (some ⟨g, 0, none⟩) (T.length + 1 : Nat) c')) p n S (T ++ [x]) gs c M sp (some ⟨g, 0, none⟩) c' := by
  have ht : ∀ k, (Value.slice ta T.length tc).ownBlock = some k → k ≠ gs := ownsRow_ne hx.told hx.G (by decide)
  have hp : ∀ k, (Value.slice ta T.length tc).ownBlock = some k → k ≠ p := ownsRow_ne hx.told hx.P (by decide)
  have hpg : p ≠ gs := blk_ne hx.P hx.G (by decide)
  have hP2 := hx.P.frm hg (fun e => hp _ e rfl)
  have hG2 := hx.G.frm hg (fun e => ht _ e rfl)
  have hgp : g ≠ p := by
    rcases hat with h | h
    · exact hp g h
    · have := hx.P.lt; omega
  have hs : Frm (fun k => k = p) W2 (W2.setCell ⟨p, 2, none⟩ (.slice (some ⟨g, 0, none⟩) (T.length + 1 : Nat) c')) := (Frm.refl (fun k => k = p) W2).setCell _ _ (.inl rfl)
  have hlen : (T ++ [x]).length = T.length + 1 := by simp
  refine ⟨by rw [hlen]; exact Blk.set hP2 2 _, hG2.frm hs (fun e => hpg e.symm), hx.hc, hx.hm, ?_, hx.len, fun i m s hm hsx => ?_, hx.bp, hx.bg, by rw [hlen]; exact ⟨hx.bd.1, hT, hx.bd.2.2⟩⟩
  · rw [hlen, List.flatMap_append, List.flatMap_singleton]
    exact ownsRow_frm ho hs (fun k hk e => by simp only [Value.ownBlock, Option.some.injEq] at hk; omega)
  · have h0 := hx.sh i m s hm hsx
    have h1 := (h0.frm hg (fun b o sp e h => h0.apart b o sp e h)).frm hs (fun b o sp e h => by
      obtain ⟨cs, hb⟩ := h0.ty b o sp e
      exact blk_ne hb hx.P (by decide) h)
    refine ⟨h1.least, h1.seq, h1.ended, h1.heard, h1.last, h1.waits, h1.base, fun b o sp e h => ?_, h1.small, h1.ty⟩
    simp only [Value.ownBlock, Option.some.injEq] at h
    subst h
    rcases hat with h2 | h2
    · exact h0.apart _ o sp e h2
    · obtain ⟨cs, hb⟩ := h0.ty _ o sp e
      have := hb.lt
      omega
def MS.less (m : MS) (wb o' : Nat) : MS := ⟨m.least, m.seq, m.ended, m.heard, m.last, some ⟨wb, o', none⟩, m.wn - 1, m.wc - 1⟩
theorem ShOK.less {B : Nat} {W : World} {to : Option Nat} {m : MS} {s : PS} (h : ShOK B W to m s) {wb wo : Nat} (hw : m.wa = some ⟨wb, wo, none⟩) (h0 : 0 < s.waits.length) (o' : Nat) (ho : 1 < m.wn → o' = wo + 2) : ShOK B W to (m.less wb o') s.less := by
  have hwn := h.wlen
  have hr := h.waits
  rw [hw] at hr
  refine ⟨h.least, h.seq, h.ended, h.heard, h.last, hr.drop 1 (by omega) o' (by omega), ?_, ?_, by have := h.small; simp [PS.less]; omega, ?_⟩
  · intro b o sp e
    cases e
    exact h.base _ _ _ hw
  · intro b o sp e
    cases e
    exact h.apart _ _ _ hw
  · intro b o sp e
    cases e
    exact h.ty _ _ _ hw
theorem row_less {M : List MS} {sp : List Value} {k : Nat} {m : MS} (hm : M[k]? = some m) (wb o' : Nat) :
    (M.flatMap MS.cells ++ sp).set (k * 7 + 6) (.slice (some ⟨wb, o', none⟩) (m.wn - 1) (m.wc - 1)) = (M.set k (m.less wb o')).flatMap MS.cells ++ sp :=
  row_set (m' := m.less wb o') hm (by decide) rfl
theorem ApartL.set {l told : Value} {M : List MS} (h : ApartL l told M) {k : Nat} {m : MS} (hm : M[k]? = some m) {wb wo : Nat} (hw : m.wa = some ⟨wb, wo, none⟩) (o' : Nat) : ApartL l told (M.set k (m.less wb o')) := by
  intro j hj
  refine ⟨(h j hj).1, fun i x hx b o sp e => ?_⟩
  by_cases e1 : k = i
  · subst e1
    rw [row_at hm] at hx
    cases hx
    cases e
    exact (h j hj).2 k m hm _ _ _ hw
  · rw [List.getElem?_set_ne e1] at hx
    exact (h j hj).2 i x hx b o sp e
theorem ApartL.new {B : Nat} {W : World} {p : Nat} {n : Int} {S : List PS} {T : List KeyL} {gs c : Nat} {M : List MS} {sp : List Value} {ta : Option Addr} {tc : Nat} (hx : MGx B W p n S T gs c M sp ta tc) {l : Value} {g : Nat} (hl : l.ownBlock = some g) (hg : W.heap.size ≤ g) : ApartL l (.slice ta T.length tc) M := by
  intro k hk
  rw [hl] at hk
  cases hk
  refine ⟨fun h => ?_, fun i m hm b o sp e h => ?_⟩
  · have := (hx.told.lt g h).2; omega
  · have hi := (List.getElem?_eq_some_iff.1 hm).1
    obtain ⟨cs, hb⟩ := (hx.sh i m _ hm (List.getElem?_eq_getElem (show i < S.length by rw [← hx.len]; exact hi))).ty b o sp e
    have := hb.lt
    omega
theorem ApartL.step {B : Nat} {W : World} {p : Nat} {n : Int} {S : List PS} {T : List KeyL} {gs c : Nat} {M : List MS} {sp : List Value} {ta : Option Addr} {tc : Nat} (hx : MGx B W p n S T gs c M sp ta tc) {l l' : Value} {g : Nat} (ha : ApartL l (.slice ta T.length tc) M) (hl : l'.ownBlock = some g) (hat : l.ownBlock = some g ∨ W.heap.size ≤ g) : ApartL l' (.slice ta T.length tc) M := by
  rcases hat with h | h
  · intro k hk
    rw [hl] at hk
    cases hk
    exact ha g h
  · exact ApartL.new hx hl h
/-- told lies in g2 now -/
theorem ApartL.told {W : World} {l told told' : Value} {M : List MS} {g : Nat} (ha : ApartL l told M) (hl : ∀ k, l.ownBlock = some k → k < W.heap.size) (ht : told'.ownBlock = some g) (hat : told.ownBlock = some g ∨ W.heap.size ≤ g) : ApartL l told' M := by
  intro k hk
  refine ⟨fun h => ?_, (ha k hk).2⟩
  rw [ht] at h
  cases h
  rcases hat with h | h
  · exact (ha _ hk).1 h
  · have := hl _ hk; omega
end Go.Proofs.Ytjacebnjmhbcbaa
