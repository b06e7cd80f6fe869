/- Plain words: what may have changed between two worlds (Frm: a set of blocks); rows and blocks that are not one another. No program in sight. -/
import Derived.Test.YtjacebnjmhbcbaaKit2
namespace Go.Proofs.Ytjacebnjmhbcbaa
open Go.RowKit
set_option linter.unusedVariables false

/-- only blocks of S, and new ones, may have changed -/
structure Frm (S : Nat → Prop) (w w' : World) : Prop where
  os : w'.os = w.os
  tape : w'.tape = w.tape
  output : w'.output = w.output
  size : w.heap.size ≤ w'.heap.size
  block : ∀ k, k < w.heap.size → ¬ S k → w'.heap[k]? = w.heap[k]?
theorem Frm.refl (S : Nat → Prop) (w : World) : Frm S w w := ⟨rfl, rfl, rfl, Nat.le_refl _, fun _ _ _ => rfl⟩
theorem Frm.trans {S S' : Nat → Prop} {a b c : World} (h : Frm S a b) (k : Frm S' b c) (hs : ∀ i, S' i → i < a.heap.size → S i) : Frm S a c :=
  ⟨k.os.trans h.os, k.tape.trans h.tape, k.output.trans h.output, Nat.le_trans h.size k.size, fun i hi hn => (k.block i (Nat.lt_of_lt_of_le hi h.size) (fun e => hn (hs i e hi))).trans (h.block i hi hn)⟩
theorem Frm.mono {S S' : Nat → Prop} {a b : World} (h : Frm S a b) (hs : ∀ i, S i → i < a.heap.size → S' i) : Frm S' a b :=
  ⟨h.os, h.tape, h.output, h.size, fun i hi hn => h.block i hi (fun e => hn (hs i e hi))⟩
theorem Frm.grown {S : Nat → Prop} {a b : World} {row : Option Nat} (h : a.grownBy b row) (hs : ∀ g, row = some g → S g) : Frm S a b :=
  ⟨h.os, h.tape, h.output, h.size, fun i hi hn => h.block i hi (fun e => hn (hs i e.symm))⟩
theorem Frm.below {S : Nat → Prop} {a b : World} (h : Below a.heap.size a b) : Frm S a b := ⟨h.os, h.tape, h.output, h.size, fun i hi _ => h.block i hi⟩
theorem Frm.drew {S : Nat → Prop} {a b : World} (h : Frm S a b) : Frm S a b.drew := ⟨h.os, h.tape, h.output, h.size, h.block⟩
theorem Frm.drewN {S : Nat → Prop} {a b : World} (h : Frm S a b) (n : Nat) : Frm S a (b.drewN n) := ⟨h.os, h.tape, h.output, h.size, h.block⟩
theorem Frm.alloc {S : Nat → Prop} {a b : World} (h : Frm S a b) (o : Obj) : Frm S a (b.alloc o) :=
  ⟨h.os, h.tape, h.output, Nat.le_trans h.size (by simp), fun i hi hn => (Below.heap_alloc b o i (Nat.lt_of_lt_of_le hi h.size)).trans (h.block i hi hn)⟩
theorem Frm.setCell {S : Nat → Prop} {a b : World} (h : Frm S a b) (p : Addr) (u : Value) (hp : S p.block ∨ a.heap.size ≤ p.block) : Frm S a (b.setCell p u) :=
  ⟨h.os, h.tape, h.output, by simpa [World.setCell] using h.size, fun i hi hn => (Below.heap_setCell b p u i (by
    rintro rfl
    rcases hp with hp | hp
    · exact hn hp
    · omega)).trans (h.block i hi hn)⟩
theorem Frm.toBelow {S : Nat → Prop} {a b : World} {B : Nat} (h : Frm S a b) (hB : B ≤ a.heap.size) (hs : ∀ i, i < B → ¬ S i) : Below B a b :=
  ⟨h.os, h.tape, h.output, h.size, fun i hi => h.block i (by omega) (hs i hi)⟩
theorem Blk.frm {S : Nat → Prop} {w w' : World} {g : Nat} {e : TypeId} {cs : List Value} (h : Blk w g e cs) (hf : Frm S w w') (hg : ¬ S g) : Blk w' g e cs := by
  unfold Blk at *; rw [hf.block g (Blk.lt h) hg]; exact h
theorem Blk.far {w : World} {g : Nat} {e : TypeId} {cs : List Value} (h : Blk w g e cs) (p : Addr) (u : Value) (hp : g ≠ p.block) : Blk (w.setCell p u) g e cs := (Below.heap_setCell w p u g hp).trans h
theorem fz_of {w : World} {p o : Nat} {T : TypeId} {cs : List Value} (h : Blk w p T cs) : w.frozen? ⟨p, o, none⟩ = false := h.frozen o
theorem ownsRow_frm {S : Nat → Prop} {w w' : World} {base e size n : Nat} {v : Value} {xs : List Value} (h : w.ownsRow base e size v n xs) (hf : Frm S w w') (hne : ∀ k, v.ownBlock = some k → ¬ S k) : w'.ownsRow base e size v n xs := by
  refine ⟨h.1, ?_⟩
  rcases h.2 with h2 | ⟨g, cap, cur, hv, hb, hg, h3⟩
  · exact .inl h2
  · refine .inr ⟨g, cap, cur, hv, hb, ?_, h3⟩
    rw [hf.block g (Array.getElem?_eq_some_iff.1 hg).1 (hne g (by rw [hv]; rfl))]
    exact hg
theorem ownsRow_ne {w : World} {base e size n p : Nat} {v : Value} {xs : List Value} {T : TypeId} {cs : List Value} (h : w.ownsRow base e size v n xs) (hp : Blk w p T cs) (hT : T ≠ e) : ∀ k, v.ownBlock = some k → k ≠ p := by
  intro k hk e1
  subst e1
  rcases h.2 with h2 | ⟨g, cap, cur, hv, hb, hg, h3⟩
  · rw [h2.1] at hk; simp [Value.ownBlock] at hk
  · rw [hv] at hk
    simp only [Value.ownBlock, Option.some.injEq] at hk
    subst hk
    unfold Blk at hp
    rw [hp] at hg
    simp at hg
    exact hT hg.2
theorem ownsRow_ne2 {w : World} {base e size n base' e' size' n' : Nat} {v v' : Value} {xs xs' : List Value} (h : w.ownsRow base e size v n xs) (h' : w.ownsRow base' e' size' v' n' xs') (hT : e ≠ e') : ∀ k, v.ownBlock = some k → v'.ownBlock ≠ some k := by
  intro k hk e1
  rcases h.2 with h2 | ⟨g, cap, cur, hv, hb, hg, h3⟩
  · rw [h2.1] at hk; simp [Value.ownBlock] at hk
  · rcases h'.2 with h2' | ⟨g', cap', cur', hv', hb', hg', h3'⟩
    · rw [h2'.1] at e1; simp [Value.ownBlock] at e1
    · rw [hv] at hk
      rw [hv'] at e1
      simp only [Value.ownBlock, Option.some.injEq] at hk e1
      subst hk
      subst e1
      rw [hg] at hg'
      simp at hg'
      exact hT hg'.2
theorem own0 {w : World} {base : Nat} {e : TypeId} {size n c : Nat} {ao : Option Addr} {xs : List Value} (h : w.ownsRow base e size (.slice ao n c) n xs) {B : Nat} (hB : B ≤ base) : w.ownsRow B e size (.slice ao n c) n xs :=
  ⟨h.1, h.2.imp id (fun ⟨g, cap, cur, h1, h2, h3⟩ => ⟨g, cap, cur, h1, by omega, h3⟩)⟩
theorem own_ge {w : World} {base : Nat} {e : TypeId} {size n : Nat} {v : Value} {xs : List Value} (h : w.ownsRow base e size v n xs) : ∀ k, v.ownBlock = some k → base ≤ k := fun k hk => (h.lt k hk).1
theorem blk_ne {w : World} {g g' : Nat} {T T' : TypeId} {cs cs' : List Value} (h : Blk w g T cs) (h' : Blk w g' T' cs') (hT : T ≠ T') : g ≠ g' := by
  intro e
  subst e
  unfold Blk at h h'
  rw [h] at h'
  simp at h'
  exact hT h'.2
theorem set_same {cs : List Value} {k : Nat} {v : Value} (h : cs[k]? = some v) : cs.set k v = cs := by
  apply List.ext_getElem?
  intro q
  rw [List.getElem?_set]
  split
  · rename_i e
    subst e
    have := (List.getElem?_eq_some_iff.1 h).1
    rw [if_pos this, h]
  · rfl
theorem Src.two {P : Program} {tx e' : TypeId} (hk : P.underlying tx = some (.slice e')) (w : World) (u v : Value) (e : TypeId) (h1 : u.oneCell' = true) (h2 : v.oneCell' = true) : Src P 2 tx (.slice (some ⟨w.heap.size, 0, none⟩) 1 1) 1 [u, v] (w.alloc (.cells #[u, v] e)) :=
  Src.ofSlice _ hk ⟨w.heap.size, 0, none⟩ 1 1 [u, v] rfl (World.news_of_block (heap_alloc_new w _)) (by
    intro x hx
    simp only [List.mem_cons, List.not_mem_nil, or_false] at hx
    rcases hx with rfl | rfl
    · exact h1
    · exact h2)
end Go.Proofs.Ytjacebnjmhbcbaa
