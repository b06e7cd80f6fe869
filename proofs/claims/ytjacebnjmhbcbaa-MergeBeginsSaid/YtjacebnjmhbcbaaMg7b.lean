/- A Merge laid open; what Put leaves. -/
import Derived.Test.YtjacebnjmhbcbaaMg7
namespace Go.Proofs.Ytjacebnjmhbcbaa
open Go.RowKit
set_option linter.unusedVariables false

structure MGx (B : Nat) (W : World) (p : Nat) (n : Int) (S : List PS) (T : List KeyL) (gs c : Nat) (M : List MS) (sp : List Value) (ta : Option Addr) (tc : Nat) : Prop where
  P : Blk W p 72 [.int .i64 n, .slice (some ⟨gs, 0, none⟩) S.length c, .slice ta T.length tc]
  G : Blk W gs 74 (M.flatMap MS.cells ++ sp)
  hc : S.length ≤ c
  hm : c ≤ maxLen
  told : W.ownsRow B 31 2 (.slice ta T.length tc) T.length (T.flatMap KeyL.cells)
  len : M.length = S.length
  sh : ∀ (i : Nat) (m : MS) (s : PS), M[i]? = some m → S[i]? = some s → ShOK B W (Value.slice ta T.length tc).ownBlock m s
  bp : B ≤ p
  bg : B ≤ gs
  bd : S.length ≤ 6 ∧ T.length ≤ 10 ∧ 1 ≤ n ∧ n ≤ 10
theorem MG.x {B : Nat} {W : World} {p : Nat} {n : Int} {S : List PS} {T : List KeyL} (h : MG B W p n S T) : ∃ gs c M sp ta tc, MGx B W p n S T gs c M sp ta tc := by
  obtain ⟨gs, c, M, sp, ta, tc, h1, h2, h3, h4, h5, h6, h7, h8, h9, h10⟩ := h
  exact ⟨gs, c, M, sp, ta, tc, h1, h2, h3, h4, h5, h6, h7, h8, h9, h10⟩
theorem MGx.mg {B : Nat} {W : World} {p : Nat} {n : Int} {S : List PS} {T : List KeyL} {gs c : Nat} {M : List MS} {sp : List Value} {ta : Option Addr} {tc : Nat} (h : MGx B W p n S T gs c M sp ta tc) : MG B W p n S T :=
  ⟨gs, c, M, sp, ta, tc, h.P, h.G, h.hc, h.hm, h.told, h.len, h.sh, h.bp, h.bg, h.bd⟩
theorem MGx.read {B : Nat} {W : World} {p : Nat} {n : Int} {S : List PS} {T : List KeyL} {gs c : Nat} {M : List MS} {sp : List Value} {ta : Option Addr} {tc : Nat} (h : MGx B W p n S T gs c M sp ta tc) : W.cell? ⟨p, 0, none⟩ = some (.int .i64 n) ∧ W.cell? ⟨p, 1, none⟩ = some (.slice (some ⟨gs, 0, none⟩) S.length c) ∧ W.cell? ⟨p, 2, none⟩ = some (.slice ta T.length tc) ∧ M.length = S.length ∧ (∀ (i : Nat) (m : MS), M[i]? = some m → ShAt W gs (i * 7) m) ∧ (∀ (i : Nat) (m : MS) (s : PS), M[i]? = some m → S[i]? = some s → ShOK B W (Value.slice ta T.length tc).ownBlock m s) ∧ RdE KeyL.cells 2 W ta T.length tc T ∧ p < W.heap.size ∧ gs < W.heap.size ∧ S.length ≤ c :=
  ⟨by rw [h.P.cell]; rfl, by rw [h.P.cell]; rfl, by rw [h.P.cell]; rfl, h.len, fun i m hm => ShAt.of_row h.G hm, h.sh, ownsRow_rdE (enc := KeyL.cells) (fun _ => rfl) rfl h.told, h.P.lt, h.G.lt, h.hc⟩
theorem row_put {M : List MS} {sp : List Value} {k : Nat} {m : MS} (hm : M[k]? = some m) (sq : Int) (e hd : Bool) (la : KeyL) (a : Option Addr) (n c : Nat) :
    ((((((M.flatMap MS.cells ++ sp).set (k * 7 + 4) (.int .i64 la.1)).set (k * 7 + 5) (.string la.2)).set (k * 7 + 3) (.bool hd)).set (k * 7 + 6) (.slice a n c)).set (k * 7 + 1) (.int .i64 sq)).set (k * 7 + 2) (.bool e) = (M.set k ⟨m.least, sq, e, hd, la, a, n, c⟩).flatMap MS.cells ++ sp := by
  obtain ⟨d, sq0, e0, hd0, ⟨l1, l2⟩, a0, n0, c0⟩ := m
  obtain ⟨x1, x2⟩ := la
  have h1 := row_set (sp := sp) (m' := ⟨d, sq0, e0, hd0, (x1, l2), a0, n0, c0⟩) (v := .int .i64 x1) hm (j := 4) (by decide) rfl
  have h2 := row_set (sp := sp) (m' := ⟨d, sq0, e0, hd0, (x1, x2), a0, n0, c0⟩) (v := .string x2) (row_at hm ⟨d, sq0, e0, hd0, (x1, l2), a0, n0, c0⟩) (j := 5) (by decide) rfl
  have h3 := row_set (sp := sp) (m' := ⟨d, sq0, e0, hd, (x1, x2), a0, n0, c0⟩) (v := .bool hd) (row_at hm ⟨d, sq0, e0, hd0, (x1, x2), a0, n0, c0⟩) (j := 3) (by decide) rfl
  have h4 := row_set (sp := sp) (m' := ⟨d, sq0, e0, hd, (x1, x2), a, n, c⟩) (v := .slice a n c) (row_at hm ⟨d, sq0, e0, hd, (x1, x2), a0, n0, c0⟩) (j := 6) (by decide) rfl
  have h5 := row_set (sp := sp) (m' := ⟨d, sq, e0, hd, (x1, x2), a, n, c⟩) (v := .int .i64 sq) (row_at hm ⟨d, sq0, e0, hd, (x1, x2), a, n, c⟩) (j := 1) (by decide) rfl
  have h6 := row_set (sp := sp) (m' := ⟨d, sq, e, hd, (x1, x2), a, n, c⟩) (v := .bool e) (row_at hm ⟨d, sq, e0, hd, (x1, x2), a, n, c⟩) (j := 2) (by decide) rfl
  rw [set2] at h2 h3 h4 h5 h6
  dsimp only
  rw [h1, h2, h3, h4, h5, h6]
theorem own_blk {w : World} {base e size n c n' : Nat} {b o : Nat} {sp : Option Nat} {xs : List Value} (h : w.ownsRow base e size (.slice (some ⟨b, o, sp⟩) n c) n' xs) : base ≤ b ∧ ∃ cs, Blk w b e cs := by
  rcases h.2 with h' | ⟨g, cap, cur, h', h1, hb, _⟩
  · simp at h'
  · simp only [Value.slice.injEq, Option.some.injEq, Addr.mk.injEq] at h'
    obtain ⟨⟨rfl, _⟩, _⟩ := h'
    exact ⟨h1, cur.toList, by unfold Blk; rw [hb]⟩
/-- shard k is another one now; the other blocks are as they were -/
theorem mg_set {B : Nat} {w w' : World} {p : Nat} {n : Int} {S : List PS} {T : List KeyL} {gs c : Nat} {M : List MS} {sp : List Value} {ta : Option Addr} {tc : Nat} (hx : MGx B w p n S T gs c M sp ta tc) {k : Nat} {m' : MS} {s' : PS}
    (hf : Frm (fun i => i = gs) w w') (hg : Blk w' gs 74 ((M.set k m').flatMap MS.cells ++ sp)) (hok : k < S.length → ShOK B w' (Value.slice ta T.length tc).ownBlock m' s') :
    MGx B w' p n (S.set k s') T gs c (M.set k m') sp ta tc := by
  have hp : p ≠ gs := blk_ne hx.P hx.G (by decide)
  have ht : ∀ k, (Value.slice ta T.length tc).ownBlock = some k → k ≠ gs := ownsRow_ne hx.told hx.G (by decide)
  refine ⟨by rw [List.length_set]; exact hx.P.frm hf hp, hg, by rw [List.length_set]; exact hx.hc, hx.hm, ownsRow_frm hx.told hf ht, by rw [List.length_set, List.length_set]; exact hx.len, fun i m s h1 h2 => ?_, hx.bp, hx.bg, by rw [List.length_set]; exact hx.bd⟩
  by_cases e1 : k = i
  · subst e1
    have hk : k < S.length := by
      have := (List.getElem?_eq_some_iff.1 h2).1
      rwa [List.length_set] at this
    rw [List.getElem?_set_self (by rw [hx.len]; exact hk)] at h1
    rw [List.getElem?_set_self hk] at h2
    cases h1; cases h2
    exact hok hk
  · rw [List.getElem?_set_ne e1] at h1 h2
    have h3 := hx.sh i m s h1 h2
    exact h3.frm hf (fun b o sp' e => by
      obtain ⟨cs, hb⟩ := h3.ty b o sp' e
      exact blk_ne hb hx.G (by decide))
/-- each shard's items lie where they lay, or past the heap's end of then -/
def WOld (h : Nat) (M M' : List MS) : Prop := ∀ (i : Nat) (x : MS), M'[i]? = some x → ∀ b o s, x.wa = some ⟨b, o, s⟩ → (∃ (j : Nat) (y : MS), M[j]? = some y ∧ y.wa = some ⟨b, o, s⟩) ∨ h ≤ b
theorem WOld.refl (h : Nat) (M : List MS) : WOld h M M := fun i x hx b o s e => .inl ⟨i, x, hx, e⟩
theorem mg_put {B : Nat} {w w' : World} {p : Nat} {n : Int} {S : List PS} {T : List KeyL} {gs c : Nat} {M : List MS} {sp : List Value} {ta : Option Addr} {tc : Nat} (hx : MGx B w p n S T gs c M sp ta tc) {k : Nat} {m : MS} {s : PS} (hm : M[k]? = some m) (hs : S[k]? = some s)
    {e : Bool} {l : List KeyL} {a : Option Addr} {c' q : Nat} (hl : l.length = q) (h5 : q ≤ 5) (hB : B ≤ w.heap.size) (hf : Frm (fun i => i = gs) w w') (ho : w'.ownsRow w.heap.size 31 2 (.slice a q c') q (l.flatMap KeyL.cells)) {hd : Bool} {la : KeyL} (hhd : hd = (s.heard || decide (0 < q))) (hla : la = l.getLastD s.last)
    (hg : Blk w' gs 74 (((((((M.flatMap MS.cells ++ sp).set (k * 7 + 4) (.int .i64 la.1)).set (k * 7 + 5) (.string la.2)).set (k * 7 + 3) (.bool hd)).set (k * 7 + 6) (.slice a q c')).set (k * 7 + 1) (.int .i64 (s.seq + 1))).set (k * 7 + 2) (.bool e))) :
    ∃ M', MGx B w' p n (S.set k (s.put l e)) T gs c M' sp ta tc ∧ WOld w.heap.size M M' := by
  rw [row_put hm] at hg
  refine ⟨_, mg_set hx hf hg (fun hk => ?_), fun i x hx' b o s' e1 => ?_⟩
  rotate_left 1
  · by_cases e2 : k = i
    · subst e2
      rw [row_at hm] at hx'
      cases hx'
      rw [show a = some ⟨b, o, s'⟩ from e1] at ho
      exact .inr (own_blk ho).1
    · rw [List.getElem?_set_ne e2] at hx'
      exact .inl ⟨i, x, hx', e1⟩
  have h0 := hx.sh k m s hm hs
  refine ⟨h0.least, rfl, rfl, by rw [hhd, ← hl]; rfl, hla, ?_, ?_, ?_, by rw [show (s.put l e).waits = l from rfl, hl]; exact h5, ?_⟩
  · exact ownsRow_rdE (enc := KeyL.cells) (fun _ => rfl) hl ho
  · intro b o sp' e1
    rw [show a = some ⟨b, o, sp'⟩ from e1] at ho
    exact Nat.le_trans hB (own_blk ho).1
  · intro b o sp' e1 e2
    rw [show a = some ⟨b, o, sp'⟩ from e1] at ho
    have := (own_blk ho).1
    have := (hx.told.lt b e2).2
    omega
  · intro b o sp' e1
    rw [show a = some ⟨b, o, sp'⟩ from e1] at ho
    exact (own_blk ho).2
end Go.Proofs.Ytjacebnjmhbcbaa
