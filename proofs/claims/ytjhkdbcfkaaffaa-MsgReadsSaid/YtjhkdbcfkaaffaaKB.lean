/- Plain: bytes that are read make the bytes; what the document's Decode tells is what the program's does. -/
import Derived.Test.YtjhkdbcfkaaffaaMm14
import Derived.Test.YtjhkdbcfkaaffaaKA
import Derived.Test.YtjhkdbcfkaaffaaStrs
import Derived.Test.YtjhkdbcfkaaffaaJB
import Derived.Test.YtjhkdbcfkaaffaaLendB
import Derived.Test.YtjhkdbcfkaaffaaMm15
import Derived.Test.YtjhkdbcfkaaffaaMm18
namespace Go.Proofs.Ytjhkdbcfkaaffaa
open Go.RowKit
set_option linter.unusedVariables false

/-- from p to p' lies x -/
def Pc (l : List Nat) (p : Nat) (x : List Nat) (p' : Nat) : Prop := p + x.length = p' ∧ p' ≤ l.length ∧ (l.drop p).take x.length = x
set_option maxRecDepth 100000 in
theorem Pc.app {l x y : List Nat} {p p' p'' : Nat} (h : Pc l p x p') (k : Pc l p' y p'') : Pc l p (x ++ y) p'' := by
  obtain ⟨h1, h2, h3⟩ := h
  obtain ⟨k1, k2, k3⟩ := k
  refine ⟨by rw [List.length_append]; omega, k2, ?_⟩
  rw [List.length_append, List.take_add, h3, List.drop_drop, h1, k3]
set_option maxRecDepth 100000 in
theorem Pc.nil {l : List Nat} {p : Nat} (h : p ≤ l.length) : Pc l p [] p := ⟨rfl, h, rfl⟩
set_option maxRecDepth 100000 in
theorem be_num : ∀ (k : Nat) (l : List Nat), l.length = k → (∀ x ∈ l, x < 256) → be (num l) k = l := by
  intro k
  induction k with
  | zero => intro l h _; have := List.length_eq_zero_iff.1 h; subst this; rfl
  | succ k ih =>
    intro l h hb
    have hne : l ≠ [] := by intro e; subst e; simp at h
    have e : l = l.dropLast ++ [l.getLast hne] := (List.dropLast_concat_getLast hne).symm
    have hx : l.getLast hne < 256 := hb _ (List.getLast_mem hne)
    have hd : be (num l.dropLast) k = l.dropLast := ih _ (by simp [h]) (fun x hx => hb x (List.dropLast_subset l hx))
    generalize l.dropLast = d at *
    generalize l.getLast hne = z at *
    rw [e, num_snoc]
    unfold be
    rw [show (num d * 256 + z) / 256 = num d from by omega, show (num d * 256 + z) % 256 = z from by omega, hd]
set_option maxRecDepth 100000 in
theorem u64_nat {n : Nat} (h : n < 18446744073709551616) : u64 ((n : Nat) : Int) = n := by unfold u64; omega
set_option maxRecDepth 100000 in
theorem numS_inv {l : List Nat} (hb : ∀ x ∈ l, x < 256) {k : Nat} (hk : k ≤ 4) {st s : Nat × Bool} {v : Int} (h : numS l k st = (v, s)) (hs : s.2 = false) :
    st.2 = false ∧ Pc l st.1 (be (u64 v) k) s.1 ∧ ∀ suf, numS (l ++ suf) k st = (v, s) := by
  unfold numS at h
  by_cases hle : st.1 + k ≤ l.length
  · rw [if_pos hle] at h
    obtain ⟨rfl, rfl⟩ := Prod.mk.inj h
    have hlt := numAt_lt hb st.1 k hk
    have e : be (numAt l st.1 k) k = (l.drop st.1).take k := by
      unfold numAt
      rw [Int.toNat_natCast, Int.toNat_natCast]
      exact be_num k _ (by rw [List.length_take, List.length_drop]; omega) (fun x hx => hb x (List.mem_of_mem_drop (List.mem_of_mem_take hx)))
    refine ⟨hs, ⟨by rw [be_length], hle, ?_⟩, fun suf => ?_⟩
    · rw [be_length, u64_nat (by omega), e]
    · unfold numS
      rw [if_pos (by rw [List.length_append]; omega)]
      have : numAt (l ++ suf) st.1 k = numAt l st.1 k := by
        unfold numAt
        rw [Int.toNat_natCast, Int.toNat_natCast, List.drop_append_of_le_length (by omega), List.take_append_of_le_length (by rw [List.length_drop]; omega)]
      rw [this]
  · rw [if_neg hle] at h
    obtain ⟨_, rfl⟩ := Prod.mk.inj h
    cases hs
set_option maxRecDepth 100000 in
theorem textS_inv {l : List Nat} (hb : ∀ x ∈ l, x < 256) {st s : Nat × Bool} {t : ByteArray} (h : textS l st = (t, s)) (hs : s.2 = false) :
    st.2 = false ∧ Pc l st.1 (txtL t) s.1 ∧ ∀ suf, textS (l ++ suf) st = (t, s) := by
  unfold textS at h
  by_cases hok : textOk l st.1 = true
  · rw [if_pos hok] at h
    obtain ⟨rfl, rfl⟩ := Prod.mk.inj h
    have hok' := hok
    unfold textOk numOk at hok
    simp only [Bool.and_eq_true, decide_eq_true_eq] at hok
    have hlt := numAt2_lt l hb st.1
    have hle : st.1 + 2 + numAt l st.1 2 ≤ l.length := by omega
    have e : be (numAt l st.1 2) 2 = (l.drop st.1).take 2 := by
      unfold numAt
      rw [Int.toNat_natCast]
      exact be_num 2 _ (by rw [List.length_take, List.length_drop]; omega) (fun x hx => hb x (List.mem_of_mem_drop (List.mem_of_mem_take hx)))
    have hta : (textAt l st.1).length = numAt l st.1 2 := by unfold textAt; rw [List.length_take, List.length_drop, Int.toNat_natCast]; omega
    have hbt : ∀ x ∈ textAt l st.1, x < 256 := fun x hx => by unfold textAt at hx; exact hb x (List.mem_of_mem_drop (List.mem_of_mem_take hx))
    have hsz : (strN (textAt l st.1)).size = numAt l st.1 2 := by rw [strN_size, hta]
    have etx : txtL (strN (textAt l st.1)) = (l.drop st.1).take 2 ++ textAt l st.1 := by
      unfold txtL
      have hc : cutN (strN (textAt l st.1)) = numAt l st.1 2 := by unfold cutN; omega
      rw [hc, u64_nat (by omega), e, bytesN_strN _ hbt, List.take_of_length_le (show (textAt l st.1).length ≤ numAt l st.1 2 from Nat.le_of_eq hta)]
    have hln : ((l.drop st.1).take 2 ++ textAt l st.1).length = 2 + numAt l st.1 2 := by rw [List.length_append, List.length_take, List.length_drop, hta]; omega
    refine ⟨hs, ⟨by rw [etx, hln]; omega, hle, ?_⟩, fun suf => ?_⟩
    · rw [etx, hln, List.take_add, List.drop_drop]
      congr 1
    · have hn2 : numAt (l ++ suf) st.1 2 = numAt l st.1 2 := by
        unfold numAt
        rw [Int.toNat_natCast, List.drop_append_of_le_length (by omega), List.take_append_of_le_length (by rw [List.length_drop]; show 2 ≤ _; omega)]
      have ht2 : textAt (l ++ suf) st.1 = textAt l st.1 := by
        unfold textAt
        rw [hn2, Int.toNat_natCast, List.drop_append_of_le_length (by omega), List.take_append_of_le_length (by rw [List.length_drop]; omega)]
      unfold textS
      rw [if_pos (by unfold textOk numOk; rw [hn2, List.length_append]; simp; omega), ht2, hn2]
  · rw [if_neg hok] at h
    obtain ⟨_, rfl⟩ := Prod.mk.inj h
    cases hs
set_option maxRecDepth 100000 in
theorem flagS_inv {l : List Nat} (hb : ∀ x ∈ l, x < 256) {st s : Nat × Bool} {f : Bool} (h : flagS l st = (f, s)) (hs : s.2 = false) :
    st.2 = false ∧ Pc l st.1 (b1 (flagN f)) s.1 ∧ ∀ suf, (((numS (l ++ suf) 1 st).1 == 1), (numS (l ++ suf) 1 st).2) = (f, s) := by
  unfold flagS at h
  obtain ⟨⟨v, s'⟩, e⟩ : ∃ q, numS l 1 st = q := ⟨_, rfl⟩
  rw [e] at h
  simp only at h
  obtain ⟨rfl, rfl⟩ := Prod.mk.inj h
  simp only [Bool.or_eq_false_iff, decide_eq_false_iff_not] at hs
  obtain ⟨hs1, hs2⟩ := hs
  have hv := numS_in (l := l) (k := 1) (st := st) hb (by decide)
  rw [e] at hv
  simp only at hv
  obtain ⟨h1, h2, h3⟩ := numS_inv hb (by decide) e hs1
  have hv2 : v = 0 ∨ v = 1 := by omega
  have es : (s'.1, s'.2 || decide (1 < v)) = s' := by rw [hs1, show decide (1 < v) = false from by simpa using hs2]; rw [show (false || false) = s'.2 from by rw [hs1]; rfl]
  refine ⟨h1, ?_, fun suf => ?_⟩
  · rw [es]; unfold b1; rw [show flagN (decide (v = 1)) = v from by rcases hv2 with rfl | rfl <;> decide]; exact h2
  · rw [h3 suf, es]
    rcases hv2 with rfl | rfl <;> rfl
set_option maxRecDepth 100000 in
theorem itemS_inv {l : List Nat} (hb : ∀ x ∈ l, x < 256) {st s : Nat × Bool} {x : KeyL} (h : itemS l st = (x, s)) (hs : s.2 = false) :
    st.2 = false ∧ Pc l st.1 (itmL x) s.1 ∧ ∀ suf, itemS (l ++ suf) st = (x, s) := by
  unfold itemS at h
  obtain ⟨⟨v, s'⟩, e⟩ : ∃ q, numS l 1 st = q := ⟨_, rfl⟩
  rw [e] at h
  simp only at h
  obtain ⟨⟨t, s''⟩, e2⟩ : ∃ q, textS l s' = q := ⟨_, rfl⟩
  rw [e2] at h
  simp only at h
  obtain ⟨rfl, rfl⟩ := Prod.mk.inj h
  obtain ⟨h1, h2, h3⟩ := textS_inv hb e2 hs
  obtain ⟨h4, h5, h6⟩ := numS_inv hb (by decide) e h1
  exact ⟨h4, h5.app h2, fun suf => by unfold itemS; rw [h6 suf]; simp only; rw [h3 suf]⟩
set_option maxRecDepth 100000 in
theorem itemsS_inv {l : List Nat} (hb : ∀ x ∈ l, x < 256) : ∀ (N : Nat) {st s : Nat × Bool} {xs : List KeyL}, itemsS l N st = (xs, s) → s.2 = false → st.1 ≤ l.length →
    st.2 = false ∧ xs.length = N ∧ Pc l st.1 (xs.flatMap itmL) s.1 ∧ ∀ suf, itemsS (l ++ suf) N st = (xs, s) := by
  intro N
  induction N with
  | zero =>
    intro st s xs h hs hle
    unfold itemsS at h
    obtain ⟨rfl, rfl⟩ := Prod.mk.inj h
    exact ⟨hs, rfl, Pc.nil hle, fun suf => by unfold itemsS; rfl⟩
  | succ N ih =>
    intro st s xs h hs hle
    have hst : st.2 = false := by
      cases hq : st.2
      · rfl
      · rw [itemsS_bad l _ st hq] at h; obtain ⟨_, rfl⟩ := Prod.mk.inj h; rw [hq] at hs; cases hs
    rw [itemsS_next l N st hst] at h
    obtain ⟨⟨x, s'⟩, e⟩ : ∃ q, itemS l st = q := ⟨_, rfl⟩
    rw [e] at h
    simp only at h
    obtain ⟨⟨ys, s''⟩, e2⟩ : ∃ q, itemsS l N s' = q := ⟨_, rfl⟩
    rw [e2] at h
    simp only at h
    obtain ⟨rfl, rfl⟩ := Prod.mk.inj h
    have hle' : s'.1 ≤ l.length := by
      have q := textS_le (l := l) (st := (numS l 1 st).2) (numS_le (k := 1) hle)
      unfold itemS at e
      obtain ⟨_, rfl⟩ := Prod.mk.inj e
      exact q
    obtain ⟨h1, h2, h3, h4⟩ := ih e2 hs hle'
    obtain ⟨h5, h6, h7⟩ := itemS_inv hb e h1
    refine ⟨h5, by rw [List.length_cons, h2], ?_, fun suf => ?_⟩
    · rw [List.flatMap_cons]; exact h6.app h3
    · rw [itemsS_next _ N st hst, h7 suf]; simp only; rw [h4 suf]
def qmsgS (l : List Nat) (kind : Int) (st : Nat × Bool) : MV × (Nat × Bool) :=
  if kind = 1 then helloS l st else if kind = 2 then grantS l st else if kind = 3 then qaskR l st else if kind = 4 then qreplyR l st else if kind = 5 then stopS l st else (.nil, st)
set_option maxRecDepth 100000 in
theorem num1_len {l : List Nat} (hb : ∀ x ∈ l, x < 256) {st s : Nat × Bool} {v : Int} (h : numS l 1 st = (v, s)) : 0 ≤ v ∧ v < 4294967296 := by
  have hv := numS_in (l := l) (k := 1) (st := st) hb (by decide)
  rw [h] at hv
  exact hv
set_option maxRecDepth 100000 in
theorem hello_inv {l : List Nat} (hb : ∀ x ∈ l, x < 256) {st s : Nat × Bool} {m : MV} (h : helloS l st = (m, s)) (hs : s.2 = false) (hle : st.1 ≤ l.length) :
    st.2 = false ∧ m.isMsg = true ∧ Pc l st.1 (restL m) s.1 ∧ ∀ suf, helloS (l ++ suf) st = (m, s) := by
  obtain ⟨⟨v0, s0⟩, e0⟩ : ∃ q, numS l 4 st = q := ⟨_, rfl⟩
  obtain ⟨⟨v1, s1⟩, e1⟩ : ∃ q, numS l 4 s0 = q := ⟨_, rfl⟩
  unfold helloS at h
  simp only [e0, e1] at h
  obtain ⟨rfl, rfl⟩ := Prod.mk.inj h
  clear h
  obtain ⟨hb1, p1, q1⟩ := numS_inv hb (by decide) e1 hs
  obtain ⟨hb0, p0, q0⟩ := numS_inv hb (by decide) e0 hb1
  refine ⟨hb0, rfl, p0.app (p1), fun suf => ?_⟩
  unfold helloS
  simp only [q0 suf, q1 suf]
set_option maxRecDepth 100000 in
theorem grant_inv {l : List Nat} (hb : ∀ x ∈ l, x < 256) {st s : Nat × Bool} {m : MV} (h : grantS l st = (m, s)) (hs : s.2 = false) (hle : st.1 ≤ l.length) :
    st.2 = false ∧ m.isMsg = true ∧ Pc l st.1 (restL m) s.1 ∧ ∀ suf, grantS (l ++ suf) st = (m, s) := by
  obtain ⟨⟨v0, s0⟩, e0⟩ : ∃ q, numS l 4 st = q := ⟨_, rfl⟩
  obtain ⟨⟨v1, s1⟩, e1⟩ : ∃ q, numS l 4 s0 = q := ⟨_, rfl⟩
  obtain ⟨⟨v2, s2⟩, e2⟩ : ∃ q, numS l 4 s1 = q := ⟨_, rfl⟩
  unfold grantS at h
  simp only [e0, e1, e2] at h
  obtain ⟨rfl, rfl⟩ := Prod.mk.inj h
  clear h
  obtain ⟨hb2, p2, q2⟩ := numS_inv hb (by decide) e2 hs
  obtain ⟨hb1, p1, q1⟩ := numS_inv hb (by decide) e1 hb2
  obtain ⟨hb0, p0, q0⟩ := numS_inv hb (by decide) e0 hb1
  refine ⟨hb0, rfl, p0.app (p1.app (p2)), fun suf => ?_⟩
  unfold grantS
  simp only [q0 suf, q1 suf, q2 suf]
set_option maxRecDepth 100000 in
theorem stop_inv {l : List Nat} (hb : ∀ x ∈ l, x < 256) {st s : Nat × Bool} {m : MV} (h : stopS l st = (m, s)) (hs : s.2 = false) (hle : st.1 ≤ l.length) :
    st.2 = false ∧ m.isMsg = true ∧ Pc l st.1 (restL m) s.1 ∧ ∀ suf, stopS (l ++ suf) st = (m, s) := by
  obtain ⟨⟨v0, s0⟩, e0⟩ : ∃ q, numS l 4 st = q := ⟨_, rfl⟩
  obtain ⟨⟨v1, s1⟩, e1⟩ : ∃ q, numS l 4 s0 = q := ⟨_, rfl⟩
  unfold stopS at h
  simp only [e0, e1] at h
  obtain ⟨rfl, rfl⟩ := Prod.mk.inj h
  clear h
  obtain ⟨hb1, p1, q1⟩ := numS_inv hb (by decide) e1 hs
  obtain ⟨hb0, p0, q0⟩ := numS_inv hb (by decide) e0 hb1
  refine ⟨hb0, rfl, p0.app (p1), fun suf => ?_⟩
  unfold stopS
  simp only [q0 suf, q1 suf]
set_option maxRecDepth 100000 in
theorem ask_inv {l : List Nat} (hb : ∀ x ∈ l, x < 256) {st s : Nat × Bool} {m : MV} (h : askS l st = (m, s)) (hs : s.2 = false) (hle : st.1 ≤ l.length) :
    st.2 = false ∧ m.isMsg = true ∧ Pc l st.1 (restL m) s.1 ∧ ∀ suf, qaskR (l ++ suf) st = (m, s) := by
  obtain ⟨⟨v0, s0⟩, e0⟩ : ∃ q, numS l 4 st = q := ⟨_, rfl⟩
  obtain ⟨⟨v1, s1⟩, e1⟩ : ∃ q, numS l 4 s0 = q := ⟨_, rfl⟩
  obtain ⟨⟨v2, s2⟩, e2⟩ : ∃ q, numS l 4 s1 = q := ⟨_, rfl⟩
  obtain ⟨⟨v3, s3⟩, e3⟩ : ∃ q, numS l 4 s2 = q := ⟨_, rfl⟩
  obtain ⟨⟨v4, s4⟩, e4⟩ : ∃ q, numS l 4 s3 = q := ⟨_, rfl⟩
  obtain ⟨⟨v5, s5⟩, e5⟩ : ∃ q, textS l s4 = q := ⟨_, rfl⟩
  obtain ⟨⟨v6, s6⟩, e6⟩ : ∃ q, numS l 1 s5 = q := ⟨_, rfl⟩
  obtain ⟨⟨v7, s7⟩, e7⟩ : ∃ q, numS l 1 s6 = q := ⟨_, rfl⟩
  obtain ⟨⟨v8, s8⟩, e8⟩ : ∃ q, flagS l s7 = q := ⟨_, rfl⟩
  obtain ⟨⟨v9, s9⟩, e9⟩ : ∃ q, itemS l s8 = q := ⟨_, rfl⟩
  unfold askS at h
  simp only [e0, e1, e2, e3, e4, e5, e6, e7, e8, e9] at h
  obtain ⟨rfl, rfl⟩ := Prod.mk.inj h
  clear h
  obtain ⟨hb9, p9, q9⟩ := itemS_inv hb e9 hs
  obtain ⟨hb8, p8, q8⟩ := flagS_inv hb e8 hb9
  obtain ⟨hb7, p7, q7⟩ := numS_inv hb (by decide) e7 hb8
  obtain ⟨hb6, p6, q6⟩ := numS_inv hb (by decide) e6 hb7
  obtain ⟨hb5, p5, q5⟩ := textS_inv hb e5 hb6
  obtain ⟨hb4, p4, q4⟩ := numS_inv hb (by decide) e4 hb5
  obtain ⟨hb3, p3, q3⟩ := numS_inv hb (by decide) e3 hb4
  obtain ⟨hb2, p2, q2⟩ := numS_inv hb (by decide) e2 hb3
  obtain ⟨hb1, p1, q1⟩ := numS_inv hb (by decide) e1 hb2
  obtain ⟨hb0, p0, q0⟩ := numS_inv hb (by decide) e0 hb1
  refine ⟨hb0, rfl, p0.app (p1.app (p2.app (p3.app (p4.app (p5.app (p6.app (p7.app (p8.app (p9))))))))), fun suf => ?_⟩
  obtain ⟨g1, g2⟩ := Prod.mk.inj (q8 suf)
  have q9' := q9 suf
  unfold itemS at q9'
  obtain ⟨g3, g4⟩ := Prod.mk.inj q9'
  have g5 := congrArg Prod.fst g3
  have g6 := congrArg Prod.snd g3
  simp only at g5 g6
  unfold qaskR
  simp only [q0 suf, q1 suf, q2 suf, q3 suf, q4 suf, q5 suf, q6 suf, q7 suf, g1, g2, g4, g5, g6]
set_option maxRecDepth 100000 in
theorem reply_inv {l : List Nat} (hb : ∀ x ∈ l, x < 256) {st s : Nat × Bool} {m : MV} (h : replyS l st = (m, s)) (hs : s.2 = false) (hle : st.1 ≤ l.length) :
    st.2 = false ∧ m.isMsg = true ∧ Pc l st.1 (restL m) s.1 ∧ ∀ suf, qreplyR (l ++ suf) st = (m, s) := by
  obtain ⟨⟨v0, s0⟩, e0⟩ : ∃ q, numS l 4 st = q := ⟨_, rfl⟩
  obtain ⟨⟨v1, s1⟩, e1⟩ : ∃ q, numS l 4 s0 = q := ⟨_, rfl⟩
  obtain ⟨⟨v2, s2⟩, e2⟩ : ∃ q, numS l 4 s1 = q := ⟨_, rfl⟩
  obtain ⟨⟨v3, s3⟩, e3⟩ : ∃ q, numS l 4 s2 = q := ⟨_, rfl⟩
  obtain ⟨⟨v4, s4⟩, e4⟩ : ∃ q, numS l 4 s3 = q := ⟨_, rfl⟩
  obtain ⟨⟨v5, s5⟩, e5⟩ : ∃ q, numS l 4 s4 = q := ⟨_, rfl⟩
  obtain ⟨⟨v6, s6⟩, e6⟩ : ∃ q, numS l 1 s5 = q := ⟨_, rfl⟩
  obtain ⟨⟨v7, s7⟩, e7⟩ : ∃ q, itemsS l v6.toNat s6 = q := ⟨_, rfl⟩
  obtain ⟨⟨v8, s8⟩, e8⟩ : ∃ q, flagS l s7 = q := ⟨_, rfl⟩
  unfold replyS at h
  simp only [e0, e1, e2, e3, e4, e5, e6, e7, e8] at h
  obtain ⟨rfl, rfl⟩ := Prod.mk.inj h
  clear h
  have l0 : s0.1 ≤ l.length := by have q := numS_le (k := 4) (st := st) hle; rw [e0] at q; exact q
  have l1 : s1.1 ≤ l.length := by have q := numS_le (k := 4) (st := s0) l0; rw [e1] at q; exact q
  have l2 : s2.1 ≤ l.length := by have q := numS_le (k := 4) (st := s1) l1; rw [e2] at q; exact q
  have l3 : s3.1 ≤ l.length := by have q := numS_le (k := 4) (st := s2) l2; rw [e3] at q; exact q
  have l4 : s4.1 ≤ l.length := by have q := numS_le (k := 4) (st := s3) l3; rw [e4] at q; exact q
  have l5 : s5.1 ≤ l.length := by have q := numS_le (k := 4) (st := s4) l4; rw [e5] at q; exact q
  have l6 : s6.1 ≤ l.length := by have q := numS_le (k := 1) (st := s5) l5; rw [e6] at q; exact q
  obtain ⟨hb8, p8, q8⟩ := flagS_inv hb e8 hs
  obtain ⟨hb7, c7, p7, q7⟩ := itemsS_inv hb _ e7 hb8 l6
  obtain ⟨hb6, p6, q6⟩ := numS_inv hb (by decide) e6 hb7
  obtain ⟨hb5, p5, q5⟩ := numS_inv hb (by decide) e5 hb6
  obtain ⟨hb4, p4, q4⟩ := numS_inv hb (by decide) e4 hb5
  obtain ⟨hb3, p3, q3⟩ := numS_inv hb (by decide) e3 hb4
  obtain ⟨hb2, p2, q2⟩ := numS_inv hb (by decide) e2 hb3
  obtain ⟨hb1, p1, q1⟩ := numS_inv hb (by decide) e1 hb2
  obtain ⟨hb0, p0, q0⟩ := numS_inv hb (by decide) e0 hb1
  have hv := num1_len hb e6
  have hn : (v7.length : Int) = v6 := by omega
  refine ⟨hb0, rfl, by show Pc l st.1 (b4 v0 ++ (b4 v1 ++ (b4 v2 ++ (b4 v3 ++ (b4 v4 ++ (b4 v5 ++ (b1 v7.length ++ (v7.flatMap itmL ++ b1 (flagN v8))))))))) _; rw [hn]; exact p0.app (p1.app (p2.app (p3.app (p4.app (p5.app (p6.app (p7.app (p8)))))))), fun suf => ?_⟩
  obtain ⟨g1, g2⟩ := Prod.mk.inj (q8 suf)
  unfold qreplyR
  simp only [q0 suf, q1 suf, q2 suf, q3 suf, q4 suf, q5 suf, q6 suf, q7 suf, g1, g2]
set_option maxRecDepth 100000 in
theorem msgS_inv {l : List Nat} (hb : ∀ x ∈ l, x < 256) {kind : Int} {st s : Nat × Bool} {m : MV} (h : msgS l kind st = (m, s)) (hs : s.2 = false) (hle : st.1 ≤ l.length) :
    m.isMsg = true ∧ m.kind = kind ∧ Pc l st.1 (restL m) s.1 ∧ ∀ suf, qmsgS (l ++ suf) kind st = (m, s) := by
  unfold msgS at h
  by_cases h1 : kind = 1
  · rw [if_pos h1] at h
    obtain ⟨_, a, b, c⟩ := hello_inv hb h hs hle
    exact ⟨a, by subst h1; exact (congrArg (fun q => MV.kind q.1) h).symm, b, fun suf => by unfold qmsgS; rw [if_pos h1]; exact c suf⟩
  rw [if_neg h1] at h
  by_cases h2 : kind = 2
  · rw [if_pos h2] at h
    obtain ⟨_, a, b, c⟩ := grant_inv hb h hs hle
    exact ⟨a, by subst h2; exact (congrArg (fun q => MV.kind q.1) h).symm, b, fun suf => by unfold qmsgS; rw [if_neg h1, if_pos h2]; exact c suf⟩
  rw [if_neg h2] at h
  by_cases h3 : kind = 3
  · rw [if_pos h3] at h
    obtain ⟨_, a, b, c⟩ := ask_inv hb h hs hle
    exact ⟨a, by subst h3; exact (congrArg (fun q => MV.kind q.1) h).symm, b, fun suf => by unfold qmsgS; rw [if_neg h1, if_neg h2, if_pos h3]; exact c suf⟩
  rw [if_neg h3] at h
  by_cases h4 : kind = 4
  · rw [if_pos h4] at h
    obtain ⟨_, a, b, c⟩ := reply_inv hb h hs hle
    exact ⟨a, by subst h4; exact (congrArg (fun q => MV.kind q.1) h).symm, b, fun suf => by unfold qmsgS; rw [if_neg h1, if_neg h2, if_neg h3, if_pos h4]; exact c suf⟩
  rw [if_neg h4] at h
  by_cases h5 : kind = 5
  · rw [if_pos h5] at h
    obtain ⟨_, a, b, c⟩ := stop_inv hb h hs hle
    exact ⟨a, by subst h5; exact (congrArg (fun q => MV.kind q.1) h).symm, b, fun suf => by unfold qmsgS; rw [if_neg h1, if_neg h2, if_neg h3, if_neg h4, if_pos h5]; exact c suf⟩
  rw [if_neg h5] at h
  obtain ⟨_, rfl⟩ := Prod.mk.inj h
  cases hs
set_option maxRecDepth 100000 in
theorem qmsgS_short (l : List Nat) (kind : Int) (st : Nat × Bool) (hl : l.length ≤ 2000) : (qmsgS l kind st).1.short := by
  unfold qmsgS
  split; · trivial
  split; · trivial
  split; · exact ⟨Nat.le_trans (textS_size l _) hl, Nat.le_trans (textS_size l _) hl⟩
  split; · exact fun x hx => Nat.le_trans (itemsS_size l _ _ x hx) hl
  split; · trivial
  trivial
def rdecOk (l : List Nat) : Bool := decide ((qmsgS l (l.getD 2 0 : Nat) (3, false)).2.2 = false) && (qmsgS l (l.getD 2 0 : Nat) (3, false)).1.may && decide (encL (qmsgS l (l.getD 2 0 : Nat) (3, false)).1 = l)
/-- what the document's Decode tells -/
def rdecL (l : List Nat) : MV × Int :=
  if l.length < 7 ∨ 1024 < l.length then (.nil, 8) else if numAt l 0 2 ≠ l.length then (.nil, 8) else if numAt l (l.length - 4) 4 ≠ addN 0 (l.take (l.length - 4)) then (.nil, 9)
  else if rdecOk l = true then ((qmsgS l (l.getD 2 0 : Nat) (3, false)).1, 0) else (.nil, 8)
set_option maxRecDepth 100000 in
theorem rdecL_eq (l : List Nat) (hb : ∀ x ∈ l, x < 256) : rdecL l = decL l := by
  by_cases hs : l.length < 7 ∨ 1024 < l.length
  · unfold rdecL decL; rw [if_pos hs, if_pos hs]
  by_cases ht : numAt l 0 2 ≠ l.length
  · unfold rdecL decL; rw [if_neg hs, if_neg hs, if_pos ht, if_pos ht]
  by_cases hsum : numAt l (l.length - 4) 4 ≠ addN 0 (l.take (l.length - 4))
  · unfold rdecL decL; rw [if_neg hs, if_neg hs, if_neg ht, if_neg ht, if_pos hsum, if_pos hsum]
  have er : rdecL l = if rdecOk l = true then ((qmsgS l (l.getD 2 0 : Nat) (3, false)).1, 0) else (.nil, 8) := by unfold rdecL; rw [if_neg hs, if_neg ht, if_neg hsum]
  have ed : decL l = if decOk l = true then ((msgS (l.take (l.length - 4)) (l.getD 2 0 : Nat) (3, false)).1, 0) else (.nil, 8) := by unfold decL; rw [if_neg hs, if_neg ht, if_neg hsum]
  by_cases hd : decOk l = true
  · rw [if_pos hd] at ed
    unfold decOk at hd
    obtain ⟨⟨m, s⟩, e⟩ : ∃ q, msgS (l.take (l.length - 4)) (l.getD 2 0 : Nat) (3, false) = q := ⟨_, rfl⟩
    rw [e] at hd ed
    simp only [Bool.and_eq_true, decide_eq_true_eq] at hd ed
    obtain ⟨⟨d1, d2⟩, d3⟩ := hd
    have hlt : (l.take (l.length - 4)).length = l.length - 4 := by rw [List.length_take]; omega
    obtain ⟨i1, i2, ⟨i3, _, i5⟩, i4⟩ := msgS_inv (fun x hx => hb x (List.mem_of_mem_take hx)) e d1 (by rw [hlt]; show 3 ≤ _; omega)
    have i4' := i4 (l.drop (l.length - 4))
    rw [List.take_append_drop] at i4'
    have i3' : 3 + (restL m).length = l.length - 4 := by rw [← d2]; exact i3
    have i5' : (l.take (l.length - 4)).drop 3 = restL m := by
      have q : ((l.take (l.length - 4)).drop 3).take (restL m).length = restL m := i5
      rw [List.take_of_length_le (by rw [List.length_drop, hlt]; omega)] at q
      exact q
    have hcl : (coreL m).length = l.length - 4 := by unfold coreL; rw [List.length_append, headL_len]; omega
    have hbl := core_len m i1
    have h2 : be (numAt l 0 2) 2 = l.take 2 := by
      unfold numAt
      exact be_num 2 _ (by rw [List.length_take, List.length_drop]; show min 2 _ = 2; simp; omega) (fun x hx => hb x (List.mem_of_mem_drop (List.mem_of_mem_take hx)))
    have h2' : be l.length 2 = l.take 2 := by rw [← h2]; congr 1; exact (Decidable.not_not.1 ht).symm
    have hh : headL m = l.take 3 := by
      unfold headL
      rw [show ((bodyL m).length + 4 : Int) = ((l.length : Nat) : Int) from by omega, u64_nat (by omega), h2', i2, Int.toNat_natCast]
      rw [List.take_succ_eq_append_getElem (by omega : 2 < l.length), List.getD_eq_getElem?_getD, List.getElem?_eq_getElem (by omega : 2 < l.length)]
      rfl
    have hc : coreL m = l.take (l.length - 4) := by
      unfold coreL
      have q := List.take_append_drop 3 (l.take (l.length - 4))
      rw [i5', List.take_take, Nat.min_eq_left (by omega)] at q
      rw [hh]
      exact q
    have hen : encL m = l := by
      rw [encL_eq m i1, hc]
      have e4 : be (numAt l ((l.length : Int) - 4) 4) 4 = l.drop (l.length - 4) := by
        have q := be_num 4 (l.drop (l.length - 4)) (by rw [List.length_drop]; omega) (fun x hx => hb x (List.mem_of_mem_drop hx))
        unfold numAt
        rw [show ((l.length : Int) - 4).toNat = l.length - 4 from by omega, List.take_of_length_le (by rw [List.length_drop]; show _ ≤ 4; omega)]
        exact q
      have hs4 := addN_lt 0 (l.take (l.length - 4)) (fun x hx => hb x (List.mem_of_mem_take hx))
      unfold b4
      rw [u64_nat (by omega), ← Decidable.not_not.1 hsum, e4, List.take_append_drop]
    have hr : rdecOk l = true := by unfold rdecOk; rw [i4']; simp [d1, d3, hen]
    rw [if_pos hr, i4'] at er
    rw [er, ed]
  · rw [if_neg hd] at ed
    by_cases hr : rdecOk l = true
    · exfalso
      unfold rdecOk at hr
      simp only [Bool.and_eq_true, decide_eq_true_eq] at hr
      obtain ⟨⟨r1, r2⟩, r3⟩ := hr
      have q := dec_back _ r2 (qmsgS_short l _ _ (by omega)) (by rw [r3]; omega)
      rw [r3, ed] at q
      exact absurd (show (8 : Int) = 0 from congrArg Prod.snd q) (by decide)
    · rw [if_neg hr] at er
      rw [er, ed]
end Go.Proofs.Ytjhkdbcfkaaffaa
/- Opened; the document's reader.read at any kind. -/
namespace Go.Proofs.Ytjhkdbcfkaaffaa
open Go.RowKit
set_option linter.unusedVariables false

set_option maxRecDepth 100000 in
set_option maxHeartbeats 4000000 in
theorem opened_yes (a : Option Addr) (c : Nat) (l : List Nat) (w : World) (hr : Rd w a l.length c (u8s l)) (hb : ∀ x ∈ l, x < 256) (h7 : 7 ≤ l.length) (h1 : l.length ≤ 1024) (hsum : numAt l ((l.length : Int) - 4) 4 = addN 0 (l.take (l.length - 4))) :
    Calls Try.prog 57 #[.slice a l.length c] w fun e w' => e = .returned (.bool true) ∧ w = w' := by
  obtain ⟨n, hn⟩ : ∃ n, l.length = n + 4 := ⟨l.length - 4, by omega⟩
  have hn4 : ((l.length : Int) - 4) = (n : Int) := by omega
  have hn5 : l.length - 4 = n := by omega
  have kw : IntKind.i64.wrap ((l.length : Int) - 4) = (n : Int) := by rw [IntWalk.i64_in _ (by omega)]; omega
  have k1 : ¬ (l.length : Int) < 4 := by omega
  have hcl : numAt l n 4 < 4294967296 := numAt_lt hb n 4 (by decide)
  have hw4 : wrap64 (numAt l n 4 : Nat) = (numAt l n 4 : Nat) := by unfold wrap64; omega
  have HN4 := Lib.hid (refnum_yes a l.length c l n 4 w hr hb (by omega) (by unfold numOk; simp; omega))
  rw [hw4] at HN4
  obtain ⟨b0, o0, rfl, hb0, hc0⟩ := hr.2.2.2.2 0 (by omega)
  have HP := Lib.hid (hr.cut' 0 n (by omega) (some ⟨b0, o0, none⟩) (fun _ => rfl) (by simp) c (by omega))
  rw [List.drop_zero] at HP
  have hbt : ∀ x ∈ l.take n, x < 256 := fun x hx => hb x (List.mem_of_mem_take hx)
  have HO := Lib.hid (refof_any (some ⟨b0, o0, none⟩) n c (l.take n) w hbt HP.out)
  have hs := addN_lt 0 (l.take n) hbt
  have hcc : l.length ≤ c := hr.2.1
  have hcm : c ≤ maxLen := hr.2.2.1
  unfold maxLen at hcm
  have k6 : n ≤ c := by omega
  rw [hn4, hn5] at hsum
  rw [hsum] at HN4
  generalize addN 0 (l.take n) = sm at *
  have kv : IntKind.i64.wrap (sm : Int) = sm := IntWalk.i64_in _ (by omega)
  generalize hP : l.take n = pl at *
  generalize hL : l.length = len at *
  have HPL := Lib.hid hP
  have HLL := Lib.hid hL
  clear hr hb hw4 hc0 hn4 hn5 hn hcl hP hL hbt HP hsum
  go_enter Try.func57, Try.ntmps57
  go_wp2_with fail
  refine HN4.out.mono ?_
  rintro e w1 ⟨rfl, rfl⟩
  go_wp2_with fail
  refine HO.out.mono ?_
  rintro e w1 ⟨rfl, rfl⟩
  go_wp2_with fail
  go_ret
  exact ⟨rfl, rfl⟩
set_option maxRecDepth 100000 in
set_option maxHeartbeats 4000000 in
theorem opened_no (a : Option Addr) (c : Nat) (l : List Nat) (w : World) (hr : Rd w a l.length c (u8s l)) (hb : ∀ x ∈ l, x < 256) (h7 : 7 ≤ l.length) (h1 : l.length ≤ 1024) (hsum : numAt l ((l.length : Int) - 4) 4 ≠ addN 0 (l.take (l.length - 4))) :
    Calls Try.prog 57 #[.slice a l.length c] w fun e w' => e = .returned (.bool false) ∧ w = w' := by
  obtain ⟨n, hn⟩ : ∃ n, l.length = n + 4 := ⟨l.length - 4, by omega⟩
  have hn4 : ((l.length : Int) - 4) = (n : Int) := by omega
  have hn5 : l.length - 4 = n := by omega
  have kw : IntKind.i64.wrap ((l.length : Int) - 4) = (n : Int) := by rw [IntWalk.i64_in _ (by omega)]; omega
  have k1 : ¬ (l.length : Int) < 4 := by omega
  have hcl : numAt l n 4 < 4294967296 := numAt_lt hb n 4 (by decide)
  have hw4 : wrap64 (numAt l n 4 : Nat) = (numAt l n 4 : Nat) := by unfold wrap64; omega
  have HN4 := Lib.hid (refnum_yes a l.length c l n 4 w hr hb (by omega) (by unfold numOk; simp; omega))
  rw [hw4] at HN4
  obtain ⟨b0, o0, rfl, hb0, hc0⟩ := hr.2.2.2.2 0 (by omega)
  have HP := Lib.hid (hr.cut' 0 n (by omega) (some ⟨b0, o0, none⟩) (fun _ => rfl) (by simp) c (by omega))
  rw [List.drop_zero] at HP
  have hbt : ∀ x ∈ l.take n, x < 256 := fun x hx => hb x (List.mem_of_mem_take hx)
  have HO := Lib.hid (refof_any (some ⟨b0, o0, none⟩) n c (l.take n) w hbt HP.out)
  have hs := addN_lt 0 (l.take n) hbt
  have hcc : l.length ≤ c := hr.2.1
  have hcm : c ≤ maxLen := hr.2.2.1
  unfold maxLen at hcm
  have k6 : n ≤ c := by omega
  rw [hn4, hn5] at hsum
  have k5 : (((numAt l n 4 : Nat) : Int) == ((addN 0 (l.take n) : Nat) : Int)) = false := by rw [beq_eq_false_iff_ne]; omega
  generalize addN 0 (l.take n) = sm at *
  generalize numAt l n 4 = cv at *
  have kv : IntKind.i64.wrap (sm : Int) = sm := IntWalk.i64_in _ (by omega)
  generalize hP : l.take n = pl at *
  generalize hL : l.length = len at *
  have HPL := Lib.hid hP
  have HLL := Lib.hid hL
  clear hr hb hw4 hc0 hn4 hn5 hn hcl hP hL hbt HP hsum
  go_enter Try.func57, Try.ntmps57
  go_wp2_with fail
  refine HN4.out.mono ?_
  rintro e w1 ⟨rfl, rfl⟩
  go_wp2_with fail
  refine HO.out.mono ?_
  rintro e w1 ⟨rfl, rfl⟩
  go_wp2_with fail
  go_ret
  exact ⟨rfl, rfl⟩
set_option maxRecDepth 100000 in
set_option maxHeartbeats 8000000 in
theorem qread_no (g : Nat) (a : Option Addr) (c : Nat) (l : List Nat) (kind : Int) (st : Nat × Bool) (w : World) (h : QAt w g a c l st) (h1 : kind ≠ 1) (h2 : kind ≠ 2) (h3 : kind ≠ 3) (h4 : kind ≠ 4) (h5 : kind ≠ 5) :
    Calls Try.prog 58 #[.pointer (some ⟨g, 0, none⟩), .int .i64 kind] w (QM g a c l kind (.nil, st) w) := by
  have HKD := Lib.hid (show (⟨0, 0, 0, 0, 0, 0, 0, 0, 0, 0, ⟨#[]⟩, 0, 0, false, 0, ⟨#[]⟩, 0, 0, 0, 0, 0, 0, none, 0, [], false, 0, 0⟩ : P5).kd kind = .nil from by unfold P5.kd; rw [if_neg h1, if_neg h2, if_neg h3, if_neg h4, if_neg h5])
  have hg := h.2.2.1.lt
  have HW := Lib.hid h
  have b1 : (kind == 1) = false := by simpa using h1
  have b2 : (kind == 2) = false := by simpa using h2
  have b3 : (kind == 3) = false := by simpa using h3
  have b4 : (kind == 4) = false := by simpa using h4
  have b5 : (kind == 5) = false := by simpa using h5
  have HX0 := Lib.hid (show Blk ((w.alloc (.cells #[.int .i64 0, .int .i64 0, .int .i64 0, .int .i64 0, .int .i64 0, .int .i64 0, .int .i64 0, .int .i64 0, .int .i64 0, .int .i64 0, .int .i64 0, .string ⟨#[]⟩, .int .i64 0, .int .i64 0, .bool false, .int .i64 0, .string ⟨#[]⟩, .int .i64 0, .int .i64 0, .int .i64 0, .int .i64 0, .int .i64 0, .int .i64 0, .slice none 0 0, .bool false, .int .i64 0, .int .i64 0] 46)).alloc (.cells #[.int .i64 0, .int .i64 0, .int .i64 0, .int .i64 0, .int .i64 0, .int .i64 0, .int .i64 0, .int .i64 0, .int .i64 0, .int .i64 0, .int .i64 0, .string ⟨#[]⟩, .int .i64 0, .int .i64 0, .bool false, .int .i64 0, .string ⟨#[]⟩, .int .i64 0, .int .i64 0, .int .i64 0, .int .i64 0, .int .i64 0, .int .i64 0, .slice none 0 0, .bool false, .int .i64 0, .int .i64 0] 46)) (w.heap.size + 1) 46 [.int .i64 0, .int .i64 0, .int .i64 0, .int .i64 0, .int .i64 0, .int .i64 0, .int .i64 0, .int .i64 0, .int .i64 0, .int .i64 0, .int .i64 0, .string ⟨#[]⟩, .int .i64 0, .int .i64 0, .bool false, .int .i64 0, .string ⟨#[]⟩, .int .i64 0, .int .i64 0, .int .i64 0, .int .i64 0, .int .i64 0, .int .i64 0, .slice none 0 0, .bool false, .int .i64 0, .int .i64 0] from by have q := heap_alloc_new (w.alloc (.cells #[.int .i64 0, .int .i64 0, .int .i64 0, .int .i64 0, .int .i64 0, .int .i64 0, .int .i64 0, .int .i64 0, .int .i64 0, .int .i64 0, .int .i64 0, .string ⟨#[]⟩, .int .i64 0, .int .i64 0, .bool false, .int .i64 0, .string ⟨#[]⟩, .int .i64 0, .int .i64 0, .int .i64 0, .int .i64 0, .int .i64 0, .int .i64 0, .slice none 0 0, .bool false, .int .i64 0, .int .i64 0] 46)) (.cells #[.int .i64 0, .int .i64 0, .int .i64 0, .int .i64 0, .int .i64 0, .int .i64 0, .int .i64 0, .int .i64 0, .int .i64 0, .int .i64 0, .int .i64 0, .string ⟨#[]⟩, .int .i64 0, .int .i64 0, .bool false, .int .i64 0, .string ⟨#[]⟩, .int .i64 0, .int .i64 0, .int .i64 0, .int .i64 0, .int .i64 0, .int .i64 0, .slice none 0 0, .bool false, .int .i64 0, .int .i64 0] 46); rw [show (w.alloc (.cells #[.int .i64 0, .int .i64 0, .int .i64 0, .int .i64 0, .int .i64 0, .int .i64 0, .int .i64 0, .int .i64 0, .int .i64 0, .int .i64 0, .int .i64 0, .string ⟨#[]⟩, .int .i64 0, .int .i64 0, .bool false, .int .i64 0, .string ⟨#[]⟩, .int .i64 0, .int .i64 0, .int .i64 0, .int .i64 0, .int .i64 0, .int .i64 0, .slice none 0 0, .bool false, .int .i64 0, .int .i64 0] 46)).heap.size = w.heap.size + 1 from by simp] at q; exact q)
  have hG0 := Blk.alloc (show Blk (w.alloc (.cells #[.int .i64 0, .int .i64 0, .int .i64 0, .int .i64 0, .int .i64 0, .int .i64 0, .int .i64 0, .int .i64 0, .int .i64 0, .int .i64 0, .int .i64 0, .string ⟨#[]⟩, .int .i64 0, .int .i64 0, .bool false, .int .i64 0, .string ⟨#[]⟩, .int .i64 0, .int .i64 0, .int .i64 0, .int .i64 0, .int .i64 0, .int .i64 0, .slice none 0 0, .bool false, .int .i64 0, .int .i64 0] 46)) w.heap.size 46 [.int .i64 0, .int .i64 0, .int .i64 0, .int .i64 0, .int .i64 0, .int .i64 0, .int .i64 0, .int .i64 0, .int .i64 0, .int .i64 0, .int .i64 0, .string ⟨#[]⟩, .int .i64 0, .int .i64 0, .bool false, .int .i64 0, .string ⟨#[]⟩, .int .i64 0, .int .i64 0, .int .i64 0, .int .i64 0, .int .i64 0, .int .i64 0, .slice none 0 0, .bool false, .int .i64 0, .int .i64 0] from heap_alloc_new w _) (.cells #[.int .i64 0, .int .i64 0, .int .i64 0, .int .i64 0, .int .i64 0, .int .i64 0, .int .i64 0, .int .i64 0, .int .i64 0, .int .i64 0, .int .i64 0, .string ⟨#[]⟩, .int .i64 0, .int .i64 0, .bool false, .int .i64 0, .string ⟨#[]⟩, .int .i64 0, .int .i64 0, .int .i64 0, .int .i64 0, .int .i64 0, .int .i64 0, .slice none 0 0, .bool false, .int .i64 0, .int .i64 0] 46)
  have hF0 : Frm (fun i => i = g) w (((w.alloc (.cells #[.int .i64 0, .int .i64 0, .int .i64 0, .int .i64 0, .int .i64 0, .int .i64 0, .int .i64 0, .int .i64 0, .int .i64 0, .int .i64 0, .int .i64 0, .string ⟨#[]⟩, .int .i64 0, .int .i64 0, .bool false, .int .i64 0, .string ⟨#[]⟩, .int .i64 0, .int .i64 0, .int .i64 0, .int .i64 0, .int .i64 0, .int .i64 0, .slice none 0 0, .bool false, .int .i64 0, .int .i64 0] 46)).alloc (.cells #[.int .i64 0, .int .i64 0, .int .i64 0, .int .i64 0, .int .i64 0, .int .i64 0, .int .i64 0, .int .i64 0, .int .i64 0, .int .i64 0, .int .i64 0, .string ⟨#[]⟩, .int .i64 0, .int .i64 0, .bool false, .int .i64 0, .string ⟨#[]⟩, .int .i64 0, .int .i64 0, .int .i64 0, .int .i64 0, .int .i64 0, .int .i64 0, .slice none 0 0, .bool false, .int .i64 0, .int .i64 0] 46)).setRow (w.heap.size + 1) #[.int .i64 kind, .int .i64 0, .int .i64 0, .int .i64 0, .int .i64 0, .int .i64 0, .int .i64 0, .int .i64 0, .int .i64 0, .int .i64 0, .int .i64 0, .string ⟨#[]⟩, .int .i64 0, .int .i64 0, .bool false, .int .i64 0, .string ⟨#[]⟩, .int .i64 0, .int .i64 0, .int .i64 0, .int .i64 0, .int .i64 0, .int .i64 0, .slice none 0 0, .bool false, .int .i64 0, .int .i64 0]) := (((Frm.refl (fun i => i = g) w).alloc (.cells #[.int .i64 0, .int .i64 0, .int .i64 0, .int .i64 0, .int .i64 0, .int .i64 0, .int .i64 0, .int .i64 0, .int .i64 0, .int .i64 0, .int .i64 0, .string ⟨#[]⟩, .int .i64 0, .int .i64 0, .bool false, .int .i64 0, .string ⟨#[]⟩, .int .i64 0, .int .i64 0, .int .i64 0, .int .i64 0, .int .i64 0, .int .i64 0, .slice none 0 0, .bool false, .int .i64 0, .int .i64 0] 46)).alloc (.cells #[.int .i64 0, .int .i64 0, .int .i64 0, .int .i64 0, .int .i64 0, .int .i64 0, .int .i64 0, .int .i64 0, .int .i64 0, .int .i64 0, .int .i64 0, .string ⟨#[]⟩, .int .i64 0, .int .i64 0, .bool false, .int .i64 0, .string ⟨#[]⟩, .int .i64 0, .int .i64 0, .int .i64 0, .int .i64 0, .int .i64 0, .int .i64 0, .slice none 0 0, .bool false, .int .i64 0, .int .i64 0] 46)).trans (fsetRow #[.int .i64 kind, .int .i64 0, .int .i64 0, .int .i64 0, .int .i64 0, .int .i64 0, .int .i64 0, .int .i64 0, .int .i64 0, .int .i64 0, .int .i64 0, .string ⟨#[]⟩, .int .i64 0, .int .i64 0, .bool false, .int .i64 0, .string ⟨#[]⟩, .int .i64 0, .int .i64 0, .int .i64 0, .int .i64 0, .int .i64 0, .int .i64 0, .slice none 0 0, .bool false, .int .i64 0, .int .i64 0]) (fun i hi hl => by have hi' : i = w.heap.size + 1 := hi; omega)
  have HX := Lib.hid (show Blk (((w.alloc (.cells #[.int .i64 0, .int .i64 0, .int .i64 0, .int .i64 0, .int .i64 0, .int .i64 0, .int .i64 0, .int .i64 0, .int .i64 0, .int .i64 0, .int .i64 0, .string ⟨#[]⟩, .int .i64 0, .int .i64 0, .bool false, .int .i64 0, .string ⟨#[]⟩, .int .i64 0, .int .i64 0, .int .i64 0, .int .i64 0, .int .i64 0, .int .i64 0, .slice none 0 0, .bool false, .int .i64 0, .int .i64 0] 46)).alloc (.cells #[.int .i64 0, .int .i64 0, .int .i64 0, .int .i64 0, .int .i64 0, .int .i64 0, .int .i64 0, .int .i64 0, .int .i64 0, .int .i64 0, .int .i64 0, .string ⟨#[]⟩, .int .i64 0, .int .i64 0, .bool false, .int .i64 0, .string ⟨#[]⟩, .int .i64 0, .int .i64 0, .int .i64 0, .int .i64 0, .int .i64 0, .int .i64 0, .slice none 0 0, .bool false, .int .i64 0, .int .i64 0] 46)).setRow (w.heap.size + 1) #[.int .i64 kind, .int .i64 0, .int .i64 0, .int .i64 0, .int .i64 0, .int .i64 0, .int .i64 0, .int .i64 0, .int .i64 0, .int .i64 0, .int .i64 0, .string ⟨#[]⟩, .int .i64 0, .int .i64 0, .bool false, .int .i64 0, .string ⟨#[]⟩, .int .i64 0, .int .i64 0, .int .i64 0, .int .i64 0, .int .i64 0, .int .i64 0, .slice none 0 0, .bool false, .int .i64 0, .int .i64 0]) (w.heap.size + 1) 46 [.int .i64 kind, .int .i64 0, .int .i64 0, .int .i64 0, .int .i64 0, .int .i64 0, .int .i64 0, .int .i64 0, .int .i64 0, .int .i64 0, .int .i64 0, .string ⟨#[]⟩, .int .i64 0, .int .i64 0, .bool false, .int .i64 0, .string ⟨#[]⟩, .int .i64 0, .int .i64 0, .int .i64 0, .int .i64 0, .int .i64 0, .int .i64 0, .slice none 0 0, .bool false, .int .i64 0, .int .i64 0] from setRow_heap ((w.alloc (.cells #[.int .i64 0, .int .i64 0, .int .i64 0, .int .i64 0, .int .i64 0, .int .i64 0, .int .i64 0, .int .i64 0, .int .i64 0, .int .i64 0, .int .i64 0, .string ⟨#[]⟩, .int .i64 0, .int .i64 0, .bool false, .int .i64 0, .string ⟨#[]⟩, .int .i64 0, .int .i64 0, .int .i64 0, .int .i64 0, .int .i64 0, .int .i64 0, .slice none 0 0, .bool false, .int .i64 0, .int .i64 0] 46)).alloc (.cells #[.int .i64 0, .int .i64 0, .int .i64 0, .int .i64 0, .int .i64 0, .int .i64 0, .int .i64 0, .int .i64 0, .int .i64 0, .int .i64 0, .int .i64 0, .string ⟨#[]⟩, .int .i64 0, .int .i64 0, .bool false, .int .i64 0, .string ⟨#[]⟩, .int .i64 0, .int .i64 0, .int .i64 0, .int .i64 0, .int .i64 0, .int .i64 0, .slice none 0 0, .bool false, .int .i64 0, .int .i64 0] 46)) (w.heap.size + 1) #[.int .i64 0, .int .i64 0, .int .i64 0, .int .i64 0, .int .i64 0, .int .i64 0, .int .i64 0, .int .i64 0, .int .i64 0, .int .i64 0, .int .i64 0, .string ⟨#[]⟩, .int .i64 0, .int .i64 0, .bool false, .int .i64 0, .string ⟨#[]⟩, .int .i64 0, .int .i64 0, .int .i64 0, .int .i64 0, .int .i64 0, .int .i64 0, .slice none 0 0, .bool false, .int .i64 0, .int .i64 0] #[.int .i64 kind, .int .i64 0, .int .i64 0, .int .i64 0, .int .i64 0, .int .i64 0, .int .i64 0, .int .i64 0, .int .i64 0, .int .i64 0, .int .i64 0, .string ⟨#[]⟩, .int .i64 0, .int .i64 0, .bool false, .int .i64 0, .string ⟨#[]⟩, .int .i64 0, .int .i64 0, .int .i64 0, .int .i64 0, .int .i64 0, .int .i64 0, .slice none 0 0, .bool false, .int .i64 0, .int .i64 0] 46 (0, 0) HX0.out)
  have HG := Lib.hid (Blk.frm hG0 (fsetRow (g := w.heap.size + 1) #[.int .i64 kind, .int .i64 0, .int .i64 0, .int .i64 0, .int .i64 0, .int .i64 0, .int .i64 0, .int .i64 0, .int .i64 0, .int .i64 0, .int .i64 0, .string ⟨#[]⟩, .int .i64 0, .int .i64 0, .bool false, .int .i64 0, .string ⟨#[]⟩, .int .i64 0, .int .i64 0, .int .i64 0, .int .i64 0, .int .i64 0, .int .i64 0, .slice none 0 0, .bool false, .int .i64 0, .int .i64 0]) (fun hh => absurd (show w.heap.size = w.heap.size + 1 from hh) (by omega)))
  have HZ := Lib.hid (h.next hF0 ((Blk.alloc (Blk.alloc h.2.2.1 (.cells #[.int .i64 0, .int .i64 0, .int .i64 0, .int .i64 0, .int .i64 0, .int .i64 0, .int .i64 0, .int .i64 0, .int .i64 0, .int .i64 0, .int .i64 0, .string ⟨#[]⟩, .int .i64 0, .int .i64 0, .bool false, .int .i64 0, .string ⟨#[]⟩, .int .i64 0, .int .i64 0, .int .i64 0, .int .i64 0, .int .i64 0, .int .i64 0, .slice none 0 0, .bool false, .int .i64 0, .int .i64 0] 46)) (.cells #[.int .i64 0, .int .i64 0, .int .i64 0, .int .i64 0, .int .i64 0, .int .i64 0, .int .i64 0, .int .i64 0, .int .i64 0, .int .i64 0, .int .i64 0, .string ⟨#[]⟩, .int .i64 0, .int .i64 0, .bool false, .int .i64 0, .string ⟨#[]⟩, .int .i64 0, .int .i64 0, .int .i64 0, .int .i64 0, .int .i64 0, .int .i64 0, .slice none 0 0, .bool false, .int .i64 0, .int .i64 0] 46)).frm (fsetRow (g := w.heap.size + 1) #[.int .i64 kind, .int .i64 0, .int .i64 0, .int .i64 0, .int .i64 0, .int .i64 0, .int .i64 0, .int .i64 0, .int .i64 0, .int .i64 0, .int .i64 0, .string ⟨#[]⟩, .int .i64 0, .int .i64 0, .bool false, .int .i64 0, .string ⟨#[]⟩, .int .i64 0, .int .i64 0, .int .i64 0, .int .i64 0, .int .i64 0, .int .i64 0, .slice none 0 0, .bool false, .int .i64 0, .int .i64 0]) (fun hh => absurd (show g = w.heap.size + 1 from hh) (by omega))) h.2.2.2.1)
  have HF := Lib.hid hF0
  obtain ⟨W, hW⟩ : ∃ W, (((w.alloc (.cells #[.int .i64 0, .int .i64 0, .int .i64 0, .int .i64 0, .int .i64 0, .int .i64 0, .int .i64 0, .int .i64 0, .int .i64 0, .int .i64 0, .int .i64 0, .string ⟨#[]⟩, .int .i64 0, .int .i64 0, .bool false, .int .i64 0, .string ⟨#[]⟩, .int .i64 0, .int .i64 0, .int .i64 0, .int .i64 0, .int .i64 0, .int .i64 0, .slice none 0 0, .bool false, .int .i64 0, .int .i64 0] 46)).alloc (.cells #[.int .i64 0, .int .i64 0, .int .i64 0, .int .i64 0, .int .i64 0, .int .i64 0, .int .i64 0, .int .i64 0, .int .i64 0, .int .i64 0, .int .i64 0, .string ⟨#[]⟩, .int .i64 0, .int .i64 0, .bool false, .int .i64 0, .string ⟨#[]⟩, .int .i64 0, .int .i64 0, .int .i64 0, .int .i64 0, .int .i64 0, .int .i64 0, .slice none 0 0, .bool false, .int .i64 0, .int .i64 0] 46)).setRow (w.heap.size + 1) #[.int .i64 kind, .int .i64 0, .int .i64 0, .int .i64 0, .int .i64 0, .int .i64 0, .int .i64 0, .int .i64 0, .int .i64 0, .int .i64 0, .int .i64 0, .string ⟨#[]⟩, .int .i64 0, .int .i64 0, .bool false, .int .i64 0, .string ⟨#[]⟩, .int .i64 0, .int .i64 0, .int .i64 0, .int .i64 0, .int .i64 0, .int .i64 0, .slice none 0 0, .bool false, .int .i64 0, .int .i64 0]) = W := ⟨_, rfl⟩
  rw [hW] at HZ HF HG HX
  have HQ := Lib.hid hW
  clear h hW hG0 hF0 h1 h2 h3 h4 h5
  go_enter Try.func58, Try.ntmps58
  go_wp2_with (first | (refine wpList_store_row rfl 46 _ _ rfl (w.heap.size + 1) #[.int .i64 kind, .int .i64 0, .int .i64 0, .int .i64 0, .int .i64 0, .int .i64 0, .int .i64 0, .int .i64 0, .int .i64 0, .int .i64 0, .int .i64 0, .string ⟨#[]⟩, .int .i64 0, .int .i64 0, .bool false, .int .i64 0, .string ⟨#[]⟩, .int .i64 0, .int .i64 0, .int .i64 0, .int .i64 0, .int .i64 0, .int .i64 0, .slice none 0 0, .bool false, .int .i64 0, .int .i64 0] rfl rfl _ #[.int .i64 0, .int .i64 0, .int .i64 0, .int .i64 0, .int .i64 0, .int .i64 0, .int .i64 0, .int .i64 0, .int .i64 0, .int .i64 0, .int .i64 0, .string ⟨#[]⟩, .int .i64 0, .int .i64 0, .bool false, .int .i64 0, .string ⟨#[]⟩, .int .i64 0, .int .i64 0, .int .i64 0, .int .i64 0, .int .i64 0, .int .i64 0, .slice none 0 0, .bool false, .int .i64 0, .int .i64 0] HX0.out isz_msg rfl (by simp [Value.oneCell']) ?_) | rw [HQ.out] | (refine wpList_load_row rfl 46 _ rfl (w.heap.size + 1) rfl _ #[.int .i64 kind, .int .i64 0, .int .i64 0, .int .i64 0, .int .i64 0, .int .i64 0, .int .i64 0, .int .i64 0, .int .i64 0, .int .i64 0, .int .i64 0, .string ⟨#[]⟩, .int .i64 0, .int .i64 0, .bool false, .int .i64 0, .string ⟨#[]⟩, .int .i64 0, .int .i64 0, .int .i64 0, .int .i64 0, .int .i64 0, .int .i64 0, .slice none 0 0, .bool false, .int .i64 0, .int .i64 0] (0, 0) _ HX.out Try.underlying46 rfl isz_msg ?_) | (refine wpList_store_row rfl 46 _ _ rfl w.heap.size #[.int .i64 kind, .int .i64 0, .int .i64 0, .int .i64 0, .int .i64 0, .int .i64 0, .int .i64 0, .int .i64 0, .int .i64 0, .int .i64 0, .int .i64 0, .string ⟨#[]⟩, .int .i64 0, .int .i64 0, .bool false, .int .i64 0, .string ⟨#[]⟩, .int .i64 0, .int .i64 0, .int .i64 0, .int .i64 0, .int .i64 0, .int .i64 0, .slice none 0 0, .bool false, .int .i64 0, .int .i64 0] rfl rfl _ #[.int .i64 0, .int .i64 0, .int .i64 0, .int .i64 0, .int .i64 0, .int .i64 0, .int .i64 0, .int .i64 0, .int .i64 0, .int .i64 0, .int .i64 0, .string ⟨#[]⟩, .int .i64 0, .int .i64 0, .bool false, .int .i64 0, .string ⟨#[]⟩, .int .i64 0, .int .i64 0, .int .i64 0, .int .i64 0, .int .i64 0, .int .i64 0, .slice none 0 0, .bool false, .int .i64 0, .int .i64 0] HG.out isz_msg rfl (by simp [Value.oneCell']) ?_))
  have hS := setRow_heap W w.heap.size #[.int .i64 0, .int .i64 0, .int .i64 0, .int .i64 0, .int .i64 0, .int .i64 0, .int .i64 0, .int .i64 0, .int .i64 0, .int .i64 0, .int .i64 0, .string ⟨#[]⟩, .int .i64 0, .int .i64 0, .bool false, .int .i64 0, .string ⟨#[]⟩, .int .i64 0, .int .i64 0, .int .i64 0, .int .i64 0, .int .i64 0, .int .i64 0, .slice none 0 0, .bool false, .int .i64 0, .int .i64 0] #[.int .i64 kind, .int .i64 0, .int .i64 0, .int .i64 0, .int .i64 0, .int .i64 0, .int .i64 0, .int .i64 0, .int .i64 0, .int .i64 0, .int .i64 0, .string ⟨#[]⟩, .int .i64 0, .int .i64 0, .bool false, .int .i64 0, .string ⟨#[]⟩, .int .i64 0, .int .i64 0, .int .i64 0, .int .i64 0, .int .i64 0, .int .i64 0, .slice none 0 0, .bool false, .int .i64 0, .int .i64 0] 46 (0, 0) HG.out
  have hfr : Frm (fun k => k = w.heap.size) W (W.setRow w.heap.size #[.int .i64 kind, .int .i64 0, .int .i64 0, .int .i64 0, .int .i64 0, .int .i64 0, .int .i64 0, .int .i64 0, .int .i64 0, .int .i64 0, .int .i64 0, .string ⟨#[]⟩, .int .i64 0, .int .i64 0, .bool false, .int .i64 0, .string ⟨#[]⟩, .int .i64 0, .int .i64 0, .int .i64 0, .int .i64 0, .int .i64 0, .int .i64 0, .slice none 0 0, .bool false, .int .i64 0, .int .i64 0]) := fsetRow #[.int .i64 kind, .int .i64 0, .int .i64 0, .int .i64 0, .int .i64 0, .int .i64 0, .int .i64 0, .int .i64 0, .int .i64 0, .int .i64 0, .int .i64 0, .string ⟨#[]⟩, .int .i64 0, .int .i64 0, .bool false, .int .i64 0, .string ⟨#[]⟩, .int .i64 0, .int .i64 0, .int .i64 0, .int .i64 0, .int .i64 0, .int .i64 0, .slice none 0 0, .bool false, .int .i64 0, .int .i64 0]
  have hf : Frm (fun i => i = g) w (W.setRow w.heap.size #[.int .i64 kind, .int .i64 0, .int .i64 0, .int .i64 0, .int .i64 0, .int .i64 0, .int .i64 0, .int .i64 0, .int .i64 0, .int .i64 0, .int .i64 0, .string ⟨#[]⟩, .int .i64 0, .int .i64 0, .bool false, .int .i64 0, .string ⟨#[]⟩, .int .i64 0, .int .i64 0, .int .i64 0, .int .i64 0, .int .i64 0, .int .i64 0, .slice none 0 0, .bool false, .int .i64 0, .int .i64 0]) := HF.out.trans hfr (fun i hi hl => by have hi' : i = w.heap.size := hi; omega)
  refine bodyPost_ret (results_cell_row rfl _ _ w.heap.size 46 #[.int .i64 kind, .int .i64 0, .int .i64 0, .int .i64 0, .int .i64 0, .int .i64 0, .int .i64 0, .int .i64 0, .int .i64 0, .int .i64 0, .int .i64 0, .string ⟨#[]⟩, .int .i64 0, .int .i64 0, .bool false, .int .i64 0, .string ⟨#[]⟩, .int .i64 0, .int .i64 0, .int .i64 0, .int .i64 0, .int .i64 0, .int .i64 0, .slice none 0 0, .bool false, .int .i64 0, .int .i64 0] (0, 0) _ rfl hS Try.underlying46 rfl isz_msg) rfl ?_
  exact ⟨(⟨0, 0, 0, 0, 0, 0, 0, 0, 0, 0, ⟨#[]⟩, 0, 0, false, 0, ⟨#[]⟩, 0, 0, 0, 0, 0, 0, none, 0, [], false, 0, 0⟩ : P5), rfl, HKD.out, HW.out.next hf (Blk.frm HZ.out.2.2.1 hfr (fun hh => absurd (show g = w.heap.size from hh) (by omega))) HZ.out.2.2.2.1, ⟨rdE_nil0 _, by simp, Nat.zero_le 2000, Nat.zero_le 2000⟩, hf, fun _ _ _ h => by cases h⟩
set_option maxRecDepth 100000 in
theorem qread_any (g : Nat) (a : Option Addr) (c : Nat) (l : List Nat) (kind : Int) (st : Nat × Bool) (w : World) (h : QAt w g a c l st) :
    Calls Try.prog 58 #[.pointer (some ⟨g, 0, none⟩), .int .i64 kind] w (QM g a c l kind (qmsgS l kind st) w) := by
  by_cases h1 : kind = 1
  · subst h1; exact qread_hello g a c l st w h
  by_cases h2 : kind = 2
  · subst h2; exact qread_grant g a c l st w h
  by_cases h3 : kind = 3
  · subst h3; exact qread_ask g a c l st w h
  by_cases h4 : kind = 4
  · subst h4; exact qread_reply g a c l st w h
  by_cases h5 : kind = 5
  · subst h5; exact qread_stop g a c l st w h
  have e : qmsgS l kind st = (.nil, st) := by unfold qmsgS; rw [if_neg h1, if_neg h2, if_neg h3, if_neg h4, if_neg h5]
  rw [e]
  exact qread_no g a c l kind st w h h1 h2 h3 h4 h5
end Go.Proofs.Ytjhkdbcfkaaffaa
/- The document's Decode. -/
namespace Go.Proofs.Ytjhkdbcfkaaffaa
open Go.RowKit
set_option linter.unusedVariables false

set_option maxRecDepth 100000 in
theorem results_cell_tmp {P : Program} {fn : Func} {p q : Tmp} {ty : TypeId} (h : fn.results = #[.cell p ty, .tmp q]) (tmps : Array Value) (w : World) (g : Nat) (t : TypeId) (cs : Array Value) (fr : Nat × Nat) (d : TypeDesc)
    (hp : tmps.getD p undef = .pointer (some ⟨g, 0, none⟩)) (hg : w.heap[g]? = some (.cells cs t fr))
    (hu : P.underlying ty = some d) (hd : (match d with | .struct _ | .array _ _ => true | _ => false) = true) (hi : (P.info? ty).map (·.size) = some cs.size) (v : Value) (hq : tmps.getD q undef = v) :
    (results fn tmps).run P w = .ok (.tuple #[.agg cs, v]) w := by
  have hp' : tmps[p]?.getD undef = .pointer (some ⟨g, 0, none⟩) := by simpa using hp
  have hq' : tmps[q]?.getD undef = v := by simpa using hq
  simp [results, h, hp', hq', asAddr, run_loadVar_row w g t ty cs fr d hg hu hd hi]
set_option maxRecDepth 100000 in
theorem RdE_frm {α : Type} {enc : α → List Value} {size : Nat} {S : Nat → Prop} {w w' : World} {a : Option Addr} {n c : Nat} {l : List α} (h : RdE enc size w a n c l) (hf : Frm S w w') (hs : ∀ b o sp, a = some ⟨b, o, sp⟩ → ¬ S b) : RdE enc size w' a n c l := by
  obtain ⟨h1, h2, h3, h4, h5⟩ := h
  refine ⟨h1, h2, h3, h4, fun i x hx => ?_⟩
  obtain ⟨b, off, e, hb, hc⟩ := h5 i x hx
  exact ⟨b, off, e, Nat.lt_of_lt_of_le hb hf.size, fun j hj => by rw [World.cell?_of_block (w := w) (hf.block b hb (hs b off none e))]; exact hc j hj⟩
set_option maxRecDepth 100000 in
theorem fit_row {p : P5} {V V' : World} {G : Nat} (h : p.fit V) (hf : Frm (fun k => k = G) V V') (hX : p.fresh (G + 1)) : p.fit V' :=
  ⟨RdE_frm h.1 hf (fun b o sp e hb => by have q := hX b o sp e; have hb' : b = G := hb; omega), h.2⟩
def RDecE (l : List Nat) (w : World) (e : Ending) (w' : World) : Prop := ∃ (p : P5) (k : Int), e = .returned (.tuple #[p.msg k, .int .i64 (rdecL l).2]) ∧ p.kd k = (rdecL l).1 ∧ p.fit w' ∧ Below w.heap.size w w'
set_option maxRecDepth 100000 in
set_option maxHeartbeats 8000000 in
theorem rdec_size (a : Option Addr) (c : Nat) (l : List Nat) (w : World) (hr : Rd w a l.length c (u8s l)) (hb : ∀ x ∈ l, x < 256) (hn9 : l.length ≤ 2000) (hs : l.length < 7 ∨ 1024 < l.length) :
    Calls Try.prog 26 #[.slice a l.length c] w fun e w' => RDecE l w e w' := by
  have HX0 := Lib.hid (show Blk (w.alloc (.cells #[.int .i64 0, .int .i64 0, .int .i64 0, .int .i64 0, .int .i64 0, .int .i64 0, .int .i64 0, .int .i64 0, .int .i64 0, .int .i64 0, .int .i64 0, .string ⟨#[]⟩, .int .i64 0, .int .i64 0, .bool false, .int .i64 0, .string ⟨#[]⟩, .int .i64 0, .int .i64 0, .int .i64 0, .int .i64 0, .int .i64 0, .int .i64 0, .slice none 0 0, .bool false, .int .i64 0, .int .i64 0] 46)) w.heap.size 46 [.int .i64 0, .int .i64 0, .int .i64 0, .int .i64 0, .int .i64 0, .int .i64 0, .int .i64 0, .int .i64 0, .int .i64 0, .int .i64 0, .int .i64 0, .string ⟨#[]⟩, .int .i64 0, .int .i64 0, .bool false, .int .i64 0, .string ⟨#[]⟩, .int .i64 0, .int .i64 0, .int .i64 0, .int .i64 0, .int .i64 0, .int .i64 0, .slice none 0 0, .bool false, .int .i64 0, .int .i64 0] from heap_alloc_new w _)
  have HB0 := Lib.hid ((Below.refl w.heap.size w).alloc (Nat.le_refl _) (.cells #[.int .i64 0, .int .i64 0, .int .i64 0, .int .i64 0, .int .i64 0, .int .i64 0, .int .i64 0, .int .i64 0, .int .i64 0, .int .i64 0, .int .i64 0, .string ⟨#[]⟩, .int .i64 0, .int .i64 0, .bool false, .int .i64 0, .string ⟨#[]⟩, .int .i64 0, .int .i64 0, .int .i64 0, .int .i64 0, .int .i64 0, .int .i64 0, .slice none 0 0, .bool false, .int .i64 0, .int .i64 0] 46))
  have HR0 := Lib.hid (hr.below HB0.out rfl)
  obtain ⟨W, hW⟩ : ∃ W, (w.alloc (.cells #[.int .i64 0, .int .i64 0, .int .i64 0, .int .i64 0, .int .i64 0, .int .i64 0, .int .i64 0, .int .i64 0, .int .i64 0, .int .i64 0, .int .i64 0, .string ⟨#[]⟩, .int .i64 0, .int .i64 0, .bool false, .int .i64 0, .string ⟨#[]⟩, .int .i64 0, .int .i64 0, .int .i64 0, .int .i64 0, .int .i64 0, .int .i64 0, .slice none 0 0, .bool false, .int .i64 0, .int .i64 0] 46)) = W := ⟨_, rfl⟩
  have hWs : W.heap.size = w.heap.size + 1 := by rw [← hW]; simp
  rw [hW] at HX0 HB0 HR0
  have HQ := Lib.hid hW
  have HWS := Lib.hid hWs
  have HDL := Lib.hid (show rdecL l = (.nil, 8) from by unfold rdecL; rw [if_pos hs])
  unfold RDecE
  rw [HDL.out]
  generalize hL : l.length = len at *
  have HLL := Lib.hid hL
  clear hr hb hL HDL hn9 hW hWs
  by_cases h7 : len < 7
  · have k1 : (len : Int) < 7 := by omega
    clear hs
    go_enter Try.func26, Try.ntmps26
    go_wp2_with (first | rw [HQ.out] | (refine wpList_store_row rfl 46 _ _ rfl (w.heap.size) #[.int .i64 0, .int .i64 0, .int .i64 0, .int .i64 0, .int .i64 0, .int .i64 0, .int .i64 0, .int .i64 0, .int .i64 0, .int .i64 0, .int .i64 0, .string ⟨#[]⟩, .int .i64 0, .int .i64 0, .bool false, .int .i64 0, .string ⟨#[]⟩, .int .i64 0, .int .i64 0, .int .i64 0, .int .i64 0, .int .i64 0, .int .i64 0, .slice none 0 0, .bool false, .int .i64 0, .int .i64 0] rfl rfl _ #[.int .i64 0, .int .i64 0, .int .i64 0, .int .i64 0, .int .i64 0, .int .i64 0, .int .i64 0, .int .i64 0, .int .i64 0, .int .i64 0, .int .i64 0, .string ⟨#[]⟩, .int .i64 0, .int .i64 0, .bool false, .int .i64 0, .string ⟨#[]⟩, .int .i64 0, .int .i64 0, .int .i64 0, .int .i64 0, .int .i64 0, .int .i64 0, .slice none 0 0, .bool false, .int .i64 0, .int .i64 0] HX0.out isz_msg rfl (by simp [Value.oneCell']) ?_))
    have hS := setRow_heap W w.heap.size #[.int .i64 0, .int .i64 0, .int .i64 0, .int .i64 0, .int .i64 0, .int .i64 0, .int .i64 0, .int .i64 0, .int .i64 0, .int .i64 0, .int .i64 0, .string ⟨#[]⟩, .int .i64 0, .int .i64 0, .bool false, .int .i64 0, .string ⟨#[]⟩, .int .i64 0, .int .i64 0, .int .i64 0, .int .i64 0, .int .i64 0, .int .i64 0, .slice none 0 0, .bool false, .int .i64 0, .int .i64 0] #[.int .i64 0, .int .i64 0, .int .i64 0, .int .i64 0, .int .i64 0, .int .i64 0, .int .i64 0, .int .i64 0, .int .i64 0, .int .i64 0, .int .i64 0, .string ⟨#[]⟩, .int .i64 0, .int .i64 0, .bool false, .int .i64 0, .string ⟨#[]⟩, .int .i64 0, .int .i64 0, .int .i64 0, .int .i64 0, .int .i64 0, .int .i64 0, .slice none 0 0, .bool false, .int .i64 0, .int .i64 0] 46 (0, 0) HX0.out
    have hfr : Frm (fun k => k = w.heap.size) W (W.setRow w.heap.size #[.int .i64 0, .int .i64 0, .int .i64 0, .int .i64 0, .int .i64 0, .int .i64 0, .int .i64 0, .int .i64 0, .int .i64 0, .int .i64 0, .int .i64 0, .string ⟨#[]⟩, .int .i64 0, .int .i64 0, .bool false, .int .i64 0, .string ⟨#[]⟩, .int .i64 0, .int .i64 0, .int .i64 0, .int .i64 0, .int .i64 0, .int .i64 0, .slice none 0 0, .bool false, .int .i64 0, .int .i64 0]) := fsetRow #[.int .i64 0, .int .i64 0, .int .i64 0, .int .i64 0, .int .i64 0, .int .i64 0, .int .i64 0, .int .i64 0, .int .i64 0, .int .i64 0, .int .i64 0, .string ⟨#[]⟩, .int .i64 0, .int .i64 0, .bool false, .int .i64 0, .string ⟨#[]⟩, .int .i64 0, .int .i64 0, .int .i64 0, .int .i64 0, .int .i64 0, .int .i64 0, .slice none 0 0, .bool false, .int .i64 0, .int .i64 0]
    refine bodyPost_ret (results_cell_tmp rfl _ _ w.heap.size 46 #[.int .i64 0, .int .i64 0, .int .i64 0, .int .i64 0, .int .i64 0, .int .i64 0, .int .i64 0, .int .i64 0, .int .i64 0, .int .i64 0, .int .i64 0, .string ⟨#[]⟩, .int .i64 0, .int .i64 0, .bool false, .int .i64 0, .string ⟨#[]⟩, .int .i64 0, .int .i64 0, .int .i64 0, .int .i64 0, .int .i64 0, .int .i64 0, .slice none 0 0, .bool false, .int .i64 0, .int .i64 0] (0, 0) _ rfl hS Try.underlying46 rfl isz_msg (.int .i64 8) rfl) rfl ?_
    exact ⟨(⟨0, 0, 0, 0, 0, 0, 0, 0, 0, 0, ⟨#[]⟩, 0, 0, false, 0, ⟨#[]⟩, 0, 0, 0, 0, 0, 0, none, 0, [], false, 0, 0⟩ : P5), 0, rfl, rfl, ⟨rdE_nil0 _, by simp, Nat.zero_le 2000, Nat.zero_le 2000⟩, HB0.out.trans (Frm.toBelow hfr HB0.out.size (fun i hi hs => by have hs' : i = w.heap.size := hs; omega))⟩
  · have k1 : ¬ (len : Int) < 7 := by omega
    have k2 : (1024 : Int) < (len : Int) := by omega
    clear hs
    go_enter Try.func26, Try.ntmps26
    go_wp2_with (first | rw [HQ.out] | (refine wpList_store_row rfl 46 _ _ rfl (w.heap.size) #[.int .i64 0, .int .i64 0, .int .i64 0, .int .i64 0, .int .i64 0, .int .i64 0, .int .i64 0, .int .i64 0, .int .i64 0, .int .i64 0, .int .i64 0, .string ⟨#[]⟩, .int .i64 0, .int .i64 0, .bool false, .int .i64 0, .string ⟨#[]⟩, .int .i64 0, .int .i64 0, .int .i64 0, .int .i64 0, .int .i64 0, .int .i64 0, .slice none 0 0, .bool false, .int .i64 0, .int .i64 0] rfl rfl _ #[.int .i64 0, .int .i64 0, .int .i64 0, .int .i64 0, .int .i64 0, .int .i64 0, .int .i64 0, .int .i64 0, .int .i64 0, .int .i64 0, .int .i64 0, .string ⟨#[]⟩, .int .i64 0, .int .i64 0, .bool false, .int .i64 0, .string ⟨#[]⟩, .int .i64 0, .int .i64 0, .int .i64 0, .int .i64 0, .int .i64 0, .int .i64 0, .slice none 0 0, .bool false, .int .i64 0, .int .i64 0] HX0.out isz_msg rfl (by simp [Value.oneCell']) ?_))
    have hS := setRow_heap W w.heap.size #[.int .i64 0, .int .i64 0, .int .i64 0, .int .i64 0, .int .i64 0, .int .i64 0, .int .i64 0, .int .i64 0, .int .i64 0, .int .i64 0, .int .i64 0, .string ⟨#[]⟩, .int .i64 0, .int .i64 0, .bool false, .int .i64 0, .string ⟨#[]⟩, .int .i64 0, .int .i64 0, .int .i64 0, .int .i64 0, .int .i64 0, .int .i64 0, .slice none 0 0, .bool false, .int .i64 0, .int .i64 0] #[.int .i64 0, .int .i64 0, .int .i64 0, .int .i64 0, .int .i64 0, .int .i64 0, .int .i64 0, .int .i64 0, .int .i64 0, .int .i64 0, .int .i64 0, .string ⟨#[]⟩, .int .i64 0, .int .i64 0, .bool false, .int .i64 0, .string ⟨#[]⟩, .int .i64 0, .int .i64 0, .int .i64 0, .int .i64 0, .int .i64 0, .int .i64 0, .slice none 0 0, .bool false, .int .i64 0, .int .i64 0] 46 (0, 0) HX0.out
    have hfr : Frm (fun k => k = w.heap.size) W (W.setRow w.heap.size #[.int .i64 0, .int .i64 0, .int .i64 0, .int .i64 0, .int .i64 0, .int .i64 0, .int .i64 0, .int .i64 0, .int .i64 0, .int .i64 0, .int .i64 0, .string ⟨#[]⟩, .int .i64 0, .int .i64 0, .bool false, .int .i64 0, .string ⟨#[]⟩, .int .i64 0, .int .i64 0, .int .i64 0, .int .i64 0, .int .i64 0, .int .i64 0, .slice none 0 0, .bool false, .int .i64 0, .int .i64 0]) := fsetRow #[.int .i64 0, .int .i64 0, .int .i64 0, .int .i64 0, .int .i64 0, .int .i64 0, .int .i64 0, .int .i64 0, .int .i64 0, .int .i64 0, .int .i64 0, .string ⟨#[]⟩, .int .i64 0, .int .i64 0, .bool false, .int .i64 0, .string ⟨#[]⟩, .int .i64 0, .int .i64 0, .int .i64 0, .int .i64 0, .int .i64 0, .int .i64 0, .slice none 0 0, .bool false, .int .i64 0, .int .i64 0]
    refine bodyPost_ret (results_cell_tmp rfl _ _ w.heap.size 46 #[.int .i64 0, .int .i64 0, .int .i64 0, .int .i64 0, .int .i64 0, .int .i64 0, .int .i64 0, .int .i64 0, .int .i64 0, .int .i64 0, .int .i64 0, .string ⟨#[]⟩, .int .i64 0, .int .i64 0, .bool false, .int .i64 0, .string ⟨#[]⟩, .int .i64 0, .int .i64 0, .int .i64 0, .int .i64 0, .int .i64 0, .int .i64 0, .slice none 0 0, .bool false, .int .i64 0, .int .i64 0] (0, 0) _ rfl hS Try.underlying46 rfl isz_msg (.int .i64 8) rfl) rfl ?_
    exact ⟨(⟨0, 0, 0, 0, 0, 0, 0, 0, 0, 0, ⟨#[]⟩, 0, 0, false, 0, ⟨#[]⟩, 0, 0, 0, 0, 0, 0, none, 0, [], false, 0, 0⟩ : P5), 0, rfl, rfl, ⟨rdE_nil0 _, by simp, Nat.zero_le 2000, Nat.zero_le 2000⟩, HB0.out.trans (Frm.toBelow hfr HB0.out.size (fun i hi hs => by have hs' : i = w.heap.size := hs; omega))⟩
set_option maxRecDepth 100000 in
set_option maxHeartbeats 8000000 in
theorem rdec_told (a : Option Addr) (c : Nat) (l : List Nat) (w : World) (hr : Rd w a l.length c (u8s l)) (hb : ∀ x ∈ l, x < 256) (hn9 : l.length ≤ 2000) (hs : ¬ (l.length < 7 ∨ 1024 < l.length)) (ht : numAt l 0 2 ≠ l.length) :
    Calls Try.prog 26 #[.slice a l.length c] w fun e w' => RDecE l w e w' := by
  have HX0 := Lib.hid (show Blk (w.alloc (.cells #[.int .i64 0, .int .i64 0, .int .i64 0, .int .i64 0, .int .i64 0, .int .i64 0, .int .i64 0, .int .i64 0, .int .i64 0, .int .i64 0, .int .i64 0, .string ⟨#[]⟩, .int .i64 0, .int .i64 0, .bool false, .int .i64 0, .string ⟨#[]⟩, .int .i64 0, .int .i64 0, .int .i64 0, .int .i64 0, .int .i64 0, .int .i64 0, .slice none 0 0, .bool false, .int .i64 0, .int .i64 0] 46)) w.heap.size 46 [.int .i64 0, .int .i64 0, .int .i64 0, .int .i64 0, .int .i64 0, .int .i64 0, .int .i64 0, .int .i64 0, .int .i64 0, .int .i64 0, .int .i64 0, .string ⟨#[]⟩, .int .i64 0, .int .i64 0, .bool false, .int .i64 0, .string ⟨#[]⟩, .int .i64 0, .int .i64 0, .int .i64 0, .int .i64 0, .int .i64 0, .int .i64 0, .slice none 0 0, .bool false, .int .i64 0, .int .i64 0] from heap_alloc_new w _)
  have HB0 := Lib.hid ((Below.refl w.heap.size w).alloc (Nat.le_refl _) (.cells #[.int .i64 0, .int .i64 0, .int .i64 0, .int .i64 0, .int .i64 0, .int .i64 0, .int .i64 0, .int .i64 0, .int .i64 0, .int .i64 0, .int .i64 0, .string ⟨#[]⟩, .int .i64 0, .int .i64 0, .bool false, .int .i64 0, .string ⟨#[]⟩, .int .i64 0, .int .i64 0, .int .i64 0, .int .i64 0, .int .i64 0, .int .i64 0, .slice none 0 0, .bool false, .int .i64 0, .int .i64 0] 46))
  have HR0 := Lib.hid (hr.below HB0.out rfl)
  obtain ⟨W, hW⟩ : ∃ W, (w.alloc (.cells #[.int .i64 0, .int .i64 0, .int .i64 0, .int .i64 0, .int .i64 0, .int .i64 0, .int .i64 0, .int .i64 0, .int .i64 0, .int .i64 0, .int .i64 0, .string ⟨#[]⟩, .int .i64 0, .int .i64 0, .bool false, .int .i64 0, .string ⟨#[]⟩, .int .i64 0, .int .i64 0, .int .i64 0, .int .i64 0, .int .i64 0, .int .i64 0, .slice none 0 0, .bool false, .int .i64 0, .int .i64 0] 46)) = W := ⟨_, rfl⟩
  have hWs : W.heap.size = w.heap.size + 1 := by rw [← hW]; simp
  rw [hW] at HX0 HB0 HR0
  have HQ := Lib.hid hW
  have HWS := Lib.hid hWs
  have HDL := Lib.hid (show rdecL l = (.nil, 8) from by unfold rdecL; rw [if_neg hs, if_pos ht])
  unfold RDecE
  rw [HDL.out]
  have k1 : ¬ (l.length : Int) < 7 := by omega
  have k2 : ¬ (1024 : Int) < (l.length : Int) := by omega
  have hw2 : wrap64 (numAt l 0 2 : Nat) = (numAt l 0 2 : Nat) := by have := (show numAt l 0 2 < 4294967296 from numAt_lt hb 0 2 (by decide)); unfold wrap64; omega
  have HN2 := Lib.hid (refnum_yes a l.length c l 0 2 W HR0.out hb (by omega) (by unfold numOk; simp; omega))
  rw [hw2] at HN2
  have k3 : ¬ ((numAt l 0 2 : Nat) : Int) = (l.length : Int) := by omega
  generalize numAt l 0 2 = told at *
  generalize hL : l.length = len at *
  have HLL := Lib.hid hL
  clear hr hb hs ht hw2 hL HDL hn9 hW hWs
  go_enter Try.func26, Try.ntmps26
  go_wp2_with (rw [HQ.out])
  refine HN2.out.mono ?_
  rintro e w1 ⟨rfl, rfl⟩
  go_wp2_with ((refine wpList_store_row rfl 46 _ _ rfl (w.heap.size) #[.int .i64 0, .int .i64 0, .int .i64 0, .int .i64 0, .int .i64 0, .int .i64 0, .int .i64 0, .int .i64 0, .int .i64 0, .int .i64 0, .int .i64 0, .string ⟨#[]⟩, .int .i64 0, .int .i64 0, .bool false, .int .i64 0, .string ⟨#[]⟩, .int .i64 0, .int .i64 0, .int .i64 0, .int .i64 0, .int .i64 0, .int .i64 0, .slice none 0 0, .bool false, .int .i64 0, .int .i64 0] rfl rfl _ #[.int .i64 0, .int .i64 0, .int .i64 0, .int .i64 0, .int .i64 0, .int .i64 0, .int .i64 0, .int .i64 0, .int .i64 0, .int .i64 0, .int .i64 0, .string ⟨#[]⟩, .int .i64 0, .int .i64 0, .bool false, .int .i64 0, .string ⟨#[]⟩, .int .i64 0, .int .i64 0, .int .i64 0, .int .i64 0, .int .i64 0, .int .i64 0, .slice none 0 0, .bool false, .int .i64 0, .int .i64 0] HX0.out isz_msg rfl (by simp [Value.oneCell']) ?_))
  have hS := setRow_heap W w.heap.size #[.int .i64 0, .int .i64 0, .int .i64 0, .int .i64 0, .int .i64 0, .int .i64 0, .int .i64 0, .int .i64 0, .int .i64 0, .int .i64 0, .int .i64 0, .string ⟨#[]⟩, .int .i64 0, .int .i64 0, .bool false, .int .i64 0, .string ⟨#[]⟩, .int .i64 0, .int .i64 0, .int .i64 0, .int .i64 0, .int .i64 0, .int .i64 0, .slice none 0 0, .bool false, .int .i64 0, .int .i64 0] #[.int .i64 0, .int .i64 0, .int .i64 0, .int .i64 0, .int .i64 0, .int .i64 0, .int .i64 0, .int .i64 0, .int .i64 0, .int .i64 0, .int .i64 0, .string ⟨#[]⟩, .int .i64 0, .int .i64 0, .bool false, .int .i64 0, .string ⟨#[]⟩, .int .i64 0, .int .i64 0, .int .i64 0, .int .i64 0, .int .i64 0, .int .i64 0, .slice none 0 0, .bool false, .int .i64 0, .int .i64 0] 46 (0, 0) HX0.out
  have hfr : Frm (fun k => k = w.heap.size) W (W.setRow w.heap.size #[.int .i64 0, .int .i64 0, .int .i64 0, .int .i64 0, .int .i64 0, .int .i64 0, .int .i64 0, .int .i64 0, .int .i64 0, .int .i64 0, .int .i64 0, .string ⟨#[]⟩, .int .i64 0, .int .i64 0, .bool false, .int .i64 0, .string ⟨#[]⟩, .int .i64 0, .int .i64 0, .int .i64 0, .int .i64 0, .int .i64 0, .int .i64 0, .slice none 0 0, .bool false, .int .i64 0, .int .i64 0]) := fsetRow #[.int .i64 0, .int .i64 0, .int .i64 0, .int .i64 0, .int .i64 0, .int .i64 0, .int .i64 0, .int .i64 0, .int .i64 0, .int .i64 0, .int .i64 0, .string ⟨#[]⟩, .int .i64 0, .int .i64 0, .bool false, .int .i64 0, .string ⟨#[]⟩, .int .i64 0, .int .i64 0, .int .i64 0, .int .i64 0, .int .i64 0, .int .i64 0, .slice none 0 0, .bool false, .int .i64 0, .int .i64 0]
  refine bodyPost_ret (results_cell_tmp rfl _ _ w.heap.size 46 #[.int .i64 0, .int .i64 0, .int .i64 0, .int .i64 0, .int .i64 0, .int .i64 0, .int .i64 0, .int .i64 0, .int .i64 0, .int .i64 0, .int .i64 0, .string ⟨#[]⟩, .int .i64 0, .int .i64 0, .bool false, .int .i64 0, .string ⟨#[]⟩, .int .i64 0, .int .i64 0, .int .i64 0, .int .i64 0, .int .i64 0, .int .i64 0, .slice none 0 0, .bool false, .int .i64 0, .int .i64 0] (0, 0) _ rfl hS Try.underlying46 rfl isz_msg (.int .i64 8) rfl) rfl ?_
  exact ⟨(⟨0, 0, 0, 0, 0, 0, 0, 0, 0, 0, ⟨#[]⟩, 0, 0, false, 0, ⟨#[]⟩, 0, 0, 0, 0, 0, 0, none, 0, [], false, 0, 0⟩ : P5), 0, rfl, rfl, ⟨rdE_nil0 _, by simp, Nat.zero_le 2000, Nat.zero_le 2000⟩, HB0.out.trans (Frm.toBelow hfr HB0.out.size (fun i hi hs => by have hs' : i = w.heap.size := hs; omega))⟩
set_option maxRecDepth 100000 in
set_option maxHeartbeats 8000000 in
theorem rdec_sum (a : Option Addr) (c : Nat) (l : List Nat) (w : World) (hr : Rd w a l.length c (u8s l)) (hb : ∀ x ∈ l, x < 256) (hn9 : l.length ≤ 2000) (hs : ¬ (l.length < 7 ∨ 1024 < l.length)) (ht : numAt l 0 2 = l.length) (hsum : numAt l ((l.length : Int) - 4) 4 ≠ addN 0 (l.take (l.length - 4))) :
    Calls Try.prog 26 #[.slice a l.length c] w fun e w' => RDecE l w e w' := by
  have HX0 := Lib.hid (show Blk (w.alloc (.cells #[.int .i64 0, .int .i64 0, .int .i64 0, .int .i64 0, .int .i64 0, .int .i64 0, .int .i64 0, .int .i64 0, .int .i64 0, .int .i64 0, .int .i64 0, .string ⟨#[]⟩, .int .i64 0, .int .i64 0, .bool false, .int .i64 0, .string ⟨#[]⟩, .int .i64 0, .int .i64 0, .int .i64 0, .int .i64 0, .int .i64 0, .int .i64 0, .slice none 0 0, .bool false, .int .i64 0, .int .i64 0] 46)) w.heap.size 46 [.int .i64 0, .int .i64 0, .int .i64 0, .int .i64 0, .int .i64 0, .int .i64 0, .int .i64 0, .int .i64 0, .int .i64 0, .int .i64 0, .int .i64 0, .string ⟨#[]⟩, .int .i64 0, .int .i64 0, .bool false, .int .i64 0, .string ⟨#[]⟩, .int .i64 0, .int .i64 0, .int .i64 0, .int .i64 0, .int .i64 0, .int .i64 0, .slice none 0 0, .bool false, .int .i64 0, .int .i64 0] from heap_alloc_new w _)
  have HB0 := Lib.hid ((Below.refl w.heap.size w).alloc (Nat.le_refl _) (.cells #[.int .i64 0, .int .i64 0, .int .i64 0, .int .i64 0, .int .i64 0, .int .i64 0, .int .i64 0, .int .i64 0, .int .i64 0, .int .i64 0, .int .i64 0, .string ⟨#[]⟩, .int .i64 0, .int .i64 0, .bool false, .int .i64 0, .string ⟨#[]⟩, .int .i64 0, .int .i64 0, .int .i64 0, .int .i64 0, .int .i64 0, .int .i64 0, .slice none 0 0, .bool false, .int .i64 0, .int .i64 0] 46))
  have HR0 := Lib.hid (hr.below HB0.out rfl)
  obtain ⟨W, hW⟩ : ∃ W, (w.alloc (.cells #[.int .i64 0, .int .i64 0, .int .i64 0, .int .i64 0, .int .i64 0, .int .i64 0, .int .i64 0, .int .i64 0, .int .i64 0, .int .i64 0, .int .i64 0, .string ⟨#[]⟩, .int .i64 0, .int .i64 0, .bool false, .int .i64 0, .string ⟨#[]⟩, .int .i64 0, .int .i64 0, .int .i64 0, .int .i64 0, .int .i64 0, .int .i64 0, .slice none 0 0, .bool false, .int .i64 0, .int .i64 0] 46)) = W := ⟨_, rfl⟩
  have hWs : W.heap.size = w.heap.size + 1 := by rw [← hW]; simp
  rw [hW] at HX0 HB0 HR0
  have HQ := Lib.hid hW
  have HWS := Lib.hid hWs
  have HDL := Lib.hid (show rdecL l = (.nil, 9) from by unfold rdecL; rw [if_neg hs, if_neg (by omega), if_pos hsum])
  unfold RDecE
  rw [HDL.out]
  have k1 : ¬ (l.length : Int) < 7 := by omega
  have k2 : ¬ (1024 : Int) < (l.length : Int) := by omega
  have hw2 : wrap64 (numAt l 0 2 : Nat) = (numAt l 0 2 : Nat) := by have := (show numAt l 0 2 < 4294967296 from numAt_lt hb 0 2 (by decide)); unfold wrap64; omega
  have HN2 := Lib.hid (refnum_yes a l.length c l 0 2 W HR0.out hb (by omega) (by unfold numOk; simp; omega))
  rw [hw2] at HN2
  have HOP := Lib.hid (opened_no a c l W HR0.out hb (by omega) (by omega) hsum)
  have k3 : ((numAt l 0 2 : Nat) : Int) = (l.length : Int) := by omega
  generalize numAt l 0 2 = told at *
  generalize hL : l.length = len at *
  have HLL := Lib.hid hL
  clear hr hb hs ht hw2 hL HDL hn9 hW hWs hsum
  go_enter Try.func26, Try.ntmps26
  go_wp2_with (rw [HQ.out])
  refine HN2.out.mono ?_
  rintro e w1 ⟨rfl, rfl⟩
  go_wp2_with fail
  refine HOP.out.mono ?_
  rintro e w1 ⟨rfl, rfl⟩
  go_wp2_with ((refine wpList_store_row rfl 46 _ _ rfl (w.heap.size) #[.int .i64 0, .int .i64 0, .int .i64 0, .int .i64 0, .int .i64 0, .int .i64 0, .int .i64 0, .int .i64 0, .int .i64 0, .int .i64 0, .int .i64 0, .string ⟨#[]⟩, .int .i64 0, .int .i64 0, .bool false, .int .i64 0, .string ⟨#[]⟩, .int .i64 0, .int .i64 0, .int .i64 0, .int .i64 0, .int .i64 0, .int .i64 0, .slice none 0 0, .bool false, .int .i64 0, .int .i64 0] rfl rfl _ #[.int .i64 0, .int .i64 0, .int .i64 0, .int .i64 0, .int .i64 0, .int .i64 0, .int .i64 0, .int .i64 0, .int .i64 0, .int .i64 0, .int .i64 0, .string ⟨#[]⟩, .int .i64 0, .int .i64 0, .bool false, .int .i64 0, .string ⟨#[]⟩, .int .i64 0, .int .i64 0, .int .i64 0, .int .i64 0, .int .i64 0, .int .i64 0, .slice none 0 0, .bool false, .int .i64 0, .int .i64 0] HX0.out isz_msg rfl (by simp [Value.oneCell']) ?_))
  have hS := setRow_heap W w.heap.size #[.int .i64 0, .int .i64 0, .int .i64 0, .int .i64 0, .int .i64 0, .int .i64 0, .int .i64 0, .int .i64 0, .int .i64 0, .int .i64 0, .int .i64 0, .string ⟨#[]⟩, .int .i64 0, .int .i64 0, .bool false, .int .i64 0, .string ⟨#[]⟩, .int .i64 0, .int .i64 0, .int .i64 0, .int .i64 0, .int .i64 0, .int .i64 0, .slice none 0 0, .bool false, .int .i64 0, .int .i64 0] #[.int .i64 0, .int .i64 0, .int .i64 0, .int .i64 0, .int .i64 0, .int .i64 0, .int .i64 0, .int .i64 0, .int .i64 0, .int .i64 0, .int .i64 0, .string ⟨#[]⟩, .int .i64 0, .int .i64 0, .bool false, .int .i64 0, .string ⟨#[]⟩, .int .i64 0, .int .i64 0, .int .i64 0, .int .i64 0, .int .i64 0, .int .i64 0, .slice none 0 0, .bool false, .int .i64 0, .int .i64 0] 46 (0, 0) HX0.out
  have hfr : Frm (fun k => k = w.heap.size) W (W.setRow w.heap.size #[.int .i64 0, .int .i64 0, .int .i64 0, .int .i64 0, .int .i64 0, .int .i64 0, .int .i64 0, .int .i64 0, .int .i64 0, .int .i64 0, .int .i64 0, .string ⟨#[]⟩, .int .i64 0, .int .i64 0, .bool false, .int .i64 0, .string ⟨#[]⟩, .int .i64 0, .int .i64 0, .int .i64 0, .int .i64 0, .int .i64 0, .int .i64 0, .slice none 0 0, .bool false, .int .i64 0, .int .i64 0]) := fsetRow #[.int .i64 0, .int .i64 0, .int .i64 0, .int .i64 0, .int .i64 0, .int .i64 0, .int .i64 0, .int .i64 0, .int .i64 0, .int .i64 0, .int .i64 0, .string ⟨#[]⟩, .int .i64 0, .int .i64 0, .bool false, .int .i64 0, .string ⟨#[]⟩, .int .i64 0, .int .i64 0, .int .i64 0, .int .i64 0, .int .i64 0, .int .i64 0, .slice none 0 0, .bool false, .int .i64 0, .int .i64 0]
  refine bodyPost_ret (results_cell_tmp rfl _ _ w.heap.size 46 #[.int .i64 0, .int .i64 0, .int .i64 0, .int .i64 0, .int .i64 0, .int .i64 0, .int .i64 0, .int .i64 0, .int .i64 0, .int .i64 0, .int .i64 0, .string ⟨#[]⟩, .int .i64 0, .int .i64 0, .bool false, .int .i64 0, .string ⟨#[]⟩, .int .i64 0, .int .i64 0, .int .i64 0, .int .i64 0, .int .i64 0, .int .i64 0, .slice none 0 0, .bool false, .int .i64 0, .int .i64 0] (0, 0) _ rfl hS Try.underlying46 rfl isz_msg (.int .i64 9) rfl) rfl ?_
  exact ⟨(⟨0, 0, 0, 0, 0, 0, 0, 0, 0, 0, ⟨#[]⟩, 0, 0, false, 0, ⟨#[]⟩, 0, 0, 0, 0, 0, 0, none, 0, [], false, 0, 0⟩ : P5), 0, rfl, rfl, ⟨rdE_nil0 _, by simp, Nat.zero_le 2000, Nat.zero_le 2000⟩, HB0.out.trans (Frm.toBelow hfr HB0.out.size (fun i hi hs => by have hs' : i = w.heap.size := hs; omega))⟩
set_option maxRecDepth 100000 in
set_option maxHeartbeats 8000000 in
theorem rdec_rest (a : Option Addr) (c : Nat) (l : List Nat) (w : World) (hr : Rd w a l.length c (u8s l)) (hb : ∀ x ∈ l, x < 256) (hn9 : l.length ≤ 2000) (hs : ¬ (l.length < 7 ∨ 1024 < l.length)) (ht : numAt l 0 2 = l.length) (hsum : numAt l ((l.length : Int) - 4) 4 = addN 0 (l.take (l.length - 4))) :
    Calls Try.prog 26 #[.slice a l.length c] w fun e w' => RDecE l w e w' := by
  have HX0 := Lib.hid (show Blk (w.alloc (.cells #[.int .i64 0, .int .i64 0, .int .i64 0, .int .i64 0, .int .i64 0, .int .i64 0, .int .i64 0, .int .i64 0, .int .i64 0, .int .i64 0, .int .i64 0, .string ⟨#[]⟩, .int .i64 0, .int .i64 0, .bool false, .int .i64 0, .string ⟨#[]⟩, .int .i64 0, .int .i64 0, .int .i64 0, .int .i64 0, .int .i64 0, .int .i64 0, .slice none 0 0, .bool false, .int .i64 0, .int .i64 0] 46)) w.heap.size 46 [.int .i64 0, .int .i64 0, .int .i64 0, .int .i64 0, .int .i64 0, .int .i64 0, .int .i64 0, .int .i64 0, .int .i64 0, .int .i64 0, .int .i64 0, .string ⟨#[]⟩, .int .i64 0, .int .i64 0, .bool false, .int .i64 0, .string ⟨#[]⟩, .int .i64 0, .int .i64 0, .int .i64 0, .int .i64 0, .int .i64 0, .int .i64 0, .slice none 0 0, .bool false, .int .i64 0, .int .i64 0] from heap_alloc_new w _)
  have HB0 := Lib.hid ((Below.refl w.heap.size w).alloc (Nat.le_refl _) (.cells #[.int .i64 0, .int .i64 0, .int .i64 0, .int .i64 0, .int .i64 0, .int .i64 0, .int .i64 0, .int .i64 0, .int .i64 0, .int .i64 0, .int .i64 0, .string ⟨#[]⟩, .int .i64 0, .int .i64 0, .bool false, .int .i64 0, .string ⟨#[]⟩, .int .i64 0, .int .i64 0, .int .i64 0, .int .i64 0, .int .i64 0, .int .i64 0, .slice none 0 0, .bool false, .int .i64 0, .int .i64 0] 46))
  have HR0 := Lib.hid (hr.below HB0.out rfl)
  obtain ⟨W, hW⟩ : ∃ W, (w.alloc (.cells #[.int .i64 0, .int .i64 0, .int .i64 0, .int .i64 0, .int .i64 0, .int .i64 0, .int .i64 0, .int .i64 0, .int .i64 0, .int .i64 0, .int .i64 0, .string ⟨#[]⟩, .int .i64 0, .int .i64 0, .bool false, .int .i64 0, .string ⟨#[]⟩, .int .i64 0, .int .i64 0, .int .i64 0, .int .i64 0, .int .i64 0, .int .i64 0, .slice none 0 0, .bool false, .int .i64 0, .int .i64 0] 46)) = W := ⟨_, rfl⟩
  have hWs : W.heap.size = w.heap.size + 1 := by rw [← hW]; simp
  rw [hW] at HX0 HB0 HR0
  have HQ := Lib.hid hW
  have HWS := Lib.hid hWs
  have k1 : ¬ (l.length : Int) < 7 := by omega
  have k2 : ¬ (1024 : Int) < (l.length : Int) := by omega
  have hw2 : wrap64 (numAt l 0 2 : Nat) = (numAt l 0 2 : Nat) := by have := (show numAt l 0 2 < 4294967296 from numAt_lt hb 0 2 (by decide)); unfold wrap64; omega
  have HN2 := Lib.hid (refnum_yes a l.length c l 0 2 W HR0.out hb (by omega) (by unfold numOk; simp; omega))
  rw [hw2] at HN2
  have HOP := Lib.hid (opened_yes a c l W HR0.out hb (by omega) (by omega) hsum)
  have k3 : ((numAt l 0 2 : Nat) : Int) = (l.length : Int) := by omega
  obtain ⟨b0, o0, rfl, hb0, hc0⟩ := hr.2.2.2.2 0 (by omega)
  obtain ⟨b0', o0', e0, hb0', hc2⟩ := hr.2.2.2.2 2 (by omega)
  cases e0
  obtain ⟨kd, hkd⟩ : ∃ x, l[2]? = some x := ⟨_, List.getElem?_eq_getElem (by omega)⟩
  have hgd : l.getD 2 0 = kd := by simp [List.getD, hkd]
  have hx2 : w.cell? ⟨b0, o0 + 2, none⟩ = some (.int .u8 (kd : Nat)) := by rw [hc2]; simp [u8s, hkd]
  have hkl : kd < 256 := hb _ (List.mem_of_getElem? hkd)
  have hbw : b0 < W.heap.size := by omega
  have hx3 : (W.alloc (.cells #[.slice (some ⟨b0, o0, none⟩) l.length c, .int .i64 3, .bool false] 103)).cell? ⟨b0, o0 + 2, none⟩ = some (.int .u8 (kd : Nat)) := by rw [World.cell?_alloc_lt _ _ _ hbw, ← hW, World.cell?_alloc_lt _ _ _ (by exact hb0)]; exact hx2
  have hG1 := heap_alloc_new W (.cells #[.slice (some ⟨b0, o0, none⟩) l.length c, .int .i64 3, .bool false] 103)
  have HA := Lib.hid (show QAt (W.alloc (.cells #[.slice (some ⟨b0, o0, none⟩) l.length c, .int .i64 3, .bool false] 103)) W.heap.size (some ⟨b0, o0, none⟩) c l (3, false) from ⟨HR0.out.below ((Below.refl _ W).alloc (Nat.le_refl _) _) rfl, (by intro b o e; cases e; exact Nat.ne_of_lt hbw), hG1, by show 3 ≤ l.length; omega, hn9, hb⟩)
  have HX1 := Lib.hid (HX0.out.alloc (.cells #[.slice (some ⟨b0, o0, none⟩) l.length c, .int .i64 3, .bool false] 103))
  have HB1 := Lib.hid (HB0.out.alloc HB0.out.size (.cells #[.slice (some ⟨b0, o0, none⟩) l.length c, .int .i64 3, .bool false] 103))
  have HME := Lib.hid (qread_any W.heap.size (some ⟨b0, o0, none⟩) c l (kd : Nat) (3, false) _ HA.out)
  obtain ⟨⟨m, s2⟩, hm⟩ : ∃ q, qmsgS l (kd : Nat) (3, false) = q := ⟨_, rfl⟩
  have HDL := Lib.hid (show rdecL l = if s2.2 = false ∧ m.may = true ∧ encL m = l then (m, 0) else (.nil, 8) from by
    unfold rdecL rdecOk; rw [if_neg hs, if_neg (by omega), if_neg (by omega), hgd, hm]
    by_cases h1 : s2.2 = false <;> by_cases h2 : m.may = true <;> by_cases h3 : encL m = l <;> simp [h1, h2, h3])
  rw [hm] at HME
  have HRE := Lib.hid (fun w' (h : Rd w' (some ⟨b0, o0, none⟩) l.length c (u8s l)) => run_str_rd (P := Try.prog) h hb 39 9 5 Try.underlying39 Try.underlying5 Try.underlying9)
  have kk : IntKind.i64.wrap (kd : Int) = (kd : Int) := IntWalk.i64_in _ (by omega)
  have k2' : (2 : Int) < (l.length : Int) := by omega
  have HBB := Lib.hid hb
  unfold RDecE
  obtain ⟨⟨R1, R2⟩, hRR⟩ : ∃ q, rdecL l = q := ⟨_, rfl⟩
  rw [hRR] at HDL ⊢
  generalize numAt l 0 2 = told at *
  generalize hL : l.length = len at *
  have HLL := Lib.hid hL
  clear hr hb hs ht hw2 hL hn9 hW hWs hsum hm hkd hgd hx2 hb0' hc2 hc0 hG1 hRR hbw
  obtain ⟨W1, hW1⟩ : ∃ U, (W.alloc (.cells #[.slice (some ⟨b0, o0, none⟩) len c, .int .i64 3, .bool false] 103)) = U := ⟨_, rfl⟩
  rw [hW1] at HA HX1 HB1 HME hx3
  have HQ1 := Lib.hid hW1
  clear hW1
  go_enter Try.func26, Try.ntmps26
  go_wp2_with (rw [HQ.out])
  refine HN2.out.mono ?_
  rintro e w1 ⟨rfl, rfl⟩
  go_wp2_with fail
  refine HOP.out.mono ?_
  rintro e w1 ⟨rfl, rfl⟩
  go_wp2_with (rw [HQ1.out])
  refine HME.out.mono ?_
  clear HME HQ HN2 HOP hx3 k3
  rintro e V ⟨p, rfl, hpk, hz, hfit, hf, hfs⟩
  unfold P5.msg
  have hws := HWS.out
  have HPK := Lib.hid hpk
  have HFS := Lib.hid (show p.fresh (w.heap.size + 1) from fun b o sp hh => by have q := hfs b o sp hh; have q3 : W.heap.size ≤ W1.heap.size := (by rw [← HQ1.out]; simp); omega)
  clear hfs
  have hbz := hz.2.2.1.cell 2
  have hxV := Blk.frm HX1.out hf (fun hh => absurd (show w.heap.size = W.heap.size from hh) (by omega))
  have hb1 := HB1.out.size
  have hVW : W.heap.size < V.heap.size := hz.2.2.1.lt
  have hbV := HB1.out.trans (Frm.toBelow hf HB1.out.size (fun i hi hs => by have hs' : i = W.heap.size := hs; omega))
  have hy1 : Blk (V.alloc (.cells #[.int .i64 0, .int .i64 0, .int .i64 0, .int .i64 0, .int .i64 0, .int .i64 0, .int .i64 0, .int .i64 0, .int .i64 0, .int .i64 0, .int .i64 0, .string ⟨#[]⟩, .int .i64 0, .int .i64 0, .bool false, .int .i64 0, .string ⟨#[]⟩, .int .i64 0, .int .i64 0, .int .i64 0, .int .i64 0, .int .i64 0, .int .i64 0, .slice none 0 0, .bool false, .int .i64 0, .int .i64 0] 46)) V.heap.size 46 [.int .i64 0, .int .i64 0, .int .i64 0, .int .i64 0, .int .i64 0, .int .i64 0, .int .i64 0, .int .i64 0, .int .i64 0, .int .i64 0, .int .i64 0, .string ⟨#[]⟩, .int .i64 0, .int .i64 0, .bool false, .int .i64 0, .string ⟨#[]⟩, .int .i64 0, .int .i64 0, .int .i64 0, .int .i64 0, .int .i64 0, .int .i64 0, .slice none 0 0, .bool false, .int .i64 0, .int .i64 0] := heap_alloc_new V _
  have hf2 : Frm (fun _ => False) V ((V.alloc (.cells #[.int .i64 0, .int .i64 0, .int .i64 0, .int .i64 0, .int .i64 0, .int .i64 0, .int .i64 0, .int .i64 0, .int .i64 0, .int .i64 0, .int .i64 0, .string ⟨#[]⟩, .int .i64 0, .int .i64 0, .bool false, .int .i64 0, .string ⟨#[]⟩, .int .i64 0, .int .i64 0, .int .i64 0, .int .i64 0, .int .i64 0, .int .i64 0, .slice none 0 0, .bool false, .int .i64 0, .int .i64 0] 46)).setRow V.heap.size #[.int .i64 (kd : Nat), .int .i64 p.hw, .int .i64 p.hl, .int .i64 p.gw, .int .i64 p.gl, .int .i64 p.ge, .int .i64 p.ai, .int .i64 p.aq, .int .i64 p.ah, .int .i64 p.an, .int .i64 p.ae, .string p.ax, .int .i64 p.ak, .int .i64 p.ab, .bool p.af, .int .i64 p.ad, .string p.aw, .int .i64 p.rs, .int .i64 p.rq, .int .i64 p.rh, .int .i64 p.rn, .int .i64 p.rw, .int .i64 p.re, .slice p.ra p.rl.length p.rc, .bool p.rb, .int .i64 p.ss, .int .i64 p.sq]) := ((Frm.refl (fun _ => False) V).alloc _).trans (fsetRow #[.int .i64 (kd : Nat), .int .i64 p.hw, .int .i64 p.hl, .int .i64 p.gw, .int .i64 p.gl, .int .i64 p.ge, .int .i64 p.ai, .int .i64 p.aq, .int .i64 p.ah, .int .i64 p.an, .int .i64 p.ae, .string p.ax, .int .i64 p.ak, .int .i64 p.ab, .bool p.af, .int .i64 p.ad, .string p.aw, .int .i64 p.rs, .int .i64 p.rq, .int .i64 p.rh, .int .i64 p.rn, .int .i64 p.rw, .int .i64 p.re, .slice p.ra p.rl.length p.rc, .bool p.rb, .int .i64 p.ss, .int .i64 p.sq]) (fun i hi hl => by have hi' : i = V.heap.size := hi; omega)
  have HY2 := Lib.hid (show Blk ((V.alloc (.cells #[.int .i64 0, .int .i64 0, .int .i64 0, .int .i64 0, .int .i64 0, .int .i64 0, .int .i64 0, .int .i64 0, .int .i64 0, .int .i64 0, .int .i64 0, .string ⟨#[]⟩, .int .i64 0, .int .i64 0, .bool false, .int .i64 0, .string ⟨#[]⟩, .int .i64 0, .int .i64 0, .int .i64 0, .int .i64 0, .int .i64 0, .int .i64 0, .slice none 0 0, .bool false, .int .i64 0, .int .i64 0] 46)).setRow V.heap.size #[.int .i64 (kd : Nat), .int .i64 p.hw, .int .i64 p.hl, .int .i64 p.gw, .int .i64 p.gl, .int .i64 p.ge, .int .i64 p.ai, .int .i64 p.aq, .int .i64 p.ah, .int .i64 p.an, .int .i64 p.ae, .string p.ax, .int .i64 p.ak, .int .i64 p.ab, .bool p.af, .int .i64 p.ad, .string p.aw, .int .i64 p.rs, .int .i64 p.rq, .int .i64 p.rh, .int .i64 p.rn, .int .i64 p.rw, .int .i64 p.re, .slice p.ra p.rl.length p.rc, .bool p.rb, .int .i64 p.ss, .int .i64 p.sq]) V.heap.size 46 [.int .i64 (kd : Nat), .int .i64 p.hw, .int .i64 p.hl, .int .i64 p.gw, .int .i64 p.gl, .int .i64 p.ge, .int .i64 p.ai, .int .i64 p.aq, .int .i64 p.ah, .int .i64 p.an, .int .i64 p.ae, .string p.ax, .int .i64 p.ak, .int .i64 p.ab, .bool p.af, .int .i64 p.ad, .string p.aw, .int .i64 p.rs, .int .i64 p.rq, .int .i64 p.rh, .int .i64 p.rn, .int .i64 p.rw, .int .i64 p.re, .slice p.ra p.rl.length p.rc, .bool p.rb, .int .i64 p.ss, .int .i64 p.sq] from setRow_heap (V.alloc (.cells #[.int .i64 0, .int .i64 0, .int .i64 0, .int .i64 0, .int .i64 0, .int .i64 0, .int .i64 0, .int .i64 0, .int .i64 0, .int .i64 0, .int .i64 0, .string ⟨#[]⟩, .int .i64 0, .int .i64 0, .bool false, .int .i64 0, .string ⟨#[]⟩, .int .i64 0, .int .i64 0, .int .i64 0, .int .i64 0, .int .i64 0, .int .i64 0, .slice none 0 0, .bool false, .int .i64 0, .int .i64 0] 46)) V.heap.size #[.int .i64 0, .int .i64 0, .int .i64 0, .int .i64 0, .int .i64 0, .int .i64 0, .int .i64 0, .int .i64 0, .int .i64 0, .int .i64 0, .int .i64 0, .string ⟨#[]⟩, .int .i64 0, .int .i64 0, .bool false, .int .i64 0, .string ⟨#[]⟩, .int .i64 0, .int .i64 0, .int .i64 0, .int .i64 0, .int .i64 0, .int .i64 0, .slice none 0 0, .bool false, .int .i64 0, .int .i64 0] #[.int .i64 (kd : Nat), .int .i64 p.hw, .int .i64 p.hl, .int .i64 p.gw, .int .i64 p.gl, .int .i64 p.ge, .int .i64 p.ai, .int .i64 p.aq, .int .i64 p.ah, .int .i64 p.an, .int .i64 p.ae, .string p.ax, .int .i64 p.ak, .int .i64 p.ab, .bool p.af, .int .i64 p.ad, .string p.aw, .int .i64 p.rs, .int .i64 p.rq, .int .i64 p.rh, .int .i64 p.rn, .int .i64 p.rw, .int .i64 p.re, .slice p.ra p.rl.length p.rc, .bool p.rb, .int .i64 p.ss, .int .i64 p.sq] 46 (0, 0) hy1)
  have HY1 := Lib.hid hy1
  have HX2 := Lib.hid (Blk.frm hxV hf2 (fun h => h))
  have HZ2 := Lib.hid (hz.frm hf2 (fun h => h) (fun _ _ _ h => h))
  have HB2 := Lib.hid (hbV.trans (Frm.toBelow hf2 hbV.size (fun i hi hs => hs.elim)))
  have HF2 := Lib.hid (show p.fit ((V.alloc (.cells #[.int .i64 0, .int .i64 0, .int .i64 0, .int .i64 0, .int .i64 0, .int .i64 0, .int .i64 0, .int .i64 0, .int .i64 0, .int .i64 0, .int .i64 0, .string ⟨#[]⟩, .int .i64 0, .int .i64 0, .bool false, .int .i64 0, .string ⟨#[]⟩, .int .i64 0, .int .i64 0, .int .i64 0, .int .i64 0, .int .i64 0, .int .i64 0, .slice none 0 0, .bool false, .int .i64 0, .int .i64 0] 46)).setRow V.heap.size #[.int .i64 (kd : Nat), .int .i64 p.hw, .int .i64 p.hl, .int .i64 p.gw, .int .i64 p.gl, .int .i64 p.ge, .int .i64 p.ai, .int .i64 p.aq, .int .i64 p.ah, .int .i64 p.an, .int .i64 p.ae, .string p.ax, .int .i64 p.ak, .int .i64 p.ab, .bool p.af, .int .i64 p.ad, .string p.aw, .int .i64 p.rs, .int .i64 p.rq, .int .i64 p.rh, .int .i64 p.rn, .int .i64 p.rw, .int .i64 p.re, .slice p.ra p.rl.length p.rc, .bool p.rb, .int .i64 p.ss, .int .i64 p.sq]) from hfit.below (Frm.toBelow hf2 (Nat.le_refl _) (fun i hi hs => hs.elim)))
  have HYV := Lib.hid (show V.heap.size < ((V.alloc (.cells #[.int .i64 0, .int .i64 0, .int .i64 0, .int .i64 0, .int .i64 0, .int .i64 0, .int .i64 0, .int .i64 0, .int .i64 0, .int .i64 0, .int .i64 0, .string ⟨#[]⟩, .int .i64 0, .int .i64 0, .bool false, .int .i64 0, .string ⟨#[]⟩, .int .i64 0, .int .i64 0, .int .i64 0, .int .i64 0, .int .i64 0, .int .i64 0, .slice none 0 0, .bool false, .int .i64 0, .int .i64 0] 46)).setRow V.heap.size #[.int .i64 (kd : Nat), .int .i64 p.hw, .int .i64 p.hl, .int .i64 p.gw, .int .i64 p.gl, .int .i64 p.ge, .int .i64 p.ai, .int .i64 p.aq, .int .i64 p.ah, .int .i64 p.an, .int .i64 p.ae, .string p.ax, .int .i64 p.ak, .int .i64 p.ab, .bool p.af, .int .i64 p.ad, .string p.aw, .int .i64 p.rs, .int .i64 p.rq, .int .i64 p.rh, .int .i64 p.rn, .int .i64 p.rw, .int .i64 p.re, .slice p.ra p.rl.length p.rc, .bool p.rb, .int .i64 p.ss, .int .i64 p.sq]).heap.size from HY2.out.lt)
  obtain ⟨U, hU⟩ : ∃ U, ((V.alloc (.cells #[.int .i64 0, .int .i64 0, .int .i64 0, .int .i64 0, .int .i64 0, .int .i64 0, .int .i64 0, .int .i64 0, .int .i64 0, .int .i64 0, .int .i64 0, .string ⟨#[]⟩, .int .i64 0, .int .i64 0, .bool false, .int .i64 0, .string ⟨#[]⟩, .int .i64 0, .int .i64 0, .int .i64 0, .int .i64 0, .int .i64 0, .int .i64 0, .slice none 0 0, .bool false, .int .i64 0, .int .i64 0] 46)).setRow V.heap.size #[.int .i64 (kd : Nat), .int .i64 p.hw, .int .i64 p.hl, .int .i64 p.gw, .int .i64 p.gl, .int .i64 p.ge, .int .i64 p.ai, .int .i64 p.aq, .int .i64 p.ah, .int .i64 p.an, .int .i64 p.ae, .string p.ax, .int .i64 p.ak, .int .i64 p.ab, .bool p.af, .int .i64 p.ad, .string p.aw, .int .i64 p.rs, .int .i64 p.rq, .int .i64 p.rh, .int .i64 p.rn, .int .i64 p.rw, .int .i64 p.re, .slice p.ra p.rl.length p.rc, .bool p.rb, .int .i64 p.ss, .int .i64 p.sq]) = U := ⟨_, rfl⟩
  rw [hU] at HY2 HX2 HZ2 HB2 HF2 HYV
  have HU := Lib.hid hU
  obtain ⟨y, hy⟩ : ∃ y, V.heap.size = y := ⟨_, rfl⟩
  have HYE := Lib.hid hy
  clear HQ1 hpk hz hfit hf hbz hxV hbV hy1 hf2 hU hy hb1 hws HX1 HB1 HA hVW
  have HM := Lib.hid (rencode_no p (kd : Nat) U HF2.out)
  have HMY := Lib.hid (rencode_yes p (kd : Nat) U HF2.out)
  rw [HPK.out] at HM HMY
  unfold P5.msg at HM HMY
  cases hmy : m.may
  · have HC := Lib.hid (HM.out hmy)
    clear HM HMY
    go_wp2_with (first | (refine wpList_store_row rfl 46 _ _ rfl (V.heap.size) #[.int .i64 (kd : Nat), .int .i64 p.hw, .int .i64 p.hl, .int .i64 p.gw, .int .i64 p.gl, .int .i64 p.ge, .int .i64 p.ai, .int .i64 p.aq, .int .i64 p.ah, .int .i64 p.an, .int .i64 p.ae, .string p.ax, .int .i64 p.ak, .int .i64 p.ab, .bool p.af, .int .i64 p.ad, .string p.aw, .int .i64 p.rs, .int .i64 p.rq, .int .i64 p.rh, .int .i64 p.rn, .int .i64 p.rw, .int .i64 p.re, .slice p.ra p.rl.length p.rc, .bool p.rb, .int .i64 p.ss, .int .i64 p.sq] rfl rfl _ #[.int .i64 0, .int .i64 0, .int .i64 0, .int .i64 0, .int .i64 0, .int .i64 0, .int .i64 0, .int .i64 0, .int .i64 0, .int .i64 0, .int .i64 0, .string ⟨#[]⟩, .int .i64 0, .int .i64 0, .bool false, .int .i64 0, .string ⟨#[]⟩, .int .i64 0, .int .i64 0, .int .i64 0, .int .i64 0, .int .i64 0, .int .i64 0, .slice none 0 0, .bool false, .int .i64 0, .int .i64 0] HY1.out isz_msg rfl (by simp [Value.oneCell']) ?_) | rw [HU.out] | (refine wpList_load_row rfl 46 _ rfl (V.heap.size) rfl _ #[.int .i64 (kd : Nat), .int .i64 p.hw, .int .i64 p.hl, .int .i64 p.gw, .int .i64 p.gl, .int .i64 p.ge, .int .i64 p.ai, .int .i64 p.aq, .int .i64 p.ah, .int .i64 p.an, .int .i64 p.ae, .string p.ax, .int .i64 p.ak, .int .i64 p.ab, .bool p.af, .int .i64 p.ad, .string p.aw, .int .i64 p.rs, .int .i64 p.rq, .int .i64 p.rh, .int .i64 p.rn, .int .i64 p.rw, .int .i64 p.re, .slice p.ra p.rl.length p.rc, .bool p.rb, .int .i64 p.ss, .int .i64 p.sq] (0, 0) _ HY2.out Try.underlying46 rfl isz_msg ?_))
    refine HC.out.mono ?_
    clear HC HU HY1
    rintro e V3 ⟨rfl, hb⟩
    have HX3 := Lib.hid (HX2.out.below hb HX2.out.lt)
    have HY3 := Lib.hid (HY2.out.below hb HY2.out.lt)
    have HZ3 := Lib.hid (HZ2.out.2.2.1.below hb HZ2.out.2.2.1.lt)
    have HR3 := Lib.hid (HZ2.out.1.below hb rfl)
    have HB3 := Lib.hid (HB2.out.trans (hb.mono HB2.out.size))
    have HF3 := Lib.hid (HF2.out.below hb)
    clear hb HX2 HY2 HZ2 HB2 HF2
    have t2 : V3.cell? ⟨W.heap.size, 2, none⟩ = some (.bool s2.2) := HZ3.out.cell 2
    have HRR := Lib.hid (show R1 = .nil ∧ R2 = 8 from by have q := HDL.out; rw [if_neg (fun h => by rw [hmy] at h; exact absurd h.2.1 (by decide))] at q; exact ⟨congrArg Prod.fst q, congrArg Prod.snd q⟩)
    clear hmy
    cases hbad : s2.2 <;> rw [hbad] at t2 <;> clear hbad
    · go_wp2_with ((refine wpList_store_row rfl 46 _ _ rfl (w.heap.size) #[.int .i64 0, .int .i64 0, .int .i64 0, .int .i64 0, .int .i64 0, .int .i64 0, .int .i64 0, .int .i64 0, .int .i64 0, .int .i64 0, .int .i64 0, .string ⟨#[]⟩, .int .i64 0, .int .i64 0, .bool false, .int .i64 0, .string ⟨#[]⟩, .int .i64 0, .int .i64 0, .int .i64 0, .int .i64 0, .int .i64 0, .int .i64 0, .slice none 0 0, .bool false, .int .i64 0, .int .i64 0] rfl rfl _ #[.int .i64 0, .int .i64 0, .int .i64 0, .int .i64 0, .int .i64 0, .int .i64 0, .int .i64 0, .int .i64 0, .int .i64 0, .int .i64 0, .int .i64 0, .string ⟨#[]⟩, .int .i64 0, .int .i64 0, .bool false, .int .i64 0, .string ⟨#[]⟩, .int .i64 0, .int .i64 0, .int .i64 0, .int .i64 0, .int .i64 0, .int .i64 0, .slice none 0 0, .bool false, .int .i64 0, .int .i64 0] HX3.out isz_msg rfl (by simp [Value.oneCell']) ?_))
      obtain ⟨e1, e2⟩ := HRR.out
      rw [e1, e2]
      have hS := setRow_heap V3 w.heap.size #[.int .i64 0, .int .i64 0, .int .i64 0, .int .i64 0, .int .i64 0, .int .i64 0, .int .i64 0, .int .i64 0, .int .i64 0, .int .i64 0, .int .i64 0, .string ⟨#[]⟩, .int .i64 0, .int .i64 0, .bool false, .int .i64 0, .string ⟨#[]⟩, .int .i64 0, .int .i64 0, .int .i64 0, .int .i64 0, .int .i64 0, .int .i64 0, .slice none 0 0, .bool false, .int .i64 0, .int .i64 0] #[.int .i64 0, .int .i64 0, .int .i64 0, .int .i64 0, .int .i64 0, .int .i64 0, .int .i64 0, .int .i64 0, .int .i64 0, .int .i64 0, .int .i64 0, .string ⟨#[]⟩, .int .i64 0, .int .i64 0, .bool false, .int .i64 0, .string ⟨#[]⟩, .int .i64 0, .int .i64 0, .int .i64 0, .int .i64 0, .int .i64 0, .int .i64 0, .slice none 0 0, .bool false, .int .i64 0, .int .i64 0] 46 (0, 0) HX3.out
      have hfr : Frm (fun k => k = w.heap.size) V3 (V3.setRow w.heap.size #[.int .i64 0, .int .i64 0, .int .i64 0, .int .i64 0, .int .i64 0, .int .i64 0, .int .i64 0, .int .i64 0, .int .i64 0, .int .i64 0, .int .i64 0, .string ⟨#[]⟩, .int .i64 0, .int .i64 0, .bool false, .int .i64 0, .string ⟨#[]⟩, .int .i64 0, .int .i64 0, .int .i64 0, .int .i64 0, .int .i64 0, .int .i64 0, .slice none 0 0, .bool false, .int .i64 0, .int .i64 0]) := fsetRow #[.int .i64 0, .int .i64 0, .int .i64 0, .int .i64 0, .int .i64 0, .int .i64 0, .int .i64 0, .int .i64 0, .int .i64 0, .int .i64 0, .int .i64 0, .string ⟨#[]⟩, .int .i64 0, .int .i64 0, .bool false, .int .i64 0, .string ⟨#[]⟩, .int .i64 0, .int .i64 0, .int .i64 0, .int .i64 0, .int .i64 0, .int .i64 0, .slice none 0 0, .bool false, .int .i64 0, .int .i64 0]
      refine bodyPost_ret (results_cell_tmp rfl _ _ w.heap.size 46 #[.int .i64 0, .int .i64 0, .int .i64 0, .int .i64 0, .int .i64 0, .int .i64 0, .int .i64 0, .int .i64 0, .int .i64 0, .int .i64 0, .int .i64 0, .string ⟨#[]⟩, .int .i64 0, .int .i64 0, .bool false, .int .i64 0, .string ⟨#[]⟩, .int .i64 0, .int .i64 0, .int .i64 0, .int .i64 0, .int .i64 0, .int .i64 0, .slice none 0 0, .bool false, .int .i64 0, .int .i64 0] (0, 0) _ rfl hS Try.underlying46 rfl isz_msg (.int .i64 8) rfl) rfl ?_
      exact ⟨(⟨0, 0, 0, 0, 0, 0, 0, 0, 0, 0, ⟨#[]⟩, 0, 0, false, 0, ⟨#[]⟩, 0, 0, 0, 0, 0, 0, none, 0, [], false, 0, 0⟩ : P5), 0, rfl, rfl, ⟨rdE_nil0 _, by simp, Nat.zero_le 2000, Nat.zero_le 2000⟩, HB3.out.trans (Frm.toBelow hfr HB3.out.size (fun i hi hs => by have hs' : i = w.heap.size := hs; omega))⟩
    · go_wp2_with ((refine wpList_store_row rfl 46 _ _ rfl (w.heap.size) #[.int .i64 0, .int .i64 0, .int .i64 0, .int .i64 0, .int .i64 0, .int .i64 0, .int .i64 0, .int .i64 0, .int .i64 0, .int .i64 0, .int .i64 0, .string ⟨#[]⟩, .int .i64 0, .int .i64 0, .bool false, .int .i64 0, .string ⟨#[]⟩, .int .i64 0, .int .i64 0, .int .i64 0, .int .i64 0, .int .i64 0, .int .i64 0, .slice none 0 0, .bool false, .int .i64 0, .int .i64 0] rfl rfl _ #[.int .i64 0, .int .i64 0, .int .i64 0, .int .i64 0, .int .i64 0, .int .i64 0, .int .i64 0, .int .i64 0, .int .i64 0, .int .i64 0, .int .i64 0, .string ⟨#[]⟩, .int .i64 0, .int .i64 0, .bool false, .int .i64 0, .string ⟨#[]⟩, .int .i64 0, .int .i64 0, .int .i64 0, .int .i64 0, .int .i64 0, .int .i64 0, .slice none 0 0, .bool false, .int .i64 0, .int .i64 0] HX3.out isz_msg rfl (by simp [Value.oneCell']) ?_))
      obtain ⟨e1, e2⟩ := HRR.out
      rw [e1, e2]
      have hS := setRow_heap V3 w.heap.size #[.int .i64 0, .int .i64 0, .int .i64 0, .int .i64 0, .int .i64 0, .int .i64 0, .int .i64 0, .int .i64 0, .int .i64 0, .int .i64 0, .int .i64 0, .string ⟨#[]⟩, .int .i64 0, .int .i64 0, .bool false, .int .i64 0, .string ⟨#[]⟩, .int .i64 0, .int .i64 0, .int .i64 0, .int .i64 0, .int .i64 0, .int .i64 0, .slice none 0 0, .bool false, .int .i64 0, .int .i64 0] #[.int .i64 0, .int .i64 0, .int .i64 0, .int .i64 0, .int .i64 0, .int .i64 0, .int .i64 0, .int .i64 0, .int .i64 0, .int .i64 0, .int .i64 0, .string ⟨#[]⟩, .int .i64 0, .int .i64 0, .bool false, .int .i64 0, .string ⟨#[]⟩, .int .i64 0, .int .i64 0, .int .i64 0, .int .i64 0, .int .i64 0, .int .i64 0, .slice none 0 0, .bool false, .int .i64 0, .int .i64 0] 46 (0, 0) HX3.out
      have hfr : Frm (fun k => k = w.heap.size) V3 (V3.setRow w.heap.size #[.int .i64 0, .int .i64 0, .int .i64 0, .int .i64 0, .int .i64 0, .int .i64 0, .int .i64 0, .int .i64 0, .int .i64 0, .int .i64 0, .int .i64 0, .string ⟨#[]⟩, .int .i64 0, .int .i64 0, .bool false, .int .i64 0, .string ⟨#[]⟩, .int .i64 0, .int .i64 0, .int .i64 0, .int .i64 0, .int .i64 0, .int .i64 0, .slice none 0 0, .bool false, .int .i64 0, .int .i64 0]) := fsetRow #[.int .i64 0, .int .i64 0, .int .i64 0, .int .i64 0, .int .i64 0, .int .i64 0, .int .i64 0, .int .i64 0, .int .i64 0, .int .i64 0, .int .i64 0, .string ⟨#[]⟩, .int .i64 0, .int .i64 0, .bool false, .int .i64 0, .string ⟨#[]⟩, .int .i64 0, .int .i64 0, .int .i64 0, .int .i64 0, .int .i64 0, .int .i64 0, .slice none 0 0, .bool false, .int .i64 0, .int .i64 0]
      refine bodyPost_ret (results_cell_tmp rfl _ _ w.heap.size 46 #[.int .i64 0, .int .i64 0, .int .i64 0, .int .i64 0, .int .i64 0, .int .i64 0, .int .i64 0, .int .i64 0, .int .i64 0, .int .i64 0, .int .i64 0, .string ⟨#[]⟩, .int .i64 0, .int .i64 0, .bool false, .int .i64 0, .string ⟨#[]⟩, .int .i64 0, .int .i64 0, .int .i64 0, .int .i64 0, .int .i64 0, .int .i64 0, .slice none 0 0, .bool false, .int .i64 0, .int .i64 0] (0, 0) _ rfl hS Try.underlying46 rfl isz_msg (.int .i64 8) rfl) rfl ?_
      exact ⟨(⟨0, 0, 0, 0, 0, 0, 0, 0, 0, 0, ⟨#[]⟩, 0, 0, false, 0, ⟨#[]⟩, 0, 0, 0, 0, 0, 0, none, 0, [], false, 0, 0⟩ : P5), 0, rfl, rfl, ⟨rdE_nil0 _, by simp, Nat.zero_le 2000, Nat.zero_le 2000⟩, HB3.out.trans (Frm.toBelow hfr HB3.out.size (fun i hi hs => by have hs' : i = w.heap.size := hs; omega))⟩
  · have HC := Lib.hid (HMY.out hmy)
    clear HM HMY
    have HLT := Lib.hid (coreL_lt m (may_isMsg hmy))
    have HDE := Lib.hid (show (R1, R2) = if s2.2 = false ∧ encL m = l then (m, 0) else (.nil, 8) from by rw [HDL.out]; simp only [hmy, true_and])
    clear HDL hmy
    unfold EncE at HC
    obtain ⟨fl, hfl⟩ : ∃ fl, encL m = fl := ⟨_, rfl⟩
    rw [hfl] at HC HLT HDE
    clear hfl
    go_wp2_with (first | (refine wpList_store_row rfl 46 _ _ rfl (V.heap.size) #[.int .i64 (kd : Nat), .int .i64 p.hw, .int .i64 p.hl, .int .i64 p.gw, .int .i64 p.gl, .int .i64 p.ge, .int .i64 p.ai, .int .i64 p.aq, .int .i64 p.ah, .int .i64 p.an, .int .i64 p.ae, .string p.ax, .int .i64 p.ak, .int .i64 p.ab, .bool p.af, .int .i64 p.ad, .string p.aw, .int .i64 p.rs, .int .i64 p.rq, .int .i64 p.rh, .int .i64 p.rn, .int .i64 p.rw, .int .i64 p.re, .slice p.ra p.rl.length p.rc, .bool p.rb, .int .i64 p.ss, .int .i64 p.sq] rfl rfl _ #[.int .i64 0, .int .i64 0, .int .i64 0, .int .i64 0, .int .i64 0, .int .i64 0, .int .i64 0, .int .i64 0, .int .i64 0, .int .i64 0, .int .i64 0, .string ⟨#[]⟩, .int .i64 0, .int .i64 0, .bool false, .int .i64 0, .string ⟨#[]⟩, .int .i64 0, .int .i64 0, .int .i64 0, .int .i64 0, .int .i64 0, .int .i64 0, .slice none 0 0, .bool false, .int .i64 0, .int .i64 0] HY1.out isz_msg rfl (by simp [Value.oneCell']) ?_) | rw [HU.out] | (refine wpList_load_row rfl 46 _ rfl (V.heap.size) rfl _ #[.int .i64 (kd : Nat), .int .i64 p.hw, .int .i64 p.hl, .int .i64 p.gw, .int .i64 p.gl, .int .i64 p.ge, .int .i64 p.ai, .int .i64 p.aq, .int .i64 p.ah, .int .i64 p.an, .int .i64 p.ae, .string p.ax, .int .i64 p.ak, .int .i64 p.ab, .bool p.af, .int .i64 p.ad, .string p.aw, .int .i64 p.rs, .int .i64 p.rq, .int .i64 p.rh, .int .i64 p.rn, .int .i64 p.rw, .int .i64 p.re, .slice p.ra p.rl.length p.rc, .bool p.rb, .int .i64 p.ss, .int .i64 p.sq] (0, 0) _ HY2.out Try.underlying46 rfl isz_msg ?_))
    refine HC.out.mono ?_
    clear HC HU HY1
    rintro e V3 ⟨ao, co, rfl, ho, hb⟩
    have HX3 := Lib.hid (HX2.out.below hb HX2.out.lt)
    have HY3 := Lib.hid (HY2.out.below hb HY2.out.lt)
    have HZ3 := Lib.hid (HZ2.out.2.2.1.below hb HZ2.out.2.2.1.lt)
    have HR3 := Lib.hid (HZ2.out.1.below hb rfl)
    have HB3 := Lib.hid (HB2.out.trans (hb.mono HB2.out.size))
    have HF3 := Lib.hid (HF2.out.below hb)
    have HO3 := Lib.hid (ownsRow_rd ho)
    clear ho hb HX2 HY2 HZ2 HB2 HF2
    have t2 : V3.cell? ⟨W.heap.size, 2, none⟩ = some (.bool s2.2) := HZ3.out.cell 2
    cases hbad : s2.2
    · rw [hbad] at t2
      by_cases hq : fl = l
      · subst hq
        have HRR := Lib.hid (show R1 = m ∧ R2 = 0 from by have q := HDE.out; rw [if_pos ⟨hbad, rfl⟩] at q; exact ⟨congrArg Prod.fst q, congrArg Prod.snd q⟩)
        clear hbad
        have hll := HLL.out
        rw [hll] at HO3 ⊢
        have HLL2 := Lib.hid hll
        clear hll
        have cv1 := run_str_rd (P := Try.prog) HO3.out HLT.out 39 9 5 Try.underlying39 Try.underlying5 Try.underlying9
        have hr3 := HR3.out
        rw [HLL2.out] at hr3
        have cv2 := run_str_rd (P := Try.prog) hr3 HLT.out 39 9 5 Try.underlying39 Try.underlying5 Try.underlying9
        clear hr3
        go_wp2_with (first | (refine wpList_load_row rfl 46 _ rfl (V.heap.size) rfl _ #[.int .i64 (kd : Nat), .int .i64 p.hw, .int .i64 p.hl, .int .i64 p.gw, .int .i64 p.gl, .int .i64 p.ge, .int .i64 p.ai, .int .i64 p.aq, .int .i64 p.ah, .int .i64 p.an, .int .i64 p.ae, .string p.ax, .int .i64 p.ak, .int .i64 p.ab, .bool p.af, .int .i64 p.ad, .string p.aw, .int .i64 p.rs, .int .i64 p.rq, .int .i64 p.rh, .int .i64 p.rn, .int .i64 p.rw, .int .i64 p.re, .slice p.ra p.rl.length p.rc, .bool p.rb, .int .i64 p.ss, .int .i64 p.sq] (0, 0) _ HY3.out Try.underlying46 rfl isz_msg ?_) | (refine wpList_store_row rfl 46 _ _ rfl (w.heap.size) #[.int .i64 (kd : Nat), .int .i64 p.hw, .int .i64 p.hl, .int .i64 p.gw, .int .i64 p.gl, .int .i64 p.ge, .int .i64 p.ai, .int .i64 p.aq, .int .i64 p.ah, .int .i64 p.an, .int .i64 p.ae, .string p.ax, .int .i64 p.ak, .int .i64 p.ab, .bool p.af, .int .i64 p.ad, .string p.aw, .int .i64 p.rs, .int .i64 p.rq, .int .i64 p.rh, .int .i64 p.rn, .int .i64 p.rw, .int .i64 p.re, .slice p.ra p.rl.length p.rc, .bool p.rb, .int .i64 p.ss, .int .i64 p.sq] rfl rfl _ #[.int .i64 0, .int .i64 0, .int .i64 0, .int .i64 0, .int .i64 0, .int .i64 0, .int .i64 0, .int .i64 0, .int .i64 0, .int .i64 0, .int .i64 0, .string ⟨#[]⟩, .int .i64 0, .int .i64 0, .bool false, .int .i64 0, .string ⟨#[]⟩, .int .i64 0, .int .i64 0, .int .i64 0, .int .i64 0, .int .i64 0, .int .i64 0, .slice none 0 0, .bool false, .int .i64 0, .int .i64 0] HX3.out isz_msg rfl (by simp [Value.oneCell']) ?_))
        obtain ⟨e1, e2⟩ := HRR.out
        rw [e1, e2]
        have hS := setRow_heap V3 w.heap.size #[.int .i64 0, .int .i64 0, .int .i64 0, .int .i64 0, .int .i64 0, .int .i64 0, .int .i64 0, .int .i64 0, .int .i64 0, .int .i64 0, .int .i64 0, .string ⟨#[]⟩, .int .i64 0, .int .i64 0, .bool false, .int .i64 0, .string ⟨#[]⟩, .int .i64 0, .int .i64 0, .int .i64 0, .int .i64 0, .int .i64 0, .int .i64 0, .slice none 0 0, .bool false, .int .i64 0, .int .i64 0] #[.int .i64 (kd : Nat), .int .i64 p.hw, .int .i64 p.hl, .int .i64 p.gw, .int .i64 p.gl, .int .i64 p.ge, .int .i64 p.ai, .int .i64 p.aq, .int .i64 p.ah, .int .i64 p.an, .int .i64 p.ae, .string p.ax, .int .i64 p.ak, .int .i64 p.ab, .bool p.af, .int .i64 p.ad, .string p.aw, .int .i64 p.rs, .int .i64 p.rq, .int .i64 p.rh, .int .i64 p.rn, .int .i64 p.rw, .int .i64 p.re, .slice p.ra p.rl.length p.rc, .bool p.rb, .int .i64 p.ss, .int .i64 p.sq] 46 (0, 0) HX3.out
        have hfr : Frm (fun k => k = w.heap.size) V3 (V3.setRow w.heap.size #[.int .i64 (kd : Nat), .int .i64 p.hw, .int .i64 p.hl, .int .i64 p.gw, .int .i64 p.gl, .int .i64 p.ge, .int .i64 p.ai, .int .i64 p.aq, .int .i64 p.ah, .int .i64 p.an, .int .i64 p.ae, .string p.ax, .int .i64 p.ak, .int .i64 p.ab, .bool p.af, .int .i64 p.ad, .string p.aw, .int .i64 p.rs, .int .i64 p.rq, .int .i64 p.rh, .int .i64 p.rn, .int .i64 p.rw, .int .i64 p.re, .slice p.ra p.rl.length p.rc, .bool p.rb, .int .i64 p.ss, .int .i64 p.sq]) := fsetRow #[.int .i64 (kd : Nat), .int .i64 p.hw, .int .i64 p.hl, .int .i64 p.gw, .int .i64 p.gl, .int .i64 p.ge, .int .i64 p.ai, .int .i64 p.aq, .int .i64 p.ah, .int .i64 p.an, .int .i64 p.ae, .string p.ax, .int .i64 p.ak, .int .i64 p.ab, .bool p.af, .int .i64 p.ad, .string p.aw, .int .i64 p.rs, .int .i64 p.rq, .int .i64 p.rh, .int .i64 p.rn, .int .i64 p.rw, .int .i64 p.re, .slice p.ra p.rl.length p.rc, .bool p.rb, .int .i64 p.ss, .int .i64 p.sq]
        refine bodyPost_ret (results_cell_tmp rfl _ _ w.heap.size 46 #[.int .i64 (kd : Nat), .int .i64 p.hw, .int .i64 p.hl, .int .i64 p.gw, .int .i64 p.gl, .int .i64 p.ge, .int .i64 p.ai, .int .i64 p.aq, .int .i64 p.ah, .int .i64 p.an, .int .i64 p.ae, .string p.ax, .int .i64 p.ak, .int .i64 p.ab, .bool p.af, .int .i64 p.ad, .string p.aw, .int .i64 p.rs, .int .i64 p.rq, .int .i64 p.rh, .int .i64 p.rn, .int .i64 p.rw, .int .i64 p.re, .slice p.ra p.rl.length p.rc, .bool p.rb, .int .i64 p.ss, .int .i64 p.sq] (0, 0) _ rfl hS Try.underlying46 rfl isz_msg (.int .i64 0) rfl) rfl ?_
        have hb3 := HB3.out.trans (Frm.toBelow hfr HB3.out.size (fun i hi hs => by have hs' : i = w.heap.size := hs; omega))
        exact ⟨p, (kd : Nat), rfl, HPK.out, fit_row HF3.out hfr HFS.out, hb3⟩
      · have HRR := Lib.hid (show R1 = .nil ∧ R2 = 8 from by have q := HDE.out; rw [if_neg (fun h => hq h.2)] at q; exact ⟨congrArg Prod.fst q, congrArg Prod.snd q⟩)
        have hsn : strN fl ≠ strN l := fun e => hq (strN_inj HLT.out HBB.out e)
        have hs1 := str_ne hsn
        clear hsn hq hbad
        have cv1 := run_str_rd (P := Try.prog) HO3.out HLT.out 39 9 5 Try.underlying39 Try.underlying5 Try.underlying9
        have hr3 := HR3.out
        rw [HLL.out] at hr3
        have cv2 := run_str_rd (P := Try.prog) hr3 HBB.out 39 9 5 Try.underlying39 Try.underlying5 Try.underlying9
        clear hr3
        go_wp2_with ((refine wpList_store_row rfl 46 _ _ rfl (w.heap.size) #[.int .i64 0, .int .i64 0, .int .i64 0, .int .i64 0, .int .i64 0, .int .i64 0, .int .i64 0, .int .i64 0, .int .i64 0, .int .i64 0, .int .i64 0, .string ⟨#[]⟩, .int .i64 0, .int .i64 0, .bool false, .int .i64 0, .string ⟨#[]⟩, .int .i64 0, .int .i64 0, .int .i64 0, .int .i64 0, .int .i64 0, .int .i64 0, .slice none 0 0, .bool false, .int .i64 0, .int .i64 0] rfl rfl _ #[.int .i64 0, .int .i64 0, .int .i64 0, .int .i64 0, .int .i64 0, .int .i64 0, .int .i64 0, .int .i64 0, .int .i64 0, .int .i64 0, .int .i64 0, .string ⟨#[]⟩, .int .i64 0, .int .i64 0, .bool false, .int .i64 0, .string ⟨#[]⟩, .int .i64 0, .int .i64 0, .int .i64 0, .int .i64 0, .int .i64 0, .int .i64 0, .slice none 0 0, .bool false, .int .i64 0, .int .i64 0] HX3.out isz_msg rfl (by simp [Value.oneCell']) ?_))
        obtain ⟨e1, e2⟩ := HRR.out
        rw [e1, e2]
        have hS := setRow_heap V3 w.heap.size #[.int .i64 0, .int .i64 0, .int .i64 0, .int .i64 0, .int .i64 0, .int .i64 0, .int .i64 0, .int .i64 0, .int .i64 0, .int .i64 0, .int .i64 0, .string ⟨#[]⟩, .int .i64 0, .int .i64 0, .bool false, .int .i64 0, .string ⟨#[]⟩, .int .i64 0, .int .i64 0, .int .i64 0, .int .i64 0, .int .i64 0, .int .i64 0, .slice none 0 0, .bool false, .int .i64 0, .int .i64 0] #[.int .i64 0, .int .i64 0, .int .i64 0, .int .i64 0, .int .i64 0, .int .i64 0, .int .i64 0, .int .i64 0, .int .i64 0, .int .i64 0, .int .i64 0, .string ⟨#[]⟩, .int .i64 0, .int .i64 0, .bool false, .int .i64 0, .string ⟨#[]⟩, .int .i64 0, .int .i64 0, .int .i64 0, .int .i64 0, .int .i64 0, .int .i64 0, .slice none 0 0, .bool false, .int .i64 0, .int .i64 0] 46 (0, 0) HX3.out
        have hfr : Frm (fun k => k = w.heap.size) V3 (V3.setRow w.heap.size #[.int .i64 0, .int .i64 0, .int .i64 0, .int .i64 0, .int .i64 0, .int .i64 0, .int .i64 0, .int .i64 0, .int .i64 0, .int .i64 0, .int .i64 0, .string ⟨#[]⟩, .int .i64 0, .int .i64 0, .bool false, .int .i64 0, .string ⟨#[]⟩, .int .i64 0, .int .i64 0, .int .i64 0, .int .i64 0, .int .i64 0, .int .i64 0, .slice none 0 0, .bool false, .int .i64 0, .int .i64 0]) := fsetRow #[.int .i64 0, .int .i64 0, .int .i64 0, .int .i64 0, .int .i64 0, .int .i64 0, .int .i64 0, .int .i64 0, .int .i64 0, .int .i64 0, .int .i64 0, .string ⟨#[]⟩, .int .i64 0, .int .i64 0, .bool false, .int .i64 0, .string ⟨#[]⟩, .int .i64 0, .int .i64 0, .int .i64 0, .int .i64 0, .int .i64 0, .int .i64 0, .slice none 0 0, .bool false, .int .i64 0, .int .i64 0]
        refine bodyPost_ret (results_cell_tmp rfl _ _ w.heap.size 46 #[.int .i64 0, .int .i64 0, .int .i64 0, .int .i64 0, .int .i64 0, .int .i64 0, .int .i64 0, .int .i64 0, .int .i64 0, .int .i64 0, .int .i64 0, .string ⟨#[]⟩, .int .i64 0, .int .i64 0, .bool false, .int .i64 0, .string ⟨#[]⟩, .int .i64 0, .int .i64 0, .int .i64 0, .int .i64 0, .int .i64 0, .int .i64 0, .slice none 0 0, .bool false, .int .i64 0, .int .i64 0] (0, 0) _ rfl hS Try.underlying46 rfl isz_msg (.int .i64 8) rfl) rfl ?_
        exact ⟨(⟨0, 0, 0, 0, 0, 0, 0, 0, 0, 0, ⟨#[]⟩, 0, 0, false, 0, ⟨#[]⟩, 0, 0, 0, 0, 0, 0, none, 0, [], false, 0, 0⟩ : P5), 0, rfl, rfl, ⟨rdE_nil0 _, by simp, Nat.zero_le 2000, Nat.zero_le 2000⟩, HB3.out.trans (Frm.toBelow hfr HB3.out.size (fun i hi hs => by have hs' : i = w.heap.size := hs; omega))⟩
    · rw [hbad] at t2
      have HRR := Lib.hid (show R1 = .nil ∧ R2 = 8 from by have q := HDE.out; rw [if_neg (fun h => by rw [hbad] at h; exact absurd h.1 (by decide))] at q; exact ⟨congrArg Prod.fst q, congrArg Prod.snd q⟩)
      clear hbad
      go_wp2_with ((refine wpList_store_row rfl 46 _ _ rfl (w.heap.size) #[.int .i64 0, .int .i64 0, .int .i64 0, .int .i64 0, .int .i64 0, .int .i64 0, .int .i64 0, .int .i64 0, .int .i64 0, .int .i64 0, .int .i64 0, .string ⟨#[]⟩, .int .i64 0, .int .i64 0, .bool false, .int .i64 0, .string ⟨#[]⟩, .int .i64 0, .int .i64 0, .int .i64 0, .int .i64 0, .int .i64 0, .int .i64 0, .slice none 0 0, .bool false, .int .i64 0, .int .i64 0] rfl rfl _ #[.int .i64 0, .int .i64 0, .int .i64 0, .int .i64 0, .int .i64 0, .int .i64 0, .int .i64 0, .int .i64 0, .int .i64 0, .int .i64 0, .int .i64 0, .string ⟨#[]⟩, .int .i64 0, .int .i64 0, .bool false, .int .i64 0, .string ⟨#[]⟩, .int .i64 0, .int .i64 0, .int .i64 0, .int .i64 0, .int .i64 0, .int .i64 0, .slice none 0 0, .bool false, .int .i64 0, .int .i64 0] HX3.out isz_msg rfl (by simp [Value.oneCell']) ?_))
      obtain ⟨e1, e2⟩ := HRR.out
      rw [e1, e2]
      have hS := setRow_heap V3 w.heap.size #[.int .i64 0, .int .i64 0, .int .i64 0, .int .i64 0, .int .i64 0, .int .i64 0, .int .i64 0, .int .i64 0, .int .i64 0, .int .i64 0, .int .i64 0, .string ⟨#[]⟩, .int .i64 0, .int .i64 0, .bool false, .int .i64 0, .string ⟨#[]⟩, .int .i64 0, .int .i64 0, .int .i64 0, .int .i64 0, .int .i64 0, .int .i64 0, .slice none 0 0, .bool false, .int .i64 0, .int .i64 0] #[.int .i64 0, .int .i64 0, .int .i64 0, .int .i64 0, .int .i64 0, .int .i64 0, .int .i64 0, .int .i64 0, .int .i64 0, .int .i64 0, .int .i64 0, .string ⟨#[]⟩, .int .i64 0, .int .i64 0, .bool false, .int .i64 0, .string ⟨#[]⟩, .int .i64 0, .int .i64 0, .int .i64 0, .int .i64 0, .int .i64 0, .int .i64 0, .slice none 0 0, .bool false, .int .i64 0, .int .i64 0] 46 (0, 0) HX3.out
      have hfr : Frm (fun k => k = w.heap.size) V3 (V3.setRow w.heap.size #[.int .i64 0, .int .i64 0, .int .i64 0, .int .i64 0, .int .i64 0, .int .i64 0, .int .i64 0, .int .i64 0, .int .i64 0, .int .i64 0, .int .i64 0, .string ⟨#[]⟩, .int .i64 0, .int .i64 0, .bool false, .int .i64 0, .string ⟨#[]⟩, .int .i64 0, .int .i64 0, .int .i64 0, .int .i64 0, .int .i64 0, .int .i64 0, .slice none 0 0, .bool false, .int .i64 0, .int .i64 0]) := fsetRow #[.int .i64 0, .int .i64 0, .int .i64 0, .int .i64 0, .int .i64 0, .int .i64 0, .int .i64 0, .int .i64 0, .int .i64 0, .int .i64 0, .int .i64 0, .string ⟨#[]⟩, .int .i64 0, .int .i64 0, .bool false, .int .i64 0, .string ⟨#[]⟩, .int .i64 0, .int .i64 0, .int .i64 0, .int .i64 0, .int .i64 0, .int .i64 0, .slice none 0 0, .bool false, .int .i64 0, .int .i64 0]
      refine bodyPost_ret (results_cell_tmp rfl _ _ w.heap.size 46 #[.int .i64 0, .int .i64 0, .int .i64 0, .int .i64 0, .int .i64 0, .int .i64 0, .int .i64 0, .int .i64 0, .int .i64 0, .int .i64 0, .int .i64 0, .string ⟨#[]⟩, .int .i64 0, .int .i64 0, .bool false, .int .i64 0, .string ⟨#[]⟩, .int .i64 0, .int .i64 0, .int .i64 0, .int .i64 0, .int .i64 0, .int .i64 0, .slice none 0 0, .bool false, .int .i64 0, .int .i64 0] (0, 0) _ rfl hS Try.underlying46 rfl isz_msg (.int .i64 8) rfl) rfl ?_
      exact ⟨(⟨0, 0, 0, 0, 0, 0, 0, 0, 0, 0, ⟨#[]⟩, 0, 0, false, 0, ⟨#[]⟩, 0, 0, 0, 0, 0, 0, none, 0, [], false, 0, 0⟩ : P5), 0, rfl, rfl, ⟨rdE_nil0 _, by simp, Nat.zero_le 2000, Nat.zero_le 2000⟩, HB3.out.trans (Frm.toBelow hfr HB3.out.size (fun i hi hs => by have hs' : i = w.heap.size := hs; omega))⟩
set_option maxRecDepth 100000 in
theorem rdecode_any (a : Option Addr) (c : Nat) (l : List Nat) (w : World) (hr : Rd w a l.length c (u8s l)) (hb : ∀ x ∈ l, x < 256) (hn9 : l.length ≤ 2000) : Calls Try.prog 26 #[.slice a l.length c] w fun e w' => RDecE l w e w' := by
  by_cases hs : l.length < 7 ∨ 1024 < l.length
  · exact rdec_size a c l w hr hb hn9 hs
  by_cases ht : numAt l 0 2 = l.length
  · by_cases hsum : numAt l ((l.length : Int) - 4) 4 = addN 0 (l.take (l.length - 4))
    · exact rdec_rest a c l w hr hb hn9 hs ht hsum
    · exact rdec_sum a c l w hr hb hn9 hs ht hsum
  · exact rdec_told a c l w hr hb hn9 hs ht
end Go.Proofs.Ytjhkdbcfkaaffaa
/- l.Any; the law MsgReads's walk. -/
namespace Go.Proofs.Ytjhkdbcfkaaffaa
open Go.RowKit
set_option linter.unusedVariables false

def AnyE (m : MV) (w : World) (e : Ending) (w' : World) : Prop := ∃ u, e = .returned u ∧ m.At w' u ∧ Below w.heap.size w w'
set_option maxRecDepth 100000 in
set_option maxHeartbeats 8000000 in
theorem any_hello (p : P5) (w : World) (hf : p.fit w) : Calls Try.prog 28 #[.agg #[.int .i64 1, .int .i64 p.hw, .int .i64 p.hl, .int .i64 p.gw, .int .i64 p.gl, .int .i64 p.ge, .int .i64 p.ai, .int .i64 p.aq, .int .i64 p.ah, .int .i64 p.an, .int .i64 p.ae, .string p.ax, .int .i64 p.ak, .int .i64 p.ab, .bool p.af, .int .i64 p.ad, .string p.aw, .int .i64 p.rs, .int .i64 p.rq, .int .i64 p.rh, .int .i64 p.rn, .int .i64 p.rw, .int .i64 p.re, .slice p.ra p.rl.length p.rc, .bool p.rb, .int .i64 p.ss, .int .i64 p.sq]] w fun e w' => AnyE (.hello p.hw p.hl) w e w' := by
  have HFI := Lib.hid hf
  clear hf
  have HB := Lib.hid ((Below.refl w.heap.size w).alloc (Nat.le_refl _) (.cells #[.int .i64 1, .int .i64 p.hw, .int .i64 p.hl, .int .i64 p.gw, .int .i64 p.gl, .int .i64 p.ge, .int .i64 p.ai, .int .i64 p.aq, .int .i64 p.ah, .int .i64 p.an, .int .i64 p.ae, .string p.ax, .int .i64 p.ak, .int .i64 p.ab, .bool p.af, .int .i64 p.ad, .string p.aw, .int .i64 p.rs, .int .i64 p.rq, .int .i64 p.rh, .int .i64 p.rn, .int .i64 p.rw, .int .i64 p.re, .slice p.ra p.rl.length p.rc, .bool p.rb, .int .i64 p.ss, .int .i64 p.sq] 46))
  have HX := Lib.hid (show Blk (w.alloc (.cells #[.int .i64 1, .int .i64 p.hw, .int .i64 p.hl, .int .i64 p.gw, .int .i64 p.gl, .int .i64 p.ge, .int .i64 p.ai, .int .i64 p.aq, .int .i64 p.ah, .int .i64 p.an, .int .i64 p.ae, .string p.ax, .int .i64 p.ak, .int .i64 p.ab, .bool p.af, .int .i64 p.ad, .string p.aw, .int .i64 p.rs, .int .i64 p.rq, .int .i64 p.rh, .int .i64 p.rn, .int .i64 p.rw, .int .i64 p.re, .slice p.ra p.rl.length p.rc, .bool p.rb, .int .i64 p.ss, .int .i64 p.sq] 46)) w.heap.size 46 [.int .i64 1, .int .i64 p.hw, .int .i64 p.hl, .int .i64 p.gw, .int .i64 p.gl, .int .i64 p.ge, .int .i64 p.ai, .int .i64 p.aq, .int .i64 p.ah, .int .i64 p.an, .int .i64 p.ae, .string p.ax, .int .i64 p.ak, .int .i64 p.ab, .bool p.af, .int .i64 p.ad, .string p.aw, .int .i64 p.rs, .int .i64 p.rq, .int .i64 p.rh, .int .i64 p.rn, .int .i64 p.rw, .int .i64 p.re, .slice p.ra p.rl.length p.rc, .bool p.rb, .int .i64 p.ss, .int .i64 p.sq] from heap_alloc_new w _)
  obtain ⟨W0, hW0⟩ : ∃ W0, w.alloc (.cells #[.int .i64 1, .int .i64 p.hw, .int .i64 p.hl, .int .i64 p.gw, .int .i64 p.gl, .int .i64 p.ge, .int .i64 p.ai, .int .i64 p.aq, .int .i64 p.ah, .int .i64 p.an, .int .i64 p.ae, .string p.ax, .int .i64 p.ak, .int .i64 p.ab, .bool p.af, .int .i64 p.ad, .string p.aw, .int .i64 p.rs, .int .i64 p.rq, .int .i64 p.rh, .int .i64 p.rn, .int .i64 p.rw, .int .i64 p.re, .slice p.ra p.rl.length p.rc, .bool p.rb, .int .i64 p.ss, .int .i64 p.sq] 46) = W0 := ⟨_, rfl⟩
  rw [hW0] at HB HX
  have t0 : W0.cell? ⟨w.heap.size, 0, none⟩ = some (.int .i64 1) := HX.out.cell 0
  have t1 : W0.cell? ⟨w.heap.size, 1, none⟩ = some (.int .i64 p.hw) := HX.out.cell 1
  have t2 : W0.cell? ⟨w.heap.size, 2, none⟩ = some (.int .i64 p.hl) := HX.out.cell 2
  have t3 : W0.cell? ⟨w.heap.size, 3, none⟩ = some (.int .i64 p.gw) := HX.out.cell 3
  have t4 : W0.cell? ⟨w.heap.size, 4, none⟩ = some (.int .i64 p.gl) := HX.out.cell 4
  have t5 : W0.cell? ⟨w.heap.size, 5, none⟩ = some (.int .i64 p.ge) := HX.out.cell 5
  have t6 : W0.cell? ⟨w.heap.size, 6, none⟩ = some (.int .i64 p.ai) := HX.out.cell 6
  have t7 : W0.cell? ⟨w.heap.size, 7, none⟩ = some (.int .i64 p.aq) := HX.out.cell 7
  have t8 : W0.cell? ⟨w.heap.size, 8, none⟩ = some (.int .i64 p.ah) := HX.out.cell 8
  have t9 : W0.cell? ⟨w.heap.size, 9, none⟩ = some (.int .i64 p.an) := HX.out.cell 9
  have t10 : W0.cell? ⟨w.heap.size, 10, none⟩ = some (.int .i64 p.ae) := HX.out.cell 10
  have t11 : W0.cell? ⟨w.heap.size, 11, none⟩ = some (.string p.ax) := HX.out.cell 11
  have t12 : W0.cell? ⟨w.heap.size, 12, none⟩ = some (.int .i64 p.ak) := HX.out.cell 12
  have t13 : W0.cell? ⟨w.heap.size, 13, none⟩ = some (.int .i64 p.ab) := HX.out.cell 13
  have t14 : W0.cell? ⟨w.heap.size, 14, none⟩ = some (.bool p.af) := HX.out.cell 14
  have t15 : W0.cell? ⟨w.heap.size, 15, none⟩ = some (.int .i64 p.ad) := HX.out.cell 15
  have t16 : W0.cell? ⟨w.heap.size, 16, none⟩ = some (.string p.aw) := HX.out.cell 16
  have t17 : W0.cell? ⟨w.heap.size, 17, none⟩ = some (.int .i64 p.rs) := HX.out.cell 17
  have t18 : W0.cell? ⟨w.heap.size, 18, none⟩ = some (.int .i64 p.rq) := HX.out.cell 18
  have t19 : W0.cell? ⟨w.heap.size, 19, none⟩ = some (.int .i64 p.rh) := HX.out.cell 19
  have t20 : W0.cell? ⟨w.heap.size, 20, none⟩ = some (.int .i64 p.rn) := HX.out.cell 20
  have t21 : W0.cell? ⟨w.heap.size, 21, none⟩ = some (.int .i64 p.rw) := HX.out.cell 21
  have t22 : W0.cell? ⟨w.heap.size, 22, none⟩ = some (.int .i64 p.re) := HX.out.cell 22
  have t23 : W0.cell? ⟨w.heap.size, 23, none⟩ = some (.slice p.ra p.rl.length p.rc) := HX.out.cell 23
  have t24 : W0.cell? ⟨w.heap.size, 24, none⟩ = some (.bool p.rb) := HX.out.cell 24
  have t25 : W0.cell? ⟨w.heap.size, 25, none⟩ = some (.int .i64 p.ss) := HX.out.cell 25
  have t26 : W0.cell? ⟨w.heap.size, 26, none⟩ = some (.int .i64 p.sq) := HX.out.cell 26
  unfold AnyE
  go_enter Try.func28, Try.ntmps28
  go_wp2_with (rw [hW0])
  go_ret
  exact ⟨_, rfl, rfl, HB.out⟩
set_option maxRecDepth 100000 in
set_option maxHeartbeats 8000000 in
theorem any_grant (p : P5) (w : World) (hf : p.fit w) : Calls Try.prog 28 #[.agg #[.int .i64 2, .int .i64 p.hw, .int .i64 p.hl, .int .i64 p.gw, .int .i64 p.gl, .int .i64 p.ge, .int .i64 p.ai, .int .i64 p.aq, .int .i64 p.ah, .int .i64 p.an, .int .i64 p.ae, .string p.ax, .int .i64 p.ak, .int .i64 p.ab, .bool p.af, .int .i64 p.ad, .string p.aw, .int .i64 p.rs, .int .i64 p.rq, .int .i64 p.rh, .int .i64 p.rn, .int .i64 p.rw, .int .i64 p.re, .slice p.ra p.rl.length p.rc, .bool p.rb, .int .i64 p.ss, .int .i64 p.sq]] w fun e w' => AnyE (.grant p.gw p.gl p.ge) w e w' := by
  have HFI := Lib.hid hf
  clear hf
  have HB := Lib.hid ((Below.refl w.heap.size w).alloc (Nat.le_refl _) (.cells #[.int .i64 2, .int .i64 p.hw, .int .i64 p.hl, .int .i64 p.gw, .int .i64 p.gl, .int .i64 p.ge, .int .i64 p.ai, .int .i64 p.aq, .int .i64 p.ah, .int .i64 p.an, .int .i64 p.ae, .string p.ax, .int .i64 p.ak, .int .i64 p.ab, .bool p.af, .int .i64 p.ad, .string p.aw, .int .i64 p.rs, .int .i64 p.rq, .int .i64 p.rh, .int .i64 p.rn, .int .i64 p.rw, .int .i64 p.re, .slice p.ra p.rl.length p.rc, .bool p.rb, .int .i64 p.ss, .int .i64 p.sq] 46))
  have HX := Lib.hid (show Blk (w.alloc (.cells #[.int .i64 2, .int .i64 p.hw, .int .i64 p.hl, .int .i64 p.gw, .int .i64 p.gl, .int .i64 p.ge, .int .i64 p.ai, .int .i64 p.aq, .int .i64 p.ah, .int .i64 p.an, .int .i64 p.ae, .string p.ax, .int .i64 p.ak, .int .i64 p.ab, .bool p.af, .int .i64 p.ad, .string p.aw, .int .i64 p.rs, .int .i64 p.rq, .int .i64 p.rh, .int .i64 p.rn, .int .i64 p.rw, .int .i64 p.re, .slice p.ra p.rl.length p.rc, .bool p.rb, .int .i64 p.ss, .int .i64 p.sq] 46)) w.heap.size 46 [.int .i64 2, .int .i64 p.hw, .int .i64 p.hl, .int .i64 p.gw, .int .i64 p.gl, .int .i64 p.ge, .int .i64 p.ai, .int .i64 p.aq, .int .i64 p.ah, .int .i64 p.an, .int .i64 p.ae, .string p.ax, .int .i64 p.ak, .int .i64 p.ab, .bool p.af, .int .i64 p.ad, .string p.aw, .int .i64 p.rs, .int .i64 p.rq, .int .i64 p.rh, .int .i64 p.rn, .int .i64 p.rw, .int .i64 p.re, .slice p.ra p.rl.length p.rc, .bool p.rb, .int .i64 p.ss, .int .i64 p.sq] from heap_alloc_new w _)
  obtain ⟨W0, hW0⟩ : ∃ W0, w.alloc (.cells #[.int .i64 2, .int .i64 p.hw, .int .i64 p.hl, .int .i64 p.gw, .int .i64 p.gl, .int .i64 p.ge, .int .i64 p.ai, .int .i64 p.aq, .int .i64 p.ah, .int .i64 p.an, .int .i64 p.ae, .string p.ax, .int .i64 p.ak, .int .i64 p.ab, .bool p.af, .int .i64 p.ad, .string p.aw, .int .i64 p.rs, .int .i64 p.rq, .int .i64 p.rh, .int .i64 p.rn, .int .i64 p.rw, .int .i64 p.re, .slice p.ra p.rl.length p.rc, .bool p.rb, .int .i64 p.ss, .int .i64 p.sq] 46) = W0 := ⟨_, rfl⟩
  rw [hW0] at HB HX
  have t0 : W0.cell? ⟨w.heap.size, 0, none⟩ = some (.int .i64 2) := HX.out.cell 0
  have t1 : W0.cell? ⟨w.heap.size, 1, none⟩ = some (.int .i64 p.hw) := HX.out.cell 1
  have t2 : W0.cell? ⟨w.heap.size, 2, none⟩ = some (.int .i64 p.hl) := HX.out.cell 2
  have t3 : W0.cell? ⟨w.heap.size, 3, none⟩ = some (.int .i64 p.gw) := HX.out.cell 3
  have t4 : W0.cell? ⟨w.heap.size, 4, none⟩ = some (.int .i64 p.gl) := HX.out.cell 4
  have t5 : W0.cell? ⟨w.heap.size, 5, none⟩ = some (.int .i64 p.ge) := HX.out.cell 5
  have t6 : W0.cell? ⟨w.heap.size, 6, none⟩ = some (.int .i64 p.ai) := HX.out.cell 6
  have t7 : W0.cell? ⟨w.heap.size, 7, none⟩ = some (.int .i64 p.aq) := HX.out.cell 7
  have t8 : W0.cell? ⟨w.heap.size, 8, none⟩ = some (.int .i64 p.ah) := HX.out.cell 8
  have t9 : W0.cell? ⟨w.heap.size, 9, none⟩ = some (.int .i64 p.an) := HX.out.cell 9
  have t10 : W0.cell? ⟨w.heap.size, 10, none⟩ = some (.int .i64 p.ae) := HX.out.cell 10
  have t11 : W0.cell? ⟨w.heap.size, 11, none⟩ = some (.string p.ax) := HX.out.cell 11
  have t12 : W0.cell? ⟨w.heap.size, 12, none⟩ = some (.int .i64 p.ak) := HX.out.cell 12
  have t13 : W0.cell? ⟨w.heap.size, 13, none⟩ = some (.int .i64 p.ab) := HX.out.cell 13
  have t14 : W0.cell? ⟨w.heap.size, 14, none⟩ = some (.bool p.af) := HX.out.cell 14
  have t15 : W0.cell? ⟨w.heap.size, 15, none⟩ = some (.int .i64 p.ad) := HX.out.cell 15
  have t16 : W0.cell? ⟨w.heap.size, 16, none⟩ = some (.string p.aw) := HX.out.cell 16
  have t17 : W0.cell? ⟨w.heap.size, 17, none⟩ = some (.int .i64 p.rs) := HX.out.cell 17
  have t18 : W0.cell? ⟨w.heap.size, 18, none⟩ = some (.int .i64 p.rq) := HX.out.cell 18
  have t19 : W0.cell? ⟨w.heap.size, 19, none⟩ = some (.int .i64 p.rh) := HX.out.cell 19
  have t20 : W0.cell? ⟨w.heap.size, 20, none⟩ = some (.int .i64 p.rn) := HX.out.cell 20
  have t21 : W0.cell? ⟨w.heap.size, 21, none⟩ = some (.int .i64 p.rw) := HX.out.cell 21
  have t22 : W0.cell? ⟨w.heap.size, 22, none⟩ = some (.int .i64 p.re) := HX.out.cell 22
  have t23 : W0.cell? ⟨w.heap.size, 23, none⟩ = some (.slice p.ra p.rl.length p.rc) := HX.out.cell 23
  have t24 : W0.cell? ⟨w.heap.size, 24, none⟩ = some (.bool p.rb) := HX.out.cell 24
  have t25 : W0.cell? ⟨w.heap.size, 25, none⟩ = some (.int .i64 p.ss) := HX.out.cell 25
  have t26 : W0.cell? ⟨w.heap.size, 26, none⟩ = some (.int .i64 p.sq) := HX.out.cell 26
  unfold AnyE
  go_enter Try.func28, Try.ntmps28
  go_wp2_with (rw [hW0])
  go_ret
  exact ⟨_, rfl, rfl, HB.out⟩
set_option maxRecDepth 100000 in
set_option maxHeartbeats 8000000 in
theorem any_ask (p : P5) (w : World) (hf : p.fit w) : Calls Try.prog 28 #[.agg #[.int .i64 3, .int .i64 p.hw, .int .i64 p.hl, .int .i64 p.gw, .int .i64 p.gl, .int .i64 p.ge, .int .i64 p.ai, .int .i64 p.aq, .int .i64 p.ah, .int .i64 p.an, .int .i64 p.ae, .string p.ax, .int .i64 p.ak, .int .i64 p.ab, .bool p.af, .int .i64 p.ad, .string p.aw, .int .i64 p.rs, .int .i64 p.rq, .int .i64 p.rh, .int .i64 p.rn, .int .i64 p.rw, .int .i64 p.re, .slice p.ra p.rl.length p.rc, .bool p.rb, .int .i64 p.ss, .int .i64 p.sq]] w fun e w' => AnyE (.ask p.ai p.aq p.ah p.an p.ae p.ax p.ak p.ab p.af p.ad p.aw) w e w' := by
  have HFI := Lib.hid hf
  clear hf
  have HB := Lib.hid ((Below.refl w.heap.size w).alloc (Nat.le_refl _) (.cells #[.int .i64 3, .int .i64 p.hw, .int .i64 p.hl, .int .i64 p.gw, .int .i64 p.gl, .int .i64 p.ge, .int .i64 p.ai, .int .i64 p.aq, .int .i64 p.ah, .int .i64 p.an, .int .i64 p.ae, .string p.ax, .int .i64 p.ak, .int .i64 p.ab, .bool p.af, .int .i64 p.ad, .string p.aw, .int .i64 p.rs, .int .i64 p.rq, .int .i64 p.rh, .int .i64 p.rn, .int .i64 p.rw, .int .i64 p.re, .slice p.ra p.rl.length p.rc, .bool p.rb, .int .i64 p.ss, .int .i64 p.sq] 46))
  have HX := Lib.hid (show Blk (w.alloc (.cells #[.int .i64 3, .int .i64 p.hw, .int .i64 p.hl, .int .i64 p.gw, .int .i64 p.gl, .int .i64 p.ge, .int .i64 p.ai, .int .i64 p.aq, .int .i64 p.ah, .int .i64 p.an, .int .i64 p.ae, .string p.ax, .int .i64 p.ak, .int .i64 p.ab, .bool p.af, .int .i64 p.ad, .string p.aw, .int .i64 p.rs, .int .i64 p.rq, .int .i64 p.rh, .int .i64 p.rn, .int .i64 p.rw, .int .i64 p.re, .slice p.ra p.rl.length p.rc, .bool p.rb, .int .i64 p.ss, .int .i64 p.sq] 46)) w.heap.size 46 [.int .i64 3, .int .i64 p.hw, .int .i64 p.hl, .int .i64 p.gw, .int .i64 p.gl, .int .i64 p.ge, .int .i64 p.ai, .int .i64 p.aq, .int .i64 p.ah, .int .i64 p.an, .int .i64 p.ae, .string p.ax, .int .i64 p.ak, .int .i64 p.ab, .bool p.af, .int .i64 p.ad, .string p.aw, .int .i64 p.rs, .int .i64 p.rq, .int .i64 p.rh, .int .i64 p.rn, .int .i64 p.rw, .int .i64 p.re, .slice p.ra p.rl.length p.rc, .bool p.rb, .int .i64 p.ss, .int .i64 p.sq] from heap_alloc_new w _)
  obtain ⟨W0, hW0⟩ : ∃ W0, w.alloc (.cells #[.int .i64 3, .int .i64 p.hw, .int .i64 p.hl, .int .i64 p.gw, .int .i64 p.gl, .int .i64 p.ge, .int .i64 p.ai, .int .i64 p.aq, .int .i64 p.ah, .int .i64 p.an, .int .i64 p.ae, .string p.ax, .int .i64 p.ak, .int .i64 p.ab, .bool p.af, .int .i64 p.ad, .string p.aw, .int .i64 p.rs, .int .i64 p.rq, .int .i64 p.rh, .int .i64 p.rn, .int .i64 p.rw, .int .i64 p.re, .slice p.ra p.rl.length p.rc, .bool p.rb, .int .i64 p.ss, .int .i64 p.sq] 46) = W0 := ⟨_, rfl⟩
  rw [hW0] at HB HX
  have t0 : W0.cell? ⟨w.heap.size, 0, none⟩ = some (.int .i64 3) := HX.out.cell 0
  have t1 : W0.cell? ⟨w.heap.size, 1, none⟩ = some (.int .i64 p.hw) := HX.out.cell 1
  have t2 : W0.cell? ⟨w.heap.size, 2, none⟩ = some (.int .i64 p.hl) := HX.out.cell 2
  have t3 : W0.cell? ⟨w.heap.size, 3, none⟩ = some (.int .i64 p.gw) := HX.out.cell 3
  have t4 : W0.cell? ⟨w.heap.size, 4, none⟩ = some (.int .i64 p.gl) := HX.out.cell 4
  have t5 : W0.cell? ⟨w.heap.size, 5, none⟩ = some (.int .i64 p.ge) := HX.out.cell 5
  have t6 : W0.cell? ⟨w.heap.size, 6, none⟩ = some (.int .i64 p.ai) := HX.out.cell 6
  have t7 : W0.cell? ⟨w.heap.size, 7, none⟩ = some (.int .i64 p.aq) := HX.out.cell 7
  have t8 : W0.cell? ⟨w.heap.size, 8, none⟩ = some (.int .i64 p.ah) := HX.out.cell 8
  have t9 : W0.cell? ⟨w.heap.size, 9, none⟩ = some (.int .i64 p.an) := HX.out.cell 9
  have t10 : W0.cell? ⟨w.heap.size, 10, none⟩ = some (.int .i64 p.ae) := HX.out.cell 10
  have t11 : W0.cell? ⟨w.heap.size, 11, none⟩ = some (.string p.ax) := HX.out.cell 11
  have t12 : W0.cell? ⟨w.heap.size, 12, none⟩ = some (.int .i64 p.ak) := HX.out.cell 12
  have t13 : W0.cell? ⟨w.heap.size, 13, none⟩ = some (.int .i64 p.ab) := HX.out.cell 13
  have t14 : W0.cell? ⟨w.heap.size, 14, none⟩ = some (.bool p.af) := HX.out.cell 14
  have t15 : W0.cell? ⟨w.heap.size, 15, none⟩ = some (.int .i64 p.ad) := HX.out.cell 15
  have t16 : W0.cell? ⟨w.heap.size, 16, none⟩ = some (.string p.aw) := HX.out.cell 16
  have t17 : W0.cell? ⟨w.heap.size, 17, none⟩ = some (.int .i64 p.rs) := HX.out.cell 17
  have t18 : W0.cell? ⟨w.heap.size, 18, none⟩ = some (.int .i64 p.rq) := HX.out.cell 18
  have t19 : W0.cell? ⟨w.heap.size, 19, none⟩ = some (.int .i64 p.rh) := HX.out.cell 19
  have t20 : W0.cell? ⟨w.heap.size, 20, none⟩ = some (.int .i64 p.rn) := HX.out.cell 20
  have t21 : W0.cell? ⟨w.heap.size, 21, none⟩ = some (.int .i64 p.rw) := HX.out.cell 21
  have t22 : W0.cell? ⟨w.heap.size, 22, none⟩ = some (.int .i64 p.re) := HX.out.cell 22
  have t23 : W0.cell? ⟨w.heap.size, 23, none⟩ = some (.slice p.ra p.rl.length p.rc) := HX.out.cell 23
  have t24 : W0.cell? ⟨w.heap.size, 24, none⟩ = some (.bool p.rb) := HX.out.cell 24
  have t25 : W0.cell? ⟨w.heap.size, 25, none⟩ = some (.int .i64 p.ss) := HX.out.cell 25
  have t26 : W0.cell? ⟨w.heap.size, 26, none⟩ = some (.int .i64 p.sq) := HX.out.cell 26
  unfold AnyE
  go_enter Try.func28, Try.ntmps28
  go_wp2_with (rw [hW0])
  go_ret
  exact ⟨_, rfl, rfl, HB.out⟩
set_option maxRecDepth 100000 in
set_option maxHeartbeats 8000000 in
theorem any_reply (p : P5) (w : World) (hf : p.fit w) : Calls Try.prog 28 #[.agg #[.int .i64 4, .int .i64 p.hw, .int .i64 p.hl, .int .i64 p.gw, .int .i64 p.gl, .int .i64 p.ge, .int .i64 p.ai, .int .i64 p.aq, .int .i64 p.ah, .int .i64 p.an, .int .i64 p.ae, .string p.ax, .int .i64 p.ak, .int .i64 p.ab, .bool p.af, .int .i64 p.ad, .string p.aw, .int .i64 p.rs, .int .i64 p.rq, .int .i64 p.rh, .int .i64 p.rn, .int .i64 p.rw, .int .i64 p.re, .slice p.ra p.rl.length p.rc, .bool p.rb, .int .i64 p.ss, .int .i64 p.sq]] w fun e w' => AnyE (.reply p.rs p.rq p.rh p.rn p.rw p.re p.rl p.rb) w e w' := by
  have HFI := Lib.hid hf
  clear hf
  have HB := Lib.hid ((Below.refl w.heap.size w).alloc (Nat.le_refl _) (.cells #[.int .i64 4, .int .i64 p.hw, .int .i64 p.hl, .int .i64 p.gw, .int .i64 p.gl, .int .i64 p.ge, .int .i64 p.ai, .int .i64 p.aq, .int .i64 p.ah, .int .i64 p.an, .int .i64 p.ae, .string p.ax, .int .i64 p.ak, .int .i64 p.ab, .bool p.af, .int .i64 p.ad, .string p.aw, .int .i64 p.rs, .int .i64 p.rq, .int .i64 p.rh, .int .i64 p.rn, .int .i64 p.rw, .int .i64 p.re, .slice p.ra p.rl.length p.rc, .bool p.rb, .int .i64 p.ss, .int .i64 p.sq] 46))
  have HX := Lib.hid (show Blk (w.alloc (.cells #[.int .i64 4, .int .i64 p.hw, .int .i64 p.hl, .int .i64 p.gw, .int .i64 p.gl, .int .i64 p.ge, .int .i64 p.ai, .int .i64 p.aq, .int .i64 p.ah, .int .i64 p.an, .int .i64 p.ae, .string p.ax, .int .i64 p.ak, .int .i64 p.ab, .bool p.af, .int .i64 p.ad, .string p.aw, .int .i64 p.rs, .int .i64 p.rq, .int .i64 p.rh, .int .i64 p.rn, .int .i64 p.rw, .int .i64 p.re, .slice p.ra p.rl.length p.rc, .bool p.rb, .int .i64 p.ss, .int .i64 p.sq] 46)) w.heap.size 46 [.int .i64 4, .int .i64 p.hw, .int .i64 p.hl, .int .i64 p.gw, .int .i64 p.gl, .int .i64 p.ge, .int .i64 p.ai, .int .i64 p.aq, .int .i64 p.ah, .int .i64 p.an, .int .i64 p.ae, .string p.ax, .int .i64 p.ak, .int .i64 p.ab, .bool p.af, .int .i64 p.ad, .string p.aw, .int .i64 p.rs, .int .i64 p.rq, .int .i64 p.rh, .int .i64 p.rn, .int .i64 p.rw, .int .i64 p.re, .slice p.ra p.rl.length p.rc, .bool p.rb, .int .i64 p.ss, .int .i64 p.sq] from heap_alloc_new w _)
  obtain ⟨W0, hW0⟩ : ∃ W0, w.alloc (.cells #[.int .i64 4, .int .i64 p.hw, .int .i64 p.hl, .int .i64 p.gw, .int .i64 p.gl, .int .i64 p.ge, .int .i64 p.ai, .int .i64 p.aq, .int .i64 p.ah, .int .i64 p.an, .int .i64 p.ae, .string p.ax, .int .i64 p.ak, .int .i64 p.ab, .bool p.af, .int .i64 p.ad, .string p.aw, .int .i64 p.rs, .int .i64 p.rq, .int .i64 p.rh, .int .i64 p.rn, .int .i64 p.rw, .int .i64 p.re, .slice p.ra p.rl.length p.rc, .bool p.rb, .int .i64 p.ss, .int .i64 p.sq] 46) = W0 := ⟨_, rfl⟩
  rw [hW0] at HB HX
  have t0 : W0.cell? ⟨w.heap.size, 0, none⟩ = some (.int .i64 4) := HX.out.cell 0
  have t1 : W0.cell? ⟨w.heap.size, 1, none⟩ = some (.int .i64 p.hw) := HX.out.cell 1
  have t2 : W0.cell? ⟨w.heap.size, 2, none⟩ = some (.int .i64 p.hl) := HX.out.cell 2
  have t3 : W0.cell? ⟨w.heap.size, 3, none⟩ = some (.int .i64 p.gw) := HX.out.cell 3
  have t4 : W0.cell? ⟨w.heap.size, 4, none⟩ = some (.int .i64 p.gl) := HX.out.cell 4
  have t5 : W0.cell? ⟨w.heap.size, 5, none⟩ = some (.int .i64 p.ge) := HX.out.cell 5
  have t6 : W0.cell? ⟨w.heap.size, 6, none⟩ = some (.int .i64 p.ai) := HX.out.cell 6
  have t7 : W0.cell? ⟨w.heap.size, 7, none⟩ = some (.int .i64 p.aq) := HX.out.cell 7
  have t8 : W0.cell? ⟨w.heap.size, 8, none⟩ = some (.int .i64 p.ah) := HX.out.cell 8
  have t9 : W0.cell? ⟨w.heap.size, 9, none⟩ = some (.int .i64 p.an) := HX.out.cell 9
  have t10 : W0.cell? ⟨w.heap.size, 10, none⟩ = some (.int .i64 p.ae) := HX.out.cell 10
  have t11 : W0.cell? ⟨w.heap.size, 11, none⟩ = some (.string p.ax) := HX.out.cell 11
  have t12 : W0.cell? ⟨w.heap.size, 12, none⟩ = some (.int .i64 p.ak) := HX.out.cell 12
  have t13 : W0.cell? ⟨w.heap.size, 13, none⟩ = some (.int .i64 p.ab) := HX.out.cell 13
  have t14 : W0.cell? ⟨w.heap.size, 14, none⟩ = some (.bool p.af) := HX.out.cell 14
  have t15 : W0.cell? ⟨w.heap.size, 15, none⟩ = some (.int .i64 p.ad) := HX.out.cell 15
  have t16 : W0.cell? ⟨w.heap.size, 16, none⟩ = some (.string p.aw) := HX.out.cell 16
  have t17 : W0.cell? ⟨w.heap.size, 17, none⟩ = some (.int .i64 p.rs) := HX.out.cell 17
  have t18 : W0.cell? ⟨w.heap.size, 18, none⟩ = some (.int .i64 p.rq) := HX.out.cell 18
  have t19 : W0.cell? ⟨w.heap.size, 19, none⟩ = some (.int .i64 p.rh) := HX.out.cell 19
  have t20 : W0.cell? ⟨w.heap.size, 20, none⟩ = some (.int .i64 p.rn) := HX.out.cell 20
  have t21 : W0.cell? ⟨w.heap.size, 21, none⟩ = some (.int .i64 p.rw) := HX.out.cell 21
  have t22 : W0.cell? ⟨w.heap.size, 22, none⟩ = some (.int .i64 p.re) := HX.out.cell 22
  have t23 : W0.cell? ⟨w.heap.size, 23, none⟩ = some (.slice p.ra p.rl.length p.rc) := HX.out.cell 23
  have t24 : W0.cell? ⟨w.heap.size, 24, none⟩ = some (.bool p.rb) := HX.out.cell 24
  have t25 : W0.cell? ⟨w.heap.size, 25, none⟩ = some (.int .i64 p.ss) := HX.out.cell 25
  have t26 : W0.cell? ⟨w.heap.size, 26, none⟩ = some (.int .i64 p.sq) := HX.out.cell 26
  unfold AnyE
  go_enter Try.func28, Try.ntmps28
  go_wp2_with (rw [hW0])
  go_ret
  exact ⟨_, rfl, ⟨p.ra, p.rc, rfl, HFI.out.1.below HB.out rfl⟩, HB.out⟩
set_option maxRecDepth 100000 in
set_option maxHeartbeats 8000000 in
theorem any_stop (p : P5) (w : World) (hf : p.fit w) : Calls Try.prog 28 #[.agg #[.int .i64 5, .int .i64 p.hw, .int .i64 p.hl, .int .i64 p.gw, .int .i64 p.gl, .int .i64 p.ge, .int .i64 p.ai, .int .i64 p.aq, .int .i64 p.ah, .int .i64 p.an, .int .i64 p.ae, .string p.ax, .int .i64 p.ak, .int .i64 p.ab, .bool p.af, .int .i64 p.ad, .string p.aw, .int .i64 p.rs, .int .i64 p.rq, .int .i64 p.rh, .int .i64 p.rn, .int .i64 p.rw, .int .i64 p.re, .slice p.ra p.rl.length p.rc, .bool p.rb, .int .i64 p.ss, .int .i64 p.sq]] w fun e w' => AnyE (.stop p.ss p.sq) w e w' := by
  have HFI := Lib.hid hf
  clear hf
  have HB := Lib.hid ((Below.refl w.heap.size w).alloc (Nat.le_refl _) (.cells #[.int .i64 5, .int .i64 p.hw, .int .i64 p.hl, .int .i64 p.gw, .int .i64 p.gl, .int .i64 p.ge, .int .i64 p.ai, .int .i64 p.aq, .int .i64 p.ah, .int .i64 p.an, .int .i64 p.ae, .string p.ax, .int .i64 p.ak, .int .i64 p.ab, .bool p.af, .int .i64 p.ad, .string p.aw, .int .i64 p.rs, .int .i64 p.rq, .int .i64 p.rh, .int .i64 p.rn, .int .i64 p.rw, .int .i64 p.re, .slice p.ra p.rl.length p.rc, .bool p.rb, .int .i64 p.ss, .int .i64 p.sq] 46))
  have HX := Lib.hid (show Blk (w.alloc (.cells #[.int .i64 5, .int .i64 p.hw, .int .i64 p.hl, .int .i64 p.gw, .int .i64 p.gl, .int .i64 p.ge, .int .i64 p.ai, .int .i64 p.aq, .int .i64 p.ah, .int .i64 p.an, .int .i64 p.ae, .string p.ax, .int .i64 p.ak, .int .i64 p.ab, .bool p.af, .int .i64 p.ad, .string p.aw, .int .i64 p.rs, .int .i64 p.rq, .int .i64 p.rh, .int .i64 p.rn, .int .i64 p.rw, .int .i64 p.re, .slice p.ra p.rl.length p.rc, .bool p.rb, .int .i64 p.ss, .int .i64 p.sq] 46)) w.heap.size 46 [.int .i64 5, .int .i64 p.hw, .int .i64 p.hl, .int .i64 p.gw, .int .i64 p.gl, .int .i64 p.ge, .int .i64 p.ai, .int .i64 p.aq, .int .i64 p.ah, .int .i64 p.an, .int .i64 p.ae, .string p.ax, .int .i64 p.ak, .int .i64 p.ab, .bool p.af, .int .i64 p.ad, .string p.aw, .int .i64 p.rs, .int .i64 p.rq, .int .i64 p.rh, .int .i64 p.rn, .int .i64 p.rw, .int .i64 p.re, .slice p.ra p.rl.length p.rc, .bool p.rb, .int .i64 p.ss, .int .i64 p.sq] from heap_alloc_new w _)
  obtain ⟨W0, hW0⟩ : ∃ W0, w.alloc (.cells #[.int .i64 5, .int .i64 p.hw, .int .i64 p.hl, .int .i64 p.gw, .int .i64 p.gl, .int .i64 p.ge, .int .i64 p.ai, .int .i64 p.aq, .int .i64 p.ah, .int .i64 p.an, .int .i64 p.ae, .string p.ax, .int .i64 p.ak, .int .i64 p.ab, .bool p.af, .int .i64 p.ad, .string p.aw, .int .i64 p.rs, .int .i64 p.rq, .int .i64 p.rh, .int .i64 p.rn, .int .i64 p.rw, .int .i64 p.re, .slice p.ra p.rl.length p.rc, .bool p.rb, .int .i64 p.ss, .int .i64 p.sq] 46) = W0 := ⟨_, rfl⟩
  rw [hW0] at HB HX
  have t0 : W0.cell? ⟨w.heap.size, 0, none⟩ = some (.int .i64 5) := HX.out.cell 0
  have t1 : W0.cell? ⟨w.heap.size, 1, none⟩ = some (.int .i64 p.hw) := HX.out.cell 1
  have t2 : W0.cell? ⟨w.heap.size, 2, none⟩ = some (.int .i64 p.hl) := HX.out.cell 2
  have t3 : W0.cell? ⟨w.heap.size, 3, none⟩ = some (.int .i64 p.gw) := HX.out.cell 3
  have t4 : W0.cell? ⟨w.heap.size, 4, none⟩ = some (.int .i64 p.gl) := HX.out.cell 4
  have t5 : W0.cell? ⟨w.heap.size, 5, none⟩ = some (.int .i64 p.ge) := HX.out.cell 5
  have t6 : W0.cell? ⟨w.heap.size, 6, none⟩ = some (.int .i64 p.ai) := HX.out.cell 6
  have t7 : W0.cell? ⟨w.heap.size, 7, none⟩ = some (.int .i64 p.aq) := HX.out.cell 7
  have t8 : W0.cell? ⟨w.heap.size, 8, none⟩ = some (.int .i64 p.ah) := HX.out.cell 8
  have t9 : W0.cell? ⟨w.heap.size, 9, none⟩ = some (.int .i64 p.an) := HX.out.cell 9
  have t10 : W0.cell? ⟨w.heap.size, 10, none⟩ = some (.int .i64 p.ae) := HX.out.cell 10
  have t11 : W0.cell? ⟨w.heap.size, 11, none⟩ = some (.string p.ax) := HX.out.cell 11
  have t12 : W0.cell? ⟨w.heap.size, 12, none⟩ = some (.int .i64 p.ak) := HX.out.cell 12
  have t13 : W0.cell? ⟨w.heap.size, 13, none⟩ = some (.int .i64 p.ab) := HX.out.cell 13
  have t14 : W0.cell? ⟨w.heap.size, 14, none⟩ = some (.bool p.af) := HX.out.cell 14
  have t15 : W0.cell? ⟨w.heap.size, 15, none⟩ = some (.int .i64 p.ad) := HX.out.cell 15
  have t16 : W0.cell? ⟨w.heap.size, 16, none⟩ = some (.string p.aw) := HX.out.cell 16
  have t17 : W0.cell? ⟨w.heap.size, 17, none⟩ = some (.int .i64 p.rs) := HX.out.cell 17
  have t18 : W0.cell? ⟨w.heap.size, 18, none⟩ = some (.int .i64 p.rq) := HX.out.cell 18
  have t19 : W0.cell? ⟨w.heap.size, 19, none⟩ = some (.int .i64 p.rh) := HX.out.cell 19
  have t20 : W0.cell? ⟨w.heap.size, 20, none⟩ = some (.int .i64 p.rn) := HX.out.cell 20
  have t21 : W0.cell? ⟨w.heap.size, 21, none⟩ = some (.int .i64 p.rw) := HX.out.cell 21
  have t22 : W0.cell? ⟨w.heap.size, 22, none⟩ = some (.int .i64 p.re) := HX.out.cell 22
  have t23 : W0.cell? ⟨w.heap.size, 23, none⟩ = some (.slice p.ra p.rl.length p.rc) := HX.out.cell 23
  have t24 : W0.cell? ⟨w.heap.size, 24, none⟩ = some (.bool p.rb) := HX.out.cell 24
  have t25 : W0.cell? ⟨w.heap.size, 25, none⟩ = some (.int .i64 p.ss) := HX.out.cell 25
  have t26 : W0.cell? ⟨w.heap.size, 26, none⟩ = some (.int .i64 p.sq) := HX.out.cell 26
  unfold AnyE
  go_enter Try.func28, Try.ntmps28
  go_wp2_with (rw [hW0])
  go_ret
  exact ⟨_, rfl, rfl, HB.out⟩
set_option maxRecDepth 100000 in
set_option maxHeartbeats 8000000 in
theorem any_none (p : P5) (k : Int) (h1 : k ≠ 1) (h2 : k ≠ 2) (h3 : k ≠ 3) (h4 : k ≠ 4) (h5 : k ≠ 5) (w : World) (hf : p.fit w) : Calls Try.prog 28 #[.agg #[.int .i64 k, .int .i64 p.hw, .int .i64 p.hl, .int .i64 p.gw, .int .i64 p.gl, .int .i64 p.ge, .int .i64 p.ai, .int .i64 p.aq, .int .i64 p.ah, .int .i64 p.an, .int .i64 p.ae, .string p.ax, .int .i64 p.ak, .int .i64 p.ab, .bool p.af, .int .i64 p.ad, .string p.aw, .int .i64 p.rs, .int .i64 p.rq, .int .i64 p.rh, .int .i64 p.rn, .int .i64 p.rw, .int .i64 p.re, .slice p.ra p.rl.length p.rc, .bool p.rb, .int .i64 p.ss, .int .i64 p.sq]] w fun e w' => AnyE (.nil) w e w' := by
  have HFI := Lib.hid hf
  clear hf
  have b1 : (k == 1) = false := by simpa using h1
  have b2 : (k == 2) = false := by simpa using h2
  have b3 : (k == 3) = false := by simpa using h3
  have b4 : (k == 4) = false := by simpa using h4
  have b5 : (k == 5) = false := by simpa using h5
  clear h1 h2 h3 h4 h5
  have HB := Lib.hid ((Below.refl w.heap.size w).alloc (Nat.le_refl _) (.cells #[.int .i64 k, .int .i64 p.hw, .int .i64 p.hl, .int .i64 p.gw, .int .i64 p.gl, .int .i64 p.ge, .int .i64 p.ai, .int .i64 p.aq, .int .i64 p.ah, .int .i64 p.an, .int .i64 p.ae, .string p.ax, .int .i64 p.ak, .int .i64 p.ab, .bool p.af, .int .i64 p.ad, .string p.aw, .int .i64 p.rs, .int .i64 p.rq, .int .i64 p.rh, .int .i64 p.rn, .int .i64 p.rw, .int .i64 p.re, .slice p.ra p.rl.length p.rc, .bool p.rb, .int .i64 p.ss, .int .i64 p.sq] 46))
  have HX := Lib.hid (show Blk (w.alloc (.cells #[.int .i64 k, .int .i64 p.hw, .int .i64 p.hl, .int .i64 p.gw, .int .i64 p.gl, .int .i64 p.ge, .int .i64 p.ai, .int .i64 p.aq, .int .i64 p.ah, .int .i64 p.an, .int .i64 p.ae, .string p.ax, .int .i64 p.ak, .int .i64 p.ab, .bool p.af, .int .i64 p.ad, .string p.aw, .int .i64 p.rs, .int .i64 p.rq, .int .i64 p.rh, .int .i64 p.rn, .int .i64 p.rw, .int .i64 p.re, .slice p.ra p.rl.length p.rc, .bool p.rb, .int .i64 p.ss, .int .i64 p.sq] 46)) w.heap.size 46 [.int .i64 k, .int .i64 p.hw, .int .i64 p.hl, .int .i64 p.gw, .int .i64 p.gl, .int .i64 p.ge, .int .i64 p.ai, .int .i64 p.aq, .int .i64 p.ah, .int .i64 p.an, .int .i64 p.ae, .string p.ax, .int .i64 p.ak, .int .i64 p.ab, .bool p.af, .int .i64 p.ad, .string p.aw, .int .i64 p.rs, .int .i64 p.rq, .int .i64 p.rh, .int .i64 p.rn, .int .i64 p.rw, .int .i64 p.re, .slice p.ra p.rl.length p.rc, .bool p.rb, .int .i64 p.ss, .int .i64 p.sq] from heap_alloc_new w _)
  obtain ⟨W0, hW0⟩ : ∃ W0, w.alloc (.cells #[.int .i64 k, .int .i64 p.hw, .int .i64 p.hl, .int .i64 p.gw, .int .i64 p.gl, .int .i64 p.ge, .int .i64 p.ai, .int .i64 p.aq, .int .i64 p.ah, .int .i64 p.an, .int .i64 p.ae, .string p.ax, .int .i64 p.ak, .int .i64 p.ab, .bool p.af, .int .i64 p.ad, .string p.aw, .int .i64 p.rs, .int .i64 p.rq, .int .i64 p.rh, .int .i64 p.rn, .int .i64 p.rw, .int .i64 p.re, .slice p.ra p.rl.length p.rc, .bool p.rb, .int .i64 p.ss, .int .i64 p.sq] 46) = W0 := ⟨_, rfl⟩
  rw [hW0] at HB HX
  have t0 : W0.cell? ⟨w.heap.size, 0, none⟩ = some (.int .i64 k) := HX.out.cell 0
  have t1 : W0.cell? ⟨w.heap.size, 1, none⟩ = some (.int .i64 p.hw) := HX.out.cell 1
  have t2 : W0.cell? ⟨w.heap.size, 2, none⟩ = some (.int .i64 p.hl) := HX.out.cell 2
  have t3 : W0.cell? ⟨w.heap.size, 3, none⟩ = some (.int .i64 p.gw) := HX.out.cell 3
  have t4 : W0.cell? ⟨w.heap.size, 4, none⟩ = some (.int .i64 p.gl) := HX.out.cell 4
  have t5 : W0.cell? ⟨w.heap.size, 5, none⟩ = some (.int .i64 p.ge) := HX.out.cell 5
  have t6 : W0.cell? ⟨w.heap.size, 6, none⟩ = some (.int .i64 p.ai) := HX.out.cell 6
  have t7 : W0.cell? ⟨w.heap.size, 7, none⟩ = some (.int .i64 p.aq) := HX.out.cell 7
  have t8 : W0.cell? ⟨w.heap.size, 8, none⟩ = some (.int .i64 p.ah) := HX.out.cell 8
  have t9 : W0.cell? ⟨w.heap.size, 9, none⟩ = some (.int .i64 p.an) := HX.out.cell 9
  have t10 : W0.cell? ⟨w.heap.size, 10, none⟩ = some (.int .i64 p.ae) := HX.out.cell 10
  have t11 : W0.cell? ⟨w.heap.size, 11, none⟩ = some (.string p.ax) := HX.out.cell 11
  have t12 : W0.cell? ⟨w.heap.size, 12, none⟩ = some (.int .i64 p.ak) := HX.out.cell 12
  have t13 : W0.cell? ⟨w.heap.size, 13, none⟩ = some (.int .i64 p.ab) := HX.out.cell 13
  have t14 : W0.cell? ⟨w.heap.size, 14, none⟩ = some (.bool p.af) := HX.out.cell 14
  have t15 : W0.cell? ⟨w.heap.size, 15, none⟩ = some (.int .i64 p.ad) := HX.out.cell 15
  have t16 : W0.cell? ⟨w.heap.size, 16, none⟩ = some (.string p.aw) := HX.out.cell 16
  have t17 : W0.cell? ⟨w.heap.size, 17, none⟩ = some (.int .i64 p.rs) := HX.out.cell 17
  have t18 : W0.cell? ⟨w.heap.size, 18, none⟩ = some (.int .i64 p.rq) := HX.out.cell 18
  have t19 : W0.cell? ⟨w.heap.size, 19, none⟩ = some (.int .i64 p.rh) := HX.out.cell 19
  have t20 : W0.cell? ⟨w.heap.size, 20, none⟩ = some (.int .i64 p.rn) := HX.out.cell 20
  have t21 : W0.cell? ⟨w.heap.size, 21, none⟩ = some (.int .i64 p.rw) := HX.out.cell 21
  have t22 : W0.cell? ⟨w.heap.size, 22, none⟩ = some (.int .i64 p.re) := HX.out.cell 22
  have t23 : W0.cell? ⟨w.heap.size, 23, none⟩ = some (.slice p.ra p.rl.length p.rc) := HX.out.cell 23
  have t24 : W0.cell? ⟨w.heap.size, 24, none⟩ = some (.bool p.rb) := HX.out.cell 24
  have t25 : W0.cell? ⟨w.heap.size, 25, none⟩ = some (.int .i64 p.ss) := HX.out.cell 25
  have t26 : W0.cell? ⟨w.heap.size, 26, none⟩ = some (.int .i64 p.sq) := HX.out.cell 26
  unfold AnyE
  go_enter Try.func28, Try.ntmps28
  go_wp2_with (rw [hW0])
  go_ret
  exact ⟨_, rfl, rfl, HB.out⟩
set_option maxRecDepth 100000 in
theorem any15_any (p : P5) (k : Int) (w : World) (hf : p.fit w) : Calls Try.prog 28 #[p.msg k] w fun e w' => AnyE (p.kd k) w e w' := by
  unfold P5.kd
  by_cases h1 : k = 1
  · subst h1; rw [if_pos rfl]; exact any_hello p w hf
  rw [if_neg h1]
  by_cases h2 : k = 2
  · subst h2; rw [if_pos rfl]; exact any_grant p w hf
  rw [if_neg h2]
  by_cases h3 : k = 3
  · subst h3; rw [if_pos rfl]; exact any_ask p w hf
  rw [if_neg h3]
  by_cases h4 : k = 4
  · subst h4; rw [if_pos rfl]; exact any_reply p w hf
  rw [if_neg h4]
  by_cases h5 : k = 5
  · subst h5; rw [if_pos rfl]; exact any_stop p w hf
  rw [if_neg h5]
  exact any_none p k h1 h2 h3 h4 h5 w hf
set_option maxRecDepth 100000 in
theorem decL_code (l : List Nat) : ((decL l).2 = 0 ∧ (decL l).1.isMsg = true) ∨ ((decL l).2 ≠ 0 ∧ (decL l).1 = .nil) := by
  unfold decL
  split; · exact .inr ⟨by decide, rfl⟩
  split; · exact .inr ⟨by decide, rfl⟩
  split; · exact .inr ⟨by decide, rfl⟩
  split
  · rename_i h
    unfold decOk at h
    simp only [Bool.and_eq_true, decide_eq_true_eq] at h
    exact .inl ⟨rfl, may_isMsg h.2⟩
  · exact .inr ⟨by decide, rfl⟩
set_option maxRecDepth 100000 in
/-- a row of items lies in no block of bytes -/
theorem RdE_bytes {w w' : World} {g : Nat} {a : Option Addr} {n c : Nat} {l : List KeyL} {cs : List Value} (h : RdE KeyL.cells 2 w a n c l) (hk : Blk w g 5 cs) (hc : ∀ v ∈ cs, ∃ x : Int, v = .int .u8 x) (hf : Frm (fun i => i = g) w w') : RdE KeyL.cells 2 w' a n c l := by
  refine ⟨h.1, h.2.1, h.2.2.1, h.2.2.2.1, fun i x hi => ?_⟩
  obtain ⟨b, o, e, hb, hx⟩ := h.2.2.2.2 i x hi
  have hne : b ≠ g := by
    intro e2
    subst e2
    have q := hx 0 (by decide)
    rw [hk.cell] at q
    have q2 : cs[o + i * 2 + 0]? = some (.int .i64 x.1) := q
    obtain ⟨y, hy⟩ := hc _ (List.mem_of_getElem? q2)
    cases hy
  exact ⟨b, o, e, Nat.lt_of_lt_of_le hb hf.size, fun j hj => by rw [show w'.cell? ⟨b, o + i * 2 + j, none⟩ = w.cell? ⟨b, o + i * 2 + j, none⟩ from hf.cell (p := ⟨b, o + i * 2 + j, none⟩) hb hne]; exact hx j hj⟩
set_option maxRecDepth 100000 in
theorem MV.At.bytes {w w' : World} {g : Nat} {u : Value} {m : MV} {cs : List Value} (h : m.At w u) (hk : Blk w g 5 cs) (hc : ∀ v ∈ cs, ∃ x : Int, v = .int .u8 x) (hf : Frm (fun i => i = g) w w') : m.At w' u := by
  cases m with
  | reply s q h0 sq wk ep l en =>
    obtain ⟨a, c, e, hr⟩ := h
    exact ⟨a, c, e, RdE_bytes hr hk hc hf⟩
  | _ => exact h
set_option maxRecDepth 100000 in
theorem P5.fit.bytes {w w' : World} {g : Nat} {p : P5} {cs : List Value} (h : p.fit w) (hk : Blk w g 5 cs) (hc : ∀ v ∈ cs, ∃ x : Int, v = .int .u8 x) (hf : Frm (fun i => i = g) w w') : p.fit w' :=
  ⟨RdE_bytes h.1 hk hc hf, h.2⟩
set_option maxRecDepth 100000 in
theorem lent_u8 (l : List Nat) : ∀ v ∈ u8s l ++ List.replicate 3 (Value.int .u8 119), ∃ x : Int, v = Value.int .u8 x := by
  intro v hv
  rcases List.mem_append.1 hv with h | h
  · unfold u8s at h
    obtain ⟨q, _, rfl⟩ := List.mem_map.1 h
    exact ⟨_, rfl⟩
  · exact ⟨119, List.eq_of_mem_replicate h⟩
set_option maxRecDepth 100000 in
theorem blk_lent {w : World} {g len : Nat} {l : List Nat} (h : Blk w g 5 (u8s l ++ List.replicate 3 (.int .u8 119))) (hl : l.length = len) (hm : len ≤ 1100) : Rd w (some ⟨g, 0, none⟩) len (len + 3) (u8s l) := by
  subst hl
  refine ⟨u8s_length l, by omega, by unfold maxLen; omega, fun h => (by cases h), fun i hi => ⟨g, 0, rfl, h.lt, ?_⟩⟩
  rw [Nat.zero_add, h.cell, List.getElem?_append_left (by rw [u8s_length]; exact hi)]
set_option maxRecDepth 100000 in
theorem blk_owns {w : World} {g len base : Nat} {l : List Nat} (h : Blk w g 5 (u8s l ++ List.replicate 3 (.int .u8 119))) (hl : l.length = len) (hg : base ≤ g) (hm : len ≤ 1100) : w.ownsRow base 5 1 (.slice (some ⟨g, 0, none⟩) len (len + 3)) len (u8s l) := by
  subst hl
  refine ⟨by rw [u8s_length]; omega, .inr ⟨g, l.length + 3, _, rfl, hg, h, by omega, by unfold maxLen; omega, ?_, ?_⟩⟩
  · simp [u8s_length]
  · simp [u8s_length]
set_option maxRecDepth 100000 in
set_option maxHeartbeats 8000000 in
theorem reads_law (a : Option Addr) (c : Nat) (l : List Nat) (w : World) (hr : Rd w a l.length c (u8s l)) (hb : ∀ x ∈ l, x < 256) :
    Calls Try.prog 4 #[.slice a l.length c] w fun e w' => e = .returned (.bool true) ∧ Below w.heap.size w w' := by
  have HAW := Lib.hid (fun W => awake_any W)
  have HR := Lib.hid hr
  have HBB := Lib.hid hb
  by_cases hs : 1100 < l.length
  · have k1 : (1100 : Int) < (l.length : Int) := by omega
    generalize hL : l.length = len at *
    have HLL := Lib.hid hL
    clear hL hr hb hs
    go_enter Try.func4, Try.ntmps4
    go_wp2_with fail
    refine (HAW.out _).mono ?_
    rintro e V ⟨rfl, hb⟩
    have HBz := Lib.hid hb
    clear hb
    go_wp2_with fail
    go_ret
    exact ⟨rfl, HBz.out⟩
  · have k1 : ¬ (1100 : Int) < (l.length : Int) := by omega
    have hle : l.length ≤ 1100 := by omega
    have HLE := Lib.hid (lendB_any a l.length c l w hr (by omega))
    have HDC := Lib.hid (decL_code l)
    have HCS := Lib.hid (lent_u8 l)
    obtain ⟨len, hL⟩ : ∃ n, l.length = n := ⟨_, rfl⟩
    have HLL := Lib.hid hL
    rw [hL] at HR k1 hle HLE ⊢
    clear hL hr hb hs
    go_enter Try.func4, Try.ntmps4
    go_wp2_with fail
    refine HLE.out.mono ?_
    clear HLE
    rintro e V1 ⟨g, rfl, hg, hk, hb⟩
    have HG := Lib.hid hg
    have HK1 := Lib.hid hk
    have HB1 := Lib.hid hb
    have HR1 := Lib.hid (HR.out.below hb rfl)
    clear hg hk hb HR
    have HI1 := Lib.hid (blk_lent HK1.out HLL.out (by omega))
    have HD1 := Lib.hid (by have q := mdecode_any (some ⟨g, 0, none⟩) (len + 3) l V1 (by rw [HLL.out]; exact HI1.out) HBB.out (by rw [HLL.out]; omega); rw [HLL.out] at q; exact q)
    go_wp2_with fail
    refine HD1.out.mono ?_
    clear HD1
    rintro e V2 ⟨u, rfl, hu, hb⟩
    have HU2 := Lib.hid hu
    have HK2 := Lib.hid (HK1.out.below hb HK1.out.lt)
    have HR2 := Lib.hid (HR1.out.below hb rfl)
    have HB2 := Lib.hid (HB1.out.trans (hb.mono HB1.out.size))
    clear hu hb HK1 HR1 HB1 HI1
    have HD2 := Lib.hid (by have q := rdecode_any a c l V2 (by rw [HLL.out]; exact HR2.out) HBB.out (by rw [HLL.out]; omega); rw [HLL.out] at q; exact q)
    go_wp2_with fail
    refine HD2.out.mono ?_
    clear HD2
    rintro e V3 ⟨p, k, rfl, hkd, hfit, hb⟩
    rw [rdecL_eq l HBB.out] at hkd ⊢
    unfold P5.msg
    have HKD := Lib.hid hkd
    have hfit3 := hfit
    have HU3 := Lib.hid (HU2.out.below hb)
    have HK3 := Lib.hid (HK2.out.below hb HK2.out.lt)
    have HB3 := Lib.hid (HB2.out.trans (hb.mono HB2.out.size))
    clear hkd hfit hb HU2 HK2 HR2 HB2
    have hy1 : Blk (V3.alloc (.cells #[.int .i64 0, .int .i64 0, .int .i64 0, .int .i64 0, .int .i64 0, .int .i64 0, .int .i64 0, .int .i64 0, .int .i64 0, .int .i64 0, .int .i64 0, .string ⟨#[]⟩, .int .i64 0, .int .i64 0, .bool false, .int .i64 0, .string ⟨#[]⟩, .int .i64 0, .int .i64 0, .int .i64 0, .int .i64 0, .int .i64 0, .int .i64 0, .slice none 0 0, .bool false, .int .i64 0, .int .i64 0] 46)) V3.heap.size 46 [.int .i64 0, .int .i64 0, .int .i64 0, .int .i64 0, .int .i64 0, .int .i64 0, .int .i64 0, .int .i64 0, .int .i64 0, .int .i64 0, .int .i64 0, .string ⟨#[]⟩, .int .i64 0, .int .i64 0, .bool false, .int .i64 0, .string ⟨#[]⟩, .int .i64 0, .int .i64 0, .int .i64 0, .int .i64 0, .int .i64 0, .int .i64 0, .slice none 0 0, .bool false, .int .i64 0, .int .i64 0] := heap_alloc_new V3 _
    have hf2 : Frm (fun _ => False) V3 ((V3.alloc (.cells #[.int .i64 0, .int .i64 0, .int .i64 0, .int .i64 0, .int .i64 0, .int .i64 0, .int .i64 0, .int .i64 0, .int .i64 0, .int .i64 0, .int .i64 0, .string ⟨#[]⟩, .int .i64 0, .int .i64 0, .bool false, .int .i64 0, .string ⟨#[]⟩, .int .i64 0, .int .i64 0, .int .i64 0, .int .i64 0, .int .i64 0, .int .i64 0, .slice none 0 0, .bool false, .int .i64 0, .int .i64 0] 46)).setRow V3.heap.size #[.int .i64 k, .int .i64 p.hw, .int .i64 p.hl, .int .i64 p.gw, .int .i64 p.gl, .int .i64 p.ge, .int .i64 p.ai, .int .i64 p.aq, .int .i64 p.ah, .int .i64 p.an, .int .i64 p.ae, .string p.ax, .int .i64 p.ak, .int .i64 p.ab, .bool p.af, .int .i64 p.ad, .string p.aw, .int .i64 p.rs, .int .i64 p.rq, .int .i64 p.rh, .int .i64 p.rn, .int .i64 p.rw, .int .i64 p.re, .slice p.ra p.rl.length p.rc, .bool p.rb, .int .i64 p.ss, .int .i64 p.sq]) := ((Frm.refl (fun _ => False) V3).alloc _).trans (fsetRow #[.int .i64 k, .int .i64 p.hw, .int .i64 p.hl, .int .i64 p.gw, .int .i64 p.gl, .int .i64 p.ge, .int .i64 p.ai, .int .i64 p.aq, .int .i64 p.ah, .int .i64 p.an, .int .i64 p.ae, .string p.ax, .int .i64 p.ak, .int .i64 p.ab, .bool p.af, .int .i64 p.ad, .string p.aw, .int .i64 p.rs, .int .i64 p.rq, .int .i64 p.rh, .int .i64 p.rn, .int .i64 p.rw, .int .i64 p.re, .slice p.ra p.rl.length p.rc, .bool p.rb, .int .i64 p.ss, .int .i64 p.sq]) (fun i hi hl => by have hi' : i = V3.heap.size := hi; omega)
    have hbel : Below V3.heap.size V3 ((V3.alloc (.cells #[.int .i64 0, .int .i64 0, .int .i64 0, .int .i64 0, .int .i64 0, .int .i64 0, .int .i64 0, .int .i64 0, .int .i64 0, .int .i64 0, .int .i64 0, .string ⟨#[]⟩, .int .i64 0, .int .i64 0, .bool false, .int .i64 0, .string ⟨#[]⟩, .int .i64 0, .int .i64 0, .int .i64 0, .int .i64 0, .int .i64 0, .int .i64 0, .slice none 0 0, .bool false, .int .i64 0, .int .i64 0] 46)).setRow V3.heap.size #[.int .i64 k, .int .i64 p.hw, .int .i64 p.hl, .int .i64 p.gw, .int .i64 p.gl, .int .i64 p.ge, .int .i64 p.ai, .int .i64 p.aq, .int .i64 p.ah, .int .i64 p.an, .int .i64 p.ae, .string p.ax, .int .i64 p.ak, .int .i64 p.ab, .bool p.af, .int .i64 p.ad, .string p.aw, .int .i64 p.rs, .int .i64 p.rq, .int .i64 p.rh, .int .i64 p.rn, .int .i64 p.rw, .int .i64 p.re, .slice p.ra p.rl.length p.rc, .bool p.rb, .int .i64 p.ss, .int .i64 p.sq]) := Frm.toBelow hf2 (Nat.le_refl _) (fun i hi hs => hs.elim)
    have HY1 := Lib.hid hy1
    have HY4 := Lib.hid (show Blk ((V3.alloc (.cells #[.int .i64 0, .int .i64 0, .int .i64 0, .int .i64 0, .int .i64 0, .int .i64 0, .int .i64 0, .int .i64 0, .int .i64 0, .int .i64 0, .int .i64 0, .string ⟨#[]⟩, .int .i64 0, .int .i64 0, .bool false, .int .i64 0, .string ⟨#[]⟩, .int .i64 0, .int .i64 0, .int .i64 0, .int .i64 0, .int .i64 0, .int .i64 0, .slice none 0 0, .bool false, .int .i64 0, .int .i64 0] 46)).setRow V3.heap.size #[.int .i64 k, .int .i64 p.hw, .int .i64 p.hl, .int .i64 p.gw, .int .i64 p.gl, .int .i64 p.ge, .int .i64 p.ai, .int .i64 p.aq, .int .i64 p.ah, .int .i64 p.an, .int .i64 p.ae, .string p.ax, .int .i64 p.ak, .int .i64 p.ab, .bool p.af, .int .i64 p.ad, .string p.aw, .int .i64 p.rs, .int .i64 p.rq, .int .i64 p.rh, .int .i64 p.rn, .int .i64 p.rw, .int .i64 p.re, .slice p.ra p.rl.length p.rc, .bool p.rb, .int .i64 p.ss, .int .i64 p.sq]) V3.heap.size 46 [.int .i64 k, .int .i64 p.hw, .int .i64 p.hl, .int .i64 p.gw, .int .i64 p.gl, .int .i64 p.ge, .int .i64 p.ai, .int .i64 p.aq, .int .i64 p.ah, .int .i64 p.an, .int .i64 p.ae, .string p.ax, .int .i64 p.ak, .int .i64 p.ab, .bool p.af, .int .i64 p.ad, .string p.aw, .int .i64 p.rs, .int .i64 p.rq, .int .i64 p.rh, .int .i64 p.rn, .int .i64 p.rw, .int .i64 p.re, .slice p.ra p.rl.length p.rc, .bool p.rb, .int .i64 p.ss, .int .i64 p.sq] from setRow_heap (V3.alloc (.cells #[.int .i64 0, .int .i64 0, .int .i64 0, .int .i64 0, .int .i64 0, .int .i64 0, .int .i64 0, .int .i64 0, .int .i64 0, .int .i64 0, .int .i64 0, .string ⟨#[]⟩, .int .i64 0, .int .i64 0, .bool false, .int .i64 0, .string ⟨#[]⟩, .int .i64 0, .int .i64 0, .int .i64 0, .int .i64 0, .int .i64 0, .int .i64 0, .slice none 0 0, .bool false, .int .i64 0, .int .i64 0] 46)) V3.heap.size #[.int .i64 0, .int .i64 0, .int .i64 0, .int .i64 0, .int .i64 0, .int .i64 0, .int .i64 0, .int .i64 0, .int .i64 0, .int .i64 0, .int .i64 0, .string ⟨#[]⟩, .int .i64 0, .int .i64 0, .bool false, .int .i64 0, .string ⟨#[]⟩, .int .i64 0, .int .i64 0, .int .i64 0, .int .i64 0, .int .i64 0, .int .i64 0, .slice none 0 0, .bool false, .int .i64 0, .int .i64 0] #[.int .i64 k, .int .i64 p.hw, .int .i64 p.hl, .int .i64 p.gw, .int .i64 p.gl, .int .i64 p.ge, .int .i64 p.ai, .int .i64 p.aq, .int .i64 p.ah, .int .i64 p.an, .int .i64 p.ae, .string p.ax, .int .i64 p.ak, .int .i64 p.ab, .bool p.af, .int .i64 p.ad, .string p.aw, .int .i64 p.rs, .int .i64 p.rq, .int .i64 p.rh, .int .i64 p.rn, .int .i64 p.rw, .int .i64 p.re, .slice p.ra p.rl.length p.rc, .bool p.rb, .int .i64 p.ss, .int .i64 p.sq] 46 (0, 0) hy1)
    have HK4 := Lib.hid (HK3.out.below hbel HK3.out.lt)
    have HU4 := Lib.hid (HU3.out.below hbel)
    have HF4 := Lib.hid (hfit3.below hbel)
    have HB4 := Lib.hid (HB3.out.trans (hbel.mono HB3.out.size))
    have HGY := Lib.hid (show V3.heap.size ≠ g from fun e => absurd HK3.out.lt (by omega))
    obtain ⟨U, hU⟩ : ∃ U, ((V3.alloc (.cells #[.int .i64 0, .int .i64 0, .int .i64 0, .int .i64 0, .int .i64 0, .int .i64 0, .int .i64 0, .int .i64 0, .int .i64 0, .int .i64 0, .int .i64 0, .string ⟨#[]⟩, .int .i64 0, .int .i64 0, .bool false, .int .i64 0, .string ⟨#[]⟩, .int .i64 0, .int .i64 0, .int .i64 0, .int .i64 0, .int .i64 0, .int .i64 0, .slice none 0 0, .bool false, .int .i64 0, .int .i64 0] 46)).setRow V3.heap.size #[.int .i64 k, .int .i64 p.hw, .int .i64 p.hl, .int .i64 p.gw, .int .i64 p.gl, .int .i64 p.ge, .int .i64 p.ai, .int .i64 p.aq, .int .i64 p.ah, .int .i64 p.an, .int .i64 p.ae, .string p.ax, .int .i64 p.ak, .int .i64 p.ab, .bool p.af, .int .i64 p.ad, .string p.aw, .int .i64 p.rs, .int .i64 p.rq, .int .i64 p.rh, .int .i64 p.rn, .int .i64 p.rw, .int .i64 p.re, .slice p.ra p.rl.length p.rc, .bool p.rb, .int .i64 p.ss, .int .i64 p.sq]) = U := ⟨_, rfl⟩
    rw [hU] at HY4 HK4 HU4 HF4 HB4
    have HUU := Lib.hid hU
    clear hU hy1 hf2 hbel hfit3 HU3 HK3 HB3
    have HOV := Lib.hid (over_any (some ⟨g, 0, none⟩) len (len + 3) w.heap.size (u8s l) U (blk_owns HK4.out HLL.out HG.out (by omega)) HB4.out.size (by omega))
    go_wp2_with (first | (refine wpList_store_row rfl 46 _ _ rfl V3.heap.size #[.int .i64 k, .int .i64 p.hw, .int .i64 p.hl, .int .i64 p.gw, .int .i64 p.gl, .int .i64 p.ge, .int .i64 p.ai, .int .i64 p.aq, .int .i64 p.ah, .int .i64 p.an, .int .i64 p.ae, .string p.ax, .int .i64 p.ak, .int .i64 p.ab, .bool p.af, .int .i64 p.ad, .string p.aw, .int .i64 p.rs, .int .i64 p.rq, .int .i64 p.rh, .int .i64 p.rn, .int .i64 p.rw, .int .i64 p.re, .slice p.ra p.rl.length p.rc, .bool p.rb, .int .i64 p.ss, .int .i64 p.sq] rfl rfl _ #[.int .i64 0, .int .i64 0, .int .i64 0, .int .i64 0, .int .i64 0, .int .i64 0, .int .i64 0, .int .i64 0, .int .i64 0, .int .i64 0, .int .i64 0, .string ⟨#[]⟩, .int .i64 0, .int .i64 0, .bool false, .int .i64 0, .string ⟨#[]⟩, .int .i64 0, .int .i64 0, .int .i64 0, .int .i64 0, .int .i64 0, .int .i64 0, .slice none 0 0, .bool false, .int .i64 0, .int .i64 0] HY1.out isz_msg rfl (by simp [Value.oneCell']) ?_) | rw [HUU.out])
    refine HOV.out.mono ?_
    clear HOV HY1 HUU
    rintro e V5 ⟨rfl, hgr⟩
    have hfr : Frm (fun i => i = g) U V5 := Frm.grown hgr (fun k h => (Option.some.inj h).symm)
    have HY5 := Lib.hid (HY4.out.frm hfr (fun h => HGY.out h))
    have HU5 := Lib.hid (HU4.out.bytes HK4.out HCS.out hfr)
    have HF5 := Lib.hid (HF4.out.bytes HK4.out HCS.out hfr)
    have HB5 := Lib.hid (HB4.out.trans (Frm.toBelow hfr HB4.out.size (fun i hi h => by have h' : i = g := h; have q := HG.out; omega)))
    obtain ⟨y, hy⟩ : ∃ y, V3.heap.size = y := ⟨_, rfl⟩
    rw [hy] at HY5
    clear hgr hfr HK4 HU4 HF4 HB4 HY4 HGY HG
    obtain ⟨⟨m, cd⟩, hmc⟩ : ∃ q, decL l = q := ⟨_, rfl⟩
    rw [hmc] at HDC HKD HU5 ⊢
    simp only at HDC HKD HU5 ⊢
    have HNU := Lib.hid (fun W => num15_any cd W)
    go_wp2_with fail
    refine (HNU.out _).mono ?_
    rintro e w1 ⟨rfl, rfl⟩
    rcases HDC.out with ⟨hc, hm⟩ | ⟨hc, hm⟩
    · subst hc
      have HM := Lib.hid hm
      clear hm hmc HDC
      have HAN := Lib.hid (any15_any p k _ HF5.out)
      unfold P5.msg at HAN
      rw [HKD.out] at HAN
      rw [hy]
      go_wp2_with (refine wpList_load_row rfl 46 _ rfl y rfl _ #[.int .i64 k, .int .i64 p.hw, .int .i64 p.hl, .int .i64 p.gw, .int .i64 p.gl, .int .i64 p.ge, .int .i64 p.ai, .int .i64 p.aq, .int .i64 p.ah, .int .i64 p.an, .int .i64 p.ae, .string p.ax, .int .i64 p.ak, .int .i64 p.ab, .bool p.af, .int .i64 p.ad, .string p.aw, .int .i64 p.rs, .int .i64 p.rq, .int .i64 p.rh, .int .i64 p.rn, .int .i64 p.rw, .int .i64 p.re, .slice p.ra p.rl.length p.rc, .bool p.rb, .int .i64 p.ss, .int .i64 p.sq] (0, 0) _ HY5.out Try.underlying46 rfl isz_msg ?_)
      refine HAN.out.mono ?_
      clear HAN
      rintro e V6 ⟨u6, rfl, hu, hb⟩
      have HU6 := Lib.hid (HU5.out.below hb)
      have HUA6 := Lib.hid hu
      have HB6 := Lib.hid (HB5.out.trans (hb.mono HB5.out.size))
      clear hu hb
      have HSM := Lib.hid (msame_any m m u u6 _ HU6.out HUA6.out)
      rw [same_refl HM.out] at HSM
      go_wp2_with fail
      refine HSM.out.mono ?_
      rintro e V7 ⟨rfl, hb⟩
      have HB7 := Lib.hid (HB6.out.trans (hb.mono HB6.out.size))
      clear hb HSM
      go_wp2_with fail
      refine (HAW.out _).mono ?_
      rintro e V ⟨rfl, hb⟩
      have HBz := Lib.hid (HB7.out.trans (hb.mono HB7.out.size))
      clear hb
      go_wp2_with fail
      go_ret
      exact ⟨rfl, HBz.out⟩
    · have b1 : (cd == 0) = false := by simpa using hc
      subst hm
      have hu0 : u = .nilIface := HU5.out
      subst hu0
      clear hc hmc HDC HKD
      go_wp2_with fail
      refine (HAW.out _).mono ?_
      rintro e V ⟨rfl, hb⟩
      have HBz := Lib.hid (HB5.out.trans (hb.mono HB5.out.size))
      clear hb
      go_wp2_with fail
      go_ret
      exact ⟨rfl, HBz.out⟩
end Go.Proofs.Ytjhkdbcfkaaffaa
