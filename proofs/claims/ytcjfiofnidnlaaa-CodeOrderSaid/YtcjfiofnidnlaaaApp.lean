/- A law on append: the call's own slice, and a source that reads as cells (nil, empty or not). -/
import Derived.Test.YtcjfiofnidnlaaaLend
import Derived.Laws.AppendOwnNone
namespace Go.Proofs.Ytcjfiofnidnlaaa
open Go.RowKit
set_option linter.unusedVariables false

theorem ownsRow_shape {w : World} {base : Nat} {e : TypeId} {size : Nat} {v : Value} {n : Nat} {xs : List Value} (h : w.ownsRow base e size v n xs) : ∃ ao cap, v = .slice ao n cap := by
  rcases h.2 with ⟨rfl, rfl⟩ | ⟨g, cap, cur, rfl, _⟩
  · exact ⟨none, 0, rfl⟩
  · exact ⟨_, _, rfl⟩

theorem wpList_append_rd {P : Program} {w : World} {ops : Array Oper} {rest : List Oper} {o : Oper} {a : Act} {Q : Exit → Act → World → Prop} (hgd : o.guard = none) (s x : Operand) (t : TypeId)
    (ho : o.op = .call { callee := .builtin .append, args := #[s, x], argTypes := #[t, t] })
    (base : Nat) (e : TypeId) (i : TypeInfo) (z : Value) (size bytes : Nat) (ht : P.underlying t = some (.slice e)) (hi : P.info? e = some i) (hz : i.zero = some z)
    (hsize : i.size = size) (hby : i.bytes = bytes) (hzs : z.cells.size = size) (hsz : 0 < size)
    (so : Option Addr) (n sc : Nat) (xs : List Value) (hs : a.eval s = .slice so n sc) (hown : w.ownsRow base e size (.slice so n sc) n xs)
    (ao : Option Addr) (m c : Nat) (news : List Value) (hx : a.eval x = .slice ao m c) (hl : news.length = m * size) (hnone : ao = none → m = 0 ∧ c = 0) (hsrc : ∀ ad, ao = some ad → ∀ j u, news[j]? = some u → w.cell? (ad.add j) = some u) (h1 : ∀ u ∈ news, u.oneCell' = true)
    (h63 : n + m ≤ maxLen) (hbytes : (n + m) * bytes ≤ 140737488355328) (hbase : base ≤ w.heap.size)
    (h : ∀ ao' cap' w', w'.ownsRow base e size (.slice ao' (n + m) cap') (n + m) (xs ++ news) → w.grownBy w' (Value.ownBlock (.slice so n sc)) → wpList P ops Q rest (a.put o.dst (.slice ao' (n + m) cap')) w') : wpList P ops Q (o :: rest) a w := by
  cases ao with
  | some ad =>
    refine wpList_append_own w hgd s x t ho base e i z size bytes ht hi hz hsize hby hzs hsz _ n xs hs hown ad m c news hx hl (hsrc ad rfl) h1 h63 hbytes hbase ?_
    intro v' w' h2 h3 _
    obtain ⟨ao', cap', rfl⟩ := ownsRow_shape h2
    exact h ao' cap' w' h2 h3
  | none =>
    obtain ⟨rfl, rfl⟩ := hnone rfl
    have hn : news = [] := List.eq_nil_of_length_eq_zero (by simpa using hl)
    subst hn
    refine wpList_append_own_none hgd s x t ho base e i size ht hi _ n xs hs hown hx ?_
    have := h so sc w (by simpa using hown) (World.grownBy.refl _ _)
    simpa using this

theorem ownsRow_rd {w : World} {base : Nat} {e : TypeId} {ao : Option Addr} {n cap : Nat} {xs : List Value} (h : w.ownsRow base e 1 (.slice ao n cap) n xs) : Rd w ao n cap xs := by
  have hl : xs.length = n := by simpa using h.1
  rcases h.2 with ⟨h', rfl⟩ | ⟨g, cap', cur, h', _, hg, hn, hm, hs, htake⟩
  · simp at h'; obtain ⟨rfl, rfl⟩ := h'
    exact ⟨hl, Nat.le_refl _, by unfold maxLen; omega, fun _ => rfl, fun i hi => by omega⟩
  · simp only [Value.slice.injEq] at h'
    obtain ⟨rfl, _, rfl⟩ := h'
    refine ⟨hl, hn, hm, by simp, fun i hi => ⟨g, 0, rfl, (Array.getElem?_eq_some_iff.1 hg).1, ?_⟩⟩
    rw [cell_of_row w g _ cur e _ hg, ← htake, List.getElem?_take, if_pos (by omega)]
    simp

theorem u8s_append (a b : List Nat) : u8s (a ++ b) = u8s a ++ u8s b := by simp [u8s]
/-- a piece of what reads -/
theorem Rd.cut {w : World} {b off n c : Nat} {xs : List Value} (h : Rd w (some ⟨b, off, none⟩) n c xs) (i j : Nat) (hij : i ≤ j) (hj : j ≤ n) (a : Option Addr) (ha : i < j → a = some ⟨b, off + i, none⟩) (hn : a ≠ none) : Rd w a (j - i) (c - i) ((xs.drop i).take (j - i)) := by
  obtain ⟨h1, h2, h3, _, h5⟩ := h
  refine ⟨by simp; omega, by omega, by omega, fun e => absurd e hn, fun k hk => ?_⟩
  obtain ⟨b', off', e, hlt, hc⟩ := h5 (i + k) (by omega)
  simp at e; obtain ⟨rfl, rfl⟩ := e
  refine ⟨b, off + i, ha (by omega), hlt, ?_⟩
  rw [Nat.add_assoc, hc, List.getElem?_take, if_pos hk, List.getElem?_drop]
theorem Rd.cut' {w : World} {b off n c : Nat} {l : List Nat} (h : Rd w (some ⟨b, off, none⟩) n c (u8s l)) (i N : Nat) (hj : i + N ≤ n) (a : Option Addr) (ha : 0 < N → a = some ⟨b, off + i, none⟩) (hn : a ≠ none) (c' : Nat) (hc : c' = c - i) : Rd w a N c' (u8s ((l.drop i).take N)) := by
  have h1 := h.cut i (i + N) (by omega) hj a (fun hlt => ha (by omega)) hn
  rw [show i + N - i = N from by omega] at h1
  subst hc
  have e : ((u8s l).drop i).take N = u8s ((l.drop i).take N) := by simp [u8s, List.map_take, List.map_drop]
  rw [e] at h1; exact h1
theorem ownsRow_below {w w' : World} {base : Nat} {e : TypeId} {size : Nat} {v : Value} {n : Nat} {xs : List Value} (h : w.ownsRow base e size v n xs) (hb : Below w.heap.size w w') : w'.ownsRow base e size v n xs :=
  h.kept (row := none) ⟨hb.os, hb.tape, hb.output, hb.size, fun k hk _ => hb.block k hk⟩ (by cases h1 : v.ownBlock <;> simp)
end Go.Proofs.Ytcjfiofnidnlaaa
