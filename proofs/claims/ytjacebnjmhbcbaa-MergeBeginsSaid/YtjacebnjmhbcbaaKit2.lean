/- Plain words: slices of elements of several cells, cut, read as a source, owned; 'append' at a step of a region that draws. No program in sight. -/
import Derived.Test.YtjacebnjmhbcbaaRdE
import Derived.Deep.AppendLies
import Derived.Deep.RegionLaw
namespace Go.Proofs.Ytjacebnjmhbcbaa
open Go.RowKit Go.Deep
set_option linter.unusedVariables false

theorem RdE.take {α : Type} {enc : α → List Value} {size : Nat} {w : World} {a : Option Addr} {n c : Nat} {l : List α} (h : RdE enc size w a n c l) (k : Nat) (hk : k ≤ n) : RdE enc size w a k c (l.take k) := by
  obtain ⟨h1, h2, h3, h4, h5⟩ := h
  refine ⟨by rw [List.length_take]; omega, by omega, h3, h4, fun i x hx => ?_⟩
  rw [List.getElem?_take] at hx
  split at hx
  · exact h5 i x hx
  · simp at hx
theorem RdE.drop {α : Type} {enc : α → List Value} {size : Nat} {w : World} {b off n c : Nat} {l : List α} (h : RdE enc size w (some ⟨b, off, none⟩) n c l) (i : Nat) (hi : i ≤ n) (o' : Nat) (ho : i < n → o' = off + i * size) : RdE enc size w (some ⟨b, o', none⟩) (n - i) (c - i) (l.drop i) := by
  obtain ⟨h1, h2, h3, h4, h5⟩ := h
  refine ⟨by rw [List.length_drop]; omega, by omega, by omega, by simp, fun k x hx => ?_⟩
  rw [List.getElem?_drop] at hx
  have hlt := (List.getElem?_eq_some_iff.1 hx).1
  obtain ⟨b', off', e, hl, hc⟩ := h5 (i + k) x hx
  simp only [Option.some.injEq, Addr.mk.injEq, and_true] at e
  obtain ⟨rfl, rfl⟩ := e
  refine ⟨b, o', rfl, hl, fun j hj => ?_⟩
  rw [ho (by omega), ← hc j hj]
  congr 2
  rw [Nat.add_mul]; omega
theorem RdE.cells {α : Type} {enc : α → List Value} {size : Nat} (henc : ∀ x, (enc x).length = size) {w : World} {ad : Addr} {n c : Nat} {l : List α} (h : RdE enc size w (some ad) n c l) : ∀ j u, (l.flatMap enc)[j]? = some u → w.cell? (ad.add j) = some u := by
  intro j u hu
  have hl := flatMap_len enc size henc l
  have hj : j < l.length * size := by rw [← hl]; exact (List.getElem?_eq_some_iff.1 hu).1
  have hs : 0 < size := by
    rcases Nat.eq_zero_or_pos size with h0 | h0
    · rw [h0] at hj; simp at hj
    · exact h0
  have hr : j % size < size := Nat.mod_lt _ hs
  have hq : j / size < l.length := Nat.div_lt_of_lt_mul (by rw [Nat.mul_comm]; exact hj)
  have hdm : j / size * size + j % size = j := by rw [Nat.mul_comm]; exact Nat.div_add_mod j size
  rw [← hdm, flatMap_get enc size henc l _ _ hr, List.getElem?_eq_getElem hq] at hu
  obtain ⟨b, off, e, hb, hc⟩ := h.2.2.2.2 (j / size) _ (List.getElem?_eq_getElem hq)
  obtain rfl := Option.some.inj e
  rw [Addr.add_lit, ← hdm, ← Nat.add_assoc, hc _ hr]
  exact hu
theorem Src.ofRdE {P : Program} {tx e' : TypeId} (hk : P.underlying tx = some (.slice e')) {α : Type} {enc : α → List Value} {size : Nat} (henc : ∀ x, (enc x).length = size) (h1 : ∀ x, ∀ u ∈ enc x, u.oneCell' = true) {w : World} {a : Option Addr} {n c : Nat} {l : List α} (h : RdE enc size w a n c l) : Src P size tx (.slice a n c) n (l.flatMap enc) w := by
  cases a with
  | some ad =>
    refine Src.ofSlice w hk ad n c _ (by rw [flatMap_len enc size henc, h.1]) (h.cells henc) ?_
    intro u hu
    simp only [List.mem_flatMap] at hu
    obtain ⟨x, _, hx⟩ := hu
    exact h1 x u hx
  | none =>
    obtain ⟨rfl, rfl⟩ := h.nil0 rfl
    obtain rfl : l = [] := List.eq_nil_of_length_eq_zero h.1
    exact Src.ofNil w hk 0
theorem ownsRow_rdE {α : Type} {enc : α → List Value} {size : Nat} (henc : ∀ x, (enc x).length = size) {w : World} {base : Nat} {e : TypeId} {ao : Option Addr} {n cap : Nat} {l : List α} (hn : l.length = n) (h : w.ownsRow base e size (.slice ao n cap) n (l.flatMap enc)) : RdE enc size w ao n cap l := by
  rcases h.2 with ⟨h', h0⟩ | ⟨g, cap', cur, h', _, hg, hnc, hm, hs, htake⟩
  · simp at h'; obtain ⟨rfl, rfl, rfl⟩ := h'
    obtain rfl : l = [] := List.eq_nil_of_length_eq_zero hn
    exact ⟨rfl, Nat.le_refl _, by unfold maxLen; omega, fun _ => rfl, fun i x hx => by simp at hx⟩
  · simp only [Value.slice.injEq] at h'
    obtain ⟨rfl, _, rfl⟩ := h'
    refine ⟨hn, hnc, hm, by simp, fun i x hx => ⟨g, 0, rfl, (Array.getElem?_eq_some_iff.1 hg).1, fun j hj => ?_⟩⟩
    have hlt := (List.getElem?_eq_some_iff.1 hx).1
    have hb : i * size + j < n * size := by
      have : (i + 1) * size ≤ n * size := Nat.mul_le_mul_right _ (by omega)
      rw [Nat.add_mul] at this; omega
    rw [cell_of_row w g _ cur e _ hg, Nat.zero_add, ← Array.getElem?_toList]
    have := flatMap_get enc size henc l i j hj
    rw [hx, ← htake, List.getElem?_take, if_pos hb] at this
    exact this

/-- 'append' onto the call's own slice, at a step of a region that draws its order. -/
theorem step_app {P : Program} {w : World} {ops : Array Oper} {o : Oper} {a : Act} {K : Act → World → Prop} {Q : Exit → Act → World → Prop} {E : Prop} (hgd : o.guard = none) (s x : Operand) (t tx : TypeId)
    (ho : o.op = .call { callee := .builtin .append, args := #[s, x], argTypes := #[t, tx] })
    (base : Nat) (e : TypeId) (i : TypeInfo) (z : Value) (size bytes : Nat) (ht : P.underlying t = some (.slice e)) (hi : P.info? e = some i) (hz : i.zero = some z)
    (hsize : i.size = size) (hby : i.bytes = bytes) (hzs : z.cells.size = size) (hsz : 0 < size)
    (so : Option Addr) (n sc : Nat) (xs : List Value) (hs : a.eval s = .slice so n sc) (hown : w.ownsRow base e size (.slice so n sc) n xs)
    (xv : Value) (m : Nat) (news : List Value) (hx : a.eval x = xv) (hsrc : Src P size tx xv m news w)
    (h63 : n + m ≤ maxLen) (hbytes : (n + m) * bytes ≤ 140737488355328) (hbase : base ≤ w.heap.size)
    (h : ∀ ao' cap' w', w'.ownsRow base e size (.slice ao' (n + m) cap') (n + m) (xs ++ news) → w.grownBy w' (Value.ownBlock (.slice so n sc)) → K (a.put o.dst (.slice ao' (n + m) cap')) w') :
    if Region.wanted o (yielded ops a.tmps) = true then Oper.wp P o a w K Q else E := by
  have hw : Region.wanted o (yielded ops a.tmps) = true := by simp [Region.wanted, hgd]
  rw [if_pos hw]
  obtain ⟨v', w', hr, h2, h3⟩ := run_append_own_src (P := P) w base t tx o.type e i z size bytes ht hi hz hsize hby hzs hsz _ n xs hown xv m news hsrc h63 hbytes hbase
  obtain ⟨ao', cap', rfl⟩ := ownsRow_shape h2
  unfold Oper.wp execOp
  simp only [ho, resolve, invoke, builtin, Sem.run_bind, Sem.run_pure, Result.andThen_ok, List.map_toArray, List.map_cons, List.map_nil, hs, hx, hr]
  exact h ao' cap' w' h2 h3
theorem flat_get {α : Type} (enc : α → List Value) (size : Nat) (henc : ∀ x, (enc x).length = size) : ∀ (l : List α) (sp : List Value) (i : Nat) (x : α) (j : Nat), l[i]? = some x → j < size → (l.flatMap enc ++ sp)[i * size + j]? = (enc x)[j]?
  | [], _, i, x, j, h, _ => by simp at h
  | y :: l, sp, 0, x, j, h, hj => by
    simp at h; subst h
    rw [List.flatMap_cons, List.append_assoc, List.getElem?_append_left (by rw [henc]; omega)]; simp
  | y :: l, sp, i + 1, x, j, h, hj => by
    rw [List.flatMap_cons, List.append_assoc, List.getElem?_append_right (by rw [henc, Nat.add_mul]; omega), henc]
    have := flat_get enc size henc l sp i x j (by simpa using h) hj
    rw [← this]; congr 1; rw [Nat.add_mul]; omega
theorem Blk.rdE {α : Type} {enc : α → List Value} {size : Nat} {w : World} {g : Nat} {e : TypeId} {l : List α} {sp : List Value} (henc : ∀ x, (enc x).length = size) (h : Blk w g e (l.flatMap enc ++ sp)) (c : Nat) (h1 : l.length ≤ c) (h2 : c ≤ maxLen) : RdE enc size w (some ⟨g, 0, none⟩) l.length c l :=
  ⟨rfl, h1, h2, by simp, fun i x hx => ⟨g, 0, rfl, h.lt, fun j hj => by rw [Nat.zero_add, h.cell, flat_get enc size henc l sp i x j hx hj]⟩⟩

end Go.Proofs.Ytjacebnjmhbcbaa
