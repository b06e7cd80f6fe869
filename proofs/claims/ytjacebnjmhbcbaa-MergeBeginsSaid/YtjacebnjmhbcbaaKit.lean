/- Plain words and laws that this seat's walks share: slices that read, blocks known whole, append, conversions. No program in sight. -/
import Derived.WalkKit
import Derived.WalkSpells
import Derived.WalkLawsBesides
import Derived.BigQuiet
import Derived.Deep.QuietTactic
import Derived.Deep.DeepFit
import Derived.Deep.DeepMust
import Derived.Deep.LoopGhost
import Derived.Outline
import Derived.Lib.Hide
import Derived.Lib.SlBytesConst
import Derived.OpenShut
import Derived.Laws.AppendOwnNone
import Derived.Deep.AppendSrc
import Derived.Deep.Upon
import Derived.Laws.IdiomStrings
import Derived.Laws.BytesArg
import Derived.Lib.ConvBytes
import Derived.RegionTactic
import Derived.ChangeAlike
import Derived.BigRegion
import Derived.Deep.RegionWith
import Derived.Lib.Strings
namespace Go.Proofs.Ytjacebnjmhbcbaa
open Go.RowKit
set_option linter.unusedVariables false

/-- A slice value reads as the cells 'xs' (one cell an element). -/
def Rd (w : World) (a : Option Addr) (n c : Nat) (xs : List Value) : Prop :=
  xs.length = n ∧ n ≤ c ∧ c ≤ maxLen ∧ (a = none → c = 0) ∧ ∀ i, i < n → ∃ b off, a = some ⟨b, off, none⟩ ∧ b < w.heap.size ∧ w.cell? ⟨b, off + i, none⟩ = xs[i]?

theorem ret_int {k : IntKind} {a b : Int} (h : a = b) : Ending.returned (.int k a) = .returned (.int k b) := by rw [h]
theorem getD_lt {l : List Nat} (h : ∀ b ∈ l, b < 256) (k : Nat) (hk : k < l.length) : l[k] < 256 := h _ (by simp)
theorem take_snoc {α : Type} (l : List α) (k : Nat) (h : k < l.length) : l.take (k + 1) = l.take k ++ [l[k]] := by
  rw [List.take_succ_eq_append_getElem h]
theorem cell?_lt {w : World} {a : Addr} {v : Value} (h : w.cell? a = some v) : a.block < w.heap.size := by
  apply Classical.byContradiction; intro hn
  have : w.heap[a.block]? = none := by simp; omega
  simp [World.cell?, this] at h

theorem Rd.below {w w' : World} {a : Option Addr} {n c B : Nat} {xs : List Value} (h : Rd w a n c xs) (hb : Below B w w') (hB : B = w.heap.size) : Rd w' a n c xs := by
  obtain ⟨h1, h2, h3, h4, h5⟩ := h
  subst hB
  refine ⟨h1, h2, h3, h4, fun i hi => ?_⟩
  obtain ⟨b, off, e, hl, hc⟩ := h5 i hi
  exact ⟨b, off, e, Nat.lt_of_lt_of_le hl hb.size, by rw [hb.cell (p := ⟨b, off + i, none⟩) hl]; exact hc⟩

/-- bytes as cells -/
def u8s (l : List Nat) : List Value := l.map fun (x : Nat) => Value.int .u8 (x : Int)
theorem u8s_length (l : List Nat) : (u8s l).length = l.length := by simp [u8s]
theorem u8s_get (l : List Nat) (i : Nat) (h : i < l.length) : (u8s l)[i]? = some (.int .u8 ((l[i] : Nat) : Int)) := by simp [u8s, h]

def Drew (w w' : World) : Prop := ∃ n, w' = w.drewN n
theorem Drew.refl (w : World) : Drew w w := ⟨0, rfl⟩
theorem Drew.one (w : World) (n : Nat) : Drew w (w.drewN n) := ⟨n, rfl⟩
theorem Drew.two (w : World) (n m : Nat) : Drew w ((w.drewN n).drewN m) := ⟨n + m, by rw [World.drewN_drewN]⟩
def eqL (a b : List Nat) : Bool := decide (a = b)

theorem Drew.below {w w' : World} (h : Drew w w') (B : Nat) : Below B w w' := by obtain ⟨n, rfl⟩ := h; exact below_drewN (Below.refl _ _) n

/-- Block 'g' is a row of the call's own that holds 'cs'. -/
def Blk (w : World) (g : Nat) (e : TypeId) (cs : List Value) : Prop := w.heap[g]? = some (.cells cs.toArray e (0, 0))
theorem Blk.cell {w : World} {g : Nat} {e : TypeId} {cs : List Value} (h : Blk w g e cs) (j : Nat) : w.cell? ⟨g, j, none⟩ = cs[j]? := by
  rw [cell_of_row w g j _ e (0, 0) h]; simp
theorem Blk.frozen {w : World} {g : Nat} {e : TypeId} {cs : List Value} (h : Blk w g e cs) (j : Nat) : w.frozen? ⟨g, j, none⟩ = false := frozen_of_row w g j _ e h
theorem Blk.lt {w : World} {g : Nat} {e : TypeId} {cs : List Value} (h : Blk w g e cs) : g < w.heap.size := (Array.getElem?_eq_some_iff.1 h).1
theorem Blk.set {w : World} {g : Nat} {e : TypeId} {cs : List Value} (h : Blk w g e cs) (j : Nat) (u : Value) : Blk (w.setCell ⟨g, j, none⟩ u) g e (cs.set j u) := by
  unfold Blk at *
  rw [heap_setCell_same w g j _ e u h]; simp
theorem Blk.below {w w' : World} {g : Nat} {e : TypeId} {cs : List Value} (h : Blk w g e cs) {B : Nat} (hb : Below B w w') (hg : g < B) : Blk w' g e cs := by
  unfold Blk at *; rw [hb.block g hg]; exact h
theorem Blk.drewN {w : World} {g : Nat} {e : TypeId} {cs : List Value} (h : Blk w g e cs) (n : Nat) : Blk (w.drewN n) g e cs := h
theorem Blk.alloc {w : World} {g : Nat} {e : TypeId} {cs : List Value} (h : Blk w g e cs) (o : Obj) : Blk (w.alloc o) g e cs := by
  unfold Blk at *; rw [Below.heap_alloc w o g (Blk.lt h)]; exact h
theorem Blk.rd {w : World} {g : Nat} {e : TypeId} {cs : List Value} (h : Blk w g e cs) (n c : Nat) (xs : List Value) (hx : xs.length = n) (hn : n ≤ c) (hc : c ≤ maxLen) (hp : ∀ i, i < n → cs[i]? = xs[i]?) : Rd w (some ⟨g, 0, none⟩) n c xs :=
  ⟨hx, hn, hc, by simp, fun i hi => ⟨g, 0, rfl, h.lt, by rw [h.cell, ← hp i hi]; simp⟩⟩
theorem Rd.src {w : World} {a : Option Addr} {n c : Nat} {xs : List Value} (h : Rd w a n c xs) : ∀ ad, a = some ad → ∀ j u, xs[j]? = some u → w.cell? (ad.add j) = some u := by
  intro ad ha j u hu
  have hj : j < xs.length := (List.getElem?_eq_some_iff.1 hu).1
  obtain ⟨b, off, e, _, hc⟩ := h.2.2.2.2 j (by rw [← h.1]; exact hj)
  rw [ha] at e; obtain rfl := Option.some.inj e
  rw [Addr.add_lit, hc, hu]
theorem Rd.nil0 {w : World} {a : Option Addr} {n c : Nat} {xs : List Value} (h : Rd w a n c xs) : a = none → n = 0 ∧ c = 0 := fun e => by
  have := h.2.2.2.1 e; have := h.2.1; omega
/-- what an owned row is, as a block -/
theorem ownsRow_blk {w : World} {base e g n cap size : Nat} {xs : List Value} (h : w.ownsRow base e size (.slice (some ⟨g, 0, none⟩) n cap) n xs) :
    ∃ spare : List Value, spare.length + n * size = cap * size ∧ Blk w g e (xs ++ spare) := by
  rcases h.2 with ⟨h', _⟩ | ⟨g', cap', cur, h', hb, hg, hn, _, hs, htake⟩
  · simp at h'
  · simp only [Value.slice.injEq, Option.some.injEq, Addr.mk.injEq, and_true, true_and] at h'
    obtain ⟨rfl, rfl⟩ := h'
    refine ⟨cur.toList.drop (n * size), ?_, ?_⟩
    · have := Nat.mul_le_mul_right size hn
      simp [hs]; omega
    · unfold Blk
      rw [← htake, List.take_append_drop]; simpa using hg
theorem u8s_one (l : List Nat) : ∀ u ∈ u8s l, u.oneCell' = true := by
  intro u hu; simp only [u8s, List.mem_map] at hu; obtain ⟨x, _, rfl⟩ := hu; rfl


theorem ownsRow_shape {w : World} {base : Nat} {e : TypeId} {size : Nat} {v : Value} {n : Nat} {xs : List Value} (h : w.ownsRow base e size v n xs) : ∃ ao cap, v = .slice ao n cap := by
  rcases h.2 with ⟨rfl, rfl⟩ | ⟨g, cap, cur, rfl, _⟩
  · exact ⟨none, 0, rfl⟩
  · exact ⟨_, _, rfl⟩

theorem wpList_append_rd {P : Program} {w : World} {ops : Array Oper} {rest : List Oper} {o : Oper} {a : Act} {Q : Exit → Act → World → Prop} (hgd : o.guard = none) (s x : Operand) (t : TypeId)
    (ho : o.op = .call { callee := .builtin .append, args := #[s, x], argTypes := #[t, t] })
    (base : Nat) (e : TypeId) (i : TypeInfo) (z : Value) (size bytes : Nat) (ht : P.underlying t = some (.slice e)) (hi : P.info? e = some i) (hz : i.zero = some z)
    (hsize : i.size = size) (hby : i.bytes = bytes) (hzs : z.cells.size = size) (hsz : 0 < size)
    (so : Option Addr) (n sc : Nat) (xs : List Value) (hs : a.eval s = .slice so n sc) (hown : w.ownsRow base e size (.slice so n sc) n xs)
    (ao : Option Addr) (m c : Nat) (news : List Value) (hx : a.eval x = .slice ao m c) (hl : news.length = m * size) (hnone : ao = none → m = 0 ∧ c = 0) (hsrc : ∀ ad, ao = some ad → ∀ j u, news[j]? = some u → w.cell? (ad.add j) = some u) (h1 : ∀ u ∈ news, u.oneCell' = true)
    (h63 : n + m ≤ maxLen) (hbytes : (n + m) * bytes ≤ 140737488355328) (hbase : base ≤ w.heap.size)
    (h : ∀ ao' cap' w', w'.ownsRow base e size (.slice ao' (n + m) cap') (n + m) (xs ++ news) → w.grownBy w' (Value.ownBlock (.slice so n sc)) → wpList P ops Q rest (a.put o.dst (.slice ao' (n + m) cap')) w') : wpList P ops Q (o :: rest) a w := by
  cases ao with
  | some ad =>
    refine wpList_append_own w hgd s x t ho base e i z size bytes ht hi hz hsize hby hzs hsz _ n xs hs hown ad m c news hx hl (hsrc ad rfl) h1 h63 hbytes hbase ?_
    intro v' w' h2 h3 _
    obtain ⟨ao', cap', rfl⟩ := ownsRow_shape h2
    exact h ao' cap' w' h2 h3
  | none =>
    obtain ⟨rfl, rfl⟩ := hnone rfl
    have hn : news = [] := List.eq_nil_of_length_eq_zero (by simpa using hl)
    subst hn
    refine wpList_append_own_none hgd s x t ho base e i size ht hi _ n xs hs hown hx ?_
    have := h so sc w (by simpa using hown) (World.grownBy.refl _ _)
    simpa using this

theorem ownsRow_rd {w : World} {base : Nat} {e : TypeId} {ao : Option Addr} {n cap : Nat} {xs : List Value} (h : w.ownsRow base e 1 (.slice ao n cap) n xs) : Rd w ao n cap xs := by
  have hl : xs.length = n := by simpa using h.1
  rcases h.2 with ⟨h', rfl⟩ | ⟨g, cap', cur, h', _, hg, hn, hm, hs, htake⟩
  · simp at h'; obtain ⟨rfl, rfl⟩ := h'
    exact ⟨hl, Nat.le_refl _, by unfold maxLen; omega, fun _ => rfl, fun i hi => by omega⟩
  · simp only [Value.slice.injEq] at h'
    obtain ⟨rfl, _, rfl⟩ := h'
    refine ⟨hl, hn, hm, by simp, fun i hi => ⟨g, 0, rfl, (Array.getElem?_eq_some_iff.1 hg).1, ?_⟩⟩
    rw [cell_of_row w g _ cur e _ hg, ← htake, List.getElem?_take, if_pos (by omega)]
    simp

theorem u8s_append (a b : List Nat) : u8s (a ++ b) = u8s a ++ u8s b := by simp [u8s]
/-- a piece of what reads -/
theorem Rd.cut {w : World} {b off n c : Nat} {xs : List Value} (h : Rd w (some ⟨b, off, none⟩) n c xs) (i j : Nat) (hij : i ≤ j) (hj : j ≤ n) (a : Option Addr) (ha : i < j → a = some ⟨b, off + i, none⟩) (hn : a ≠ none) : Rd w a (j - i) (c - i) ((xs.drop i).take (j - i)) := by
  obtain ⟨h1, h2, h3, _, h5⟩ := h
  refine ⟨by simp; omega, by omega, by omega, fun e => absurd e hn, fun k hk => ?_⟩
  obtain ⟨b', off', e, hlt, hc⟩ := h5 (i + k) (by omega)
  simp at e; obtain ⟨rfl, rfl⟩ := e
  refine ⟨b, off + i, ha (by omega), hlt, ?_⟩
  rw [Nat.add_assoc, hc, List.getElem?_take, if_pos hk, List.getElem?_drop]
theorem Rd.cut' {w : World} {b off n c : Nat} {l : List Nat} (h : Rd w (some ⟨b, off, none⟩) n c (u8s l)) (i N : Nat) (hj : i + N ≤ n) (a : Option Addr) (ha : 0 < N → a = some ⟨b, off + i, none⟩) (hn : a ≠ none) (c' : Nat) (hc : c' = c - i) : Rd w a N c' (u8s ((l.drop i).take N)) := by
  have h1 := h.cut i (i + N) (by omega) hj a (fun hlt => ha (by omega)) hn
  rw [show i + N - i = N from by omega] at h1
  subst hc
  have e : ((u8s l).drop i).take N = u8s ((l.drop i).take N) := by simp [u8s, List.map_take, List.map_drop]
  rw [e] at h1; exact h1
theorem ownsRow_below {w w' : World} {base : Nat} {e : TypeId} {size : Nat} {v : Value} {n : Nat} {xs : List Value} (h : w.ownsRow base e size v n xs) (hb : Below w.heap.size w w') : w'.ownsRow base e size v n xs :=
  h.kept (row := none) ⟨hb.os, hb.tape, hb.output, hb.size, fun k hk _ => hb.block k hk⟩ (by cases h1 : v.ownBlock <;> simp)

theorem Blk.setCells {g : Nat} {e : TypeId} : ∀ (news : List Value) {w : World} {cs : List Value} (h : Blk w g e cs) (o : Nat) (hl : o + news.length ≤ cs.length),
    Blk (w.setCells g o news) g e (cs.take o ++ (news ++ cs.drop (o + news.length))) := by
  intro news
  induction news with
  | nil => intro w cs h o hl; simpa [World.setCells] using h
  | cons u r ih =>
    intro w cs h o hl
    simp only [List.length_cons] at hl
    have h1 := ih (h.set o u) (o + 1) (by simp; omega)
    rw [World.setCells]
    have e1 : (cs.set o u).take (o + 1) ++ (r ++ (cs.set o u).drop (o + 1 + r.length)) = cs.take o ++ (u :: r ++ cs.drop (o + (u :: r).length)) := by
      rw [List.take_succ_eq_append_getElem (by simp; omega), List.take_set_of_le (by omega), List.drop_set_of_lt (by omega)]
      simp [show o + 1 + r.length = o + (r.length + 1) by omega]
    rw [e1] at h1; exact h1

theorem setCells_rest (g : Nat) : ∀ (vs : List Value) (o : Nat) (w : World), (w.setCells g o vs).os = w.os ∧ (w.setCells g o vs).tape = w.tape ∧ (w.setCells g o vs).output = w.output ∧ (w.setCells g o vs).heap.size = w.heap.size := by
  intro vs
  induction vs with
  | nil => intro o w; exact ⟨rfl, rfl, rfl, rfl⟩
  | cons u r ih =>
    intro o w
    obtain ⟨h1, h2, h3, h4⟩ := ih (o + 1) (w.setCell ⟨g, o, none⟩ u)
    rw [World.setCells]
    refine ⟨h1, h2, h3, h4.trans ?_⟩
    simp [World.setCell]
theorem Src.ofRd {P : Program} {tx e' : TypeId} (hk : P.underlying tx = some (.slice e')) {w : World} {a : Option Addr} {n c : Nat} {xs : List Value} (h : Rd w a n c xs) (h1 : ∀ u ∈ xs, u.oneCell' = true) : Src P 1 tx (.slice a n c) n xs w := by
  cases a with
  | some ad => exact Src.ofSlice w hk ad n c xs (by rw [h.1, Nat.mul_one]) (h.src ad rfl) h1
  | none =>
    obtain ⟨rfl, rfl⟩ := h.nil0 rfl
    obtain rfl : xs = [] := List.eq_nil_of_length_eq_zero h.1
    exact Src.ofNil w hk 0

theorem Src.one' {P : Program} {tx e' : TypeId} (hk : P.underlying tx = some (.slice e')) (w : World) (u : Value) (e : TypeId) (h1 : u.oneCell' = true) : Src P 1 tx (.slice (some ⟨w.heap.size, 0, none⟩) 1 1) 1 [u] (w.alloc (.cells #[u] e)) := by
  refine Src.ofSlice _ hk _ 1 1 [u] rfl ?_ (by intro x hx; simp at hx; subst hx; exact h1)
  intro j x hj
  match j, hj with
  | 0, hj => simp at hj; subst hj; rw [Addr.add_lit, cell_of_row _ _ _ _ e (0, 0) (heap_alloc_new w _)]; simp
theorem run_append_own_src {P : Program} (w : World) (base : Nat) (t tx ty e : TypeId) (i : TypeInfo) (z : Value) (size bytes : Nat) (ht : P.underlying t = some (.slice e)) (hi : P.info? e = some i) (hz : i.zero = some z)
    (hsize : i.size = size) (hby : i.bytes = bytes) (hzs : z.cells.size = size) (hsz : 0 < size)
    (v : Value) (n : Nat) (xs : List Value) (hown : w.ownsRow base e size v n xs)
    (x : Value) (m : Nat) (news : List Value) (hs : Src P size tx x m news w)
    (h63 : n + m ≤ maxLen) (hbytes : (n + m) * bytes ≤ 140737488355328) (hbase : base ≤ w.heap.size) :
    ∃ v' w', (Builtin.append_ #[t, tx] ty #[v, x]).run P w = .ok v' w' ∧ w'.ownsRow base e size v' (n + m) (xs ++ news) ∧ w.grownBy w' v.ownBlock := by
  subst hsize
  subst hby
  have hl := hs.newsLen
  have hsmall : n + m ≤ 9223372036854775807 := by simp only [maxLen] at h63; omega
  have hlen : (xs ++ news).length = (n + m) * i.size := by rw [List.length_append, hown.1, hl, Nat.add_mul]
  have grown : ∀ (old : Nat), old < n + m → ∀ (row : Option Nat),
      (w.drew.alloc (.cells ((xs ++ news).toArray ++ Builtin.zeroCells z.cells (grownCap w (n + m) old e - (n + m))) e)).ownsRow base e i.size
        (.slice (some ⟨w.heap.size, 0, none⟩) (n + m) (grownCap w (n + m) old e)) (n + m) (xs ++ news) ∧
      w.grownBy (w.drew.alloc (.cells ((xs ++ news).toArray ++ Builtin.zeroCells z.cells (grownCap w (n + m) old e - (n + m))) e)) row := by
    intro old ho row
    have hge := grownCap_ge w (n + m) old e
    have hcm : grownCap w (n + m) old e ≤ maxLen := grownCap_le_maxLen w (n + m) old e h63
    refine ⟨⟨hlen, .inr ⟨w.heap.size, _, _, rfl, hbase, heap_alloc_new w.drew _, hge, hcm, ?_, ?_⟩⟩, ⟨rfl, rfl, rfl, by simp, fun k hk _ => heap_alloc_old w.drew _ hk⟩⟩
    · rw [Array.size_append, List.size_toArray, size_zeroCells, hzs, hlen, ← Nat.add_mul]
      congr 1
      omega
    · rw [Array.toList_append, ← hlen]
      exact List.take_left
  rcases hown.2 with ⟨rfl, rfl⟩ | ⟨g, cap, cur, rfl, hbg, hg, hnc, hcm, hcs, htake⟩
  · obtain rfl : xs = [] := List.eq_nil_of_length_eq_zero (by simpa using hown.1)
    by_cases hm : m = 0
    · subst hm
      obtain rfl : news = [] := List.eq_nil_of_length_eq_zero (by simpa using hl)
      refine ⟨.slice none 0 0, w, ?_, World.ownsRow_nil w base e i.size, World.grownBy.refl _ _⟩
      have hc := hs.cells
      rcases hs.kind with ⟨e', hk⟩ | hk <;> simp [Builtin.append_, run_underlying ht, run_underlying hk, sizeOf, typeInfo, hi, hs.len, hc]
    · have hr := run_append_grow_src (P := P) w t tx ty e i z ht hi hz none 0 0 [] (run_firstCells_none w.drew i.size 0 0 0) x m news hs (by omega) (by omega) (growslice_fits (by omega) hbytes)
      have hgr := grown 0 (by omega) (Value.ownBlock (.slice none 0 0))
      exact ⟨_, _, hr, hgr.1, hgr.2⟩
  · by_cases hroom : n + m ≤ cap
    · have hfit : n * i.size + news.length ≤ cur.size := by rw [hl, hcs, ← Nat.add_mul]; exact Nat.mul_le_mul_right _ hroom
      have hblk : Blk w g e cur.toList := by unfold Blk; simpa using hg
      have hr := run_append_room_src (P := P) w t tx ty e i ht hi g 0 n cap x m news hs hroom (by
          intro j hj; rw [hblk.cell]; simp; omega) (by intro j _; exact hblk.frozen _)
      rw [Nat.zero_add] at hr
      have hb2 := hblk.setCells news (n * i.size) (by simpa using hfit)
      refine ⟨_, _, hr, ⟨hlen, .inr ⟨g, cap, _, rfl, hbg, hb2, hroom, hcm, ?_, ?_⟩⟩, ⟨(setCells_rest g news _ w).1, (setCells_rest g news _ w).2.1, (setCells_rest g news _ w).2.2.1, Nat.le_of_eq (setCells_rest g news _ w).2.2.2.symm, fun k hk1 hk => World.heap_setCells_other w g _ news hk1 (fun e => hk (by simp [Value.ownBlock, e]))⟩⟩
      · simp only [List.size_toArray, List.length_append, List.length_take, List.length_drop, Array.length_toList]
        omega
      · rw [htake, ← hlen, List.toList_toArray, ← List.append_assoc]
        exact List.take_left
    · have holds : ∀ j u, xs[j]? = some u → w.cell? ((⟨g, 0, none⟩ : Addr).add j) = some u := hown.cells (g := g) rfl
      have hr := run_append_grow_src (P := P) w t tx ty e i z ht hi hz (some ⟨g, 0, none⟩) n cap xs (run_firstCells_some w.drew i.size n ⟨g, 0, none⟩ n cap xs hown.1 (by simpa using holds)) x m news hs (by omega) (by omega) (growslice_fits (by omega) hbytes)
      have hgr := grown cap (by omega) (Value.ownBlock (.slice (some ⟨g, 0, none⟩) n cap))
      exact ⟨_, _, hr, hgr.1, hgr.2⟩

/-- 'append' onto the call's own slice, as a law for the walk. -/
theorem wpList_app {P : Program} {w : World} {ops : Array Oper} {rest : List Oper} {o : Oper} {a : Act} {Q : Exit → Act → World → Prop} (hgd : o.guard = none) (s x : Operand) (t tx : TypeId)
    (ho : o.op = .call { callee := .builtin .append, args := #[s, x], argTypes := #[t, tx] })
    (base : Nat) (e : TypeId) (i : TypeInfo) (z : Value) (size bytes : Nat) (ht : P.underlying t = some (.slice e)) (hi : P.info? e = some i) (hz : i.zero = some z)
    (hsize : i.size = size) (hby : i.bytes = bytes) (hzs : z.cells.size = size) (hsz : 0 < size)
    (so : Option Addr) (n sc : Nat) (xs : List Value) (hs : a.eval s = .slice so n sc) (hown : w.ownsRow base e size (.slice so n sc) n xs)
    (xv : Value) (m : Nat) (news : List Value) (hx : a.eval x = xv) (hsrc : Src P size tx xv m news w)
    (h63 : n + m ≤ maxLen) (hbytes : (n + m) * bytes ≤ 140737488355328) (hbase : base ≤ w.heap.size)
    (h : ∀ ao' cap' w', w'.ownsRow base e size (.slice ao' (n + m) cap') (n + m) (xs ++ news) → w.grownBy w' (Value.ownBlock (.slice so n sc)) → wpList P ops Q rest (a.put o.dst (.slice ao' (n + m) cap')) w') : wpList P ops Q (o :: rest) a w := by
  refine wpList_plain hgd fun K hK => ?_
  obtain ⟨v', w', hr, h2, h3⟩ := run_append_own_src (P := P) w base t tx o.type e i z size bytes ht hi hz hsize hby hzs hsz _ n xs hown xv m news hsrc h63 hbytes hbase
  obtain ⟨ao', cap', rfl⟩ := ownsRow_shape h2
  unfold Oper.wp execOp
  simp only [ho, resolve, invoke, builtin, Sem.run_bind, Sem.run_pure, Result.andThen_ok, List.map_toArray, List.map_cons, List.map_nil, hs, hx, hr]
  exact hK _ _ (h ao' cap' w' h2 h3)

def strN (l : List Nat) : ByteArray := ⟨(l.map UInt8.ofNat).toArray⟩
/-- a string's bytes as numbers -/
def bytesN (s : ByteArray) : List Nat := s.data.toList.map UInt8.toNat
theorem bytesN_lt (s : ByteArray) : ∀ x ∈ bytesN s, x < 256 := by
  intro x hx; simp only [bytesN, List.mem_map] at hx; obtain ⟨b, _, rfl⟩ := hx; exact b.toNat_lt
theorem bytesN_length (s : ByteArray) : (bytesN s).length = s.size := by
  show (s.data.toList.map UInt8.toNat).length = s.data.size
  rw [List.length_map, Array.length_toList]
theorem strN_bytesN (s : ByteArray) : strN (bytesN s) = s := by
  unfold strN bytesN
  have e : (UInt8.ofNat ∘ UInt8.toNat) = id := by funext x; simp
  rw [List.map_map, e, List.map_id, Array.toArray_toList]
theorem bytesN_strN (l : List Nat) (h : ∀ x ∈ l, x < 256) : bytesN (strN l) = l := by
  unfold strN bytesN
  simp only [List.map_map]
  conv => rhs; rw [← List.map_id l]
  apply List.map_congr_left
  intro x hx
  have := h x hx
  simp; omega
theorem strN_inj {a b : List Nat} (ha : ∀ x ∈ a, x < 256) (hb : ∀ x ∈ b, x < 256) (h : strN a = strN b) : a = b := by
  rw [← bytesN_strN a ha, ← bytesN_strN b hb, h]
theorem byteCells_u8s (s : ByteArray) : byteCells s = u8s (bytesN s) := by simp [byteCells, u8s, bytesN, Function.comp_def]
theorem strN_size (l : List Nat) : (strN l).size = l.length := by
  show ((l.map UInt8.ofNat).toArray).size = l.length
  simp

theorem run_str_rd {P : Program} {w : World} {a : Option Addr} {n c : Nat} {l : List Nat} (hr : Rd w a n c (u8s l)) (hb : ∀ x ∈ l, x < 256) (src dst e : TypeId) (hs : P.underlying src = some (.slice e)) (he : P.underlying e = some (.int .u8)) (hd : P.underlying dst = some .string) :
    (convert src dst (.slice a n c)).run P w = .ok (.string (strN l)) w := by
  have hn := hr.1
  rw [u8s_length] at hn
  cases a with
  | none =>
    obtain ⟨rfl, rfl⟩ := hr.nil0 rfl
    obtain rfl : l = [] := List.eq_nil_of_length_eq_zero hn
    exact run_convert_bytes_nil w src e hs he 0 0 dst hd
  | some ad =>
    have hl : n = (l.map UInt8.ofNat).length := by simp [hn]
    rw [hl]
    refine run_convert_bytes_back w src dst e ad c (l.map UInt8.ofNat) hs he hd fun j hj => ?_
    have hj' : j < l.length := by simpa using hj
    rw [hr.src ad rfl j (.int .u8 ((l[j] : Nat) : Int)) (u8s_get l j hj')]
    have := hb l[j] (List.getElem_mem _)
    simp; omega

theorem wpList_conv_str {P : Program} {w : World} {ops : Array Oper} {rest : List Oper} {o : Oper} {a : Act} {Q : Exit → Act → World → Prop} (hgd : o.guard = none) (x : Operand) (src dst e : TypeId)
    (ho : o.op = .convert src dst x) (hs : P.underlying src = some (.slice e)) (he : P.underlying e = some (.int .u8)) (hd : P.underlying dst = some .string)
    (ao : Option Addr) (m c : Nat) (l : List Nat) (hx : a.eval x = .slice ao m c) (hr : Rd w ao m c (u8s l)) (hb : ∀ x ∈ l, x < 256)
    (h : wpList P ops Q rest (a.put o.dst (.string (strN l))) w) : wpList P ops Q (o :: rest) a w := by
  refine wpList_plain hgd fun K hK => ?_
  have hrun := run_str_rd (P := P) hr hb src dst e hs he hd
  unfold Oper.wp
  simp [execOp, ho, hx, hrun, Result.andThen]
  exact hK _ _ h

theorem wpList_conv_bytes {P : Program} {w : World} {ops : Array Oper} {rest : List Oper} {o : Oper} {a : Act} {Q : Exit → Act → World → Prop} (hgd : o.guard = none) (x : Operand) (src dst e : TypeId)
    (ho : o.op = .convert src dst x) (hs : P.underlying src = some .string) (hd : P.underlying dst = some (.slice e)) (he : P.underlying e = some (.int .u8))
    (s : ByteArray) (hx : a.eval x = .string s) (hsz : s.size ≤ 1000000000000)
    (h : ∀ c w', Rd w' (some ⟨w.heap.size, 0, none⟩) s.size c (u8s (bytesN s)) → Below w.heap.size w w' → wpList P ops Q rest (a.put o.dst (.slice (some ⟨w.heap.size, 0, none⟩) s.size c)) w') : wpList P ops Q (o :: rest) a w := by
  refine wpList_plain hgd fun K hK => ?_
  have hrun := Lib.run_convert_string_bytes (P := P) w src dst e s hs hd he
  have hge := grownCap_ge w s.size 0 e
  have hle := grownCap_le_maxLen w s.size 0 e (by unfold maxLen; omega)
  have hrd : Rd (Lib.bytesWorld w e s) (some ⟨w.heap.size, 0, none⟩) s.size (grownCap w s.size 0 e) (u8s (bytesN s)) := by
    refine ⟨by rw [u8s_length, bytesN_length], hge, hle, by simp, fun i hi => ⟨w.heap.size, 0, rfl, by rw [Lib.bytesWorld_size]; omega, ?_⟩⟩
    rw [Nat.zero_add, Lib.bytesWorld_cell w e s i hi]
    have hi' : i < s.data.toList.length := by rw [Array.length_toList]; exact hi
    rw [u8s_get _ _ (by rw [bytesN_length]; exact hi)]
    have e1 : (bytesN s)[i]'(by rw [bytesN_length]; exact hi) = (s.data.toList[i]).toNat := by unfold bytesN; rw [List.getElem_map]
    have e2 : s.data.toList.getD i 0 = s.data.toList[i] := by rw [List.getD_eq_getElem?_getD, List.getElem?_eq_getElem hi']; rfl
    rw [e1, e2]
  have hbel : Below w.heap.size w (Lib.bytesWorld w e s) := ⟨rfl, rfl, rfl, by rw [Lib.bytesWorld_size]; omega, fun k hk => Lib.bytesWorld_at_old w e s k hk⟩
  unfold Oper.wp
  simp [execOp, ho, hx, hrun, Result.andThen]
  exact hK _ _ (h _ _ hrd hbel)

theorem rd_nil (w : World) (xs : List Value) (h : xs = []) : Rd w none 0 0 xs := by
  subst h; exact ⟨rfl, Nat.le_refl _, by unfold maxLen; omega, fun _ => rfl, fun i hi => by omega⟩

theorem rd_new (w : World) (e : TypeId) (fr : Nat × Nat) (cs : Array Value) (n : Nat) (xs : List Value) (hx : cs.toList = xs) (hn : xs.length = n) (hm : n ≤ maxLen) : Rd (w.alloc (.cells cs e fr)) (some ⟨w.heap.size, 0, none⟩) n n xs := by
  subst hx
  refine ⟨hn, Nat.le_refl _, hm, by simp, fun i hi => ⟨w.heap.size, 0, rfl, (Array.getElem?_eq_some_iff.1 (heap_alloc_new w _)).1, ?_⟩⟩
  rw [cell_of_row _ _ _ _ e fr (heap_alloc_new w _)]; simp

/-- what came in, as numbers -/
theorem rd_of_row {w : World} {a : Option Addr} {len cap : Nat} {zs : List Int} (h : (a = none ∧ len = 0 ∧ cap = 0 ∧ zs = []) ∨
    ∃ x, a = some x ∧ len ≤ cap ∧ cap ≤ maxLen ∧ zs.length = cap ∧ (∀ i, i < zs.length → w.cell? (x.add i) = some (.int .u8 (zs.getD i 0))) ∧ ∀ n ∈ zs, (Lit.int .u8 n).wf = true) :
    ∃ l : List Nat, Rd w a len cap (u8s l) ∧ ∀ b ∈ l, b < 256 := by
  rcases h with ⟨rfl, rfl, rfl, rfl⟩ | ⟨x, rfl, hl, hm, hz, hcell, hwz⟩
  · exact ⟨[], rd_nil _ _ rfl, by simp⟩
  · have hw : ∀ n ∈ zs, 0 ≤ n ∧ n < 256 := by
      intro n hn
      have := hwz n hn
      have := bounds_u8 this; omega
    refine ⟨(zs.take len).map Int.toNat, ⟨by simp [u8s]; omega, hl, hm, by simp, fun i hi => ?_⟩, ?_⟩
    · obtain ⟨b, off, spot⟩ := x
      have hc := hcell i (by omega)
      have hc0 := hcell 0 (by omega)
      have hspot : spot = none := by simpa [Addr.add] using World.cell?_spot hc0
      subst hspot
      rw [Addr.add_lit] at hc
      refine ⟨b, off, rfl, cell?_lt hc, ?_⟩
      rw [hc]
      have hzi : i < zs.length := by omega
      have h0 := hw zs[i] (by simp)
      simp [u8s, hi, hzi, List.getD]
      omega
    · intro b hb
      simp only [List.mem_map] at hb
      obtain ⟨n, hn, rfl⟩ := hb
      have := hw n (List.mem_of_mem_take hn)
      omega


theorem ownsRow_some {w : World} {base : Nat} {e : TypeId} {size : Nat} {ao : Option Addr} {n cap : Nat} {xs : List Value} (h : w.ownsRow base e size (.slice ao n cap) n xs) (hn : 0 < n) : ∃ g, ao = some ⟨g, 0, none⟩ ∧ base ≤ g := by
  rcases h.2 with ⟨h', rfl⟩ | ⟨g, cap', cur, h', hb, _⟩
  · omega
  · simp at h'; obtain ⟨rfl, _⟩ := h'; exact ⟨g, rfl, hb⟩
theorem wrap_u8 (n : Int) : IntKind.u8.wrap n = n % 256 := by simp [IntKind.wrap, IntKind.bits, IntKind.signed]
theorem bits_xor_u8 (a b : Nat) (ha : a < 256) (hb : b < 256) : bits .xor .u8 (a : Int) (b : Int) = ((a ^^^ b : Nat) : Int) := by
  have hx : a ^^^ b < 2 ^ 8 := Nat.xor_lt_two_pow (by omega) (by omega)
  have h1 : (BitVec.ofInt 8 (a : Int)).toNat = a := by
    rw [BitVec.ofInt_natCast, BitVec.toNat_ofNat]; exact Nat.mod_eq_of_lt (by omega)
  have h2 : (BitVec.ofInt 8 (b : Int)).toNat = b := by
    rw [BitVec.ofInt_natCast, BitVec.toNat_ofNat]; exact Nat.mod_eq_of_lt (by omega)
  show IntKind.u8.wrap ((BitVec.ofInt 8 (a : Int) ^^^ BitVec.ofInt 8 (b : Int)).toNat : Int) = _
  rw [BitVec.toNat_xor, h1, h2, wrap_u8]
  omega


theorem eqL_self (x : List Nat) : eqL x x = true := by simp [eqL]
theorem eqL_of {x y : List Nat} (h : x = y) : eqL x y = true := by simp [eqL, h]
theorem grownBy_trans {a b c : World} {row : Option Nat} (h : a.grownBy b row) (k : b.grownBy c row) : a.grownBy c row :=
  ⟨k.os.trans h.os, k.tape.trans h.tape, k.output.trans h.output, Nat.le_trans h.size k.size, fun i hi hne => (k.block i (Nat.lt_of_lt_of_le hi h.size) hne).trans (h.block i hi hne)⟩
theorem grownBy_alloc' (w : World) (o : Obj) (row : Option Nat) : w.grownBy (w.alloc o) row := World.grownBy_alloc w o row
theorem Rd.grown {w w' : World} {a : Option Addr} {n c : Nat} {xs : List Value} {row : Option Nat} (h : Rd w a n c xs) (hg : w.grownBy w' row) (hne : ∀ b off, a = some ⟨b, off, none⟩ → some b ≠ row) : Rd w' a n c xs := by
  obtain ⟨h1, h2, h3, h4, h5⟩ := h
  refine ⟨h1, h2, h3, h4, fun i hi => ?_⟩
  obtain ⟨b, off, e, hl, hc⟩ := h5 i hi
  refine ⟨b, off, e, Nat.lt_of_lt_of_le hl hg.size, ?_⟩
  rw [World.cell?_of_block (w := w) (hg.block b hl (hne b off e)), hc]

theorem ownsRow_some0 {w : World} {base : Nat} {e : TypeId} {size : Nat} {ao : Option Addr} {n cap : Nat} {xs : List Value} (h : w.ownsRow base e size (.slice ao n cap) n xs) : ∀ k, Value.ownBlock (.slice ao n cap) = some k → base ≤ k := fun k hk => (h.lt k hk).1


def lowI (x : Int) (n : Int) : Int := IntKind.u64.wrap x % n
theorem wrap_u64 (n : Int) : IntKind.u64.wrap n = n % 18446744073709551616 := by simp [IntKind.wrap, IntKind.bits, IntKind.signed]

theorem lowI_bd (x n : Int) (h1 : 1 ≤ n) : 0 ≤ lowI x n ∧ lowI x n < n := ⟨Int.emod_nonneg _ (by omega), Int.emod_lt_of_pos _ (by omega)⟩
theorem low_eq (x n : Int) (h1 : 1 ≤ n) (h2 : n ≤ 9223372036854775807) : wrap64 ((IntKind.u64.wrap x).tmod n) = lowI x n := by
  have h0 : 0 ≤ IntKind.u64.wrap x := by rw [wrap_u64]; omega
  have hb := lowI_bd x n h1
  rw [Int.tmod_eq_emod_of_nonneg h0]
  show wrap64 (lowI x n) = lowI x n
  exact IntWalk.wrap64_in _ ⟨by omega, by omega⟩


theorem flatMap_get {α β : Type} (f : α → List β) (n : Nat) (hf : ∀ x, (f x).length = n) : ∀ (l : List α) (i j : Nat), j < n → (l.flatMap f)[i * n + j]? = (l[i]?).bind fun x => (f x)[j]? := by
  intro l
  induction l with
  | nil => intro i j _; simp
  | cons a r ih =>
    intro i j hj
    rw [List.flatMap_cons]
    cases i with
    | zero => rw [Nat.zero_mul, Nat.zero_add, List.getElem?_append_left (by rw [hf]; exact hj)]; simp
    | succ i =>
      rw [List.getElem?_append_right (by rw [hf, Nat.add_mul]; omega), hf, show (i + 1) * n + j - n = i * n + j by rw [Nat.add_mul]; omega, ih i j hj]; simp
theorem flatMap_set {α β : Type} (f : α → List β) (n : Nat) (hf : ∀ x, (f x).length = n) : ∀ (l : List α) (i j : Nat) (v : β) (x x' : α), l[i]? = some x → j < n → f x' = (f x).set j v → (l.flatMap f).set (i * n + j) v = (l.set i x').flatMap f := by
  intro l
  induction l with
  | nil => intro i j v x x' h; simp at h
  | cons a r ih =>
    intro i j v x x' h hj he
    cases i with
    | zero =>
      simp at h; subst h
      rw [List.flatMap_cons, Nat.zero_mul, Nat.zero_add, List.set_append_left _ _ (by rw [hf]; exact hj), ← he]; simp
    | succ i =>
      rw [List.flatMap_cons, List.set_append_right _ _ (by rw [hf, Nat.add_mul]; omega), hf, show (i + 1) * n + j - n = i * n + j by rw [Nat.add_mul]; omega, ih i j v x x' (by simpa using h) hj he]; simp
theorem flatMap_len {α β : Type} (f : α → List β) (n : Nat) (hf : ∀ x, (f x).length = n) (l : List α) : (l.flatMap f).length = l.length * n := by
  induction l with
  | nil => simp
  | cons a r ih => rw [List.flatMap_cons, List.length_append, hf, ih, List.length_cons, Nat.add_mul]; omega

end Go.Proofs.Ytjacebnjmhbcbaa
