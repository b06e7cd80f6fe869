/- Lemmas for the law (part 1): Kit, RdE, Kit2, Frm, Co0, Co1, St0, Part1, Part2, KeyL, Rank1, St1, Strs, LendI, Items, Edit0, Bd0, Edit1, Bd1, Ask, Texts1 -/
import Derived.WalkKit
import Derived.WalkSpells
import Derived.WalkLawsBesides
import Derived.BigQuiet
import Derived.Deep.QuietTactic
import Derived.Deep.DeepFit
import Derived.Deep.DeepMust
import Derived.Deep.LoopGhost
import Derived.Outline
import Derived.Lib.Hide
import Derived.Lib.SlBytesConst
import Derived.OpenShut
import Derived.Laws.AppendOwnNone
import Derived.Deep.AppendSrc
import Derived.Deep.Upon
import Derived.Laws.IdiomStrings
import Derived.Laws.BytesArg
import Derived.Lib.ConvBytes
import Derived.RegionTactic
import Derived.ChangeAlike
import Derived.BigRegion
import Derived.Deep.RegionWith
import Derived.Lib.Strings
import Derived.Deep.Slices
import Derived.Deep.Fields
import Derived.ChangeSame
import Derived.ProofKit
import Derived.Deep.AppendLies
import Derived.Deep.RegionLaw
import Derived.Maps.OwnSet
import Derived.Maps.Views
import Derived.Test.YtinkbgeckjbnbaaGreatRows
import Init.Data.List.Lemmas
import Derived.Laws.RangeAny
import Derived.Laws.RangeString
import Derived.Lib.RuneCount
import Derived.Lib.Bytealg
import Derived.StillTailTactics
import Derived.Deep.RegionHeld3
import Derived.Laws.StructEq
import Derived.OwnWalk
import Derived.Laws.OwnMore
import Derived.Deep.DeepCutAuto
namespace Go.Proofs.YtinkbgeckjbnbaaGreat
section
open Go.RowKit
set_option linter.unusedVariables false

/-- A slice value reads as the cells 'xs' (one cell an element). -/
def Rd (w : World) (a : Option Addr) (n c : Nat) (xs : List Value) : Prop :=
  xs.length = n ∧ n ≤ c ∧ c ≤ maxLen ∧ (a = none → c = 0) ∧ ∀ i, i < n → ∃ b off, a = some ⟨b, off, none⟩ ∧ b < w.heap.size ∧ w.cell? ⟨b, off + i, none⟩ = xs[i]?

set_option maxRecDepth 100000 in
theorem ret_int {k : IntKind} {a b : Int} (h : a = b) : Ending.returned (.int k a) = .returned (.int k b) := by rw [h]
set_option maxRecDepth 100000 in
theorem cell?_lt {w : World} {a : Addr} {v : Value} (h : w.cell? a = some v) : a.block < w.heap.size := by
  apply Classical.byContradiction; intro hn
  have : w.heap[a.block]? = none := by simp; omega
  simp [World.cell?, this] at h

set_option maxRecDepth 100000 in
theorem Rd.below {w w' : World} {a : Option Addr} {n c B : Nat} {xs : List Value} (h : Rd w a n c xs) (hb : Below B w w') (hB : B = w.heap.size) : Rd w' a n c xs := by
  obtain ⟨h1, h2, h3, h4, h5⟩ := h
  subst hB
  refine ⟨h1, h2, h3, h4, fun i hi => ?_⟩
  obtain ⟨b, off, e, hl, hc⟩ := h5 i hi
  exact ⟨b, off, e, Nat.lt_of_lt_of_le hl hb.size, by rw [hb.cell (p := ⟨b, off + i, none⟩) hl]; exact hc⟩

/-- bytes as cells -/
def u8s (l : List Nat) : List Value := l.map fun (x : Nat) => Value.int .u8 (x : Int)
set_option maxRecDepth 100000 in
theorem u8s_length (l : List Nat) : (u8s l).length = l.length := by simp [u8s]
def Drew (w w' : World) : Prop := ∃ n, w' = w.drewN n
set_option maxRecDepth 100000 in
theorem Drew.refl (w : World) : Drew w w := ⟨0, rfl⟩
set_option maxRecDepth 100000 in
theorem Drew.one (w : World) (n : Nat) : Drew w (w.drewN n) := ⟨n, rfl⟩
set_option maxRecDepth 100000 in
theorem Drew.two (w : World) (n m : Nat) : Drew w ((w.drewN n).drewN m) := ⟨n + m, by rw [World.drewN_drewN]⟩
set_option maxRecDepth 100000 in
theorem Drew.below {w w' : World} (h : Drew w w') (B : Nat) : Below B w w' := by obtain ⟨n, rfl⟩ := h; exact below_drewN (Below.refl _ _) n

/-- Block 'g' is a row of the call's own that holds 'cs'. -/
def Blk (w : World) (g : Nat) (e : TypeId) (cs : List Value) : Prop := w.heap[g]? = some (.cells cs.toArray e (0, 0))
set_option maxRecDepth 100000 in
theorem Blk.cell {w : World} {g : Nat} {e : TypeId} {cs : List Value} (h : Blk w g e cs) (j : Nat) : w.cell? ⟨g, j, none⟩ = cs[j]? := by
  rw [cell_of_row w g j _ e (0, 0) h]; simp
set_option maxRecDepth 100000 in
theorem Blk.frozen {w : World} {g : Nat} {e : TypeId} {cs : List Value} (h : Blk w g e cs) (j : Nat) : w.frozen? ⟨g, j, none⟩ = false := frozen_of_row w g j _ e h
set_option maxRecDepth 100000 in
theorem Blk.lt {w : World} {g : Nat} {e : TypeId} {cs : List Value} (h : Blk w g e cs) : g < w.heap.size := (Array.getElem?_eq_some_iff.1 h).1
set_option maxRecDepth 100000 in
theorem Blk.set {w : World} {g : Nat} {e : TypeId} {cs : List Value} (h : Blk w g e cs) (j : Nat) (u : Value) : Blk (w.setCell ⟨g, j, none⟩ u) g e (cs.set j u) := by
  unfold Blk at *
  rw [heap_setCell_same w g j _ e u h]; simp
set_option maxRecDepth 100000 in
theorem Blk.below {w w' : World} {g : Nat} {e : TypeId} {cs : List Value} (h : Blk w g e cs) {B : Nat} (hb : Below B w w') (hg : g < B) : Blk w' g e cs := by
  unfold Blk at *; rw [hb.block g hg]; exact h
set_option maxRecDepth 100000 in
theorem Blk.drewN {w : World} {g : Nat} {e : TypeId} {cs : List Value} (h : Blk w g e cs) (n : Nat) : Blk (w.drewN n) g e cs := h
set_option maxRecDepth 100000 in
theorem Blk.alloc {w : World} {g : Nat} {e : TypeId} {cs : List Value} (h : Blk w g e cs) (o : Obj) : Blk (w.alloc o) g e cs := by
  unfold Blk at *; rw [Below.heap_alloc w o g (Blk.lt h)]; exact h
set_option maxRecDepth 100000 in
theorem Blk.rd {w : World} {g : Nat} {e : TypeId} {cs : List Value} (h : Blk w g e cs) (n c : Nat) (xs : List Value) (hx : xs.length = n) (hn : n ≤ c) (hc : c ≤ maxLen) (hp : ∀ i, i < n → cs[i]? = xs[i]?) : Rd w (some ⟨g, 0, none⟩) n c xs :=
  ⟨hx, hn, hc, by simp, fun i hi => ⟨g, 0, rfl, h.lt, by rw [h.cell, ← hp i hi]; simp⟩⟩
set_option maxRecDepth 100000 in
theorem Rd.nil0 {w : World} {a : Option Addr} {n c : Nat} {xs : List Value} (h : Rd w a n c xs) : a = none → n = 0 ∧ c = 0 := fun e => by
  have := h.2.2.2.1 e; have := h.2.1; omega
set_option maxRecDepth 100000 in
/-- what an owned row is, as a block -/
theorem ownsRow_blk {w : World} {base e g n cap size : Nat} {xs : List Value} (h : w.ownsRow base e size (.slice (some ⟨g, 0, none⟩) n cap) n xs) :
    ∃ spare : List Value, spare.length + n * size = cap * size ∧ Blk w g e (xs ++ spare) := by
  rcases h.2 with ⟨h', _⟩ | ⟨g', cap', cur, h', hb, hg, hn, _, hs, htake⟩
  · simp at h'
  · simp only [Value.slice.injEq, Option.some.injEq, Addr.mk.injEq, and_true, true_and] at h'
    obtain ⟨rfl, rfl⟩ := h'
    refine ⟨cur.toList.drop (n * size), ?_, ?_⟩
    · have := Nat.mul_le_mul_right size hn
      simp [hs]; omega
    · unfold Blk
      rw [← htake, List.take_append_drop]; simpa using hg
set_option maxRecDepth 100000 in
theorem ownsRow_shape {w : World} {base : Nat} {e : TypeId} {size : Nat} {v : Value} {n : Nat} {xs : List Value} (h : w.ownsRow base e size v n xs) : ∃ ao cap, v = .slice ao n cap := by
  rcases h.2 with ⟨rfl, rfl⟩ | ⟨g, cap, cur, rfl, _⟩
  · exact ⟨none, 0, rfl⟩
  · exact ⟨_, _, rfl⟩

set_option maxRecDepth 100000 in
theorem ownsRow_rd {w : World} {base : Nat} {e : TypeId} {ao : Option Addr} {n cap : Nat} {xs : List Value} (h : w.ownsRow base e 1 (.slice ao n cap) n xs) : Rd w ao n cap xs := by
  have hl : xs.length = n := by simpa using h.1
  rcases h.2 with ⟨h', rfl⟩ | ⟨g, cap', cur, h', _, hg, hn, hm, hs, htake⟩
  · simp at h'; obtain ⟨rfl, rfl⟩ := h'
    exact ⟨hl, Nat.le_refl _, by unfold maxLen; omega, fun _ => rfl, fun i hi => by omega⟩
  · simp only [Value.slice.injEq] at h'
    obtain ⟨rfl, _, rfl⟩ := h'
    refine ⟨hl, hn, hm, by simp, fun i hi => ⟨g, 0, rfl, (Array.getElem?_eq_some_iff.1 hg).1, ?_⟩⟩
    rw [cell_of_row w g _ cur e _ hg, ← htake, List.getElem?_take, if_pos (by omega)]
    simp

set_option maxRecDepth 100000 in
theorem ownsRow_below {w w' : World} {base : Nat} {e : TypeId} {size : Nat} {v : Value} {n : Nat} {xs : List Value} (h : w.ownsRow base e size v n xs) (hb : Below w.heap.size w w') : w'.ownsRow base e size v n xs :=
  h.kept (row := none) ⟨hb.os, hb.tape, hb.output, hb.size, fun k hk _ => hb.block k hk⟩ (by cases h1 : v.ownBlock <;> simp)

set_option maxRecDepth 100000 in
theorem Blk.setCells {g : Nat} {e : TypeId} : ∀ (news : List Value) {w : World} {cs : List Value} (h : Blk w g e cs) (o : Nat) (hl : o + news.length ≤ cs.length),
    Blk (w.setCells g o news) g e (cs.take o ++ (news ++ cs.drop (o + news.length))) := by
  intro news
  induction news with
  | nil => intro w cs h o hl; simpa [World.setCells] using h
  | cons u r ih =>
    intro w cs h o hl
    simp only [List.length_cons] at hl
    have h1 := ih (h.set o u) (o + 1) (by simp; omega)
    rw [World.setCells]
    have e1 : (cs.set o u).take (o + 1) ++ (r ++ (cs.set o u).drop (o + 1 + r.length)) = cs.take o ++ (u :: r ++ cs.drop (o + (u :: r).length)) := by
      rw [List.take_succ_eq_append_getElem (by simp; omega), List.take_set_of_le (by omega), List.drop_set_of_lt (by omega)]
      simp [show o + 1 + r.length = o + (r.length + 1) by omega]
    rw [e1] at h1; exact h1

set_option maxRecDepth 100000 in
theorem setCells_rest (g : Nat) : ∀ (vs : List Value) (o : Nat) (w : World), (w.setCells g o vs).os = w.os ∧ (w.setCells g o vs).tape = w.tape ∧ (w.setCells g o vs).output = w.output ∧ (w.setCells g o vs).heap.size = w.heap.size := by
  intro vs
  induction vs with
  | nil => intro o w; exact ⟨rfl, rfl, rfl, rfl⟩
  | cons u r ih =>
    intro o w
    obtain ⟨h1, h2, h3, h4⟩ := ih (o + 1) (w.setCell ⟨g, o, none⟩ u)
    rw [World.setCells]
    refine ⟨h1, h2, h3, h4.trans ?_⟩
    simp [World.setCell]
set_option maxRecDepth 100000 in
theorem Src.one' {P : Program} {tx e' : TypeId} (hk : P.underlying tx = some (.slice e')) (w : World) (u : Value) (e : TypeId) (h1 : u.oneCell' = true) : Src P 1 tx (.slice (some ⟨w.heap.size, 0, none⟩) 1 1) 1 [u] (w.alloc (.cells #[u] e)) := by
  refine Src.ofSlice _ hk _ 1 1 [u] rfl ?_ (by intro x hx; simp at hx; subst hx; exact h1)
  intro j x hj
  match j, hj with
  | 0, hj => simp at hj; subst hj; rw [Addr.add_lit, cell_of_row _ _ _ _ e (0, 0) (heap_alloc_new w _)]; simp
set_option maxRecDepth 100000 in
theorem run_append_own_src {P : Program} (w : World) (base : Nat) (t tx ty e : TypeId) (i : TypeInfo) (z : Value) (size bytes : Nat) (ht : P.underlying t = some (.slice e)) (hi : P.info? e = some i) (hz : i.zero = some z)
    (hsize : i.size = size) (hby : i.bytes = bytes) (hzs : z.cells.size = size) (hsz : 0 < size)
    (v : Value) (n : Nat) (xs : List Value) (hown : w.ownsRow base e size v n xs)
    (x : Value) (m : Nat) (news : List Value) (hs : Src P size tx x m news w)
    (h63 : n + m ≤ maxLen) (hbytes : (n + m) * bytes ≤ 140737488355328) (hbase : base ≤ w.heap.size) :
    ∃ v' w', (Builtin.append_ #[t, tx] ty #[v, x]).run P w = .ok v' w' ∧ w'.ownsRow base e size v' (n + m) (xs ++ news) ∧ w.grownBy w' v.ownBlock := by
  subst hsize
  subst hby
  have hl := hs.newsLen
  have hsmall : n + m ≤ 9223372036854775807 := by simp only [maxLen] at h63; omega
  have hlen : (xs ++ news).length = (n + m) * i.size := by rw [List.length_append, hown.1, hl, Nat.add_mul]
  have grown : ∀ (old : Nat), old < n + m → ∀ (row : Option Nat),
      (w.drew.alloc (.cells ((xs ++ news).toArray ++ Builtin.zeroCells z.cells (grownCap w (n + m) old e - (n + m))) e)).ownsRow base e i.size
        (.slice (some ⟨w.heap.size, 0, none⟩) (n + m) (grownCap w (n + m) old e)) (n + m) (xs ++ news) ∧
      w.grownBy (w.drew.alloc (.cells ((xs ++ news).toArray ++ Builtin.zeroCells z.cells (grownCap w (n + m) old e - (n + m))) e)) row := by
    intro old ho row
    have hge := grownCap_ge w (n + m) old e
    have hcm : grownCap w (n + m) old e ≤ maxLen := grownCap_le_maxLen w (n + m) old e h63
    refine ⟨⟨hlen, .inr ⟨w.heap.size, _, _, rfl, hbase, heap_alloc_new w.drew _, hge, hcm, ?_, ?_⟩⟩, ⟨rfl, rfl, rfl, by simp, fun k hk _ => heap_alloc_old w.drew _ hk⟩⟩
    · rw [Array.size_append, List.size_toArray, size_zeroCells, hzs, hlen, ← Nat.add_mul]
      congr 1
      omega
    · rw [Array.toList_append, ← hlen]
      exact List.take_left
  rcases hown.2 with ⟨rfl, rfl⟩ | ⟨g, cap, cur, rfl, hbg, hg, hnc, hcm, hcs, htake⟩
  · obtain rfl : xs = [] := List.eq_nil_of_length_eq_zero (by simpa using hown.1)
    by_cases hm : m = 0
    · subst hm
      obtain rfl : news = [] := List.eq_nil_of_length_eq_zero (by simpa using hl)
      refine ⟨.slice none 0 0, w, ?_, World.ownsRow_nil w base e i.size, World.grownBy.refl _ _⟩
      have hc := hs.cells
      rcases hs.kind with ⟨e', hk⟩ | hk <;> simp [Builtin.append_, run_underlying ht, run_underlying hk, sizeOf, typeInfo, hi, hs.len, hc]
    · have hr := run_append_grow_src (P := P) w t tx ty e i z ht hi hz none 0 0 [] (run_firstCells_none w.drew i.size 0 0 0) x m news hs (by omega) (by omega) (growslice_fits (by omega) hbytes)
      have hgr := grown 0 (by omega) (Value.ownBlock (.slice none 0 0))
      exact ⟨_, _, hr, hgr.1, hgr.2⟩
  · by_cases hroom : n + m ≤ cap
    · have hfit : n * i.size + news.length ≤ cur.size := by rw [hl, hcs, ← Nat.add_mul]; exact Nat.mul_le_mul_right _ hroom
      have hblk : Blk w g e cur.toList := by unfold Blk; simpa using hg
      have hr := run_append_room_src (P := P) w t tx ty e i ht hi g 0 n cap x m news hs hroom (by
          intro j hj; rw [hblk.cell]; simp; omega) (by intro j _; exact hblk.frozen _)
      rw [Nat.zero_add] at hr
      have hb2 := hblk.setCells news (n * i.size) (by simpa using hfit)
      refine ⟨_, _, hr, ⟨hlen, .inr ⟨g, cap, _, rfl, hbg, hb2, hroom, hcm, ?_, ?_⟩⟩, ⟨(setCells_rest g news _ w).1, (setCells_rest g news _ w).2.1, (setCells_rest g news _ w).2.2.1, Nat.le_of_eq (setCells_rest g news _ w).2.2.2.symm, fun k hk1 hk => World.heap_setCells_other w g _ news hk1 (fun e => hk (by simp [Value.ownBlock, e]))⟩⟩
      · simp only [List.size_toArray, List.length_append, List.length_take, List.length_drop, Array.length_toList]
        omega
      · rw [htake, ← hlen, List.toList_toArray, ← List.append_assoc]
        exact List.take_left
    · have holds : ∀ j u, xs[j]? = some u → w.cell? ((⟨g, 0, none⟩ : Addr).add j) = some u := hown.cells (g := g) rfl
      have hr := run_append_grow_src (P := P) w t tx ty e i z ht hi hz (some ⟨g, 0, none⟩) n cap xs (run_firstCells_some w.drew i.size n ⟨g, 0, none⟩ n cap xs hown.1 (by simpa using holds)) x m news hs (by omega) (by omega) (growslice_fits (by omega) hbytes)
      have hgr := grown cap (by omega) (Value.ownBlock (.slice (some ⟨g, 0, none⟩) n cap))
      exact ⟨_, _, hr, hgr.1, hgr.2⟩

set_option maxRecDepth 100000 in
/-- 'append' onto the call's own slice, as a law for the walk. -/
theorem wpList_app {P : Program} {w : World} {ops : Array Oper} {rest : List Oper} {o : Oper} {a : Act} {Q : Exit → Act → World → Prop} (hgd : o.guard = none) (s x : Operand) (t tx : TypeId)
    (ho : o.op = .call { callee := .builtin .append, args := #[s, x], argTypes := #[t, tx] })
    (base : Nat) (e : TypeId) (i : TypeInfo) (z : Value) (size bytes : Nat) (ht : P.underlying t = some (.slice e)) (hi : P.info? e = some i) (hz : i.zero = some z)
    (hsize : i.size = size) (hby : i.bytes = bytes) (hzs : z.cells.size = size) (hsz : 0 < size)
    (so : Option Addr) (n sc : Nat) (xs : List Value) (hs : a.eval s = .slice so n sc) (hown : w.ownsRow base e size (.slice so n sc) n xs)
    (xv : Value) (m : Nat) (news : List Value) (hx : a.eval x = xv) (hsrc : Src P size tx xv m news w)
    (h63 : n + m ≤ maxLen) (hbytes : (n + m) * bytes ≤ 140737488355328) (hbase : base ≤ w.heap.size)
    (h : ∀ ao' cap' w', w'.ownsRow base e size (.slice ao' (n + m) cap') (n + m) (xs ++ news) → w.grownBy w' (Value.ownBlock (.slice so n sc)) → wpList P ops Q rest (a.put o.dst (.slice ao' (n + m) cap')) w') : wpList P ops Q (o :: rest) a w := by
  refine wpList_plain hgd fun K hK => ?_
  obtain ⟨v', w', hr, h2, h3⟩ := run_append_own_src (P := P) w base t tx o.type e i z size bytes ht hi hz hsize hby hzs hsz _ n xs hown xv m news hsrc h63 hbytes hbase
  obtain ⟨ao', cap', rfl⟩ := ownsRow_shape h2
  unfold Oper.wp execOp
  simp only [ho, resolve, invoke, builtin, Sem.run_bind, Sem.run_pure, Result.andThen_ok, List.map_toArray, List.map_cons, List.map_nil, hs, hx, hr]
  exact hK _ _ (h ao' cap' w' h2 h3)

set_option maxRecDepth 100000 in
theorem rd_nil (w : World) (xs : List Value) (h : xs = []) : Rd w none 0 0 xs := by
  subst h; exact ⟨rfl, Nat.le_refl _, by unfold maxLen; omega, fun _ => rfl, fun i hi => by omega⟩

set_option maxRecDepth 100000 in
theorem ownsRow_some {w : World} {base : Nat} {e : TypeId} {size : Nat} {ao : Option Addr} {n cap : Nat} {xs : List Value} (h : w.ownsRow base e size (.slice ao n cap) n xs) (hn : 0 < n) : ∃ g, ao = some ⟨g, 0, none⟩ ∧ base ≤ g := by
  rcases h.2 with ⟨h', rfl⟩ | ⟨g, cap', cur, h', hb, _⟩
  · omega
  · simp at h'; obtain ⟨rfl, _⟩ := h'; exact ⟨g, rfl, hb⟩
set_option maxRecDepth 100000 in
theorem grownBy_trans {a b c : World} {row : Option Nat} (h : a.grownBy b row) (k : b.grownBy c row) : a.grownBy c row :=
  ⟨k.os.trans h.os, k.tape.trans h.tape, k.output.trans h.output, Nat.le_trans h.size k.size, fun i hi hne => (k.block i (Nat.lt_of_lt_of_le hi h.size) hne).trans (h.block i hi hne)⟩
set_option maxRecDepth 100000 in
theorem Rd.grown {w w' : World} {a : Option Addr} {n c : Nat} {xs : List Value} {row : Option Nat} (h : Rd w a n c xs) (hg : w.grownBy w' row) (hne : ∀ b off, a = some ⟨b, off, none⟩ → some b ≠ row) : Rd w' a n c xs := by
  obtain ⟨h1, h2, h3, h4, h5⟩ := h
  refine ⟨h1, h2, h3, h4, fun i hi => ?_⟩
  obtain ⟨b, off, e, hl, hc⟩ := h5 i hi
  refine ⟨b, off, e, Nat.lt_of_lt_of_le hl hg.size, ?_⟩
  rw [World.cell?_of_block (w := w) (hg.block b hl (hne b off e)), hc]

def lowI (x : Int) (n : Int) : Int := IntKind.u64.wrap x % n
set_option maxRecDepth 100000 in
theorem wrap_u64 (n : Int) : IntKind.u64.wrap n = n % 18446744073709551616 := by simp [IntKind.wrap, IntKind.bits, IntKind.signed]

set_option maxRecDepth 100000 in
theorem lowI_bd (x n : Int) (h1 : 1 ≤ n) : 0 ≤ lowI x n ∧ lowI x n < n := ⟨Int.emod_nonneg _ (by omega), Int.emod_lt_of_pos _ (by omega)⟩
set_option maxRecDepth 100000 in
theorem low_eq (x n : Int) (h1 : 1 ≤ n) (h2 : n ≤ 9223372036854775807) : wrap64 ((IntKind.u64.wrap x).tmod n) = lowI x n := by
  have h0 : 0 ≤ IntKind.u64.wrap x := by rw [wrap_u64]; omega
  have hb := lowI_bd x n h1
  rw [Int.tmod_eq_emod_of_nonneg h0]
  show wrap64 (lowI x n) = lowI x n
  exact IntWalk.wrap64_in _ ⟨by omega, by omega⟩


set_option maxRecDepth 100000 in
theorem flatMap_get {α β : Type} (f : α → List β) (n : Nat) (hf : ∀ x, (f x).length = n) : ∀ (l : List α) (i j : Nat), j < n → (l.flatMap f)[i * n + j]? = (l[i]?).bind fun x => (f x)[j]? := by
  intro l
  induction l with
  | nil => intro i j _; simp
  | cons a r ih =>
    intro i j hj
    rw [List.flatMap_cons]
    cases i with
    | zero => rw [Nat.zero_mul, Nat.zero_add, List.getElem?_append_left (by rw [hf]; exact hj)]; simp
    | succ i =>
      rw [List.getElem?_append_right (by rw [hf, Nat.add_mul]; omega), hf, show (i + 1) * n + j - n = i * n + j by rw [Nat.add_mul]; omega, ih i j hj]; simp
set_option maxRecDepth 100000 in
theorem flatMap_set {α β : Type} (f : α → List β) (n : Nat) (hf : ∀ x, (f x).length = n) : ∀ (l : List α) (i j : Nat) (v : β) (x x' : α), l[i]? = some x → j < n → f x' = (f x).set j v → (l.flatMap f).set (i * n + j) v = (l.set i x').flatMap f := by
  intro l
  induction l with
  | nil => intro i j v x x' h; simp at h
  | cons a r ih =>
    intro i j v x x' h hj he
    cases i with
    | zero =>
      simp at h; subst h
      rw [List.flatMap_cons, Nat.zero_mul, Nat.zero_add, List.set_append_left _ _ (by rw [hf]; exact hj), ← he]; simp
    | succ i =>
      rw [List.flatMap_cons, List.set_append_right _ _ (by rw [hf, Nat.add_mul]; omega), hf, show (i + 1) * n + j - n = i * n + j by rw [Nat.add_mul]; omega, ih i j v x x' (by simpa using h) hj he]; simp
set_option maxRecDepth 100000 in
theorem flatMap_len {α β : Type} (f : α → List β) (n : Nat) (hf : ∀ x, (f x).length = n) (l : List α) : (l.flatMap f).length = l.length * n := by
  induction l with
  | nil => simp
  | cons a r ih => rw [List.flatMap_cons, List.length_append, hf, ih, List.length_cons, Nat.add_mul]; omega

end
end Go.Proofs.YtinkbgeckjbnbaaGreat
namespace Go.Proofs.YtinkbgeckjbnbaaGreat
section
open Go.RowKit Go.ChangeShapes Go.WideShapes Go.Deep
set_option linter.unusedVariables false

def RdE {α : Type} (enc : α → List Value) (size : Nat) (w : World) (a : Option Addr) (n c : Nat) (l : List α) : Prop :=
  l.length = n ∧ n ≤ c ∧ c ≤ maxLen ∧ (a = none → c = 0) ∧ ∀ i x, l[i]? = some x → ∃ b off, a = some ⟨b, off, none⟩ ∧ b < w.heap.size ∧ ∀ j, j < size → w.cell? ⟨b, off + i * size + j, none⟩ = (enc x)[j]?
set_option maxRecDepth 100000 in
theorem RdE.below {α : Type} {enc : α → List Value} {size : Nat} {w w' : World} {a : Option Addr} {n c B : Nat} {l : List α} (h : RdE enc size w a n c l) (hb : Below B w w') (hB : B = w.heap.size) : RdE enc size w' a n c l := by
  obtain ⟨h1, h2, h3, h4, h5⟩ := h
  subst hB
  refine ⟨h1, h2, h3, h4, fun i x hi => ?_⟩
  obtain ⟨b, off, e, hl, hc⟩ := h5 i x hi
  exact ⟨b, off, e, Nat.lt_of_lt_of_le hl hb.size, fun j hj => by rw [hb.cell (p := ⟨b, off + i * size + j, none⟩) hl]; exact hc j hj⟩
set_option maxRecDepth 100000 in
theorem RdE.nil0 {α : Type} {enc : α → List Value} {size : Nat} {w : World} {a : Option Addr} {n c : Nat} {l : List α} (h : RdE enc size w a n c l) : a = none → n = 0 ∧ c = 0 := fun e => by
  have := h.2.2.2.1 e; have := h.2.1; omega

section
variable {H : Type} {enc : TypeId × Value → H} {P : Program} {w : World} {base : Nat} {spare : Nat → Bool} {held : Bool}
set_option maxRecDepth 100000 in
theorem open_slice_fields {t e : TypeId} {fs : Array Field} {fuel : Nat} {cs : List Value} {x : DataW H × List MemPlace} (ht : P.underlying t = some (.slice e)) (he : P.underlying e = some (.struct fs))
    (hone : oneCellFields P fs = true) (hC : P.cellsOf e = fs.size) (h : DataW.trod enc P w base spare held fuel t cs = some x) :
    (cs = [.slice none 0 0] ∧ x = (.nil, [])) ∨
    ∃ (a : Addr) (len cap m : Nat) (D : Nat → DataW H) (Pl : Nat → List MemPlace), cs = [.slice (some a) len cap] ∧ base ≤ a.block ∧ len ≤ cap ∧ cap ≤ maxLen ∧ m = (if spare a.block then cap else len) ∧
      x = (.slice ((List.range len).map D) ((List.range (m - len)).map fun j => D (len + j)), MemPlace.row a (m * fs.size) ++ (List.range m).flatMap Pl) ∧
      ∀ i, i < m → ∃ (ys : List (DataW H × List MemPlace)) (n : Nat), D i = .agg (ys.map (·.1)) ∧ Pl i = ys.flatMap (·.2) ∧ ys.length = fs.size ∧
        ∀ (j : Nat) (f : Field), fs[j]? = some f → ∃ (v : Value) (y : DataW H × List MemPlace), w.cell? (a.add (i * fs.size + j)) = some v ∧ ys[j]? = some y ∧ DataW.trod enc P w base spare held n f.type [v] = some y := by
  rcases open_slice ht h with h0 | ⟨a, len, cap, m, n, D, Pl, hcs, hb, hl, hm, hmm, hx, hi⟩
  · exact .inl h0
  · refine .inr ⟨a, len, cap, m, D, Pl, hcs, hb, hl, hm, hmm, by rw [hC] at hx; exact hx, fun i him => ?_⟩
    obtain ⟨cs', hc, ht'⟩ := hi i him
    rw [hC] at hc
    obtain ⟨ys, n', hn', hy, hlen, hyl, hf⟩ := DataW.trod_struct he ht'
    obtain ⟨_, hcl, hat⟩ := World.cells?_some hc
    simp only [Prod.mk.injEq] at hy
    refine ⟨ys, n', hy.1, hy.2, hyl, fun j f hj => ?_⟩
    obtain ⟨ho, hk⟩ := hone_of hone j f hj
    have hjl : j < fs.size := (Array.getElem?_eq_some_iff.1 hj).1
    have hcell := hat j hjl
    have hv : cs'[j]? = some (cs'[j]'(by omega)) := List.getElem?_eq_getElem (by omega)
    have h1 := hf j f hj
    rw [ho, hk] at h1
    have hone' : (cs'.drop j).take 1 = [cs'[j]'(by omega)] := by
      rw [List.drop_eq_getElem_cons (by omega)]
      rfl
    rw [hone'] at h1
    have hys : ys[j]? = some (ys[j]'(by omega)) := List.getElem?_eq_getElem (by omega)
    refine ⟨_, _, ?_, hys, h1.trans hys⟩
    rw [← Go.Deep.add_add, hcell, hv]

set_option maxRecDepth 100000 in
/-- An argument that is a slice of structs of one-cell fields reads as a list, where each element's cells can be told by 'dec': from the fields' readings toV an element. -/
theorem open_rdE {α : Type} (en : α → List Value) (hinh : Nonempty α) {t e : TypeId} {fs : Array Field} {d : DataW H} {p : List MemPlace} (ht : P.underlying t = some (.slice e)) (he : P.underlying e = some (.struct fs))
    (hone : oneCellFields P fs = true) (hC : P.cellsOf e = fs.size) {a : Option Addr} {len cap : Nat} (good : α → Prop)
    (dec : ∀ (vs : Nat → Value) , (∀ j f, fs[j]? = some f → ∃ (n : Nat) (y : DataW H × List MemPlace), DataW.trod enc P w base spare held n f.type [vs j] = some y) → ∃ x : α, good x ∧ ∀ j, j < fs.size → (en x)[j]? = some (vs j))
    (h : DataW.Trod enc P w base spare held t (.slice a len cap) d p) (hsp : fs.size ≠ 0) : ∃ l : List α, RdE en fs.size w a len cap l ∧ ∀ x ∈ l, good x := by
  obtain ⟨fuel, hf⟩ := h
  rcases open_slice_fields ht he hone hC hf with ⟨hcs, _⟩ | ⟨ad, len', cap', m, D, Pl, hcs, _, hl, hm, hmm, _, hi⟩
  · simp [Value.cells] at hcs
    obtain ⟨rfl, rfl, rfl⟩ := hcs
    exact ⟨[], ⟨rfl, Nat.le_refl _, by unfold maxLen; omega, fun _ => rfl, fun i x hx => by simp at hx⟩, by simp⟩
  · simp [Value.cells] at hcs
    obtain ⟨rfl, rfl, rfl⟩ := hcs
    have hlm : len ≤ m := by rw [hmm]; split <;> omega
    have hex : ∀ i, i < len → ∃ x : α, good x ∧ ∀ j, j < fs.size → w.cell? (ad.add (i * fs.size + j)) = (en x)[j]? := by
      intro i hil
      obtain ⟨ys, n, _, _, _, hfld⟩ := hi i (by omega)
      have hv : ∀ j, ∃ v, (∀ f, fs[j]? = some f → w.cell? (ad.add (i * fs.size + j)) = some v ∧ ∃ (n' : Nat) (y : DataW H × List MemPlace), DataW.trod enc P w base spare held n' f.type [v] = some y) := by
        intro j
        by_cases hj : j < fs.size
        · obtain ⟨v, y, h1, _, h3⟩ := hfld j fs[j] (Array.getElem?_eq_getElem hj)
          refine ⟨v, fun f hf' => ?_⟩
          rw [Array.getElem?_eq_getElem hj] at hf'
          obtain rfl := Option.some.inj hf'
          exact ⟨h1, n, y, h3⟩
        · refine ⟨undef, fun f hf' => ?_⟩
          rw [Array.getElem?_eq_none (by omega)] at hf'; simp at hf'
      obtain ⟨vs, hvs⟩ := Classical.axiomOfChoice hv
      obtain ⟨x, hg, hx⟩ := dec vs (fun j f hjf => (hvs j f hjf).2)
      exact ⟨x, hg, fun j hj => by rw [hx j hj]; exact (hvs j fs[j] (Array.getElem?_eq_getElem hj)).1⟩
    have hchoose : ∃ g : Nat → α, ∀ i, i < len → good (g i) ∧ ∀ j, j < fs.size → w.cell? (ad.add (i * fs.size + j)) = (en (g i))[j]? := by
      have hex' : ∀ i, ∃ x : α, i < len → good x ∧ ∀ j, j < fs.size → w.cell? (ad.add (i * fs.size + j)) = (en x)[j]? := by
        intro i
        by_cases hil : i < len
        · obtain ⟨x, hx⟩ := hex i hil; exact ⟨x, fun _ => hx⟩
        · obtain ⟨x⟩ := hinh; exact ⟨x, fun h => absurd h hil⟩
      exact Classical.axiomOfChoice hex'
    obtain ⟨g, hg⟩ := hchoose
    refine ⟨(List.range len).map g, ⟨by simp, hl, hm, by simp, fun i x hx => ?_⟩, fun x hx => ?_⟩
    · have hil : i < len := by
        have := (List.getElem?_eq_some_iff.1 hx).1; simpa using this
      have hx' : x = g i := by simp [hil] at hx; exact hx.symm
      subst hx'
      obtain ⟨b, off, spot⟩ := ad
      have hcell := (hg i hil).2
      have hc0 := (hg 0 (by omega)).2 0 (by omega)
      rw [Nat.zero_mul] at hc0
      obtain ⟨v0, hv0⟩ : ∃ v0, w.cell? (({ block := b, off := off, spot := spot } : Addr).add (0 + 0)) = some v0 := by
        obtain ⟨ys, n, _, _, _, hfld⟩ := hi 0 (by omega)
        obtain ⟨v, y, h1, _, h3⟩ := hfld 0 (fs[0]'(by omega)) (Array.getElem?_eq_getElem (by omega))
        rw [Nat.zero_mul] at h1
        exact ⟨v, h1⟩
      have hspot : spot = none := by simpa [Addr.add] using World.cell?_spot hv0
      subst hspot
      have hlt := cell?_lt hv0
      rw [Addr.add_lit] at hlt
      refine ⟨b, off, rfl, hlt, fun j hj => ?_⟩
      have := hcell j hj
      rw [Addr.add_lit] at this
      rw [← this, Nat.add_assoc]
    · simp only [List.mem_map, List.mem_range] at hx
      obtain ⟨i, hi', rfl⟩ := hx
      exact (hg i hi').1
end
end
end Go.Proofs.YtinkbgeckjbnbaaGreat
namespace Go.Proofs.YtinkbgeckjbnbaaGreat
section
open Go.RowKit Go.Deep
set_option linter.unusedVariables false

set_option maxRecDepth 100000 in
theorem RdE.take {α : Type} {enc : α → List Value} {size : Nat} {w : World} {a : Option Addr} {n c : Nat} {l : List α} (h : RdE enc size w a n c l) (k : Nat) (hk : k ≤ n) : RdE enc size w a k c (l.take k) := by
  obtain ⟨h1, h2, h3, h4, h5⟩ := h
  refine ⟨by rw [List.length_take]; omega, by omega, h3, h4, fun i x hx => ?_⟩
  rw [List.getElem?_take] at hx
  split at hx
  · exact h5 i x hx
  · simp at hx
set_option maxRecDepth 100000 in
theorem RdE.drop {α : Type} {enc : α → List Value} {size : Nat} {w : World} {b off n c : Nat} {l : List α} (h : RdE enc size w (some ⟨b, off, none⟩) n c l) (i : Nat) (hi : i ≤ n) (o' : Nat) (ho : i < n → o' = off + i * size) : RdE enc size w (some ⟨b, o', none⟩) (n - i) (c - i) (l.drop i) := by
  obtain ⟨h1, h2, h3, h4, h5⟩ := h
  refine ⟨by rw [List.length_drop]; omega, by omega, by omega, by simp, fun k x hx => ?_⟩
  rw [List.getElem?_drop] at hx
  have hlt := (List.getElem?_eq_some_iff.1 hx).1
  obtain ⟨b', off', e, hl, hc⟩ := h5 (i + k) x hx
  simp only [Option.some.injEq, Addr.mk.injEq, and_true] at e
  obtain ⟨rfl, rfl⟩ := e
  refine ⟨b, o', rfl, hl, fun j hj => ?_⟩
  rw [ho (by omega), ← hc j hj]
  congr 2
  rw [Nat.add_mul]; omega
set_option maxRecDepth 100000 in
theorem RdE.cells {α : Type} {enc : α → List Value} {size : Nat} (henc : ∀ x, (enc x).length = size) {w : World} {ad : Addr} {n c : Nat} {l : List α} (h : RdE enc size w (some ad) n c l) : ∀ j u, (l.flatMap enc)[j]? = some u → w.cell? (ad.add j) = some u := by
  intro j u hu
  have hl := flatMap_len enc size henc l
  have hj : j < l.length * size := by rw [← hl]; exact (List.getElem?_eq_some_iff.1 hu).1
  have hs : 0 < size := by
    rcases Nat.eq_zero_or_pos size with h0 | h0
    · rw [h0] at hj; simp at hj
    · exact h0
  have hr : j % size < size := Nat.mod_lt _ hs
  have hq : j / size < l.length := Nat.div_lt_of_lt_mul (by rw [Nat.mul_comm]; exact hj)
  have hdm : j / size * size + j % size = j := by rw [Nat.mul_comm]; exact Nat.div_add_mod j size
  rw [← hdm, flatMap_get enc size henc l _ _ hr, List.getElem?_eq_getElem hq] at hu
  obtain ⟨b, off, e, hb, hc⟩ := h.2.2.2.2 (j / size) _ (List.getElem?_eq_getElem hq)
  obtain rfl := Option.some.inj e
  rw [Addr.add_lit, ← hdm, ← Nat.add_assoc, hc _ hr]
  exact hu
set_option maxRecDepth 100000 in
theorem Src.ofRdE {P : Program} {tx e' : TypeId} (hk : P.underlying tx = some (.slice e')) {α : Type} {enc : α → List Value} {size : Nat} (henc : ∀ x, (enc x).length = size) (h1 : ∀ x, ∀ u ∈ enc x, u.oneCell' = true) {w : World} {a : Option Addr} {n c : Nat} {l : List α} (h : RdE enc size w a n c l) : Src P size tx (.slice a n c) n (l.flatMap enc) w := by
  cases a with
  | some ad =>
    refine Src.ofSlice w hk ad n c _ (by rw [flatMap_len enc size henc, h.1]) (h.cells henc) ?_
    intro u hu
    simp only [List.mem_flatMap] at hu
    obtain ⟨x, _, hx⟩ := hu
    exact h1 x u hx
  | none =>
    obtain ⟨rfl, rfl⟩ := h.nil0 rfl
    obtain rfl : l = [] := List.eq_nil_of_length_eq_zero h.1
    exact Src.ofNil w hk 0
set_option maxRecDepth 100000 in
theorem ownsRow_rdE {α : Type} {enc : α → List Value} {size : Nat} (henc : ∀ x, (enc x).length = size) {w : World} {base : Nat} {e : TypeId} {ao : Option Addr} {n cap : Nat} {l : List α} (hn : l.length = n) (h : w.ownsRow base e size (.slice ao n cap) n (l.flatMap enc)) : RdE enc size w ao n cap l := by
  rcases h.2 with ⟨h', h0⟩ | ⟨g, cap', cur, h', _, hg, hnc, hm, hs, htake⟩
  · simp at h'; obtain ⟨rfl, rfl, rfl⟩ := h'
    obtain rfl : l = [] := List.eq_nil_of_length_eq_zero hn
    exact ⟨rfl, Nat.le_refl _, by unfold maxLen; omega, fun _ => rfl, fun i x hx => by simp at hx⟩
  · simp only [Value.slice.injEq] at h'
    obtain ⟨rfl, _, rfl⟩ := h'
    refine ⟨hn, hnc, hm, by simp, fun i x hx => ⟨g, 0, rfl, (Array.getElem?_eq_some_iff.1 hg).1, fun j hj => ?_⟩⟩
    have hlt := (List.getElem?_eq_some_iff.1 hx).1
    have hb : i * size + j < n * size := by
      have : (i + 1) * size ≤ n * size := Nat.mul_le_mul_right _ (by omega)
      rw [Nat.add_mul] at this; omega
    rw [cell_of_row w g _ cur e _ hg, Nat.zero_add, ← Array.getElem?_toList]
    have := flatMap_get enc size henc l i j hj
    rw [hx, ← htake, List.getElem?_take, if_pos hb] at this
    exact this

set_option maxRecDepth 100000 in
/-- 'append' onto the call's own slice, at a step of a region that draws its order. -/
theorem step_app {P : Program} {w : World} {ops : Array Oper} {o : Oper} {a : Act} {K : Act → World → Prop} {Q : Exit → Act → World → Prop} {E : Prop} (hgd : o.guard = none) (s x : Operand) (t tx : TypeId)
    (ho : o.op = .call { callee := .builtin .append, args := #[s, x], argTypes := #[t, tx] })
    (base : Nat) (e : TypeId) (i : TypeInfo) (z : Value) (size bytes : Nat) (ht : P.underlying t = some (.slice e)) (hi : P.info? e = some i) (hz : i.zero = some z)
    (hsize : i.size = size) (hby : i.bytes = bytes) (hzs : z.cells.size = size) (hsz : 0 < size)
    (so : Option Addr) (n sc : Nat) (xs : List Value) (hs : a.eval s = .slice so n sc) (hown : w.ownsRow base e size (.slice so n sc) n xs)
    (xv : Value) (m : Nat) (news : List Value) (hx : a.eval x = xv) (hsrc : Src P size tx xv m news w)
    (h63 : n + m ≤ maxLen) (hbytes : (n + m) * bytes ≤ 140737488355328) (hbase : base ≤ w.heap.size)
    (h : ∀ ao' cap' w', w'.ownsRow base e size (.slice ao' (n + m) cap') (n + m) (xs ++ news) → w.grownBy w' (Value.ownBlock (.slice so n sc)) → K (a.put o.dst (.slice ao' (n + m) cap')) w') :
    if Region.wanted o (yielded ops a.tmps) = true then Oper.wp P o a w K Q else E := by
  have hw : Region.wanted o (yielded ops a.tmps) = true := by simp [Region.wanted, hgd]
  rw [if_pos hw]
  obtain ⟨v', w', hr, h2, h3⟩ := run_append_own_src (P := P) w base t tx o.type e i z size bytes ht hi hz hsize hby hzs hsz _ n xs hown xv m news hsrc h63 hbytes hbase
  obtain ⟨ao', cap', rfl⟩ := ownsRow_shape h2
  unfold Oper.wp execOp
  simp only [ho, resolve, invoke, builtin, Sem.run_bind, Sem.run_pure, Result.andThen_ok, List.map_toArray, List.map_cons, List.map_nil, hs, hx, hr]
  exact h ao' cap' w' h2 h3
set_option maxRecDepth 100000 in
theorem flat_get {α : Type} (enc : α → List Value) (size : Nat) (henc : ∀ x, (enc x).length = size) : ∀ (l : List α) (sp : List Value) (i : Nat) (x : α) (j : Nat), l[i]? = some x → j < size → (l.flatMap enc ++ sp)[i * size + j]? = (enc x)[j]?
  | [], _, i, x, j, h, _ => by simp at h
  | y :: l, sp, 0, x, j, h, hj => by
    simp at h; subst h
    rw [List.flatMap_cons, List.append_assoc, List.getElem?_append_left (by rw [henc]; omega)]; simp
  | y :: l, sp, i + 1, x, j, h, hj => by
    rw [List.flatMap_cons, List.append_assoc, List.getElem?_append_right (by rw [henc, Nat.add_mul]; omega), henc]
    have := flat_get enc size henc l sp i x j (by simpa using h) hj
    rw [← this]; congr 1; rw [Nat.add_mul]; omega
set_option maxRecDepth 100000 in
theorem Blk.rdE {α : Type} {enc : α → List Value} {size : Nat} {w : World} {g : Nat} {e : TypeId} {l : List α} {sp : List Value} (henc : ∀ x, (enc x).length = size) (h : Blk w g e (l.flatMap enc ++ sp)) (c : Nat) (h1 : l.length ≤ c) (h2 : c ≤ maxLen) : RdE enc size w (some ⟨g, 0, none⟩) l.length c l :=
  ⟨rfl, h1, h2, by simp, fun i x hx => ⟨g, 0, rfl, h.lt, fun j hj => by rw [Nat.zero_add, h.cell, flat_get enc size henc l sp i x j hx hj]⟩⟩

end
end Go.Proofs.YtinkbgeckjbnbaaGreat
namespace Go.Proofs.YtinkbgeckjbnbaaGreat
section
open Go.RowKit
set_option linter.unusedVariables false

/-- only blocks of S, and new ones, may have changed -/
structure Frm (S : Nat → Prop) (w w' : World) : Prop where
  os : w'.os = w.os
  tape : w'.tape = w.tape
  output : w'.output = w.output
  size : w.heap.size ≤ w'.heap.size
  block : ∀ k, k < w.heap.size → ¬ S k → w'.heap[k]? = w.heap[k]?
set_option maxRecDepth 100000 in
theorem Frm.refl (S : Nat → Prop) (w : World) : Frm S w w := ⟨rfl, rfl, rfl, Nat.le_refl _, fun _ _ _ => rfl⟩
set_option maxRecDepth 100000 in
theorem Frm.trans {S S' : Nat → Prop} {a b c : World} (h : Frm S a b) (k : Frm S' b c) (hs : ∀ i, S' i → i < a.heap.size → S i) : Frm S a c :=
  ⟨k.os.trans h.os, k.tape.trans h.tape, k.output.trans h.output, Nat.le_trans h.size k.size, fun i hi hn => (k.block i (Nat.lt_of_lt_of_le hi h.size) (fun e => hn (hs i e hi))).trans (h.block i hi hn)⟩
set_option maxRecDepth 100000 in
theorem Frm.mono {S S' : Nat → Prop} {a b : World} (h : Frm S a b) (hs : ∀ i, S i → i < a.heap.size → S' i) : Frm S' a b :=
  ⟨h.os, h.tape, h.output, h.size, fun i hi hn => h.block i hi (fun e => hn (hs i e hi))⟩
set_option maxRecDepth 100000 in
theorem Frm.grown {S : Nat → Prop} {a b : World} {row : Option Nat} (h : a.grownBy b row) (hs : ∀ g, row = some g → S g) : Frm S a b :=
  ⟨h.os, h.tape, h.output, h.size, fun i hi hn => h.block i hi (fun e => hn (hs i e.symm))⟩
set_option maxRecDepth 100000 in
theorem Frm.below {S : Nat → Prop} {a b : World} (h : Below a.heap.size a b) : Frm S a b := ⟨h.os, h.tape, h.output, h.size, fun i hi _ => h.block i hi⟩
set_option maxRecDepth 100000 in
theorem Frm.drew {S : Nat → Prop} {a b : World} (h : Frm S a b) : Frm S a b.drew := ⟨h.os, h.tape, h.output, h.size, h.block⟩
set_option maxRecDepth 100000 in
theorem Frm.drewN {S : Nat → Prop} {a b : World} (h : Frm S a b) (n : Nat) : Frm S a (b.drewN n) := ⟨h.os, h.tape, h.output, h.size, h.block⟩
set_option maxRecDepth 100000 in
theorem Frm.alloc {S : Nat → Prop} {a b : World} (h : Frm S a b) (o : Obj) : Frm S a (b.alloc o) :=
  ⟨h.os, h.tape, h.output, Nat.le_trans h.size (by simp), fun i hi hn => (Below.heap_alloc b o i (Nat.lt_of_lt_of_le hi h.size)).trans (h.block i hi hn)⟩
set_option maxRecDepth 100000 in
theorem Frm.setCell {S : Nat → Prop} {a b : World} (h : Frm S a b) (p : Addr) (u : Value) (hp : S p.block ∨ a.heap.size ≤ p.block) : Frm S a (b.setCell p u) :=
  ⟨h.os, h.tape, h.output, by simpa [World.setCell] using h.size, fun i hi hn => (Below.heap_setCell b p u i (by
    rintro rfl
    rcases hp with hp | hp
    · exact hn hp
    · omega)).trans (h.block i hi hn)⟩
set_option maxRecDepth 100000 in
theorem Frm.toBelow {S : Nat → Prop} {a b : World} {B : Nat} (h : Frm S a b) (hB : B ≤ a.heap.size) (hs : ∀ i, i < B → ¬ S i) : Below B a b :=
  ⟨h.os, h.tape, h.output, h.size, fun i hi => h.block i (by omega) (hs i hi)⟩
set_option maxRecDepth 100000 in
theorem Blk.frm {S : Nat → Prop} {w w' : World} {g : Nat} {e : TypeId} {cs : List Value} (h : Blk w g e cs) (hf : Frm S w w') (hg : ¬ S g) : Blk w' g e cs := by
  unfold Blk at *; rw [hf.block g (Blk.lt h) hg]; exact h
set_option maxRecDepth 100000 in
theorem Blk.far {w : World} {g : Nat} {e : TypeId} {cs : List Value} (h : Blk w g e cs) (p : Addr) (u : Value) (hp : g ≠ p.block) : Blk (w.setCell p u) g e cs := (Below.heap_setCell w p u g hp).trans h
set_option maxRecDepth 100000 in
theorem fz_of {w : World} {p o : Nat} {T : TypeId} {cs : List Value} (h : Blk w p T cs) : w.frozen? ⟨p, o, none⟩ = false := h.frozen o
set_option maxRecDepth 100000 in
theorem ownsRow_frm {S : Nat → Prop} {w w' : World} {base e size n : Nat} {v : Value} {xs : List Value} (h : w.ownsRow base e size v n xs) (hf : Frm S w w') (hne : ∀ k, v.ownBlock = some k → ¬ S k) : w'.ownsRow base e size v n xs := by
  refine ⟨h.1, ?_⟩
  rcases h.2 with h2 | ⟨g, cap, cur, hv, hb, hg, h3⟩
  · exact .inl h2
  · refine .inr ⟨g, cap, cur, hv, hb, ?_, h3⟩
    rw [hf.block g (Array.getElem?_eq_some_iff.1 hg).1 (hne g (by rw [hv]; rfl))]
    exact hg
set_option maxRecDepth 100000 in
theorem ownsRow_ne {w : World} {base e size n p : Nat} {v : Value} {xs : List Value} {T : TypeId} {cs : List Value} (h : w.ownsRow base e size v n xs) (hp : Blk w p T cs) (hT : T ≠ e) : ∀ k, v.ownBlock = some k → k ≠ p := by
  intro k hk e1
  subst e1
  rcases h.2 with h2 | ⟨g, cap, cur, hv, hb, hg, h3⟩
  · rw [h2.1] at hk; simp [Value.ownBlock] at hk
  · rw [hv] at hk
    simp only [Value.ownBlock, Option.some.injEq] at hk
    subst hk
    unfold Blk at hp
    rw [hp] at hg
    simp at hg
    exact hT hg.2
set_option maxRecDepth 100000 in
theorem ownsRow_ne2 {w : World} {base e size n base' e' size' n' : Nat} {v v' : Value} {xs xs' : List Value} (h : w.ownsRow base e size v n xs) (h' : w.ownsRow base' e' size' v' n' xs') (hT : e ≠ e') : ∀ k, v.ownBlock = some k → v'.ownBlock ≠ some k := by
  intro k hk e1
  rcases h.2 with h2 | ⟨g, cap, cur, hv, hb, hg, h3⟩
  · rw [h2.1] at hk; simp [Value.ownBlock] at hk
  · rcases h'.2 with h2' | ⟨g', cap', cur', hv', hb', hg', h3'⟩
    · rw [h2'.1] at e1; simp [Value.ownBlock] at e1
    · rw [hv] at hk
      rw [hv'] at e1
      simp only [Value.ownBlock, Option.some.injEq] at hk e1
      subst hk
      subst e1
      rw [hg] at hg'
      simp at hg'
      exact hT hg'.2
set_option maxRecDepth 100000 in
theorem own0 {w : World} {base : Nat} {e : TypeId} {size n c : Nat} {ao : Option Addr} {xs : List Value} (h : w.ownsRow base e size (.slice ao n c) n xs) {B : Nat} (hB : B ≤ base) : w.ownsRow B e size (.slice ao n c) n xs :=
  ⟨h.1, h.2.imp id (fun ⟨g, cap, cur, h1, h2, h3⟩ => ⟨g, cap, cur, h1, by omega, h3⟩)⟩
set_option maxRecDepth 100000 in
theorem own_ge {w : World} {base : Nat} {e : TypeId} {size n : Nat} {v : Value} {xs : List Value} (h : w.ownsRow base e size v n xs) : ∀ k, v.ownBlock = some k → base ≤ k := fun k hk => (h.lt k hk).1
set_option maxRecDepth 100000 in
theorem blk_ne {w : World} {g g' : Nat} {T T' : TypeId} {cs cs' : List Value} (h : Blk w g T cs) (h' : Blk w g' T' cs') (hT : T ≠ T') : g ≠ g' := by
  intro e
  subst e
  unfold Blk at h h'
  rw [h] at h'
  simp at h'
  exact hT h'.2
set_option maxRecDepth 100000 in
theorem set_same {cs : List Value} {k : Nat} {v : Value} (h : cs[k]? = some v) : cs.set k v = cs := by
  apply List.ext_getElem?
  intro q
  rw [List.getElem?_set]
  split
  · rename_i e
    subst e
    have := (List.getElem?_eq_some_iff.1 h).1
    rw [if_pos this, h]
  · rfl
set_option maxRecDepth 100000 in
theorem Src.two {P : Program} {tx e' : TypeId} (hk : P.underlying tx = some (.slice e')) (w : World) (u v : Value) (e : TypeId) (h1 : u.oneCell' = true) (h2 : v.oneCell' = true) : Src P 2 tx (.slice (some ⟨w.heap.size, 0, none⟩) 1 1) 1 [u, v] (w.alloc (.cells #[u, v] e)) :=
  Src.ofSlice _ hk ⟨w.heap.size, 0, none⟩ 1 1 [u, v] rfl (World.news_of_block (heap_alloc_new w _)) (by
    intro x hx
    simp only [List.mem_cons, List.not_mem_nil, or_false] at hx
    rcases hx with rfl | rfl
    · exact h1
    · exact h2)
end
end Go.Proofs.YtinkbgeckjbnbaaGreat
namespace Go.Proofs.YtinkbgeckjbnbaaGreat
section
open Go.RowKit
set_option linter.unusedVariables false

/-- the owner of each block, by a number -/
abbrev Own := Nat → Nat
/-- what lies from n on is t's -/
def Own.upd (O : Own) (n t : Nat) : Own := fun b => if b < n then O b else t
set_option maxRecDepth 100000 in
theorem Own.upd_lt {O : Own} {n t b : Nat} (h : b < n) : O.upd n t b = O b := by unfold Own.upd; rw [if_pos h]
set_option maxRecDepth 100000 in
theorem Own.upd_ge {O : Own} {n t b : Nat} (h : n ≤ b) : O.upd n t b = t := by unfold Own.upd; rw [if_neg (by omega)]
/-- only blocks of t's may have changed -/
def OFrm (O : Own) (t : Nat) (w w' : World) : Prop := Frm (fun b => O b = t) w w'
set_option maxRecDepth 100000 in
theorem OFrm.of {O : Own} {t : Nat} {S : Nat → Prop} {w w' : World} (h : Frm S w w') (hs : ∀ b, S b → b < w.heap.size → O b = t) : OFrm O t w w' := h.mono (fun b hb hl => hs b hb hl)
set_option maxRecDepth 100000 in
theorem OFrm.below {O : Own} {t : Nat} {w w' : World} (h : Below w.heap.size w w') : OFrm O t w w' := Frm.below h
set_option maxRecDepth 100000 in
theorem OFrm.refl (O : Own) (t : Nat) (w : World) : OFrm O t w w := Frm.refl _ w
end
end Go.Proofs.YtinkbgeckjbnbaaGreat
namespace Go.Proofs.YtinkbgeckjbnbaaGreat
section
open Go.RowKit
set_option linter.unusedVariables false

def wf64 (k : Int) : Prop := (Lit.int .i64 k).wf = true
set_option maxRecDepth 100000 in
theorem wf64_of {k : Int} (h1 : -9223372036854775808 ≤ k) (h2 : k ≤ 9223372036854775807) : wf64 k := by
  unfold wf64 Lit.wf
  simp only [IntKind.min, IntKind.max, IntKind.bits, IntKind.signed]
  simp
  omega
/-- how values read -/
structure Cod {V : Type} (R : Value → Option (DataW Unit × List MemPlace)) (enc : V → Value) (lt : V → Lit) : Prop where
  toV : ∀ v, R (enc v) = some (.lit (lt v), [])
  inv : ∀ u v ps, R u = some (.lit (lt v), ps) → u = enc v
def rdI (v : Value) : Option (DataW Unit × List MemPlace) := match v with
  | .int .i64 x => some (.lit (.int .i64 x), [])
  | _ => none
set_option maxRecDepth 100000 in
theorem codI : Cod rdI (Value.int .i64) (Lit.int .i64) := ⟨fun v => rfl, fun u v ps h => by
  unfold rdI at h
  split at h
  · simp at h; rw [h.1]
  · cases h⟩
/-- a pointer: nil, or a block's first cell -/
def encP : Option Nat → Value
  | none => .pointer none
  | some b => .pointer (some ⟨b, 0, none⟩)
def ltP : Option Nat → Lit
  | none => .int .i64 (-1)
  | some b => .int .i64 (b : Nat)
def rdP (v : Value) : Option (DataW Unit × List MemPlace) := match v with
  | .pointer none => some (.lit (.int .i64 (-1)), [])
  | .pointer (some ⟨b, 0, none⟩) => some (.lit (.int .i64 (b : Nat)), [])
  | _ => none
set_option maxRecDepth 100000 in
theorem codP : Cod rdP encP ltP := ⟨fun v => by cases v <;> rfl, fun u v ps h => by
  unfold rdP at h
  split at h
  · cases v with
    | none => rfl
    | some b => simp [ltP] at h
  · cases v with
    | none => simp [ltP] at h
    | some b => simp [ltP] at h; have e := Int.ofNat.inj h.1; subst e; rfl
  · cases h⟩
section
variable {V : Type} {R : Value → Option (DataW Unit × List MemPlace)} {enc : V → Value} {lt : V → Lit}
def MapF (R : Value → Option (DataW Unit × List MemPlace)) (lt : V → Lit) (w : World) (b n c : Nat) (f : Int → Option V) : Prop :=
  ∃ D : DataW Unit, w.ownsMap Tryz.prog 3 R b n D ∧ Maps.size D = c ∧ ∀ k, wf64 k → (f k = none → Maps.has D (.int .i64 k) = false) ∧ ∀ v, f k = some v → Maps.has D (.int .i64 k) = true ∧ ∀ z, D.atKey (.int .i64 k) z = .lit (lt v)
set_option maxRecDepth 100000 in
theorem MapF.lt' {w : World} {b n c : Nat} {f : Int → Option V} (h : MapF R lt w b n c f) : b < w.heap.size := by obtain ⟨D, h, _⟩ := h; exact h.lt
set_option maxRecDepth 100000 in
theorem MapF.frm {S : Nat → Prop} {w w' : World} {b n c : Nat} {f : Int → Option V} (h : MapF R lt w b n c f) (hf : Frm S w w') (hb : ¬ S b) : MapF R lt w' b n c f := by
  have hl := h.lt'
  obtain ⟨D, ⟨es, clock, h1, h2⟩, h3⟩ := h
  exact ⟨D, ⟨es, clock, (hf.block b hl hb).trans h1, h2⟩, h3⟩
set_option maxRecDepth 100000 in
theorem MapF.made (w : World) : MapF R lt (w.alloc (.map #[] 0)) w.heap.size 0 0 (fun _ => (none : Option V)) :=
  ⟨_, w.ownsMap_made _ _ _, rfl, fun k _ => ⟨fun _ => rfl, fun v h => by cases h⟩⟩
set_option maxRecDepth 100000 in
theorem MapF.look_ok {w : World} {b n c : Nat} {f : Int → Option V} (h : MapF R lt w b n c f) (hc : Cod R enc lt) {t e : TypeId} (ht : Tryz.prog.underlying t = some (.map 3 e)) (z : V) (hz : (zeroValue e).run Tryz.prog w = .ok (enc z) w) {k : Int} (hk : wf64 k) :
    (Instr.lookup t (.map (some b)) (.int .i64 k) true).run Tryz.prog w = .ok (.tuple #[enc ((f k).getD z), .bool (f k).isSome]) w := by
  obtain ⟨D, h, hs, hf⟩ := h
  obtain ⟨v, ps, hrun, hv⟩ := h.look_ok (Maps.int_keyed Tryz.underlying3) ht hz (hc.toV z) (Maps.keyOf_int_mk Tryz.underlying3 hk)
  rw [hrun]
  cases hq : f k with
  | none =>
    have h1 := (hf k hk).1 hq
    rw [Maps.atKey_of_not_has h1] at hv
    rw [h1, hc.inv _ _ _ hv]
    rfl
  | some x =>
    obtain ⟨h1, h2⟩ := (hf k hk).2 x hq
    rw [h2] at hv
    rw [h1, hc.inv _ _ _ hv]
    rfl
set_option maxRecDepth 100000 in
theorem MapF.look {w : World} {b n c : Nat} {f : Int → Option V} (h : MapF R lt w b n c f) (hc : Cod R enc lt) {t e : TypeId} (ht : Tryz.prog.underlying t = some (.map 3 e)) (z : V) (hz : (zeroValue e).run Tryz.prog w = .ok (enc z) w) {k : Int} (hk : wf64 k) :
    (Instr.lookup t (.map (some b)) (.int .i64 k) false).run Tryz.prog w = .ok (enc ((f k).getD z)) w := by
  obtain ⟨D, h, hs, hf⟩ := h
  obtain ⟨v, ps, hrun, hv⟩ := h.lookup (Maps.int_keyed Tryz.underlying3) ht hz (hc.toV z) (Maps.keyOf_int_mk Tryz.underlying3 hk)
  rw [hrun]
  cases hq : f k with
  | none =>
    have h1 := (hf k hk).1 hq
    rw [Maps.atKey_of_not_has h1] at hv
    rw [hc.inv _ _ _ hv]
    rfl
  | some x =>
    obtain ⟨h1, h2⟩ := (hf k hk).2 x hq
    rw [h2] at hv
    rw [hc.inv _ _ _ hv]
    rfl
def mputF (f : Int → Option V) (k : Int) (v : Option V) (j : Int) : Option V := if j = k then v else f j
set_option maxRecDepth 100000 in
theorem MapF.store {w : World} {b n c : Nat} {f : Int → Option V} (h : MapF R lt w b n c f) (hc : Cod R enc lt) {t e : TypeId} (ht : Tryz.prog.underlying t = some (.map 3 e)) (hn : n < maxLen) {k : Int} (hk : wf64 k) (v : V) :
    ∃ w', (Instr.mapUpdate t (.map (some b)) (.int .i64 k) (enc v)).run Tryz.prog w = .ok () w' ∧ MapF R lt w' b (n + 1) (if (f k).isSome then c else c + 1) (mputF f k (some v)) ∧ Frm (fun i => i = b) w w' := by
  obtain ⟨D, h, hs, hf⟩ := h
  have htd := h.tidy (Maps.int_keyed Tryz.underlying3)
  have him := h.isMap
  obtain ⟨w', hrun, hown, htu⟩ := h.store (Maps.int_keyed Tryz.underlying3) ht hn (Maps.keyOf_int_mk Tryz.underlying3 hk) (hc.toV v)
  refine ⟨w', hrun, ⟨_, hown, ?_, fun j hj => ?_⟩, Frm.grown htu.grown (fun g e => (Option.some.inj e).symm)⟩
  · rw [Maps.size_put htd, hs]
    cases hq : f k with
    | none => rw [(hf k hk).1 hq]; rfl
    | some x => rw [((hf k hk).2 x hq).1]; rfl
  · unfold mputF
    by_cases e : j = k
    · subst e
      rw [if_pos rfl]
      exact ⟨fun h => (by cases h), fun x hx => by cases hx; exact ⟨Maps.has_put_same him (by trivial) _, fun z => Maps.atKey_put_same him (by trivial) _ _⟩⟩
    · rw [if_neg e]
      have hne : (Lit.int .i64 j) ≠ (Lit.int .i64 k) := by simpa using e
      refine ⟨fun hn => by rw [Maps.has_put_other hne]; exact (hf j hj).1 hn, fun x hx => ⟨by rw [Maps.has_put_other hne]; exact ((hf j hj).2 x hx).1, fun z => by rw [Maps.atKey_put_other hne]; exact ((hf j hj).2 x hx).2 z⟩⟩
set_option maxRecDepth 100000 in
theorem MapF.same {w w' : World} {b n c : Nat} {f : Int → Option V} (h : MapF R lt w b n c f) (hb : w'.heap[b]? = w.heap[b]?) : MapF R lt w' b n c f := by
  obtain ⟨D, ⟨es, clock, h1, h2⟩, h3⟩ := h
  exact ⟨D, ⟨es, clock, hb.trans h1, h2⟩, h3⟩
set_option maxRecDepth 100000 in
theorem push_at {α : Type} (xs : Array α) (a : α) (g : α → α) : (xs.push a).modify xs.size g = xs.push (g a) := by
  apply Array.ext
  · simp
  · intro i h1 h2
    simp only [Array.size_push] at h2
    by_cases e : i = xs.size
    · subst e; rw [Array.getElem_modify, if_pos rfl]; simp
    · have : i < xs.size := by omega
      rw [Array.getElem_modify, if_neg (fun h => e h.symm), Array.getElem_push_lt this, Array.getElem_push_lt this]
set_option maxRecDepth 100000 in
/-- an entry is made for a key that is not there, and what is stored in it -/
theorem MapF.entry_new {w : World} {b n c : Nat} {f : Int → Option V} (h : MapF R lt w b n c f) (hc : Cod R enc lt) {t e : TypeId} (ht : Tryz.prog.underlying t = some (.map 3 e)) (hn : n < maxLen) {k : Int} (hk : wf64 k) (hfk : f k = none) {z : Value} (hz : ∀ u : World, (zeroValue e).run Tryz.prog u = .ok z u) :
    ∃ (st : Nat) (w1 : World), (Instr.mapEntry t (.map (some b)) (.int .i64 k)).run Tryz.prog w = .ok (.tuple #[z, .int .i64 (st : Nat)]) w1 ∧ Frm (fun i => i = b) w w1 ∧
      ∀ w2 : World, w2.heap[b]? = w1.heap[b]? → ∀ v : V, ∃ w3, (Instr.entryStore t (.map (some b)) (.int .i64 (st : Nat)) (enc v)).run Tryz.prog w2 = .ok () w3 ∧ MapF R lt w3 b (n + 1) (c + 1) (mputF f k (some v)) ∧ Frm (fun i => i = b) w2 w3 := by
  have hst := fun v => h.store hc ht hn hk v
  rw [hfk] at hst
  obtain ⟨D, ⟨es, clock, hb, F, hs, hD⟩, hsz, hf⟩ := h
  have K := Maps.int_keyed Tryz.underlying3
  have hkey := Maps.keyOf_int_mk Tryz.underlying3 hk
  have hno : ∀ x ∈ es.toList, x.key ≠ .int .i64 k := by
    intro x hx e
    have hh := (hf k hk).1 hfk
    have hrun := (⟨es, clock, hb, F, hs, hD⟩ : w.ownsMap Tryz.prog 3 R b n D)
    rcases K.find w hkey es.toList F.keys with ⟨_, h2⟩ | ⟨j, e0, h1, h2, h3⟩
    · exact h2 x hx e
    · rcases Maps.fit_look (z := z) true K ht (hz w) hb F hkey with ⟨_, h2', _⟩ | ⟨e1, y, _, _, _, _, hat, _⟩
      · exact h2' e0 (List.mem_of_getElem? h2) h3
      · rw [hD] at hh
        rw [Maps.has_true_of_atKey hat] at hh
        cases hh
  have hfind : (Instr.findKey 3 (.int .i64 k) es.toList).run Tryz.prog w = .ok none w := by
    rcases K.find w hkey es.toList F.keys with ⟨h1, _⟩ | ⟨j, e0, _, h2, h3⟩
    · exact h1
    · exact absurd h3 (hno e0 (List.mem_of_getElem? h2))
  have hset : ∀ (u : World) (o : Obj) (es' : Array MapEntry) (cl : Nat), u.heap[b]? = some (.map es' cl) → Frm (fun i => i = b) u (ChangeMaps.setBlock u b o) ∧ (ChangeMaps.setBlock u b o).heap[b]? = some o := fun u o es' cl hu =>
    ⟨⟨rfl, rfl, rfl, by simp [ChangeMaps.setBlock], fun i _ hi => ChangeMaps.heap_setBlock_other hu o hi⟩, ChangeMaps.heap_setBlock_same hu o⟩
  refine ⟨clock, ChangeMaps.setBlock w b (.map (es.push ⟨.int .i64 k, z, clock⟩) (clock + 1)), ?_, (hset w _ es clock hb).1, fun w2 hw2 v => ?_⟩
  · simp [Instr.mapEntry, run_underlying ht, MapKept.run_getObj_map hb, K.check w false hkey, hfind, hz w, MapKept.run_setObj_map _ hb, Result.andThen, ChangeMaps.setBlock, goInt]
  · rw [(hset w _ es clock hb).2] at hw2
    have hidx : (es.push ⟨.int .i64 k, z, clock⟩).findIdx? (fun e => ((e.born : Nat) : Int) == ((clock : Nat) : Int)) = some es.size := by
      rw [Array.findIdx?_push]
      have : es.findIdx? (fun e => ((e.born : Nat) : Int) == ((clock : Nat) : Int)) = none := by
        rw [Array.findIdx?_eq_none_iff]
        intro x hx
        have := F.stamped.1 x (by simpa using hx)
        simp
        omega
      rw [this]
      simp
    refine ⟨ChangeMaps.setBlock w2 b (.map (es.push ⟨.int .i64 k, enc v, clock⟩) (clock + 1)), ?_, ?_, (hset w2 _ _ _ hw2).1⟩
    · simp [Instr.entryStore, MapKept.run_getObj_map hw2, asInt, asIntOf, hidx, push_at, MapKept.run_setObj_map _ hw2, Result.andThen, ChangeMaps.setBlock]
    · obtain ⟨w', hrun, hm, _⟩ := hst v
      have hup : (Instr.mapUpdate t (.map (some b)) (.int .i64 k) (enc v)).run Tryz.prog w = .ok () (ChangeMaps.setBlock w b (.map (es.push ⟨.int .i64 k, enc v, clock⟩) (clock + 1))) := by
        simp [Instr.mapUpdate, run_underlying ht, MapKept.run_getObj_map hb, K.check w false hkey, hfind, MapKept.run_setObj_map _ hb, Result.andThen, ChangeMaps.setBlock]
      rw [hup] at hrun
      cases hrun
      refine MapF.same (w := ChangeMaps.setBlock w b (.map (es.push ⟨.int .i64 k, enc v, clock⟩) (clock + 1))) hm ?_
      rw [(hset w2 _ _ _ hw2).2, (hset w _ es clock hb).2]
set_option maxRecDepth 100000 in
theorem MapF.drop {w : World} {b n c : Nat} {f : Int → Option V} (h : MapF R lt w b n c f) {t e : TypeId} (ht : Tryz.prog.underlying t = some (.map 3 e)) {k : Int} (hk : wf64 k) (ty : TypeId) :
    ∃ w', (Builtin.delete_ #[t, 3] ty #[.map (some b), .int .i64 k]).run Tryz.prog w = .ok (.tuple #[]) w' ∧ MapF R lt w' b n (if (f k).isSome then c - 1 else c) (mputF f k none) ∧ Frm (fun i => i = b) w w' := by
  obtain ⟨D, h, hs, hf⟩ := h
  have htd := h.tidy (Maps.int_keyed Tryz.underlying3)
  obtain ⟨w', hrun, hown, htu⟩ := h.drop (Maps.int_keyed Tryz.underlying3) ht (Maps.keyOf_int_mk Tryz.underlying3 hk) ty
  have hsz := Maps.size_del htd (k := Lit.int .i64 k)
  refine ⟨w', hrun, ⟨_, hown, ?_, fun j hj => ?_⟩, Frm.grown htu.grown (fun g e => (Option.some.inj e).symm)⟩
  · cases hq : f k with
    | none => rw [(hf k hk).1 hq] at hsz; simp at hsz; simp; omega
    | some x => rw [((hf k hk).2 x hq).1] at hsz; simp at hsz; simp; omega
  · unfold mputF
    by_cases e : j = k
    · subst e
      rw [if_pos rfl]
      exact ⟨fun _ => Maps.has_del_same, fun x hx => by cases hx⟩
    · rw [if_neg e]
      have hne : (Lit.int .i64 j) ≠ (Lit.int .i64 k) := by simpa using e
      refine ⟨fun hn => by rw [Maps.has_del_other hne]; exact (hf j hj).1 hn, fun x hx => ⟨by rw [Maps.has_del_other hne]; exact ((hf j hj).2 x hx).1, fun z => by rw [Maps.atKey_del_other hne]; exact ((hf j hj).2 x hx).2 z⟩⟩
set_option maxRecDepth 100000 in
theorem MapF.len {w : World} {b n c : Nat} {f : Int → Option V} (h : MapF R lt w b n c f) {t e : TypeId} (ht : Tryz.prog.underlying t = some (.map 3 e)) (ty : TypeId) : (Builtin.len_ #[t] ty #[.map (some b)]).run Tryz.prog w = .ok (.int .i64 (c : Nat)) w := by
  obtain ⟨D, h, hs, hf⟩ := h
  rw [h.len ht ty, hs]
set_option maxRecDepth 100000 in
theorem wpList_mapDel {w : World} {ops : Array Oper} {rest : List Oper} {o : Oper} {a : Act} {Q : Exit → Act → World → Prop} (hg : o.guard = none) (m x : Operand) (t e : TypeId) (hop : o.op = Op.call { callee := Callee.builtin Builtin.delete, args := #[m, x], argTypes := #[t, 3] })
    (ht : Tryz.prog.underlying t = some (.map 3 e)) (b n c : Nat) (f : Int → Option V) (hm : a.eval m = .map (some b)) (h : MapF R lt w b n c f) (k : Int) (hx : a.eval x = .int .i64 k) (hk : wf64 k)
    (hK : ∀ w', MapF R lt w' b n (if (f k).isSome then c - 1 else c) (mputF f k none) → Frm (fun i => i = b) w w' → wpList Tryz.prog ops Q rest (a.put o.dst (.tuple #[])) w') : wpList Tryz.prog ops Q (o :: rest) a w := by
  refine wpList_plain hg fun K' hK' => ?_
  obtain ⟨w', hrun, r1, r2⟩ := h.drop ht hk o.type
  unfold Oper.wp
  simp [execOp, hop, resolve, invoke, builtin, hm, hx, hrun, Result.andThen]
  exact hK' _ _ (hK w' r1 r2)
set_option maxRecDepth 100000 in
theorem wpList_mapPut {enc : V → Value} {w : World} {ops : Array Oper} {rest : List Oper} {o : Oper} {a : Act} {Q : Exit → Act → World → Prop} (hg : o.guard = none) (m x v : Operand) (t e : TypeId) (hop : o.op = Op.mapUpdate t m x v)
    (ht : Tryz.prog.underlying t = some (.map 3 e)) (hc : Cod R enc lt) (b n c : Nat) (f : Int → Option V) (hm : a.eval m = .map (some b)) (h : MapF R lt w b n c f) (hn : n < maxLen) (k : Int) (hx : a.eval x = .int .i64 k) (hk : wf64 k) (u : V) (hv : a.eval v = enc u)
    (hK : ∀ w', MapF R lt w' b (n + 1) (if (f k).isSome then c else c + 1) (mputF f k (some u)) → Frm (fun i => i = b) w w' → wpList Tryz.prog ops Q rest (a.put o.dst undef) w') : wpList Tryz.prog ops Q (o :: rest) a w := by
  refine wpList_plain hg fun K' hK' => ?_
  obtain ⟨w', hrun, r1, r2⟩ := h.store hc ht hn hk u
  unfold Oper.wp
  simp [execOp, hop, hm, hx, hv, hrun, Result.andThen]
  exact hK' _ _ (hK w' r1 r2)
end
end
end Go.Proofs.YtinkbgeckjbnbaaGreat
namespace Go.Proofs.YtinkbgeckjbnbaaGreat
section
set_option linter.unusedVariables false

section
variable {α : Type}
def swF (f : Nat → α) (i j : Nat) : Nat → α := fun k => if k = i then f j else if k = j then f i else f k
set_option maxRecDepth 100000 in
theorem swF_i (f : Nat → α) (i j : Nat) : swF f i j i = f j := by simp [swF]
set_option maxRecDepth 100000 in
theorem swF_j (f : Nat → α) (i j : Nat) : swF f i j j = f i := by unfold swF; split <;> simp_all
set_option maxRecDepth 100000 in
theorem swF_o (f : Nat → α) (i j k : Nat) (h : k ≠ i) (h2 : k ≠ j) : swF f i j k = f k := by simp [swF, h, h2]
def row (f : Nat → α) (n : Nat) : List α := (List.range n).map f
set_option maxRecDepth 100000 in
theorem row_len (f : Nat → α) (n : Nat) : (row f n).length = n := by simp [row]
set_option maxRecDepth 100000 in
theorem row_get (f : Nat → α) (n k : Nat) (h : k < n) : (row f n)[k]? = some (f k) := by unfold row; rw [List.getElem?_map, List.getElem?_range h]; rfl
set_option maxRecDepth 100000 in
theorem row_swap (f : Nat → α) (n i j : Nat) (hi : i < n) (hj : j < n) : (row (swF f i j) n).Perm (row f n) := by
  have h1 : i < (row f n).length := by rw [row_len]; exact hi
  have h2 : j < (row f n).length := by rw [row_len]; exact hj
  have h := List.set_set_perm h1 h2
  have e : row (swF f i j) n = ((row f n).set i (row f n)[j]).set j (row f n)[i] := by
    apply List.ext_getElem?
    intro k
    have gi : (row f n)[i] = f i := by simp [row]
    have gj : (row f n)[j] = f j := by simp [row]
    rw [gi, gj, List.getElem?_set, List.getElem?_set, List.length_set, row_len]
    by_cases hk : k < n
    · rw [row_get _ _ _ hk, row_get _ _ _ hk]
      by_cases e1 : j = k
      · subst e1; rw [if_pos rfl, if_pos hj, swF_j]
      · rw [if_neg e1]
        by_cases e2 : i = k
        · subst e2; rw [if_pos rfl, if_pos hi, swF_i]
        · rw [if_neg e2, swF_o _ _ _ _ (fun e => e2 e.symm) (fun e => e1 e.symm)]
    · rw [if_neg (by omega), if_neg (by omega), List.getElem?_eq_none (by rw [row_len]; omega), List.getElem?_eq_none (by rw [row_len]; omega)]
  rw [e]; exact h
/-- only places from a to below b have turned, and they have among them what they had -/
structure Seg (a b : Nat) (D D' : Nat → α) : Prop where
  out : ∀ k, ¬ (a ≤ k ∧ k < b) → D' k = D k
  keep : ∀ p : α → Prop, (∀ k, a ≤ k → k < b → p (D k)) → ∀ k, a ≤ k → k < b → p (D' k)
  perm : ∀ n, b ≤ n → (row D' n).Perm (row D n)
set_option maxRecDepth 100000 in
theorem Seg.refl (a b : Nat) (D : Nat → α) : Seg a b D D := ⟨fun _ _ => rfl, fun _ h => h, fun _ _ => List.Perm.refl _⟩
set_option maxRecDepth 100000 in
theorem Seg.trans {a b : Nat} {D D' D'' : Nat → α} (h : Seg a b D D') (k : Seg a b D' D'') : Seg a b D D'' :=
  ⟨fun i hi => (k.out i hi).trans (h.out i hi), fun p hp => k.keep p (h.keep p hp), fun n hn => (k.perm n hn).trans (h.perm n hn)⟩
set_option maxRecDepth 100000 in
theorem Seg.mono {a b a' b' : Nat} {D D' : Nat → α} (h : Seg a b D D') (ha : a' ≤ a) (hb : b ≤ b') : Seg a' b' D D' := by
  refine ⟨fun k hk => h.out k (by omega), fun p hp k h1 h2 => ?_, fun n hn => h.perm n (by omega)⟩
  by_cases hin : a ≤ k ∧ k < b
  · exact h.keep p (fun k h1 h2 => hp k (by omega) (by omega)) k hin.1 hin.2
  · rw [h.out k hin]; exact hp k h1 h2
set_option maxRecDepth 100000 in
theorem Seg.swap {a b i j : Nat} (D : Nat → α) (h1 : a ≤ i) (h2 : i < b) (h3 : a ≤ j) (h4 : j < b) : Seg a b D (swF D i j) := by
  refine ⟨fun k hk => swF_o _ _ _ _ (by omega) (by omega), fun p hp k k1 k2 => ?_, fun n hn => row_swap D n i j (by omega) (by omega)⟩
  by_cases e1 : k = i
  · rw [e1, swF_i]; exact hp j h3 h4
  · by_cases e2 : k = j
    · rw [e2, swF_j]; exact hp i h1 h2
    · rw [swF_o _ _ _ _ e1 e2]; exact hp k k1 k2
/-- lt y x = false: x is not behind y -/
structure Ord (lt : α → α → Bool) : Prop where
  trans : ∀ x y z, lt y x = false → lt z y = false → lt z x = false
  asym : ∀ x y, lt x y = true → lt y x = false
set_option maxRecDepth 100000 in
theorem Ord.refl {lt : α → α → Bool} (h : Ord lt) (x : α) : lt x x = false := by
  cases hx : lt x x
  · rfl
  · have := h.asym x x hx; rw [hx] at this; exact this
def Srt (lt : α → α → Bool) (D : Nat → α) (a b : Nat) : Prop := ∀ i j, a ≤ i → i < j → j < b → lt (D j) (D i) = false
variable {lt : α → α → Bool}
set_option maxRecDepth 100000 in
theorem Srt.mono {D : Nat → α} {a b a' b' : Nat} (h : Srt lt D a b) (ha : a ≤ a') (hb : b' ≤ b) : Srt lt D a' b' := fun i j h1 h2 h3 => h i j (by omega) h2 (by omega)
set_option maxRecDepth 100000 in
theorem Srt.congr {D D' : Nat → α} {a b : Nat} (h : Srt lt D a b) (he : ∀ k, a ≤ k → k < b → D' k = D k) : Srt lt D' a b := fun i j h1 h2 h3 => by rw [he i h1 (by omega), he j (by omega) h3]; exact h i j h1 h2 h3
set_option maxRecDepth 100000 in
theorem Srt.one (lt : α → α → Bool) (D : Nat → α) {a b : Nat} (h : b ≤ a + 1) : Srt lt D a b := fun i j h1 h2 h3 => by omega
set_option maxRecDepth 100000 in
theorem Srt.shift {D D' : Nat → α} {a b c : Nat} (h : Srt lt D a b) (he : ∀ k, k < b - a → D' (c + k) = D (a + k)) : Srt lt D' c (c + (b - a)) := fun i j h1 h2 h3 => by
  have e1 := he (i - c) (by omega)
  have e2 := he (j - c) (by omega)
  rw [show c + (i - c) = i by omega] at e1
  rw [show c + (j - c) = j by omega] at e2
  rw [e1, e2]
  exact h _ _ (by omega) (by omega) (by omega)
def Ins (lt : α → α → Bool) (D : Nat → α) (a i j : Nat) : Prop := (∀ p q, a ≤ p → p < q → q ≤ i → p ≠ j → q ≠ j → lt (D q) (D p) = false) ∧ ∀ q, j < q → q ≤ i → lt (D q) (D j) = false
set_option maxRecDepth 100000 in
theorem Ins.next {D : Nat → α} {a i j : Nat} (ho : Ord lt) (h : Ins lt D a i j) (hj : a < j) (hi : j ≤ i) (hl : lt (D j) (D (j - 1)) = true) : Ins lt (swF D j (j - 1)) a i (j - 1) := by
  refine ⟨fun p q h1 h2 h3 h4 h5 => ?_, fun q h1 h2 => ?_⟩
  · by_cases e1 : p = j
    · subst e1
      rw [swF_i, swF_o _ _ _ _ (by omega) h5]
      exact h.1 (p - 1) q (by omega) (by omega) h3 (by omega) (by omega)
    · rw [swF_o D j (j - 1) p e1 h4]
      by_cases e2 : q = j
      · subst e2
        rw [swF_i]
        exact h.1 p (q - 1) h1 (by omega) (by omega) e1 (by omega)
      · rw [swF_o _ _ _ _ e2 h5]
        exact h.1 p q h1 h2 h3 e1 e2
  · rw [swF_j]
    by_cases e : q = j
    · rw [e, swF_i]; exact ho.asym _ _ hl
    · rw [swF_o _ _ _ _ e (by omega)]; exact h.2 q (by omega) h2
set_option maxRecDepth 100000 in
theorem Ins.done {D : Nat → α} {a i j : Nat} (ho : Ord lt) (h : Ins lt D a i j) (hj : a ≤ j) (hi : j ≤ i) (hl : j = a ∨ lt (D j) (D (j - 1)) = false) : Srt lt D a (i + 1) := fun p q h1 h2 h3 => by
  by_cases e1 : p = j
  · subst e1; exact h.2 q h2 (by omega)
  · by_cases e2 : q = j
    · subst e2
      rcases hl with e | hl
      · omega
      · by_cases e3 : p = q - 1
        · rw [e3]; exact hl
        · exact ho.trans _ _ _ (h.1 p (q - 1) h1 (by omega) (by omega) e1 (by omega)) hl
    · exact h.1 p q h1 h2 (by omega) e1 e2
/-! ### Ranges swapped, a rotation -/
inductive Chunks (lt : α → α → Bool) (D : Nat → α) (s n : Nat) : Nat → Prop
  | done {a : Nat} : n ≤ a → Chunks lt D s n a
  | cons {a : Nat} : a < n → Srt lt D a (min (a + s) n) → Chunks lt D s n (a + s) → Chunks lt D s n a
inductive Upto (lt : α → α → Bool) (D : Nat → α) (s : Nat) : Nat → Prop
  | zero : Upto lt D s 0
  | snoc {a : Nat} : Upto lt D s a → Srt lt D a (a + s) → Upto lt D s (a + s)
set_option maxRecDepth 100000 in
theorem Chunks.congr {D D' : Nat → α} {s n a lo : Nat} (h : Chunks lt D s n a) (hl : lo ≤ a) (he : ∀ k, lo ≤ k → D' k = D k) : Chunks lt D' s n a := by
  induction h with
  | done h => exact .done h
  | cons h1 h2 _ ih => exact .cons h1 (h2.congr fun k k1 _ => he k (by omega)) (ih (by omega))
set_option maxRecDepth 100000 in
theorem Upto.congr {D D' : Nat → α} {s a : Nat} (h : Upto lt D s a) (he : ∀ k, k < a → D' k = D k) : Upto lt D' s a := by
  induction h with
  | zero => exact .zero
  | snoc h1 h2 ih => exact .snoc (ih fun k hk => he k (by omega)) (h2.congr fun k _ k2 => he k k2)
set_option maxRecDepth 100000 in
theorem Upto.all {D : Nat → α} {s n a : Nat} (h : Upto lt D s a) (ha : a ≤ n) (k : Chunks lt D s n a) (hs : 0 < s) : Chunks lt D s n 0 := by
  induction h with
  | zero => exact k
  | @snoc c h1 h2 ih =>
    refine ih (by omega) (.cons (by omega) ?_ k)
    rw [show min (c + s) n = c + s by omega]; exact h2
set_option maxRecDepth 100000 in
theorem Chunks.head {D : Nat → α} {s n a : Nat} (h : Chunks lt D s n a) (ha : a < n) : Srt lt D a (min (a + s) n) ∧ Chunks lt D s n (a + s) := by
  cases h with
  | done h => omega
  | cons _ h2 h3 => exact ⟨h2, h3⟩
end
end
end Go.Proofs.YtinkbgeckjbnbaaGreat
namespace Go.Proofs.YtinkbgeckjbnbaaGreat
section
open Go.RowKit
set_option linter.unusedVariables false

/-- how many runes a text has, from place pos on; -1: bytes that are none -/
def tLenFrom (s : ByteArray) : Nat → Nat → Int → Int
  | 0, _, acc => acc
  | b + 1, pos, acc => if pos < s.size then (if (Utf8.decode s pos).1 = 65533 then -1 else tLenFrom s b (pos + (Utf8.decode s pos).2) (acc + 1)) else acc
def tLen (s : ByteArray) : Int := tLenFrom s s.size 0 0
set_option maxRecDepth 100000 in
theorem tLenFrom_end (s : ByteArray) (b pos : Nat) (acc : Int) (h : ¬ pos < s.size) : tLenFrom s b pos acc = acc := by
  cases b with
  | zero => rfl
  | succ b => simp [tLenFrom, h]
set_option maxRecDepth 100000 in
set_option maxHeartbeats 1000000 in
theorem len_any (s : ByteArray) (w : World) (hs : s.size ≤ maxLen) :
    Calls Tryz.prog 28 #[.string s] w fun e w' => e = .returned (.int .i64 (tLen s)) ∧ Below w.heap.size w w' := by
  unfold maxLen at hs
  have hb0 : ∀ pos, Below w.heap.size w (w.iter s pos) := fun pos => (Below.refl _ w).alloc (Nat.le_refl _) _
  go_enter Tryz.func28, Tryz.ntmps28
  go_wp2_with fail
  go_loopw [2, 3] (fun r n w' => ∃ (pos b : Nat) (acc : Int), w' = w.iter s pos ∧ r = .int .i64 0 ∧ n = .int .i64 acc ∧ tLenFrom s b pos acc = tLen s ∧ s.size ≤ pos + b ∧ 0 ≤ acc ∧ acc ≤ pos ∧ acc ≤ s.size) (fun _ _ w' => s.size - w'.iterPos w.heap.size)
  case atStart => exact ⟨0, s.size, 0, rfl, rfl, rfl, rfl, by omega, by omega, by omega, by omega⟩
  case round =>
    obtain ⟨pos, b, acc, rfl, rfl, rfl, hc, hb, ha0, ha, hps⟩ := hrel
    by_cases hp : pos < s.size
    · have hnx : ∀ ty, (Instr.next (.pointer (some ⟨w.heap.size, 0, none⟩)) true ty).run Tryz.prog (w.iter s pos) = _ := fun ty => run_next_any w s pos ty hp
      have hwd := Lib.decode_width_pos s pos hp
      by_cases hodd : (Utf8.decode s pos).1 = 65533
      · rw [hodd] at hnx
        go_wp2_with fail
        go_ret
        have : tLen s = -1 := by
          rw [← hc]
          cases b with
          | zero => omega
          | succ b => simp [tLenFrom, hp, hodd]
        rw [this]
        exact ⟨rfl, hb0 _⟩
      · obtain ⟨r, hr⟩ : ∃ r : Int, ((Utf8.decode s pos).1 : Int) = r := ⟨_, rfl⟩
        obtain ⟨wd, hw⟩ : ∃ wd : Nat, (Utf8.decode s pos).2 = wd := ⟨_, rfl⟩
        rw [hr, hw] at hnx
        rw [hw] at hwd
        have hne : (r == 65533) = false := by simp; omega
        go_wp2_with fail
        go_roundw
        case rel =>
          cases b with
          | zero => omega
          | succ b =>
            refine ⟨pos + wd, b, acc + 1, rfl, rfl, by go_num, ?_, by omega, by omega, by omega, ?_⟩
            · rw [← hc]
              simp [tLenFrom, hp, hodd, hw]
            · omega
        case measure =>
          simp
          omega
    · have hnx : ∀ ty, (Instr.next (.pointer (some ⟨w.heap.size, 0, none⟩)) true ty).run Tryz.prog (w.iter s pos) = _ := fun ty => run_next_end w s pos ty hp
      go_wp2_with fail
      go_ret
      rw [tLenFrom_end s b pos acc hp] at hc
      subst hc
      exact ⟨rfl, hb0 _⟩
end
end Go.Proofs.YtinkbgeckjbnbaaGreat
namespace Go.Proofs.YtinkbgeckjbnbaaGreat
section
open Go.RowKit
set_option linter.unusedVariables false

/-- texts by their bytes -/
def cmpT (a b : ByteArray) : Int := Lib.compareBytes a.data.toList b.data.toList
set_option maxRecDepth 100000 in
set_option maxHeartbeats 1000000 in
theorem bytealg_any (a b : ByteArray) (w : World) :
    Calls Tryz.prog 195 #[.string a, .string b] w fun e w' => e = .returned (.int .i64 (cmpT a b)) ∧ w = w' := by
  go_enter Tryz.func195, Tryz.ntmps195
  go_wp2
  rw [run_callFunc_extern Tryz.func208 (by kernel_rfl) (by kernel_rfl) (by kernel_rfl) (e := Extern.BytealgCompare.compare) (by kernel_rfl), Lib.run_compareString]
  simp only [Result.andThen]
  rw [Oper.upon_value]
  go_wp2
  go_ret
  exact ⟨rfl, rfl⟩
set_option maxRecDepth 100000 in
theorem strcmp_any (a b : ByteArray) (w : World) :
    Calls Tryz.prog 157 #[.string a, .string b] w fun e w' => e = .returned (.int .i64 (cmpT a b)) ∧ w = w' := by
  go_enter Tryz.func157, Tryz.ntmps157
  go_wp2_with fail
  refine (bytealg_any _ _ _).mono ?_
  rintro e w' ⟨rfl, rfl⟩
  go_wp2_with fail
  go_ret
  exact ⟨rfl, rfl⟩
set_option maxRecDepth 100000 in
theorem tcmp_any (a b : ByteArray) (w : World) :
    Calls Tryz.prog 103 #[.string a, .string b] w fun e w' => e = .returned (.int .i64 (cmpT a b)) ∧ w = w' := by
  go_enter Tryz.func103, Tryz.ntmps103
  go_wp2_with fail
  refine (strcmp_any _ _ _).mono ?_
  rintro e w' ⟨rfl, rfl⟩
  go_wp2_with fail
  go_ret
  exact ⟨rfl, rfl⟩
set_option maxRecDepth 100000 in
theorem nan_any (a : Int) (w : World) :
    Calls Tryz.prog 207 #[.int .i64 a] w fun e w' => e = .returned (.bool false) ∧ w = w' := by
  go_enter Tryz.func207, Tryz.ntmps207
  go_wp2
  go_ret
  exact ⟨by simp, rfl⟩
def cmpI (a b : Int) : Int := if a < b then -1 else if b < a then 1 else 0
set_option maxRecDepth 100000 in
theorem icmp_any (a b : Int) (w : World) :
    Calls Tryz.prog 189 #[.int .i64 a, .int .i64 b] w fun e w' => e = .returned (.int .i64 (cmpI a b)) ∧ w = w' := by
  unfold cmpI
  by_cases h1 : a < b
  · have d1 : decide (a < b) = true := by simp; omega
    rw [if_pos h1]
    go_enter Tryz.func189, Tryz.ntmps189
    go_wp2_with fail
    refine (nan_any _ _).mono ?_
    rintro e w' ⟨rfl, rfl⟩
    go_wp2_with fail
    refine (nan_any _ _).mono ?_
    rintro e w' ⟨rfl, rfl⟩
    go_wp2_with fail
    go_ret
    exact ⟨rfl, rfl⟩
  · have d1 : decide (a < b) = false := by simp; omega
    rw [if_neg h1]
    by_cases h2 : b < a
    · have d2 : decide (b < a) = true := by simp; omega
      rw [if_pos h2]
      go_enter Tryz.func189, Tryz.ntmps189
      go_wp2_with fail
      refine (nan_any _ _).mono ?_
      rintro e w' ⟨rfl, rfl⟩
      go_wp2_with fail
      refine (nan_any _ _).mono ?_
      rintro e w' ⟨rfl, rfl⟩
      go_wp2_with fail
      go_ret
      exact ⟨rfl, rfl⟩
    · have d2 : decide (b < a) = false := by simp; omega
      rw [if_neg h2]
      go_enter Tryz.func189, Tryz.ntmps189
      go_wp2_with fail
      refine (nan_any _ _).mono ?_
      rintro e w' ⟨rfl, rfl⟩
      go_wp2_with fail
      refine (nan_any _ _).mono ?_
      rintro e w' ⟨rfl, rfl⟩
      go_wp2_with fail
      go_ret
      exact ⟨rfl, rfl⟩
/-- is it a word? -/
def isWord (s : ByteArray) : Bool := decide (1 ≤ tLen s) && decide (tLen s ≤ 12)
set_option maxRecDepth 100000 in
theorem word_any (s : ByteArray) (w : World) (hs : s.size ≤ maxLen) :
    Calls Tryz.prog 102 #[.string s] w fun e w' => e = .returned (.bool (isWord s)) ∧ Below w.heap.size w w' := by
  unfold isWord
  have H := Lib.hid (len_any s w hs)
  generalize tLen s = z at *
  by_cases h1 : 1 ≤ z
  · have d1 : decide (1 ≤ z) = true := by simp; omega
    rw [d1]
    go_enter Tryz.func102, Tryz.ntmps102
    go_wp2_with fail
    refine (H.out).mono ?_
    rintro e w' ⟨rfl, hb⟩
    go_wp2_with fail
    go_ret
    exact ⟨by simp, hb⟩
  · have d1 : decide (1 ≤ z) = false := by simp; omega
    rw [d1]
    go_enter Tryz.func102, Tryz.ntmps102
    go_wp2_with fail
    refine (H.out).mono ?_
    rintro e w' ⟨rfl, hb⟩
    go_wp2_with fail
    go_ret
    exact ⟨by simp, hb⟩
end
end Go.Proofs.YtinkbgeckjbnbaaGreat
namespace Go.Proofs.YtinkbgeckjbnbaaGreat
section
open Go.RowKit
set_option linter.unusedVariables false

def orI (x y : Int) : Int := if x = 0 then y else x
set_option maxRecDepth 100000 in
set_option maxHeartbeats 1000000 in
theorem or_any (w : World) (g : Nat) (ty : TypeId) (x y : Int) (h : Blk w g ty [.int .i64 x, .int .i64 y]) :
    Calls Tryz.prog 188 #[.slice (some ⟨g, 0, none⟩) 2 2] w fun e w' => e = .returned (.int .i64 (orI x y)) ∧ w = w' := by
  have c0 : w.cell? ⟨g, 0, none⟩ = some (.int .i64 x) := h.cell 0
  have c1 : w.cell? ⟨g, 1, none⟩ = some (.int .i64 y) := h.cell 1
  clear h
  go_enter Tryz.func188, Tryz.ntmps188
  go_wp2_with fail
  go_loopw [2, 8] (fun r i wr => ∃ k : Nat, k ≤ 2 ∧ i = .int .i64 k ∧ r = .int .i64 0 ∧ wr = w ∧ (1 ≤ k → x = 0) ∧ (2 ≤ k → y = 0)) (fun _ i _ => 2 - (intOf i).toNat)
  case atStart => exact ⟨0, by omega, rfl, rfl, rfl, by omega, by omega⟩
  case round =>
    obtain ⟨k, hk, rfl, rfl, rfl, hx, hy⟩ := hrel
    rcases (by omega : k = 0 ∨ k = 1 ∨ k = 2) with rfl | rfl | rfl
    · by_cases h0 : x = 0
      · subst h0
        go_wp2_with fail
        go_roundw
        case rel => exact ⟨1, by simp⟩
        case measure => simp [intOf]
      · have hne : (x == 0) = false := by simp; omega
        go_wp2_with fail
        go_ret
        unfold orI
        rw [if_neg h0]
        exact ⟨rfl, rfl⟩
    · obtain rfl := hx (by omega)
      by_cases h0 : y = 0
      · subst h0
        go_wp2_with fail
        go_roundw
        case rel => exact ⟨2, by simp⟩
        case measure => simp [intOf]
      · have hne : (y == 0) = false := by simp; omega
        go_wp2_with fail
        go_ret
        unfold orI
        rw [if_pos rfl]
        exact ⟨rfl, rfl⟩
    · obtain rfl := hx (by omega)
      obtain rfl := hy (by omega)
      go_wp2_with fail
      go_ret
      exact ⟨rfl, rfl⟩

def cmpK (la : Int) (ta : ByteArray) (lb : Int) (tb : ByteArray) : Int := orI (cmpI la lb) (cmpT ta tb)
/-- a key: its length and its text -/
abbrev KeyL := Int × ByteArray
def KeyL.cells (k : KeyL) : List Value := [.int .i64 k.1, .string k.2]
def kless (a b : KeyL) : Bool := decide (cmpK a.1 a.2 b.1 b.2 < 0)
end
end Go.Proofs.YtinkbgeckjbnbaaGreat
namespace Go.Proofs.YtinkbgeckjbnbaaGreat
section
open Go.RowKit
set_option linter.unusedVariables false

set_option maxRecDepth 100000 in
set_option maxHeartbeats 4000000 in
theorem itcmp_any (la : Int) (ta : ByteArray) (lb : Int) (tb : ByteArray) (w : World) :
    Calls Tryz.prog 142 #[.agg #[.int .i64 la, .string ta], .agg #[.int .i64 lb, .string tb]] w fun e w' => e = .returned (.int .i64 (cmpK la ta lb tb)) ∧ Below w.heap.size w w' := by
  unfold cmpK
  have H1 : RowKit.Hid (∀ W, Calls Tryz.prog 189 #[.int .i64 la, .int .i64 lb] W fun e w' => e = .returned (.int .i64 (cmpI la lb)) ∧ w' = W) := fun W => (icmp_any la lb W).mono fun e w' h => ⟨h.1, h.2.symm⟩
  have H2 : RowKit.Hid (∀ W, Calls Tryz.prog 103 #[.string ta, .string tb] W fun e w' => e = .returned (.int .i64 (cmpT ta tb)) ∧ w' = W) := fun W => (tcmp_any ta tb W).mono fun e w' h => ⟨h.1, h.2.symm⟩
  generalize cmpI la lb = x at *
  generalize cmpT ta tb = y at *
  have HB : RowKit.Hid (∀ W : World, W.heap = (((w.alloc (.cells #[.int .i64 la, .string ta] 46)).alloc (.cells #[.int .i64 lb, .string tb] 46)).alloc (.cells #[.int .i64 x, .int .i64 y] 3)).heap → Blk W (w.heap.size + 1 + 1) 3 [.int .i64 x, .int .i64 y]) := by
    intro W hW
    have h := heap_alloc_new ((w.alloc (.cells #[.int .i64 la, .string ta] 46)).alloc (.cells #[.int .i64 lb, .string tb] 46)) (.cells #[.int .i64 x, .int .i64 y] 3)
    unfold Blk
    rw [hW]
    simpa using h
  have HW : RowKit.Hid (Below w.heap.size w (((w.alloc (.cells #[.int .i64 la, .string ta] 46)).alloc (.cells #[.int .i64 lb, .string tb] 46)).alloc (.cells #[.int .i64 x, .int .i64 y] 3))) := by
    exact (((Below.refl _ w).alloc (Nat.le_refl _) _).alloc (by simp) _).alloc (by simp; omega) _
  go_enter Tryz.func142, Tryz.ntmps142
  go_wp2_with fail
  obtain ⟨W0, hW0⟩ : ∃ W0, (w.alloc (.cells #[.int .i64 la, .string ta] 46)).alloc (.cells #[.int .i64 lb, .string tb] 46) = W0 := ⟨_, rfl⟩
  have HA : Blk W0 w.heap.size 46 [.int .i64 la, .string ta] := by
    subst hW0; exact Blk.alloc (show Blk (w.alloc _) _ _ _ by unfold Blk; rw [heap_alloc_new]) _
  have HC : Blk W0 (w.heap.size + 1) 46 [.int .i64 lb, .string tb] := by
    subst hW0
    have h := heap_alloc_new (w.alloc (.cells #[.int .i64 la, .string ta] 46)) (.cells #[.int .i64 lb, .string tb] 46)
    unfold Blk
    simpa using h
  have x0 : W0.cell? ⟨w.heap.size, 0, none⟩ = some (.int .i64 la) := HA.cell 0
  have x1 : W0.cell? ⟨w.heap.size, 1, none⟩ = some (.string ta) := HA.cell 1
  have y0 : W0.cell? ⟨w.heap.size + 1, 0, none⟩ = some (.int .i64 lb) := HC.cell 0
  have y1 : W0.cell? ⟨w.heap.size + 1, 1, none⟩ = some (.string tb) := HC.cell 1
  rw [hW0]
  go_still_tail 10, (by kernel_rfl)
  still_call (H1.out _)
  repeat still_step
  still_call (H2.out _)
  repeat still_step
  refine wpStill_nil ?_
  go_wp2_with fail
  refine (or_any _ _ 3 x y ?_).mono ?_
  · have h := heap_alloc_new W0 (.cells #[.int .i64 x, .int .i64 y] 3)
    exact h
  rintro e w' ⟨rfl, rfl⟩
  go_wp2_with fail
  go_ret
  subst hW0
  exact ⟨rfl, HW.out.os, HW.out.tape, HW.out.output, HW.out.size, HW.out.block⟩
set_option maxRecDepth 100000 in
set_option maxHeartbeats 1000000 in
theorem itless_any (la : Int) (ta : ByteArray) (lb : Int) (tb : ByteArray) (w : World) :
    Calls Tryz.prog 88 #[.agg #[.int .i64 la, .string ta], .agg #[.int .i64 lb, .string tb]] w fun e w' => e = .returned (.bool (decide (cmpK la ta lb tb < 0))) ∧ Below w.heap.size w w' := by
  have HK : RowKit.Hid (∀ W, Calls Tryz.prog 142 #[.agg #[.int .i64 la, .string ta], .agg #[.int .i64 lb, .string tb]] W fun e w' => e = .returned (.int .i64 (cmpK la ta lb tb)) ∧ Below W.heap.size W w') := fun W => itcmp_any la ta lb tb W
  generalize cmpK la ta lb tb = x at *
  have HW : RowKit.Hid (Below w.heap.size w ((w.alloc (.cells #[.int .i64 la, .string ta] 46)).alloc (.cells #[.int .i64 lb, .string tb] 46))) := by
    exact ((Below.refl _ w).alloc (Nat.le_refl _) _).alloc (by simp) _
  go_enter Tryz.func88, Tryz.ntmps88
  go_wp2_with fail
  refine (HK.out _).mono ?_
  rintro e w' ⟨rfl, hb⟩
  have HB := Lib.hid (HW.out.trans (hb.mono (by simp; omega)))
  clear hb
  go_wp2_with fail
  go_ret
  exact ⟨rfl, HB.out⟩
end
end Go.Proofs.YtinkbgeckjbnbaaGreat
namespace Go.Proofs.YtinkbgeckjbnbaaGreat
section
open Go.RowKit
set_option linter.unusedVariables false

/-- block g holds the items D 0, .., D (n - 1), behind them what there is -/
def HI (w : World) (g n : Nat) (D : Nat → KeyL) (sp : List Value) : Prop := Blk w g 46 ((List.range n).flatMap (fun k => KeyL.cells (D k)) ++ sp)
set_option maxRecDepth 100000 in
theorem HI.c0 {w : World} {g n : Nat} {f : Nat → KeyL} {sp : List Value} (h : HI w g n f sp) {k : Nat} (hk : k < n) : w.cell? ⟨g, k * 2, none⟩ = some (.int .i64 (f k).1) := by
  unfold HI at h
  rw [h.cell, List.getElem?_append_left (by rw [flatMap_len _ 2 (fun _ => rfl), List.length_range]; omega)]
  have := flatMap_get (fun k => KeyL.cells (f k)) 2 (fun _ => rfl) (List.range n) k 0 (by omega)
  rw [Nat.add_zero] at this
  rw [this, List.getElem?_range hk]; rfl
set_option maxRecDepth 100000 in
theorem HI.c1 {w : World} {g n : Nat} {f : Nat → KeyL} {sp : List Value} (h : HI w g n f sp) {k : Nat} (hk : k < n) : w.cell? ⟨g, k * 2 + 1, none⟩ = some (.string (f k).2) := by
  unfold HI at h
  rw [h.cell, List.getElem?_append_left (by rw [flatMap_len _ 2 (fun _ => rfl), List.length_range]; omega)]
  rw [flatMap_get (fun k => KeyL.cells (f k)) 2 (fun _ => rfl) (List.range n) k 1 (by omega), List.getElem?_range hk]; rfl
set_option maxRecDepth 100000 in
theorem HI.frm {w w' : World} {g n : Nat} {f : Nat → KeyL} {sp : List Value} (h : HI w g n f sp) {S : Nat → Prop} (hf : Frm S w w') (hg : ¬ S g) : HI w' g n f sp := Blk.frm h hf hg
set_option maxRecDepth 100000 in
theorem HI.below {w w' : World} {g n : Nat} {f : Nat → KeyL} {sp : List Value} (h : HI w g n f sp) (hb : Below w.heap.size w w') : HI w' g n f sp := Blk.below h hb (Blk.lt h)
set_option maxRecDepth 100000 in
theorem swI_flat (n i j : Nat) (f : Nat → KeyL) (hi : i < n) (hj : j < n) (hij : i ≠ j) (sp : List Value) :
    ((((((List.range n).flatMap (fun k => KeyL.cells (f k)) ++ sp).set (i * 2) (.int .i64 (f j).1)).set (i * 2 + 1) (.string (f j).2)).set (j * 2) (.int .i64 (f i).1)).set (j * 2 + 1) (.string (f i).2)) = (List.range n).flatMap (fun k => KeyL.cells (swF f i j k)) ++ sp := by
  have hlen : ∀ h : Nat → KeyL, ((List.range n).flatMap (fun k => KeyL.cells (h k))).length = n * 2 := fun h => by rw [flatMap_len _ 2 (fun _ => rfl), List.length_range]
  apply List.ext_getElem?
  intro q
  by_cases hq : q < n * 2
  · have hr : q % 2 < 2 := Nat.mod_lt _ (by omega)
    have hk : q / 2 < n := by omega
    have hget : ∀ h : Nat → KeyL, ((List.range n).flatMap (fun k => KeyL.cells (h k)) ++ sp)[q]? = (KeyL.cells (h (q / 2)))[q % 2]? := by
      intro h
      rw [List.getElem?_append_left (by rw [hlen]; exact hq)]
      have := flatMap_get (fun k => KeyL.cells (h k)) 2 (fun _ => rfl) (List.range n) (q / 2) (q % 2) hr
      rw [show q / 2 * 2 + q % 2 = q from by omega, List.getElem?_range hk] at this
      exact this
    rw [hget (swF f i j)]
    simp only [List.getElem?_set, List.length_set, List.length_append, hlen]
    by_cases e1 : q = j * 2 + 1
    · rw [if_pos e1.symm, if_pos (by omega), show q / 2 = j from by omega, show q % 2 = 1 from by omega, swF_j]; rfl
    · rw [if_neg (fun e => e1 e.symm)]
      by_cases e2 : q = j * 2
      · rw [if_pos e2.symm, if_pos (by omega), show q / 2 = j from by omega, show q % 2 = 0 from by omega, swF_j]; rfl
      · rw [if_neg (fun e => e2 e.symm)]
        by_cases e3 : q = i * 2 + 1
        · rw [if_pos e3.symm, if_pos (by omega), show q / 2 = i from by omega, show q % 2 = 1 from by omega, swF_i]; rfl
        · rw [if_neg (fun e => e3 e.symm)]
          by_cases e4 : q = i * 2
          · rw [if_pos e4.symm, if_pos (by omega), show q / 2 = i from by omega, show q % 2 = 0 from by omega, swF_i]; rfl
          · rw [if_neg (fun e => e4 e.symm), hget f, swF_o _ _ _ _ (by omega) (by omega)]
  · simp only [List.getElem?_set]
    rw [if_neg (by omega), if_neg (by omega), if_neg (by omega), if_neg (by omega), List.getElem?_append_right (by rw [hlen]; omega), List.getElem?_append_right (by rw [hlen]; omega), hlen, hlen]
/-- the world behind two items are swapped -/
def swW (w : World) (g i j : Nat) (x y : KeyL) : World := (((w.setCell ⟨g, i * 2, none⟩ (.int .i64 y.1)).setCell ⟨g, i * 2 + 1, none⟩ (.string y.2)).setCell ⟨g, j * 2, none⟩ (.int .i64 x.1)).setCell ⟨g, j * 2 + 1, none⟩ (.string x.2)
set_option maxRecDepth 100000 in
theorem HI.swap {w : World} {g n : Nat} {f : Nat → KeyL} {sp : List Value} (h : HI w g n f sp) {i j : Nat} (hi : i < n) (hj : j < n) (hij : i ≠ j) : HI (swW w g i j (f i) (f j)) g n (swF f i j) sp := by
  have := (((Blk.set h (i * 2) (.int .i64 (f j).1)).set (i * 2 + 1) (.string (f j).2)).set (j * 2) (.int .i64 (f i).1)).set (j * 2 + 1) (.string (f i).2)
  rw [swI_flat n i j f hi hj hij sp] at this
  exact this
set_option maxRecDepth 100000 in
theorem HI.drew {w : World} {g n : Nat} {f : Nat → KeyL} {sp : List Value} (h : HI w g n f sp) : HI w.drew g n f sp := h
end
end Go.Proofs.YtinkbgeckjbnbaaGreat
namespace Go.Proofs.YtinkbgeckjbnbaaGreat
section
open Go.RowKit
set_option linter.unusedVariables false

set_option maxRecDepth 100000 in
theorem str_ne {x y : ByteArray} (h : x ≠ y) : (x.toList == y.toList) = false := by
  rw [beq_eq_false_iff_ne]; intro e; apply h; rw [ByteArray.toList_eq, ByteArray.toList_eq] at e; exact ByteArray.ext (Array.toList_inj.1 e)
end
end Go.Proofs.YtinkbgeckjbnbaaGreat
namespace Go.Proofs.YtinkbgeckjbnbaaGreat
section
open Go.RowKit
set_option linter.unusedVariables false

set_option maxRecDepth 100000 in
theorem infoI2 : (Tryz.prog.info? 46).map (fun i => (i.zero, i.size, i.bytes)) = some (some (.agg #[.int .i64 0, .string ⟨#[]⟩]), 2, 24) := by kernel_rfl
set_option maxRecDepth 100000 in
theorem itemOne (x : KeyL) : ∀ u ∈ x.cells, u.oneCell' = true := by
  intro u hu; unfold KeyL.cells at hu; simp at hu; rcases hu with rfl | rfl <;> rfl
def markI : List Value := [.int .i64 (-7), .string ⟨#[]⟩]
def marksI (k : Nat) : List Value := (List.replicate k markI).flatten
set_option maxRecDepth 100000 in
theorem marksI_succ (k : Nat) : marksI (k + 1) = marksI k ++ markI := by
  unfold marksI; rw [List.replicate_succ', List.flatten_append]; simp
set_option maxRecDepth 100000 in
theorem ilen (l : List KeyL) : (l.flatMap KeyL.cells).length = l.length * 2 := flatMap_len KeyL.cells 2 (fun _ => rfl) l
/-- the spare room while it is marked -/
def SpareI (w wr : World) (g : Nat) (l : List KeyL) (k : Nat) : Prop :=
  ∃ cs : List Value, Blk wr g 46 (l.flatMap KeyL.cells ++ cs) ∧ cs.length = 6 ∧ cs.take (2 * k) = marksI k ∧ Below w.heap.size w wr
set_option maxRecDepth 100000 in
theorem SpareI.next {w wr : World} {g : Nat} {l : List KeyL} {k : Nat} {cs : List Value} (hb : Blk wr g 46 (l.flatMap KeyL.cells ++ cs)) (h3 : cs.length = 6) (ht : cs.take (2 * k) = marksI k) (hbel : Below w.heap.size w wr)
    (hk : k < 3) (hg : w.heap.size ≤ g) : SpareI w ((wr.setCell ⟨g, l.length * 2 + k * 2, none⟩ (.int .i64 (-7))).setCell ⟨g, l.length * 2 + k * 2 + 1, none⟩ (.string ⟨#[]⟩)) g l (k + 1) := by
  refine ⟨(cs.set (2 * k) (.int .i64 (-7))).set (2 * k + 1) (.string ⟨#[]⟩), ?_, by simp [h3], ?_, (hbel.setCell hg _).setCell hg _⟩
  · have := (hb.set (l.length * 2 + k * 2) (.int .i64 (-7))).set (l.length * 2 + k * 2 + 1) (.string ⟨#[]⟩)
    rw [List.set_append_right _ _ (by rw [ilen]; omega), List.set_append_right _ _ (by rw [ilen]; omega), ilen, show l.length * 2 + k * 2 - l.length * 2 = 2 * k from by omega, show l.length * 2 + k * 2 + 1 - l.length * 2 = 2 * k + 1 from by omega] at this
    exact this
  · rw [marksI_succ, ← ht]
    apply List.ext_getElem?
    intro j
    rw [List.getElem?_take]
    by_cases hj : j < 2 * k
    · rw [if_pos (by omega), List.getElem?_set_ne (by omega), List.getElem?_set_ne (by omega), List.getElem?_append_left (by simp; omega), List.getElem?_take, if_pos hj]
    · have hl : (cs.take (2 * k)).length = 2 * k := by simp; omega
      rw [List.getElem?_append_right (by omega), hl]
      by_cases e0 : j = 2 * k
      · subst e0
        rw [if_pos (by omega), List.getElem?_set_ne (by omega), List.getElem?_set_self (by omega)]
        simp [markI]
      · by_cases e1 : j = 2 * k + 1
        · subst e1
          rw [if_pos (by omega), List.getElem?_set_self (by simp; omega), show 2 * k + 1 - 2 * k = 1 from by omega]
          simp [markI]
        · rw [if_neg (by omega), List.getElem?_eq_none (by simp [markI]; omega)]
def eqIs (a b : List KeyL) : Bool := decide (a = b)
set_option maxRecDepth 100000 in
set_option maxHeartbeats 2000000 in
theorem sameI_any (a : Option Addr) (n cap : Nat) (b : Option Addr) (m bcap : Nat) (l r : List KeyL) (w : World) (hr : RdE KeyL.cells 2 w a n cap l) (hr2 : RdE KeyL.cells 2 w b m bcap r) :
    Calls Tryz.prog 75 #[.slice a n cap, .slice b m bcap] w fun e w' => e = .returned (.bool (eqIs l r)) ∧ Drew w w' := by
  have hn := hr.1
  have hn2 := hr2.1
  subst hn hn2
  have hm := Nat.le_trans hr.2.1 hr.2.2.1
  have hm2 := Nat.le_trans hr2.2.1 hr2.2.2.1
  unfold maxLen at hm hm2
  have HR := Lib.hid hr
  have HR2 := Lib.hid hr2
  clear hr hr2
  by_cases hlen : l.length = r.length
  · have HL := Lib.hid hlen
    have h1 : ((l.length : Int) != r.length) = false := by simp; omega
    have hlen1 : l.length ≤ r.length := by omega
    have hlen2 : r.length ≤ l.length := by omega
    clear hlen
    go_enter Tryz.func75, Tryz.ntmps75
    go_wp2
    go_loopw [4, 5] (fun u i wr => ∃ k : Nat, k ≤ l.length ∧ i = .int .i64 k ∧ u = .bool false ∧ RowKit.Hid (l.take k = r.take k) ∧ Drew w wr) (fun _ i _ => l.length - (intOf i).toNat)
    case atStart => exact ⟨0, by omega, rfl, rfl, by simp [RowKit.Hid], 0, rfl⟩
    case round =>
      obtain ⟨k, hk, rfl, rfl, htk, nq, rfl⟩ := hrel
      by_cases hlt : k < l.length
      · have hlt2 : k < r.length := by omega
        obtain ⟨⟨lx, tx⟩, hx⟩ : ∃ x, l[k]? = some x := ⟨l[k], List.getElem?_eq_getElem hlt⟩
        obtain ⟨⟨ly, ty⟩, hy⟩ : ∃ x, r[k]? = some x := ⟨r[k], List.getElem?_eq_getElem hlt2⟩
        obtain ⟨ba, offa, rfl, hbl, hc1⟩ := HR.out.2.2.2.2 k _ hx
        obtain ⟨bb, offb, rfl, hbl2, hc2⟩ := HR2.out.2.2.2.2 k _ hy
        have x0 : w.cell? ⟨ba, offa + k * 2, none⟩ = some (.int .i64 lx) := hc1 0 (by decide)
        have x1 : w.cell? ⟨ba, offa + k * 2 + 1, none⟩ = some (.string tx) := hc1 1 (by decide)
        have y0 : w.cell? ⟨bb, offb + k * 2, none⟩ = some (.int .i64 ly) := hc2 0 (by decide)
        have y1 : w.cell? ⟨bb, offb + k * 2 + 1, none⟩ = some (.string ty) := hc2 1 (by decide)
        have HX := Lib.hid hx
        have HY := Lib.hid hy
        clear hx hy hc1 hc2
        by_cases heq : lx = ly ∧ tx = ty
        · obtain ⟨rfl, rfl⟩ := heq
          have ht : (tx.toList == tx.toList) = true := by simp
          have hl : (lx == lx) = true := by simp
          have hsn : RowKit.Hid (l.take (k + 1) = r.take (k + 1)) := by
            unfold RowKit.Hid
            rw [List.take_add_one, List.take_add_one, htk.out, HX.out, HY.out]
          go_wp2
          go_quiet (fail)
          go_wp2
          go_roundw
          case rel => exact ⟨k + 1, by omega, by go_num, rfl, hsn, by first | exact Drew.one _ _ | exact Drew.two _ _ _⟩
          case measure => simp [intOf]; omega
        · have hne : RowKit.Hid (eqIs l r = false) := by
            unfold RowKit.Hid eqIs
            rw [decide_eq_false_iff_not]; intro e; subst e; apply heq
            have := Option.some.inj (HX.out.symm.trans HY.out)
            simpa using this
          by_cases hl : lx = ly
          · have ht := str_ne (fun e => heq ⟨hl, e⟩)
            subst hl
            have hl : (lx == lx) = true := by simp
            clear heq
            go_wp2
            go_quiet (fail)
            go_wp2
            go_ret
            rw [hne.out]
            exact ⟨rfl, by first | exact Drew.one _ _ | exact Drew.two _ _ _⟩
          · have hl' : (lx == ly) = false := by simpa using hl
            clear heq
            go_wp2
            go_quiet (fail)
            go_wp2
            go_ret
            rw [hne.out]
            exact ⟨rfl, by first | exact Drew.one _ _ | exact Drew.two _ _ _⟩
      · obtain rfl : k = l.length := by omega
        have he : RowKit.Hid (eqIs l r = true) := by
          unfold RowKit.Hid eqIs
          have := htk.out
          rw [List.take_length, HL.out, List.take_length] at this
          simp [this]
        go_wp2
        go_ret
        rw [he.out]
        exact ⟨rfl, nq, rfl⟩
  · have h1 : ((l.length : Int) != r.length) = true := by simp; omega
    have he : RowKit.Hid (eqIs l r = false) := by
      unfold RowKit.Hid eqIs
      rw [decide_eq_false_iff_not]; intro e; exact hlen (by rw [e])
    clear hlen
    go_enter Tryz.func75, Tryz.ntmps75
    go_wp2
    go_ret
    rw [he.out]
    exact ⟨rfl, 0, rfl⟩
end
end Go.Proofs.YtinkbgeckjbnbaaGreat
namespace Go.Proofs.YtinkbgeckjbnbaaGreat
section
open Go.RowKit
set_option linter.unusedVariables false

set_option maxRecDepth 100000 in
theorem RdE.atI {w : World} {a : Option Addr} {n c : Nat} {L : List KeyL} (h : RdE KeyL.cells 2 w a n c L) {i : Nat} {x : KeyL} (hx : L[i]? = some x) : ∃ b o, a = some ⟨b, o, none⟩ ∧ w.cell? ⟨b, o + i * 2, none⟩ = some (.int .i64 x.1) ∧ w.cell? ⟨b, o + i * 2 + 1, none⟩ = some (.string x.2) ∧ b < w.heap.size := by
  obtain ⟨b, o, e, hb, hc⟩ := h.2.2.2.2 i x hx
  exact ⟨b, o, e, hc 0 (by omega), hc 1 (by omega), hb⟩
end
end Go.Proofs.YtinkbgeckjbnbaaGreat
namespace Go.Proofs.YtinkbgeckjbnbaaGreat
section
set_option linter.unusedVariables false

/-- the least of three, as the program reckons it -/
def min3 (x y z : Int) : Int := if z < (if y < x then y else x) then z else (if y < x then y else x)
set_option maxRecDepth 100000 in
theorem min3_le (x y z : Int) : min3 x y z ≤ x ∧ min3 x y z ≤ y ∧ min3 x y z ≤ z ∧ (min3 x y z = x ∨ min3 x y z = y ∨ min3 x y z = z) := by
  unfold min3; split <;> split <;> omega
/-- the next row, place by place -/
def newAt (a : List Int) (r : Int) (k : Nat) (old : List Int) : Nat → Int
  | 0 => (k : Int) + 1
  | i + 1 => min3 (old.getD (i + 1) 0 + 1) (newAt a r k old i + 1) (old.getD i 0 + (if a.getD i 0 = r then 0 else 1))
def stepRow (a : List Int) (r : Int) (k : Nat) (old : List Int) : List Int := (List.range (a.length + 1)).map (newAt a r k old)
/-- the distances of the first k of b toV the beginnings of a -/
def rowAt (a b : List Int) : Nat → List Int
  | 0 => (List.range (a.length + 1)).map fun (i : Nat) => (i : Int)
  | k + 1 => stepRow a (b.getD k 0) k (rowAt a b k)
set_option maxRecDepth 100000 in
theorem stepRow_get (a : List Int) (r : Int) (k : Nat) (old : List Int) (i : Nat) (h : i ≤ a.length) : (stepRow a r k old).getD i 0 = newAt a r k old i := by
  unfold stepRow
  rw [List.getD_eq_getElem?_getD, List.getElem?_map, List.getElem?_range (by omega)]; rfl
set_option maxRecDepth 100000 in
theorem rowAt_0 (a b : List Int) (i : Nat) (h : i ≤ a.length) : (rowAt a b 0).getD i 0 = (i : Int) := by
  unfold rowAt
  rw [List.getD_eq_getElem?_getD, List.getElem?_map, List.getElem?_range (by omega)]; rfl
set_option maxRecDepth 100000 in
/-- each is at least the difference of the lengths, and at most their sum -/
theorem rowAt_bd (a b : List Int) : ∀ k i, i ≤ a.length → (i : Int) - k ≤ (rowAt a b k).getD i 0 ∧ (k : Int) - i ≤ (rowAt a b k).getD i 0 ∧ (rowAt a b k).getD i 0 ≤ (i : Int) + k
  | 0, i, h => by rw [rowAt_0 a b i h]; omega
  | k + 1, i, h => by
    show (i : Int) - (k + 1 : Nat) ≤ (stepRow a (b.getD k 0) k (rowAt a b k)).getD i 0 ∧ _
    rw [rowAt, stepRow_get _ _ _ _ _ h]
    have ih := rowAt_bd a b k
    have hn : ∀ j, j ≤ a.length → (j : Int) - (k + 1 : Nat) ≤ newAt a (b.getD k 0) k (rowAt a b k) j ∧ ((k + 1 : Nat) : Int) - j ≤ newAt a (b.getD k 0) k (rowAt a b k) j ∧ newAt a (b.getD k 0) k (rowAt a b k) j ≤ (j : Int) + (k + 1 : Nat) := by
      intro j
      induction j with
      | zero => intro _; unfold newAt; omega
      | succ j ihj =>
        intro hj
        have h1 := ihj (by omega)
        have h2 := ih (j + 1) hj
        have h3 := ih j (by omega)
        rw [newAt]
        generalize newAt a (b.getD k 0) k (rowAt a b k) j = x at *
        generalize (rowAt a b k).getD (j + 1) 0 = y at *
        generalize (rowAt a b k).getD j 0 = z at *
        have hm := min3_le (y + 1) (x + 1) (z + (if a.getD j 0 = b.getD k 0 then 0 else 1))
        generalize min3 (y + 1) (x + 1) (z + (if a.getD j 0 = b.getD k 0 then 0 else 1)) = m at *
        have hc : (if a.getD j 0 = b.getD k 0 then (0 : Int) else 1) = 0 ∨ (if a.getD j 0 = b.getD k 0 then (0 : Int) else 1) = 1 := by split <;> simp
        omega
    exact hn i h
end
end Go.Proofs.YtinkbgeckjbnbaaGreat
namespace Go.Proofs.YtinkbgeckjbnbaaGreat
section
set_option linter.unusedVariables false

/-- the distance of the first i of a and the first j of b -/
def Dm (a b : List Int) (i j : Nat) : Int := (rowAt a b j).getD i 0
set_option maxRecDepth 100000 in
theorem Dm_0j (a b : List Int) (j : Nat) : Dm a b 0 j = (j : Int) := by
  cases j with
  | zero => exact rowAt_0 a b 0 (Nat.zero_le _)
  | succ j =>
    unfold Dm
    rw [rowAt, stepRow_get _ _ _ _ _ (Nat.zero_le _), newAt]; omega
set_option maxRecDepth 100000 in
theorem Dm_bd (a b : List Int) {i : Nat} (j : Nat) (h : i ≤ a.length) : (i : Int) - j ≤ Dm a b i j ∧ (j : Int) - i ≤ Dm a b i j ∧ Dm a b i j ≤ (i : Int) + j := rowAt_bd a b j i h
def capI (far x : Int) : Int := if far < x then far else x
set_option maxRecDepth 100000 in
theorem capI_far {far x : Int} (h : far ≤ x) : capI far x = far := by unfold capI; split <;> omega
def setR (R : Nat → Int) (j : Nat) (x : Int) : Nat → Int := fun q => if q = j then x else R q
set_option maxRecDepth 100000 in
theorem setR_eq (R : Nat → Int) (j : Nat) (x : Int) : setR R j x j = x := by simp [setR]
set_option maxRecDepth 100000 in
theorem setR_ne (R : Nat → Int) {j q : Nat} (x : Int) (h : q ≠ j) : setR R j x q = R q := by simp [setR, h]
/-- a row that is right in the band of i -/
def BdOK (a b : List Int) (k i : Nat) (R : Nat → Int) : Prop := ∀ j, j ≤ b.length → i ≤ j + k + 1 → j ≤ i + k + 1 → R j = capI ((k : Int) + 1) (Dm a b i j)
/-- a row under way: right for i + 1 ahead of place j, for i from there on -/
def MdOK (a b : List Int) (k i j : Nat) (R : Nat → Int) : Prop := (∀ q, q < j → q ≤ b.length → i ≤ q + k → R q = capI ((k : Int) + 1) (Dm a b (i + 1) q)) ∧ ∀ q, j ≤ q → q ≤ b.length → q ≤ i + k + 1 → R q = capI ((k : Int) + 1) (Dm a b i q)
set_option maxRecDepth 100000 in
theorem BdOK.zero {a b : List Int} {k : Nat} {R : Nat → Int} (h : ∀ j, j ≤ b.length → R j = capI ((k : Int) + 1) (j : Int)) : BdOK a b k 0 R := fun j hj _ _ => by rw [h j hj, Dm_0j]
set_option maxRecDepth 100000 in
theorem MdOK.next {a b : List Int} {k i j : Nat} {R : Nat → Int} (h : MdOK a b k i (j + 1) R) (hi : i < a.length) (hj : j < b.length) (h1 : i ≤ j + k) : MdOK a b k i (j + 1 + 1) (setR R (j + 1) (capI ((k : Int) + 1) (Dm a b (i + 1) (j + 1)))) := by
  refine ⟨fun q h1 h2 h3 => ?_, fun q h1 h2 h3 => ?_⟩
  · by_cases e : q = j + 1
    · rw [e, setR_eq]
    · rw [setR_ne _ _ e]; exact h.1 q (by omega) h2 h3
  · rw [setR_ne _ _ (by omega)]; exact h.2 q (by omega) h2 h3
set_option maxRecDepth 100000 in
theorem MdOK.done {a b : List Int} {k i t f : Nat} {R : Nat → Int} (hf : i + 1 ≤ f + k) (h : MdOK a b k i (t + 1) R) (hi : i < a.length) (ht : t = b.length ∨ t = i + 1 + k ∧ t < b.length) : BdOK a b k (i + 1) (if t < b.length then setR R (t + 1) ((k : Int) + 1) else R) := fun j h1 h2 h3 => by
  by_cases e : t < b.length
  · rw [if_pos e]
    by_cases e2 : j = t + 1
    · rw [e2, setR_eq]
      have := Dm_bd a b (t + 1) (show i + 1 ≤ a.length from hi)
      rw [capI_far (by omega)]
    · rw [setR_ne _ _ e2]; exact h.1 j (by omega) h1 (by omega)
  · rw [if_neg e]; exact h.1 j (by omega) h1 (by omega)
end
end Go.Proofs.YtinkbgeckjbnbaaGreat
namespace Go.Proofs.YtinkbgeckjbnbaaGreat
section
open Go.RowKit
set_option linter.unusedVariables false

def RdR (w : World) (a : Option Addr) (n c : Nat) (l : List Int) : Prop := Rd w a n c (l.map (Value.int .i32))
set_option maxRecDepth 100000 in
theorem RdR.len {w : World} {a : Option Addr} {n c : Nat} {l : List Int} (h : RdR w a n c l) : l.length = n := by have := h.1; simpa using this
set_option maxRecDepth 100000 in
theorem RdR.below {w w' : World} {a : Option Addr} {n c B : Nat} {l : List Int} (h : RdR w a n c l) (hb : Below B w w') (hB : B = w.heap.size) : RdR w' a n c l := Rd.below h hb hB
set_option maxRecDepth 100000 in
theorem RdR.at {w : World} {a : Option Addr} {n c : Nat} {l : List Int} (h : RdR w a n c l) {k : Nat} (hk : k < n) : ∃ b off, a = some ⟨b, off, none⟩ ∧ b < w.heap.size ∧ w.cell? ⟨b, off + k, none⟩ = some (.int .i32 (l.getD k 0)) := by
  obtain ⟨b, off, e, hl, hc⟩ := h.2.2.2.2 k hk
  refine ⟨b, off, e, hl, ?_⟩
  rw [hc, List.getElem?_map, List.getD_eq_getElem?_getD, List.getElem?_eq_getElem (by rw [h.len]; exact hk)]; rfl
end
end Go.Proofs.YtinkbgeckjbnbaaGreat
namespace Go.Proofs.YtinkbgeckjbnbaaGreat
section
open Go.RowKit
set_option linter.unusedVariables false

def rowI (R : Nat → Int) (m : Nat) : List Value := (List.range m).map fun j => Value.int .i64 (R j)
set_option maxRecDepth 100000 in
theorem rowI_get (R : Nat → Int) {m j : Nat} (h : j < m) : (rowI R m)[j]? = some (.int .i64 (R j)) := by unfold rowI; rw [List.getElem?_map, List.getElem?_range h]; rfl
set_option maxRecDepth 100000 in
theorem rowI_set (R : Nat → Int) (m j : Nat) (x : Int) : (rowI R m).set j (.int .i64 x) = rowI (setR R j x) m := by
  apply List.ext_getElem?
  intro q
  rw [List.getElem?_set]
  by_cases hq : q < m
  · by_cases e : j = q
    · subst e; rw [if_pos rfl, if_pos (by simp [rowI]; exact hq), rowI_get _ hq, setR_eq]
    · rw [if_neg e, rowI_get _ hq, rowI_get _ hq, setR_ne _ _ (fun e2 => e e2.symm)]
  · have h1 : (rowI R m).length = m := by simp [rowI]
    rw [List.getElem?_eq_none (l := rowI (setR R j x) m) (by simp [rowI]; omega)]
    split
    · rw [if_neg (by omega)]
    · rw [List.getElem?_eq_none (by omega)]
def BkR (w : World) (g m : Nat) (R : Nat → Int) : Prop := Blk w g 3 (rowI R m)
set_option maxRecDepth 100000 in
theorem BkR.cell {w : World} {g m : Nat} {R : Nat → Int} (h : BkR w g m R) {j : Nat} (hj : j < m) : w.cell? ⟨g, j, none⟩ = some (.int .i64 (R j)) := by rw [Blk.cell h, rowI_get _ hj]
set_option maxRecDepth 100000 in
theorem BkR.set {w : World} {g m : Nat} {R : Nat → Int} (h : BkR w g m R) (j : Nat) (x : Int) : BkR (w.setCell ⟨g, j, none⟩ (.int .i64 x)) g m (setR R j x) := by
  unfold BkR; rw [← rowI_set]; exact Blk.set h j _
end
end Go.Proofs.YtinkbgeckjbnbaaGreat
namespace Go.Proofs.YtinkbgeckjbnbaaGreat
section
open Go.RowKit
set_option linter.unusedVariables false

/-- may a text be asked for? -/
def askedB (s : ByteArray) : Bool := decide (0 ≤ tLen s) && decide (tLen s ≤ 16)
set_option maxRecDepth 100000 in
theorem asked_any (s : ByteArray) (w : World) (hs : s.size ≤ maxLen) :
    Calls Tryz.prog 71 #[.string s] w fun e w' => e = .returned (.bool (askedB s)) ∧ Below w.heap.size w w' := by
  unfold askedB
  have H := Lib.hid (len_any s w hs)
  generalize tLen s = z at *
  by_cases h1 : 0 ≤ z
  · have d1 : decide (0 ≤ z) = true := by simp; omega
    rw [d1]
    go_enter Tryz.func71, Tryz.ntmps71
    go_wp2_with fail
    refine (H.out).mono ?_
    rintro e w' ⟨rfl, hb⟩
    go_wp2_with fail
    go_ret
    exact ⟨by simp, hb⟩
  · have d1 : decide (0 ≤ z) = false := by simp; omega
    rw [d1]
    go_enter Tryz.func71, Tryz.ntmps71
    go_wp2_with fail
    refine (H.out).mono ?_
    rintro e w' ⟨rfl, hb⟩
    go_wp2_with fail
    go_ret
    exact ⟨by simp, hb⟩
end
end Go.Proofs.YtinkbgeckjbnbaaGreat
namespace Go.Proofs.YtinkbgeckjbnbaaGreat
section
open Go.RowKit
set_option linter.unusedVariables false

/-- A slice of texts reads as a list. -/
def RdT (w : World) (a : Option Addr) (n c : Nat) (l : List ByteArray) : Prop := Rd w a n c (l.map Value.string)
set_option maxRecDepth 100000 in
theorem RdT.below {w w' : World} {a : Option Addr} {n c B : Nat} {l : List ByteArray} (h : RdT w a n c l) (hb : Below B w w') (hB : B = w.heap.size) : RdT w' a n c l := Rd.below h hb hB
set_option maxRecDepth 100000 in
theorem RdT.len {w : World} {a : Option Addr} {n c : Nat} {l : List ByteArray} (h : RdT w a n c l) : l.length = n := by have := h.1; simpa using this
set_option maxRecDepth 100000 in
theorem RdT.at {w : World} {a : Option Addr} {n c : Nat} {l : List ByteArray} (h : RdT w a n c l) {k : Nat} {x : ByteArray} (hx : l[k]? = some x) : ∃ b off, a = some ⟨b, off, none⟩ ∧ b < w.heap.size ∧ w.cell? ⟨b, off + k, none⟩ = some (.string x) := by
  have hlt := (List.getElem?_eq_some_iff.1 hx).1
  obtain ⟨b, off, e, hl, hc⟩ := h.2.2.2.2 k (by rw [← h.len]; exact hlt)
  refine ⟨b, off, e, hl, ?_⟩
  rw [hc, List.getElem?_map, hx]; rfl

set_option maxRecDepth 100000 in
theorem anyT_take {α : Type} (p : α → Bool) (l : List α) (k : Nat) (x : α) (h : l[k]? = some x) : (l.take (k + 1)).any p = ((l.take k).any p || p x) := by
  rw [List.take_add_one, h]; simp
set_option maxRecDepth 100000 in
theorem anyT_of {α : Type} (p : α → Bool) (l : List α) (k : Nat) (x : α) (h : l[k]? = some x) (hp : p x = true) : l.any p = true := by
  rw [List.any_eq_true]; exact ⟨x, List.mem_iff_getElem?.2 ⟨k, h⟩, hp⟩
/-- how great are texts? -/
def greatT (l : List ByteArray) : Bool := decide (80 < l.length) || l.any fun s => decide (100 < s.size)
set_option maxRecDepth 100000 in
set_option maxHeartbeats 4000000 in
theorem greatT_any (a : Option Addr) (n cap : Nat) (l : List ByteArray) (w : World) (hr : RdT w a n cap l) (hs : ∀ x ∈ l, x.size ≤ maxLen) :
    Calls Tryz.prog 52 #[.slice a n cap] w fun e w' => e = .returned (.bool (greatT l)) ∧ w = w' := by
  have hn := hr.len
  subst hn
  have hcap := hr.2.1
  have hcm := hr.2.2.1
  unfold maxLen at hcm hs
  have HR := Lib.hid hr
  clear hr
  obtain ⟨g, hg⟩ : ∃ g, greatT l = g := ⟨_, rfl⟩
  rw [hg]
  have HG := Lib.hid hg
  clear hg
  go_enter Tryz.func52, Tryz.ntmps52
  go_wp2_with fail
  go_loop [3] (fun i => ∃ k : Nat, i = .int .i64 k ∧ k ≤ l.length ∧ (0 < k → l.length ≤ 80) ∧ RowKit.Hid ((l.take k).any (fun s => decide (100 < s.size)) = false)) (fun i => l.length - (intOf i).toNat)
  case atStart => exact ⟨0, rfl, by omega, by omega, by simp [RowKit.Hid]⟩
  case round =>
    obtain ⟨k, rfl, hk, h10, HA⟩ := hrel
    by_cases h : k < l.length ∧ l.length ≤ 80
    · obtain ⟨hlt, hle⟩ := h
      have d1 : decide (l.length ≤ 80) = true := by simpa using hle
      obtain ⟨tc, hx⟩ : ∃ x, l[k]? = some x := ⟨l[k], List.getElem?_eq_getElem hlt⟩
      obtain ⟨b, off, rfl, hbl, e1⟩ := HR.out.at hx
      have hsz := hs _ (List.mem_iff_getElem?.2 ⟨k, hx⟩)
      have hat := anyT_take (fun s : ByteArray => decide (100 < s.size)) l k tc hx
      rw [HA.out, Bool.false_or] at hat
      have hao := anyT_of (fun s : ByteArray => decide (100 < s.size)) l k tc hx
      have HAT := Lib.hid hat
      have HAO := Lib.hid hao
      clear hat hao hbl hx
      by_cases hbig : 100 < tc.size
      · have d2 : decide (100 < tc.size) = true := by simpa using hbig
        have HD := Lib.hid d2
        go_wp2_with fail
        go_ret
        obtain rfl : g = true := by rw [← HG.out]; unfold greatT; rw [HAO.out HD.out]; simp
        exact ⟨rfl, rfl⟩
      · have d2 : decide (100 < tc.size) = false := by simpa using hbig
        have HD := Lib.hid d2
        go_wp2_with fail
        go_round
        case rel => exact ⟨k + 1, by go_num, by omega, by omega, by rw [HAT.out]; exact HD.out⟩
        case measure => simp [intOf]; omega
    · by_cases hlt : k < l.length
      · have hgt : 80 < l.length := by omega
        have d1 : decide (l.length ≤ 80) = false := by simp; omega
        have d3 : decide (80 < l.length) = true := by simpa using hgt
        have HD := Lib.hid d3
        go_wp2_with fail
        go_ret
        obtain rfl : g = true := by rw [← HG.out]; unfold greatT; rw [HD.out]; rfl
        exact ⟨rfl, rfl⟩
      · obtain rfl : k = l.length := by omega
        have hg2 : g = decide (80 < l.length) := by
          rw [← HG.out]; unfold greatT
          have := HA.out; rw [List.take_length] at this; rw [this]; simp
        have HG2 := Lib.hid hg2
        clear hg2
        obtain ⟨q, hq⟩ : ∃ q, decide ((80 : Int) < (l.length : Int)) = q := ⟨_, rfl⟩
        obtain rfl : g = q := by rw [HG2.out, ← hq]; exact decide_eq_decide.2 (by omega)
        clear h h10 HG2 hcm hcap
        cases g
        · go_wp2_with fail
          go_ret
          exact ⟨rfl, rfl⟩
        · go_wp2_with fail
          go_ret
          exact ⟨rfl, rfl⟩

/-- are words in order? -/
def tAt (l : List ByteArray) (i : Nat) : ByteArray := l.getD i ⟨#[]⟩
set_option maxRecDepth 100000 in
theorem tAt_some {l : List ByteArray} {i : Nat} (h : i < l.length) : l[i]? = some (tAt l i) := by unfold tAt; simp [h]
def tless (a b : ByteArray) : Bool := decide (cmpT a b < 0)
def risesT (l : List ByteArray) (m : Nat) : Bool := (List.range m).all fun i => tless (tAt l i) (tAt l (i + 1))
def goodT (l : List ByteArray) : Int := if 60 < l.length then 3 else if (l.any fun s => !isWord s) = true then 6 else if risesT l (l.length - 1) = true then 0 else 7
set_option maxRecDepth 100000 in
theorem risesT_succ (l : List ByteArray) (m : Nat) : risesT l (m + 1) = (risesT l m && tless (tAt l m) (tAt l (m + 1))) := by
  unfold risesT; rw [List.range_succ, List.all_append]; simp
set_option maxRecDepth 100000 in
theorem risesT_false (l : List ByteArray) (m n : Nat) (h : m ≤ n) (hm : risesT l m = false) : risesT l n = false := by
  cases hn : risesT l n with
  | false => rfl
  | true =>
    unfold risesT at hn hm
    rw [List.all_eq_true] at hn
    rw [List.all_eq_false] at hm
    obtain ⟨x, hx, hx'⟩ := hm
    exact absurd (hn x (by simp at hx ⊢; omega)) hx'
set_option maxRecDepth 100000 in
theorem goodT_3 {l : List ByteArray} (h : 60 < l.length) : goodT l = 3 := by unfold goodT; rw [if_pos h]
set_option maxRecDepth 100000 in
theorem goodT_6 {l : List ByteArray} (h : l.length ≤ 60) (k : (l.any fun s => !isWord s) = true) : goodT l = 6 := by unfold goodT; rw [if_neg (by omega), if_pos k]
set_option maxRecDepth 100000 in
theorem goodT_7 {l : List ByteArray} (h : l.length ≤ 60) (k : (l.any fun s => !isWord s) = false) (m : Nat) (hm : m ≤ l.length - 1) (r : risesT l m = false) : goodT l = 7 := by
  unfold goodT; rw [if_neg (by omega), if_neg (by rw [k]; simp), if_neg (by rw [risesT_false l m _ hm r]; simp)]
set_option maxRecDepth 100000 in
theorem goodT_0 {l : List ByteArray} (h : l.length ≤ 60) (k : (l.any fun s => !isWord s) = false) (r : risesT l (l.length - 1) = true) : goodT l = 0 := by
  unfold goodT; rw [if_neg (by omega), if_neg (by rw [k]; simp), if_pos r]
set_option maxRecDepth 100000 in
set_option maxHeartbeats 4000000 in
theorem lgood_any (a : Option Addr) (n cap : Nat) (l : List ByteArray) (w : World) (hr : RdT w a n cap l) (hs : ∀ x ∈ l, x.size ≤ maxLen) :
    Calls Tryz.prog 53 #[.slice a n cap] w fun e w' => e = .returned (.int .i64 (goodT l)) ∧ Below w.heap.size w w' := by
  have hn := hr.len
  subst hn
  have hcap := hr.2.1
  have hcm := hr.2.2.1
  unfold maxLen at hcm
  have HR := Lib.hid hr
  clear hr
  obtain ⟨g, hg⟩ : ∃ g, goodT l = g := ⟨_, rfl⟩
  rw [hg]
  have HG := Lib.hid hg
  clear hg
  by_cases h5 : 60 < l.length
  · obtain rfl : g = 3 := by rw [← HG.out]; exact goodT_3 h5
    have d5 : decide (60 < l.length) = true := by simpa using h5
    go_enter Tryz.func53, Tryz.ntmps53
    go_wp2_with fail
    go_ret
    exact ⟨rfl, Below.refl _ _⟩
  · have d5 : decide (60 < l.length) = false := by simpa using h5
    have h6 : l.length ≤ 60 := by omega
    go_enter Tryz.func53, Tryz.ntmps53
    go_wp2_with fail
    go_loopw [4, 11] (fun _ i wr => ∃ k : Nat, k ≤ l.length ∧ i = .int .i64 k ∧ RowKit.Hid (((l.take k).any fun s => !isWord s) = false) ∧ RowKit.Hid (Below w.heap.size w wr)) (fun _ i _ => l.length - (intOf i).toNat)
    case atStart => exact ⟨0, by omega, rfl, by simp [RowKit.Hid], Below.refl _ w⟩
    case round =>
      obtain ⟨k, hk, rfl, HA, HB⟩ := hrel
      by_cases hlt : k < l.length
      · obtain ⟨tc, hx⟩ : ∃ x, l[k]? = some x := ⟨l[k], List.getElem?_eq_getElem hlt⟩
        obtain ⟨b, off, rfl, hbl, c0⟩ := (HR.out.below HB.out rfl).at hx
        have hsz := hs _ (List.mem_iff_getElem?.2 ⟨k, hx⟩)
        have HL := Lib.hid (fun W => word_any tc W hsz)
        have hat := anyT_take (fun s => !isWord s) l k tc hx
        have hao := anyT_of (fun s => !isWord s) l k tc hx
        rw [HA.out, Bool.false_or] at hat
        clear hsz hbl hx
        obtain ⟨bk, hbk⟩ : ∃ bk, isWord tc = bk := ⟨_, rfl⟩
        rw [hbk] at hat hao HL
        have HAT := Lib.hid hat
        have HAO := Lib.hid hao
        clear hat hao hbk HA
        go_wp2_with fail
        refine (HL.out _).mono ?_
        rintro e w' ⟨rfl, hb⟩
        have HB2 := Lib.hid (HB.out.trans (hb.mono HB.out.size))
        clear hb
        cases bk with
        | true =>
          go_wp2_with fail
          go_roundw
          case rel => exact ⟨k + 1, by omega, by go_num, by rw [HAT.out]; rfl, HB2.out⟩
          case measure => simp [intOf]; omega
        | false =>
          go_wp2_with fail
          go_ret
          obtain rfl : g = 6 := by rw [← HG.out]; exact goodT_6 h6 (HAO.out rfl)
          exact ⟨rfl, HB2.out⟩
      · obtain rfl : k = l.length := by omega
        have HA2 : RowKit.Hid ((l.any fun s => !isWord s) = false) := by
          have := HA.out; rw [List.take_length] at this
          exact this
        clear HA hs
        have hsz := HB.out.size
        go_wp2_with fail
        obtain ⟨wo, rfl⟩ : ∃ wo : World, wo = wr := ⟨_, rfl⟩
        go_loopw [5] (fun i wr => ∃ k : Nat, 1 ≤ k ∧ (k ≤ l.length ∨ k = 1) ∧ i = .int .i64 k ∧ RowKit.Hid (risesT l (k - 1) = true) ∧ RowKit.Hid (Below w.heap.size w wr)) (fun i _ => l.length - (intOf i).toNat)
        case atStart => exact ⟨1, by omega, .inr rfl, rfl, rfl, HB.out⟩
        case round =>
          clear HB hsz hk
          obtain ⟨k, hk1, hk, rfl, HR1, HB⟩ := hrel
          by_cases hlt : k < l.length
          · have k1 := tAt_some (l := l) (i := k - 1) (by omega)
            have k2 := tAt_some (l := l) (i := k) hlt
            have hrs := risesT_succ l (k - 1)
            rw [show k - 1 + 1 = k from by omega] at hrs
            revert hrs k1 k2
            generalize hx : tAt l (k - 1) = tx
            generalize hy : tAt l k = ty
            intro k1 k2 hrs
            rw [HR1.out, Bool.true_and] at hrs
            obtain ⟨b, off, rfl, hbl, c0⟩ := (HR.out.below HB.out rfl).at k1
            obtain ⟨b', off', he, hbl', c1⟩ := (HR.out.below HB.out rfl).at k2
            simp only [Option.some.injEq, Addr.mk.injEq, and_true] at he
            obtain ⟨rfl, rfl⟩ := he
            clear hbl' k1 k2 hx hy
            have HRS := Lib.hid hrs
            clear hrs
            have HL : RowKit.Hid (∀ W, Calls Tryz.prog 103 #[.string tx, .string ty] W fun e w' => e = .returned (.int .i64 (cmpT tx ty)) ∧ w' = W) := fun W => (tcmp_any tx ty W).mono fun e w' h => ⟨h.1, h.2.symm⟩
            have htl : tless tx ty = decide (cmpT tx ty < 0) := rfl
            have HTL := Lib.hid htl
            clear htl
            generalize cmpT tx ty = z at HTL HL
            go_wp2_with fail
            have w1 : IntKind.i64.wrap ((k : Int) - 1) = (k : Int) - 1 := IntWalk.i64_in _ (by omega)
            have w2 : ((k : Int) - 1).toNat = k - 1 := by omega
            have w3 : (0 : Int) ≤ (k : Int) - 1 := by omega
            have w4 : (k : Int) - 1 < l.length := by omega
            have w5 : (1 : Int) ≤ (k : Int) := by omega
            have hm := below_drewN HB.out 1
            have HB2 := Lib.hid hm
            clear hm
            go_quiet ((go_at_call 103; exact Calls.quiet_of_same (HL.out _)))
            clear w1 w2 w3 w4 w5
            by_cases hz : z < 0
            · have d1 : decide (0 ≤ z) = false := by simp; omega
              have HR2 : RowKit.Hid (risesT l k = true) := by
                have := HRS.out; rw [HTL.out] at this; exact this.trans (by simp; omega)
              clear HRS HTL
              go_wp2_with fail
              go_roundw
              case rel => exact ⟨k + 1, by omega, by omega, by go_num, HR2.out, below_drewN HB.out _⟩
              case measure => simp [intOf]; omega
            · have d1 : decide (0 ≤ z) = true := by simp; omega
              have HR2 : RowKit.Hid (risesT l k = false) := by
                have := HRS.out; rw [HTL.out] at this; exact this.trans (by simp; omega)
              clear HRS HTL
              obtain rfl : g = 7 := by rw [← HG.out]; exact goodT_7 h6 HA2.out k (by omega) HR2.out
              go_wp2_with fail
              go_ret
              exact ⟨rfl, below_drewN HB.out _⟩
          · have HR2 : RowKit.Hid (risesT l (l.length - 1) = true) := by
              rcases hk with hk | rfl
              · obtain rfl : k = l.length := by omega
                exact HR1.out
              · have : l.length - 1 = 0 := by omega
                rw [this]; rfl
            obtain rfl : g = 0 := by rw [← HG.out]; exact goodT_0 h6 HA2.out HR2.out
            go_wp2_with fail
            go_ret
            exact ⟨rfl, HB.out⟩
end
end Go.Proofs.YtinkbgeckjbnbaaGreat
