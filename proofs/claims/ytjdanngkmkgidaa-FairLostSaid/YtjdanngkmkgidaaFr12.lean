/- FairLost, plain: a record turned, a window that is none. -/
import Derived.Test.YtjdanngkmkgidaaFr10
import Derived.Test.YtjdanngkmkgidaaFr7
import Derived.Deep.MidRow
namespace Go.Proofs.Ytjdanngkmkgidaa
open Go.RowKit
set_option linter.unusedVariables false

theorem split_at {α : Type} {l : List α} {k : Nat} {x : α} (h : l[k]? = some x) : ∃ a b, l = a ++ x :: b ∧ a.length = k := by
  have hk := (List.getElem?_eq_some_iff.1 h).1
  have he := (List.getElem?_eq_some_iff.1 h).2
  refine ⟨l.take k, l.drop (k + 1), ?_, by simp; omega⟩
  rw [← he, ← List.drop_eq_getElem_cons hk, List.take_append_drop]
/-- some cells of one record are written -/
theorem rec_write {w : World} {g : Nat} {e : TypeId} {l : List RecM} {sp : List Value} (h : Blk w g e (l.flatMap RecM.cells ++ sp)) {k j : Nat} {r r' : RecM} {news : List Value} (hx : l[k]? = some r) (hj : j + news.length ≤ 12)
    (hc : r'.cells = r.cells.take j ++ (news ++ r.cells.drop (j + news.length))) : Blk (w.setCells g (k * 12 + j) news) g e ((l.set k r').flatMap RecM.cells ++ sp) := by
  obtain ⟨a, b, rfl, rfl⟩ := split_at hx
  have ha : (a.flatMap RecM.cells).length = a.length * 12 := flatMap_len RecM.cells 12 RecM.cells_len a
  have hr : r.cells.length = 12 := rfl
  have h1 := Blk.setCells news h (a.length * 12 + j) (by simp only [List.flatMap_append, List.flatMap_cons, List.length_append, ha, hr]; omega)
  have e1 : (a ++ r :: b).set a.length r' = a ++ r' :: b := by simp
  rw [e1]
  refine Eq.mp ?_ h1
  congr 1
  simp only [List.flatMap_append, List.flatMap_cons, List.append_assoc]
  rw [List.take_append, ha, show a.length * 12 + j - a.length * 12 = j by omega, List.take_of_length_le (by rw [ha]; omega), List.take_append_of_le_length (by rw [hr]; omega)]
  rw [List.drop_append, ha, show a.length * 12 + j + news.length - a.length * 12 = j + news.length by omega, List.drop_of_length_le (by rw [ha]; omega), List.nil_append, List.drop_append_of_le_length (by rw [hr]; omega)]
  rw [hc]
  simp only [List.append_assoc]
theorem mem_set {α : Type} {l : List α} {k : Nat} {x y : α} (h : y ∈ l.set k x) : y ∈ l ∨ y = x := List.mem_or_eq_of_mem_set h
/-- what a window is that has something lost -/
theorem window_f {c : CfgM} {T : List RecM} {b : Nat} {good : List Int} {i : Nat} {r : RecM} (hx : T[i]? = some r) (hi : i < b) (h : okR good (wayB T good) r = false) : WindowB c T 0 (b : Int) good = false := by
  unfold WindowB
  rw [Int.toNat_natCast, show (0 : Int).toNat = 0 from rfl, List.drop_zero, window_no (i := i) (r := r) (by rw [List.getElem?_take, if_pos hi]; exact hx) h, Bool.and_false]
theorem window_lost {c : CfgM} {T : List RecM} {b : Nat} {good : List Int} {i : Nat} {r rs : RecM} {g0 id : Int} (hx : T[i]? = some r) (hi : i < b) (hg : g0 ∈ good) (hs : rs ∈ T) (hm : ((id, 0, g0) : SentL) ∈ rs.sent) (hl : id ∈ r.lost) : WindowB c T 0 (b : Int) good = false := by
  refine window_f hx hi ?_
  have hw : wayB T good id = true := by
    unfold wayB has
    rw [decide_eq_true_eq]
    refine List.mem_flatMap.2 ⟨g0, hg, List.mem_flatMap.2 ⟨rs, hs, List.mem_map.2 ⟨(id, 0, g0), List.mem_filter.2 ⟨hm, by simp [betw]⟩, rfl⟩⟩⟩
  unfold okR
  rw [List.any_eq_true.2 ⟨id, hl, hw⟩]
  simp
theorem window_crash {c : CfgM} {T : List RecM} {b : Nat} {good : List Int} {i : Nat} {r : RecM} (hx : T[i]? = some r) (hi : i < b) (hk : r.kind = 9) (hn : r.node ∈ good) : WindowB c T 0 (b : Int) good = false := by
  refine window_f hx hi ?_
  unfold okR has
  rw [decide_eq_true hk, decide_eq_true hn]
  rfl
theorem window_still {c : CfgM} {T : List RecM} {b : Nat} {good : List Int} (h : ∀ i r, i < b → T[i]? = some r → isTick r = false) : WindowB c T 0 (b : Int) good = false := by
  have ht : (T.take b).any isTick = false := by
    rw [List.any_eq_false]
    intro r hr
    obtain ⟨i, hi⟩ := List.mem_iff_getElem?.1 hr
    rw [List.getElem?_take] at hi
    split at hi
    · rename_i h1
      simp [h i r h1 hi]
    · simp at hi
  unfold WindowB windowB
  rw [Int.toNat_natCast, show (0 : Int).toNat = 0 from rfl, List.drop_zero, ht, Bool.false_and, Bool.and_false, Bool.and_false]
def stillR (r : RecM) : RecM := if r.kind = 3 then { r with kind := 0, node := 0, at_ := 0, x := 0, q := ⟨#[]⟩, qk := 0, qn := 0 } else r
theorem stillR_tick (r : RecM) : isTick (stillR r) = false := by
  unfold stillR isTick
  split
  · simp
  · rename_i h; simpa using h
theorem stillR_cells {r : RecM} (h : r.kind = 3) : (stillR r).cells = r.cells.take 0 ++ ([.int .i64 0, .int .i64 0, .int .i64 0, .int .i64 0, .string ⟨#[]⟩, .int .i64 0, .int .i64 0] ++ r.cells.drop (0 + 7)) := by
  unfold stillR; rw [if_pos h]; rfl
theorem stillR_off {g : Nat} {r : RecM} (h : (∀ b o, r.sa = some ⟨b, o, none⟩ → 0 < r.sn → b ≠ g) ∧ (∀ b o, r.la = some ⟨b, o, none⟩ → 0 < r.ln → b ≠ g)) : (∀ b o, (stillR r).sa = some ⟨b, o, none⟩ → 0 < (stillR r).sn → b ≠ g) ∧ (∀ b o, (stillR r).la = some ⟨b, o, none⟩ → 0 < (stillR r).ln → b ≠ g) := by
  unfold stillR; split <;> exact h
theorem stillR_sent (r : RecM) : (stillR r).sent = r.sent := by unfold stillR; split <;> rfl
theorem stillR_lost (r : RecM) : (stillR r).lost = r.lost := by unfold stillR; split <;> rfl
theorem stillR_in {w : World} {r : RecM} (h : RecIn w r) : RecIn w (stillR r) := by
  unfold stillR
  split
  · exact ⟨h.sent, h.lost, h.ids, h.los, h.got⟩
  · exact h
/-- the first i records are still -/
def stillL (l : List RecM) (i : Nat) : List RecM := (l.take i).map stillR ++ l.drop i
theorem stillL_zero (l : List RecM) : stillL l 0 = l := by simp [stillL]
theorem stillL_len (l : List RecM) (i : Nat) : (stillL l i).length = l.length := by simp [stillL]; omega
theorem stillL_get {l : List RecM} {i : Nat} {r : RecM} (h : l[i]? = some r) : (stillL l i)[i]? = some r := by
  have hi := (List.getElem?_eq_some_iff.1 h).1
  unfold stillL
  rw [List.getElem?_append_right (by simp; omega)]
  simp only [List.length_map, List.length_take, List.getElem?_drop]
  rw [show min i l.length = i by omega, Nat.sub_self, Nat.add_zero, h]
theorem stillL_succ {l : List RecM} {i : Nat} {r : RecM} (h : l[i]? = some r) : (stillL l i).set i (stillR r) = stillL l (i + 1) := by
  obtain ⟨a, b, rfl, rfl⟩ := split_at h
  unfold stillL
  have e : (a ++ r :: b).take (a.length + 1) = a ++ [r] := by
    rw [List.take_append, List.take_of_length_le (by omega), show a.length + 1 - a.length = 1 by omega]; rfl
  have e2 : (a ++ r :: b).drop (a.length + 1) = b := by
    rw [List.drop_append, List.drop_of_length_le (by omega), show a.length + 1 - a.length = 1 by omega]; rfl
  rw [e, e2, List.take_left, List.drop_left]
  have hl : (a.map stillR).length = a.length := by simp
  rw [List.set_append_right _ _ (by omega), hl, Nat.sub_self]
  simp
theorem stillL_skip {l : List RecM} {i : Nat} {r : RecM} (h : l[i]? = some r) (hk : r.kind ≠ 3) : stillL l (i + 1) = stillL l i := by
  rw [← stillL_succ h, show stillR r = r from by unfold stillR; rw [if_neg hk]]
  apply List.ext_getElem?
  intro j
  rw [List.getElem?_set]
  split
  · rename_i e; subst e
    rw [stillL_get h]
    split
    · rfl
    · rename_i h2; exact absurd (List.getElem?_eq_some_iff.1 (stillL_get h)).1 h2
  · rfl
theorem stillL_mem {l : List RecM} {i : Nat} {x : RecM} (h : x ∈ stillL l i) : ∃ r ∈ l, x = r ∨ x = stillR r := by
  unfold stillL at h
  rcases List.mem_append.1 h with h | h
  · obtain ⟨r, hr, rfl⟩ := List.mem_map.1 h
    exact ⟨r, List.mem_of_mem_take hr, .inr rfl⟩
  · exact ⟨x, List.mem_of_mem_drop h, .inl rfl⟩
theorem stillL_tick {l : List RecM} {b i : Nat} {r : RecM} (hi : i < b) (h : (stillL l b)[i]? = some r) : isTick r = false := by
  unfold stillL at h
  by_cases hl : i < l.length
  · rw [List.getElem?_append_left (by simp; omega), List.getElem?_map] at h
    obtain ⟨x, hx, rfl⟩ := Option.map_eq_some_iff.1 h
    exact stillR_tick x
  · have := (List.getElem?_eq_some_iff.1 h).1
    simp at this
    omega
theorem rec_there {w : World} {g : Nat} {e : TypeId} {l : List RecM} {sp : List Value} (h : Blk w g e (l.flatMap RecM.cells ++ sp)) {k : Nat} {r : RecM} (hx : l[k]? = some r) (j m : Nat) (hj : j + m ≤ 12) : w.there g (k * 12 + j) m := fun i hi => by
  refine ⟨?_, h.frozen _⟩
  rw [h.cell, Nat.add_assoc, flat_get RecM.cells 12 RecM.cells_len l sp k r (j + i) hx (by omega), List.getElem?_eq_getElem (by rw [RecM.cells_len]; omega)]
  rfl
theorem one7 (a b c d : Int) (q : ByteArray) (e f : Int) : (#[.int .i64 a, .int .i64 b, .int .i64 c, .int .i64 d, .string q, .int .i64 e, .int .i64 f] : Array Value).all (·.oneCell') = true :=
  all_oneCell_toArray (cs := [.int .i64 a, .int .i64 b, .int .i64 c, .int .i64 d, .string q, .int .i64 e, .int .i64 f]) (by
    intro v hv
    simp only [List.mem_cons, List.not_mem_nil, or_false] at hv
    rcases hv with rfl | rfl | rfl | rfl | rfl | rfl | rfl <;> rfl)
theorem Below.cellsSet {B : Nat} {a : World} {g : Nat} (hg : B ≤ g) : ∀ (vs : List Value) (o : Nat) (b : World), Below B a b → Below B a (b.setCells g o vs)
  | [], _, _, h => h
  | v :: r, o, b, h => by rw [World.setCells]; exact Below.cellsSet hg r (o + 1) _ (h.setCell (by simpa using hg) _)
theorem info_sent : (Try.prog.info? 72).map (fun i => (i.zero, i.size, i.bytes)) = some (some (Value.agg #[.int .i64 0, .int .i64 0, .int .i64 0]), 3, 24) := by kernel_rfl
theorem sentOne (x : SentL) : ∀ u ∈ SentL.cells x, u.oneCell' = true := by
  intro u hu
  simp only [SentL.cells, List.mem_cons, List.not_mem_nil, or_false] at hu
  rcases hu with rfl | rfl | rfl <;> rfl
theorem Src.sent1 (w w' : World) (x : SentL) (hb : Below (w.heap.size + 1) (w.alloc (.cells #[.int .i64 x.1, .int .i64 x.2.1, .int .i64 x.2.2] 72)) w') : Src Try.prog 3 68 (.slice (some ⟨w.heap.size, 0, none⟩) 1 1) 1 (SentL.cells x) w' :=
  Src.ofSlice _ Try.underlying68 ⟨w.heap.size, 0, none⟩ 1 1 (SentL.cells x) rfl (World.news_of_block ((hb.block w.heap.size (by omega)).trans (heap_alloc_new w _))) (sentOne x)
theorem Src.rec1 (w : World) (r : RecM) (h1 : ∀ u ∈ r.cells, u.oneCell' = true) : Src Try.prog 12 61 (.slice (some ⟨w.heap.size, 0, none⟩) 1 1) 1 r.cells (w.alloc (.cells r.cells.toArray 70)) :=
  Src.ofSlice _ Try.underlying61 ⟨w.heap.size, 0, none⟩ 1 1 r.cells rfl (World.news_of_block (heap_alloc_new w _)) h1
theorem rec_take {l : List RecM} {i : Nat} {r : RecM} (h : l[i]? = some r) : (l.take i).flatMap RecM.cells ++ r.cells = (l.take (i + 1)).flatMap RecM.cells := by
  rw [List.take_add_one, h]; simp
theorem good_nil (c : CfgM) : goodC c [] = false := by
  unfold goodC shardsC
  cases h : mayC c
  · rfl
  · rw [if_pos rfl, decide_eq_false (by simp; omega)]; rfl
theorem recsOf {w : World} {g : Nat} {e : TypeId} {T : List RecM} {sp : List Value} {cap : Nat} (h : Blk w g e (T.flatMap RecM.cells ++ sp)) (h1 : T.length ≤ cap) (h2 : cap ≤ maxLen) (ha : ∀ r ∈ T, RecIn w r) : Recs w (some ⟨g, 0, none⟩) T.length cap T :=
  ⟨h.rdE RecM.cells_len cap h1 h2, ha⟩
theorem Rd.keep {w w' : World} {a : Option Addr} {n c : Nat} {xs : List Value} (h : Rd w a n c xs) (hs : w.heap.size ≤ w'.heap.size) (hk : ∀ b off, a = some ⟨b, off, none⟩ → 0 < n → b < w.heap.size → w'.heap[b]? = w.heap[b]?) : Rd w' a n c xs := by
  obtain ⟨h1, h2, h3, h4, h5⟩ := h
  refine ⟨h1, h2, h3, h4, fun i hi => ?_⟩
  obtain ⟨b, off, e, hl, hc⟩ := h5 i hi
  exact ⟨b, off, e, Nat.lt_of_lt_of_le hl hs, by rw [World.cell?_of_block (w := w) (hk b off e (by omega) hl), hc]⟩
theorem RdE.keep {α : Type} {enc : α → List Value} {size : Nat} {w w' : World} {a : Option Addr} {n c : Nat} {l : List α} (h : RdE enc size w a n c l) (hs : w.heap.size ≤ w'.heap.size) (hk : ∀ b off, a = some ⟨b, off, none⟩ → 0 < n → b < w.heap.size → w'.heap[b]? = w.heap[b]?) : RdE enc size w' a n c l := by
  obtain ⟨h1, h2, h3, h4, h5⟩ := h
  refine ⟨h1, h2, h3, h4, fun i x hi => ?_⟩
  obtain ⟨b, off, e, hl, hc⟩ := h5 i x hi
  exact ⟨b, off, e, Nat.lt_of_lt_of_le hl hs, fun j hj => by rw [World.cell?_of_block (w := w) (hk b off e (by rw [← h1]; have := (List.getElem?_eq_some_iff.1 hi).1; omega) hl), hc j hj]⟩
theorem heap_setCells (g : Nat) : ∀ (vs : List Value) (o : Nat) (w : World) (k : Nat), k ≠ g → (w.setCells g o vs).heap[k]? = w.heap[k]?
  | [], _, _, _, _ => rfl
  | v :: r, o, w, k, h => by rw [World.setCells, heap_setCells g r (o + 1) _ k h]; exact Below.heap_setCell w ⟨g, o, none⟩ v k h
def offR (g : Nat) (r : RecM) : Prop := (∀ b o, r.sa = some ⟨b, o, none⟩ → 0 < r.sn → b ≠ g) ∧ (∀ b o, r.la = some ⟨b, o, none⟩ → 0 < r.ln → b ≠ g)
/-- the turned list under way: a block of records, the configuration's block, what reads -/
structure FLs (w wr : World) (c : CfgM) (T : List RecM) (sp : List Value) (g cp : Nat) : Prop where
  blk : Blk wr g 70 (T.flatMap RecM.cells ++ sp)
  bel : Below w.heap.size w wr
  cfg : CfgB wr w.heap.size c
  gt : w.heap.size < g
  cap : T.length ≤ cp
  cap2 : cp ≤ maxLen
  all : ∀ r ∈ T, RecIn wr r ∧ offR g r ∧ r.sent.length ≤ 30 ∧ r.lost.length ≤ 30
  lim : T.length ≤ 300
theorem FLs.write {w wr : World} {c : CfgM} {T : List RecM} {sp : List Value} {g cp : Nat} (h : FLs w wr c T sp g cp) {k j : Nat} {r r' : RecM} {news : List Value} (hx : T[k]? = some r) (hj : j + news.length ≤ 12)
    (hc : r'.cells = r.cells.take j ++ (news ++ r.cells.drop (j + news.length))) (hin : RecIn wr r') (ho : offR g r') (hl : r'.sent.length ≤ 30) (hl2 : r'.lost.length ≤ 30) : FLs w (wr.setCells g (k * 12 + j) news) c (T.set k r') sp g cp := by
  have hz := (setCells_rest g news (k * 12 + j) wr).2.2.2
  have keep : ∀ x, RecIn wr x → offR g x → RecIn (wr.setCells g (k * 12 + j) news) x := fun x hx hg =>
    ⟨hx.sent.keep (by rw [hz]; exact Nat.le_refl _) (fun b o e hn _ => heap_setCells g _ _ _ b (hg.1 b o e hn)), hx.lost.keep (by rw [hz]; exact Nat.le_refl _) (fun b o e hn _ => heap_setCells g _ _ _ b (hg.2 b o e hn)), hx.ids, hx.los, hx.got⟩
  refine ⟨rec_write h.blk hx hj hc, Below.cellsSet (Nat.le_of_lt h.gt) _ _ _ h.bel, ?_, h.gt, by simpa using h.cap, h.cap2, fun x hx => ?_, by simpa using h.lim⟩
  · unfold CfgB Blk
    rw [heap_setCells g _ _ _ _ (Nat.ne_of_lt h.gt)]
    exact h.cfg
  · rcases mem_set hx with hm | rfl
    · exact ⟨keep x (h.all x hm).1 (h.all x hm).2.1, (h.all x hm).2⟩
    · exact ⟨keep _ hin ho, ho, hl, hl2⟩
theorem FLs.grow {w wr wr' : World} {c : CfgM} {T : List RecM} {sp : List Value} {g cp : Nat} (h : FLs w wr c T sp g cp) (hb : Below wr.heap.size wr wr') : FLs w wr' c T sp g cp :=
  ⟨h.blk.below hb h.blk.lt, h.bel.trans (hb.mono h.bel.size), Blk.below h.cfg hb (Blk.lt h.cfg), h.gt, h.cap, h.cap2, fun r hr => ⟨(h.all r hr).1.below hb rfl, (h.all r hr).2⟩, h.lim⟩
theorem FLs.recs {w wr : World} {c : CfgM} {T : List RecM} {sp : List Value} {g cp : Nat} (h : FLs w wr c T sp g cp) : Recs wr (some ⟨g, 0, none⟩) T.length cp T := recsOf h.blk h.cap h.cap2 fun r hr => (h.all r hr).1
theorem FLs.there {w wr : World} {c : CfgM} {T : List RecM} {sp : List Value} {g cp : Nat} (h : FLs w wr c T sp g cp) {k : Nat} (hk : k < T.length) (j m : Nat) (hj : j + m ≤ 12) : wr.there g (k * 12 + j) m := rec_there h.blk (List.getElem?_eq_getElem hk) j m hj
theorem FLs.cell {w wr : World} {c : CfgM} {T : List RecM} {sp : List Value} {g cp : Nat} (h : FLs w wr c T sp g cp) {k : Nat} {r : RecM} (hx : T[k]? = some r) (j : Nat) (hj : j < 12) : wr.cell? ⟨g, k * 12 + j, none⟩ = r.cells[j]? := by
  rw [h.blk.cell, flat_get RecM.cells 12 RecM.cells_len T sp k r j hx hj]
theorem offR_in {w : World} {r : RecM} {g : Nat} (h : RecIn w r) (hg : w.heap.size ≤ g) : offR g r := by
  refine ⟨fun b o e hn => ?_, fun b o e hn => ?_⟩
  · have hl := h.sent.1
    obtain ⟨b', o', e', hb, _⟩ := h.sent.at_ (i := 0) (x := r.sent[0]'(by omega)) (List.getElem?_eq_getElem (by omega))
    rw [e] at e'
    cases e'
    omega
  · obtain ⟨b', o', e', hb, _⟩ := h.lost.2.2.2.2 0 hn
    rw [e] at e'
    cases e'
    omega
def RecM.more (r : RecM) (a : Option Addr) (n c : Nat) (x : SentL) : RecM := { r with sa := a, sn := n, sc := c, sent := r.sent ++ [x] }
def RecM.less (r : RecM) (a : Option Addr) (n c : Nat) (x : Int) : RecM := { r with la := a, ln := n, lc := c, lost := r.lost ++ [x] }
theorem FLs.sent {w wr u : World} {c : CfgM} {T : List RecM} {sp : List Value} {g cp : Nat} (h : FLs w wr c T sp g cp) (hb : Below wr.heap.size wr u) {k : Nat} {r : RecM} (hx : T[k]? = some r) {a : Option Addr} {sn ca : Nat} {x : SentL} (hw : wf64 x.1) (hn : r.sent.length = sn) (hl : sn ≤ 20)
    (ho : u.ownsRow wr.heap.size 72 3 (.slice a (sn + 1) ca) (sn + 1) (r.sent.flatMap SentL.cells ++ SentL.cells x)) : FLs w (u.setCell ⟨g, k * 12 + 9, none⟩ (.slice a (sn + 1) ca)) c (T.set k (r.more a (sn + 1) ca x)) sp g cp := by
  have hg := h.grow hb
  have hm := h.all r (List.mem_iff_getElem?.2 ⟨k, hx⟩)
  have hi := hm.1.below hb rfl
  have hrd : RdE SentL.cells 3 u a (sn + 1) ca (r.sent ++ [x]) := ownsRow_rdE (e := 72) SentL.cells_len (by simp [hn]) (by rw [List.flatMap_append]; simpa using ho)
  refine hg.write (r' := r.more a (sn + 1) ca x) (news := [.slice a (sn + 1) ca]) hx (by simp) rfl ⟨hrd, hi.lost, ?_, hi.los, hi.got⟩ ⟨fun b o e hn0 => ?_, hm.2.1.2⟩ (by simp [RecM.more]; omega) hm.2.2.2
  · intro s hs
    rcases List.mem_append.1 hs with hs | hs
    · exact hi.ids s hs
    · simp at hs; subst hs; exact hw
  · have h1 := h.blk.lt
    have h2 := (ho.lt b (by
      have e' : a = some ⟨b, o, none⟩ := e
      rw [e']; rfl)).1
    omega
theorem FLs.lost {w wr u : World} {c : CfgM} {T : List RecM} {sp : List Value} {g cp : Nat} (h : FLs w wr c T sp g cp) (hb : Below wr.heap.size wr u) {k : Nat} {r : RecM} (hx : T[k]? = some r) {a : Option Addr} {n ca : Nat} {x : Int} (hw : wf64 x) (hn : r.lost.length = n) (hl : n ≤ 20)
    (ho : u.ownsRow wr.heap.size 3 1 (.slice a (n + 1) ca) (n + 1) (ints r.lost ++ [.int .i64 x])) : FLs w (u.setCell ⟨g, k * 12 + 11, none⟩ (.slice a (n + 1) ca)) c (T.set k (r.less a (n + 1) ca x)) sp g cp := by
  have hg := h.grow hb
  have hm := h.all r (List.mem_iff_getElem?.2 ⟨k, hx⟩)
  have hi := hm.1.below hb rfl
  have hrd : Rd u a (n + 1) ca (ints (r.lost ++ [x])) := ownsRow_rd (e := 3) (by simpa [ints] using ho)
  refine hg.write (r' := r.less a (n + 1) ca x) (news := [.slice a (n + 1) ca]) hx (by simp) rfl ⟨hi.sent, hrd, hi.ids, ?_, hi.got⟩ ⟨hm.2.1.1, fun b o e hn0 => ?_⟩ hm.2.2.1 (by simp [RecM.less]; omega)
  · intro s hs
    rcases List.mem_append.1 hs with hs | hs
    · exact hi.los s hs
    · simp at hs; subst hs; exact hw
  · have h1 := h.blk.lt
    have h2 := (ho.lt b (by
      have e' : a = some ⟨b, o, none⟩ := e
      rw [e']; rfl)).1
    omega
theorem wf64_777 : wf64 77777 := wf64_of (by decide) (by decide)
/-- what was laid in is none -/
theorem window_0 {c : CfgM} {l : List RecM} {good : List Int} {bn k m : Nat} {r r2 : RecM} {g0 : Int} {a a2 : Option Addr} {n n2 ca ca2 : Nat} (hx : l[k]? = some r) (hg : g0 ∈ good) (hm : m < bn) (h2 : (l.set k (r.more a n ca (77777, 0, g0)))[m]? = some r2) :
    WindowB c ((l.set k (r.more a n ca (77777, 0, g0))).set m (r2.less a2 n2 ca2 77777)) 0 (bn : Int) good = false := by
  have hk := (List.getElem?_eq_some_iff.1 hx).1
  have hml := (List.getElem?_eq_some_iff.1 h2).1
  have hm2 : m < l.length := by simpa using hml
  obtain ⟨rs, h1, h3⟩ : ∃ rs, ((l.set k (r.more a n ca (77777, 0, g0))).set m (r2.less a2 n2 ca2 77777))[k]? = some rs ∧ ((77777, 0, g0) : SentL) ∈ rs.sent := by
    by_cases e : m = k
    · subst e
      rw [List.getElem?_set_self hk] at h2
      obtain rfl := Option.some.inj h2
      exact ⟨_, by rw [List.getElem?_set_self (by simpa using hm2)], by simp [RecM.less, RecM.more]⟩
    · exact ⟨_, by rw [List.getElem?_set_ne e, List.getElem?_set_self hk], by simp [RecM.more]⟩
  exact window_lost (i := m) (r := r2.less a2 n2 ca2 77777) (rs := rs) (g0 := g0) (id := 77777) (by rw [List.getElem?_set_self (by simpa using hm2)]) hm hg (List.mem_iff_getElem?.2 ⟨k, h1⟩) h3 (by simp [RecM.less])
end Go.Proofs.Ytjdanngkmkgidaa
