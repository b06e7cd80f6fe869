/- The plain model of a table of leases: no program in sight. -/
import Derived.Test.YtnnkebhpmegkfaaKit
namespace Go.Proofs.Ytnnkebhpmegkfaa
open Go.RowKit
set_option linter.unusedVariables false

structure L1 where
  life : Int
  epoch : Int
  till : Int
structure Tab where
  workers : Int
  term : Int
  l : List L1
def L1.zero : L1 := ⟨0, 0, 0⟩
def Tab.at (t : Tab) (w : Int) : L1 := t.l.getD w.toNat L1.zero
def okTime (now : Int) : Bool := decide (0 ≤ now ∧ now ≤ 1099511627776)
def Tab.is (t : Tab) (w : Int) : Bool := decide (1 ≤ w ∧ w ≤ t.workers)
def Tab.put (t : Tab) (w : Int) (x : L1) : Tab := { t with l := t.l.set w.toNat x }
def okHello (t : Tab) (w life now : Int) : Bool := t.is w && decide (1 ≤ life ∧ life ≤ 2147483647) && okTime now
def L1.told (x : L1) (life : Int) : L1 := if x.life < life then { x with life := life, epoch := x.epoch + 1 } else x
def L1.on (x : L1) (till : Int) : L1 := { x with till := max x.till till }
/-- Hello: what the table is then, what is answered. -/
def Tab.hello (t : Tab) (w life now : Int) : Tab × Int × Int :=
  if okHello t w life now then
    if life < (t.at w).life then (t, 0, 4)
    else (t.put w (((t.at w).told life).on (now + t.term)), ((t.at w).told life).epoch, 0)
  else (t, 0, 2)
def okSeen (t : Tab) (w epoch now : Int) : Bool := t.is w && decide ((t.at w).epoch ≠ 0 ∧ (t.at w).epoch = epoch) && okTime now
def Tab.seen (t : Tab) (w epoch now : Int) : Tab × Bool :=
  if okSeen t w epoch now then (t.put w ((t.at w).on (now + t.term)), true) else (t, false)
def Tab.live (t : Tab) (w now : Int) : Bool := t.is w && decide (0 < (t.at w).epoch ∧ now ≤ (t.at w).till)
def Tab.epoch (t : Tab) (w : Int) : Int := if t.is w then (t.at w).epoch else 0
def Tab.life (t : Tab) (w : Int) : Int := if t.is w then (t.at w).life else 0
def Tab.new (workers term : Int) : Tab := ⟨workers, term, List.replicate 6 L1.zero⟩
structure L1.ok (x : L1) : Prop where
  life0 : 0 ≤ x.life
  life1 : x.life ≤ 2147483647
  epoch0 : 0 ≤ x.epoch
  epoch1 : x.epoch ≤ x.life
  till0 : 0 ≤ x.till
  till1 : x.till ≤ 2199023255552
structure Tab.ok (t : Tab) : Prop where
  len : t.l.length = 6
  workers0 : 1 ≤ t.workers
  workers1 : t.workers ≤ 5
  term0 : 1 ≤ t.term
  term1 : t.term ≤ 1000
  each : ∀ x ∈ t.l, x.ok
theorem L1.zero_ok : L1.zero.ok := ⟨by decide, by decide, by decide, by decide, by decide, by decide⟩
theorem Tab.new_ok (workers term : Int) (h1 : 1 ≤ workers) (h2 : workers ≤ 5) (h3 : 1 ≤ term) (h4 : term ≤ 1000) : (Tab.new workers term).ok :=
  ⟨rfl, h1, h2, h3, h4, fun x hx => by obtain rfl := List.eq_of_mem_replicate hx; exact L1.zero_ok⟩
theorem Tab.ok.at {t : Tab} (h : t.ok) (w : Int) : (t.at w).ok := by
  unfold Tab.at
  by_cases hw : w.toNat < t.l.length
  · rw [List.getD_eq_getElem?_getD, List.getElem?_eq_getElem hw]; exact h.each _ (List.getElem_mem _)
  · rw [List.getD_eq_getElem?_getD, List.getElem?_eq_none (by omega)]; exact L1.zero_ok
theorem Tab.ok.put {t : Tab} (h : t.ok) (w : Int) {x : L1} (hx : x.ok) : (t.put w x).ok :=
  ⟨by simp [Tab.put, h.len], h.workers0, h.workers1, h.term0, h.term1, fun y hy => by
    rcases List.mem_or_eq_of_mem_set hy with h1 | rfl
    · exact h.each y h1
    · exact hx⟩
theorem L1.ok.told {x : L1} (h : x.ok) {life : Int} (h1 : 1 ≤ life) (h2 : life ≤ 2147483647) : (x.told life).ok := by
  unfold L1.told
  split
  · exact ⟨by simp; omega, h2, by simp; have := h.epoch0; omega, by simp; have := h.epoch1; omega, h.till0, h.till1⟩
  · exact h
theorem L1.ok.on {x : L1} (h : x.ok) {till : Int} (h2 : till ≤ 2199023255552) : (x.on till).ok := by
  have := h.till0
  have := h.till1
  exact ⟨h.life0, h.life1, h.epoch0, h.epoch1, by simp [L1.on]; omega, by simp [L1.on]; omega⟩
theorem Tab.ok.hello {t : Tab} (h : t.ok) (w life now : Int) : (t.hello w life now).1.ok := by
  unfold Tab.hello
  split
  · rename_i hk
    simp only [okHello, okTime, Bool.and_eq_true, decide_eq_true_eq] at hk
    split
    · exact h
    · exact h.put w (((h.at w).told (by omega) (by omega)).on (by have := h.term1; omega))
  · exact h
theorem Tab.ok.seen {t : Tab} (h : t.ok) (w epoch now : Int) : (t.seen w epoch now).1.ok := by
  unfold Tab.seen
  split
  · rename_i hk
    simp only [okSeen, okTime, Bool.and_eq_true, decide_eq_true_eq] at hk
    exact h.put w ((h.at w).on (by have := h.term1; omega))
  · exact h
theorem Tab.at_put {t : Tab} (h : t.ok) (w v : Int) (x : L1) (hw : t.is w = true) : (t.put w x).at v = if v.toNat = w.toNat then x else t.at v := by
  simp only [Tab.is, decide_eq_true_eq] at hw
  have := h.len
  have := h.workers1
  unfold Tab.at Tab.put
  by_cases e : v.toNat = w.toNat
  · rw [if_pos e, e, List.getD_eq_getElem?_getD, List.getElem?_set_self (by omega)]; rfl
  · rw [if_neg e, List.getD_eq_getElem?_getD, List.getElem?_set_ne (fun e' => e e'.symm), List.getD_eq_getElem?_getD]
/-- the cells of the program's table, and of the document's -/
def L1.cells (x : L1) : List Value := [.int .i64 x.life, .int .i64 x.epoch, .int .i64 x.till]
def L1.rcells (x : L1) : List Value := [.int .i64 x.epoch, .int .i64 x.life, .int .i64 x.till]
def Tab.cells (t : Tab) : List Value := [.int .i64 t.workers, .int .i64 t.term] ++ t.l.flatMap L1.cells
def Tab.rcells (t : Tab) : List Value := t.l.flatMap L1.rcells ++ [.int .i64 t.workers, .int .i64 t.term]
theorem Tab.cell_at {t : Tab} (h : t.ok) (k j : Nat) (hk : k < 6) (hj : j < 3) : t.cells[2 + k * 3 + j]? = (t.at k).cells[j]? := by
  have hl := h.len
  unfold Tab.cells
  rw [List.getElem?_append_right (by simp; omega)]
  rw [show 2 + k * 3 + j - [Value.int IntKind.i64 t.workers, Value.int IntKind.i64 t.term].length = k * 3 + j by simp; omega, flatMap_get _ 3 (fun _ => rfl) _ _ _ hj]
  unfold Tab.at
  rw [Int.toNat_natCast, List.getD_eq_getElem?_getD, List.getElem?_eq_getElem (l := t.l) (show k < t.l.length by omega)]; rfl
theorem Tab.rcell_at {t : Tab} (h : t.ok) (k j : Nat) (hk : k < 6) (hj : j < 3) : t.rcells[k * 3 + j]? = (t.at k).rcells[j]? := by
  have hl := h.len
  unfold Tab.rcells
  rw [List.getElem?_append_left (by rw [flatMap_len _ 3 (fun _ => rfl), hl]; omega), flatMap_get _ 3 (fun _ => rfl) _ _ _ hj]
  unfold Tab.at
  rw [Int.toNat_natCast, List.getD_eq_getElem?_getD, List.getElem?_eq_getElem (l := t.l) (show k < t.l.length by omega)]; rfl
theorem Tab.rcell_n {t : Tab} (h : t.ok) : t.rcells[18]? = some (.int .i64 t.workers) ∧ t.rcells[19]? = some (.int .i64 t.term) := by
  have hl := h.len
  have h18 : (t.l.flatMap L1.rcells).length = 18 := by rw [flatMap_len _ 3 (fun _ => rfl), hl]
  unfold Tab.rcells
  constructor
  · rw [List.getElem?_append_right (by omega), h18]; rfl
  · rw [List.getElem?_append_right (by omega), h18]; rfl
theorem Tab.set_cell {t : Tab} (h : t.ok) (k j : Nat) (v : Value) (x : L1) (hk : k < 6) (hj : j < 3) (hx : x.cells = (t.at k).cells.set j v) : t.cells.set (2 + k * 3 + j) v = (t.put k x).cells := by
  have hl := h.len
  unfold Tab.cells Tab.put
  rw [List.set_append_right _ _ (by simp; omega), show 2 + k * 3 + j - [Value.int IntKind.i64 t.workers, Value.int IntKind.i64 t.term].length = k * 3 + j by simp; omega]
  rw [flatMap_set _ 3 (fun _ => rfl) t.l k j v (t.at k) x (by unfold Tab.at; rw [Int.toNat_natCast, List.getD_eq_getElem?_getD, List.getElem?_eq_getElem (by omega)]; rfl) hj hx]
  simp
theorem Tab.set_rcell {t : Tab} (h : t.ok) (k j : Nat) (v : Value) (x : L1) (hk : k < 6) (hj : j < 3) (hx : x.rcells = (t.at k).rcells.set j v) : t.rcells.set (k * 3 + j) v = (t.put k x).rcells := by
  have hl := h.len
  unfold Tab.rcells Tab.put
  rw [List.set_append_left _ _ (by rw [flatMap_len _ 3 (fun _ => rfl), hl]; omega)]
  rw [flatMap_set _ 3 (fun _ => rfl) t.l k j v (t.at k) x (by unfold Tab.at; rw [Int.toNat_natCast, List.getD_eq_getElem?_getD, List.getElem?_eq_getElem (by omega)]; rfl) hj hx]
  simp
end Go.Proofs.Ytnnkebhpmegkfaa
