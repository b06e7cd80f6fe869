/- The walk of edit.rows. -/
import Derived.Test.YtjacebnjmhbcbaaEdit0
import Derived.Test.YtjacebnjmhbcbaaRows
import Derived.Test.YtjacebnjmhbcbaaKit
import Derived.OwnWalk
import Derived.Laws.OwnMore
namespace Go.Proofs.Ytjacebnjmhbcbaa
open Go.RowKit
set_option linter.unusedVariables false

def i64s (l : List Int) : List Value := l.map (Value.int .i64)
theorem i64s_get {l : List Int} {i : Nat} {x : Int} (h : l[i]? = some x) : (i64s l)[i]? = some (.int .i64 x) := by unfold i64s; rw [List.getElem?_map, h]; rfl
theorem i64s_set (l : List Int) (i : Nat) (x : Int) : (i64s l).set i (.int .i64 x) = i64s (l.set i x) := by unfold i64s; rw [List.map_set]
def RdR (w : World) (a : Option Addr) (n c : Nat) (l : List Int) : Prop := Rd w a n c (l.map (Value.int .i32))
theorem RdR.len {w : World} {a : Option Addr} {n c : Nat} {l : List Int} (h : RdR w a n c l) : l.length = n := by have := h.1; simpa using this
theorem RdR.below {w w' : World} {a : Option Addr} {n c B : Nat} {l : List Int} (h : RdR w a n c l) (hb : Below B w w') (hB : B = w.heap.size) : RdR w' a n c l := Rd.below h hb hB
theorem RdR.at {w : World} {a : Option Addr} {n c : Nat} {l : List Int} (h : RdR w a n c l) {k : Nat} (hk : k < n) : ∃ b off, a = some ⟨b, off, none⟩ ∧ b < w.heap.size ∧ w.cell? ⟨b, off + k, none⟩ = some (.int .i32 (l.getD k 0)) := by
  obtain ⟨b, off, e, hl, hc⟩ := h.2.2.2.2 k hk
  refine ⟨b, off, e, hl, ?_⟩
  rw [hc, List.getElem?_map, List.getD_eq_getElem?_getD, List.getElem?_eq_getElem (by rw [h.len]; exact hk)]; rfl
theorem infoI : (Try.prog.info? 3).map (fun i => (i.zero, i.size, i.bytes)) = some (some (.int .i64 0), 1, 8) := by kernel_rfl
def idL (n : Nat) : List Int := (List.range n).map fun (i : Nat) => (i : Int)
theorem idL_get {n i : Nat} (h : i < n) : (idL n).getD i 0 = (i : Int) := by
  unfold idL
  rw [List.getD_eq_getElem?_getD, List.getElem?_map, List.getElem?_range h]; rfl
def zeroL (n : Nat) : List Int := List.replicate n 0
theorem blk_full {w : World} {base g n : Nat} {e : TypeId} {xs : List Value} (h : w.ownsRow base e 1 (.slice (some ⟨g, 0, none⟩) n n) n xs) : Blk w g e xs := by
  obtain ⟨sp, hl, hb⟩ := ownsRow_blk h
  have : sp = [] := List.eq_nil_of_length_eq_zero (by omega)
  rw [this, List.append_nil] at hb; exact hb
end Go.Proofs.Ytjacebnjmhbcbaa
