/- The walk of text.Runes. -/
import Derived.Test.YtjhkdbcfkaaffaaPart1
import Derived.Test.YtjhkdbcfkaaffaaEdit1
namespace Go.Proofs.Ytjhkdbcfkaaffaa
open Go.RowKit
set_option linter.unusedVariables false

def toIter (W : World) (B : Nat) (s : ByteArray) (pos : Nat) : World := { W with heap := W.heap.setIfInBounds B (.stringIter s pos) }
def atIter (W : World) (B : Nat) (s : ByteArray) (pos : Nat) : Prop := W.heap[B]? = some (.stringIter s pos)
set_option maxRecDepth 100000 in
theorem atIter_to {W : World} {B : Nat} {s : ByteArray} {pos : Nat} (h : atIter W B s pos) (pos' : Nat) : atIter (toIter W B s pos') B s pos' := by
  unfold atIter toIter at *
  have hlt := (Array.getElem?_eq_some_iff.1 h).1
  simp [hlt]
set_option maxRecDepth 100000 in
theorem run_next_at {P : Program} {W : World} {B : Nat} {s : ByteArray} {pos : Nat} (hB : atIter W B s pos) (ty : TypeId) (h : pos < s.size) :
    (Instr.next (.pointer (some ⟨B, 0, none⟩)) true ty).run P W = .ok (.tuple #[.bool true, .int .i64 pos, .int .i32 (Utf8.decode s pos).1]) (toIter W B s (pos + (Utf8.decode s pos).2)) := by
  unfold atIter at hB
  simp only [Instr.next, getObj, setObj, Sem.run_bind, Sem.run, hB, Result.andThen, h, if_true, toIter]
  simp [goInt]
set_option maxRecDepth 100000 in
theorem run_next_over {P : Program} {W : World} {B : Nat} {s : ByteArray} {pos : Nat} (hB : atIter W B s pos) (ty : TypeId) (h : ¬ pos < s.size) :
    (Instr.next (.pointer (some ⟨B, 0, none⟩)) true ty).run P W = .ok (.tuple #[.bool false]) W := by
  unfold atIter at hB
  simp [Instr.next, getObj, Sem.run, hB, h]
set_option maxRecDepth 100000 in
theorem toIter_grown (W : World) (B : Nat) (s : ByteArray) (pos : Nat) : W.grownBy (toIter W B s pos) (some B) :=
  ⟨rfl, rfl, rfl, by simp [toIter], fun k hk hne => by unfold toIter; simp only; rw [Array.getElem?_setIfInBounds_ne (by intro e; subst e; exact hne rfl)]⟩
set_option maxRecDepth 100000 in
theorem atIter_grown {W W' : World} {B : Nat} {s : ByteArray} {pos : Nat} {row : Option Nat} (h : atIter W B s pos) (hg : W.grownBy W' row) (hr : row ≠ some B) : atIter W' B s pos := by
  unfold atIter at *
  have hlt := (Array.getElem?_eq_some_iff.1 h).1
  rw [hg.block B hlt (fun e => hr e.symm)]; exact h
def iterPos' (W : World) (B : Nat) : Nat := match W.heap[B]? with | some (.stringIter _ p) => p | _ => 0
set_option maxRecDepth 100000 in
theorem iterPos'_at {W : World} {B : Nat} {s : ByteArray} {pos : Nat} (h : atIter W B s pos) : iterPos' W B = pos := by unfold iterPos'; unfold atIter at h; rw [h]

/-- the runes of a text, from place pos on, behind acc; none: bytes that are none -/
def rFrom (s : ByteArray) : Nat → Nat → List Int → Option (List Int)
  | 0, _, acc => some acc
  | b + 1, pos, acc => if pos < s.size then (if (Utf8.decode s pos).1 = 65533 then none else rFrom s b (pos + (Utf8.decode s pos).2) (acc ++ [((Utf8.decode s pos).1 : Int)])) else some acc
def runesO (s : ByteArray) : Option (List Int) := rFrom s s.size 0 []
set_option maxRecDepth 100000 in
theorem rFrom_end (s : ByteArray) (b pos : Nat) (acc : List Int) (h : ¬ pos < s.size) : rFrom s b pos acc = some acc := by
  cases b with
  | zero => rfl
  | succ b => simp [rFrom, h]
set_option maxRecDepth 100000 in
theorem rFrom_len (s : ByteArray) : ∀ (b pos : Nat) (acc : List Int), tLenFrom s b pos acc.length = (match rFrom s b pos acc with | none => -1 | some l => (l.length : Int))
  | 0, _, acc => rfl
  | b + 1, pos, acc => by
    unfold tLenFrom rFrom
    split
    · split
      · rfl
      · have := rFrom_len s b (pos + (Utf8.decode s pos).2) (acc ++ [((Utf8.decode s pos).1 : Int)])
        rw [List.length_append] at this
        exact this
    · rfl
set_option maxRecDepth 100000 in
theorem runesO_len (s : ByteArray) : tLen s = (match runesO s with | none => -1 | some l => (l.length : Int)) := rFrom_len s s.size 0 []
set_option maxRecDepth 100000 in
theorem infoR : (Try.prog.info? 21).map (fun i => (i.zero, i.size, i.bytes)) = some (some (.int .i32 0), 1, 4) := by kernel_rfl
def GotR (w : World) (r : Option (List Int)) (e : Ending) (w' : World) : Prop := (match r with | none => e = .returned (.tuple #[.slice none 0 0, .bool false]) | some l => ∃ ao c, e = .returned (.tuple #[.slice ao l.length c, .bool true]) ∧ RdR w' ao l.length c l) ∧ Below w.heap.size w w'
def r32 (l : List Int) : List Value := l.map (Value.int .i32)
def RRel (w : World) (s : ByteArray) (v4 : Value) (wr : World) : Prop := ∃ (pos b : Nat) (acc : List Int) (ao : Option Addr) (q c : Nat), v4 = .slice ao q c ∧ RowKit.Hid (acc.length = q) ∧ q ≤ pos ∧ q ≤ s.size ∧ s.size ≤ pos + b ∧ RowKit.Hid (rFrom s b pos acc = runesO s) ∧ RowKit.Hid (atIter wr w.heap.size s pos) ∧ RowKit.Hid (wr.ownsRow (w.heap.size + 1) 21 1 (.slice ao q c) q (r32 acc)) ∧ RowKit.Hid (Below w.heap.size w wr)
end Go.Proofs.Ytjhkdbcfkaaffaa
