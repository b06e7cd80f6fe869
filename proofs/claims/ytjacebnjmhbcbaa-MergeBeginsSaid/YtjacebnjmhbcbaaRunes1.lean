/- The walk of text.Runes. -/
import Derived.Test.YtjacebnjmhbcbaaPart1
import Derived.Test.YtjacebnjmhbcbaaEdit1
namespace Go.Proofs.Ytjacebnjmhbcbaa
open Go.RowKit
set_option linter.unusedVariables false

def toIter (W : World) (B : Nat) (s : ByteArray) (pos : Nat) : World := { W with heap := W.heap.setIfInBounds B (.stringIter s pos) }
def atIter (W : World) (B : Nat) (s : ByteArray) (pos : Nat) : Prop := W.heap[B]? = some (.stringIter s pos)
theorem atIter_to {W : World} {B : Nat} {s : ByteArray} {pos : Nat} (h : atIter W B s pos) (pos' : Nat) : atIter (toIter W B s pos') B s pos' := by
  unfold atIter toIter at *
  have hlt := (Array.getElem?_eq_some_iff.1 h).1
  simp [hlt]
theorem run_next_at {P : Program} {W : World} {B : Nat} {s : ByteArray} {pos : Nat} (hB : atIter W B s pos) (ty : TypeId) (h : pos < s.size) :
    (Instr.next (.pointer (some ⟨B, 0, none⟩)) true ty).run P W = .ok (.tuple #[.bool true, .int .i64 pos, .int .i32 (Utf8.decode s pos).1]) (toIter W B s (pos + (Utf8.decode s pos).2)) := by
  unfold atIter at hB
  simp only [Instr.next, getObj, setObj, Sem.run_bind, Sem.run, hB, Result.andThen, h, if_true, toIter]
  simp [goInt]
theorem run_next_over {P : Program} {W : World} {B : Nat} {s : ByteArray} {pos : Nat} (hB : atIter W B s pos) (ty : TypeId) (h : ¬ pos < s.size) :
    (Instr.next (.pointer (some ⟨B, 0, none⟩)) true ty).run P W = .ok (.tuple #[.bool false]) W := by
  unfold atIter at hB
  simp [Instr.next, getObj, Sem.run, hB, h]
theorem toIter_grown (W : World) (B : Nat) (s : ByteArray) (pos : Nat) : W.grownBy (toIter W B s pos) (some B) :=
  ⟨rfl, rfl, rfl, by simp [toIter], fun k hk hne => by unfold toIter; simp only; rw [Array.getElem?_setIfInBounds_ne (by intro e; subst e; exact hne rfl)]⟩
theorem atIter_grown {W W' : World} {B : Nat} {s : ByteArray} {pos : Nat} {row : Option Nat} (h : atIter W B s pos) (hg : W.grownBy W' row) (hr : row ≠ some B) : atIter W' B s pos := by
  unfold atIter at *
  have hlt := (Array.getElem?_eq_some_iff.1 h).1
  rw [hg.block B hlt (fun e => hr e.symm)]; exact h
def iterPos' (W : World) (B : Nat) : Nat := match W.heap[B]? with | some (.stringIter _ p) => p | _ => 0
theorem iterPos'_at {W : World} {B : Nat} {s : ByteArray} {pos : Nat} (h : atIter W B s pos) : iterPos' W B = pos := by unfold iterPos'; unfold atIter at h; rw [h]

/-- the runes of a text, from place pos on, behind acc; none: bytes that are none -/
def rFrom (s : ByteArray) : Nat → Nat → List Int → Option (List Int)
  | 0, _, acc => some acc
  | b + 1, pos, acc => if pos < s.size then (if (Utf8.decode s pos).1 = 65533 then none else rFrom s b (pos + (Utf8.decode s pos).2) (acc ++ [((Utf8.decode s pos).1 : Int)])) else some acc
def runesO (s : ByteArray) : Option (List Int) := rFrom s s.size 0 []
theorem rFrom_end (s : ByteArray) (b pos : Nat) (acc : List Int) (h : ¬ pos < s.size) : rFrom s b pos acc = some acc := by
  cases b with
  | zero => rfl
  | succ b => simp [rFrom, h]
theorem rFrom_len (s : ByteArray) : ∀ (b pos : Nat) (acc : List Int), tLenFrom s b pos acc.length = (match rFrom s b pos acc with | none => -1 | some l => (l.length : Int))
  | 0, _, acc => rfl
  | b + 1, pos, acc => by
    unfold tLenFrom rFrom
    split
    · split
      · rfl
      · have := rFrom_len s b (pos + (Utf8.decode s pos).2) (acc ++ [((Utf8.decode s pos).1 : Int)])
        rw [List.length_append] at this
        exact this
    · rfl
theorem runesO_len (s : ByteArray) : tLen s = (match runesO s with | none => -1 | some l => (l.length : Int)) := rFrom_len s s.size 0 []
theorem infoR : (Try.prog.info? 21).map (fun i => (i.zero, i.size, i.bytes)) = some (some (.int .i32 0), 1, 4) := by kernel_rfl
def GotR (w : World) (r : Option (List Int)) (e : Ending) (w' : World) : Prop := (match r with | none => e = .returned (.tuple #[.slice none 0 0, .bool false]) | some l => ∃ ao c, e = .returned (.tuple #[.slice ao l.length c, .bool true]) ∧ RdR w' ao l.length c l) ∧ Below w.heap.size w w'
def r32 (l : List Int) : List Value := l.map (Value.int .i32)
def RRel (w : World) (s : ByteArray) (v4 : Value) (wr : World) : Prop := ∃ (pos b : Nat) (acc : List Int) (ao : Option Addr) (q c : Nat), v4 = .slice ao q c ∧ RowKit.Hid (acc.length = q) ∧ q ≤ pos ∧ q ≤ s.size ∧ s.size ≤ pos + b ∧ RowKit.Hid (rFrom s b pos acc = runesO s) ∧ RowKit.Hid (atIter wr w.heap.size s pos) ∧ RowKit.Hid (wr.ownsRow (w.heap.size + 1) 21 1 (.slice ao q c) q (r32 acc)) ∧ RowKit.Hid (Below w.heap.size w wr)
set_option maxRecDepth 100000 in
set_option maxHeartbeats 4000000 in
theorem runes_any (s : ByteArray) (w : World) (hs : s.size ≤ 1000000) :
    Calls Try.prog 64 #[.string s] w (GotR w (runesO s)) := by
  obtain ⟨i0, hi, hz0, hz1, hz2⟩ := info_parts infoR
  have HI := Lib.hid hi
  have HZ0 := Lib.hid hz0
  have HZ1 := Lib.hid hz1
  have HZ2 := Lib.hid hz2
  clear hi hz0 hz1 hz2
  have HB0 := Lib.hid (show Below w.heap.size w (w.iter s 0) from (Below.refl _ w).alloc (Nat.le_refl _) _)
  have HIT := Lib.hid (show atIter (w.iter s 0) w.heap.size s 0 from World.iter_heap w s 0)
  go_enter Try.func64, Try.ntmps64
  go_wp2_with fail
  generalize w.iter s 0 = w0 at *
  go_loopw [4, 6] (fun v4 _ wr => RRel w s v4 wr) (fun _ _ wr => s.size - iterPos' wr w.heap.size)
  case atStart => exact ⟨0, s.size, [], none, 0, 0, rfl, rfl, by omega, by omega, by omega, rfl, HIT.out, World.ownsRow_nil _ _ _ _, HB0.out⟩
  case round =>
    clear HB0 HIT
    obtain ⟨pos, b, acc, ao, q, c, rfl, HQ, hqp, hqs, hb, HC, HIT, HO, HW⟩ := hrel
    have HIP := Lib.hid (iterPos'_at HIT.out)
    have hsz := HW.out.size
    have hlt0 : w.heap.size < wr.heap.size := (Array.getElem?_eq_some_iff.1 HIT.out).1
    by_cases hp : pos < s.size
    · have hnx : ∀ ty, (Instr.next (.pointer (some ⟨w.heap.size, 0, none⟩)) true ty).run Try.prog wr = _ := fun ty => run_next_at HIT.out ty hp
      have hwd := Lib.decode_width_pos s pos hp
      have HIT2 := Lib.hid (atIter_to HIT.out (pos + (Utf8.decode s pos).2))
      have hgr := toIter_grown wr w.heap.size s (pos + (Utf8.decode s pos).2)
      have HO2 := Lib.hid (HO.out.kept hgr (.inr (by intro e; have := (HO.out.lt _ e).1; omega)))
      have HW2 := Lib.hid (HW.out.grown hgr hsz (fun k hk => by cases hk; exact Nat.le_refl _))
      have hsz2 := HW2.out.size
      have hlt2 : w.heap.size < (toIter wr w.heap.size s (pos + (Utf8.decode s pos).2)).heap.size := (Array.getElem?_eq_some_iff.1 HIT2.out).1
      clear hgr
      by_cases hodd : (Utf8.decode s pos).1 = 65533
      · rw [hodd] at hnx
        have hn : runesO s = none := by
          rw [← HC.out]
          cases b with
          | zero => omega
          | succ b => simp [rFrom, hp, hodd]
        have HN := Lib.hid hn
        clear hn HC
        generalize toIter wr w.heap.size s (pos + (Utf8.decode s pos).2) = w2 at *
        go_wp2_with fail
        go_ret2
        rw [HN.out]
        exact ⟨rfl, HW2.out⟩
      · obtain ⟨r, hr⟩ : ∃ r : Int, ((Utf8.decode s pos).1 : Int) = r := ⟨_, rfl⟩
        have HC2 : RowKit.Hid (rFrom s (b - 1) (pos + (Utf8.decode s pos).2) (acc ++ [r]) = runesO s) := by
          unfold RowKit.Hid
          rw [← HC.out]
          cases b with
          | zero => omega
          | succ b => rw [← hr]; simp [rFrom, hp, hodd]
        generalize toIter wr w.heap.size s (pos + (Utf8.decode s pos).2) = w2 at *
        obtain ⟨wd, hw⟩ : ∃ wd : Nat, (Utf8.decode s pos).2 = wd := ⟨_, rfl⟩
        have hne : (r == 65533) = false := by simp; omega
        rw [hr] at hnx
        rw [hw] at hwd HC2 HIT2
        clear hr hw hodd HC HIT HO HW
        go_wp2_with (at_builtin; refine wpList_app rfl _ _ 98 98 rfl (w.heap.size + 1) 21 i0 (.int .i32 0) 1 4 Try.underlying98 HI.out HZ0.out HZ1.out HZ2.out rfl (by decide) ao q c (r32 acc) rfl (HO2.out.alloc _) _ 1 _ rfl (Src.one' Try.underlying98 w2 _ 21 rfl) (by unfold maxLen; omega) (by omega) (by simp; omega) ?_; intro ao2 c2 w3 hown2 hg2; have HO3 := Lib.hid hown2; have HW3 := Lib.hid ((HW2.out.alloc hsz2 _).grown hg2 (by simp; omega) (fun k hk => by have := (HO2.out.lt k hk).1; omega)); have HIT3 := Lib.hid (atIter_grown (atIter_grown HIT2.out (grownBy_alloc' _ _ none) (by simp)) hg2 (by intro e; have := (HO2.out.lt _ e).1; omega)); clear hown2 hg2)
        go_roundw
        case rel => exact ⟨pos + wd, b - 1, acc ++ [r], ao2, q + 1, c2, rfl, (by unfold RowKit.Hid; rw [List.length_append, HQ.out]; rfl), by omega, by omega, by omega, HC2.out, HIT3.out, (by unfold r32; rw [List.map_append]; exact HO3.out), HW3.out⟩
        case measure => rw [iterPos'_at HIT3.out, HIP.out]; omega
    · have hnx : ∀ ty, (Instr.next (.pointer (some ⟨w.heap.size, 0, none⟩)) true ty).run Try.prog wr = _ := fun ty => run_next_over HIT.out ty hp
      have hcc := HC.out
      rw [rFrom_end s b pos acc hp] at hcc
      have HCC := Lib.hid hcc
      have hq := HQ.out
      subst hq
      clear hcc HQ
      go_wp2_with fail
      go_ret2
      rw [← HCC.out]
      exact ⟨⟨ao, c, rfl, ownsRow_rd HO.out⟩, HW.out⟩
end Go.Proofs.Ytjacebnjmhbcbaa
