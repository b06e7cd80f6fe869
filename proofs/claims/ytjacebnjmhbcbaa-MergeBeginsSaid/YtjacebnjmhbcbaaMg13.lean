/- A Merge that the call made itself; awake of chapter 22. -/
import Derived.Test.YtjacebnjmhbcbaaMg12
namespace Go.Proofs.Ytjacebnjmhbcbaa
open Go.RowKit
set_option linter.unusedVariables false

def OwnM (w0 w : World) (p : Nat) (n : Int) (S : List PS) (T : List KeyL) : Prop := MG w0.heap.size w p n S T ∧ Below w0.heap.size w0 w
theorem OwnM.below {w0 w w' : World} {p : Nat} {n : Int} {S : List PS} {T : List KeyL} (h : OwnM w0 w p n S T) (hb : Below w.heap.size w w') : OwnM w0 w' p n S T := ⟨h.1.below hb, h.2.trans (hb.mono h.2.size)⟩
theorem m_put {w0 w : World} {p : Nat} {n i seq : Int} {S S' : List PS} {T l : List KeyL} {e r : Bool} {a : Option Addr} {m cap : Nat} (h : OwnM w0 w p n S T) (hr : RdE KeyL.cells 2 w a m cap l) (hs : ∀ s ∈ S, 0 ≤ s.seq ∧ s.seq ≤ 1000000) (he : putP n S T i seq l e = (r, S')) :
    Calls Try.prog 13 #[.pointer (some ⟨p, 0, none⟩), .int .i64 i, .int .i64 seq, .slice a m cap, .bool e] w fun e' w' => e' = .returned (.bool r) ∧ OwnM w0 w' p n S' T ∧ (r = false → Below w.heap.size w w') := by
  obtain ⟨gs, c, M, sp, ta, tc, hX⟩ := h.1.x
  refine (put_any w0.heap.size p n i seq S T l e a m cap w gs c M sp ta tc hX hr hs h.2.size).mono ?_
  rw [he]
  rintro e' w' ⟨rfl, ⟨M', hM, _⟩, hf, hb⟩
  exact ⟨rfl, ⟨hM.mg, h.2.trans (hf.toBelow h.2.size (fun i hi e => by have := hX.bg; omega))⟩, hb⟩
theorem m_tell {w0 w : World} {p : Nat} {n : Int} {S S' : List PS} {T T' l : List KeyL} (h : OwnM w0 w p n S T) (hT : (T.length : Int) ≤ n) (he : tellP n S T = (l, S', T')) :
    Calls Try.prog 25 #[.pointer (some ⟨p, 0, none⟩)] w fun e w' => ∃ ao c, e = .returned (.slice ao l.length c) ∧ w'.ownsRow w.heap.size 31 2 (.slice ao l.length c) l.length (l.flatMap KeyL.cells) ∧ OwnM w0 w' p n S' T' ∧ (∀ w'', Frm (fun i => (Value.slice ao l.length c).ownBlock = some i) w' w'' → OwnM w0 w'' p n S' T') := by
  obtain ⟨gs, c, M, sp, ta, tc, hX⟩ := h.1.x
  refine (tell_any w0.heap.size p n S T w gs c M sp ta tc hX hT h.2.size).mono ?_
  rw [he]
  rintro e w' ⟨ao, c', rfl, ho, ⟨M', ta', tc', hM, _, ha⟩, hf⟩
  have hb : Below w0.heap.size w0 w' := h.2.trans (hf.toBelow h.2.size (fun i hi e => by
    rcases e with e | e | e
    · have := hX.bp; omega
    · have := hX.bg; omega
    · have := own_ge hX.told i e; omega))
  have key : ∀ w'', Frm (fun i => (Value.slice ao l.length c').ownBlock = some i) w' w'' → OwnM w0 w'' p n S' T' := by
    intro w'' hf2
    exact ⟨(hM.far ho ha hf2).mg, hb.trans (hf2.toBelow hb.size (fun i hi e => by have h1 := own_ge ho i e; have h2 := h.2.size; omega))⟩
  exact ⟨ao, c', rfl, ho, key w' (Frm.refl _ _), key⟩
theorem m_wants {w0 w : World} {p : Nat} {n : Int} {S : List PS} {T : List KeyL} {l : List Int} (h : OwnM w0 w p n S T) (he : wantsP n S T = l) :
    Calls Try.prog 14 #[.pointer (some ⟨p, 0, none⟩)] w fun e w' => ∃ ao c, e = .returned (.slice ao l.length c) ∧ w'.ownsRow w.heap.size 3 1 (.slice ao l.length c) l.length (l.map (Value.int .i64)) ∧ OwnM w0 w' p n S T ∧ Below w.heap.size w w' := by
  refine (wants_any _ p n S T w h.1).mono ?_
  rw [he]
  rintro e w' ⟨ao, c, rfl, ho, hb⟩
  exact ⟨ao, c, rfl, ho, h.below hb, hb⟩
theorem m_done {w0 w : World} {p : Nat} {n : Int} {S : List PS} {T : List KeyL} {b : Bool} (h : OwnM w0 w p n S T) (he : doneP n S T = b) :
    Calls Try.prog 30 #[.pointer (some ⟨p, 0, none⟩)] w fun e w' => e = .returned (.bool b) ∧ OwnM w0 w' p n S T ∧ Below w.heap.size w w' := by
  refine (done_any _ p n S T w h.1).mono ?_
  rw [he]
  rintro e w' ⟨rfl, hb⟩
  exact ⟨rfl, h.below hb, hb⟩
theorem new_items (w : World) (l : List KeyL) (h : l.length ≤ maxLen) : RdE KeyL.cells 2 (w.alloc (.cells (l.flatMap KeyL.cells).toArray 31)) (some ⟨w.heap.size, 0, none⟩) l.length l.length l :=
  Blk.rdE (enc := KeyL.cells) (fun _ => rfl) (sp := []) (show Blk (w.alloc (.cells (l.flatMap KeyL.cells).toArray 31)) w.heap.size 31 (l.flatMap KeyL.cells ++ []) from by rw [List.append_nil]; exact heap_alloc_new w _) _ (Nat.le_refl _) h
theorem new_nums (w : World) (l : List Int) (h : l.length ≤ maxLen) : Rd (w.alloc (.cells (ints l).toArray 3)) (some ⟨w.heap.size, 0, none⟩) l.length l.length (ints l) := by
  have hb : Blk (w.alloc (.cells (ints l).toArray 3)) w.heap.size 3 (ints l) := heap_alloc_new w _
  exact hb.rd _ _ _ (ints_len l) (Nat.le_refl _) h (fun i _ => rfl)
def awA : KeyL := (0, ⟨#[97]⟩)
def awB : KeyL := (1, ⟨#[98]⟩)
def awC : KeyL := (2, ⟨#[99]⟩)
def awS0 : List PS := [newPS 0, newPS 0]
def awS1 : List PS := [⟨0, 1, true, true, awC, [awA, awC]⟩, newPS 0]
def awS2 : List PS := [⟨0, 1, true, true, awC, [awA, awC]⟩, ⟨0, 1, false, true, awB, [awB]⟩]
def awS3 : List PS := [⟨0, 1, true, true, awC, [awC]⟩, ⟨0, 1, false, true, awB, []⟩]
theorem aw1 : putP 3 awS0 [] 0 0 [awA, awC] true = (true, awS1) := by kernel_rfl
theorem aw2 : tellP 3 awS1 [] = ([], awS1, []) := by kernel_rfl
theorem aw3 : putP 3 awS1 [] 1 0 [awB] false = (true, awS2) := by kernel_rfl
theorem aw4 : tellP 3 awS2 [] = ([awA, awB], awS3, [awA, awB]) := by kernel_rfl
theorem aw5 : wantsP 3 awS3 [awA, awB] = [1] := by kernel_rfl
theorem aw6 : doneP 3 awS3 [awA, awB] = false := by kernel_rfl
end Go.Proofs.Ytjacebnjmhbcbaa
