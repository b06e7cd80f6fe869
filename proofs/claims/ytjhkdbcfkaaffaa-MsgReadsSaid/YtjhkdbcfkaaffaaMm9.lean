/- msg.reader's message, kind by kind (numbers alone). -/
import Derived.Test.YtjhkdbcfkaaffaaMm8
namespace Go.Proofs.Ytjhkdbcfkaaffaa
open Go.RowKit
set_option linter.unusedVariables false

def helloS (l : List Nat) (st : Nat × Bool) : MV × (Nat × Bool) := (.hello (numS l 4 st).1 (numS l 4 (numS l 4 st).2).1, (numS l 4 (numS l 4 st).2).2)
def grantS (l : List Nat) (st : Nat × Bool) : MV × (Nat × Bool) := (.grant (numS l 4 st).1 (numS l 4 (numS l 4 st).2).1 (numS l 4 (numS l 4 (numS l 4 st).2).2).1, (numS l 4 (numS l 4 (numS l 4 st).2).2).2)
def stopS (l : List Nat) (st : Nat × Bool) : MV × (Nat × Bool) := (.stop (numS l 4 st).1 (numS l 4 (numS l 4 st).2).1, (numS l 4 (numS l 4 st).2).2)
def MR (g : Nat) (a : Option Addr) (c : Nat) (l : List Nat) (r : MV × (Nat × Bool)) (w : World) (e : Ending) (w' : World) : Prop := ∃ u, e = .returned u ∧ r.1.At w' u ∧ RAt w' g a c l r.2 ∧ Frm (fun i => i = g) w w'
set_option maxRecDepth 100000 in
theorem RAt.alloc {w : World} {g : Nat} {a : Option Addr} {c : Nat} {l : List Nat} {st : Nat × Bool} (h : RAt w g a c l st) (o : Obj) : RAt (w.alloc o) g a c l st := h.frm (((Frm.refl (fun _ => False) w).alloc o)) (fun h => h) (fun _ _ _ h => h)
set_option maxRecDepth 100000 in
set_option maxHeartbeats 4000000 in
theorem rmsg_hello (g : Nat) (a : Option Addr) (c : Nat) (l : List Nat) (st : Nat × Bool) (w : World) (h : RAt w g a c l st) :
    Calls Try.prog 55 #[.pointer (some ⟨g, 0, none⟩), .int .i64 1] w (MR g a c l (helloS l st) w) := by
  have hg := h.2.2.1.lt
  have HW := Lib.hid h
  have HZ := Lib.hid (h.alloc (.cells #[.int .i64 0, .int .i64 0] 23))
  have HF := Lib.hid ((Frm.refl (fun i => i = g) w).alloc (.cells #[.int .i64 0, .int .i64 0] 23))
  have HX := Lib.hid (show Blk (w.alloc (.cells #[.int .i64 0, .int .i64 0] 23)) w.heap.size 23 [.int .i64 0, .int .i64 0] from heap_alloc_new w _)
  obtain ⟨W, hW⟩ : ∃ W, w.alloc (.cells #[.int .i64 0, .int .i64 0] 23) = W := ⟨_, rfl⟩
  rw [hW] at HZ HF HX
  have HQ := Lib.hid hW
  clear h hW
  obtain ⟨⟨v0, s0⟩, e0⟩ : ∃ q, numS l 4 st = q := ⟨_, rfl⟩
  obtain ⟨⟨v1, s1⟩, e1⟩ : ∃ q, numS l 4 s0 = q := ⟨_, rfl⟩
  have HR := Lib.hid (show helloS l st = (.hello v0 v1, s1) from by unfold helloS; simp only [e0, e1])
  rw [HR.out]
  clear HR
  go_enter Try.func55, Try.ntmps55
  have HC := Lib.hid (rnum_any g a c l 4 st W HZ.out (by decide) (by decide))
  rw [e0] at HC
  simp only at HC
  go_wp2_with fail
  rw [HQ.out]
  refine HC.out.mono ?_
  clear HC
  rintro e V0 ⟨rfl, hz, hf⟩
  clear HQ
  have HZ0 := Lib.hid hz
  have HF0 := Lib.hid (HF.out.trans hf (fun i h _ => h))
  have HX0 := Lib.hid (Blk.frm HX.out hf (fun hh => absurd (show w.heap.size = g from hh) (Nat.ne_of_gt hg)))
  clear hz hf HZ HF HX
  have HC := Lib.hid (rnum_any g a c l 4 s0 V0 HZ0.out (by decide) (by decide))
  rw [e1] at HC
  simp only at HC
  go_wp2_with fail
  refine HC.out.mono ?_
  clear HC
  rintro e V1 ⟨rfl, hz, hf⟩
  have HZ1 := Lib.hid hz
  have HF1 := Lib.hid (HF0.out.trans hf (fun i h _ => h))
  have HX1 := Lib.hid (Blk.frm HX0.out hf (fun hh => absurd (show w.heap.size = g from hh) (Nat.ne_of_gt hg)))
  clear hz hf HZ0 HF0 HX0
  have y0 : V1.cell? ⟨w.heap.size, 0, none⟩ = some (.int .i64 0) := HX1.out.cell 0
  have y1 : V1.cell? ⟨w.heap.size, 1, none⟩ = some (.int .i64 0) := HX1.out.cell 1
  have fz : ∀ o, V1.frozen? ⟨w.heap.size, o, none⟩ = false := fun o => fz_of (o := o) HX1.out
  clear e0 e1
  go_wp2_with fail
  go_ret
  have hf : Frm (fun i => i = g) w ((V1.setCell ⟨w.heap.size, 0, none⟩ (.int .i64 v0)).setCell ⟨w.heap.size, 1, none⟩ (.int .i64 v1)) := (Frm.setCell (Frm.setCell HF1.out ⟨w.heap.size, 0, none⟩ (.int .i64 v0) (.inr (Nat.le_refl _))) ⟨w.heap.size, 1, none⟩ (.int .i64 v1) (.inr (Nat.le_refl _)))
  exact ⟨_, rfl, rfl, HW.out.next hf (Blk.far (Blk.far HZ1.out.2.2.1 ⟨w.heap.size, 0, none⟩ _ (Nat.ne_of_lt hg)) ⟨w.heap.size, 1, none⟩ _ (Nat.ne_of_lt hg)) HZ1.out.2.2.2.1, hf⟩
set_option maxRecDepth 100000 in
set_option maxHeartbeats 4000000 in
theorem rmsg_grant (g : Nat) (a : Option Addr) (c : Nat) (l : List Nat) (st : Nat × Bool) (w : World) (h : RAt w g a c l st) :
    Calls Try.prog 55 #[.pointer (some ⟨g, 0, none⟩), .int .i64 2] w (MR g a c l (grantS l st) w) := by
  have hg := h.2.2.1.lt
  have HW := Lib.hid h
  have HZ := Lib.hid (h.alloc (.cells #[.int .i64 0, .int .i64 0, .int .i64 0] 25))
  have HF := Lib.hid ((Frm.refl (fun i => i = g) w).alloc (.cells #[.int .i64 0, .int .i64 0, .int .i64 0] 25))
  have HX := Lib.hid (show Blk (w.alloc (.cells #[.int .i64 0, .int .i64 0, .int .i64 0] 25)) w.heap.size 25 [.int .i64 0, .int .i64 0, .int .i64 0] from heap_alloc_new w _)
  obtain ⟨W, hW⟩ : ∃ W, w.alloc (.cells #[.int .i64 0, .int .i64 0, .int .i64 0] 25) = W := ⟨_, rfl⟩
  rw [hW] at HZ HF HX
  have HQ := Lib.hid hW
  clear h hW
  obtain ⟨⟨v0, s0⟩, e0⟩ : ∃ q, numS l 4 st = q := ⟨_, rfl⟩
  obtain ⟨⟨v1, s1⟩, e1⟩ : ∃ q, numS l 4 s0 = q := ⟨_, rfl⟩
  obtain ⟨⟨v2, s2⟩, e2⟩ : ∃ q, numS l 4 s1 = q := ⟨_, rfl⟩
  have HR := Lib.hid (show grantS l st = (.grant v0 v1 v2, s2) from by unfold grantS; simp only [e0, e1, e2])
  rw [HR.out]
  clear HR
  go_enter Try.func55, Try.ntmps55
  have HC := Lib.hid (rnum_any g a c l 4 st W HZ.out (by decide) (by decide))
  rw [e0] at HC
  simp only at HC
  go_wp2_with fail
  rw [HQ.out]
  refine HC.out.mono ?_
  clear HC
  rintro e V0 ⟨rfl, hz, hf⟩
  clear HQ
  have HZ0 := Lib.hid hz
  have HF0 := Lib.hid (HF.out.trans hf (fun i h _ => h))
  have HX0 := Lib.hid (Blk.frm HX.out hf (fun hh => absurd (show w.heap.size = g from hh) (Nat.ne_of_gt hg)))
  clear hz hf HZ HF HX
  have HC := Lib.hid (rnum_any g a c l 4 s0 V0 HZ0.out (by decide) (by decide))
  rw [e1] at HC
  simp only at HC
  go_wp2_with fail
  refine HC.out.mono ?_
  clear HC
  rintro e V1 ⟨rfl, hz, hf⟩
  have HZ1 := Lib.hid hz
  have HF1 := Lib.hid (HF0.out.trans hf (fun i h _ => h))
  have HX1 := Lib.hid (Blk.frm HX0.out hf (fun hh => absurd (show w.heap.size = g from hh) (Nat.ne_of_gt hg)))
  clear hz hf HZ0 HF0 HX0
  have HC := Lib.hid (rnum_any g a c l 4 s1 V1 HZ1.out (by decide) (by decide))
  rw [e2] at HC
  simp only at HC
  go_wp2_with fail
  refine HC.out.mono ?_
  clear HC
  rintro e V2 ⟨rfl, hz, hf⟩
  have HZ2 := Lib.hid hz
  have HF2 := Lib.hid (HF1.out.trans hf (fun i h _ => h))
  have HX2 := Lib.hid (Blk.frm HX1.out hf (fun hh => absurd (show w.heap.size = g from hh) (Nat.ne_of_gt hg)))
  clear hz hf HZ1 HF1 HX1
  have y0 : V2.cell? ⟨w.heap.size, 0, none⟩ = some (.int .i64 0) := HX2.out.cell 0
  have y1 : V2.cell? ⟨w.heap.size, 1, none⟩ = some (.int .i64 0) := HX2.out.cell 1
  have y2 : V2.cell? ⟨w.heap.size, 2, none⟩ = some (.int .i64 0) := HX2.out.cell 2
  have fz : ∀ o, V2.frozen? ⟨w.heap.size, o, none⟩ = false := fun o => fz_of (o := o) HX2.out
  clear e0 e1 e2
  go_wp2_with fail
  go_ret
  have hf : Frm (fun i => i = g) w (((V2.setCell ⟨w.heap.size, 0, none⟩ (.int .i64 v0)).setCell ⟨w.heap.size, 1, none⟩ (.int .i64 v1)).setCell ⟨w.heap.size, 2, none⟩ (.int .i64 v2)) := (Frm.setCell (Frm.setCell (Frm.setCell HF2.out ⟨w.heap.size, 0, none⟩ (.int .i64 v0) (.inr (Nat.le_refl _))) ⟨w.heap.size, 1, none⟩ (.int .i64 v1) (.inr (Nat.le_refl _))) ⟨w.heap.size, 2, none⟩ (.int .i64 v2) (.inr (Nat.le_refl _)))
  exact ⟨_, rfl, rfl, HW.out.next hf (Blk.far (Blk.far (Blk.far HZ2.out.2.2.1 ⟨w.heap.size, 0, none⟩ _ (Nat.ne_of_lt hg)) ⟨w.heap.size, 1, none⟩ _ (Nat.ne_of_lt hg)) ⟨w.heap.size, 2, none⟩ _ (Nat.ne_of_lt hg)) HZ2.out.2.2.2.1, hf⟩
set_option maxRecDepth 100000 in
set_option maxHeartbeats 4000000 in
theorem rmsg_stop (g : Nat) (a : Option Addr) (c : Nat) (l : List Nat) (st : Nat × Bool) (w : World) (h : RAt w g a c l st) :
    Calls Try.prog 55 #[.pointer (some ⟨g, 0, none⟩), .int .i64 5] w (MR g a c l (stopS l st) w) := by
  have hg := h.2.2.1.lt
  have HW := Lib.hid h
  have HZ := Lib.hid (h.alloc (.cells #[.int .i64 0, .int .i64 0] 34))
  have HF := Lib.hid ((Frm.refl (fun i => i = g) w).alloc (.cells #[.int .i64 0, .int .i64 0] 34))
  have HX := Lib.hid (show Blk (w.alloc (.cells #[.int .i64 0, .int .i64 0] 34)) w.heap.size 34 [.int .i64 0, .int .i64 0] from heap_alloc_new w _)
  obtain ⟨W, hW⟩ : ∃ W, w.alloc (.cells #[.int .i64 0, .int .i64 0] 34) = W := ⟨_, rfl⟩
  rw [hW] at HZ HF HX
  have HQ := Lib.hid hW
  clear h hW
  obtain ⟨⟨v0, s0⟩, e0⟩ : ∃ q, numS l 4 st = q := ⟨_, rfl⟩
  obtain ⟨⟨v1, s1⟩, e1⟩ : ∃ q, numS l 4 s0 = q := ⟨_, rfl⟩
  have HR := Lib.hid (show stopS l st = (.stop v0 v1, s1) from by unfold stopS; simp only [e0, e1])
  rw [HR.out]
  clear HR
  go_enter Try.func55, Try.ntmps55
  have HC := Lib.hid (rnum_any g a c l 4 st W HZ.out (by decide) (by decide))
  rw [e0] at HC
  simp only at HC
  go_wp2_with fail
  rw [HQ.out]
  refine HC.out.mono ?_
  clear HC
  rintro e V0 ⟨rfl, hz, hf⟩
  clear HQ
  have HZ0 := Lib.hid hz
  have HF0 := Lib.hid (HF.out.trans hf (fun i h _ => h))
  have HX0 := Lib.hid (Blk.frm HX.out hf (fun hh => absurd (show w.heap.size = g from hh) (Nat.ne_of_gt hg)))
  clear hz hf HZ HF HX
  have HC := Lib.hid (rnum_any g a c l 4 s0 V0 HZ0.out (by decide) (by decide))
  rw [e1] at HC
  simp only at HC
  go_wp2_with fail
  refine HC.out.mono ?_
  clear HC
  rintro e V1 ⟨rfl, hz, hf⟩
  have HZ1 := Lib.hid hz
  have HF1 := Lib.hid (HF0.out.trans hf (fun i h _ => h))
  have HX1 := Lib.hid (Blk.frm HX0.out hf (fun hh => absurd (show w.heap.size = g from hh) (Nat.ne_of_gt hg)))
  clear hz hf HZ0 HF0 HX0
  have y0 : V1.cell? ⟨w.heap.size, 0, none⟩ = some (.int .i64 0) := HX1.out.cell 0
  have y1 : V1.cell? ⟨w.heap.size, 1, none⟩ = some (.int .i64 0) := HX1.out.cell 1
  have fz : ∀ o, V1.frozen? ⟨w.heap.size, o, none⟩ = false := fun o => fz_of (o := o) HX1.out
  clear e0 e1
  go_wp2_with fail
  go_ret
  have hf : Frm (fun i => i = g) w ((V1.setCell ⟨w.heap.size, 0, none⟩ (.int .i64 v0)).setCell ⟨w.heap.size, 1, none⟩ (.int .i64 v1)) := (Frm.setCell (Frm.setCell HF1.out ⟨w.heap.size, 0, none⟩ (.int .i64 v0) (.inr (Nat.le_refl _))) ⟨w.heap.size, 1, none⟩ (.int .i64 v1) (.inr (Nat.le_refl _)))
  exact ⟨_, rfl, rfl, HW.out.next hf (Blk.far (Blk.far HZ1.out.2.2.1 ⟨w.heap.size, 0, none⟩ _ (Nat.ne_of_lt hg)) ⟨w.heap.size, 1, none⟩ _ (Nat.ne_of_lt hg)) HZ1.out.2.2.2.1, hf⟩
end Go.Proofs.Ytjhkdbcfkaaffaa
