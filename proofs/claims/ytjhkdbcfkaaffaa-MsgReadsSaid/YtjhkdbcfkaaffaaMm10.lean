/- msg.reader's message at an Ask. -/
import Derived.Test.YtjhkdbcfkaaffaaMm9
namespace Go.Proofs.Ytjhkdbcfkaaffaa
open Go.RowKit
set_option linter.unusedVariables false

def askS (l : List Nat) (st : Nat × Bool) : MV × (Nat × Bool) :=
  let q0 := numS l 4 st
  let q1 := numS l 4 q0.2
  let q2 := numS l 4 q1.2
  let q3 := numS l 4 q2.2
  let q4 := numS l 4 q3.2
  let q5 := textS l q4.2
  let q6 := numS l 1 q5.2
  let q7 := numS l 1 q6.2
  let q8 := flagS l q7.2
  let q9 := itemS l q8.2
  (.ask q0.1 q1.1 q2.1 q3.1 q4.1 q5.1 q6.1 q7.1 q8.1 q9.1.1 q9.1.2, q9.2)
set_option maxRecDepth 100000 in
set_option maxHeartbeats 8000000 in
theorem rmsg_ask (g : Nat) (a : Option Addr) (c : Nat) (l : List Nat) (st : Nat × Bool) (w : World) (h : RAt w g a c l st) :
    Calls Try.prog 55 #[.pointer (some ⟨g, 0, none⟩), .int .i64 3] w (MR g a c l (askS l st) w) := by
  have hg := h.2.2.1.lt
  have HW := Lib.hid h
  have HZ := Lib.hid (h.alloc (.cells #[.int .i64 0, .int .i64 0, .int .i64 0, .int .i64 0, .int .i64 0, .string ⟨#[]⟩, .int .i64 0, .int .i64 0, .bool false, .int .i64 0, .string ⟨#[]⟩] 29))
  have HF := Lib.hid ((Frm.refl (fun i => i = g) w).alloc (.cells #[.int .i64 0, .int .i64 0, .int .i64 0, .int .i64 0, .int .i64 0, .string ⟨#[]⟩, .int .i64 0, .int .i64 0, .bool false, .int .i64 0, .string ⟨#[]⟩] 29))
  have HX := Lib.hid (show Blk (w.alloc (.cells #[.int .i64 0, .int .i64 0, .int .i64 0, .int .i64 0, .int .i64 0, .string ⟨#[]⟩, .int .i64 0, .int .i64 0, .bool false, .int .i64 0, .string ⟨#[]⟩] 29)) w.heap.size 29 [.int .i64 0, .int .i64 0, .int .i64 0, .int .i64 0, .int .i64 0, .string ⟨#[]⟩, .int .i64 0, .int .i64 0, .bool false, .int .i64 0, .string ⟨#[]⟩] from heap_alloc_new w _)
  obtain ⟨W, hW⟩ : ∃ W, w.alloc (.cells #[.int .i64 0, .int .i64 0, .int .i64 0, .int .i64 0, .int .i64 0, .string ⟨#[]⟩, .int .i64 0, .int .i64 0, .bool false, .int .i64 0, .string ⟨#[]⟩] 29) = W := ⟨_, rfl⟩
  rw [hW] at HZ HF HX
  have HQ := Lib.hid hW
  clear h hW
  obtain ⟨⟨v0, s0⟩, e0⟩ : ∃ q, numS l 4 st = q := ⟨_, rfl⟩
  obtain ⟨⟨v1, s1⟩, e1⟩ : ∃ q, numS l 4 s0 = q := ⟨_, rfl⟩
  obtain ⟨⟨v2, s2⟩, e2⟩ : ∃ q, numS l 4 s1 = q := ⟨_, rfl⟩
  obtain ⟨⟨v3, s3⟩, e3⟩ : ∃ q, numS l 4 s2 = q := ⟨_, rfl⟩
  obtain ⟨⟨v4, s4⟩, e4⟩ : ∃ q, numS l 4 s3 = q := ⟨_, rfl⟩
  obtain ⟨⟨v5, s5⟩, e5⟩ : ∃ q, textS l s4 = q := ⟨_, rfl⟩
  obtain ⟨⟨v6, s6⟩, e6⟩ : ∃ q, numS l 1 s5 = q := ⟨_, rfl⟩
  obtain ⟨⟨v7, s7⟩, e7⟩ : ∃ q, numS l 1 s6 = q := ⟨_, rfl⟩
  obtain ⟨⟨v8, s8⟩, e8⟩ : ∃ q, flagS l s7 = q := ⟨_, rfl⟩
  obtain ⟨⟨⟨v9, z9⟩, s9⟩, e9⟩ : ∃ q, itemS l s8 = q := ⟨_, rfl⟩
  have HR := Lib.hid (show askS l st = (.ask v0 v1 v2 v3 v4 v5 v6 v7 v8 v9 z9, s9) from by unfold askS; simp only [e0, e1, e2, e3, e4, e5, e6, e7, e8, e9])
  rw [HR.out]
  clear HR
  have E0 := Lib.hid e0
  clear e0
  have E1 := Lib.hid e1
  clear e1
  have E2 := Lib.hid e2
  clear e2
  have E3 := Lib.hid e3
  clear e3
  have E4 := Lib.hid e4
  clear e4
  have E5 := Lib.hid e5
  clear e5
  have E6 := Lib.hid e6
  clear e6
  have E7 := Lib.hid e7
  clear e7
  have E8 := Lib.hid e8
  clear e8
  have E9 := Lib.hid e9
  clear e9
  go_enter Try.func55, Try.ntmps55
  have HC := Lib.hid (rnum_any g a c l 4 st W HZ.out (by decide) (by decide))
  rw [E0.out] at HC
  simp only at HC
  go_wp2_with fail
  rw [HQ.out]
  refine HC.out.mono ?_
  clear HC
  rintro e V0 ⟨rfl, hz, hf⟩
  clear HQ
  have HZ0 := Lib.hid hz
  have HF0 := Lib.hid (HF.out.trans hf (fun i h _ => h))
  have HX0 := Lib.hid (Blk.frm HX.out hf (fun hh => absurd (show w.heap.size = g from hh) (Nat.ne_of_gt hg)))
  clear hz hf HZ HF HX
  have HC := Lib.hid (rnum_any g a c l 4 s0 V0 HZ0.out (by decide) (by decide))
  rw [E1.out] at HC
  simp only at HC
  go_wp2_with fail
  refine HC.out.mono ?_
  clear HC
  rintro e V1 ⟨rfl, hz, hf⟩
  have HZ1 := Lib.hid hz
  have HF1 := Lib.hid (HF0.out.trans hf (fun i h _ => h))
  have HX1 := Lib.hid (Blk.frm HX0.out hf (fun hh => absurd (show w.heap.size = g from hh) (Nat.ne_of_gt hg)))
  clear hz hf HZ0 HF0 HX0
  have HC := Lib.hid (rnum_any g a c l 4 s1 V1 HZ1.out (by decide) (by decide))
  rw [E2.out] at HC
  simp only at HC
  go_wp2_with fail
  refine HC.out.mono ?_
  clear HC
  rintro e V2 ⟨rfl, hz, hf⟩
  have HZ2 := Lib.hid hz
  have HF2 := Lib.hid (HF1.out.trans hf (fun i h _ => h))
  have HX2 := Lib.hid (Blk.frm HX1.out hf (fun hh => absurd (show w.heap.size = g from hh) (Nat.ne_of_gt hg)))
  clear hz hf HZ1 HF1 HX1
  have HC := Lib.hid (rnum_any g a c l 4 s2 V2 HZ2.out (by decide) (by decide))
  rw [E3.out] at HC
  simp only at HC
  go_wp2_with fail
  refine HC.out.mono ?_
  clear HC
  rintro e V3 ⟨rfl, hz, hf⟩
  have HZ3 := Lib.hid hz
  have HF3 := Lib.hid (HF2.out.trans hf (fun i h _ => h))
  have HX3 := Lib.hid (Blk.frm HX2.out hf (fun hh => absurd (show w.heap.size = g from hh) (Nat.ne_of_gt hg)))
  clear hz hf HZ2 HF2 HX2
  have HC := Lib.hid (rnum_any g a c l 4 s3 V3 HZ3.out (by decide) (by decide))
  rw [E4.out] at HC
  simp only at HC
  go_wp2_with fail
  refine HC.out.mono ?_
  clear HC
  rintro e V4 ⟨rfl, hz, hf⟩
  have HZ4 := Lib.hid hz
  have HF4 := Lib.hid (HF3.out.trans hf (fun i h _ => h))
  have HX4 := Lib.hid (Blk.frm HX3.out hf (fun hh => absurd (show w.heap.size = g from hh) (Nat.ne_of_gt hg)))
  clear hz hf HZ3 HF3 HX3
  have y0 : V4.cell? ⟨w.heap.size, 0, none⟩ = some (.int .i64 0) := HX4.out.cell 0
  have y1 : V4.cell? ⟨w.heap.size, 1, none⟩ = some (.int .i64 0) := HX4.out.cell 1
  have y2 : V4.cell? ⟨w.heap.size, 2, none⟩ = some (.int .i64 0) := HX4.out.cell 2
  have y3 : V4.cell? ⟨w.heap.size, 3, none⟩ = some (.int .i64 0) := HX4.out.cell 3
  have y4 : V4.cell? ⟨w.heap.size, 4, none⟩ = some (.int .i64 0) := HX4.out.cell 4
  have y5 : V4.cell? ⟨w.heap.size, 5, none⟩ = some (.string ⟨#[]⟩) := HX4.out.cell 5
  have y6 : V4.cell? ⟨w.heap.size, 6, none⟩ = some (.int .i64 0) := HX4.out.cell 6
  have y7 : V4.cell? ⟨w.heap.size, 7, none⟩ = some (.int .i64 0) := HX4.out.cell 7
  have y8 : V4.cell? ⟨w.heap.size, 8, none⟩ = some (.bool false) := HX4.out.cell 8
  have y9 : V4.cell? ⟨w.heap.size, 9, none⟩ = some (.int .i64 0) := HX4.out.cell 9
  have y10 : V4.cell? ⟨w.heap.size, 10, none⟩ = some (.string ⟨#[]⟩) := HX4.out.cell 10
  have fz : ∀ o, V4.frozen? ⟨w.heap.size, o, none⟩ = false := fun o => fz_of (o := o) HX4.out
  go_wp2_with fail
  obtain ⟨U1, hU⟩ : ∃ U, (((((V4.setCell ⟨w.heap.size, 0, none⟩ (.int .i64 v0)).setCell ⟨w.heap.size, 1, none⟩ (.int .i64 v1)).setCell ⟨w.heap.size, 2, none⟩ (.int .i64 v2)).setCell ⟨w.heap.size, 3, none⟩ (.int .i64 v3)).setCell ⟨w.heap.size, 4, none⟩ (.int .i64 v4)) = U := ⟨_, rfl⟩
  rw [hU]
  have hf : Frm (fun i => i = g) w U1 := hU ▸ (Frm.setCell (Frm.setCell (Frm.setCell (Frm.setCell (Frm.setCell HF4.out ⟨w.heap.size, 0, none⟩ (.int .i64 v0) (.inr (Nat.le_refl _))) ⟨w.heap.size, 1, none⟩ (.int .i64 v1) (.inr (Nat.le_refl _))) ⟨w.heap.size, 2, none⟩ (.int .i64 v2) (.inr (Nat.le_refl _))) ⟨w.heap.size, 3, none⟩ (.int .i64 v3) (.inr (Nat.le_refl _))) ⟨w.heap.size, 4, none⟩ (.int .i64 v4) (.inr (Nat.le_refl _)))
  have HZa := Lib.hid (HW.out.next hf (hU ▸ (Blk.far (Blk.far (Blk.far (Blk.far (Blk.far HZ4.out.2.2.1 ⟨w.heap.size, 0, none⟩ _ (Nat.ne_of_lt hg)) ⟨w.heap.size, 1, none⟩ _ (Nat.ne_of_lt hg)) ⟨w.heap.size, 2, none⟩ _ (Nat.ne_of_lt hg)) ⟨w.heap.size, 3, none⟩ _ (Nat.ne_of_lt hg)) ⟨w.heap.size, 4, none⟩ _ (Nat.ne_of_lt hg))) HZ4.out.2.2.2.1)
  have HXa := Lib.hid (show Blk U1 (w.heap.size) 29 [.int .i64 v0, .int .i64 v1, .int .i64 v2, .int .i64 v3, .int .i64 v4, .string ⟨#[]⟩, .int .i64 0, .int .i64 0, .bool false, .int .i64 0, .string ⟨#[]⟩] from hU ▸ (Blk.set (Blk.set (Blk.set (Blk.set (Blk.set HX4.out 0 (.int .i64 v0)) 1 (.int .i64 v1)) 2 (.int .i64 v2)) 3 (.int .i64 v3)) 4 (.int .i64 v4)))
  have HFa := Lib.hid hf
  clear hU hf HZ4 HX4 HF4 fz y0 y1 y2 y3 y4 y5 y6 y7 y8 y9 y10
  have HC := Lib.hid (rtext_any g a c l s4 U1 HZa.out)
  rw [E5.out] at HC
  simp only at HC
  refine HC.out.mono ?_
  clear HC
  rintro e V5 ⟨rfl, hz, hf⟩
  have HZ5 := Lib.hid hz
  have HF5 := Lib.hid (HFa.out.trans hf (fun i h _ => h))
  have HX5 := Lib.hid (Blk.frm HXa.out hf (fun hh => absurd (show w.heap.size = g from hh) (Nat.ne_of_gt hg)))
  clear hz hf HZa HFa HXa
  have y0 : V5.cell? ⟨w.heap.size, 0, none⟩ = some (.int .i64 v0) := HX5.out.cell 0
  have y1 : V5.cell? ⟨w.heap.size, 1, none⟩ = some (.int .i64 v1) := HX5.out.cell 1
  have y2 : V5.cell? ⟨w.heap.size, 2, none⟩ = some (.int .i64 v2) := HX5.out.cell 2
  have y3 : V5.cell? ⟨w.heap.size, 3, none⟩ = some (.int .i64 v3) := HX5.out.cell 3
  have y4 : V5.cell? ⟨w.heap.size, 4, none⟩ = some (.int .i64 v4) := HX5.out.cell 4
  have y5 : V5.cell? ⟨w.heap.size, 5, none⟩ = some (.string ⟨#[]⟩) := HX5.out.cell 5
  have y6 : V5.cell? ⟨w.heap.size, 6, none⟩ = some (.int .i64 0) := HX5.out.cell 6
  have y7 : V5.cell? ⟨w.heap.size, 7, none⟩ = some (.int .i64 0) := HX5.out.cell 7
  have y8 : V5.cell? ⟨w.heap.size, 8, none⟩ = some (.bool false) := HX5.out.cell 8
  have y9 : V5.cell? ⟨w.heap.size, 9, none⟩ = some (.int .i64 0) := HX5.out.cell 9
  have y10 : V5.cell? ⟨w.heap.size, 10, none⟩ = some (.string ⟨#[]⟩) := HX5.out.cell 10
  have fz : ∀ o, V5.frozen? ⟨w.heap.size, o, none⟩ = false := fun o => fz_of (o := o) HX5.out
  go_wp2_with fail
  obtain ⟨U2, hU⟩ : ∃ U, (V5.setCell ⟨w.heap.size, 5, none⟩ (.string v5)) = U := ⟨_, rfl⟩
  rw [hU]
  have hf : Frm (fun i => i = g) w U2 := hU ▸ (Frm.setCell HF5.out ⟨w.heap.size, 5, none⟩ (.string v5) (.inr (Nat.le_refl _)))
  have HZb := Lib.hid (HW.out.next hf (hU ▸ (Blk.far HZ5.out.2.2.1 ⟨w.heap.size, 5, none⟩ _ (Nat.ne_of_lt hg))) HZ5.out.2.2.2.1)
  have HXb := Lib.hid (show Blk U2 (w.heap.size) 29 [.int .i64 v0, .int .i64 v1, .int .i64 v2, .int .i64 v3, .int .i64 v4, .string v5, .int .i64 0, .int .i64 0, .bool false, .int .i64 0, .string ⟨#[]⟩] from hU ▸ (Blk.set HX5.out 5 (.string v5)))
  have HFb := Lib.hid hf
  clear hU hf HZ5 HX5 HF5 fz y0 y1 y2 y3 y4 y5 y6 y7 y8 y9 y10
  have HC := Lib.hid (rnum_any g a c l 1 s5 U2 HZb.out (by decide) (by decide))
  rw [E6.out] at HC
  simp only at HC
  refine HC.out.mono ?_
  clear HC
  rintro e V6 ⟨rfl, hz, hf⟩
  have HZ6 := Lib.hid hz
  have HF6 := Lib.hid (HFb.out.trans hf (fun i h _ => h))
  have HX6 := Lib.hid (Blk.frm HXb.out hf (fun hh => absurd (show w.heap.size = g from hh) (Nat.ne_of_gt hg)))
  clear hz hf HZb HFb HXb
  have HC := Lib.hid (rnum_any g a c l 1 s6 V6 HZ6.out (by decide) (by decide))
  rw [E7.out] at HC
  simp only at HC
  go_wp2_with fail
  refine HC.out.mono ?_
  clear HC
  rintro e V7 ⟨rfl, hz, hf⟩
  have HZ7 := Lib.hid hz
  have HF7 := Lib.hid (HF6.out.trans hf (fun i h _ => h))
  have HX7 := Lib.hid (Blk.frm HX6.out hf (fun hh => absurd (show w.heap.size = g from hh) (Nat.ne_of_gt hg)))
  clear hz hf HZ6 HF6 HX6
  have HC := Lib.hid (rflag_any g a c l s7 V7 HZ7.out)
  rw [E8.out] at HC
  simp only at HC
  go_wp2_with fail
  refine HC.out.mono ?_
  clear HC
  rintro e V8 ⟨rfl, hz, hf⟩
  have HZ8 := Lib.hid hz
  have HF8 := Lib.hid (HF7.out.trans hf (fun i h _ => h))
  have HX8 := Lib.hid (Blk.frm HX7.out hf (fun hh => absurd (show w.heap.size = g from hh) (Nat.ne_of_gt hg)))
  clear hz hf HZ7 HF7 HX7
  have y0 : V8.cell? ⟨w.heap.size, 0, none⟩ = some (.int .i64 v0) := HX8.out.cell 0
  have y1 : V8.cell? ⟨w.heap.size, 1, none⟩ = some (.int .i64 v1) := HX8.out.cell 1
  have y2 : V8.cell? ⟨w.heap.size, 2, none⟩ = some (.int .i64 v2) := HX8.out.cell 2
  have y3 : V8.cell? ⟨w.heap.size, 3, none⟩ = some (.int .i64 v3) := HX8.out.cell 3
  have y4 : V8.cell? ⟨w.heap.size, 4, none⟩ = some (.int .i64 v4) := HX8.out.cell 4
  have y5 : V8.cell? ⟨w.heap.size, 5, none⟩ = some (.string v5) := HX8.out.cell 5
  have y6 : V8.cell? ⟨w.heap.size, 6, none⟩ = some (.int .i64 0) := HX8.out.cell 6
  have y7 : V8.cell? ⟨w.heap.size, 7, none⟩ = some (.int .i64 0) := HX8.out.cell 7
  have y8 : V8.cell? ⟨w.heap.size, 8, none⟩ = some (.bool false) := HX8.out.cell 8
  have y9 : V8.cell? ⟨w.heap.size, 9, none⟩ = some (.int .i64 0) := HX8.out.cell 9
  have y10 : V8.cell? ⟨w.heap.size, 10, none⟩ = some (.string ⟨#[]⟩) := HX8.out.cell 10
  have fz : ∀ o, V8.frozen? ⟨w.heap.size, o, none⟩ = false := fun o => fz_of (o := o) HX8.out
  go_wp2_with fail
  obtain ⟨U3, hU⟩ : ∃ U, (((V8.setCell ⟨w.heap.size, 6, none⟩ (.int .i64 v6)).setCell ⟨w.heap.size, 7, none⟩ (.int .i64 v7)).setCell ⟨w.heap.size, 8, none⟩ (.bool v8)) = U := ⟨_, rfl⟩
  rw [hU]
  have hf : Frm (fun i => i = g) w U3 := hU ▸ (Frm.setCell (Frm.setCell (Frm.setCell HF8.out ⟨w.heap.size, 6, none⟩ (.int .i64 v6) (.inr (Nat.le_refl _))) ⟨w.heap.size, 7, none⟩ (.int .i64 v7) (.inr (Nat.le_refl _))) ⟨w.heap.size, 8, none⟩ (.bool v8) (.inr (Nat.le_refl _)))
  have HZc := Lib.hid (HW.out.next hf (hU ▸ (Blk.far (Blk.far (Blk.far HZ8.out.2.2.1 ⟨w.heap.size, 6, none⟩ _ (Nat.ne_of_lt hg)) ⟨w.heap.size, 7, none⟩ _ (Nat.ne_of_lt hg)) ⟨w.heap.size, 8, none⟩ _ (Nat.ne_of_lt hg))) HZ8.out.2.2.2.1)
  have HXc := Lib.hid (show Blk U3 (w.heap.size) 29 [.int .i64 v0, .int .i64 v1, .int .i64 v2, .int .i64 v3, .int .i64 v4, .string v5, .int .i64 v6, .int .i64 v7, .bool v8, .int .i64 0, .string ⟨#[]⟩] from hU ▸ (Blk.set (Blk.set (Blk.set HX8.out 6 (.int .i64 v6)) 7 (.int .i64 v7)) 8 (.bool v8)))
  have HFc := Lib.hid hf
  clear hU hf HZ8 HX8 HF8 fz y0 y1 y2 y3 y4 y5 y6 y7 y8 y9 y10
  have HC := Lib.hid (ritem_any g a c l s8 U3 HZc.out)
  rw [E9.out] at HC
  simp only at HC
  refine HC.out.mono ?_
  clear HC
  rintro e V9 ⟨rfl, hz, hf⟩
  have HZ9 := Lib.hid hz
  have HF9 := Lib.hid (HFc.out.trans hf (fun i h _ => h))
  have HX9 := Lib.hid (Blk.frm HXc.out hf (fun hh => absurd (show w.heap.size = g from hh) (Nat.ne_of_gt hg)))
  clear hz hf HZc HFc HXc
  have y0 : V9.cell? ⟨w.heap.size, 0, none⟩ = some (.int .i64 v0) := HX9.out.cell 0
  have y1 : V9.cell? ⟨w.heap.size, 1, none⟩ = some (.int .i64 v1) := HX9.out.cell 1
  have y2 : V9.cell? ⟨w.heap.size, 2, none⟩ = some (.int .i64 v2) := HX9.out.cell 2
  have y3 : V9.cell? ⟨w.heap.size, 3, none⟩ = some (.int .i64 v3) := HX9.out.cell 3
  have y4 : V9.cell? ⟨w.heap.size, 4, none⟩ = some (.int .i64 v4) := HX9.out.cell 4
  have y5 : V9.cell? ⟨w.heap.size, 5, none⟩ = some (.string v5) := HX9.out.cell 5
  have y6 : V9.cell? ⟨w.heap.size, 6, none⟩ = some (.int .i64 v6) := HX9.out.cell 6
  have y7 : V9.cell? ⟨w.heap.size, 7, none⟩ = some (.int .i64 v7) := HX9.out.cell 7
  have y8 : V9.cell? ⟨w.heap.size, 8, none⟩ = some (.bool v8) := HX9.out.cell 8
  have y9 : V9.cell? ⟨w.heap.size, 9, none⟩ = some (.int .i64 0) := HX9.out.cell 9
  have y10 : V9.cell? ⟨w.heap.size, 10, none⟩ = some (.string ⟨#[]⟩) := HX9.out.cell 10
  have fz : ∀ o, V9.frozen? ⟨w.heap.size, o, none⟩ = false := fun o => fz_of (o := o) HX9.out
  go_wp2_with fail
  go_ret
  obtain ⟨U4, hU⟩ : ∃ U, ((V9.setCell ⟨w.heap.size, 9, none⟩ (.int .i64 v9)).setCell ⟨w.heap.size, 10, none⟩ (.string z9)) = U := ⟨_, rfl⟩
  rw [hU]
  have hf : Frm (fun i => i = g) w U4 := hU ▸ (Frm.setCell (Frm.setCell HF9.out ⟨w.heap.size, 9, none⟩ (.int .i64 v9) (.inr (Nat.le_refl _))) ⟨w.heap.size, 10, none⟩ (.string z9) (.inr (Nat.le_refl _)))
  have HZd := Lib.hid (HW.out.next hf (hU ▸ (Blk.far (Blk.far HZ9.out.2.2.1 ⟨w.heap.size, 9, none⟩ _ (Nat.ne_of_lt hg)) ⟨w.heap.size, 10, none⟩ _ (Nat.ne_of_lt hg))) HZ9.out.2.2.2.1)
  have HXd := Lib.hid (show Blk U4 (w.heap.size) 29 [.int .i64 v0, .int .i64 v1, .int .i64 v2, .int .i64 v3, .int .i64 v4, .string v5, .int .i64 v6, .int .i64 v7, .bool v8, .int .i64 v9, .string z9] from hU ▸ (Blk.set (Blk.set HX9.out 9 (.int .i64 v9)) 10 (.string z9)))
  have HFd := Lib.hid hf
  clear hU hf HZ9 HX9 HF9 fz y0 y1 y2 y3 y4 y5 y6 y7 y8 y9 y10
  exact ⟨_, rfl, rfl, HZd.out, HFd.out⟩
end Go.Proofs.Ytjhkdbcfkaaffaa
