/- msg.reader's message at a Reply; message at any kind. -/
import Derived.Test.YtjhkdbcfkaaffaaMm10
import Derived.Deep.RegionLaw
namespace Go.Proofs.Ytjhkdbcfkaaffaa
open Go.RowKit
set_option linter.unusedVariables false

/-- so many items, while nothing is bad -/
def itemsS (l : List Nat) : Nat → Nat × Bool → List KeyL × (Nat × Bool)
  | 0, st => ([], st)
  | k + 1, st => if st.2 = true then ([], st) else ((itemS l st).1 :: (itemsS l k (itemS l st).2).1, (itemsS l k (itemS l st).2).2)
set_option maxRecDepth 100000 in
theorem itemsS_bad (l : List Nat) (k : Nat) (st : Nat × Bool) (h : st.2 = true) : itemsS l k st = ([], st) := by
  cases k with
  | zero => rfl
  | succ k => unfold itemsS; rw [if_pos h]
set_option maxRecDepth 100000 in
theorem itemsS_next (l : List Nat) (k : Nat) (st : Nat × Bool) (h : st.2 = false) : itemsS l (k + 1) st = ((itemS l st).1 :: (itemsS l k (itemS l st).2).1, (itemsS l k (itemS l st).2).2) := by
  conv => lhs; unfold itemsS
  rw [if_neg (by rw [h]; decide)]
def replyS (l : List Nat) (st : Nat × Bool) : MV × (Nat × Bool) :=
  let q0 := numS l 4 st
  let q1 := numS l 4 q0.2
  let q2 := numS l 4 q1.2
  let q3 := numS l 4 q2.2
  let q4 := numS l 4 q3.2
  let q5 := numS l 4 q4.2
  let q6 := numS l 1 q5.2
  let q7 := itemsS l q6.1.toNat q6.2
  let q8 := flagS l q7.2
  (.reply q0.1 q1.1 q2.1 q3.1 q4.1 q5.1 q7.1 q8.1, q8.2)
/-- what the loop over the items keeps -/
def RpI (g : Nat) (a : Option Addr) (c : Nat) (l : List Nat) (v0 v1 v2 v3 v4 v5 : Int) (w : World) (N : Nat) (tot : List KeyL × (Nat × Bool)) (i : Nat) (acc : List KeyL) (s' : Nat × Bool) (a' : Option Addr) (c' : Nat) (wr : World) : Prop :=
  RowKit.Hid (RAt wr g a c l s') ∧ RowKit.Hid (Blk wr w.heap.size 32 [.int .i64 v0, .int .i64 v1, .int .i64 v2, .int .i64 v3, .int .i64 v4, .int .i64 v5, .slice a' acc.length c', .bool false]) ∧
  RowKit.Hid (wr.ownsRow w.heap.size 27 2 (.slice a' acc.length c') acc.length (acc.flatMap KeyL.cells)) ∧ RowKit.Hid (Frm (fun i => i = g) w wr) ∧ RowKit.Hid ((acc ++ (itemsS l (N - i) s').1, (itemsS l (N - i) s').2) = tot) ∧ acc.length ≤ i
set_option maxRecDepth 100000 in
set_option maxHeartbeats 8000000 in
theorem rmsg_reply (g : Nat) (a : Option Addr) (c : Nat) (l : List Nat) (st : Nat × Bool) (w : World) (h : RAt w g a c l st) :
    Calls Try.prog 55 #[.pointer (some ⟨g, 0, none⟩), .int .i64 4] w (MR g a c l (replyS l st) w) := by
  obtain ⟨i0, hi, hz0, hz1, hz2⟩ := info_parts infoI2
  have HI0 := Lib.hid hi
  have HZ0 := Lib.hid hz0
  have HZ1 := Lib.hid hz1
  have HZ2 : RowKit.Hid (i0.bytes = 24) := hz2
  clear hi hz0 hz1 hz2
  have hg := h.2.2.1.lt
  have HW := Lib.hid h
  have HZ := Lib.hid (h.alloc (.cells #[.int .i64 0, .int .i64 0, .int .i64 0, .int .i64 0, .int .i64 0, .int .i64 0, .slice none 0 0, .bool false] 32))
  have HF := Lib.hid ((Frm.refl (fun i => i = g) w).alloc (.cells #[.int .i64 0, .int .i64 0, .int .i64 0, .int .i64 0, .int .i64 0, .int .i64 0, .slice none 0 0, .bool false] 32))
  have HX := Lib.hid (show Blk (w.alloc (.cells #[.int .i64 0, .int .i64 0, .int .i64 0, .int .i64 0, .int .i64 0, .int .i64 0, .slice none 0 0, .bool false] 32)) w.heap.size 32 [.int .i64 0, .int .i64 0, .int .i64 0, .int .i64 0, .int .i64 0, .int .i64 0, .slice none 0 0, .bool false] from heap_alloc_new w _)
  have hbl := h.2.2.2.2.2
  obtain ⟨W, hW⟩ : ∃ W, w.alloc (.cells #[.int .i64 0, .int .i64 0, .int .i64 0, .int .i64 0, .int .i64 0, .int .i64 0, .slice none 0 0, .bool false] 32) = W := ⟨_, rfl⟩
  rw [hW] at HZ HF HX
  have HQ := Lib.hid hW
  clear h hW
  obtain ⟨⟨v0, s0⟩, e0⟩ : ∃ q, numS l 4 st = q := ⟨_, rfl⟩
  obtain ⟨⟨v1, s1⟩, e1⟩ : ∃ q, numS l 4 s0 = q := ⟨_, rfl⟩
  obtain ⟨⟨v2, s2⟩, e2⟩ : ∃ q, numS l 4 s1 = q := ⟨_, rfl⟩
  obtain ⟨⟨v3, s3⟩, e3⟩ : ∃ q, numS l 4 s2 = q := ⟨_, rfl⟩
  obtain ⟨⟨v4, s4⟩, e4⟩ : ∃ q, numS l 4 s3 = q := ⟨_, rfl⟩
  obtain ⟨⟨v5, s5⟩, e5⟩ : ∃ q, numS l 4 s4 = q := ⟨_, rfl⟩
  obtain ⟨⟨v6, s6⟩, e6⟩ : ∃ q, numS l 1 s5 = q := ⟨_, rfl⟩
  have hv6 : 0 ≤ v6 ∧ v6 < 4294967296 := by have q := numS_in (l := l) (k := 1) (st := s5) hbl (by decide); rw [e6] at q; exact q
  clear hbl
  obtain ⟨N, hN⟩ : ∃ N : Nat, v6 = (N : Int) := ⟨v6.toNat, by omega⟩
  subst hN
  obtain ⟨tot, e7⟩ : ∃ q, itemsS l N s6 = q := ⟨_, rfl⟩
  obtain ⟨⟨v8, s8⟩, e8⟩ : ∃ q, flagS l tot.2 = q := ⟨_, rfl⟩
  have HR := Lib.hid (show replyS l st = (.reply v0 v1 v2 v3 v4 v5 tot.1 v8, s8) from by unfold replyS; simp only [e0, e1, e2, e3, e4, e5, e6, Int.toNat_natCast, e7, e8])
  rw [HR.out]
  clear HR
  have E0 := Lib.hid e0
  clear e0
  have E1 := Lib.hid e1
  clear e1
  have E2 := Lib.hid e2
  clear e2
  have E3 := Lib.hid e3
  clear e3
  have E4 := Lib.hid e4
  clear e4
  have E5 := Lib.hid e5
  clear e5
  have E6 := Lib.hid e6
  clear e6
  have E7 := Lib.hid e7
  clear e7
  have E8 := Lib.hid e8
  clear e8
  go_enter Try.func55, Try.ntmps55
  have HC := Lib.hid (rnum_any g a c l 4 st W HZ.out (by decide) (by decide))
  rw [E0.out] at HC
  simp only at HC
  go_wp2_with fail
  rw [HQ.out]
  refine HC.out.mono ?_
  clear HC
  rintro e V0 ⟨rfl, hz, hf⟩
  clear HQ
  have HZ0 := Lib.hid hz
  have HF0 := Lib.hid (HF.out.trans hf (fun i h _ => h))
  have HX0 := Lib.hid (Blk.frm HX.out hf (fun hh => absurd (show w.heap.size = g from hh) (Nat.ne_of_gt hg)))
  clear hz hf HZ HF HX
  have HC := Lib.hid (rnum_any g a c l 4 s0 V0 HZ0.out (by decide) (by decide))
  rw [E1.out] at HC
  simp only at HC
  go_wp2_with fail
  refine HC.out.mono ?_
  clear HC
  rintro e V1 ⟨rfl, hz, hf⟩
  have HZ1 := Lib.hid hz
  have HF1 := Lib.hid (HF0.out.trans hf (fun i h _ => h))
  have HX1 := Lib.hid (Blk.frm HX0.out hf (fun hh => absurd (show w.heap.size = g from hh) (Nat.ne_of_gt hg)))
  clear hz hf HZ0 HF0 HX0
  have HC := Lib.hid (rnum_any g a c l 4 s1 V1 HZ1.out (by decide) (by decide))
  rw [E2.out] at HC
  simp only at HC
  go_wp2_with fail
  refine HC.out.mono ?_
  clear HC
  rintro e V2 ⟨rfl, hz, hf⟩
  have HZ2 := Lib.hid hz
  have HF2 := Lib.hid (HF1.out.trans hf (fun i h _ => h))
  have HX2 := Lib.hid (Blk.frm HX1.out hf (fun hh => absurd (show w.heap.size = g from hh) (Nat.ne_of_gt hg)))
  clear hz hf HZ1 HF1 HX1
  have HC := Lib.hid (rnum_any g a c l 4 s2 V2 HZ2.out (by decide) (by decide))
  rw [E3.out] at HC
  simp only at HC
  go_wp2_with fail
  refine HC.out.mono ?_
  clear HC
  rintro e V3 ⟨rfl, hz, hf⟩
  have HZ3 := Lib.hid hz
  have HF3 := Lib.hid (HF2.out.trans hf (fun i h _ => h))
  have HX3 := Lib.hid (Blk.frm HX2.out hf (fun hh => absurd (show w.heap.size = g from hh) (Nat.ne_of_gt hg)))
  clear hz hf HZ2 HF2 HX2
  have HC := Lib.hid (rnum_any g a c l 4 s3 V3 HZ3.out (by decide) (by decide))
  rw [E4.out] at HC
  simp only at HC
  go_wp2_with fail
  refine HC.out.mono ?_
  clear HC
  rintro e V4 ⟨rfl, hz, hf⟩
  have HZ4 := Lib.hid hz
  have HF4 := Lib.hid (HF3.out.trans hf (fun i h _ => h))
  have HX4 := Lib.hid (Blk.frm HX3.out hf (fun hh => absurd (show w.heap.size = g from hh) (Nat.ne_of_gt hg)))
  clear hz hf HZ3 HF3 HX3
  have HC := Lib.hid (rnum_any g a c l 4 s4 V4 HZ4.out (by decide) (by decide))
  rw [E5.out] at HC
  simp only at HC
  go_wp2_with fail
  refine HC.out.mono ?_
  clear HC
  rintro e V5 ⟨rfl, hz, hf⟩
  have HZ5 := Lib.hid hz
  have HF5 := Lib.hid (HF4.out.trans hf (fun i h _ => h))
  have HX5 := Lib.hid (Blk.frm HX4.out hf (fun hh => absurd (show w.heap.size = g from hh) (Nat.ne_of_gt hg)))
  clear hz hf HZ4 HF4 HX4
  have y0 : V5.cell? ⟨w.heap.size, 0, none⟩ = some (.int .i64 0) := HX5.out.cell 0
  have y1 : V5.cell? ⟨w.heap.size, 1, none⟩ = some (.int .i64 0) := HX5.out.cell 1
  have y2 : V5.cell? ⟨w.heap.size, 2, none⟩ = some (.int .i64 0) := HX5.out.cell 2
  have y3 : V5.cell? ⟨w.heap.size, 3, none⟩ = some (.int .i64 0) := HX5.out.cell 3
  have y4 : V5.cell? ⟨w.heap.size, 4, none⟩ = some (.int .i64 0) := HX5.out.cell 4
  have y5 : V5.cell? ⟨w.heap.size, 5, none⟩ = some (.int .i64 0) := HX5.out.cell 5
  have y6 : V5.cell? ⟨w.heap.size, 6, none⟩ = some (.slice none 0 0) := HX5.out.cell 6
  have y7 : V5.cell? ⟨w.heap.size, 7, none⟩ = some (.bool false) := HX5.out.cell 7
  have fz : ∀ o, V5.frozen? ⟨w.heap.size, o, none⟩ = false := fun o => fz_of (o := o) HX5.out
  go_wp2_with fail
  obtain ⟨U1, hU⟩ : ∃ U, ((((((V5.setCell ⟨w.heap.size, 0, none⟩ (.int .i64 v0)).setCell ⟨w.heap.size, 1, none⟩ (.int .i64 v1)).setCell ⟨w.heap.size, 2, none⟩ (.int .i64 v2)).setCell ⟨w.heap.size, 3, none⟩ (.int .i64 v3)).setCell ⟨w.heap.size, 4, none⟩ (.int .i64 v4)).setCell ⟨w.heap.size, 5, none⟩ (.int .i64 v5)) = U := ⟨_, rfl⟩
  rw [hU]
  have hf : Frm (fun i => i = g) w U1 := hU ▸ (Frm.setCell (Frm.setCell (Frm.setCell (Frm.setCell (Frm.setCell (Frm.setCell HF5.out ⟨w.heap.size, 0, none⟩ (.int .i64 v0) (.inr (Nat.le_refl _))) ⟨w.heap.size, 1, none⟩ (.int .i64 v1) (.inr (Nat.le_refl _))) ⟨w.heap.size, 2, none⟩ (.int .i64 v2) (.inr (Nat.le_refl _))) ⟨w.heap.size, 3, none⟩ (.int .i64 v3) (.inr (Nat.le_refl _))) ⟨w.heap.size, 4, none⟩ (.int .i64 v4) (.inr (Nat.le_refl _))) ⟨w.heap.size, 5, none⟩ (.int .i64 v5) (.inr (Nat.le_refl _)))
  have HZa := Lib.hid (HW.out.next hf (hU ▸ (Blk.far (Blk.far (Blk.far (Blk.far (Blk.far (Blk.far HZ5.out.2.2.1 ⟨w.heap.size, 0, none⟩ _ (Nat.ne_of_lt hg)) ⟨w.heap.size, 1, none⟩ _ (Nat.ne_of_lt hg)) ⟨w.heap.size, 2, none⟩ _ (Nat.ne_of_lt hg)) ⟨w.heap.size, 3, none⟩ _ (Nat.ne_of_lt hg)) ⟨w.heap.size, 4, none⟩ _ (Nat.ne_of_lt hg)) ⟨w.heap.size, 5, none⟩ _ (Nat.ne_of_lt hg))) HZ5.out.2.2.2.1)
  have HXa := Lib.hid (show Blk U1 (w.heap.size) 32 [.int .i64 v0, .int .i64 v1, .int .i64 v2, .int .i64 v3, .int .i64 v4, .int .i64 v5, .slice none 0 0, .bool false] from hU ▸ (Blk.set (Blk.set (Blk.set (Blk.set (Blk.set (Blk.set HX5.out 0 (.int .i64 v0)) 1 (.int .i64 v1)) 2 (.int .i64 v2)) 3 (.int .i64 v3)) 4 (.int .i64 v4)) 5 (.int .i64 v5)))
  have HFa := Lib.hid hf
  clear hU hf HZ5 HX5 HF5 fz y0 y1 y2 y3 y4 y5 y6 y7
  have HC := Lib.hid (rnum_any g a c l 1 s5 U1 HZa.out (by decide) (by decide))
  rw [E6.out] at HC
  simp only at HC
  refine HC.out.mono ?_
  clear HC
  rintro e V6 ⟨rfl, hz, hf⟩
  have HZ6 := Lib.hid hz
  have HF6 := Lib.hid (HFa.out.trans hf (fun i h _ => h))
  have HX6 := Lib.hid (Blk.frm HXa.out hf (fun hh => absurd (show w.heap.size = g from hh) (Nat.ne_of_gt hg)))
  clear hz hf HZa HFa HXa
  go_wp2_with fail
  go_loopw [94] (fun v wr => ∃ (i : Nat) (acc : List KeyL) (s' : Nat × Bool) (a' : Option Addr) (c' : Nat), i ≤ N ∧ v = .int .i64 i ∧ RpI g a c l v0 v1 v2 v3 v4 v5 w N tot i acc s' a' c' wr) (fun v _ => N - (intOf v).toNat)
  case atStart => exact ⟨0, [], s6, none, 0, by omega, rfl, HZ6, HX6, World.ownsRow_nil _ _ _ _, HF6, by unfold RowKit.Hid; rw [Nat.sub_zero, E7.out]; rfl, Nat.le_refl _⟩
  case round =>
    clear HZ6 HX6 HF6
    obtain ⟨i, acc, s', a', c', hi, rfl, HZ, HX, HO, HF, HTO, hai⟩ := hrel
    have t2 : wr.cell? ⟨g, 2, none⟩ = some (.bool s'.2) := HZ.out.2.2.1.cell 2
    have x6 : wr.cell? ⟨w.heap.size, 6, none⟩ = some (.slice a' acc.length c') := HX.out.cell 6
    by_cases hlt : i < N
    · have k2 : (i : Int) < (N : Int) := by omega
      cases hbad : s'.2
      · rw [hbad] at t2
        have HNX := Lib.hid (itemsS_next l (N - (i + 1)) s' hbad)
        obtain ⟨⟨⟨d9, z9⟩, s9⟩, e9⟩ : ∃ q, itemS l s' = q := ⟨_, rfl⟩
        have HTO2 := Lib.hid (show ((acc ++ [(d9, z9)]) ++ (itemsS l (N - (i + 1)) s9).1, (itemsS l (N - (i + 1)) s9).2) = tot from by
          rw [← HTO.out, show N - i = N - (i + 1) + 1 from by omega, HNX.out, e9]; simp)
        have HC := Lib.hid (ritem_any g a c l s' wr.drew (show RAt wr.drew g a c l s' from HZ.out))
        rw [e9] at HC
        simp only at HC
        clear e9 HNX
        have HOD := Lib.hid (show wr.drew.ownsRow w.heap.size 27 2 (.slice a' acc.length c') acc.length (acc.flatMap KeyL.cells) from HO.out)
        have HXD := Lib.hid (show Blk wr.drew w.heap.size 32 [.int .i64 v0, .int .i64 v1, .int .i64 v2, .int .i64 v3, .int .i64 v4, .int .i64 v5, .slice a' acc.length c', .bool false] from HX.out)
        have HFD := Lib.hid (HF.out.drew)
        have xd6 : wr.drew.cell? ⟨w.heap.size, 6, none⟩ = some (.slice a' acc.length c') := HX.out.cell 6
        have A1 : acc.length + 1 ≤ maxLen := by unfold maxLen; omega
        have A2 : (acc.length + 1) * 24 ≤ 140737488355328 := by omega
        go_wp2_with fail
        clear t2 x6 HZ HX HO HF HTO
        go_region_law (first | (refine step_app rfl (.tmp 101) (.tmp 104) 30 30 rfl w.heap.size 27 i0 (.agg #[.int .i64 0, .string ⟨#[]⟩]) 2 24 Try.underlying30 HI0.out HZ0.out HZ1.out HZ2.out rfl (by decide) a' acc.length c' (acc.flatMap KeyL.cells) (by kernel_rfl) (HOV.out.alloc _) (.slice (some ⟨V9.heap.size, 0, none⟩) 1 1) 1 [.int .i64 d9, .string z9] (by kernel_rfl) (Src.two Try.underlying30 V9 _ _ 27 rfl rfl) A1 A2 (by have := HFV.out.size; simp; omega) ?_; intro ao3 c3 w5 hown5 hg5; have hF5 := Frm.grown (S := fun i => (Value.slice a' acc.length c').ownBlock = some i) hg5 (fun _ h => h); have hX5 := (HXV.out.alloc (.cells #[.int .i64 d9, .string z9] 27)).frm hF5 (fun hh => ownsRow_ne HOV.out HXV.out (by decide) _ hh rfl); have xw6 : w5.cell? ⟨w.heap.size, 6, none⟩ = some (.slice a' acc.length c') := hX5.cell 6; have fw6 : w5.frozen? ⟨w.heap.size, 6, none⟩ = false := fz_of hX5; have HO5 := Lib.hid hown5; have HG5 := Lib.hid hF5; have HX5 := Lib.hid hX5; clear hown5 hg5 hF5 hX5) | (go_simp; refine HC.out.mono ?_; rintro e V9 ⟨rfl, hz, hf⟩; have HZ9 := Lib.hid hz; have HFV := Lib.hid (HFD.out.trans hf (fun i h _ => h)); have HXV := Lib.hid (Blk.frm HXD.out hf (fun hh => absurd (show w.heap.size = g from hh) (Nat.ne_of_gt hg))); have HOV := Lib.hid (ownsRow_frm HOD.out hf (fun k hk hh => absurd (show k = g from hh) (Nat.ne_of_gt (Nat.lt_of_lt_of_le hg (own_ge HOD.out k hk))))); have xv6 : V9.cell? ⟨w.heap.size, 6, none⟩ = some (.slice a' acc.length c') := HXV.out.cell 6; have xa6 : (V9.alloc (.cells #[.int .i64 d9, .string z9] 27)).cell? ⟨w.heap.size, 6, none⟩ = some (.slice a' acc.length c') := (HXV.out.alloc _).cell 6; clear hz hf))
        all_goals
          have hl : (acc ++ [(d9, z9)]).length = acc.length + 1 := by simp
          have hoz : ∀ k, (Value.slice a' acc.length c').ownBlock = some k → w.heap.size ≤ k := own_ge HOV.out
          have hf5 : Frm (fun i => i = g) w w5 := (HFV.out.alloc (.cells #[.int .i64 d9, .string z9] 27)).trans HG5.out (fun i h hi => by have := hoz i h; omega)
          have hfz : Frm (fun i => i = g) w (w5.setCell ⟨w.heap.size, 6, none⟩ (.slice ao3 (acc.length + 1) c3)) := hf5.setCell ⟨w.heap.size, 6, none⟩ _ (.inr (Nat.le_refl _))
          have HZz := Lib.hid (HW.out.next hfz (((HZ9.out.2.2.1.alloc (.cells #[.int .i64 d9, .string z9] 27)).frm HG5.out (fun hh => by have := hoz g hh; omega)).far ⟨w.heap.size, 6, none⟩ _ (Nat.ne_of_lt hg)) HZ9.out.2.2.2.1)
          have hXz := HX5.out.set 6 (.slice ao3 (acc.length + 1) c3)
          have hOz := ownsRow_frm HO5.out ((Frm.refl (fun i => i = w.heap.size) w5).setCell ⟨w.heap.size, 6, none⟩ (.slice ao3 (acc.length + 1) c3) (.inl rfl)) (fun k hk hh => ownsRow_ne HO5.out HX5.out (by decide) k hk hh)
          obtain ⟨wz, hwz⟩ : ∃ wz, w5.setCell ⟨w.heap.size, 6, none⟩ (.slice ao3 (acc.length + 1) c3) = wz := ⟨_, rfl⟩
          rw [hwz] at HZz hXz hOz hfz ⊢
          rw [show acc.flatMap KeyL.cells ++ [Value.int .i64 d9, .string z9] = (acc ++ [(d9, z9)]).flatMap KeyL.cells from by simp [KeyL.cells], ← hl] at hOz
          have HOz := Lib.hid hOz
          have HXz := Lib.hid (show Blk wz w.heap.size 32 [.int .i64 v0, .int .i64 v1, .int .i64 v2, .int .i64 v3, .int .i64 v4, .int .i64 v5, .slice ao3 (acc ++ [(d9, z9)]).length c3, .bool false] from by rw [hl]; exact hXz)
          have HFz := Lib.hid hfz
          clear hf5 hfz hXz hOz hoz xw6 fw6 xa6 xv6
          clear hwz
          go_wp2_with fail
          go_roundw
          case rel => exact ⟨i + 1, acc ++ [(d9, z9)], s9, ao3, c3, by omega, by go_num, HZz, HXz, HOz, HFz, HTO2, by simp; omega⟩
          case measure => simp [intOf]; omega
      · have HT := Lib.hid (show s' = tot.2 from by rw [← HTO.out, itemsS_bad l _ s' hbad])
        have HT1 := Lib.hid (show tot.1 = acc from by rw [← HTO.out, itemsS_bad l _ s' hbad]; simp)
        rw [hbad] at t2
        clear HTO
        have HC := Lib.hid (rflag_any g a c l s' wr HZ.out)
        rw [HT.out] at HC
        rw [E8.out] at HC
        simp only at HC
        go_wp2_with fail
        refine HC.out.mono ?_
        clear HC
        rintro e V8 ⟨rfl, hz, hf⟩
        have HZ8 := Lib.hid hz
        have HF8 := Lib.hid (HF.out.trans hf (fun i h _ => h))
        have HX8 := Lib.hid (Blk.frm HX.out hf (fun hh => absurd (show w.heap.size = g from hh) (Nat.ne_of_gt hg)))
        have HO8 := Lib.hid (ownsRow_frm HO.out hf (fun k hk hh => absurd (show k = g from hh) (Nat.ne_of_gt (Nat.lt_of_lt_of_le hg (own_ge HO.out k hk)))))
        clear hz hf HZ HF HX HO
        have y0 : V8.cell? ⟨w.heap.size, 0, none⟩ = some (.int .i64 v0) := HX8.out.cell 0
        have y1 : V8.cell? ⟨w.heap.size, 1, none⟩ = some (.int .i64 v1) := HX8.out.cell 1
        have y2 : V8.cell? ⟨w.heap.size, 2, none⟩ = some (.int .i64 v2) := HX8.out.cell 2
        have y3 : V8.cell? ⟨w.heap.size, 3, none⟩ = some (.int .i64 v3) := HX8.out.cell 3
        have y4 : V8.cell? ⟨w.heap.size, 4, none⟩ = some (.int .i64 v4) := HX8.out.cell 4
        have y5 : V8.cell? ⟨w.heap.size, 5, none⟩ = some (.int .i64 v5) := HX8.out.cell 5
        have y6 : V8.cell? ⟨w.heap.size, 6, none⟩ = some (.slice a' acc.length c') := HX8.out.cell 6
        have y7 : V8.cell? ⟨w.heap.size, 7, none⟩ = some (.bool false) := HX8.out.cell 7
        have fz : ∀ o, V8.frozen? ⟨w.heap.size, o, none⟩ = false := fun o => fz_of (o := o) HX8.out
        clear x6 t2
        go_wp2_with fail
        go_ret
        have hOF := ownsRow_ne HO8.out HX8.out (by decide)
        obtain ⟨U9, hU⟩ : ∃ U, (V8.setCell ⟨w.heap.size, 7, none⟩ (.bool v8)) = U := ⟨_, rfl⟩
        rw [hU]
        have hf : Frm (fun i => i = g) w U9 := hU ▸ (Frm.setCell HF8.out ⟨w.heap.size, 7, none⟩ (.bool v8) (.inr (Nat.le_refl _)))
        have HZd := Lib.hid (HW.out.next hf (hU ▸ (Blk.far HZ8.out.2.2.1 ⟨w.heap.size, 7, none⟩ _ (Nat.ne_of_lt hg))) HZ8.out.2.2.2.1)
        have HXd := Lib.hid (show Blk U9 (w.heap.size) 32 [.int .i64 v0, .int .i64 v1, .int .i64 v2, .int .i64 v3, .int .i64 v4, .int .i64 v5, .slice a' acc.length c', .bool v8] from hU ▸ (Blk.set HX8.out 7 (.bool v8)))
        have HOd := Lib.hid (show U9.ownsRow w.heap.size 27 2 (.slice a' acc.length c') acc.length (acc.flatMap KeyL.cells) from hU ▸ ownsRow_frm HO8.out ((Frm.refl (fun i => i = w.heap.size) V8).setCell ⟨w.heap.size, 7, none⟩ _ (.inl rfl)) (fun k hk hh => hOF k hk hh))
        have HFd := Lib.hid hf
        clear hU hf HZ8 HX8 HF8 fz y0 y1 y2 y3 y4 y5 y6 y7
        rw [HT1.out]
        exact ⟨_, rfl, ⟨a', c', rfl, ownsRow_rdE (enc := KeyL.cells) (size := 2) (fun _ => rfl) rfl HOd.out⟩, HZd.out, HFd.out⟩
    · obtain rfl : i = N := by omega
      have HT := Lib.hid (show s' = tot.2 from by rw [← HTO.out, Nat.sub_self]; rfl)
      have HT1 := Lib.hid (show tot.1 = acc from by rw [← HTO.out, Nat.sub_self]; simp [itemsS])
      clear HTO
      have HC := Lib.hid (rflag_any g a c l s' wr HZ.out)
      rw [HT.out] at HC
      rw [E8.out] at HC
      simp only at HC
      go_wp2_with fail
      refine HC.out.mono ?_
      clear HC
      rintro e V8 ⟨rfl, hz, hf⟩
      have HZ8 := Lib.hid hz
      have HF8 := Lib.hid (HF.out.trans hf (fun i h _ => h))
      have HX8 := Lib.hid (Blk.frm HX.out hf (fun hh => absurd (show w.heap.size = g from hh) (Nat.ne_of_gt hg)))
      have HO8 := Lib.hid (ownsRow_frm HO.out hf (fun k hk hh => absurd (show k = g from hh) (Nat.ne_of_gt (Nat.lt_of_lt_of_le hg (own_ge HO.out k hk)))))
      clear hz hf HZ HF HX HO
      have y0 : V8.cell? ⟨w.heap.size, 0, none⟩ = some (.int .i64 v0) := HX8.out.cell 0
      have y1 : V8.cell? ⟨w.heap.size, 1, none⟩ = some (.int .i64 v1) := HX8.out.cell 1
      have y2 : V8.cell? ⟨w.heap.size, 2, none⟩ = some (.int .i64 v2) := HX8.out.cell 2
      have y3 : V8.cell? ⟨w.heap.size, 3, none⟩ = some (.int .i64 v3) := HX8.out.cell 3
      have y4 : V8.cell? ⟨w.heap.size, 4, none⟩ = some (.int .i64 v4) := HX8.out.cell 4
      have y5 : V8.cell? ⟨w.heap.size, 5, none⟩ = some (.int .i64 v5) := HX8.out.cell 5
      have y6 : V8.cell? ⟨w.heap.size, 6, none⟩ = some (.slice a' acc.length c') := HX8.out.cell 6
      have y7 : V8.cell? ⟨w.heap.size, 7, none⟩ = some (.bool false) := HX8.out.cell 7
      have fz : ∀ o, V8.frozen? ⟨w.heap.size, o, none⟩ = false := fun o => fz_of (o := o) HX8.out
      clear x6 t2
      go_wp2_with fail
      go_ret
      have hOF := ownsRow_ne HO8.out HX8.out (by decide)
      obtain ⟨U9, hU⟩ : ∃ U, (V8.setCell ⟨w.heap.size, 7, none⟩ (.bool v8)) = U := ⟨_, rfl⟩
      rw [hU]
      have hf : Frm (fun i => i = g) w U9 := hU ▸ (Frm.setCell HF8.out ⟨w.heap.size, 7, none⟩ (.bool v8) (.inr (Nat.le_refl _)))
      have HZd := Lib.hid (HW.out.next hf (hU ▸ (Blk.far HZ8.out.2.2.1 ⟨w.heap.size, 7, none⟩ _ (Nat.ne_of_lt hg))) HZ8.out.2.2.2.1)
      have HXd := Lib.hid (show Blk U9 (w.heap.size) 32 [.int .i64 v0, .int .i64 v1, .int .i64 v2, .int .i64 v3, .int .i64 v4, .int .i64 v5, .slice a' acc.length c', .bool v8] from hU ▸ (Blk.set HX8.out 7 (.bool v8)))
      have HOd := Lib.hid (show U9.ownsRow w.heap.size 27 2 (.slice a' acc.length c') acc.length (acc.flatMap KeyL.cells) from hU ▸ ownsRow_frm HO8.out ((Frm.refl (fun i => i = w.heap.size) V8).setCell ⟨w.heap.size, 7, none⟩ _ (.inl rfl)) (fun k hk hh => hOF k hk hh))
      have HFd := Lib.hid hf
      clear hU hf HZ8 HX8 HF8 fz y0 y1 y2 y3 y4 y5 y6 y7
      rw [HT1.out]
      exact ⟨_, rfl, ⟨a', c', rfl, ownsRow_rdE (enc := KeyL.cells) (size := 2) (fun _ => rfl) rfl HOd.out⟩, HZd.out, HFd.out⟩
end Go.Proofs.Ytjhkdbcfkaaffaa
