/- CheckChain. -/
import Derived.Test.YtiohngcmojkheaaCk2
import Derived.Test.YtiohngcmojkheaaLow
import Derived.Test.YtiohngcmojkheaaFrm
import Derived.Test.YtiohngcmojkheaaHand
namespace Go.Proofs.Ytiohngcmojkheaa
open Go.RowKit
set_option linter.unusedVariables false

theorem qEq_self (q : ByteArray) (k m : Int) : qEq q k m q k m = true := by unfold qEq; exact decide_eq_true rfl
theorem begI_take {l : List KeyL} {i j : Nat} (h : i ≤ j) : begI (l.take i) (l.take j) = true := by
  unfold begI
  rw [decide_eq_true_eq, List.take_take, List.take_eq_take_iff, List.length_take]
  omega
theorem begI_take_full {l : List KeyL} {i : Nat} : begI (l.take i) l = true := by
  unfold begI
  rw [decide_eq_true_eq, List.length_take, List.take_eq_take_iff]
  omega
theorem begI_self (l : List KeyL) : begI l l = true := by unfold begI; rw [List.take_length]; exact decide_eq_true rfl
theorem begI_full {l : List KeyL} {i : Nat} (h : i ≤ l.length) : begI l (l.take i) = decide (i = l.length) := by
  by_cases e : i = l.length
  · rw [decide_eq_true e, e, List.take_length]; exact begI_self l
  · rw [decide_eq_false e]; exact begI_long (by rw [List.length_take]; omega)
theorem low_nat {x : Int} {n : Nat} : ∃ j : Nat, lowI x ((n : Int) + 1) = (j : Int) ∧ j ≤ n := by
  have := lowI_bd x ((n : Int) + 1) (by omega)
  exact ⟨(lowI x ((n : Int) + 1)).toNat, by omega, by omega⟩
theorem later_v (id : Int) (q : ByteArray) (k m : Int) (x len d cc d2 cc2 : Bool) : laterT (decide (id = id) && qEq q k m q k m) x len d cc d2 cc2 = (x && (!d && !cc || len && (d == d2) && (cc == cc2))) := by
  unfold laterT
  rw [qEq_self]
  simp
/-- three told ones side by side, each in a block of its own -/
def CcM (W0 : World) (A : List Value) (v7 v8 v9 : Value) (wx : World) : Prop := ∃ (wy : World) (p7 p8 p9 : Nat), wy = wx ∧ v7 = .pointer (some ⟨p7, 0, none⟩) ∧ v8 = .pointer (some ⟨p8, 0, none⟩) ∧ v9 = .pointer (some ⟨p9, 0, none⟩) ∧ p7 ≠ p8 ∧ p7 ≠ p9 ∧ p8 ≠ p9 ∧ W0.heap.size ≤ p7 ∧ W0.heap.size ≤ p8 ∧ W0.heap.size ≤ p9 ∧ RowKit.Hid (Blk wx p7 46 A) ∧ RowKit.Hid (Blk wx p8 46 A) ∧ RowKit.Hid (Blk wx p9 46 A) ∧ RowKit.Hid (Below W0.heap.size W0 wx)
theorem alloc3 (w : World) (T : TypeId) (l : List Value) : Blk (((w.alloc (.cells l.toArray T)).alloc (.cells l.toArray T)).alloc (.cells l.toArray T)).drew w.heap.size T l ∧ Blk (((w.alloc (.cells l.toArray T)).alloc (.cells l.toArray T)).alloc (.cells l.toArray T)).drew (w.heap.size + 1) T l ∧ Blk (((w.alloc (.cells l.toArray T)).alloc (.cells l.toArray T)).alloc (.cells l.toArray T)).drew (w.heap.size + 1 + 1) T l ∧ Below w.heap.size w (((w.alloc (.cells l.toArray T)).alloc (.cells l.toArray T)).alloc (.cells l.toArray T)).drew := by
  have step (V : World) : Blk (V.alloc (.cells l.toArray T)) V.heap.size T l ∧ Below V.heap.size V (V.alloc (.cells l.toArray T)) ∧ (V.alloc (.cells l.toArray T)).heap.size = V.heap.size + 1 := ⟨heap_alloc_new V _, (Below.refl _ V).alloc (Nat.le_refl _) _, by simp⟩
  obtain ⟨h1, b1, z1⟩ := step w
  generalize w.alloc (.cells l.toArray T) = V1 at *
  obtain ⟨h2, b2, z2⟩ := step V1
  generalize V1.alloc (.cells l.toArray T) = V2 at *
  obtain ⟨h3, b3, z3⟩ := step V2
  generalize V2.alloc (.cells l.toArray T) = V3 at *
  rw [z1] at h2
  rw [z2, z1] at h3
  have k1 := (h1.below b2 h1.lt).below b3 (h1.below b2 h1.lt).lt
  have k2 := h2.below b3 (Nat.lt_of_lt_of_eq h2.lt rfl)
  exact ⟨k1, k2, h3, below_drewN ((b1.trans (b2.mono b1.size)).trans (b3.mono (b1.trans (b2.mono b1.size)).size)) 1⟩
set_option maxRecDepth 100000 in
set_option maxHeartbeats 8000000 in
theorem chain_law (w : World) (id : Int) (q : ByteArray) (k m : Int) (b : Option Addr) (bc : Nat) (l : List KeyL) (d cc : Bool) (nn mm : Int) (hi : RdE KeyL.cells 2 w b l.length bc l) (hz : ∀ x ∈ l, x.2.size ≤ maxLen) (hq : q.size ≤ maxLen) :
    Calls Try.prog 10 #[.agg #[.int .i64 id, .string q, .int .i64 k, .int .i64 m, .slice b l.length bc, .bool d, .bool cc], .int .i64 nn, .int .i64 mm] w fun e w' => e = .returned (.bool true) ∧ Below w.heap.size w w' := by
  obtain ⟨i0, hinf, hz0, hz1, hz2⟩ := info_parts infoI2
  have HI0 := Lib.hid hinf
  have HZ0 := Lib.hid hz0
  have HZ1 := Lib.hid hz1
  have HZ2 := Lib.hid hz2
  clear hinf hz0 hz1 hz2
  have hcap := hi.2.1
  have hcm := hi.2.2.1
  unfold maxLen at hq hcm
  have HB := Lib.hid ((Below.refl _ w).alloc (Nat.le_refl _) (.cells #[.int .i64 id, .string q, .int .i64 k, .int .i64 m, .slice b l.length bc, .bool d, .bool cc] 46))
  have HK := Lib.hid (show Blk (w.alloc (.cells #[.int .i64 id, .string q, .int .i64 k, .int .i64 m, .slice b l.length bc, .bool d, .bool cc] 46)) w.heap.size 46 [.int .i64 id, .string q, .int .i64 k, .int .i64 m, .slice b l.length bc, .bool d, .bool cc] from heap_alloc_new w _)
  obtain ⟨W, hW⟩ : ∃ W, w.alloc (.cells #[.int .i64 id, .string q, .int .i64 k, .int .i64 m, .slice b l.length bc, .bool d, .bool cc] 46) = W := ⟨_, rfl⟩
  rw [hW] at HB HK
  have HG := Lib.hid (greatI_any b l.length bc l W (hi.below HB.out rfl) hz)
  have HZ : RowKit.Hid (∀ V, Calls Try.prog 35 #[] V fun e w' => e = .returned (.bool true) ∧ Below V.heap.size V w') := fun V => awake28_any V
  have HI := Lib.hid hi
  clear hi hz
  have t0 : W.cell? ⟨w.heap.size, 0, none⟩ = some (.int .i64 id) := HK.out.cell 0
  have t1 : W.cell? ⟨w.heap.size, 1, none⟩ = some (.string q) := HK.out.cell 1
  have t2 : W.cell? ⟨w.heap.size, 2, none⟩ = some (.int .i64 k) := HK.out.cell 2
  have t3 : W.cell? ⟨w.heap.size, 3, none⟩ = some (.int .i64 m) := HK.out.cell 3
  have t4 : W.cell? ⟨w.heap.size, 4, none⟩ = some (.slice b l.length bc) := HK.out.cell 4
  have t5 : W.cell? ⟨w.heap.size, 5, none⟩ = some (.bool d) := HK.out.cell 5
  have t6 : W.cell? ⟨w.heap.size, 6, none⟩ = some (.bool cc) := HK.out.cell 6
  go_enter Try.func10, Try.ntmps10
  go_wp2_with (rw [hW])
  clear hW
  refine HG.out.mono ?_
  rintro e w1 ⟨rfl, rfl⟩
  clear HG
  cases hg : greatI l
  case true =>
    clear hg
    go_wp2_with fail
    refine (HZ.out _).mono ?_
    rintro e w1 ⟨rfl, hb⟩
    have HB3 := Lib.hid (HB.out.trans (hb.mono HB.out.size))
    clear hb
    go_wp2_with fail
    go_ret
    exact ⟨rfl, HB3.out⟩
  have hl80 := (greatI_false hg).1
  clear hg
  by_cases hqs : 100 < q.size
  · have d1 : decide ((100 : Int) < (q.size : Int)) = true := by simp; omega
    have d2 : decide (100 < q.size) = true := by simpa using hqs
    go_wp2_with fail
    refine (HZ.out _).mono ?_
    rintro e w1 ⟨rfl, hb⟩
    have HB3 := Lib.hid (HB.out.trans (hb.mono HB.out.size))
    clear hb
    go_wp2_with fail
    go_ret
    exact ⟨rfl, HB3.out⟩
  have d1 : decide ((100 : Int) < (q.size : Int)) = false := by simp; omega
  have d2 : decide (100 < q.size) = false := by simpa using hqs
  obtain ⟨n, hn, hnl⟩ := @low_nat nn l.length
  obtain ⟨p, hp, hpn⟩ := @low_nat mm n
  obtain ⟨ln, hln⟩ : ∃ x, l.take n = x := ⟨_, rfl⟩
  obtain rfl : n = ln.length := by rw [← hln, List.length_take]; omega
  obtain ⟨lp, hlp⟩ : ∃ x, l.take p = x := ⟨_, rfl⟩
  obtain rfl : p = lp.length := by rw [← hlp, List.length_take]; omega
  have b1 : begI lp ln = true := by rw [← hlp, ← hln]; exact begI_take hpn
  have b2 : begI ln l = true := by rw [← hln]; exact begI_take_full
  have b3 : begI lp l = true := by rw [← hlp]; exact begI_take_full
  have b4 : begI l ln = decide (ln.length = l.length) := by
    have := @begI_full l ln.length hnl
    rw [hln] at this
    exact this
  have e1 : ((ln.length : Int) == (l.length : Int)) = decide (ln.length = l.length) := by rw [Bool.eq_iff_iff]; simp; omega
  generalize hzz : decide (ln.length = l.length) = z at b4 e1
  clear hzz
  have HLN := Lib.hid hln
  have HLP := Lib.hid hlp
  have B1 := Lib.hid b1
  have B2 := Lib.hid b2
  have B3 := Lib.hid b3
  have B4 := Lib.hid b4
  clear hln hlp b1 b2 b3 b4
  have HL1 := Lib.hid (fun V => low_any nn ((l.length : Int) + 1) V (by omega) (by omega))
  have HL2 := Lib.hid (fun V => low_any mm ((ln.length : Int) + 1) V (by omega) (by omega))
  rw [hn] at HL1
  rw [hp] at HL2
  clear hn hp
  have f5 : W.frozen? ⟨w.heap.size, 5, none⟩ = false := HK.out.frozen 5
  have f6 : W.frozen? ⟨w.heap.size, 6, none⟩ = false := HK.out.frozen 6
  have HK2 := Lib.hid (show Blk ((W.setCell ⟨w.heap.size, 5, none⟩ (.bool false)).setCell ⟨w.heap.size, 6, none⟩ (.bool false)) w.heap.size 46 [.int .i64 id, .string q, .int .i64 k, .int .i64 m, .slice b l.length bc, .bool false, .bool false] from (HK.out.set 5 (.bool false)).set 6 (.bool false))
  have HB2 := Lib.hid (show Below w.heap.size w ((W.setCell ⟨w.heap.size, 5, none⟩ (.bool false)).setCell ⟨w.heap.size, 6, none⟩ (.bool false)) from (HB.out.setCell (p := ⟨w.heap.size, 5, none⟩) (Nat.le_refl _) _).setCell (p := ⟨w.heap.size, 6, none⟩) (Nat.le_refl _) _)
  go_upto_region 4 with fail
  generalize (W.setCell ⟨w.heap.size, 5, none⟩ (.bool false)).setCell ⟨w.heap.size, 6, none⟩ (.bool false) = W2 at *
  clear HB HK t0 t1 t2 t3 t4 t5 t6 f5 f6 d1 d2 hqs
  have t0 : W2.cell? ⟨w.heap.size, 0, none⟩ = some (.int .i64 id) := HK2.out.cell 0
  have t1 : W2.cell? ⟨w.heap.size, 1, none⟩ = some (.string q) := HK2.out.cell 1
  have t2 : W2.cell? ⟨w.heap.size, 2, none⟩ = some (.int .i64 k) := HK2.out.cell 2
  have t3 : W2.cell? ⟨w.heap.size, 3, none⟩ = some (.int .i64 m) := HK2.out.cell 3
  have t4 : W2.cell? ⟨w.heap.size, 4, none⟩ = some (.slice b l.length bc) := HK2.out.cell 4
  have t5 : W2.cell? ⟨w.heap.size, 5, none⟩ = some (.bool false) := HK2.out.cell 5
  have t6 : W2.cell? ⟨w.heap.size, 6, none⟩ = some (.bool false) := HK2.out.cell 6
  go_wp2_with fail
  refine (HL1.out _).mono ?_
  rintro e w1 ⟨rfl, rfl⟩
  go_wp2_with fail
  refine (HL2.out _).mono ?_
  rintro e w1 ⟨rfl, rfl⟩
  clear HL1 HL2
  go_upto_region 6 with fail
  have HL := Lib.hid (alloc3 W2 46 [.int .i64 id, .string q, .int .i64 k, .int .i64 m, .slice b l.length bc, .bool false, .bool false])
  go_cut [7, 8, 9] from 33 to 35 (fun v7 v8 v9 wx => CcM W2 [.int .i64 id, .string q, .int .i64 k, .int .i64 m, .slice b l.length bc, .bool false, .bool false] v7 v8 v9 wx)
  case first =>
    refine wp_region_held_drew (S := (fun w' => Below W2.heap.size W2 w')) (by kernel_rfl) (by (refine below_drewN ?_ 1; (repeat (refine Below.alloc ?_ (by first | (simp; done) | (simp; omega)) _)); exact Below.refl _ _)) (fun hHeld => ?_)
    refine takeO 0 (some 33) (v := ?_) rfl rfl (by kernel_rfl) (by kernel_rfl) (by kernel_rfl) (fun _ _ _ h => h) (Or.inl ⟨by rfl, ?_⟩) (by assumption) ?_
    rotate_left 1
    · intro wv hSw; (try dsimp only at hSw); have y0 : wv.cell? ⟨w.heap.size, 0, none⟩ = some (.int .i64 id) := (Blk.below HK2.out hSw (Blk.lt HK2.out)).cell 0; have y1 : wv.cell? ⟨w.heap.size, 1, none⟩ = some (.string q) := (Blk.below HK2.out hSw (Blk.lt HK2.out)).cell 1; have y2 : wv.cell? ⟨w.heap.size, 2, none⟩ = some (.int .i64 k) := (Blk.below HK2.out hSw (Blk.lt HK2.out)).cell 2; have y3 : wv.cell? ⟨w.heap.size, 3, none⟩ = some (.int .i64 m) := (Blk.below HK2.out hSw (Blk.lt HK2.out)).cell 3; have y4 : wv.cell? ⟨w.heap.size, 4, none⟩ = some (.slice b l.length bc) := (Blk.below HK2.out hSw (Blk.lt HK2.out)).cell 4; have y5 : wv.cell? ⟨w.heap.size, 5, none⟩ = some (.bool false) := (Blk.below HK2.out hSw (Blk.lt HK2.out)).cell 5; have y6 : wv.cell? ⟨w.heap.size, 6, none⟩ = some (.bool false) := (Blk.below HK2.out hSw (Blk.lt HK2.out)).cell 6; go_simp; all_goals with_reducible rfl
    try simp only [Act.put, List.setIfInBounds_toArray, List.set_cons_zero, List.set_cons_succ]
    refine takeO 1 (some 34) (v := ?_) rfl rfl (by kernel_rfl) (by kernel_rfl) (by kernel_rfl) (fun _ _ _ h => h) (Or.inl ⟨by rfl, ?_⟩) (by assumption) ?_
    rotate_left 1
    · intro wv hSw; (try dsimp only at hSw); have y0 : wv.cell? ⟨w.heap.size, 0, none⟩ = some (.int .i64 id) := (Blk.below HK2.out hSw (Blk.lt HK2.out)).cell 0; have y1 : wv.cell? ⟨w.heap.size, 1, none⟩ = some (.string q) := (Blk.below HK2.out hSw (Blk.lt HK2.out)).cell 1; have y2 : wv.cell? ⟨w.heap.size, 2, none⟩ = some (.int .i64 k) := (Blk.below HK2.out hSw (Blk.lt HK2.out)).cell 2; have y3 : wv.cell? ⟨w.heap.size, 3, none⟩ = some (.int .i64 m) := (Blk.below HK2.out hSw (Blk.lt HK2.out)).cell 3; have y4 : wv.cell? ⟨w.heap.size, 4, none⟩ = some (.slice b l.length bc) := (Blk.below HK2.out hSw (Blk.lt HK2.out)).cell 4; have y5 : wv.cell? ⟨w.heap.size, 5, none⟩ = some (.bool false) := (Blk.below HK2.out hSw (Blk.lt HK2.out)).cell 5; have y6 : wv.cell? ⟨w.heap.size, 6, none⟩ = some (.bool false) := (Blk.below HK2.out hSw (Blk.lt HK2.out)).cell 6; go_simp; all_goals with_reducible rfl
    try simp only [Act.put, List.setIfInBounds_toArray, List.set_cons_zero, List.set_cons_succ]
    refine takeO 2 (some 35) (v := ?_) rfl rfl (by kernel_rfl) (by kernel_rfl) (by kernel_rfl) (fun _ _ _ h => h) (Or.inl ⟨by rfl, ?_⟩) (by assumption) ?_
    rotate_left 1
    · intro wv hSw; (try dsimp only at hSw); have y0 : wv.cell? ⟨w.heap.size, 0, none⟩ = some (.int .i64 id) := (Blk.below HK2.out hSw (Blk.lt HK2.out)).cell 0; have y1 : wv.cell? ⟨w.heap.size, 1, none⟩ = some (.string q) := (Blk.below HK2.out hSw (Blk.lt HK2.out)).cell 1; have y2 : wv.cell? ⟨w.heap.size, 2, none⟩ = some (.int .i64 k) := (Blk.below HK2.out hSw (Blk.lt HK2.out)).cell 2; have y3 : wv.cell? ⟨w.heap.size, 3, none⟩ = some (.int .i64 m) := (Blk.below HK2.out hSw (Blk.lt HK2.out)).cell 3; have y4 : wv.cell? ⟨w.heap.size, 4, none⟩ = some (.slice b l.length bc) := (Blk.below HK2.out hSw (Blk.lt HK2.out)).cell 4; have y5 : wv.cell? ⟨w.heap.size, 5, none⟩ = some (.bool false) := (Blk.below HK2.out hSw (Blk.lt HK2.out)).cell 5; have y6 : wv.cell? ⟨w.heap.size, 6, none⟩ = some (.bool false) := (Blk.below HK2.out hSw (Blk.lt HK2.out)).cell 6; go_simp; all_goals with_reducible rfl
    try simp only [Act.put, List.setIfInBounds_toArray, List.set_cons_zero, List.set_cons_succ]
    refine wpAnyH_ready (rs := [3, 4, 5]) (by kernel_rfl) (by simp) ?_
    refine AllReadyH.cons rfl (fun K hK => ?_) (AllReadyH.cons rfl (fun K hK => ?_) (AllReadyH.cons rfl (fun K hK => ?_) AllReadyH.nil))
    · go_simp
      refine hK.out _ _ (by (refine below_drewN ?_ 1; (repeat (refine Below.alloc ?_ (by first | (simp; done) | (simp; omega)) _)); exact Below.refl _ _)) (fun hHeld => ?_)
      clear hK K
      try simp only [Act.put, List.setIfInBounds_toArray, List.set_cons_zero, List.set_cons_succ]
      refine wpAnyH_ready (rs := [4, 5]) (by kernel_rfl) (by simp) ?_
      refine AllReadyH.cons rfl (fun K hK => ?_) (AllReadyH.cons rfl (fun K hK => ?_) AllReadyH.nil)
      · go_simp
        refine hK.out _ _ (by (refine below_drewN ?_ 1; (repeat (refine Below.alloc ?_ (by first | (simp; done) | (simp; omega)) _)); exact Below.refl _ _)) (fun hHeld => ?_)
        clear hK K
        try simp only [Act.put, List.setIfInBounds_toArray, List.set_cons_zero, List.set_cons_succ]
        refine wpAnyH_ready (rs := [5]) (by kernel_rfl) (by simp) ?_
        refine AllReadyH.cons rfl (fun K hK => ?_) AllReadyH.nil
        · go_simp
          refine hK.out _ _ (by (refine below_drewN ?_ 1; (repeat (refine Below.alloc ?_ (by first | (simp; done) | (simp; omega)) _)); exact Below.refl _ _)) (fun hHeld => ?_)
          clear hK K
          try simp only [Act.put, List.setIfInBounds_toArray, List.set_cons_zero, List.set_cons_succ]
          refine wpAnyH_ready (rs := [6]) (by kernel_rfl) (by simp) ?_
          refine AllReadyH.cons rfl (fun K hK => ?_) AllReadyH.nil
          · go_simp
            refine hK.out _ _ (by (refine below_drewN ?_ 1; (repeat (refine Below.alloc ?_ (by first | (simp; done) | (simp; omega)) _)); exact Below.refl _ _)) (fun hHeld => ?_)
            clear hK K
            try simp only [Act.put, List.setIfInBounds_toArray, List.set_cons_zero, List.set_cons_succ]
            refine wpAnyH_ready (rs := [7]) (by kernel_rfl) (by simp) ?_
            refine AllReadyH.cons rfl (fun K hK => ?_) AllReadyH.nil
            · go_simp
              refine hK.out _ _ (by (refine below_drewN ?_ 1; (repeat (refine Below.alloc ?_ (by first | (simp; done) | (simp; omega)) _)); exact Below.refl _ _)) (fun hHeld => ?_)
              clear hK K
              try simp only [Act.put, List.setIfInBounds_toArray, List.set_cons_zero, List.set_cons_succ]
              refine wpAnyH_ready (rs := [8]) (by kernel_rfl) (by simp) ?_
              refine AllReadyH.cons rfl (fun K hK => ?_) AllReadyH.nil
              · go_simp
                refine hK.out _ _ (by (refine below_drewN ?_ 1; (repeat (refine Below.alloc ?_ (by first | (simp; done) | (simp; omega)) _)); exact Below.refl _ _)) (fun hHeld => ?_)
                clear hK K
                try simp only [Act.put, List.setIfInBounds_toArray, List.set_cons_zero, List.set_cons_succ]
                refine wpAnyH_done (by kernel_rfl) ?_ _
                go_wp2_with fail
                go_meet
                exact ⟨_, _, _, _, rfl, rfl, rfl, rfl, by omega, by omega, by omega, by omega, by omega, by omega, (by first | exact HL.out.1 | exact HL.out.2.1 | exact HL.out.2.2.1), (by first | exact HL.out.1 | exact HL.out.2.1 | exact HL.out.2.2.1), (by first | exact HL.out.1 | exact HL.out.2.1 | exact HL.out.2.2.1), HL.out.2.2.2⟩
      · go_simp
        refine hK.out _ _ (by (refine below_drewN ?_ 1; (repeat (refine Below.alloc ?_ (by first | (simp; done) | (simp; omega)) _)); exact Below.refl _ _)) (fun hHeld => ?_)
        clear hK K
        try simp only [Act.put, List.setIfInBounds_toArray, List.set_cons_zero, List.set_cons_succ]
        refine wpAnyH_ready (rs := [4]) (by kernel_rfl) (by simp) ?_
        refine AllReadyH.cons rfl (fun K hK => ?_) AllReadyH.nil
        · go_simp
          refine hK.out _ _ (by (refine below_drewN ?_ 1; (repeat (refine Below.alloc ?_ (by first | (simp; done) | (simp; omega)) _)); exact Below.refl _ _)) (fun hHeld => ?_)
          clear hK K
          try simp only [Act.put, List.setIfInBounds_toArray, List.set_cons_zero, List.set_cons_succ]
          refine wpAnyH_ready (rs := [6]) (by kernel_rfl) (by simp) ?_
          refine AllReadyH.cons rfl (fun K hK => ?_) AllReadyH.nil
          · go_simp
            refine hK.out _ _ (by (refine below_drewN ?_ 1; (repeat (refine Below.alloc ?_ (by first | (simp; done) | (simp; omega)) _)); exact Below.refl _ _)) (fun hHeld => ?_)
            clear hK K
            try simp only [Act.put, List.setIfInBounds_toArray, List.set_cons_zero, List.set_cons_succ]
            refine wpAnyH_ready (rs := [7]) (by kernel_rfl) (by simp) ?_
            refine AllReadyH.cons rfl (fun K hK => ?_) AllReadyH.nil
            · go_simp
              refine hK.out _ _ (by (refine below_drewN ?_ 1; (repeat (refine Below.alloc ?_ (by first | (simp; done) | (simp; omega)) _)); exact Below.refl _ _)) (fun hHeld => ?_)
              clear hK K
              try simp only [Act.put, List.setIfInBounds_toArray, List.set_cons_zero, List.set_cons_succ]
              refine wpAnyH_ready (rs := [8]) (by kernel_rfl) (by simp) ?_
              refine AllReadyH.cons rfl (fun K hK => ?_) AllReadyH.nil
              · go_simp
                refine hK.out _ _ (by (refine below_drewN ?_ 1; (repeat (refine Below.alloc ?_ (by first | (simp; done) | (simp; omega)) _)); exact Below.refl _ _)) (fun hHeld => ?_)
                clear hK K
                try simp only [Act.put, List.setIfInBounds_toArray, List.set_cons_zero, List.set_cons_succ]
                refine wpAnyH_done (by kernel_rfl) ?_ _
                go_wp2_with fail
                go_meet
                exact ⟨_, _, _, _, rfl, rfl, rfl, rfl, by omega, by omega, by omega, by omega, by omega, by omega, (by first | exact HL.out.1 | exact HL.out.2.1 | exact HL.out.2.2.1), (by first | exact HL.out.1 | exact HL.out.2.1 | exact HL.out.2.2.1), (by first | exact HL.out.1 | exact HL.out.2.1 | exact HL.out.2.2.1), HL.out.2.2.2⟩
    · go_simp
      refine hK.out _ _ (by (refine below_drewN ?_ 1; (repeat (refine Below.alloc ?_ (by first | (simp; done) | (simp; omega)) _)); exact Below.refl _ _)) (fun hHeld => ?_)
      clear hK K
      try simp only [Act.put, List.setIfInBounds_toArray, List.set_cons_zero, List.set_cons_succ]
      refine wpAnyH_ready (rs := [3, 5]) (by kernel_rfl) (by simp) ?_
      refine AllReadyH.cons rfl (fun K hK => ?_) (AllReadyH.cons rfl (fun K hK => ?_) AllReadyH.nil)
      · go_simp
        refine hK.out _ _ (by (refine below_drewN ?_ 1; (repeat (refine Below.alloc ?_ (by first | (simp; done) | (simp; omega)) _)); exact Below.refl _ _)) (fun hHeld => ?_)
        clear hK K
        try simp only [Act.put, List.setIfInBounds_toArray, List.set_cons_zero, List.set_cons_succ]
        refine wpAnyH_ready (rs := [5]) (by kernel_rfl) (by simp) ?_
        refine AllReadyH.cons rfl (fun K hK => ?_) AllReadyH.nil
        · go_simp
          refine hK.out _ _ (by (refine below_drewN ?_ 1; (repeat (refine Below.alloc ?_ (by first | (simp; done) | (simp; omega)) _)); exact Below.refl _ _)) (fun hHeld => ?_)
          clear hK K
          try simp only [Act.put, List.setIfInBounds_toArray, List.set_cons_zero, List.set_cons_succ]
          refine wpAnyH_ready (rs := [6]) (by kernel_rfl) (by simp) ?_
          refine AllReadyH.cons rfl (fun K hK => ?_) AllReadyH.nil
          · go_simp
            refine hK.out _ _ (by (refine below_drewN ?_ 1; (repeat (refine Below.alloc ?_ (by first | (simp; done) | (simp; omega)) _)); exact Below.refl _ _)) (fun hHeld => ?_)
            clear hK K
            try simp only [Act.put, List.setIfInBounds_toArray, List.set_cons_zero, List.set_cons_succ]
            refine wpAnyH_ready (rs := [7]) (by kernel_rfl) (by simp) ?_
            refine AllReadyH.cons rfl (fun K hK => ?_) AllReadyH.nil
            · go_simp
              refine hK.out _ _ (by (refine below_drewN ?_ 1; (repeat (refine Below.alloc ?_ (by first | (simp; done) | (simp; omega)) _)); exact Below.refl _ _)) (fun hHeld => ?_)
              clear hK K
              try simp only [Act.put, List.setIfInBounds_toArray, List.set_cons_zero, List.set_cons_succ]
              refine wpAnyH_ready (rs := [8]) (by kernel_rfl) (by simp) ?_
              refine AllReadyH.cons rfl (fun K hK => ?_) AllReadyH.nil
              · go_simp
                refine hK.out _ _ (by (refine below_drewN ?_ 1; (repeat (refine Below.alloc ?_ (by first | (simp; done) | (simp; omega)) _)); exact Below.refl _ _)) (fun hHeld => ?_)
                clear hK K
                try simp only [Act.put, List.setIfInBounds_toArray, List.set_cons_zero, List.set_cons_succ]
                refine wpAnyH_done (by kernel_rfl) ?_ _
                go_wp2_with fail
                go_meet
                exact ⟨_, _, _, _, rfl, rfl, rfl, rfl, by omega, by omega, by omega, by omega, by omega, by omega, (by first | exact HL.out.1 | exact HL.out.2.1 | exact HL.out.2.2.1), (by first | exact HL.out.1 | exact HL.out.2.1 | exact HL.out.2.2.1), (by first | exact HL.out.1 | exact HL.out.2.1 | exact HL.out.2.2.1), HL.out.2.2.2⟩
      · go_simp
        refine hK.out _ _ (by (refine below_drewN ?_ 1; (repeat (refine Below.alloc ?_ (by first | (simp; done) | (simp; omega)) _)); exact Below.refl _ _)) (fun hHeld => ?_)
        clear hK K
        try simp only [Act.put, List.setIfInBounds_toArray, List.set_cons_zero, List.set_cons_succ]
        refine wpAnyH_ready (rs := [3]) (by kernel_rfl) (by simp) ?_
        refine AllReadyH.cons rfl (fun K hK => ?_) AllReadyH.nil
        · go_simp
          refine hK.out _ _ (by (refine below_drewN ?_ 1; (repeat (refine Below.alloc ?_ (by first | (simp; done) | (simp; omega)) _)); exact Below.refl _ _)) (fun hHeld => ?_)
          clear hK K
          try simp only [Act.put, List.setIfInBounds_toArray, List.set_cons_zero, List.set_cons_succ]
          refine wpAnyH_ready (rs := [6]) (by kernel_rfl) (by simp) ?_
          refine AllReadyH.cons rfl (fun K hK => ?_) AllReadyH.nil
          · go_simp
            refine hK.out _ _ (by (refine below_drewN ?_ 1; (repeat (refine Below.alloc ?_ (by first | (simp; done) | (simp; omega)) _)); exact Below.refl _ _)) (fun hHeld => ?_)
            clear hK K
            try simp only [Act.put, List.setIfInBounds_toArray, List.set_cons_zero, List.set_cons_succ]
            refine wpAnyH_ready (rs := [7]) (by kernel_rfl) (by simp) ?_
            refine AllReadyH.cons rfl (fun K hK => ?_) AllReadyH.nil
            · go_simp
              refine hK.out _ _ (by (refine below_drewN ?_ 1; (repeat (refine Below.alloc ?_ (by first | (simp; done) | (simp; omega)) _)); exact Below.refl _ _)) (fun hHeld => ?_)
              clear hK K
              try simp only [Act.put, List.setIfInBounds_toArray, List.set_cons_zero, List.set_cons_succ]
              refine wpAnyH_ready (rs := [8]) (by kernel_rfl) (by simp) ?_
              refine AllReadyH.cons rfl (fun K hK => ?_) AllReadyH.nil
              · go_simp
                refine hK.out _ _ (by (refine below_drewN ?_ 1; (repeat (refine Below.alloc ?_ (by first | (simp; done) | (simp; omega)) _)); exact Below.refl _ _)) (fun hHeld => ?_)
                clear hK K
                try simp only [Act.put, List.setIfInBounds_toArray, List.set_cons_zero, List.set_cons_succ]
                refine wpAnyH_done (by kernel_rfl) ?_ _
                go_wp2_with fail
                go_meet
                exact ⟨_, _, _, _, rfl, rfl, rfl, rfl, by omega, by omega, by omega, by omega, by omega, by omega, (by first | exact HL.out.1 | exact HL.out.2.1 | exact HL.out.2.2.1), (by first | exact HL.out.1 | exact HL.out.2.1 | exact HL.out.2.2.1), (by first | exact HL.out.1 | exact HL.out.2.1 | exact HL.out.2.2.1), HL.out.2.2.2⟩
    · go_simp
      refine hK.out _ _ (by (refine below_drewN ?_ 1; (repeat (refine Below.alloc ?_ (by first | (simp; done) | (simp; omega)) _)); exact Below.refl _ _)) (fun hHeld => ?_)
      clear hK K
      try simp only [Act.put, List.setIfInBounds_toArray, List.set_cons_zero, List.set_cons_succ]
      refine wpAnyH_ready (rs := [3, 4]) (by kernel_rfl) (by simp) ?_
      refine AllReadyH.cons rfl (fun K hK => ?_) (AllReadyH.cons rfl (fun K hK => ?_) AllReadyH.nil)
      · go_simp
        refine hK.out _ _ (by (refine below_drewN ?_ 1; (repeat (refine Below.alloc ?_ (by first | (simp; done) | (simp; omega)) _)); exact Below.refl _ _)) (fun hHeld => ?_)
        clear hK K
        try simp only [Act.put, List.setIfInBounds_toArray, List.set_cons_zero, List.set_cons_succ]
        refine wpAnyH_ready (rs := [4]) (by kernel_rfl) (by simp) ?_
        refine AllReadyH.cons rfl (fun K hK => ?_) AllReadyH.nil
        · go_simp
          refine hK.out _ _ (by (refine below_drewN ?_ 1; (repeat (refine Below.alloc ?_ (by first | (simp; done) | (simp; omega)) _)); exact Below.refl _ _)) (fun hHeld => ?_)
          clear hK K
          try simp only [Act.put, List.setIfInBounds_toArray, List.set_cons_zero, List.set_cons_succ]
          refine wpAnyH_ready (rs := [6]) (by kernel_rfl) (by simp) ?_
          refine AllReadyH.cons rfl (fun K hK => ?_) AllReadyH.nil
          · go_simp
            refine hK.out _ _ (by (refine below_drewN ?_ 1; (repeat (refine Below.alloc ?_ (by first | (simp; done) | (simp; omega)) _)); exact Below.refl _ _)) (fun hHeld => ?_)
            clear hK K
            try simp only [Act.put, List.setIfInBounds_toArray, List.set_cons_zero, List.set_cons_succ]
            refine wpAnyH_ready (rs := [7]) (by kernel_rfl) (by simp) ?_
            refine AllReadyH.cons rfl (fun K hK => ?_) AllReadyH.nil
            · go_simp
              refine hK.out _ _ (by (refine below_drewN ?_ 1; (repeat (refine Below.alloc ?_ (by first | (simp; done) | (simp; omega)) _)); exact Below.refl _ _)) (fun hHeld => ?_)
              clear hK K
              try simp only [Act.put, List.setIfInBounds_toArray, List.set_cons_zero, List.set_cons_succ]
              refine wpAnyH_ready (rs := [8]) (by kernel_rfl) (by simp) ?_
              refine AllReadyH.cons rfl (fun K hK => ?_) AllReadyH.nil
              · go_simp
                refine hK.out _ _ (by (refine below_drewN ?_ 1; (repeat (refine Below.alloc ?_ (by first | (simp; done) | (simp; omega)) _)); exact Below.refl _ _)) (fun hHeld => ?_)
                clear hK K
                try simp only [Act.put, List.setIfInBounds_toArray, List.set_cons_zero, List.set_cons_succ]
                refine wpAnyH_done (by kernel_rfl) ?_ _
                go_wp2_with fail
                go_meet
                exact ⟨_, _, _, _, rfl, rfl, rfl, rfl, by omega, by omega, by omega, by omega, by omega, by omega, (by first | exact HL.out.1 | exact HL.out.2.1 | exact HL.out.2.2.1), (by first | exact HL.out.1 | exact HL.out.2.1 | exact HL.out.2.2.1), (by first | exact HL.out.1 | exact HL.out.2.1 | exact HL.out.2.2.1), HL.out.2.2.2⟩
      · go_simp
        refine hK.out _ _ (by (refine below_drewN ?_ 1; (repeat (refine Below.alloc ?_ (by first | (simp; done) | (simp; omega)) _)); exact Below.refl _ _)) (fun hHeld => ?_)
        clear hK K
        try simp only [Act.put, List.setIfInBounds_toArray, List.set_cons_zero, List.set_cons_succ]
        refine wpAnyH_ready (rs := [3]) (by kernel_rfl) (by simp) ?_
        refine AllReadyH.cons rfl (fun K hK => ?_) AllReadyH.nil
        · go_simp
          refine hK.out _ _ (by (refine below_drewN ?_ 1; (repeat (refine Below.alloc ?_ (by first | (simp; done) | (simp; omega)) _)); exact Below.refl _ _)) (fun hHeld => ?_)
          clear hK K
          try simp only [Act.put, List.setIfInBounds_toArray, List.set_cons_zero, List.set_cons_succ]
          refine wpAnyH_ready (rs := [6]) (by kernel_rfl) (by simp) ?_
          refine AllReadyH.cons rfl (fun K hK => ?_) AllReadyH.nil
          · go_simp
            refine hK.out _ _ (by (refine below_drewN ?_ 1; (repeat (refine Below.alloc ?_ (by first | (simp; done) | (simp; omega)) _)); exact Below.refl _ _)) (fun hHeld => ?_)
            clear hK K
            try simp only [Act.put, List.setIfInBounds_toArray, List.set_cons_zero, List.set_cons_succ]
            refine wpAnyH_ready (rs := [7]) (by kernel_rfl) (by simp) ?_
            refine AllReadyH.cons rfl (fun K hK => ?_) AllReadyH.nil
            · go_simp
              refine hK.out _ _ (by (refine below_drewN ?_ 1; (repeat (refine Below.alloc ?_ (by first | (simp; done) | (simp; omega)) _)); exact Below.refl _ _)) (fun hHeld => ?_)
              clear hK K
              try simp only [Act.put, List.setIfInBounds_toArray, List.set_cons_zero, List.set_cons_succ]
              refine wpAnyH_ready (rs := [8]) (by kernel_rfl) (by simp) ?_
              refine AllReadyH.cons rfl (fun K hK => ?_) AllReadyH.nil
              · go_simp
                refine hK.out _ _ (by (refine below_drewN ?_ 1; (repeat (refine Below.alloc ?_ (by first | (simp; done) | (simp; omega)) _)); exact Below.refl _ _)) (fun hHeld => ?_)
                clear hK K
                try simp only [Act.put, List.setIfInBounds_toArray, List.set_cons_zero, List.set_cons_succ]
                refine wpAnyH_done (by kernel_rfl) ?_ _
                go_wp2_with fail
                go_meet
                exact ⟨_, _, _, _, rfl, rfl, rfl, rfl, by omega, by omega, by omega, by omega, by omega, by omega, (by first | exact HL.out.1 | exact HL.out.2.1 | exact HL.out.2.2.1), (by first | exact HL.out.1 | exact HL.out.2.1 | exact HL.out.2.2.1), (by first | exact HL.out.1 | exact HL.out.2.1 | exact HL.out.2.2.1), HL.out.2.2.2⟩
  case rest =>
    obtain ⟨W3, p7, p8, p9, rfl, rfl, rfl, rfl, n78, n79, n89, g7, g8, g9, H7, H8, H9, HBX⟩ := hcut
    have hlA := HK2.out.lt
    have h2s := HB2.out.size
    have HKA := Lib.hid (HK2.out.below HBX.out HK2.out.lt)
    have HA := Lib.hid (HB2.out.trans (HBX.out.mono HB2.out.size))
    clear t0 t1 t2 t3 t4 t5 t6 HK2 HB2 HBX HL
    have hp7 : ln.length ≤ l.length := by omega
    have A1 : 0 + ln.length ≤ maxLen := by unfold maxLen; omega
    have A2 : (0 + ln.length) * 24 ≤ 140737488355328 := by omega
    have b1 : (0 : Int) ≤ (ln.length : Int) := by omega
    have b2 : (ln.length : Int) ≤ (bc : Int) := by omega
    have b3 : ln.length ≤ bc := by omega
    have HSR := Lib.hid (show Src Try.prog 2 28 (.slice b ln.length bc) ln.length (ln.flatMap KeyL.cells) W3 from by
      have := Src.ofRdE (P := Try.prog) (tx := 28) (enc := KeyL.cells) (size := 2) Try.underlying28 (fun _ => rfl) itemOne ((HI.out.below HA.out rfl).take ln.length hp7)
      rw [HLN.out] at this
      exact this)
    have t0 : W3.cell? ⟨w.heap.size, 0, none⟩ = some (.int .i64 id) := HKA.out.cell 0
    have t1 : W3.cell? ⟨w.heap.size, 1, none⟩ = some (.string q) := HKA.out.cell 1
    have t2 : W3.cell? ⟨w.heap.size, 2, none⟩ = some (.int .i64 k) := HKA.out.cell 2
    have t3 : W3.cell? ⟨w.heap.size, 3, none⟩ = some (.int .i64 m) := HKA.out.cell 3
    have t4 : W3.cell? ⟨w.heap.size, 4, none⟩ = some (.slice b l.length bc) := HKA.out.cell 4
    have t5 : W3.cell? ⟨w.heap.size, 5, none⟩ = some (.bool false) := HKA.out.cell 5
    have t6 : W3.cell? ⟨w.heap.size, 6, none⟩ = some (.bool false) := HKA.out.cell 6
    have HN := Lib.hid (World.ownsRow_nil W3 W3.heap.size 39 2)
    go_upto_region 8 with (at_builtin; refine wpList_app rfl _ _ 28 28 rfl W3.heap.size 39 i0 (.agg #[.int .i64 0, .string ⟨#[]⟩]) 2 24 Try.underlying28 HI0.out HZ0.out HZ1.out HZ2.out rfl (by decide) none 0 0 [] rfl HN.out _ ln.length (ln.flatMap KeyL.cells) rfl HSR.out A1 A2 (Nat.le_refl _) ?_; intro a7 c7 w5 hown5 hg5; rw [Nat.zero_add, List.nil_append] at hown5; have HO5 := Lib.hid hown5; have HB5 := Lib.hid (show Below W3.heap.size W3 w5 from (Below.refl _ W3).grown hg5 (Nat.le_refl _) (fun k hk => by cases hk)); have HP5 := Lib.hid (H7.out.below HB5.out H7.out.lt); have sx : w5.cell? ⟨p7, 4, none⟩ = some (.slice b l.length bc) := HP5.out.cell 4; have sf : w5.frozen? ⟨p7, 4, none⟩ = false := HP5.out.frozen 4; clear hown5 hg5; try rw [Nat.zero_add])
    have hst := HB5.out.size
    have hlt7 := H7.out.lt
    have hlt8 := H8.out.lt
    have hlt9 := H9.out.lt
    have hltA := HKA.out.lt
    have HF5 : RowKit.Hid (Frm (fun i => i = p7) w5 (w5.setCell ⟨p7, 4, none⟩ (.slice a7 ln.length c7))) := (Frm.refl _ w5).setCell _ _ (.inl rfl)
    have X1 := Lib.hid (HKA.out.below HB5.out HKA.out.lt |>.frm HF5.out (show ¬ w.heap.size = p7 by omega))
    have Y7 := Lib.hid (show Blk (w5.setCell ⟨p7, 4, none⟩ (.slice a7 ln.length c7)) p7 46 [.int .i64 id, .string q, .int .i64 k, .int .i64 m, .slice a7 ln.length c7, .bool false, .bool false] from HP5.out.set 4 (.slice a7 ln.length c7))
    have Y8 := Lib.hid ((H8.out.below HB5.out H8.out.lt).frm HF5.out (show ¬ p8 = p7 by omega))
    have Y9 := Lib.hid ((H9.out.below HB5.out H9.out.lt).frm HF5.out (show ¬ p9 = p7 by omega))
    have X2 := Lib.hid (ownsRow_frm HO5.out HF5.out (fun k hk e => by have := own_ge HO5.out k hk; omega))
    have X3 := Lib.hid (HA.out.trans (((HB5.out.mono HA.out.size).setCell (p := ⟨p7, 4, none⟩) (show w.heap.size ≤ p7 by omega) (.slice a7 ln.length c7))))
    have HBS := Lib.hid (show Frm (fun i => i = p7) W3 (w5.setCell ⟨p7, 4, none⟩ (.slice a7 ln.length c7)) from (Frm.below HB5.out).trans HF5.out (fun _ h _ => h))
    clear HB5 HF5 HP5 HO5 sx sf HSR HN A1 A2 b1 b2 b3 t0 t1 t2 t3 t4 t5 t6 HKA H7 H8 H9 HA
    generalize w5.setCell ⟨p7, 4, none⟩ (.slice a7 ln.length c7) = W4 at *
    have HKA := X1
    have H7 := Y7
    have H8 := Y8
    have H9 := Y9
    have HA := X3
    clear X1 Y7 Y8 Y9 X3
    have HO7 := X2
    clear X2 HBS
    have hp8 : lp.length ≤ l.length := by omega
    have A1 : 0 + lp.length ≤ maxLen := by unfold maxLen; omega
    have A2 : (0 + lp.length) * 24 ≤ 140737488355328 := by omega
    have b1 : (0 : Int) ≤ (lp.length : Int) := by omega
    have b2 : (lp.length : Int) ≤ (bc : Int) := by omega
    have b3 : lp.length ≤ bc := by omega
    have HSR := Lib.hid (show Src Try.prog 2 28 (.slice b lp.length bc) lp.length (lp.flatMap KeyL.cells) W4 from by
      have := Src.ofRdE (P := Try.prog) (tx := 28) (enc := KeyL.cells) (size := 2) Try.underlying28 (fun _ => rfl) itemOne ((HI.out.below HA.out rfl).take lp.length hp8)
      rw [HLP.out] at this
      exact this)
    have t0 : W4.cell? ⟨w.heap.size, 0, none⟩ = some (.int .i64 id) := HKA.out.cell 0
    have t1 : W4.cell? ⟨w.heap.size, 1, none⟩ = some (.string q) := HKA.out.cell 1
    have t2 : W4.cell? ⟨w.heap.size, 2, none⟩ = some (.int .i64 k) := HKA.out.cell 2
    have t3 : W4.cell? ⟨w.heap.size, 3, none⟩ = some (.int .i64 m) := HKA.out.cell 3
    have t4 : W4.cell? ⟨w.heap.size, 4, none⟩ = some (.slice b l.length bc) := HKA.out.cell 4
    have t5 : W4.cell? ⟨w.heap.size, 5, none⟩ = some (.bool false) := HKA.out.cell 5
    have t6 : W4.cell? ⟨w.heap.size, 6, none⟩ = some (.bool false) := HKA.out.cell 6
    have HN := Lib.hid (World.ownsRow_nil W4 W4.heap.size 39 2)
    go_upto_region 9 with (at_builtin; refine wpList_app rfl _ _ 28 28 rfl W4.heap.size 39 i0 (.agg #[.int .i64 0, .string ⟨#[]⟩]) 2 24 Try.underlying28 HI0.out HZ0.out HZ1.out HZ2.out rfl (by decide) none 0 0 [] rfl HN.out _ lp.length (lp.flatMap KeyL.cells) rfl HSR.out A1 A2 (Nat.le_refl _) ?_; intro a8 c8 w5 hown5 hg5; rw [Nat.zero_add, List.nil_append] at hown5; have HO5 := Lib.hid hown5; have HB5 := Lib.hid (show Below W4.heap.size W4 w5 from (Below.refl _ W4).grown hg5 (Nat.le_refl _) (fun k hk => by cases hk)); have HP5 := Lib.hid (H8.out.below HB5.out H8.out.lt); have sx : w5.cell? ⟨p8, 4, none⟩ = some (.slice b l.length bc) := HP5.out.cell 4; have sf : w5.frozen? ⟨p8, 4, none⟩ = false := HP5.out.frozen 4; clear hown5 hg5; try rw [Nat.zero_add])
    have hst := HB5.out.size
    have hlt7 := H7.out.lt
    have hlt8 := H8.out.lt
    have hlt9 := H9.out.lt
    have hltA := HKA.out.lt
    have HF5 : RowKit.Hid (Frm (fun i => i = p8) w5 (w5.setCell ⟨p8, 4, none⟩ (.slice a8 lp.length c8))) := (Frm.refl _ w5).setCell _ _ (.inl rfl)
    have X1 := Lib.hid (HKA.out.below HB5.out HKA.out.lt |>.frm HF5.out (show ¬ w.heap.size = p8 by omega))
    have Y7 := Lib.hid ((H7.out.below HB5.out H7.out.lt).frm HF5.out (show ¬ p7 = p8 by omega))
    have Y8 := Lib.hid (show Blk (w5.setCell ⟨p8, 4, none⟩ (.slice a8 lp.length c8)) p8 46 [.int .i64 id, .string q, .int .i64 k, .int .i64 m, .slice a8 lp.length c8, .bool false, .bool false] from HP5.out.set 4 (.slice a8 lp.length c8))
    have Y9 := Lib.hid ((H9.out.below HB5.out H9.out.lt).frm HF5.out (show ¬ p9 = p8 by omega))
    have X2 := Lib.hid (ownsRow_frm HO5.out HF5.out (fun k hk e => by have := own_ge HO5.out k hk; omega))
    have VHO7 := Lib.hid (ownsRow_frm (ownsRow_below HO7.out HB5.out) HF5.out (fun k hk e => by have := own_ge HO7.out k hk; omega))
    clear HO7
    have X3 := Lib.hid (HA.out.trans (((HB5.out.mono HA.out.size).setCell (p := ⟨p8, 4, none⟩) (show w.heap.size ≤ p8 by omega) (.slice a8 lp.length c8))))
    have HBS := Lib.hid (show Frm (fun i => i = p8) W4 (w5.setCell ⟨p8, 4, none⟩ (.slice a8 lp.length c8)) from (Frm.below HB5.out).trans HF5.out (fun _ h _ => h))
    clear HB5 HF5 HP5 HO5 sx sf HSR HN A1 A2 b1 b2 b3 t0 t1 t2 t3 t4 t5 t6 HKA H7 H8 H9 HA
    generalize w5.setCell ⟨p8, 4, none⟩ (.slice a8 lp.length c8) = W5 at *
    have HKA := X1
    have H7 := Y7
    have H8 := Y8
    have H9 := Y9
    have HA := X3
    clear X1 Y7 Y8 Y9 X3
    have HO7 := VHO7
    clear VHO7
    have HO8 := X2
    clear X2 HBS
    have sx : W5.cell? ⟨p9, 6, none⟩ = some (.bool false) := H9.out.cell 6
    have sf : W5.frozen? ⟨p9, 6, none⟩ = false := H9.out.frozen 6
    have hlt9 := H9.out.lt
    have HF5 : RowKit.Hid (Frm (fun i => i = p9) W5 (W5.setCell ⟨p9, 6, none⟩ (.bool true))) := (Frm.refl _ W5).setCell _ _ (.inl rfl)
    have XA := Lib.hid (HKA.out.frm HF5.out (show ¬ w.heap.size = p9 by omega))
    have X7 := Lib.hid (H7.out.frm HF5.out (show ¬ p7 = p9 by omega))
    have X8 := Lib.hid (H8.out.frm HF5.out (show ¬ p8 = p9 by omega))
    have X9 := Lib.hid (show Blk (W5.setCell ⟨p9, 6, none⟩ (.bool true)) p9 46 [.int .i64 id, .string q, .int .i64 k, .int .i64 m, .slice b l.length bc, .bool false, .bool true] from H9.out.set 6 (.bool true))
    have R7 := Lib.hid (ownsRow_rdE (enc := KeyL.cells) (fun _ => rfl) rfl (ownsRow_frm HO7.out HF5.out (fun k hk e => by have := own_ge HO7.out k hk; omega)))
    have R8 := Lib.hid (ownsRow_rdE (enc := KeyL.cells) (fun _ => rfl) rfl (ownsRow_frm HO8.out HF5.out (fun k hk e => by have := own_ge HO8.out k hk; omega)))
    have XB := Lib.hid (HA.out.setCell (p := ⟨p9, 6, none⟩) (show w.heap.size ≤ p9 by omega) (.bool true))
    clear HKA H7 H8 H9 HO7 HO8 HA HF5
    go_upto_region 10 with fail
    generalize W5.setCell ⟨p9, 6, none⟩ (.bool true) = W6 at *
    clear sx sf
    have HIB := Lib.hid (HI.out.below XB.out rfl)
    have v1 := later_v id q k m
    have L1 : RowKit.Hid (∀ V, RdE KeyL.cells 2 V a8 lp.length c8 lp → RdE KeyL.cells 2 V a7 ln.length c7 ln → Calls Try.prog 42 #[.agg #[.int .i64 id, .string q, .int .i64 k, .int .i64 m, .slice a8 lp.length c8, .bool false, .bool false], .agg #[.int .i64 id, .string q, .int .i64 k, .int .i64 m, .slice a7 ln.length c7, .bool false, .bool false]] V fun e w' => e = .returned (.bool true) ∧ Below V.heap.size V w') := fun V h1 h2 => (clater_any V id q k m a8 c8 lp false false id q k m a7 c7 ln false false h1 h2).mono (fun e w' h => ⟨h.1.trans (by rw [later_v, B1.out]; simp), h.2⟩)
    have L2 : RowKit.Hid (∀ V, RdE KeyL.cells 2 V a7 ln.length c7 ln → RdE KeyL.cells 2 V b l.length bc l → Calls Try.prog 42 #[.agg #[.int .i64 id, .string q, .int .i64 k, .int .i64 m, .slice a7 ln.length c7, .bool false, .bool false], .agg #[.int .i64 id, .string q, .int .i64 k, .int .i64 m, .slice b l.length bc, .bool false, .bool false]] V fun e w' => e = .returned (.bool true) ∧ Below V.heap.size V w') := fun V h1 h2 => (clater_any V id q k m a7 c7 ln false false id q k m b bc l false false h1 h2).mono (fun e w' h => ⟨h.1.trans (by rw [later_v, B2.out]; simp), h.2⟩)
    have L3 : RowKit.Hid (∀ V, RdE KeyL.cells 2 V a8 lp.length c8 lp → RdE KeyL.cells 2 V b l.length bc l → Calls Try.prog 42 #[.agg #[.int .i64 id, .string q, .int .i64 k, .int .i64 m, .slice a8 lp.length c8, .bool false, .bool false], .agg #[.int .i64 id, .string q, .int .i64 k, .int .i64 m, .slice b l.length bc, .bool false, .bool false]] V fun e w' => e = .returned (.bool true) ∧ Below V.heap.size V w') := fun V h1 h2 => (clater_any V id q k m a8 c8 lp false false id q k m b bc l false false h1 h2).mono (fun e w' h => ⟨h.1.trans (by rw [later_v, B3.out]; simp), h.2⟩)
    have L4 : RowKit.Hid (∀ V, RdE KeyL.cells 2 V b l.length bc l → RdE KeyL.cells 2 V b l.length bc l → Calls Try.prog 42 #[.agg #[.int .i64 id, .string q, .int .i64 k, .int .i64 m, .slice b l.length bc, .bool false, .bool false], .agg #[.int .i64 id, .string q, .int .i64 k, .int .i64 m, .slice b l.length bc, .bool false, .bool true]] V fun e w' => e = .returned (.bool true) ∧ Below V.heap.size V w') := fun V h1 h2 => (clater_any V id q k m b bc l false false id q k m b bc l false true h1 h2).mono (fun e w' h => ⟨h.1.trans (by rw [later_v, begI_self]; simp), h.2⟩)
    have L5 : RowKit.Hid (∀ V, RdE KeyL.cells 2 V b l.length bc l → RdE KeyL.cells 2 V b l.length bc l → Calls Try.prog 42 #[.agg #[.int .i64 id, .string q, .int .i64 k, .int .i64 m, .slice b l.length bc, .bool false, .bool true], .agg #[.int .i64 id, .string q, .int .i64 k, .int .i64 m, .slice b l.length bc, .bool false, .bool false]] V fun e w' => e = .returned (.bool false) ∧ Below V.heap.size V w') := fun V h1 h2 => (clater_any V id q k m b bc l false true id q k m b bc l false false h1 h2).mono (fun e w' h => ⟨h.1.trans (by rw [later_v, begI_self]; simp), h.2⟩)
    have L6 : RowKit.Hid (∀ V, RdE KeyL.cells 2 V b l.length bc l → RdE KeyL.cells 2 V a7 ln.length c7 ln → Calls Try.prog 42 #[.agg #[.int .i64 id, .string q, .int .i64 k, .int .i64 m, .slice b l.length bc, .bool false, .bool false], .agg #[.int .i64 id, .string q, .int .i64 k, .int .i64 m, .slice a7 ln.length c7, .bool false, .bool false]] V fun e w' => e = .returned (.bool z) ∧ Below V.heap.size V w') := fun V h1 h2 => (clater_any V id q k m b bc l false false id q k m a7 c7 ln false false h1 h2).mono (fun e w' h => ⟨h.1.trans (by rw [later_v, B4.out]; simp), h.2⟩)
    have L7 : RowKit.Hid (∀ V, RdE KeyL.cells 2 V b l.length bc l → RdE KeyL.cells 2 V b l.length bc l → Calls Try.prog 42 #[.agg #[.int .i64 id, .string q, .int .i64 k, .int .i64 m, .slice b l.length bc, .bool false, .bool true], .agg #[.int .i64 id, .string q, .int .i64 k, .int .i64 m, .slice b l.length bc, .bool false, .bool true]] V fun e w' => e = .returned (.bool true) ∧ Below V.heap.size V w') := fun V h1 h2 => (clater_any V id q k m b bc l false true id q k m b bc l false true h1 h2).mono (fun e w' h => ⟨h.1.trans (by rw [later_v, begI_self]; simp), h.2⟩)
    clear B1 B2 B3 B4 HLN HLP v1
    have t0 : W6.cell? ⟨w.heap.size, 0, none⟩ = some (.int .i64 id) := XA.out.cell 0
    have t1 : W6.cell? ⟨w.heap.size, 1, none⟩ = some (.string q) := XA.out.cell 1
    have t2 : W6.cell? ⟨w.heap.size, 2, none⟩ = some (.int .i64 k) := XA.out.cell 2
    have t3 : W6.cell? ⟨w.heap.size, 3, none⟩ = some (.int .i64 m) := XA.out.cell 3
    have t4 : W6.cell? ⟨w.heap.size, 4, none⟩ = some (.slice b l.length bc) := XA.out.cell 4
    have t5 : W6.cell? ⟨w.heap.size, 5, none⟩ = some (.bool false) := XA.out.cell 5
    have t6 : W6.cell? ⟨w.heap.size, 6, none⟩ = some (.bool false) := XA.out.cell 6
    have s0 : W6.cell? ⟨p7, 0, none⟩ = some (.int .i64 id) := X7.out.cell 0
    have s1 : W6.cell? ⟨p7, 1, none⟩ = some (.string q) := X7.out.cell 1
    have s2 : W6.cell? ⟨p7, 2, none⟩ = some (.int .i64 k) := X7.out.cell 2
    have s3 : W6.cell? ⟨p7, 3, none⟩ = some (.int .i64 m) := X7.out.cell 3
    have s4 : W6.cell? ⟨p7, 4, none⟩ = some (.slice a7 ln.length c7) := X7.out.cell 4
    have s5 : W6.cell? ⟨p7, 5, none⟩ = some (.bool false) := X7.out.cell 5
    have s6 : W6.cell? ⟨p7, 6, none⟩ = some (.bool false) := X7.out.cell 6
    have r0 : W6.cell? ⟨p8, 0, none⟩ = some (.int .i64 id) := X8.out.cell 0
    have r1 : W6.cell? ⟨p8, 1, none⟩ = some (.string q) := X8.out.cell 1
    have r2 : W6.cell? ⟨p8, 2, none⟩ = some (.int .i64 k) := X8.out.cell 2
    have r3 : W6.cell? ⟨p8, 3, none⟩ = some (.int .i64 m) := X8.out.cell 3
    have r4 : W6.cell? ⟨p8, 4, none⟩ = some (.slice a8 lp.length c8) := X8.out.cell 4
    have r5 : W6.cell? ⟨p8, 5, none⟩ = some (.bool false) := X8.out.cell 5
    have r6 : W6.cell? ⟨p8, 6, none⟩ = some (.bool false) := X8.out.cell 6
    have y0 : W6.cell? ⟨p9, 0, none⟩ = some (.int .i64 id) := X9.out.cell 0
    have y1 : W6.cell? ⟨p9, 1, none⟩ = some (.string q) := X9.out.cell 1
    have y2 : W6.cell? ⟨p9, 2, none⟩ = some (.int .i64 k) := X9.out.cell 2
    have y3 : W6.cell? ⟨p9, 3, none⟩ = some (.int .i64 m) := X9.out.cell 3
    have y4 : W6.cell? ⟨p9, 4, none⟩ = some (.slice b l.length bc) := X9.out.cell 4
    have y5 : W6.cell? ⟨p9, 5, none⟩ = some (.bool false) := X9.out.cell 5
    have y6 : W6.cell? ⟨p9, 6, none⟩ = some (.bool true) := X9.out.cell 6
    go_wp2_with fail
    refine (L1.out _ R8.out R7.out).mono ?_
    rintro e V1 ⟨rfl, hb⟩
    clear t0 t1 t2 t3 t4 t5 t6 s0 s1 s2 s3 s4 s5 s6 r0 r1 r2 r3 r4 r5 r6 y0 y1 y2 y3 y4 y5 y6
    have ZXA := Lib.hid (XA.out.below hb XA.out.lt)
    clear XA
    have XA := ZXA
    clear ZXA
    have ZX7 := Lib.hid (X7.out.below hb X7.out.lt)
    clear X7
    have X7 := ZX7
    clear ZX7
    have ZX8 := Lib.hid (X8.out.below hb X8.out.lt)
    clear X8
    have X8 := ZX8
    clear ZX8
    have ZX9 := Lib.hid (X9.out.below hb X9.out.lt)
    clear X9
    have X9 := ZX9
    clear ZX9
    have ZR7 := Lib.hid (R7.out.below hb rfl)
    clear R7
    have R7 := ZR7
    clear ZR7
    have ZR8 := Lib.hid (R8.out.below hb rfl)
    clear R8
    have R8 := ZR8
    clear ZR8
    have ZHIB := Lib.hid (HIB.out.below hb rfl)
    clear HIB
    have HIB := ZHIB
    clear ZHIB
    have ZXB := Lib.hid (XB.out.trans (hb.mono XB.out.size))
    clear XB hb
    have XB := ZXB
    clear ZXB
    have t0 : V1.cell? ⟨w.heap.size, 0, none⟩ = some (.int .i64 id) := XA.out.cell 0
    have t1 : V1.cell? ⟨w.heap.size, 1, none⟩ = some (.string q) := XA.out.cell 1
    have t2 : V1.cell? ⟨w.heap.size, 2, none⟩ = some (.int .i64 k) := XA.out.cell 2
    have t3 : V1.cell? ⟨w.heap.size, 3, none⟩ = some (.int .i64 m) := XA.out.cell 3
    have t4 : V1.cell? ⟨w.heap.size, 4, none⟩ = some (.slice b l.length bc) := XA.out.cell 4
    have t5 : V1.cell? ⟨w.heap.size, 5, none⟩ = some (.bool false) := XA.out.cell 5
    have t6 : V1.cell? ⟨w.heap.size, 6, none⟩ = some (.bool false) := XA.out.cell 6
    have s0 : V1.cell? ⟨p7, 0, none⟩ = some (.int .i64 id) := X7.out.cell 0
    have s1 : V1.cell? ⟨p7, 1, none⟩ = some (.string q) := X7.out.cell 1
    have s2 : V1.cell? ⟨p7, 2, none⟩ = some (.int .i64 k) := X7.out.cell 2
    have s3 : V1.cell? ⟨p7, 3, none⟩ = some (.int .i64 m) := X7.out.cell 3
    have s4 : V1.cell? ⟨p7, 4, none⟩ = some (.slice a7 ln.length c7) := X7.out.cell 4
    have s5 : V1.cell? ⟨p7, 5, none⟩ = some (.bool false) := X7.out.cell 5
    have s6 : V1.cell? ⟨p7, 6, none⟩ = some (.bool false) := X7.out.cell 6
    have r0 : V1.cell? ⟨p8, 0, none⟩ = some (.int .i64 id) := X8.out.cell 0
    have r1 : V1.cell? ⟨p8, 1, none⟩ = some (.string q) := X8.out.cell 1
    have r2 : V1.cell? ⟨p8, 2, none⟩ = some (.int .i64 k) := X8.out.cell 2
    have r3 : V1.cell? ⟨p8, 3, none⟩ = some (.int .i64 m) := X8.out.cell 3
    have r4 : V1.cell? ⟨p8, 4, none⟩ = some (.slice a8 lp.length c8) := X8.out.cell 4
    have r5 : V1.cell? ⟨p8, 5, none⟩ = some (.bool false) := X8.out.cell 5
    have r6 : V1.cell? ⟨p8, 6, none⟩ = some (.bool false) := X8.out.cell 6
    have y0 : V1.cell? ⟨p9, 0, none⟩ = some (.int .i64 id) := X9.out.cell 0
    have y1 : V1.cell? ⟨p9, 1, none⟩ = some (.string q) := X9.out.cell 1
    have y2 : V1.cell? ⟨p9, 2, none⟩ = some (.int .i64 k) := X9.out.cell 2
    have y3 : V1.cell? ⟨p9, 3, none⟩ = some (.int .i64 m) := X9.out.cell 3
    have y4 : V1.cell? ⟨p9, 4, none⟩ = some (.slice b l.length bc) := X9.out.cell 4
    have y5 : V1.cell? ⟨p9, 5, none⟩ = some (.bool false) := X9.out.cell 5
    have y6 : V1.cell? ⟨p9, 6, none⟩ = some (.bool true) := X9.out.cell 6
    go_wp2_with fail
    refine (L2.out _ R7.out HIB.out).mono ?_
    rintro e V2 ⟨rfl, hb⟩
    clear t0 t1 t2 t3 t4 t5 t6 s0 s1 s2 s3 s4 s5 s6 r0 r1 r2 r3 r4 r5 r6 y0 y1 y2 y3 y4 y5 y6
    have ZXA := Lib.hid (XA.out.below hb XA.out.lt)
    clear XA
    have XA := ZXA
    clear ZXA
    have ZX7 := Lib.hid (X7.out.below hb X7.out.lt)
    clear X7
    have X7 := ZX7
    clear ZX7
    have ZX8 := Lib.hid (X8.out.below hb X8.out.lt)
    clear X8
    have X8 := ZX8
    clear ZX8
    have ZX9 := Lib.hid (X9.out.below hb X9.out.lt)
    clear X9
    have X9 := ZX9
    clear ZX9
    have ZR7 := Lib.hid (R7.out.below hb rfl)
    clear R7
    have R7 := ZR7
    clear ZR7
    have ZR8 := Lib.hid (R8.out.below hb rfl)
    clear R8
    have R8 := ZR8
    clear ZR8
    have ZHIB := Lib.hid (HIB.out.below hb rfl)
    clear HIB
    have HIB := ZHIB
    clear ZHIB
    have ZXB := Lib.hid (XB.out.trans (hb.mono XB.out.size))
    clear XB hb
    have XB := ZXB
    clear ZXB
    have t0 : V2.cell? ⟨w.heap.size, 0, none⟩ = some (.int .i64 id) := XA.out.cell 0
    have t1 : V2.cell? ⟨w.heap.size, 1, none⟩ = some (.string q) := XA.out.cell 1
    have t2 : V2.cell? ⟨w.heap.size, 2, none⟩ = some (.int .i64 k) := XA.out.cell 2
    have t3 : V2.cell? ⟨w.heap.size, 3, none⟩ = some (.int .i64 m) := XA.out.cell 3
    have t4 : V2.cell? ⟨w.heap.size, 4, none⟩ = some (.slice b l.length bc) := XA.out.cell 4
    have t5 : V2.cell? ⟨w.heap.size, 5, none⟩ = some (.bool false) := XA.out.cell 5
    have t6 : V2.cell? ⟨w.heap.size, 6, none⟩ = some (.bool false) := XA.out.cell 6
    have s0 : V2.cell? ⟨p7, 0, none⟩ = some (.int .i64 id) := X7.out.cell 0
    have s1 : V2.cell? ⟨p7, 1, none⟩ = some (.string q) := X7.out.cell 1
    have s2 : V2.cell? ⟨p7, 2, none⟩ = some (.int .i64 k) := X7.out.cell 2
    have s3 : V2.cell? ⟨p7, 3, none⟩ = some (.int .i64 m) := X7.out.cell 3
    have s4 : V2.cell? ⟨p7, 4, none⟩ = some (.slice a7 ln.length c7) := X7.out.cell 4
    have s5 : V2.cell? ⟨p7, 5, none⟩ = some (.bool false) := X7.out.cell 5
    have s6 : V2.cell? ⟨p7, 6, none⟩ = some (.bool false) := X7.out.cell 6
    have r0 : V2.cell? ⟨p8, 0, none⟩ = some (.int .i64 id) := X8.out.cell 0
    have r1 : V2.cell? ⟨p8, 1, none⟩ = some (.string q) := X8.out.cell 1
    have r2 : V2.cell? ⟨p8, 2, none⟩ = some (.int .i64 k) := X8.out.cell 2
    have r3 : V2.cell? ⟨p8, 3, none⟩ = some (.int .i64 m) := X8.out.cell 3
    have r4 : V2.cell? ⟨p8, 4, none⟩ = some (.slice a8 lp.length c8) := X8.out.cell 4
    have r5 : V2.cell? ⟨p8, 5, none⟩ = some (.bool false) := X8.out.cell 5
    have r6 : V2.cell? ⟨p8, 6, none⟩ = some (.bool false) := X8.out.cell 6
    have y0 : V2.cell? ⟨p9, 0, none⟩ = some (.int .i64 id) := X9.out.cell 0
    have y1 : V2.cell? ⟨p9, 1, none⟩ = some (.string q) := X9.out.cell 1
    have y2 : V2.cell? ⟨p9, 2, none⟩ = some (.int .i64 k) := X9.out.cell 2
    have y3 : V2.cell? ⟨p9, 3, none⟩ = some (.int .i64 m) := X9.out.cell 3
    have y4 : V2.cell? ⟨p9, 4, none⟩ = some (.slice b l.length bc) := X9.out.cell 4
    have y5 : V2.cell? ⟨p9, 5, none⟩ = some (.bool false) := X9.out.cell 5
    have y6 : V2.cell? ⟨p9, 6, none⟩ = some (.bool true) := X9.out.cell 6
    go_wp2_with fail
    refine (L3.out _ R8.out HIB.out).mono ?_
    rintro e V3 ⟨rfl, hb⟩
    clear t0 t1 t2 t3 t4 t5 t6 s0 s1 s2 s3 s4 s5 s6 r0 r1 r2 r3 r4 r5 r6 y0 y1 y2 y3 y4 y5 y6
    have ZXA := Lib.hid (XA.out.below hb XA.out.lt)
    clear XA
    have XA := ZXA
    clear ZXA
    have ZX7 := Lib.hid (X7.out.below hb X7.out.lt)
    clear X7
    have X7 := ZX7
    clear ZX7
    have ZX8 := Lib.hid (X8.out.below hb X8.out.lt)
    clear X8
    have X8 := ZX8
    clear ZX8
    have ZX9 := Lib.hid (X9.out.below hb X9.out.lt)
    clear X9
    have X9 := ZX9
    clear ZX9
    have ZR7 := Lib.hid (R7.out.below hb rfl)
    clear R7
    have R7 := ZR7
    clear ZR7
    have ZR8 := Lib.hid (R8.out.below hb rfl)
    clear R8
    have R8 := ZR8
    clear ZR8
    have ZHIB := Lib.hid (HIB.out.below hb rfl)
    clear HIB
    have HIB := ZHIB
    clear ZHIB
    have ZXB := Lib.hid (XB.out.trans (hb.mono XB.out.size))
    clear XB hb
    have XB := ZXB
    clear ZXB
    have t0 : V3.cell? ⟨w.heap.size, 0, none⟩ = some (.int .i64 id) := XA.out.cell 0
    have t1 : V3.cell? ⟨w.heap.size, 1, none⟩ = some (.string q) := XA.out.cell 1
    have t2 : V3.cell? ⟨w.heap.size, 2, none⟩ = some (.int .i64 k) := XA.out.cell 2
    have t3 : V3.cell? ⟨w.heap.size, 3, none⟩ = some (.int .i64 m) := XA.out.cell 3
    have t4 : V3.cell? ⟨w.heap.size, 4, none⟩ = some (.slice b l.length bc) := XA.out.cell 4
    have t5 : V3.cell? ⟨w.heap.size, 5, none⟩ = some (.bool false) := XA.out.cell 5
    have t6 : V3.cell? ⟨w.heap.size, 6, none⟩ = some (.bool false) := XA.out.cell 6
    have s0 : V3.cell? ⟨p7, 0, none⟩ = some (.int .i64 id) := X7.out.cell 0
    have s1 : V3.cell? ⟨p7, 1, none⟩ = some (.string q) := X7.out.cell 1
    have s2 : V3.cell? ⟨p7, 2, none⟩ = some (.int .i64 k) := X7.out.cell 2
    have s3 : V3.cell? ⟨p7, 3, none⟩ = some (.int .i64 m) := X7.out.cell 3
    have s4 : V3.cell? ⟨p7, 4, none⟩ = some (.slice a7 ln.length c7) := X7.out.cell 4
    have s5 : V3.cell? ⟨p7, 5, none⟩ = some (.bool false) := X7.out.cell 5
    have s6 : V3.cell? ⟨p7, 6, none⟩ = some (.bool false) := X7.out.cell 6
    have r0 : V3.cell? ⟨p8, 0, none⟩ = some (.int .i64 id) := X8.out.cell 0
    have r1 : V3.cell? ⟨p8, 1, none⟩ = some (.string q) := X8.out.cell 1
    have r2 : V3.cell? ⟨p8, 2, none⟩ = some (.int .i64 k) := X8.out.cell 2
    have r3 : V3.cell? ⟨p8, 3, none⟩ = some (.int .i64 m) := X8.out.cell 3
    have r4 : V3.cell? ⟨p8, 4, none⟩ = some (.slice a8 lp.length c8) := X8.out.cell 4
    have r5 : V3.cell? ⟨p8, 5, none⟩ = some (.bool false) := X8.out.cell 5
    have r6 : V3.cell? ⟨p8, 6, none⟩ = some (.bool false) := X8.out.cell 6
    have y0 : V3.cell? ⟨p9, 0, none⟩ = some (.int .i64 id) := X9.out.cell 0
    have y1 : V3.cell? ⟨p9, 1, none⟩ = some (.string q) := X9.out.cell 1
    have y2 : V3.cell? ⟨p9, 2, none⟩ = some (.int .i64 k) := X9.out.cell 2
    have y3 : V3.cell? ⟨p9, 3, none⟩ = some (.int .i64 m) := X9.out.cell 3
    have y4 : V3.cell? ⟨p9, 4, none⟩ = some (.slice b l.length bc) := X9.out.cell 4
    have y5 : V3.cell? ⟨p9, 5, none⟩ = some (.bool false) := X9.out.cell 5
    have y6 : V3.cell? ⟨p9, 6, none⟩ = some (.bool true) := X9.out.cell 6
    go_wp2_with fail
    refine (L4.out _ HIB.out HIB.out).mono ?_
    rintro e V4 ⟨rfl, hb⟩
    clear t0 t1 t2 t3 t4 t5 t6 s0 s1 s2 s3 s4 s5 s6 r0 r1 r2 r3 r4 r5 r6 y0 y1 y2 y3 y4 y5 y6
    have ZXA := Lib.hid (XA.out.below hb XA.out.lt)
    clear XA
    have XA := ZXA
    clear ZXA
    have ZX7 := Lib.hid (X7.out.below hb X7.out.lt)
    clear X7
    have X7 := ZX7
    clear ZX7
    have ZX8 := Lib.hid (X8.out.below hb X8.out.lt)
    clear X8
    have X8 := ZX8
    clear ZX8
    have ZX9 := Lib.hid (X9.out.below hb X9.out.lt)
    clear X9
    have X9 := ZX9
    clear ZX9
    have ZR7 := Lib.hid (R7.out.below hb rfl)
    clear R7
    have R7 := ZR7
    clear ZR7
    have ZR8 := Lib.hid (R8.out.below hb rfl)
    clear R8
    have R8 := ZR8
    clear ZR8
    have ZHIB := Lib.hid (HIB.out.below hb rfl)
    clear HIB
    have HIB := ZHIB
    clear ZHIB
    have ZXB := Lib.hid (XB.out.trans (hb.mono XB.out.size))
    clear XB hb
    have XB := ZXB
    clear ZXB
    have t0 : V4.cell? ⟨w.heap.size, 0, none⟩ = some (.int .i64 id) := XA.out.cell 0
    have t1 : V4.cell? ⟨w.heap.size, 1, none⟩ = some (.string q) := XA.out.cell 1
    have t2 : V4.cell? ⟨w.heap.size, 2, none⟩ = some (.int .i64 k) := XA.out.cell 2
    have t3 : V4.cell? ⟨w.heap.size, 3, none⟩ = some (.int .i64 m) := XA.out.cell 3
    have t4 : V4.cell? ⟨w.heap.size, 4, none⟩ = some (.slice b l.length bc) := XA.out.cell 4
    have t5 : V4.cell? ⟨w.heap.size, 5, none⟩ = some (.bool false) := XA.out.cell 5
    have t6 : V4.cell? ⟨w.heap.size, 6, none⟩ = some (.bool false) := XA.out.cell 6
    have s0 : V4.cell? ⟨p7, 0, none⟩ = some (.int .i64 id) := X7.out.cell 0
    have s1 : V4.cell? ⟨p7, 1, none⟩ = some (.string q) := X7.out.cell 1
    have s2 : V4.cell? ⟨p7, 2, none⟩ = some (.int .i64 k) := X7.out.cell 2
    have s3 : V4.cell? ⟨p7, 3, none⟩ = some (.int .i64 m) := X7.out.cell 3
    have s4 : V4.cell? ⟨p7, 4, none⟩ = some (.slice a7 ln.length c7) := X7.out.cell 4
    have s5 : V4.cell? ⟨p7, 5, none⟩ = some (.bool false) := X7.out.cell 5
    have s6 : V4.cell? ⟨p7, 6, none⟩ = some (.bool false) := X7.out.cell 6
    have r0 : V4.cell? ⟨p8, 0, none⟩ = some (.int .i64 id) := X8.out.cell 0
    have r1 : V4.cell? ⟨p8, 1, none⟩ = some (.string q) := X8.out.cell 1
    have r2 : V4.cell? ⟨p8, 2, none⟩ = some (.int .i64 k) := X8.out.cell 2
    have r3 : V4.cell? ⟨p8, 3, none⟩ = some (.int .i64 m) := X8.out.cell 3
    have r4 : V4.cell? ⟨p8, 4, none⟩ = some (.slice a8 lp.length c8) := X8.out.cell 4
    have r5 : V4.cell? ⟨p8, 5, none⟩ = some (.bool false) := X8.out.cell 5
    have r6 : V4.cell? ⟨p8, 6, none⟩ = some (.bool false) := X8.out.cell 6
    have y0 : V4.cell? ⟨p9, 0, none⟩ = some (.int .i64 id) := X9.out.cell 0
    have y1 : V4.cell? ⟨p9, 1, none⟩ = some (.string q) := X9.out.cell 1
    have y2 : V4.cell? ⟨p9, 2, none⟩ = some (.int .i64 k) := X9.out.cell 2
    have y3 : V4.cell? ⟨p9, 3, none⟩ = some (.int .i64 m) := X9.out.cell 3
    have y4 : V4.cell? ⟨p9, 4, none⟩ = some (.slice b l.length bc) := X9.out.cell 4
    have y5 : V4.cell? ⟨p9, 5, none⟩ = some (.bool false) := X9.out.cell 5
    have y6 : V4.cell? ⟨p9, 6, none⟩ = some (.bool true) := X9.out.cell 6
    go_wp2_with fail
    refine (L5.out _ HIB.out HIB.out).mono ?_
    rintro e V5 ⟨rfl, hb⟩
    clear t0 t1 t2 t3 t4 t5 t6 s0 s1 s2 s3 s4 s5 s6 r0 r1 r2 r3 r4 r5 r6 y0 y1 y2 y3 y4 y5 y6
    have ZXA := Lib.hid (XA.out.below hb XA.out.lt)
    clear XA
    have XA := ZXA
    clear ZXA
    have ZX7 := Lib.hid (X7.out.below hb X7.out.lt)
    clear X7
    have X7 := ZX7
    clear ZX7
    have ZX8 := Lib.hid (X8.out.below hb X8.out.lt)
    clear X8
    have X8 := ZX8
    clear ZX8
    have ZX9 := Lib.hid (X9.out.below hb X9.out.lt)
    clear X9
    have X9 := ZX9
    clear ZX9
    have ZR7 := Lib.hid (R7.out.below hb rfl)
    clear R7
    have R7 := ZR7
    clear ZR7
    have ZR8 := Lib.hid (R8.out.below hb rfl)
    clear R8
    have R8 := ZR8
    clear ZR8
    have ZHIB := Lib.hid (HIB.out.below hb rfl)
    clear HIB
    have HIB := ZHIB
    clear ZHIB
    have ZXB := Lib.hid (XB.out.trans (hb.mono XB.out.size))
    clear XB hb
    have XB := ZXB
    clear ZXB
    have HGB : RowKit.Hid (Below V5.heap.size V5 V5.drew) := below_drewN (Below.refl _ _) 1
    have zz : (z == z) = true := by simp
    go_upto_region 12 with fail
    go_region_held3 (fun w' => w'.cell? ⟨w.heap.size, 0, none⟩ = some (.int .i64 id) ∧ w'.cell? ⟨w.heap.size, 1, none⟩ = some (.string q) ∧ w'.cell? ⟨w.heap.size, 2, none⟩ = some (.int .i64 k) ∧ w'.cell? ⟨w.heap.size, 3, none⟩ = some (.int .i64 m) ∧ w'.cell? ⟨w.heap.size, 4, none⟩ = some (.slice b l.length bc) ∧ w'.cell? ⟨w.heap.size, 5, none⟩ = some (.bool false) ∧ w'.cell? ⟨w.heap.size, 6, none⟩ = some (.bool false) ∧ w'.cell? ⟨p7, 0, none⟩ = some (.int .i64 id) ∧ w'.cell? ⟨p7, 1, none⟩ = some (.string q) ∧ w'.cell? ⟨p7, 2, none⟩ = some (.int .i64 k) ∧ w'.cell? ⟨p7, 3, none⟩ = some (.int .i64 m) ∧ w'.cell? ⟨p7, 4, none⟩ = some (.slice a7 ln.length c7) ∧ w'.cell? ⟨p7, 5, none⟩ = some (.bool false) ∧ w'.cell? ⟨p7, 6, none⟩ = some (.bool false) ∧ w'.cell? ⟨p9, 0, none⟩ = some (.int .i64 id) ∧ w'.cell? ⟨p9, 1, none⟩ = some (.string q) ∧ w'.cell? ⟨p9, 2, none⟩ = some (.int .i64 k) ∧ w'.cell? ⟨p9, 3, none⟩ = some (.int .i64 m) ∧ w'.cell? ⟨p9, 4, none⟩ = some (.slice b l.length bc) ∧ w'.cell? ⟨p9, 5, none⟩ = some (.bool false) ∧ w'.cell? ⟨p9, 6, none⟩ = some (.bool true)) (exact ⟨(Blk.below XA.out HGB.out (Blk.lt XA.out)).cell 0, (Blk.below XA.out HGB.out (Blk.lt XA.out)).cell 1, (Blk.below XA.out HGB.out (Blk.lt XA.out)).cell 2, (Blk.below XA.out HGB.out (Blk.lt XA.out)).cell 3, (Blk.below XA.out HGB.out (Blk.lt XA.out)).cell 4, (Blk.below XA.out HGB.out (Blk.lt XA.out)).cell 5, (Blk.below XA.out HGB.out (Blk.lt XA.out)).cell 6, (Blk.below X7.out HGB.out (Blk.lt X7.out)).cell 0, (Blk.below X7.out HGB.out (Blk.lt X7.out)).cell 1, (Blk.below X7.out HGB.out (Blk.lt X7.out)).cell 2, (Blk.below X7.out HGB.out (Blk.lt X7.out)).cell 3, (Blk.below X7.out HGB.out (Blk.lt X7.out)).cell 4, (Blk.below X7.out HGB.out (Blk.lt X7.out)).cell 5, (Blk.below X7.out HGB.out (Blk.lt X7.out)).cell 6, (Blk.below X9.out HGB.out (Blk.lt X9.out)).cell 0, (Blk.below X9.out HGB.out (Blk.lt X9.out)).cell 1, (Blk.below X9.out HGB.out (Blk.lt X9.out)).cell 2, (Blk.below X9.out HGB.out (Blk.lt X9.out)).cell 3, (Blk.below X9.out HGB.out (Blk.lt X9.out)).cell 4, (Blk.below X9.out HGB.out (Blk.lt X9.out)).cell 5, (Blk.below X9.out HGB.out (Blk.lt X9.out)).cell 6⟩) (first | (go_at_call 42; (with_reducible refine (L6.out _ (HIB.out.below HGB.out rfl) (R7.out.below HGB.out rfl)).mono ?_); rintro e u ⟨rfl, hb⟩; have HSN := Lib.hid (HGB.out.trans (hb.mono HGB.out.size)); clear HGB; have HGB := HSN; clear HSN; clear hb) | (go_at_call 42; (with_reducible refine (L7.out _ (HIB.out.below HGB.out rfl) (HIB.out.below HGB.out rfl)).mono ?_); rintro e u ⟨rfl, hb⟩; have HSN := Lib.hid (HGB.out.trans (hb.mono HGB.out.size)); clear HGB; have HGB := HSN; clear HSN; clear hb) | (go_at_call 35; (with_reducible refine (HZ.out _).mono ?_); rintro e u ⟨rfl, hb⟩; have HSN := Lib.hid (HGB.out.trans (hb.mono HGB.out.size)); clear HGB; have HGB := HSN; clear HSN; clear hb))
    have HB6 := Lib.hid (XB.out.trans (HGB.out.mono XB.out.size))
    go_wp2_with fail
    go_ret
    exact ⟨rfl, HB6.out⟩
end Go.Proofs.Ytiohngcmojkheaa
