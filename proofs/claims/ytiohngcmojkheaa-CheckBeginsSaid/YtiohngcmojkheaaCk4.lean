/- CheckBegins. -/
import Derived.Test.YtiohngcmojkheaaCk5
namespace Go.Proofs.Ytiohngcmojkheaa
open Go.RowKit
set_option linter.unusedVariables false

theorem wrap_succ (d : Int) : IntKind.i64.wrap (d + 1) ≠ d := by rw [IntKind.wrap_i64]; omega
theorem compT_self {l tl : List KeyL} {z : Bool} (h : begI l tl = true) (hz : decide (l.length = tl.length) = z) : compT l tl = z := by
  unfold compT
  rw [h, hz]
  rfl
theorem rightT_self (l : List KeyL) : rightT l l true false = true := by
  unfold rightT compT
  rw [begI_self]
  simp
theorem RdE_frm {α : Type} {enc : α → List Value} {size : Nat} {S : Nat → Prop} {w w' : World} {a : Option Addr} {n c : Nat} {l : List α} (h : RdE enc size w a n c l) (hf : Frm S w w') (hs : ∀ b o sp, a = some ⟨b, o, sp⟩ → ¬ S b) : RdE enc size w' a n c l := by
  obtain ⟨h1, h2, h3, h4, h5⟩ := h
  refine ⟨h1, h2, h3, h4, fun i x hx => ?_⟩
  obtain ⟨b, off, e, hb, hc⟩ := h5 i x hx
  exact ⟨b, off, e, Nat.lt_of_lt_of_le hb hf.size, fun j hj => by rw [World.cell?_of_block (w := w) (hf.block b hb (hs b off none e))]; exact hc j hj⟩
/-- the first told one lies in a block of its own, its items in another one -/
def CbA (W0 : World) (q : ByteArray) (k m : Int) (la : List KeyL) (v8 : Value) (wx : World) : Prop := ∃ (wy : World) (p : Nat) (a : Option Addr) (c : Nat), wy = wx ∧ v8 = .pointer (some ⟨p, 0, none⟩) ∧ W0.heap.size ≤ p ∧ RowKit.Hid (Blk wx p 46 [.int .i64 3, .string q, .int .i64 k, .int .i64 m, .slice a la.length c, .bool false, .bool false]) ∧ RowKit.Hid (wx.ownsRow W0.heap.size 39 2 (.slice a la.length c) la.length (la.flatMap KeyL.cells)) ∧ RowKit.Hid (Below W0.heap.size W0 wx)
set_option maxRecDepth 100000 in
set_option maxHeartbeats 8000000 in
theorem begins_law (w : World) (ao : Option Addr) (nw cw : Nat) (words : List ByteArray) (q : ByteArray) (k m : Int) (nn : Int) (h : RdT w ao nw cw words) (hw : ∀ s ∈ words, s.size ≤ maxLen) (hq : q.size ≤ maxLen) :
    Calls Try.prog 9 #[.slice ao nw cw, .agg #[.string q, .int .i64 k, .int .i64 m], .int .i64 nn] w fun e w' => e = .returned (.bool true) ∧ Below w.heap.size w w' := by
  have hnl := h.len
  subst hnl
  obtain ⟨i0, hinf, hz0, hz1, hz2⟩ := info_parts infoI2
  have HI0 := Lib.hid hinf
  have HZ0 := Lib.hid hz0
  have HZ1 := Lib.hid hz1
  have HZ2 := Lib.hid hz2
  clear hinf hz0 hz1 hz2
  have HB := Lib.hid ((Below.refl _ w).alloc (Nat.le_refl _) (.cells #[.string q, .int .i64 k, .int .i64 m] 24))
  have HK := Lib.hid (show Blk (w.alloc (.cells #[.string q, .int .i64 k, .int .i64 m] 24)) w.heap.size 24 [.string q, .int .i64 k, .int .i64 m] from heap_alloc_new w _)
  obtain ⟨W, hW⟩ : ∃ W, w.alloc (.cells #[.string q, .int .i64 k, .int .i64 m] 24) = W := ⟨_, rfl⟩
  rw [hW] at HB HK
  have HG := Lib.hid (greatT_any ao words.length cw words W (Rd.below h HB.out rfl) hw)
  have HZ : RowKit.Hid (∀ V, Calls Try.prog 35 #[] V fun e w' => e = .returned (.bool true) ∧ Below V.heap.size V w') := fun V => awake28_any V
  have HR := Lib.hid h
  clear h hw
  unfold maxLen at hq
  have t0 : W.cell? ⟨w.heap.size, 0, none⟩ = some (.string q) := HK.out.cell 0
  have t1 : W.cell? ⟨w.heap.size, 1, none⟩ = some (.int .i64 k) := HK.out.cell 1
  have t2 : W.cell? ⟨w.heap.size, 2, none⟩ = some (.int .i64 m) := HK.out.cell 2
  go_enter Try.func9, Try.ntmps9
  go_wp2_with (rw [hW])
  clear hW
  refine HG.out.mono ?_
  rintro e w1 ⟨rfl, rfl⟩
  clear HG
  cases hg : greatT words
  case true =>
    clear hg
    go_wp2_with fail
    refine (HZ.out _).mono ?_
    rintro e w1 ⟨rfl, hb⟩
    have HB3 := Lib.hid (HB.out.trans (hb.mono HB.out.size))
    clear hb
    go_wp2_with fail
    go_ret
    exact ⟨rfl, HB3.out⟩
  have hl80 := (greatT_false hg).1
  have HW := Lib.hid (fun s hs => Nat.le_trans ((greatT_false hg).2 s hs) (by decide : 100 ≤ 1000))
  clear hg
  by_cases hqs : 100 < q.size
  · have d1 : decide ((100 : Int) < (q.size : Int)) = true := by simp; omega
    have d2 : decide (100 < q.size) = true := by simpa using hqs
    go_wp2_with fail
    refine (HZ.out _).mono ?_
    rintro e w1 ⟨rfl, hb⟩
    have HB3 := Lib.hid (HB.out.trans (hb.mono HB.out.size))
    clear hb
    go_wp2_with fail
    go_ret
    exact ⟨rfl, HB3.out⟩
  have d1 : decide ((100 : Int) < (q.size : Int)) = false := by simp; omega
  have d2 : decide (100 < q.size) = false := by simpa using hqs
  have hq1 : q.size ≤ 1000 := by omega
  have hws : words.length ≤ 1000 := by omega
  have HT := Lib.hid (fun V h => rtop_any V ao words.length cw words q k m h hws HW.out hq1)
  have htl := Nat.le_trans (topL_len words q k m) hl80
  have CP := Lib.hid (fun V id b bc its d cc h1 h2 => cprefix_any V ao words.length cw words id q k m b bc its d cc h1 hws HW.out hq1 h2)
  have CC := Lib.hid (fun V id b bc its d cc h1 h2 => ccomplete_any V ao words.length cw words id q k m b bc its d cc h1 hws HW.out hq1 h2)
  have CR := Lib.hid (fun V id b bc its d cc h1 h2 => cright_any V ao words.length cw words id q k m b bc its d cc h1 hws HW.out hq1 h2)
  generalize topL words q k m = tl at *
  go_wp2_with fail
  refine (HT.out _ (Rd.below HR.out HB.out rfl)).mono ?_
  rintro e W1 ⟨a1, c1, rfl, hown, hb⟩
  have HX := Lib.hid (ownsRow_rdE (enc := KeyL.cells) (fun _ => rfl) rfl hown)
  have HA := Lib.hid (HB.out.trans (hb.mono HB.out.size))
  have HKQ := Lib.hid (HK.out.below hb HK.out.lt)
  have hcap := HX.out.2.1
  have hcm := HX.out.2.2.1
  unfold maxLen at hcm
  have hltQ := HKQ.out.lt
  have HXL := Lib.hid (fun b o sp (e : a1 = some ⟨b, o, sp⟩) => show b < W1.heap.size from by
    rcases hx1 : a1 with _ | ad
    · rw [hx1] at e; cases e
    · rw [hx1] at e
      obtain rfl := Option.some.inj e
      rw [hx1] at hown
      exact (hown.lt b rfl).2)
  have hA1 := HA.out.size
  clear hown hb HB HK HT t0 t1 t2 d1 d2 hqs
  obtain ⟨n, hn, hnl⟩ := @low_nat nn tl.length
  obtain ⟨la, hla⟩ : ∃ x, tl.take n = x := ⟨_, rfl⟩
  obtain rfl : n = la.length := by rw [← hla, List.length_take]; omega
  have b2 : begI la tl = true := by rw [← hla]; exact begI_take_full
  have b4 : begI tl la = decide (la.length = tl.length) := by
    have := @begI_full tl la.length hnl
    rw [hla] at this
    exact this
  have e1 : ((la.length : Int) == (tl.length : Int)) = decide (la.length = tl.length) := by rw [Bool.eq_iff_iff]; simp; omega
  obtain ⟨z, hzz⟩ : ∃ z, decide (la.length = tl.length) = z := ⟨_, rfl⟩
  have HZD := Lib.hid hzz
  rw [hzz] at b4 e1
  clear hzz
  have HLA := Lib.hid hla
  have B2 := Lib.hid b2
  have B4 := Lib.hid b4
  clear hla b2 b4
  have HL1 := Lib.hid (fun V => low_any nn ((tl.length : Int) + 1) V (by omega) (by omega))
  rw [hn] at HL1
  clear hn
  have t0 : W1.cell? ⟨w.heap.size, 0, none⟩ = some (.string q) := HKQ.out.cell 0
  have t1 : W1.cell? ⟨w.heap.size, 1, none⟩ = some (.int .i64 k) := HKQ.out.cell 1
  have t2 : W1.cell? ⟨w.heap.size, 2, none⟩ = some (.int .i64 m) := HKQ.out.cell 2
  go_wp2_with fail
  refine (HL1.out _).mono ?_
  rintro e w1 ⟨rfl, rfl⟩
  clear HL1
  have A1 : 0 + la.length ≤ maxLen := by unfold maxLen; omega
  have A2 : (0 + la.length) * 24 ≤ 140737488355328 := by omega
  have b1 : (0 : Int) ≤ (la.length : Int) := by omega
  have b2 : (la.length : Int) ≤ (c1 : Int) := by omega
  have b3 : la.length ≤ c1 := by omega
  have HSR := Lib.hid (fun V (hb : Below W1.heap.size W1 V) => show Src Try.prog 2 28 (.slice a1 la.length c1) la.length (la.flatMap KeyL.cells) V from by
    have := Src.ofRdE (P := Try.prog) (tx := 28) (enc := KeyL.cells) (size := 2) Try.underlying28 (fun _ => rfl) itemOne ((HX.out.below hb rfl).take la.length hnl)
    rw [HLA.out] at this
    exact this)
  go_upto_region 5 with fail
  go_cut [8] from 27 to 32 (fun v8 wx => CbA W1 q k m la v8 wx)
  case first =>
    have HGB : RowKit.Hid (Below W1.heap.size W1 W1.drew) := below_drewN (Below.refl _ _) 1
    refine wp_region_held_drew (S := (fun w' => Below W1.heap.size W1 w')) (by kernel_rfl) (by exact HGB.out) (fun hHeld => ?_)
    refine takeO 0 (some 27) (v := ?_) rfl rfl (by kernel_rfl) (by kernel_rfl) (by kernel_rfl) (fun _ _ _ h => h) (Or.inl ⟨by rfl, ?_⟩) (by assumption) ?_
    rotate_left 1
    · intro wv hSw; (try dsimp only at hSw); have y0 : wv.cell? ⟨w.heap.size, 0, none⟩ = some (.string q) := (Blk.below HKQ.out hSw HKQ.out.lt).cell 0; have y1 : wv.cell? ⟨w.heap.size, 1, none⟩ = some (.int .i64 k) := (Blk.below HKQ.out hSw HKQ.out.lt).cell 1; have y2 : wv.cell? ⟨w.heap.size, 2, none⟩ = some (.int .i64 m) := (Blk.below HKQ.out hSw HKQ.out.lt).cell 2; go_simp; all_goals with_reducible rfl
    try simp only [Act.put, List.setIfInBounds_toArray, List.set_cons_zero, List.set_cons_succ]
    refine takeO 1 (some 28) (v := ?_) rfl rfl (by kernel_rfl) (by kernel_rfl) (by kernel_rfl) (fun _ _ _ h => h) (Or.inl ⟨by rfl, ?_⟩) (by assumption) ?_
    rotate_left 1
    · intro w hSw; (try dsimp only at hSw); go_simp; all_goals with_reducible rfl
    try simp only [Act.put, List.setIfInBounds_toArray, List.set_cons_zero, List.set_cons_succ]
    refine takeO 2 (some 29) (v := ?_) rfl rfl (by kernel_rfl) (by kernel_rfl) (by kernel_rfl) (fun _ _ _ h => h) (Or.inl ⟨by rfl, ?_⟩) (by assumption) ?_
    rotate_left 1
    · intro w hSw; (try dsimp only at hSw); go_simp; all_goals with_reducible rfl
    try simp only [Act.put, List.setIfInBounds_toArray, List.set_cons_zero, List.set_cons_succ]
    refine takeO 3 (some 30) (v := ?_) rfl rfl (by kernel_rfl) (by kernel_rfl) (by kernel_rfl) (fun _ _ _ h => h) (Or.inl ⟨by rfl, ?_⟩) (by assumption) ?_
    rotate_left 1
    · intro w hSw; (try dsimp only at hSw); go_simp; all_goals with_reducible rfl
    try simp only [Act.put, List.setIfInBounds_toArray, List.set_cons_zero, List.set_cons_succ]
    refine wpAnyH_ready (rs := [4, 6]) (by kernel_rfl) (by simp) ?_
    refine AllReadyH.cons rfl (fun K hK => ?_) (AllReadyH.cons rfl (fun K hK => ?_) AllReadyH.nil)
    · refine step_app rfl (.const (.slice none 0 0)) (.tmp 30) 28 28 rfl W1.heap.size 39 i0 (.agg #[.int .i64 0, .string ⟨#[]⟩]) 2 24 Try.underlying28 HI0.out HZ0.out HZ1.out HZ2.out rfl (by decide) none 0 0 [] rfl (World.ownsRow_nil _ _ _ _) (.slice a1 la.length c1) la.length (la.flatMap KeyL.cells) (by first | rfl | kernel_rfl) (HSR.out _ HGB.out) A1 A2 HGB.out.size ?_
      intro a3 c3 u hown5 hg5
      rw [Nat.zero_add, List.nil_append] at hown5
      have HO5 := Lib.hid hown5
      have HB5 := Lib.hid (HGB.out.grown hg5 HGB.out.size (fun k hk => by cases hk))
      clear hown5 hg5 HGB
      have HGB := HB5
      clear HB5
      try rw [Nat.zero_add]
      refine hK.out _ _ (by exact HGB.out) (fun hHeld => ?_)
      clear hK K
      try simp only [Act.put, List.setIfInBounds_toArray]
      refine takeO 5 (some 32) (v := ?_) rfl rfl (by kernel_rfl) (by kernel_rfl) (by kernel_rfl) (fun _ _ _ h => h) (Or.inl ⟨by rfl, ?_⟩) (by assumption) ?_
      rotate_left 1
      · intro w hSw; (try dsimp only at hSw); go_simp; all_goals with_reducible rfl
      try simp only [Act.put]
      refine wpAnyH_ready (rs := [6]) (by kernel_rfl) (by simp) ?_
      refine AllReadyH.cons rfl (fun K hK => ?_) AllReadyH.nil
      · go_simp
        refine hK.out _ _ (by exact HGB.out.alloc HGB.out.size _) (fun hHeld => ?_)
        clear hK K
        try simp only [Act.put, List.setIfInBounds_toArray, List.set_cons_zero, List.set_cons_succ]
        refine wpAnyH_ready (rs := [7]) (by kernel_rfl) (by simp) ?_
        refine AllReadyH.cons rfl (fun K hK => ?_) AllReadyH.nil
        · go_simp
          refine hK.out _ _ (by exact HGB.out.alloc HGB.out.size _) (fun hHeld => ?_)
          clear hK K
          try simp only [Act.put, List.setIfInBounds_toArray, List.set_cons_zero, List.set_cons_succ]
          refine wpAnyH_done (by kernel_rfl) ?_ _
          have HE := Lib.hid (show CbA W1 q k m la (.pointer (some ⟨u.heap.size, 0, none⟩)) (u.alloc (.cells #[.int .i64 3, .string q, .int .i64 k, .int .i64 m, .slice a3 la.length c3, .bool false, .bool false] 46)) from ⟨_, _, _, _, rfl, rfl, HGB.out.size, heap_alloc_new u _, ownsRow_below HO5.out ((Below.refl _ u).alloc (Nat.le_refl _) _), HGB.out.alloc HGB.out.size _⟩)
          generalize u.alloc (.cells #[.int .i64 3, .string q, .int .i64 k, .int .i64 m, .slice a3 la.length c3, .bool false, .bool false] 46) = WZ at *
          go_wp2_with fail
          go_meet
          exact HE.out
    · have HP := Lib.hid (show Blk (W1.alloc (.cells #[.int .i64 0, .string ⟨#[]⟩, .int .i64 0, .int .i64 0, .slice none 0 0, .bool false, .bool false] 46)).drew W1.heap.size 46 [.int .i64 0, .string ⟨#[]⟩, .int .i64 0, .int .i64 0, .slice none 0 0, .bool false, .bool false] from heap_alloc_new W1 _)
      have HSN := Lib.hid (show Below W1.heap.size W1 (W1.alloc (.cells #[.int .i64 0, .string ⟨#[]⟩, .int .i64 0, .int .i64 0, .slice none 0 0, .bool false, .bool false] 46)).drew from below_drewN ((Below.refl _ W1).alloc (Nat.le_refl _) _) 1)
      clear HGB
      have HGB := HSN
      clear HSN
      go_simp
      refine hK.out _ _ (by exact HGB.out) (fun hHeld => ?_)
      clear hK K
      try simp only [Act.put, List.setIfInBounds_toArray, List.set_cons_zero, List.set_cons_succ]
      refine wpAnyH_ready (rs := [4]) (by kernel_rfl) (by simp) ?_
      refine AllReadyH.cons rfl (fun K hK => ?_) AllReadyH.nil
      · refine step_app rfl (.const (.slice none 0 0)) (.tmp 30) 28 28 rfl W1.heap.size 39 i0 (.agg #[.int .i64 0, .string ⟨#[]⟩]) 2 24 Try.underlying28 HI0.out HZ0.out HZ1.out HZ2.out rfl (by decide) none 0 0 [] rfl (World.ownsRow_nil _ _ _ _) (.slice a1 la.length c1) la.length (la.flatMap KeyL.cells) (by first | rfl | kernel_rfl) (HSR.out _ HGB.out) A1 A2 HGB.out.size ?_
        intro a3 c3 u hown5 hg5
        rw [Nat.zero_add, List.nil_append] at hown5
        have HO5 := Lib.hid hown5
        have HB5 := Lib.hid (HGB.out.grown hg5 HGB.out.size (fun k hk => by cases hk))
        have HP5 := Lib.hid (HP.out.below ((Below.refl _ _).grown hg5 (Nat.le_refl _) (fun k hk => by cases hk)) HP.out.lt)
        clear HP
        have z0 : u.cell? ⟨W1.heap.size, 0, none⟩ = some (.int .i64 0) := HP5.out.cell 0
        have z1 : u.cell? ⟨W1.heap.size, 1, none⟩ = some (.string ⟨#[]⟩) := HP5.out.cell 1
        have z2 : u.cell? ⟨W1.heap.size, 2, none⟩ = some (.int .i64 0) := HP5.out.cell 2
        have z3 : u.cell? ⟨W1.heap.size, 3, none⟩ = some (.int .i64 0) := HP5.out.cell 3
        have z4 : u.cell? ⟨W1.heap.size, 4, none⟩ = some (.slice none 0 0) := HP5.out.cell 4
        have z5 : u.cell? ⟨W1.heap.size, 5, none⟩ = some (.bool false) := HP5.out.cell 5
        have z6 : u.cell? ⟨W1.heap.size, 6, none⟩ = some (.bool false) := HP5.out.cell 6
        have zf0 : u.frozen? ⟨W1.heap.size, 0, none⟩ = false := HP5.out.frozen 0
        have zf1 : u.frozen? ⟨W1.heap.size, 1, none⟩ = false := HP5.out.frozen 1
        have zf2 : u.frozen? ⟨W1.heap.size, 2, none⟩ = false := HP5.out.frozen 2
        have zf3 : u.frozen? ⟨W1.heap.size, 3, none⟩ = false := HP5.out.frozen 3
        have zf4 : u.frozen? ⟨W1.heap.size, 4, none⟩ = false := HP5.out.frozen 4
        have zf5 : u.frozen? ⟨W1.heap.size, 5, none⟩ = false := HP5.out.frozen 5
        have zf6 : u.frozen? ⟨W1.heap.size, 6, none⟩ = false := HP5.out.frozen 6
        clear hown5 hg5 HGB
        have HGB := HB5
        clear HB5
        try rw [Nat.zero_add]
        refine hK.out _ _ (by exact HGB.out) (fun hHeld => ?_)
        clear hK K
        try simp only [Act.put, List.setIfInBounds_toArray]
        refine takeO 5 (some 32) (v := ?_) rfl rfl (by kernel_rfl) (by kernel_rfl) (by kernel_rfl) (fun _ _ _ h => h) (Or.inl ⟨by rfl, ?_⟩) (by assumption) ?_
        rotate_left 1
        · intro w hSw; (try dsimp only at hSw); go_simp; all_goals with_reducible rfl
        try simp only [Act.put]
        refine wpAnyH_ready (rs := [7]) (by kernel_rfl) (by simp) ?_
        refine AllReadyH.cons rfl (fun K hK => ?_) AllReadyH.nil
        · go_simp
          refine hK.out _ _ (by exact (((((((HGB.out.setCell (p := ⟨W1.heap.size, 0, none⟩) (Nat.le_refl _) _).setCell (p := ⟨W1.heap.size, 1, none⟩) (Nat.le_refl _) _).setCell (p := ⟨W1.heap.size, 2, none⟩) (Nat.le_refl _) _).setCell (p := ⟨W1.heap.size, 3, none⟩) (Nat.le_refl _) _).setCell (p := ⟨W1.heap.size, 4, none⟩) (Nat.le_refl _) _).setCell (p := ⟨W1.heap.size, 5, none⟩) (Nat.le_refl _) _).setCell (p := ⟨W1.heap.size, 6, none⟩) (Nat.le_refl _) _)) (fun hHeld => ?_)
          clear hK K
          try simp only [Act.put, List.setIfInBounds_toArray, List.set_cons_zero, List.set_cons_succ]
          refine wpAnyH_done (by kernel_rfl) ?_ _
          have HFF : RowKit.Hid (Frm (fun i => i = W1.heap.size) u (((((((u.setCell ⟨W1.heap.size, 0, none⟩ (.int .i64 3)).setCell ⟨W1.heap.size, 1, none⟩ (.string q)).setCell ⟨W1.heap.size, 2, none⟩ (.int .i64 k)).setCell ⟨W1.heap.size, 3, none⟩ (.int .i64 m)).setCell ⟨W1.heap.size, 4, none⟩ (.slice a3 la.length c3)).setCell ⟨W1.heap.size, 5, none⟩ (.bool false)).setCell ⟨W1.heap.size, 6, none⟩ (.bool false))) := (((((((Frm.refl (fun i => i = W1.heap.size) u).setCell ⟨W1.heap.size, 0, none⟩ (.int .i64 3) (.inl rfl)).setCell ⟨W1.heap.size, 1, none⟩ (.string q) (.inl rfl)).setCell ⟨W1.heap.size, 2, none⟩ (.int .i64 k) (.inl rfl)).setCell ⟨W1.heap.size, 3, none⟩ (.int .i64 m) (.inl rfl)).setCell ⟨W1.heap.size, 4, none⟩ (.slice a3 la.length c3) (.inl rfl)).setCell ⟨W1.heap.size, 5, none⟩ (.bool false) (.inl rfl)).setCell ⟨W1.heap.size, 6, none⟩ (.bool false) (.inl rfl)
          have HE := Lib.hid (show CbA W1 q k m la (.pointer (some ⟨W1.heap.size, 0, none⟩)) (((((((u.setCell ⟨W1.heap.size, 0, none⟩ (.int .i64 3)).setCell ⟨W1.heap.size, 1, none⟩ (.string q)).setCell ⟨W1.heap.size, 2, none⟩ (.int .i64 k)).setCell ⟨W1.heap.size, 3, none⟩ (.int .i64 m)).setCell ⟨W1.heap.size, 4, none⟩ (.slice a3 la.length c3)).setCell ⟨W1.heap.size, 5, none⟩ (.bool false)).setCell ⟨W1.heap.size, 6, none⟩ (.bool false)) from ⟨_, W1.heap.size, a3, c3, rfl, rfl, Nat.le_refl _, (((((((HP5.out).set 0 (.int .i64 3)).set 1 (.string q)).set 2 (.int .i64 k)).set 3 (.int .i64 m)).set 4 (.slice a3 la.length c3)).set 5 (.bool false)).set 6 (.bool false), ownsRow_frm HO5.out HFF.out (fun k hk e => ownsRow_ne HO5.out HP5.out (by decide) k hk e), (((((((HGB.out.setCell (p := ⟨W1.heap.size, 0, none⟩) (Nat.le_refl _) _).setCell (p := ⟨W1.heap.size, 1, none⟩) (Nat.le_refl _) _).setCell (p := ⟨W1.heap.size, 2, none⟩) (Nat.le_refl _) _).setCell (p := ⟨W1.heap.size, 3, none⟩) (Nat.le_refl _) _).setCell (p := ⟨W1.heap.size, 4, none⟩) (Nat.le_refl _) _).setCell (p := ⟨W1.heap.size, 5, none⟩) (Nat.le_refl _) _).setCell (p := ⟨W1.heap.size, 6, none⟩) (Nat.le_refl _) _)⟩)
          clear HFF z0 z1 z2 z3 z4 z5 z6 zf0 zf1 zf2 zf3 zf4 zf5 zf6
          generalize (((((((u.setCell ⟨W1.heap.size, 0, none⟩ (.int .i64 3)).setCell ⟨W1.heap.size, 1, none⟩ (.string q)).setCell ⟨W1.heap.size, 2, none⟩ (.int .i64 k)).setCell ⟨W1.heap.size, 3, none⟩ (.int .i64 m)).setCell ⟨W1.heap.size, 4, none⟩ (.slice a3 la.length c3)).setCell ⟨W1.heap.size, 5, none⟩ (.bool false)).setCell ⟨W1.heap.size, 6, none⟩ (.bool false)) = WZ at *
          go_wp2_with fail
          go_meet
          exact HE.out
  case rest =>
    obtain ⟨W2, p8, a8, c8, rfl, rfl, g8, H8, HO8, HBX⟩ := hcut
    have HKQ2 := Lib.hid (HKQ.out.below HBX.out HKQ.out.lt)
    have HX2 := Lib.hid (HX.out.below HBX.out rfl)
    have HA2 := Lib.hid (HA.out.trans (HBX.out.mono HA.out.size))
    have HB9 := Lib.hid ((Below.refl _ W2).alloc (Nat.le_refl _) (.cells #[.int .i64 3, .string q, .int .i64 k, .int .i64 m, .slice a1 tl.length c1, .bool true, .bool false] 46))
    have H9 := Lib.hid (show Blk (W2.alloc (.cells #[.int .i64 3, .string q, .int .i64 k, .int .i64 m, .slice a1 tl.length c1, .bool true, .bool false] 46)) W2.heap.size 46 [.int .i64 3, .string q, .int .i64 k, .int .i64 m, .slice a1 tl.length c1, .bool true, .bool false] from heap_alloc_new W2 _)
    have n89 : p8 ≠ W2.heap.size := by have := H8.out.lt; omega
    clear t0 t1 t2 A1 A2 HSR HKQ HX HA b1 b2 b3
    have t0 : W2.cell? ⟨w.heap.size, 0, none⟩ = some (.string q) := HKQ2.out.cell 0
    have t1 : W2.cell? ⟨w.heap.size, 1, none⟩ = some (.int .i64 k) := HKQ2.out.cell 1
    have t2 : W2.cell? ⟨w.heap.size, 2, none⟩ = some (.int .i64 m) := HKQ2.out.cell 2
    go_upto_region 7 with fail
    obtain ⟨W3, hW3⟩ : ∃ V, W2.alloc (.cells #[.int .i64 3, .string q, .int .i64 k, .int .i64 m, .slice a1 tl.length c1, .bool true, .bool false] 46) = V := ⟨_, rfl⟩
    rw [hW3] at HB9 H9 ⊢
    clear hW3
    have XA := Lib.hid (H8.out.below HB9.out H8.out.lt)
    have HO9 := Lib.hid (ownsRow_below HO8.out HB9.out)
    have HX3 := Lib.hid (HX2.out.below HB9.out rfl)
    have HA3 := Lib.hid (HA2.out.trans (HB9.out.mono HA2.out.size))
    have hs12 := HBX.out.size
    clear HKQ2 HX2 HA2 HB9 H8 HO8 HBX t0 t1 t2
    obtain ⟨p9, hp9⟩ : ∃ p, W2.heap.size = p := ⟨_, rfl⟩
    rw [hp9] at H9 n89 ⊢
    clear hp9
    have XB := H9
    clear H9
    have zn : (z != z) = false := by simp
    have P1 : RowKit.Hid (∀ V, Rd V ao words.length cw (words.map .string) → RdE KeyL.cells 2 V a8 la.length c8 la → Calls Try.prog 36 #[.slice ao words.length cw, .agg #[.int .i64 3, .string q, .int .i64 k, .int .i64 m, .slice a8 la.length c8, .bool false, .bool false]] V fun e w' => e = .returned (.bool true) ∧ Below V.heap.size V w') := fun V h1 h2 => (CP.out V 3 a8 c8 la false false h1 h2).mono (fun e w' h => ⟨h.1.trans (by rw [B2.out]), h.2⟩)
    have P2 : RowKit.Hid (∀ V, Rd V ao words.length cw (words.map .string) → RdE KeyL.cells 2 V a8 la.length c8 la → Calls Try.prog 38 #[.slice ao words.length cw, .agg #[.int .i64 3, .string q, .int .i64 k, .int .i64 m, .slice a8 la.length c8, .bool false, .bool false]] V fun e w' => e = .returned (.bool z) ∧ Below V.heap.size V w') := fun V h1 h2 => (CC.out V 3 a8 c8 la false false h1 h2).mono (fun e w' h => ⟨h.1.trans (by rw [compT_self B2.out HZD.out]), h.2⟩)
    have P3 : RowKit.Hid (∀ V, Rd V ao words.length cw (words.map .string) → RdE KeyL.cells 2 V a1 tl.length c1 tl → Calls Try.prog 40 #[.slice ao words.length cw, .agg #[.int .i64 3, .string q, .int .i64 k, .int .i64 m, .slice a1 tl.length c1, .bool true, .bool false]] V fun e w' => e = .returned (.bool true) ∧ Below V.heap.size V w') := fun V h1 h2 => (CR.out V 3 a1 c1 tl true false h1 h2).mono (fun e w' h => ⟨h.1.trans (by rw [rightT_self]), h.2⟩)
    have L4 : RowKit.Hid (∀ V, RdE KeyL.cells 2 V a8 la.length c8 la → RdE KeyL.cells 2 V a1 tl.length c1 tl → Calls Try.prog 42 #[.agg #[.int .i64 3, .string q, .int .i64 k, .int .i64 m, .slice a8 la.length c8, .bool false, .bool false], .agg #[.int .i64 3, .string q, .int .i64 k, .int .i64 m, .slice a1 tl.length c1, .bool true, .bool false]] V fun e w' => e = .returned (.bool true) ∧ Below V.heap.size V w') := fun V h1 h2 => (clater_any V 3 q k m a8 c8 la false false 3 q k m a1 c1 tl true false h1 h2).mono (fun e w' h => ⟨h.1.trans (by rw [later_v, B2.out]; simp []), h.2⟩)
    have L5 : RowKit.Hid (∀ V, RdE KeyL.cells 2 V a8 la.length c8 la → RdE KeyL.cells 2 V a8 la.length c8 la → Calls Try.prog 42 #[.agg #[.int .i64 3, .string q, .int .i64 k, .int .i64 m, .slice a8 la.length c8, .bool false, .bool false], .agg #[.int .i64 3, .string q, .int .i64 k, .int .i64 m, .slice a8 la.length c8, .bool false, .bool false]] V fun e w' => e = .returned (.bool true) ∧ Below V.heap.size V w') := fun V h1 h2 => (clater_any V 3 q k m a8 c8 la false false 3 q k m a8 c8 la false false h1 h2).mono (fun e w' h => ⟨h.1.trans (by rw [later_v, begI_self]; simp []), h.2⟩)
    have L6 : RowKit.Hid (∀ V, RdE KeyL.cells 2 V a1 tl.length c1 tl → RdE KeyL.cells 2 V a8 la.length c8 la → Calls Try.prog 42 #[.agg #[.int .i64 3, .string q, .int .i64 k, .int .i64 m, .slice a1 tl.length c1, .bool true, .bool false], .agg #[.int .i64 3, .string q, .int .i64 k, .int .i64 m, .slice a8 la.length c8, .bool false, .bool false]] V fun e w' => e = .returned (.bool false) ∧ Below V.heap.size V w') := fun V h1 h2 => (clater_any V 3 q k m a1 c1 tl true false 3 q k m a8 c8 la false false h1 h2).mono (fun e w' h => ⟨h.1.trans (by rw [later_v, B4.out]; simp []), h.2⟩)
    have t0 : W3.cell? ⟨p8, 0, none⟩ = some (.int .i64 3) := XA.out.cell 0
    have t1 : W3.cell? ⟨p8, 1, none⟩ = some (.string q) := XA.out.cell 1
    have t2 : W3.cell? ⟨p8, 2, none⟩ = some (.int .i64 k) := XA.out.cell 2
    have t3 : W3.cell? ⟨p8, 3, none⟩ = some (.int .i64 m) := XA.out.cell 3
    have t4 : W3.cell? ⟨p8, 4, none⟩ = some (.slice a8 la.length c8) := XA.out.cell 4
    have t5 : W3.cell? ⟨p8, 5, none⟩ = some (.bool false) := XA.out.cell 5
    have t6 : W3.cell? ⟨p8, 6, none⟩ = some (.bool false) := XA.out.cell 6
    have s0 : W3.cell? ⟨p9, 0, none⟩ = some (.int .i64 3) := XB.out.cell 0
    have s1 : W3.cell? ⟨p9, 1, none⟩ = some (.string q) := XB.out.cell 1
    have s2 : W3.cell? ⟨p9, 2, none⟩ = some (.int .i64 k) := XB.out.cell 2
    have s3 : W3.cell? ⟨p9, 3, none⟩ = some (.int .i64 m) := XB.out.cell 3
    have s4 : W3.cell? ⟨p9, 4, none⟩ = some (.slice a1 tl.length c1) := XB.out.cell 4
    have s5 : W3.cell? ⟨p9, 5, none⟩ = some (.bool true) := XB.out.cell 5
    have s6 : W3.cell? ⟨p9, 6, none⟩ = some (.bool false) := XB.out.cell 6
    go_wp2_with fail
    refine (P1.out _ (Rd.below HR.out HA3.out rfl) (ownsRow_rdE (enc := KeyL.cells) (fun _ => rfl) rfl HO9.out)).mono ?_
    rintro e V1 ⟨rfl, hb⟩
    clear t0 s0 t1 s1 t2 s2 t3 s3 t4 s4 t5 s5 t6 s6
    have ZXA := Lib.hid (XA.out.below hb XA.out.lt)
    clear XA
    have XA := ZXA
    clear ZXA
    have ZXB := Lib.hid (XB.out.below hb XB.out.lt)
    clear XB
    have XB := ZXB
    clear ZXB
    have ZO := Lib.hid (ownsRow_below HO9.out hb)
    clear HO9
    have HO9 := ZO
    clear ZO
    have ZX := Lib.hid (HX3.out.below hb rfl)
    clear HX3
    have HX3 := ZX
    clear ZX
    have ZB := Lib.hid (HA3.out.trans ((hb).mono HA3.out.size))
    clear HA3
    have HA3 := ZB
    clear ZB
    clear hb
    have t0 : V1.cell? ⟨p8, 0, none⟩ = some (.int .i64 3) := XA.out.cell 0
    have t1 : V1.cell? ⟨p8, 1, none⟩ = some (.string q) := XA.out.cell 1
    have t2 : V1.cell? ⟨p8, 2, none⟩ = some (.int .i64 k) := XA.out.cell 2
    have t3 : V1.cell? ⟨p8, 3, none⟩ = some (.int .i64 m) := XA.out.cell 3
    have t4 : V1.cell? ⟨p8, 4, none⟩ = some (.slice a8 la.length c8) := XA.out.cell 4
    have t5 : V1.cell? ⟨p8, 5, none⟩ = some (.bool false) := XA.out.cell 5
    have t6 : V1.cell? ⟨p8, 6, none⟩ = some (.bool false) := XA.out.cell 6
    have s0 : V1.cell? ⟨p9, 0, none⟩ = some (.int .i64 3) := XB.out.cell 0
    have s1 : V1.cell? ⟨p9, 1, none⟩ = some (.string q) := XB.out.cell 1
    have s2 : V1.cell? ⟨p9, 2, none⟩ = some (.int .i64 k) := XB.out.cell 2
    have s3 : V1.cell? ⟨p9, 3, none⟩ = some (.int .i64 m) := XB.out.cell 3
    have s4 : V1.cell? ⟨p9, 4, none⟩ = some (.slice a1 tl.length c1) := XB.out.cell 4
    have s5 : V1.cell? ⟨p9, 5, none⟩ = some (.bool true) := XB.out.cell 5
    have s6 : V1.cell? ⟨p9, 6, none⟩ = some (.bool false) := XB.out.cell 6
    go_wp2_with fail
    refine (P2.out _ (Rd.below HR.out HA3.out rfl) (ownsRow_rdE (enc := KeyL.cells) (fun _ => rfl) rfl HO9.out)).mono ?_
    rintro e V2 ⟨rfl, hb⟩
    clear t0 s0 t1 s1 t2 s2 t3 s3 t4 s4 t5 s5 t6 s6
    have ZXA := Lib.hid (XA.out.below hb XA.out.lt)
    clear XA
    have XA := ZXA
    clear ZXA
    have ZXB := Lib.hid (XB.out.below hb XB.out.lt)
    clear XB
    have XB := ZXB
    clear ZXB
    have ZO := Lib.hid (ownsRow_below HO9.out hb)
    clear HO9
    have HO9 := ZO
    clear ZO
    have ZX := Lib.hid (HX3.out.below hb rfl)
    clear HX3
    have HX3 := ZX
    clear ZX
    have ZB := Lib.hid (HA3.out.trans ((hb).mono HA3.out.size))
    clear HA3
    have HA3 := ZB
    clear ZB
    clear hb
    have t0 : V2.cell? ⟨p8, 0, none⟩ = some (.int .i64 3) := XA.out.cell 0
    have t1 : V2.cell? ⟨p8, 1, none⟩ = some (.string q) := XA.out.cell 1
    have t2 : V2.cell? ⟨p8, 2, none⟩ = some (.int .i64 k) := XA.out.cell 2
    have t3 : V2.cell? ⟨p8, 3, none⟩ = some (.int .i64 m) := XA.out.cell 3
    have t4 : V2.cell? ⟨p8, 4, none⟩ = some (.slice a8 la.length c8) := XA.out.cell 4
    have t5 : V2.cell? ⟨p8, 5, none⟩ = some (.bool false) := XA.out.cell 5
    have t6 : V2.cell? ⟨p8, 6, none⟩ = some (.bool false) := XA.out.cell 6
    have s0 : V2.cell? ⟨p9, 0, none⟩ = some (.int .i64 3) := XB.out.cell 0
    have s1 : V2.cell? ⟨p9, 1, none⟩ = some (.string q) := XB.out.cell 1
    have s2 : V2.cell? ⟨p9, 2, none⟩ = some (.int .i64 k) := XB.out.cell 2
    have s3 : V2.cell? ⟨p9, 3, none⟩ = some (.int .i64 m) := XB.out.cell 3
    have s4 : V2.cell? ⟨p9, 4, none⟩ = some (.slice a1 tl.length c1) := XB.out.cell 4
    have s5 : V2.cell? ⟨p9, 5, none⟩ = some (.bool true) := XB.out.cell 5
    have s6 : V2.cell? ⟨p9, 6, none⟩ = some (.bool false) := XB.out.cell 6
    go_wp2_with fail
    refine (P3.out _ (Rd.below HR.out HA3.out rfl) HX3.out).mono ?_
    rintro e V3 ⟨rfl, hb⟩
    clear t0 s0 t1 s1 t2 s2 t3 s3 t4 s4 t5 s5 t6 s6
    have ZXA := Lib.hid (XA.out.below hb XA.out.lt)
    clear XA
    have XA := ZXA
    clear ZXA
    have ZXB := Lib.hid (XB.out.below hb XB.out.lt)
    clear XB
    have XB := ZXB
    clear ZXB
    have ZO := Lib.hid (ownsRow_below HO9.out hb)
    clear HO9
    have HO9 := ZO
    clear ZO
    have ZX := Lib.hid (HX3.out.below hb rfl)
    clear HX3
    have HX3 := ZX
    clear ZX
    have ZB := Lib.hid (HA3.out.trans ((hb).mono HA3.out.size))
    clear HA3
    have HA3 := ZB
    clear ZB
    clear hb
    have t0 : V3.cell? ⟨p8, 0, none⟩ = some (.int .i64 3) := XA.out.cell 0
    have t1 : V3.cell? ⟨p8, 1, none⟩ = some (.string q) := XA.out.cell 1
    have t2 : V3.cell? ⟨p8, 2, none⟩ = some (.int .i64 k) := XA.out.cell 2
    have t3 : V3.cell? ⟨p8, 3, none⟩ = some (.int .i64 m) := XA.out.cell 3
    have t4 : V3.cell? ⟨p8, 4, none⟩ = some (.slice a8 la.length c8) := XA.out.cell 4
    have t5 : V3.cell? ⟨p8, 5, none⟩ = some (.bool false) := XA.out.cell 5
    have t6 : V3.cell? ⟨p8, 6, none⟩ = some (.bool false) := XA.out.cell 6
    have s0 : V3.cell? ⟨p9, 0, none⟩ = some (.int .i64 3) := XB.out.cell 0
    have s1 : V3.cell? ⟨p9, 1, none⟩ = some (.string q) := XB.out.cell 1
    have s2 : V3.cell? ⟨p9, 2, none⟩ = some (.int .i64 k) := XB.out.cell 2
    have s3 : V3.cell? ⟨p9, 3, none⟩ = some (.int .i64 m) := XB.out.cell 3
    have s4 : V3.cell? ⟨p9, 4, none⟩ = some (.slice a1 tl.length c1) := XB.out.cell 4
    have s5 : V3.cell? ⟨p9, 5, none⟩ = some (.bool true) := XB.out.cell 5
    have s6 : V3.cell? ⟨p9, 6, none⟩ = some (.bool false) := XB.out.cell 6
    go_wp2_with fail
    refine (L4.out _ (ownsRow_rdE (enc := KeyL.cells) (fun _ => rfl) rfl HO9.out) HX3.out).mono ?_
    rintro e V4 ⟨rfl, hb⟩
    clear t0 s0 t1 s1 t2 s2 t3 s3 t4 s4 t5 s5 t6 s6
    have ZXA := Lib.hid (XA.out.below hb XA.out.lt)
    clear XA
    have XA := ZXA
    clear ZXA
    have ZXB := Lib.hid (XB.out.below hb XB.out.lt)
    clear XB
    have XB := ZXB
    clear ZXB
    have ZO := Lib.hid (ownsRow_below HO9.out hb)
    clear HO9
    have HO9 := ZO
    clear ZO
    have ZX := Lib.hid (HX3.out.below hb rfl)
    clear HX3
    have HX3 := ZX
    clear ZX
    have ZB := Lib.hid (HA3.out.trans ((hb).mono HA3.out.size))
    clear HA3
    have HA3 := ZB
    clear ZB
    clear hb
    have t0 : V4.cell? ⟨p8, 0, none⟩ = some (.int .i64 3) := XA.out.cell 0
    have t1 : V4.cell? ⟨p8, 1, none⟩ = some (.string q) := XA.out.cell 1
    have t2 : V4.cell? ⟨p8, 2, none⟩ = some (.int .i64 k) := XA.out.cell 2
    have t3 : V4.cell? ⟨p8, 3, none⟩ = some (.int .i64 m) := XA.out.cell 3
    have t4 : V4.cell? ⟨p8, 4, none⟩ = some (.slice a8 la.length c8) := XA.out.cell 4
    have t5 : V4.cell? ⟨p8, 5, none⟩ = some (.bool false) := XA.out.cell 5
    have t6 : V4.cell? ⟨p8, 6, none⟩ = some (.bool false) := XA.out.cell 6
    have s0 : V4.cell? ⟨p9, 0, none⟩ = some (.int .i64 3) := XB.out.cell 0
    have s1 : V4.cell? ⟨p9, 1, none⟩ = some (.string q) := XB.out.cell 1
    have s2 : V4.cell? ⟨p9, 2, none⟩ = some (.int .i64 k) := XB.out.cell 2
    have s3 : V4.cell? ⟨p9, 3, none⟩ = some (.int .i64 m) := XB.out.cell 3
    have s4 : V4.cell? ⟨p9, 4, none⟩ = some (.slice a1 tl.length c1) := XB.out.cell 4
    have s5 : V4.cell? ⟨p9, 5, none⟩ = some (.bool true) := XB.out.cell 5
    have s6 : V4.cell? ⟨p9, 6, none⟩ = some (.bool false) := XB.out.cell 6
    go_wp2_with fail
    refine (L5.out _ (ownsRow_rdE (enc := KeyL.cells) (fun _ => rfl) rfl HO9.out) (ownsRow_rdE (enc := KeyL.cells) (fun _ => rfl) rfl HO9.out)).mono ?_
    rintro e V5 ⟨rfl, hb⟩
    clear t0 s0 t1 s1 t2 s2 t3 s3 t4 s4 t5 s5 t6 s6
    have ZXA := Lib.hid (XA.out.below hb XA.out.lt)
    clear XA
    have XA := ZXA
    clear ZXA
    have ZXB := Lib.hid (XB.out.below hb XB.out.lt)
    clear XB
    have XB := ZXB
    clear ZXB
    have ZO := Lib.hid (ownsRow_below HO9.out hb)
    clear HO9
    have HO9 := ZO
    clear ZO
    have ZX := Lib.hid (HX3.out.below hb rfl)
    clear HX3
    have HX3 := ZX
    clear ZX
    have ZB := Lib.hid (HA3.out.trans ((hb).mono HA3.out.size))
    clear HA3
    have HA3 := ZB
    clear ZB
    clear hb
    have t0 : V5.cell? ⟨p8, 0, none⟩ = some (.int .i64 3) := XA.out.cell 0
    have t1 : V5.cell? ⟨p8, 1, none⟩ = some (.string q) := XA.out.cell 1
    have t2 : V5.cell? ⟨p8, 2, none⟩ = some (.int .i64 k) := XA.out.cell 2
    have t3 : V5.cell? ⟨p8, 3, none⟩ = some (.int .i64 m) := XA.out.cell 3
    have t4 : V5.cell? ⟨p8, 4, none⟩ = some (.slice a8 la.length c8) := XA.out.cell 4
    have t5 : V5.cell? ⟨p8, 5, none⟩ = some (.bool false) := XA.out.cell 5
    have t6 : V5.cell? ⟨p8, 6, none⟩ = some (.bool false) := XA.out.cell 6
    have s0 : V5.cell? ⟨p9, 0, none⟩ = some (.int .i64 3) := XB.out.cell 0
    have s1 : V5.cell? ⟨p9, 1, none⟩ = some (.string q) := XB.out.cell 1
    have s2 : V5.cell? ⟨p9, 2, none⟩ = some (.int .i64 k) := XB.out.cell 2
    have s3 : V5.cell? ⟨p9, 3, none⟩ = some (.int .i64 m) := XB.out.cell 3
    have s4 : V5.cell? ⟨p9, 4, none⟩ = some (.slice a1 tl.length c1) := XB.out.cell 4
    have s5 : V5.cell? ⟨p9, 5, none⟩ = some (.bool true) := XB.out.cell 5
    have s6 : V5.cell? ⟨p9, 6, none⟩ = some (.bool false) := XB.out.cell 6
    go_wp2_with fail
    refine (L6.out _ HX3.out (ownsRow_rdE (enc := KeyL.cells) (fun _ => rfl) rfl HO9.out)).mono ?_
    rintro e V6 ⟨rfl, hb⟩
    clear t0 s0 t1 s1 t2 s2 t3 s3 t4 s4 t5 s5 t6 s6
    have ZXA := Lib.hid (XA.out.below hb XA.out.lt)
    clear XA
    have XA := ZXA
    clear ZXA
    have ZXB := Lib.hid (XB.out.below hb XB.out.lt)
    clear XB
    have XB := ZXB
    clear ZXB
    have ZO := Lib.hid (ownsRow_below HO9.out hb)
    clear HO9
    have HO9 := ZO
    clear ZO
    have ZX := Lib.hid (HX3.out.below hb rfl)
    clear HX3
    have HX3 := ZX
    clear ZX
    have ZB := Lib.hid (HA3.out.trans ((hb).mono HA3.out.size))
    clear HA3
    have HA3 := ZB
    clear ZB
    clear hb
    clear P1 P2 P3 L4 L5 L6
    by_cases h0 : la.length = 0
    · have d0 : ((la.length : Int) == 0) = true := by rw [beq_iff_eq]; omega
      clear h0
      go_wp2_with fail
      refine (HZ.out _).mono ?_
      rintro e w1 ⟨rfl, hb⟩
      have HB3 := Lib.hid (HA3.out.trans (hb.mono HA3.out.size))
      clear hb
      go_wp2_with fail
      go_ret
      exact ⟨rfl, HB3.out⟩
    have d0 : ((la.length : Int) == 0) = false := by rw [beq_eq_false_iff_ne]; omega
    obtain ⟨g, rfl, hgb⟩ := ownsRow_some HO9.out (by omega)
    obtain ⟨sp, hspl, hblk⟩ := ownsRow_blk HO9.out
    have hgp := ownsRow_ne HO9.out XA.out (by decide) g rfl
    have hgq := ownsRow_ne HO9.out XB.out (by decide) g rfl
    obtain ⟨i, hi⟩ : ∃ i, la.length - 1 = i := ⟨_, rfl⟩
    have hil : i < la.length := by omega
    obtain ⟨x, hx⟩ : ∃ x, la[i]? = some x := ⟨_, List.getElem?_eq_getElem hil⟩
    have hxt : tl[i]? = some x := by
      have h := HLA.out
      rw [← h, List.getElem?_take, if_pos hil] at hx
      exact hx
    obtain ⟨y, hy⟩ : ∃ y, IntKind.i64.wrap (x.1 + 1) = y := ⟨_, rfl⟩
    have hyx : (y, x.2) ≠ x := by
      intro e
      have := congrArg Prod.fst e
      exact wrap_succ x.1 (hy.trans this)
    obtain ⟨lb, hlb⟩ : ∃ l, la.set i (y, x.2) = l := ⟨_, rfl⟩
    have hlen : lb.length = la.length := by rw [← hlb, List.length_set]
    have hlbx : lb[i]? = some (y, x.2) := by rw [← hlb, List.getElem?_set_self hil]
    have hbf : begI lb tl = false := begI_no hlbx hxt hyx
    have HOA := HO9.out.2
    have hRE := ownsRow_rdE (enc := KeyL.cells) (fun _ => rfl) rfl HO9.out
    have hc8 := hRE.2.1
    have hc8m := hRE.2.2.1
    obtain ⟨bg, og, eg, hbg, hcx⟩ := hRE.2.2.2.2 i x hx
    obtain ⟨rfl, rfl⟩ : g = bg ∧ 0 = og := by cases eg; exact ⟨rfl, rfl⟩
    have cx : V6.cell? ⟨g, i * 2, none⟩ = some (.int .i64 x.1) := by have := hcx 0 (by decide); rw [Nat.zero_add, Nat.add_zero] at this; exact this
    have fx : V6.frozen? ⟨g, i * 2, none⟩ = false := hblk.frozen _
    have wi : IntKind.i64.wrap ((la.length : Int) - 1) = (i : Int) := by rw [IntWalk.i64_in _ (by omega)]; omega
    have wi2 : (la.length : Int) - 1 = (i : Int) := by omega
    have i1 : (0 : Int) ≤ (i : Int) := by omega
    have i2 : (i : Int) < (la.length : Int) := by omega
    have HS := Lib.hid (show Blk (V6.setCell ⟨g, i * 2, none⟩ (.int .i64 y)) g 39 (lb.flatMap KeyL.cells ++ sp) from by
      have h1 := hblk.set (i * 2) (.int .i64 y)
      have h2 := flatMap_set KeyL.cells 2 (fun _ => rfl) la i 0 (.int .i64 y) x (y, x.2) hx (by decide) rfl
      rw [Nat.add_zero, hlb] at h2
      rw [← h2, ← List.set_append_left]
      · exact h1
      · rw [flatMap_len _ 2 (fun _ => rfl)]; omega)
    have HRL := Lib.hid (show RdE KeyL.cells 2 (V6.setCell ⟨g, i * 2, none⟩ (.int .i64 y)) (some ⟨g, 0, none⟩) la.length c8 lb from by
      have h := Blk.rdE (enc := KeyL.cells) (size := 2) (l := lb) (fun _ => rfl) HS.out c8 (by omega) hc8m
      rw [hlen] at h
      exact h)
    have HFF : RowKit.Hid (Frm (fun i => i = g) V6 (V6.setCell ⟨g, i * 2, none⟩ (.int .i64 y))) := (Frm.refl _ V6).setCell _ _ (.inl rfl)
    have YA := Lib.hid (XA.out.frm HFF.out (fun e => hgp e.symm))
    have YB := Lib.hid (XB.out.frm HFF.out (fun e => hgq e.symm))
    have YX := Lib.hid (RdE_frm HX3.out HFF.out (fun b o sp e => by
      have hlt : b < W1.heap.size := HXL.out b o sp e
      omega))
    have YH := Lib.hid (HA3.out.setCell (p := ⟨g, i * 2, none⟩) (show w.heap.size ≤ g by have := hA1; omega) (.int .i64 y))
    have t0 : V6.cell? ⟨p8, 0, none⟩ = some (.int .i64 3) := XA.out.cell 0
    have t1 : V6.cell? ⟨p8, 1, none⟩ = some (.string q) := XA.out.cell 1
    have t2 : V6.cell? ⟨p8, 2, none⟩ = some (.int .i64 k) := XA.out.cell 2
    have t3 : V6.cell? ⟨p8, 3, none⟩ = some (.int .i64 m) := XA.out.cell 3
    have t4 : V6.cell? ⟨p8, 4, none⟩ = some (.slice (some ⟨g, 0, none⟩) la.length c8) := XA.out.cell 4
    have t5 : V6.cell? ⟨p8, 5, none⟩ = some (.bool false) := XA.out.cell 5
    have t6 : V6.cell? ⟨p8, 6, none⟩ = some (.bool false) := XA.out.cell 6
    clear HFF HO9 hblk hx hxt hyx hlb hlbx hcx hRE HOA eg XA XB HX3 HA3 hspl HS B2 B4 HLA
    go_upto_region 12 with fail
    generalize V6.setCell ⟨g, i * 2, none⟩ (.int .i64 y) = V7 at *
    clear cx fx hy wi wi2 t0 t1 t2 t3 t4 t5 t6
    have XA := YA
    have XB := YB
    have HX3 := YX
    have HA3 := YH
    clear YA YB YX YH
    have HBF := Lib.hid hbf
    clear hbf
    have P1 : RowKit.Hid (∀ V, Rd V ao words.length cw (words.map .string) → RdE KeyL.cells 2 V (some ⟨g, 0, none⟩) la.length c8 lb → Calls Try.prog 36 #[.slice ao words.length cw, .agg #[.int .i64 3, .string q, .int .i64 k, .int .i64 m, .slice (some ⟨g, 0, none⟩) la.length c8, .bool false, .bool false]] V fun e w' => e = .returned (.bool false) ∧ Below V.heap.size V w') := fun V h1 h2 => by
      rw [← hlen] at h2 ⊢
      exact (CP.out V 3 (some ⟨g, 0, none⟩) c8 lb false false h1 h2).mono (fun e w' h => ⟨h.1.trans (by rw [HBF.out]), h.2⟩)
    have P3 : RowKit.Hid (∀ V, Rd V ao words.length cw (words.map .string) → RdE KeyL.cells 2 V (some ⟨g, 0, none⟩) la.length c8 lb → Calls Try.prog 40 #[.slice ao words.length cw, .agg #[.int .i64 3, .string q, .int .i64 k, .int .i64 m, .slice (some ⟨g, 0, none⟩) la.length c8, .bool false, .bool false]] V fun e w' => e = .returned (.bool false) ∧ Below V.heap.size V w') := fun V h1 h2 => by
      rw [← hlen] at h2 ⊢
      exact (CR.out V 3 (some ⟨g, 0, none⟩) c8 lb false false h1 h2).mono (fun e w' h => ⟨h.1.trans (by rw [show rightT lb tl false false = false from by unfold rightT; rw [HBF.out]; rfl]), h.2⟩)
    have L4 : RowKit.Hid (∀ V, RdE KeyL.cells 2 V (some ⟨g, 0, none⟩) la.length c8 lb → RdE KeyL.cells 2 V a1 tl.length c1 tl → Calls Try.prog 42 #[.agg #[.int .i64 3, .string q, .int .i64 k, .int .i64 m, .slice (some ⟨g, 0, none⟩) la.length c8, .bool false, .bool false], .agg #[.int .i64 3, .string q, .int .i64 k, .int .i64 m, .slice a1 tl.length c1, .bool true, .bool false]] V fun e w' => e = .returned (.bool false) ∧ Below V.heap.size V w') := fun V h1 h2 => by
      rw [← hlen] at h1 ⊢
      exact (clater_any V 3 q k m (some ⟨g, 0, none⟩) c8 lb false false 3 q k m a1 c1 tl true false h1 h2).mono (fun e w' h => ⟨h.1.trans (by rw [later_v, HBF.out]; simp []), h.2⟩)
    have t0 : V7.cell? ⟨p8, 0, none⟩ = some (.int .i64 3) := XA.out.cell 0
    have t1 : V7.cell? ⟨p8, 1, none⟩ = some (.string q) := XA.out.cell 1
    have t2 : V7.cell? ⟨p8, 2, none⟩ = some (.int .i64 k) := XA.out.cell 2
    have t3 : V7.cell? ⟨p8, 3, none⟩ = some (.int .i64 m) := XA.out.cell 3
    have t4 : V7.cell? ⟨p8, 4, none⟩ = some (.slice (some ⟨g, 0, none⟩) la.length c8) := XA.out.cell 4
    have t5 : V7.cell? ⟨p8, 5, none⟩ = some (.bool false) := XA.out.cell 5
    have t6 : V7.cell? ⟨p8, 6, none⟩ = some (.bool false) := XA.out.cell 6
    have s0 : V7.cell? ⟨p9, 0, none⟩ = some (.int .i64 3) := XB.out.cell 0
    have s1 : V7.cell? ⟨p9, 1, none⟩ = some (.string q) := XB.out.cell 1
    have s2 : V7.cell? ⟨p9, 2, none⟩ = some (.int .i64 k) := XB.out.cell 2
    have s3 : V7.cell? ⟨p9, 3, none⟩ = some (.int .i64 m) := XB.out.cell 3
    have s4 : V7.cell? ⟨p9, 4, none⟩ = some (.slice a1 tl.length c1) := XB.out.cell 4
    have s5 : V7.cell? ⟨p9, 5, none⟩ = some (.bool true) := XB.out.cell 5
    have s6 : V7.cell? ⟨p9, 6, none⟩ = some (.bool false) := XB.out.cell 6
    go_wp2_with fail
    refine (P1.out _ (Rd.below HR.out HA3.out rfl) HRL.out).mono ?_
    rintro e U1 ⟨rfl, hb⟩
    clear t0 s0 t1 s1 t2 s2 t3 s3 t4 s4 t5 s5 t6 s6
    have ZXA := Lib.hid (XA.out.below hb XA.out.lt)
    clear XA
    have XA := ZXA
    clear ZXA
    have ZXB := Lib.hid (XB.out.below hb XB.out.lt)
    clear XB
    have XB := ZXB
    clear ZXB
    have ZX := Lib.hid (HX3.out.below hb rfl)
    clear HX3
    have HX3 := ZX
    clear ZX
    have ZX := Lib.hid (HRL.out.below hb rfl)
    clear HRL
    have HRL := ZX
    clear ZX
    have ZB := Lib.hid (HA3.out.trans ((hb).mono HA3.out.size))
    clear HA3
    have HA3 := ZB
    clear ZB
    clear hb
    have t0 : U1.cell? ⟨p8, 0, none⟩ = some (.int .i64 3) := XA.out.cell 0
    have t1 : U1.cell? ⟨p8, 1, none⟩ = some (.string q) := XA.out.cell 1
    have t2 : U1.cell? ⟨p8, 2, none⟩ = some (.int .i64 k) := XA.out.cell 2
    have t3 : U1.cell? ⟨p8, 3, none⟩ = some (.int .i64 m) := XA.out.cell 3
    have t4 : U1.cell? ⟨p8, 4, none⟩ = some (.slice (some ⟨g, 0, none⟩) la.length c8) := XA.out.cell 4
    have t5 : U1.cell? ⟨p8, 5, none⟩ = some (.bool false) := XA.out.cell 5
    have t6 : U1.cell? ⟨p8, 6, none⟩ = some (.bool false) := XA.out.cell 6
    have s0 : U1.cell? ⟨p9, 0, none⟩ = some (.int .i64 3) := XB.out.cell 0
    have s1 : U1.cell? ⟨p9, 1, none⟩ = some (.string q) := XB.out.cell 1
    have s2 : U1.cell? ⟨p9, 2, none⟩ = some (.int .i64 k) := XB.out.cell 2
    have s3 : U1.cell? ⟨p9, 3, none⟩ = some (.int .i64 m) := XB.out.cell 3
    have s4 : U1.cell? ⟨p9, 4, none⟩ = some (.slice a1 tl.length c1) := XB.out.cell 4
    have s5 : U1.cell? ⟨p9, 5, none⟩ = some (.bool true) := XB.out.cell 5
    have s6 : U1.cell? ⟨p9, 6, none⟩ = some (.bool false) := XB.out.cell 6
    go_wp2_with fail
    refine (P3.out _ (Rd.below HR.out HA3.out rfl) HRL.out).mono ?_
    rintro e U2 ⟨rfl, hb⟩
    clear t0 s0 t1 s1 t2 s2 t3 s3 t4 s4 t5 s5 t6 s6
    have ZXA := Lib.hid (XA.out.below hb XA.out.lt)
    clear XA
    have XA := ZXA
    clear ZXA
    have ZXB := Lib.hid (XB.out.below hb XB.out.lt)
    clear XB
    have XB := ZXB
    clear ZXB
    have ZX := Lib.hid (HX3.out.below hb rfl)
    clear HX3
    have HX3 := ZX
    clear ZX
    have ZX := Lib.hid (HRL.out.below hb rfl)
    clear HRL
    have HRL := ZX
    clear ZX
    have ZB := Lib.hid (HA3.out.trans ((hb).mono HA3.out.size))
    clear HA3
    have HA3 := ZB
    clear ZB
    clear hb
    have t0 : U2.cell? ⟨p8, 0, none⟩ = some (.int .i64 3) := XA.out.cell 0
    have t1 : U2.cell? ⟨p8, 1, none⟩ = some (.string q) := XA.out.cell 1
    have t2 : U2.cell? ⟨p8, 2, none⟩ = some (.int .i64 k) := XA.out.cell 2
    have t3 : U2.cell? ⟨p8, 3, none⟩ = some (.int .i64 m) := XA.out.cell 3
    have t4 : U2.cell? ⟨p8, 4, none⟩ = some (.slice (some ⟨g, 0, none⟩) la.length c8) := XA.out.cell 4
    have t5 : U2.cell? ⟨p8, 5, none⟩ = some (.bool false) := XA.out.cell 5
    have t6 : U2.cell? ⟨p8, 6, none⟩ = some (.bool false) := XA.out.cell 6
    have s0 : U2.cell? ⟨p9, 0, none⟩ = some (.int .i64 3) := XB.out.cell 0
    have s1 : U2.cell? ⟨p9, 1, none⟩ = some (.string q) := XB.out.cell 1
    have s2 : U2.cell? ⟨p9, 2, none⟩ = some (.int .i64 k) := XB.out.cell 2
    have s3 : U2.cell? ⟨p9, 3, none⟩ = some (.int .i64 m) := XB.out.cell 3
    have s4 : U2.cell? ⟨p9, 4, none⟩ = some (.slice a1 tl.length c1) := XB.out.cell 4
    have s5 : U2.cell? ⟨p9, 5, none⟩ = some (.bool true) := XB.out.cell 5
    have s6 : U2.cell? ⟨p9, 6, none⟩ = some (.bool false) := XB.out.cell 6
    go_wp2_with fail
    refine (L4.out _ HRL.out HX3.out).mono ?_
    rintro e U3 ⟨rfl, hb⟩
    clear t0 s0 t1 s1 t2 s2 t3 s3 t4 s4 t5 s5 t6 s6
    have ZXA := Lib.hid (XA.out.below hb XA.out.lt)
    clear XA
    have XA := ZXA
    clear ZXA
    have ZXB := Lib.hid (XB.out.below hb XB.out.lt)
    clear XB
    have XB := ZXB
    clear ZXB
    have ZX := Lib.hid (HX3.out.below hb rfl)
    clear HX3
    have HX3 := ZX
    clear ZX
    have ZX := Lib.hid (HRL.out.below hb rfl)
    clear HRL
    have HRL := ZX
    clear ZX
    have ZB := Lib.hid (HA3.out.trans ((hb).mono HA3.out.size))
    clear HA3
    have HA3 := ZB
    clear ZB
    clear hb
    go_wp2_with fail
    refine (HZ.out _).mono ?_
    rintro e w1 ⟨rfl, hb⟩
    have HB3 := Lib.hid (HA3.out.trans (hb.mono HA3.out.size))
    clear hb
    go_wp2_with fail
    go_ret
    exact ⟨rfl, HB3.out⟩
end Go.Proofs.Ytiohngcmojkheaa
