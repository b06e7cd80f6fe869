/- msg.Ask; the law MsgAsk. -/
import Derived.Test.YtjhkdbcfkaaffaaMm15
namespace Go.Proofs.Ytjhkdbcfkaaffaa
open Go.RowKit
set_option linter.unusedVariables false

set_option maxRecDepth 100000 in
theorem isz_ask : (Try.prog.info? 29).map (·.size) = some 11 := by kernel_rfl
set_option maxRecDepth 100000 in
theorem ta1_ask (v : Value) (X : TypeId) (w : World) : (Instr.typeAssert (.iface 29 v) X 29 false).run Try.prog w = .ok v w := by kernel_rfl
set_option maxRecDepth 100000 in
set_option maxHeartbeats 4000000 in
theorem maskof_any (s q h sq ep : Int) (tx : ByteArray) (k b : Int) (f : Bool) (d : Int) (wd : ByteArray) (w : World) :
    Calls Try.prog 31 #[.iface 29 (.agg #[.int .i64 s, .int .i64 q, .int .i64 h, .int .i64 sq, .int .i64 ep, .string tx, .int .i64 k, .int .i64 b, .bool f, .int .i64 d, .string wd])] w fun e w' =>
      e = .returned (.agg #[.int .i64 s, .int .i64 q, .int .i64 h, .int .i64 sq, .int .i64 ep, .string tx, .int .i64 k, .int .i64 b, .bool f, .int .i64 d, .string wd]) ∧ Below w.heap.size w w' := by
  go_enter Try.func31, Try.ntmps31
  go_wp2_with (rw [ta1_ask])
  refine bodyPost_ret (results_cell_row rfl _ _ w.heap.size 29 #[.int .i64 s, .int .i64 q, .int .i64 h, .int .i64 sq, .int .i64 ep, .string tx, .int .i64 k, .int .i64 b, .bool f, .int .i64 d, .string wd] (0, 0) _ rfl (heap_alloc_new w _) Try.underlying29 rfl isz_ask) rfl ?_
  exact ⟨rfl, (Below.refl _ w).alloc (Nat.le_refl _) _⟩
set_option maxRecDepth 100000 in
set_option maxHeartbeats 8000000 in
theorem ask_law (w : World) (s q h sq ep : Int) (tx : ByteArray) (k b : Int) (f : Bool) (d : Int) (wd : ByteArray) (h1 : tx.size ≤ maxLen) (h2 : wd.size ≤ maxLen) :
    Calls Try.prog 9 #[.agg #[.int .i64 s, .int .i64 q, .int .i64 h, .int .i64 sq, .int .i64 ep, .string tx, .int .i64 k, .int .i64 b, .bool f, .int .i64 d, .string wd]] w fun e w' => e = .returned (.bool true) ∧ Below w.heap.size w w' := by
  have HA := Lib.hid (fun W => awake_any W)
  have HB := Lib.hid ((Below.refl w.heap.size w).alloc (Nat.le_refl _) (.cells #[.int .i64 s, .int .i64 q, .int .i64 h, .int .i64 sq, .int .i64 ep, .string tx, .int .i64 k, .int .i64 b, .bool f, .int .i64 d, .string wd] 29))
  have HX := Lib.hid (show Blk (w.alloc (.cells #[.int .i64 s, .int .i64 q, .int .i64 h, .int .i64 sq, .int .i64 ep, .string tx, .int .i64 k, .int .i64 b, .bool f, .int .i64 d, .string wd] 29)) w.heap.size 29 [.int .i64 s, .int .i64 q, .int .i64 h, .int .i64 sq, .int .i64 ep, .string tx, .int .i64 k, .int .i64 b, .bool f, .int .i64 d, .string wd] from heap_alloc_new w _)
  obtain ⟨W, hW⟩ : ∃ W, w.alloc (.cells #[.int .i64 s, .int .i64 q, .int .i64 h, .int .i64 sq, .int .i64 ep, .string tx, .int .i64 k, .int .i64 b, .bool f, .int .i64 d, .string wd] 29) = W := ⟨_, rfl⟩
  rw [hW] at HB HX
  have hlt := HX.out.lt
  have t0 : W.cell? ⟨w.heap.size, 0, none⟩ = some (.int .i64 s) := HX.out.cell 0
  have t1 : W.cell? ⟨w.heap.size, 1, none⟩ = some (.int .i64 q) := HX.out.cell 1
  have t2 : W.cell? ⟨w.heap.size, 2, none⟩ = some (.int .i64 h) := HX.out.cell 2
  have t3 : W.cell? ⟨w.heap.size, 3, none⟩ = some (.int .i64 sq) := HX.out.cell 3
  have t4 : W.cell? ⟨w.heap.size, 4, none⟩ = some (.int .i64 ep) := HX.out.cell 4
  have t5 : W.cell? ⟨w.heap.size, 5, none⟩ = some (.string tx) := HX.out.cell 5
  have t6 : W.cell? ⟨w.heap.size, 6, none⟩ = some (.int .i64 k) := HX.out.cell 6
  have t7 : W.cell? ⟨w.heap.size, 7, none⟩ = some (.int .i64 b) := HX.out.cell 7
  have t8 : W.cell? ⟨w.heap.size, 8, none⟩ = some (.bool f) := HX.out.cell 8
  have t9 : W.cell? ⟨w.heap.size, 9, none⟩ = some (.int .i64 d) := HX.out.cell 9
  have t10 : W.cell? ⟨w.heap.size, 10, none⟩ = some (.string wd) := HX.out.cell 10
  go_enter Try.func9, Try.ntmps9
  by_cases c1 : (100 : Int) < tx.size
  · go_wp2_with (rw [hW])
    refine (HA.out _).mono ?_
    rintro e w1 ⟨rfl, hb⟩
    have H1 := Lib.hid (HB.out.trans (hb.mono HB.out.size))
    clear hb
    go_wp2_with fail
    go_ret
    exact ⟨rfl, H1.out⟩
  by_cases c2 : (100 : Int) < wd.size
  · go_wp2_with (rw [hW])
    refine (HA.out _).mono ?_
    rintro e w1 ⟨rfl, hb⟩
    have H1 := Lib.hid (HB.out.trans (hb.mono HB.out.size))
    clear hb
    go_wp2_with fail
    go_ret
    exact ⟨rfl, H1.out⟩
  · go_wp2_with (rw [hW])
    -- region
    have HXD := Lib.hid (show Blk W.drew w.heap.size 29 [.int .i64 s, .int .i64 q, .int .i64 h, .int .i64 sq, .int .i64 ep, .string tx, .int .i64 k, .int .i64 b, .bool f, .int .i64 d, .string wd] from HX.out)
    have HBD := Lib.hid (HB.out.drew)
    clear HX HB t0 t1 t2 t3 t4 t5 t6 t7 t8 t9 t10
    refine wp_region_held_drew (S := (fun w' => w'.cell? ⟨w.heap.size, 0, none⟩ = some (.int .i64 s) ∧ w'.cell? ⟨w.heap.size, 1, none⟩ = some (.int .i64 q) ∧ w'.cell? ⟨w.heap.size, 2, none⟩ = some (.int .i64 h) ∧ w'.cell? ⟨w.heap.size, 3, none⟩ = some (.int .i64 sq) ∧ w'.cell? ⟨w.heap.size, 4, none⟩ = some (.int .i64 ep) ∧ w'.cell? ⟨w.heap.size, 5, none⟩ = some (.string tx) ∧ w'.cell? ⟨w.heap.size, 6, none⟩ = some (.int .i64 k) ∧ w'.cell? ⟨w.heap.size, 7, none⟩ = some (.int .i64 b) ∧ w'.cell? ⟨w.heap.size, 8, none⟩ = some (.bool f) ∧ w'.cell? ⟨w.heap.size, 9, none⟩ = some (.int .i64 d) ∧ w'.cell? ⟨w.heap.size, 10, none⟩ = some (.string wd))) (by kernel_rfl) (by first | exact ⟨HXD.out.cell 0, HXD.out.cell 1, HXD.out.cell 2, HXD.out.cell 3, HXD.out.cell 4, HXD.out.cell 5, HXD.out.cell 6, HXD.out.cell 7, HXD.out.cell 8, HXD.out.cell 9, HXD.out.cell 10⟩ | exact ⟨HX1.out.cell 0, HX1.out.cell 1, HX1.out.cell 2, HX1.out.cell 3, HX1.out.cell 4, HX1.out.cell 5, HX1.out.cell 6, HX1.out.cell 7, HX1.out.cell 8, HX1.out.cell 9, HX1.out.cell 10⟩ | exact ⟨HX2.out.cell 0, HX2.out.cell 1, HX2.out.cell 2, HX2.out.cell 3, HX2.out.cell 4, HX2.out.cell 5, HX2.out.cell 6, HX2.out.cell 7, HX2.out.cell 8, HX2.out.cell 9, HX2.out.cell 10⟩ | exact ⟨HX3.out.cell 0, HX3.out.cell 1, HX3.out.cell 2, HX3.out.cell 3, HX3.out.cell 4, HX3.out.cell 5, HX3.out.cell 6, HX3.out.cell 7, HX3.out.cell 8, HX3.out.cell 9, HX3.out.cell 10⟩) (fun hHeld => ?_)
    refine takeO 0 (some 18) (v := ?_) rfl rfl (by kernel_rfl) (by kernel_rfl) (by kernel_rfl) (fun _ _ _ h => h) (Or.inl ⟨by rfl, ?_⟩) (by assumption) ?_
    rotate_left 1
    · intro w hSw; (try dsimp only at hSw); go_simp; all_goals with_reducible rfl
    try simp only [Act.put, List.setIfInBounds_toArray, List.set_cons_zero, List.set_cons_succ]
    refine takeO 2 (some 20) (v := ?_) rfl rfl (by kernel_rfl) (by kernel_rfl) (by kernel_rfl) (fun _ _ _ h => h) (Or.inl ⟨by rfl, ?_⟩) (by assumption) ?_
    rotate_left 1
    · intro w hSw; (try dsimp only at hSw); go_simp; all_goals with_reducible rfl
    try simp only [Act.put, List.setIfInBounds_toArray, List.set_cons_zero, List.set_cons_succ]
    refine wpAnyH_ready (rs := [1]) (by kernel_rfl) (by simp) ?_
    refine AllReadyH.cons rfl (fun K hK => ?_) AllReadyH.nil
    go_simp
    refine (maskof_any s q h sq ep tx k b f d wd W.drew).mono ?_; rintro e w1 ⟨rfl, hb⟩; have HX1 := Lib.hid (HXD.out.below hb HXD.out.lt); have HB1 := Lib.hid (HBD.out.trans (hb.mono HBD.out.size)); clear hb
    go_wp2_with fail
    refine hK.out _ _ (by first | exact ⟨HXD.out.cell 0, HXD.out.cell 1, HXD.out.cell 2, HXD.out.cell 3, HXD.out.cell 4, HXD.out.cell 5, HXD.out.cell 6, HXD.out.cell 7, HXD.out.cell 8, HXD.out.cell 9, HXD.out.cell 10⟩ | exact ⟨HX1.out.cell 0, HX1.out.cell 1, HX1.out.cell 2, HX1.out.cell 3, HX1.out.cell 4, HX1.out.cell 5, HX1.out.cell 6, HX1.out.cell 7, HX1.out.cell 8, HX1.out.cell 9, HX1.out.cell 10⟩ | exact ⟨HX2.out.cell 0, HX2.out.cell 1, HX2.out.cell 2, HX2.out.cell 3, HX2.out.cell 4, HX2.out.cell 5, HX2.out.cell 6, HX2.out.cell 7, HX2.out.cell 8, HX2.out.cell 9, HX2.out.cell 10⟩ | exact ⟨HX3.out.cell 0, HX3.out.cell 1, HX3.out.cell 2, HX3.out.cell 3, HX3.out.cell 4, HX3.out.cell 5, HX3.out.cell 6, HX3.out.cell 7, HX3.out.cell 8, HX3.out.cell 9, HX3.out.cell 10⟩) (fun hHeld => ?_)
    clear hK K
    try simp only [Act.put, List.setIfInBounds_toArray, List.set_cons_zero, List.set_cons_succ]
    refine takeO 3 (some 21) (v := ?_) rfl rfl (by kernel_rfl) (by kernel_rfl) (by kernel_rfl) (fun _ _ _ h => h) (Or.inl ⟨by rfl, ?_⟩) (by assumption) ?_
    rotate_left 1
    · intro w hSw; (try dsimp only at hSw); go_simp; all_goals with_reducible rfl
    try simp only [Act.put, List.setIfInBounds_toArray, List.set_cons_zero, List.set_cons_succ]
    refine takeO 4 (some 22) (v := ?_) rfl rfl (by kernel_rfl) (by kernel_rfl) (by kernel_rfl) (fun _ _ _ h => h) (Or.inl ⟨by rfl, ?_⟩) (by assumption) ?_
    rotate_left 1
    · intro w hSw; (try dsimp only at hSw); go_simp; all_goals with_reducible rfl
    try simp only [Act.put, List.setIfInBounds_toArray, List.set_cons_zero, List.set_cons_succ]
    refine takeO 5 (some 23) (v := ?_) rfl rfl (by kernel_rfl) (by kernel_rfl) (by kernel_rfl) (fun _ _ _ h => h) (Or.inl ⟨by rfl, ?_⟩) (by assumption) ?_
    rotate_left 1
    · intro w hSw; (try dsimp only at hSw); go_simp; all_goals with_reducible rfl
    try simp only [Act.put, List.setIfInBounds_toArray, List.set_cons_zero, List.set_cons_succ]
    refine wpAnyH_ready (rs := [6]) (by kernel_rfl) (by simp) ?_
    refine AllReadyH.cons rfl (fun K hK => ?_) AllReadyH.nil
    go_simp
    refine ((show Calls Try.prog 21 _ w1 fun e w' => e = .returned (.int .i64 3) ∧ Below w1.heap.size w1 w' from mkind_any (.ask s q h sq ep tx k b f d wd) _ w1 rfl)).mono ?_; rintro e w2 ⟨rfl, hb⟩; have HX2 := Lib.hid (HX1.out.below hb HX1.out.lt); have HB2 := Lib.hid (HB1.out.trans (hb.mono HB1.out.size)); clear hb
    go_wp2_with fail
    refine hK.out _ _ (by first | exact ⟨HXD.out.cell 0, HXD.out.cell 1, HXD.out.cell 2, HXD.out.cell 3, HXD.out.cell 4, HXD.out.cell 5, HXD.out.cell 6, HXD.out.cell 7, HXD.out.cell 8, HXD.out.cell 9, HXD.out.cell 10⟩ | exact ⟨HX1.out.cell 0, HX1.out.cell 1, HX1.out.cell 2, HX1.out.cell 3, HX1.out.cell 4, HX1.out.cell 5, HX1.out.cell 6, HX1.out.cell 7, HX1.out.cell 8, HX1.out.cell 9, HX1.out.cell 10⟩ | exact ⟨HX2.out.cell 0, HX2.out.cell 1, HX2.out.cell 2, HX2.out.cell 3, HX2.out.cell 4, HX2.out.cell 5, HX2.out.cell 6, HX2.out.cell 7, HX2.out.cell 8, HX2.out.cell 9, HX2.out.cell 10⟩ | exact ⟨HX3.out.cell 0, HX3.out.cell 1, HX3.out.cell 2, HX3.out.cell 3, HX3.out.cell 4, HX3.out.cell 5, HX3.out.cell 6, HX3.out.cell 7, HX3.out.cell 8, HX3.out.cell 9, HX3.out.cell 10⟩) (fun hHeld => ?_)
    clear hK K
    try simp only [Act.put, List.setIfInBounds_toArray, List.set_cons_zero, List.set_cons_succ]
    refine takeO 7 (some 25) (v := ?_) rfl rfl (by kernel_rfl) (by kernel_rfl) (by kernel_rfl) (fun _ _ _ h => h) (Or.inl ⟨by rfl, ?_⟩) (by assumption) ?_
    rotate_left 1
    · intro w hSw; (try dsimp only at hSw); go_simp; all_goals with_reducible rfl
    try simp only [Act.put, List.setIfInBounds_toArray, List.set_cons_zero, List.set_cons_succ]
    refine takeO 8 (some 26) (v := ?_) rfl rfl (by kernel_rfl) (by kernel_rfl) (by kernel_rfl) (fun _ _ _ h => h) (Or.inl ⟨by rfl, ?_⟩) (by assumption) ?_
    rotate_left 1
    · intro w hSw; (try dsimp only at hSw); go_simp; all_goals with_reducible rfl
    try simp only [Act.put, List.setIfInBounds_toArray, List.set_cons_zero, List.set_cons_succ]
    refine takeO 9 (some 27) (v := ?_) rfl rfl (by kernel_rfl) (by kernel_rfl) (by kernel_rfl) (fun _ _ _ h => h) (Or.inl ⟨by rfl, ?_⟩) (by assumption) ?_
    rotate_left 1
    · intro w hSw; (try dsimp only at hSw); go_simp; all_goals with_reducible rfl
    try simp only [Act.put, List.setIfInBounds_toArray, List.set_cons_zero, List.set_cons_succ]
    refine wpAnyH_ready (rs := [10]) (by kernel_rfl) (by simp) ?_
    refine AllReadyH.cons rfl (fun K hK => ?_) AllReadyH.nil
    go_simp
    refine (HA.out w2).mono ?_; rintro e w3 ⟨rfl, hb⟩; have HX3 := Lib.hid (HX2.out.below hb HX2.out.lt); have HB3 := Lib.hid (HB2.out.trans (hb.mono HB2.out.size)); clear hb
    go_wp2_with fail
    refine hK.out _ _ (by first | exact ⟨HXD.out.cell 0, HXD.out.cell 1, HXD.out.cell 2, HXD.out.cell 3, HXD.out.cell 4, HXD.out.cell 5, HXD.out.cell 6, HXD.out.cell 7, HXD.out.cell 8, HXD.out.cell 9, HXD.out.cell 10⟩ | exact ⟨HX1.out.cell 0, HX1.out.cell 1, HX1.out.cell 2, HX1.out.cell 3, HX1.out.cell 4, HX1.out.cell 5, HX1.out.cell 6, HX1.out.cell 7, HX1.out.cell 8, HX1.out.cell 9, HX1.out.cell 10⟩ | exact ⟨HX2.out.cell 0, HX2.out.cell 1, HX2.out.cell 2, HX2.out.cell 3, HX2.out.cell 4, HX2.out.cell 5, HX2.out.cell 6, HX2.out.cell 7, HX2.out.cell 8, HX2.out.cell 9, HX2.out.cell 10⟩ | exact ⟨HX3.out.cell 0, HX3.out.cell 1, HX3.out.cell 2, HX3.out.cell 3, HX3.out.cell 4, HX3.out.cell 5, HX3.out.cell 6, HX3.out.cell 7, HX3.out.cell 8, HX3.out.cell 9, HX3.out.cell 10⟩) (fun hHeld => ?_)
    clear hK K
    try simp only [Act.put, List.setIfInBounds_toArray, List.set_cons_zero, List.set_cons_succ]
    refine takeO 11 (some 29) (v := ?_) rfl rfl (by kernel_rfl) (by kernel_rfl) (by kernel_rfl) (fun _ _ _ h => h) (Or.inl ⟨by rfl, ?_⟩) (by assumption) ?_
    rotate_left 1
    · intro w hSw; (try dsimp only at hSw); go_simp; all_goals with_reducible rfl
    try simp only [Act.put, List.setIfInBounds_toArray, List.set_cons_zero, List.set_cons_succ]
    refine takeO 12 (some 2) (v := ?_) rfl rfl (by kernel_rfl) (by kernel_rfl) (by kernel_rfl) (fun _ _ _ h => h) (Or.inl ⟨by rfl, ?_⟩) (by assumption) ?_
    rotate_left 1
    · intro w hSw; (try dsimp only at hSw); go_simp; all_goals with_reducible rfl
    try simp only [Act.put, List.setIfInBounds_toArray, List.set_cons_zero, List.set_cons_succ]
    refine wpAnyH_done (by kernel_rfl) ?_ _
    go_wp2_with fail
    go_ret
    exact ⟨rfl, HB3.out⟩
end Go.Proofs.Ytjhkdbcfkaaffaa
