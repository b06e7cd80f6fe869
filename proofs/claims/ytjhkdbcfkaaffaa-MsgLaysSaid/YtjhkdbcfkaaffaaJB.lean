/- The document's fours, flag, asked, replied, body. -/
import Derived.Test.YtjhkdbcfkaaffaaJA
import Derived.Test.YtjhkdbcfkaaffaaMm18
import Derived.Test.YtjhkdbcfkaaffaaSum2
import Derived.Test.YtjhkdbcfkaaffaaMm13
namespace Go.Proofs.Ytjhkdbcfkaaffaa
open Go.RowKit
set_option linter.unusedVariables false

/-- bytes handed out, wherever they lie -/
def RdOut (w : World) (l : List Nat) (e : Ending) (w' : World) : Prop := ∃ ao c, e = .returned (.slice ao l.length c) ∧ Rd w' ao l.length c (u8s l) ∧ Below w.heap.size w w'
set_option maxRecDepth 100000 in
theorem rput_out (a : Option Addr) (c : Nat) (l : List Nat) (v size : Int) (w : World) (hr : Rd w a l.length c (u8s l)) (hn : l.length ≤ 1000000) (hv : -9223372036854775808 ≤ v ∧ v ≤ 9223372036854775807) (hs : -9223372036854775808 ≤ size ∧ size ≤ 9223372036854775807) :
    Calls Try.prog 42 #[.slice a l.length c, .int .i64 v, .int .i64 size] w fun e w' => RdOut w (putL l v size) e w' := by
  refine (refput_any a l.length c l v size w hr (by omega) hv hs).mono ?_
  rintro e w' ⟨ao, c2, rfl, h1, h2⟩
  rw [u8s_length] at h1 ⊢
  exact ⟨ao, c2, rfl, ownsRow_rd h1, h2⟩
set_option maxRecDepth 100000 in
theorem rputtext_out (a : Option Addr) (c : Nat) (l : List Nat) (s : ByteArray) (w : World) (hr : Rd w a l.length c (u8s l)) (hn : l.length ≤ 100000) (hs : s.size ≤ 1000000) :
    Calls Try.prog 80 #[.slice a l.length c, .string s] w fun e w' => RdOut w (putTextL l s) e w' := by
  refine (refputtext_any a l.length c l s w hr (by omega) (by omega)).mono ?_
  rintro e w' ⟨ao, c2, rfl, h1, h2⟩
  rw [u8s_length] at h1 ⊢
  exact ⟨ao, c2, rfl, ownsRow_rd h1, h2⟩
set_option maxRecDepth 100000 in
set_option maxHeartbeats 4000000 in
theorem fours_any (a : Option Addr) (c : Nat) (b : List Nat) (a2 : Option Addr) (n c2 : Nat) (L : List Int) (w : World) (hr : Rd w a b.length c (u8s b)) (hb : b.length ≤ 1000) (hl : Rd w a2 n c2 (ints L)) (hL : L.length ≤ 10) (hin : ∀ x ∈ L, -9223372036854775808 ≤ x ∧ x ≤ 9223372036854775807) :
    Calls Try.prog 62 #[.slice a b.length c, .slice a2 n c2] w fun e w' => RdOut w (numsL b L) e w' := by
  have hn : L.length = n := by rw [← hl.1, ints_len]
  subst hn
  have HL := Lib.hid hl
  have HIN := Lib.hid hin
  have HR := Lib.hid hr
  have HLN := Lib.hid (fun k => numsL_len (L.take k) b)
  clear hl hin hr
  go_enter Try.func62, Try.ntmps62
  go_wp2_with fail
  go_loopw [0, 5] (fun bv v wr => ∃ (k : Nat) (ao : Option Addr) (c' : Nat), k ≤ L.length ∧ v = .int .i64 k ∧ bv = .slice ao (numsL b (L.take k)).length c' ∧ RowKit.Hid (Rd wr ao (numsL b (L.take k)).length c' (u8s (numsL b (L.take k)))) ∧ RowKit.Hid (Below w.heap.size w wr)) (fun _ v _ => L.length - (intOf v).toNat)
  case atStart => exact ⟨0, a, c, by omega, rfl, rfl, HR.out, Below.refl _ _⟩
  case round =>
    obtain ⟨k, ao, c', hk, rfl, rfl, HA, HB⟩ := hrel
    by_cases hlt : k < L.length
    · obtain ⟨x, hx⟩ : ∃ x, L[k]? = some x := ⟨_, List.getElem?_eq_getElem hlt⟩
      obtain ⟨bb, ob, hab, hbb, hc⟩ := (HL.out.below HB.out rfl).2.2.2.2 k hlt
      have cx : wr.cell? ⟨bb, ob + k, none⟩ = some (.int .i64 x) := by rw [hc]; simp [ints, hx]
      have HN := Lib.hid (numsL_next (l := b) hx)
      have hxx := HIN.out x (List.mem_of_getElem? hx)
      have k1 : (0 : Int) ≤ (k : Int) := by omega
      have k2 : (k : Int) < (L.length : Int) := by omega
      have HP := Lib.hid (rput_out ao c' (numsL b (L.take k)) x 4 wr HA.out (by have := HLN.out k; rw [List.length_take] at this; omega) hxx (by omega))
      rw [HN.out] at HP
      subst hab
      clear hx hc hxx
      generalize hq : numsL b (L.take k) = l1 at *
      have HQ := Lib.hid hq
      clear hq
      go_wp2_with fail
      refine HP.out.mono ?_
      rintro e w1 ⟨ao2, c3, rfl, h1, hb1⟩
      have HA2 := Lib.hid h1
      have HB2 := Lib.hid (HB.out.trans (hb1.mono HB.out.size))
      clear h1 hb1
      go_wp2_with fail
      go_roundw
      case rel => exact ⟨k + 1, ao2, c3, by omega, by go_num, rfl, HA2.out, HB2.out⟩
      case measure => simp [intOf]; omega
    · obtain rfl : k = L.length := by omega
      have ha := HA.out
      rw [List.take_length] at ha
      rw [List.take_length]
      go_wp2_with fail
      go_ret
      exact ⟨ao, c', rfl, ha, HB.out⟩
set_option maxRecDepth 100000 in
set_option maxHeartbeats 2000000 in
theorem rflag15_any (a : Option Addr) (c : Nat) (l : List Nat) (f : Bool) (w : World) (hr : Rd w a l.length c (u8s l)) (hn : l.length ≤ 1000000) :
    Calls Try.prog 81 #[.slice a l.length c, .bool f] w fun e w' => RdOut w (putL l (flagN f) 1) e w' := by
  have H1 := Lib.hid (rput_out a c l 1 1 w hr hn (by omega) (by omega))
  have H0 := Lib.hid (rput_out a c l 0 1 w hr hn (by omega) (by omega))
  clear hr
  go_enter Try.func81, Try.ntmps81
  cases f
  · go_wp2_with fail
    refine H0.out.mono ?_
    rintro e w1 ⟨ao, c2, rfl, h1, h2⟩
    go_wp2_with fail
    go_ret
    exact ⟨ao, c2, rfl, h1, h2⟩
  · go_wp2_with fail
    refine H1.out.mono ?_
    rintro e w1 ⟨ao, c2, rfl, h1, h2⟩
    go_wp2_with fail
    go_ret
    exact ⟨ao, c2, rfl, h1, h2⟩
set_option maxRecDepth 100000 in
set_option maxHeartbeats 8000000 in
theorem asked15_any (s q h sq ep : Int) (tx : ByteArray) (k b : Int) (f : Bool) (d : Int) (wd : ByteArray) (w : World) (hm : MV.may (.ask s q h sq ep tx k b f d wd) = true) (h1 : tx.size ≤ 2000) (h2 : wd.size ≤ 2000) :
    Calls Try.prog 63 #[.agg #[.int .i64 s, .int .i64 q, .int .i64 h, .int .i64 sq, .int .i64 ep, .string tx, .int .i64 k, .int .i64 b, .bool f, .int .i64 d, .string wd]] w fun e w' => RdOut w (restL (.ask s q h sq ep tx k b f d wd)) e w' := by
  have HIN := Lib.hid (ask_in hm).1
  have hk4 := (ask_in hm).2
  clear hm
  obtain ⟨m1, e1⟩ : ∃ l, numsL [] [s, q, h, sq, ep] = l := ⟨_, rfl⟩
  obtain ⟨m2, e2⟩ : ∃ l, putTextL m1 tx = l := ⟨_, rfl⟩
  obtain ⟨m3, e3⟩ : ∃ l, putL m2 k 1 = l := ⟨_, rfl⟩
  obtain ⟨m4, e4⟩ : ∃ l, putL m3 b 1 = l := ⟨_, rfl⟩
  obtain ⟨m5, e5⟩ : ∃ l, putL m4 (flagN f) 1 = l := ⟨_, rfl⟩
  obtain ⟨m6, e6⟩ : ∃ l, putL m5 d 1 = l := ⟨_, rfl⟩
  obtain ⟨m7, e7⟩ : ∃ l, putTextL m6 wd = l := ⟨_, rfl⟩
  have n1 : m1.length = 20 := by rw [← e1, numsL_len]; rfl
  have n2 : m2.length = 22 + tx.size := by rw [← e2, putTextL_len _ _ (by omega), n1]
  have n3 : m3.length = 23 + tx.size := by rw [← e3, putL_len1, n2]; omega
  have n4 : m4.length = 24 + tx.size := by rw [← e4, putL_len1, n3]; omega
  have n5 : m5.length = 25 + tx.size := by rw [← e5, putL_len1, n4]; omega
  have n6 : m6.length = 26 + tx.size := by rw [← e6, putL_len1, n5]; omega
  have EB := Lib.hid (show m7 = restL (.ask s q h sq ep tx k b f d wd) from by rw [← e7, ← e6, ← e5, ← e4, ← e3, ← e2, ← e1]; unfold restL itmL; simp only [putTextL_eq, putL1, numsL_cons, numsL_nil, List.nil_append, List.append_assoc])
  rw [← EB.out]
  have E1 := Lib.hid e1
  have E2 := Lib.hid e2
  have E3 := Lib.hid e3
  have E4 := Lib.hid e4
  have E5 := Lib.hid e5
  have E6 := Lib.hid e6
  have E7 := Lib.hid e7
  have N1 := Lib.hid (show m1.length ≤ 5000 from by omega)
  have N2 := Lib.hid (show m2.length ≤ 5000 from by omega)
  have N3 := Lib.hid (show m3.length ≤ 5000 from by omega)
  have N4 := Lib.hid (show m4.length ≤ 5000 from by omega)
  have N5 := Lib.hid (show m5.length ≤ 5000 from by omega)
  have N6 := Lib.hid (show m6.length ≤ 5000 from by omega)
  clear e1 e2 e3 e4 e5 e6 e7 n1 n2 n3 n4 n5 n6 EB
  have HB := Lib.hid ((Below.refl w.heap.size w).alloc (Nat.le_refl _) (.cells #[.int .i64 s, .int .i64 q, .int .i64 h, .int .i64 sq, .int .i64 ep, .string tx, .int .i64 k, .int .i64 b, .bool f, .int .i64 d, .string wd] 29))
  have HX := Lib.hid (show Blk (w.alloc (.cells #[.int .i64 s, .int .i64 q, .int .i64 h, .int .i64 sq, .int .i64 ep, .string tx, .int .i64 k, .int .i64 b, .bool f, .int .i64 d, .string wd] 29)) w.heap.size 29 [.int .i64 s, .int .i64 q, .int .i64 h, .int .i64 sq, .int .i64 ep, .string tx, .int .i64 k, .int .i64 b, .bool f, .int .i64 d, .string wd] from heap_alloc_new w _)
  obtain ⟨W0, hW0⟩ : ∃ W0, w.alloc (.cells #[.int .i64 s, .int .i64 q, .int .i64 h, .int .i64 sq, .int .i64 ep, .string tx, .int .i64 k, .int .i64 b, .bool f, .int .i64 d, .string wd] 29) = W0 := ⟨_, rfl⟩
  rw [hW0] at HB HX
  have HB1 := Lib.hid (HB.out.alloc HB.out.size (.cells (ints [s, q, h, sq, ep]).toArray 3))
  have HX1 := Lib.hid (HX.out.alloc (.cells (ints [s, q, h, sq, ep]).toArray 3))
  have HC := Lib.hid (fours_any none 0 [] (some ⟨W0.heap.size, 0, none⟩) 5 5 [s, q, h, sq, ep] (W0.alloc (.cells (ints [s, q, h, sq, ep]).toArray 3)) (rd_nil _ _ rfl) (by decide) (new_ints W0 [s, q, h, sq, ep] (by simp [maxLen])) (by simp) HIN.out)
  rw [E1.out] at HC
  have t0 : W0.cell? ⟨w.heap.size, 0, none⟩ = some (.int .i64 s) := HX.out.cell 0
  have t1 : W0.cell? ⟨w.heap.size, 1, none⟩ = some (.int .i64 q) := HX.out.cell 1
  have t2 : W0.cell? ⟨w.heap.size, 2, none⟩ = some (.int .i64 h) := HX.out.cell 2
  have t3 : W0.cell? ⟨w.heap.size, 3, none⟩ = some (.int .i64 sq) := HX.out.cell 3
  have t4 : W0.cell? ⟨w.heap.size, 4, none⟩ = some (.int .i64 ep) := HX.out.cell 4
  have t5 : W0.cell? ⟨w.heap.size, 5, none⟩ = some (.string tx) := HX.out.cell 5
  have t6 : W0.cell? ⟨w.heap.size, 6, none⟩ = some (.int .i64 k) := HX.out.cell 6
  have t7 : W0.cell? ⟨w.heap.size, 7, none⟩ = some (.int .i64 b) := HX.out.cell 7
  have t8 : W0.cell? ⟨w.heap.size, 8, none⟩ = some (.bool f) := HX.out.cell 8
  have t9 : W0.cell? ⟨w.heap.size, 9, none⟩ = some (.int .i64 d) := HX.out.cell 9
  have t10 : W0.cell? ⟨w.heap.size, 10, none⟩ = some (.string wd) := HX.out.cell 10
  go_enter Try.func63, Try.ntmps63
  go_wp2_with (rw [hW0])
  clear hW0
  refine HC.out.mono ?_
  clear HC
  rintro e w2 ⟨ao2, c2, rfl, hr, hb⟩
  have HR2 := Lib.hid hr
  have HX2 := Lib.hid (HX1.out.below hb HX1.out.lt)
  have HB2 := Lib.hid (HB1.out.trans (hb.mono HB1.out.size))
  clear hr hb
  clear t0 t1 t2 t3 t4 t5 t6 t7 t8 t9 t10
  have t0 : w2.cell? ⟨w.heap.size, 0, none⟩ = some (.int .i64 s) := HX2.out.cell 0
  have t1 : w2.cell? ⟨w.heap.size, 1, none⟩ = some (.int .i64 q) := HX2.out.cell 1
  have t2 : w2.cell? ⟨w.heap.size, 2, none⟩ = some (.int .i64 h) := HX2.out.cell 2
  have t3 : w2.cell? ⟨w.heap.size, 3, none⟩ = some (.int .i64 sq) := HX2.out.cell 3
  have t4 : w2.cell? ⟨w.heap.size, 4, none⟩ = some (.int .i64 ep) := HX2.out.cell 4
  have t5 : w2.cell? ⟨w.heap.size, 5, none⟩ = some (.string tx) := HX2.out.cell 5
  have t6 : w2.cell? ⟨w.heap.size, 6, none⟩ = some (.int .i64 k) := HX2.out.cell 6
  have t7 : w2.cell? ⟨w.heap.size, 7, none⟩ = some (.int .i64 b) := HX2.out.cell 7
  have t8 : w2.cell? ⟨w.heap.size, 8, none⟩ = some (.bool f) := HX2.out.cell 8
  have t9 : w2.cell? ⟨w.heap.size, 9, none⟩ = some (.int .i64 d) := HX2.out.cell 9
  have t10 : w2.cell? ⟨w.heap.size, 10, none⟩ = some (.string wd) := HX2.out.cell 10
  have HC := Lib.hid (rputtext_out ao2 c2 m1 tx w2 HR2.out (by have := N1.out; omega) (by omega))
  rw [E2.out] at HC
  go_wp2_with fail
  refine HC.out.mono ?_
  clear HC
  rintro e w3 ⟨ao3, c3, rfl, hr, hb⟩
  have HR3 := Lib.hid hr
  have HX3 := Lib.hid (HX2.out.below hb HX2.out.lt)
  have HB3 := Lib.hid (HB2.out.trans (hb.mono HB2.out.size))
  clear hr hb
  clear t0 t1 t2 t3 t4 t5 t6 t7 t8 t9 t10
  go_wp2_with fail
  have HR3d := Lib.hid (show Rd w3.drew ao3 m2.length c3 (u8s m2) from HR3.out)
  have HB3d := Lib.hid HB3.out.drew
  have HX3d := Lib.hid (show Blk w3.drew w.heap.size 29 [.int .i64 s, .int .i64 q, .int .i64 h, .int .i64 sq, .int .i64 ep, .string tx, .int .i64 k, .int .i64 b, .bool f, .int .i64 d, .string wd] from HX3.out)
  clear HR3 HB3 HX3
  refine wp_region_held_drew (S := (fun w' => w'.cell? ⟨w.heap.size, 6, none⟩ = some (.int .i64 k) ∧ w'.cell? ⟨w.heap.size, 7, none⟩ = some (.int .i64 b))) (by kernel_rfl) (by first | exact ⟨HX3d.out.cell 6, HX3d.out.cell 7⟩ | exact ⟨HX4.out.cell 6, HX4.out.cell 7⟩ | exact ⟨HX5.out.cell 6, HX5.out.cell 7⟩) (fun hHeld => ?_)
  refine takeO 0 (some 20) (v := ?_) rfl rfl (by kernel_rfl) (by kernel_rfl) (by kernel_rfl) (fun _ _ _ h => h) (Or.inl ⟨by rfl, ?_⟩) (by assumption) ?_
  rotate_left 1
  · intro w hSw; (try dsimp only at hSw); go_simp; all_goals with_reducible rfl
  try simp only [Act.put, List.setIfInBounds_toArray, List.set_cons_zero, List.set_cons_succ]
  refine takeO 1 (some 21) (v := ?_) rfl rfl (by kernel_rfl) (by kernel_rfl) (by kernel_rfl) (fun _ _ _ h => h) (Or.inl ⟨by rfl, ?_⟩) (by assumption) ?_
  rotate_left 1
  · intro w hSw; (try dsimp only at hSw); go_simp; all_goals with_reducible rfl
  try simp only [Act.put, List.setIfInBounds_toArray, List.set_cons_zero, List.set_cons_succ]
  refine takeO 2 (some 22) (v := ?_) rfl rfl (by kernel_rfl) (by kernel_rfl) (by kernel_rfl) (fun _ _ _ h => h) (Or.inl ⟨by rfl, ?_⟩) (by assumption) ?_
  rotate_left 1
  · intro w hSw; (try dsimp only at hSw); go_simp; all_goals with_reducible rfl
  try simp only [Act.put, List.setIfInBounds_toArray, List.set_cons_zero, List.set_cons_succ]
  refine takeO 4 (some 24) (v := ?_) rfl rfl (by kernel_rfl) (by kernel_rfl) (by kernel_rfl) (fun _ _ _ h => h) (Or.inl ⟨by rfl, ?_⟩) (by assumption) ?_
  rotate_left 1
  · intro w hSw; (try dsimp only at hSw); go_simp; all_goals with_reducible rfl
  try simp only [Act.put, List.setIfInBounds_toArray, List.set_cons_zero, List.set_cons_succ]
  refine takeO 5 (some 25) (v := ?_) rfl rfl (by kernel_rfl) (by kernel_rfl) (by kernel_rfl) (fun _ _ _ h => h) (Or.inl ⟨by rfl, ?_⟩) (by assumption) ?_
  rotate_left 1
  · intro w hSw; (try dsimp only at hSw); go_simp; all_goals with_reducible rfl
  try simp only [Act.put, List.setIfInBounds_toArray, List.set_cons_zero, List.set_cons_succ]
  refine wpAnyH_ready (rs := [3]) (by kernel_rfl) (by simp) ?_
  refine AllReadyH.cons rfl (fun K hK => ?_) AllReadyH.nil
  go_simp
  have HC := Lib.hid (rput_out ao3 c3 m2 k 1 w3.drew HR3d.out (by have := N2.out; omega) (by omega) (by omega)); rw [E3.out] at HC; refine HC.out.mono ?_; clear HC; rintro e w4 ⟨ao4, c4, rfl, hr, hb⟩; have HR4 := Lib.hid hr; have HX4 := Lib.hid (HX3d.out.below hb HX3d.out.lt); have HB4 := Lib.hid (HB3d.out.trans (hb.mono HB3d.out.size)); clear hr hb
  go_wp2_with fail
  refine hK.out _ _ (by first | exact ⟨HX3d.out.cell 6, HX3d.out.cell 7⟩ | exact ⟨HX4.out.cell 6, HX4.out.cell 7⟩ | exact ⟨HX5.out.cell 6, HX5.out.cell 7⟩) (fun hHeld => ?_)
  clear hK K
  try simp only [Act.put, List.setIfInBounds_toArray, List.set_cons_zero, List.set_cons_succ]
  refine wpAnyH_ready (rs := [6]) (by kernel_rfl) (by simp) ?_
  refine AllReadyH.cons rfl (fun K hK => ?_) AllReadyH.nil
  go_simp
  have HC := Lib.hid (rput_out ao4 c4 m3 b 1 w4 HR4.out (by have := N3.out; omega) (by omega) (by omega)); rw [E4.out] at HC; refine HC.out.mono ?_; clear HC; rintro e w5 ⟨ao5, c5, rfl, hr, hb⟩; have HR5 := Lib.hid hr; have HX5 := Lib.hid (HX4.out.below hb HX4.out.lt); have HB5 := Lib.hid (HB4.out.trans (hb.mono HB4.out.size)); clear hr hb
  go_wp2_with fail
  refine hK.out _ _ (by first | exact ⟨HX3d.out.cell 6, HX3d.out.cell 7⟩ | exact ⟨HX4.out.cell 6, HX4.out.cell 7⟩ | exact ⟨HX5.out.cell 6, HX5.out.cell 7⟩) (fun hHeld => ?_)
  clear hK K
  try simp only [Act.put, List.setIfInBounds_toArray, List.set_cons_zero, List.set_cons_succ]
  refine takeO 7 (some 3) (v := ?_) rfl rfl (by kernel_rfl) (by kernel_rfl) (by kernel_rfl) (fun _ _ _ h => h) (Or.inl ⟨by rfl, ?_⟩) (by assumption) ?_
  rotate_left 1
  · intro w hSw; (try dsimp only at hSw); go_simp; all_goals with_reducible rfl
  try simp only [Act.put, List.setIfInBounds_toArray, List.set_cons_zero, List.set_cons_succ]
  refine wpAnyH_done (by kernel_rfl) ?_ _
  clear HX3d HX4 HB3d HB4 HR3d HR4
  have t8 : w5.cell? ⟨w.heap.size, 8, none⟩ = some (.bool f) := HX5.out.cell 8
  have HC := Lib.hid (rflag15_any ao5 c5 m4 f w5 HR5.out (by have := N4.out; omega))
  rw [E5.out] at HC
  go_wp2_with fail
  refine HC.out.mono ?_
  clear HC
  rintro e w6 ⟨ao6, c6, rfl, hr, hb⟩
  have HR6 := Lib.hid hr
  have HX6 := Lib.hid (HX5.out.below hb HX5.out.lt)
  have HB6 := Lib.hid (HB5.out.trans (hb.mono HB5.out.size))
  clear hr hb
  clear t8 HX5 HB5 HR5
  go_wp2_with fail
  have HR6d := Lib.hid (show Rd w6.drew ao6 m5.length c6 (u8s m5) from HR6.out)
  have HB6d := Lib.hid HB6.out.drew
  have HX6d := Lib.hid (show Blk w6.drew w.heap.size 29 [.int .i64 s, .int .i64 q, .int .i64 h, .int .i64 sq, .int .i64 ep, .string tx, .int .i64 k, .int .i64 b, .bool f, .int .i64 d, .string wd] from HX6.out)
  clear HR6 HB6 HX6
  refine wp_region_held_drew (S := (fun w' => w'.cell? ⟨w.heap.size, 9, none⟩ = some (.int .i64 d) ∧ w'.cell? ⟨w.heap.size, 10, none⟩ = some (.string wd))) (by kernel_rfl) (by first | exact ⟨HX6d.out.cell 9, HX6d.out.cell 10⟩ | exact ⟨HX7.out.cell 9, HX7.out.cell 10⟩ | exact ⟨HX8.out.cell 9, HX8.out.cell 10⟩) (fun hHeld => ?_)
  refine takeO 0 (some 31) (v := ?_) rfl rfl (by kernel_rfl) (by kernel_rfl) (by kernel_rfl) (fun _ _ _ h => h) (Or.inl ⟨by rfl, ?_⟩) (by assumption) ?_
  rotate_left 1
  · intro w hSw; (try dsimp only at hSw); go_simp; all_goals with_reducible rfl
  try simp only [Act.put, List.setIfInBounds_toArray, List.set_cons_zero, List.set_cons_succ]
  refine takeO 1 (some 32) (v := ?_) rfl rfl (by kernel_rfl) (by kernel_rfl) (by kernel_rfl) (fun _ _ _ h => h) (Or.inl ⟨by rfl, ?_⟩) (by assumption) ?_
  rotate_left 1
  · intro w hSw; (try dsimp only at hSw); go_simp; all_goals with_reducible rfl
  try simp only [Act.put, List.setIfInBounds_toArray, List.set_cons_zero, List.set_cons_succ]
  refine takeO 2 (some 33) (v := ?_) rfl rfl (by kernel_rfl) (by kernel_rfl) (by kernel_rfl) (fun _ _ _ h => h) (Or.inl ⟨by rfl, ?_⟩) (by assumption) ?_
  rotate_left 1
  · intro w hSw; (try dsimp only at hSw); go_simp; all_goals with_reducible rfl
  try simp only [Act.put, List.setIfInBounds_toArray, List.set_cons_zero, List.set_cons_succ]
  refine takeO 3 (some 34) (v := ?_) rfl rfl (by kernel_rfl) (by kernel_rfl) (by kernel_rfl) (fun _ _ _ h => h) (Or.inl ⟨by rfl, ?_⟩) (by assumption) ?_
  rotate_left 1
  · intro w hSw; (try dsimp only at hSw); go_simp; all_goals with_reducible rfl
  try simp only [Act.put, List.setIfInBounds_toArray, List.set_cons_zero, List.set_cons_succ]
  refine takeO 5 (some 36) (v := ?_) rfl rfl (by kernel_rfl) (by kernel_rfl) (by kernel_rfl) (fun _ _ _ h => h) (Or.inl ⟨by rfl, ?_⟩) (by assumption) ?_
  rotate_left 1
  · intro w hSw; (try dsimp only at hSw); go_simp; all_goals with_reducible rfl
  try simp only [Act.put, List.setIfInBounds_toArray, List.set_cons_zero, List.set_cons_succ]
  refine takeO 6 (some 37) (v := ?_) rfl rfl (by kernel_rfl) (by kernel_rfl) (by kernel_rfl) (fun _ _ _ h => h) (Or.inl ⟨by rfl, ?_⟩) (by assumption) ?_
  rotate_left 1
  · intro w hSw; (try dsimp only at hSw); go_simp; all_goals with_reducible rfl
  try simp only [Act.put, List.setIfInBounds_toArray, List.set_cons_zero, List.set_cons_succ]
  refine takeO 7 (some 38) (v := ?_) rfl rfl (by kernel_rfl) (by kernel_rfl) (by kernel_rfl) (fun _ _ _ h => h) (Or.inl ⟨by rfl, ?_⟩) (by assumption) ?_
  rotate_left 1
  · intro w hSw; (try dsimp only at hSw); go_simp; all_goals with_reducible rfl
  try simp only [Act.put, List.setIfInBounds_toArray, List.set_cons_zero, List.set_cons_succ]
  refine wpAnyH_ready (rs := [4]) (by kernel_rfl) (by simp) ?_
  refine AllReadyH.cons rfl (fun K hK => ?_) AllReadyH.nil
  go_simp
  have HC := Lib.hid (rput_out ao6 c6 m5 d 1 w6.drew HR6d.out (by have := N5.out; omega) (by omega) (by omega)); rw [E6.out] at HC; refine HC.out.mono ?_; clear HC; rintro e w7 ⟨ao7, c7, rfl, hr, hb⟩; have HR7 := Lib.hid hr; have HX7 := Lib.hid (HX6d.out.below hb HX6d.out.lt); have HB7 := Lib.hid (HB6d.out.trans (hb.mono HB6d.out.size)); clear hr hb
  go_wp2_with fail
  refine hK.out _ _ (by first | exact ⟨HX6d.out.cell 9, HX6d.out.cell 10⟩ | exact ⟨HX7.out.cell 9, HX7.out.cell 10⟩ | exact ⟨HX8.out.cell 9, HX8.out.cell 10⟩) (fun hHeld => ?_)
  clear hK K
  try simp only [Act.put, List.setIfInBounds_toArray, List.set_cons_zero, List.set_cons_succ]
  refine wpAnyH_ready (rs := [8]) (by kernel_rfl) (by simp) ?_
  refine AllReadyH.cons rfl (fun K hK => ?_) AllReadyH.nil
  go_simp
  have HC := Lib.hid (rputtext_out ao7 c7 m6 wd w7 HR7.out (by have := N6.out; omega) (by omega)); rw [E7.out] at HC; refine HC.out.mono ?_; clear HC; rintro e w8 ⟨ao8, c8, rfl, hr, hb⟩; have HR8 := Lib.hid hr; have HX8 := Lib.hid (HX7.out.below hb HX7.out.lt); have HB8 := Lib.hid (HB7.out.trans (hb.mono HB7.out.size)); clear hr hb
  go_wp2_with fail
  refine hK.out _ _ (by first | exact ⟨HX6d.out.cell 9, HX6d.out.cell 10⟩ | exact ⟨HX7.out.cell 9, HX7.out.cell 10⟩ | exact ⟨HX8.out.cell 9, HX8.out.cell 10⟩) (fun hHeld => ?_)
  clear hK K
  try simp only [Act.put, List.setIfInBounds_toArray, List.set_cons_zero, List.set_cons_succ]
  refine takeO 9 (some 2) (v := ?_) rfl rfl (by kernel_rfl) (by kernel_rfl) (by kernel_rfl) (fun _ _ _ h => h) (Or.inl ⟨by rfl, ?_⟩) (by assumption) ?_
  rotate_left 1
  · intro w hSw; (try dsimp only at hSw); go_simp; all_goals with_reducible rfl
  try simp only [Act.put, List.setIfInBounds_toArray, List.set_cons_zero, List.set_cons_succ]
  refine wpAnyH_done (by kernel_rfl) ?_ _
  go_wp2_with fail
  go_ret
  exact ⟨ao8, c8, rfl, HR8.out, HB8.out⟩
set_option maxRecDepth 100000 in
set_option maxHeartbeats 8000000 in
theorem replied15_any (s q h sq wk ep : Int) (l : List KeyL) (en : Bool) (a : Option Addr) (c : Nat) (w : World) (hr : RdE KeyL.cells 2 w a l.length c l) (hm : MV.may (.reply s q h sq wk ep l en) = true) (hx : ∀ x ∈ l, x.2.size ≤ 2000) :
    Calls Try.prog 64 #[.agg #[.int .i64 s, .int .i64 q, .int .i64 h, .int .i64 sq, .int .i64 wk, .int .i64 ep, .slice a l.length c, .bool en]] w fun e w' => RdOut w (restL (.reply s q h sq wk ep l en)) e w' := by
  have HIN := Lib.hid (reply_in hm).1
  have HD := Lib.hid (reply_in hm).2.1
  have hl5 := (reply_in hm).2.2
  have HSZ := Lib.hid hx
  have HRI := Lib.hid (fun (W : World) (hbw : Below w.heap.size w W) => hr.below hbw rfl)
  have hcap := hr.2.1
  have hcm := hr.2.2.1
  unfold maxLen at hcm
  obtain ⟨m1, e1⟩ : ∃ m, numsL [] [s, q, h, sq, wk, ep] = m := ⟨_, rfl⟩
  obtain ⟨m2, e2⟩ : ∃ m, putL m1 (l.length : Int) 1 = m := ⟨_, rfl⟩
  obtain ⟨ln, e3⟩ : ∃ ln : Nat → List Nat, (fun i => itemsL m2 (l.take i)) = ln := ⟨_, rfl⟩
  obtain ⟨bl, e4⟩ : ∃ m, putL (ln l.length) (flagN en) 1 = m := ⟨_, rfl⟩
  have n1 : m1.length = 24 := by rw [← e1, numsL_len]; rfl
  have n2 : m2.length = 25 := by rw [← e2, putL_len1, n1]
  have NL := Lib.hid (show ∀ i, i ≤ l.length → (ln i).length ≤ 25 + i * 2003 from by rw [← e3]; intro i hi; exact itemsL_len m2 25 n2 l HSZ.out i hi)
  have nn := NL.out l.length (Nat.le_refl _)
  have HS0 := Lib.hid (show ln 0 = m2 from by rw [← e3]; rfl)
  have HSS := Lib.hid (show ∀ i x, l[i]? = some x → putTextL (putL (ln i) x.1 1) x.2 = ln (i + 1) from by rw [← e3]; intro i x hx; exact itemsL_next hx)
  have EB := Lib.hid (show bl = restL (.reply s q h sq wk ep l en) from by rw [← e4, ← e3, ← e2, ← e1]; unfold restL; simp only [List.take_length, itemsL_eq, putL1, numsL_cons, numsL_nil, List.nil_append, List.append_assoc])
  rw [← EB.out]
  have E1 := Lib.hid e1
  have E2 := Lib.hid e2
  have E4 := Lib.hid e4
  have N1 := Lib.hid (show m1.length ≤ 5000 from by omega)
  have N4 := Lib.hid (show (ln l.length).length ≤ 50000 from by omega)
  clear e1 e2 e3 e4 n1 n2 nn EB hm hx hr
  have HB := Lib.hid ((Below.refl w.heap.size w).alloc (Nat.le_refl _) (.cells #[.int .i64 s, .int .i64 q, .int .i64 h, .int .i64 sq, .int .i64 wk, .int .i64 ep, .slice a l.length c, .bool en] 32))
  have HX := Lib.hid (show Blk (w.alloc (.cells #[.int .i64 s, .int .i64 q, .int .i64 h, .int .i64 sq, .int .i64 wk, .int .i64 ep, .slice a l.length c, .bool en] 32)) w.heap.size 32 [.int .i64 s, .int .i64 q, .int .i64 h, .int .i64 sq, .int .i64 wk, .int .i64 ep, .slice a l.length c, .bool en] from heap_alloc_new w _)
  obtain ⟨W0, hW0⟩ : ∃ W0, w.alloc (.cells #[.int .i64 s, .int .i64 q, .int .i64 h, .int .i64 sq, .int .i64 wk, .int .i64 ep, .slice a l.length c, .bool en] 32) = W0 := ⟨_, rfl⟩
  rw [hW0] at HB HX
  have HB1 := Lib.hid (HB.out.alloc HB.out.size (.cells (ints [s, q, h, sq, wk, ep]).toArray 3))
  have HX1 := Lib.hid (HX.out.alloc (.cells (ints [s, q, h, sq, wk, ep]).toArray 3))
  have HC := Lib.hid (fours_any none 0 [] (some ⟨W0.heap.size, 0, none⟩) 6 6 [s, q, h, sq, wk, ep] (W0.alloc (.cells (ints [s, q, h, sq, wk, ep]).toArray 3)) (rd_nil _ _ rfl) (by decide) (new_ints W0 [s, q, h, sq, wk, ep] (by simp [maxLen])) (by simp) HIN.out)
  rw [E1.out] at HC
  have t0 : W0.cell? ⟨w.heap.size, 0, none⟩ = some (.int .i64 s) := HX.out.cell 0
  have t1 : W0.cell? ⟨w.heap.size, 1, none⟩ = some (.int .i64 q) := HX.out.cell 1
  have t2 : W0.cell? ⟨w.heap.size, 2, none⟩ = some (.int .i64 h) := HX.out.cell 2
  have t3 : W0.cell? ⟨w.heap.size, 3, none⟩ = some (.int .i64 sq) := HX.out.cell 3
  have t4 : W0.cell? ⟨w.heap.size, 4, none⟩ = some (.int .i64 wk) := HX.out.cell 4
  have t5 : W0.cell? ⟨w.heap.size, 5, none⟩ = some (.int .i64 ep) := HX.out.cell 5
  have t6 : W0.cell? ⟨w.heap.size, 6, none⟩ = some (.slice a l.length c) := HX.out.cell 6
  have t7 : W0.cell? ⟨w.heap.size, 7, none⟩ = some (.bool en) := HX.out.cell 7
  go_enter Try.func64, Try.ntmps64
  go_wp2_with (rw [hW0])
  clear hW0
  refine HC.out.mono ?_
  clear HC
  rintro e w2 ⟨ao2, c2, rfl, hr, hb⟩
  have HR2 := Lib.hid hr
  have HX2 := Lib.hid (HX1.out.below hb HX1.out.lt)
  have HB2 := Lib.hid (HB1.out.trans (hb.mono HB1.out.size))
  clear hr hb
  clear t0 t1 t2 t3 t4 t5 t6 t7
  have t6 : w2.cell? ⟨w.heap.size, 6, none⟩ = some (.slice a l.length c) := HX2.out.cell 6
  have HC := Lib.hid (rput_out ao2 c2 m1 (l.length : Int) 1 w2 HR2.out (by have := N1.out; omega) (by omega) (by omega))
  rw [E2.out] at HC
  go_wp2_with fail
  refine HC.out.mono ?_
  clear HC
  rintro e w3 ⟨ao3, c3, rfl, hr, hb⟩
  have HR3 := Lib.hid hr
  have HX3 := Lib.hid (HX2.out.below hb HX2.out.lt)
  have HB3 := Lib.hid (HB2.out.trans (hb.mono HB2.out.size))
  clear hr hb
  clear t6 HX2 HB2 HR2 HX1 HB1 HX HB
  go_wp2_with fail
  go_loopw [3, 4] (fun bv v wr => ∃ (i : Nat) (ao : Option Addr) (c' : Nat), i ≤ l.length ∧ v = .int .i64 i ∧ bv = .slice ao (ln i).length c' ∧ RowKit.Hid (Rd wr ao (ln i).length c' (u8s (ln i))) ∧ RowKit.Hid (Blk wr w.heap.size 32 [.int .i64 s, .int .i64 q, .int .i64 h, .int .i64 sq, .int .i64 wk, .int .i64 ep, .slice a l.length c, .bool en]) ∧ RowKit.Hid (Below w.heap.size w wr)) (fun _ v _ => l.length - (intOf v).toNat)
  case atStart => exact ⟨0, ao3, c3, by omega, rfl, by rw [HS0.out], by rw [HS0.out]; exact HR3, HX3, HB3⟩
  case round =>
    clear HX3 HB3 HR3
    obtain ⟨i, ao, c', hi, rfl, rfl, HR4, HX4, HB4⟩ := hrel
    have t6 : wr.cell? ⟨w.heap.size, 6, none⟩ = some (.slice a l.length c) := HX4.out.cell 6
    by_cases hlt : i < l.length
    · obtain ⟨x, hx⟩ : ∃ x, l[i]? = some x := ⟨_, List.getElem?_eq_getElem hlt⟩
      obtain ⟨bb, ob, rfl, hbb, hcx⟩ := (HRI.out wr HB4.out).2.2.2.2 i x hx
      have HCX := Lib.hid (show ∀ W, Below w.heap.size w W → W.cell? ⟨bb, ob + i * 2, none⟩ = some (.int .i64 x.1) ∧ W.cell? ⟨bb, ob + i * 2 + 1, none⟩ = some (.string x.2) from fun W hb => by
        obtain ⟨b', o', e, _, hc⟩ := (HRI.out W hb).2.2.2.2 i x hx
        cases e
        exact ⟨hc 0 (by decide), hc 1 (by decide)⟩)
      have k1 : (0 : Int) ≤ (i : Int) := by omega
      have k2 : (i : Int) < (l.length : Int) := by omega
      have hd4 := HD.out x (List.mem_of_getElem? hx)
      have hs4 := HSZ.out x (List.mem_of_getElem? hx)
      have hni := NL.out i (by omega)
      have HNX := Lib.hid (HSS.out i x hx)
      have HX4d := Lib.hid (show Blk wr.drew w.heap.size 32 [.int .i64 s, .int .i64 q, .int .i64 h, .int .i64 sq, .int .i64 wk, .int .i64 ep, .slice (some ⟨bb, ob, none⟩) l.length c, .bool en] from HX4.out)
      have HB4d := Lib.hid HB4.out.drew
      have HR4d := Lib.hid (show Rd wr.drew ao (ln i).length c' (u8s (ln i)) from HR4.out)
      clear hx hcx hbb
      go_wp2_with fail
      clear t6 HX4 HB4 HR4
      refine wp_region_held_drew (S := (fun w' => w'.cell? ⟨w.heap.size, 6, none⟩ = some (.slice (some ⟨bb, ob, none⟩) l.length c) ∧ w'.cell? ⟨bb, ob + i * 2, none⟩ = some (.int .i64 x.1) ∧ w'.cell? ⟨bb, ob + i * 2 + 1, none⟩ = some (.string x.2))) (by kernel_rfl) (by first | exact ⟨HX4d.out.cell 6, HCX.out _ HB4d.out⟩ | exact ⟨HX5.out.cell 6, HCX.out _ HB5.out⟩ | exact ⟨HX6.out.cell 6, HCX.out _ HB6.out⟩) (fun hHeld => ?_)
      refine takeO 0 (some 31) (v := ?_) rfl rfl (by kernel_rfl) (by kernel_rfl) (by kernel_rfl) (fun _ _ _ h => h) (Or.inl ⟨by rfl, ?_⟩) (by assumption) ?_
      rotate_left 1
      · intro w hSw; (try dsimp only at hSw); go_simp; all_goals with_reducible rfl
      try simp only [Act.put, List.setIfInBounds_toArray, List.set_cons_zero, List.set_cons_succ]
      refine takeO 1 (some 32) (v := ?_) rfl rfl (by kernel_rfl) (by kernel_rfl) (by kernel_rfl) (fun _ _ _ h => h) (Or.inl ⟨by rfl, ?_⟩) (by assumption) ?_
      rotate_left 1
      · intro w hSw; (try dsimp only at hSw); go_simp; all_goals with_reducible rfl
      try simp only [Act.put, List.setIfInBounds_toArray, List.set_cons_zero, List.set_cons_succ]
      refine takeO 2 (some 33) (v := ?_) rfl rfl (by kernel_rfl) (by kernel_rfl) (by kernel_rfl) (fun _ _ _ h => h) (Or.inl ⟨by rfl, ?_⟩) (by assumption) ?_
      rotate_left 1
      · intro w hSw; (try dsimp only at hSw); go_simp; all_goals with_reducible rfl
      try simp only [Act.put, List.setIfInBounds_toArray, List.set_cons_zero, List.set_cons_succ]
      refine takeO 3 (some 34) (v := ?_) rfl rfl (by kernel_rfl) (by kernel_rfl) (by kernel_rfl) (fun _ _ _ h => h) (Or.inl ⟨by rfl, ?_⟩) (by assumption) ?_
      rotate_left 1
      · intro w hSw; (try dsimp only at hSw); go_simp; all_goals with_reducible rfl
      try simp only [Act.put, List.setIfInBounds_toArray, List.set_cons_zero, List.set_cons_succ]
      refine takeO 4 (some 35) (v := ?_) rfl rfl (by kernel_rfl) (by kernel_rfl) (by kernel_rfl) (fun _ _ _ h => h) (Or.inl ⟨by rfl, ?_⟩) (by assumption) ?_
      rotate_left 1
      · intro w hSw; (try dsimp only at hSw); go_simp; all_goals with_reducible rfl
      try simp only [Act.put, List.setIfInBounds_toArray, List.set_cons_zero, List.set_cons_succ]
      refine takeO 5 (some 36) (v := ?_) rfl rfl (by kernel_rfl) (by kernel_rfl) (by kernel_rfl) (fun _ _ _ h => h) (Or.inl ⟨by rfl, ?_⟩) (by assumption) ?_
      rotate_left 1
      · intro w hSw; (try dsimp only at hSw); go_simp; all_goals with_reducible rfl
      try simp only [Act.put, List.setIfInBounds_toArray, List.set_cons_zero, List.set_cons_succ]
      refine takeO 6 (some 37) (v := ?_) rfl rfl (by kernel_rfl) (by kernel_rfl) (by kernel_rfl) (fun _ _ _ h => h) (Or.inl ⟨by rfl, ?_⟩) (by assumption) ?_
      rotate_left 1
      · intro w hSw; (try dsimp only at hSw); go_simp; all_goals with_reducible rfl
      try simp only [Act.put, List.setIfInBounds_toArray, List.set_cons_zero, List.set_cons_succ]
      refine takeO 8 (some 39) (v := ?_) rfl rfl (by kernel_rfl) (by kernel_rfl) (by kernel_rfl) (fun _ _ _ h => h) (Or.inl ⟨by rfl, ?_⟩) (by assumption) ?_
      rotate_left 1
      · intro w hSw; (try dsimp only at hSw); go_simp; all_goals with_reducible rfl
      try simp only [Act.put, List.setIfInBounds_toArray, List.set_cons_zero, List.set_cons_succ]
      refine takeO 9 (some 40) (v := ?_) rfl rfl (by kernel_rfl) (by kernel_rfl) (by kernel_rfl) (fun _ _ _ h => h) (Or.inl ⟨by rfl, ?_⟩) (by assumption) ?_
      rotate_left 1
      · intro w hSw; (try dsimp only at hSw); go_simp; all_goals with_reducible rfl
      try simp only [Act.put, List.setIfInBounds_toArray, List.set_cons_zero, List.set_cons_succ]
      refine takeO 10 (some 41) (v := ?_) rfl rfl (by kernel_rfl) (by kernel_rfl) (by kernel_rfl) (fun _ _ _ h => h) (Or.inl ⟨by rfl, ?_⟩) (by assumption) ?_
      rotate_left 1
      · intro w hSw; (try dsimp only at hSw); go_simp; all_goals with_reducible rfl
      try simp only [Act.put, List.setIfInBounds_toArray, List.set_cons_zero, List.set_cons_succ]
      refine takeO 11 (some 42) (v := ?_) rfl rfl (by kernel_rfl) (by kernel_rfl) (by kernel_rfl) (fun _ _ _ h => h) (Or.inl ⟨by rfl, ?_⟩) (by assumption) ?_
      rotate_left 1
      · intro w hSw; (try dsimp only at hSw); go_simp; all_goals with_reducible rfl
      try simp only [Act.put, List.setIfInBounds_toArray, List.set_cons_zero, List.set_cons_succ]
      refine takeO 12 (some 43) (v := ?_) rfl rfl (by kernel_rfl) (by kernel_rfl) (by kernel_rfl) (fun _ _ _ h => h) (Or.inl ⟨by rfl, ?_⟩) (by assumption) ?_
      rotate_left 1
      · intro w hSw; (try dsimp only at hSw); go_simp; all_goals with_reducible rfl
      try simp only [Act.put, List.setIfInBounds_toArray, List.set_cons_zero, List.set_cons_succ]
      refine takeO 13 (some 44) (v := ?_) rfl rfl (by kernel_rfl) (by kernel_rfl) (by kernel_rfl) (fun _ _ _ h => h) (Or.inl ⟨by rfl, ?_⟩) (by assumption) ?_
      rotate_left 1
      · intro w hSw; (try dsimp only at hSw); go_simp; all_goals with_reducible rfl
      try simp only [Act.put, List.setIfInBounds_toArray, List.set_cons_zero, List.set_cons_succ]
      refine wpAnyH_ready (rs := [7]) (by kernel_rfl) (by simp) ?_
      refine AllReadyH.cons rfl (fun K hK => ?_) AllReadyH.nil
      go_simp
      have HC := Lib.hid (rput_out ao c' (ln i) x.1 1 wr.drew HR4d.out (by omega) (by omega) (by omega)); refine HC.out.mono ?_; clear HC; rintro e w5 ⟨ao5, c5, rfl, hr, hb⟩; have HR5 := Lib.hid hr; have HX5 := Lib.hid (HX4d.out.below hb HX4d.out.lt); have HB5 := Lib.hid (HB4d.out.trans (hb.mono HB4d.out.size)); clear hr hb
      go_wp2_with fail
      refine hK.out _ _ (by first | exact ⟨HX4d.out.cell 6, HCX.out _ HB4d.out⟩ | exact ⟨HX5.out.cell 6, HCX.out _ HB5.out⟩ | exact ⟨HX6.out.cell 6, HCX.out _ HB6.out⟩) (fun hHeld => ?_)
      clear hK K
      try simp only [Act.put, List.setIfInBounds_toArray, List.set_cons_zero, List.set_cons_succ]
      refine wpAnyH_ready (rs := [14]) (by kernel_rfl) (by simp) ?_
      refine AllReadyH.cons rfl (fun K hK => ?_) AllReadyH.nil
      go_simp
      have HC := Lib.hid (rputtext_out ao5 c5 (putL (ln i) x.1 1) x.2 w5 HR5.out (by rw [putL_len1]; omega) (by omega)); rw [HNX.out] at HC; refine HC.out.mono ?_; clear HC; rintro e w6 ⟨ao6, c6, rfl, hr, hb⟩; have HR6 := Lib.hid hr; have HX6 := Lib.hid (HX5.out.below hb HX5.out.lt); have HB6 := Lib.hid (HB5.out.trans (hb.mono HB5.out.size)); clear hr hb
      go_wp2_with fail
      refine hK.out _ _ (by first | exact ⟨HX4d.out.cell 6, HCX.out _ HB4d.out⟩ | exact ⟨HX5.out.cell 6, HCX.out _ HB5.out⟩ | exact ⟨HX6.out.cell 6, HCX.out _ HB6.out⟩) (fun hHeld => ?_)
      clear hK K
      try simp only [Act.put, List.setIfInBounds_toArray, List.set_cons_zero, List.set_cons_succ]
      refine takeO 15 (some 3) (v := ?_) rfl rfl (by kernel_rfl) (by kernel_rfl) (by kernel_rfl) (fun _ _ _ h => h) (Or.inl ⟨by rfl, ?_⟩) (by assumption) ?_
      rotate_left 1
      · intro w hSw; (try dsimp only at hSw); go_simp; all_goals with_reducible rfl
      try simp only [Act.put, List.setIfInBounds_toArray, List.set_cons_zero, List.set_cons_succ]
      refine wpAnyH_done (by kernel_rfl) ?_ _
      go_wp2_with fail
      go_roundw
      case rel => exact ⟨i + 1, ao6, c6, by omega, by go_num, rfl, HR6.out, HX6.out, HB6.out⟩
      case measure => simp [intOf]; omega
    · obtain rfl : i = l.length := by omega
      have t7 : wr.cell? ⟨w.heap.size, 7, none⟩ = some (.bool en) := HX4.out.cell 7
      have HC := Lib.hid (rflag15_any ao c' (ln l.length) en wr HR4.out (by have := N4.out; omega))
      rw [E4.out] at HC
      go_wp2_with fail
      refine HC.out.mono ?_
      clear HC
      rintro e w5 ⟨ao5, c5, rfl, hr, hb⟩
      have HR5 := Lib.hid hr
      have HX5 := Lib.hid (HX4.out.below hb HX4.out.lt)
      have HB5 := Lib.hid (HB4.out.trans (hb.mono HB4.out.size))
      clear hr hb
      clear t6 t7
      go_wp2_with fail
      go_ret
      exact ⟨ao5, c5, rfl, HR5.out, HB5.out⟩
end Go.Proofs.Ytjhkdbcfkaaffaa
/- The document's body, Seal, Encode. -/
namespace Go.Proofs.Ytjhkdbcfkaaffaa
open Go.RowKit
set_option linter.unusedVariables false

set_option maxRecDepth 100000 in
set_option maxHeartbeats 8000000 in
theorem rbody_hello (p : P5) (w : World) (hf : p.fit w) (hm : MV.may (.hello p.hw p.hl) = true) : Calls Try.prog 41 #[.agg #[.int .i64 1, .int .i64 p.hw, .int .i64 p.hl, .int .i64 p.gw, .int .i64 p.gl, .int .i64 p.ge, .int .i64 p.ai, .int .i64 p.aq, .int .i64 p.ah, .int .i64 p.an, .int .i64 p.ae, .string p.ax, .int .i64 p.ak, .int .i64 p.ab, .bool p.af, .int .i64 p.ad, .string p.aw, .int .i64 p.rs, .int .i64 p.rq, .int .i64 p.rh, .int .i64 p.rn, .int .i64 p.rw, .int .i64 p.re, .slice p.ra p.rl.length p.rc, .bool p.rb, .int .i64 p.ss, .int .i64 p.sq]] w fun e w' => RdOut w (restL (.hello p.hw p.hl)) e w' := by
  have HIN := Lib.hid (hello_in hm)
  have HE := Lib.hid (show numsL [] [p.hw, p.hl] = restL (.hello p.hw p.hl) from by unfold restL; simp only [numsL_cons, numsL_nil, List.nil_append])
  clear hm hf
  have HB := Lib.hid ((Below.refl w.heap.size w).alloc (Nat.le_refl _) (.cells #[.int .i64 1, .int .i64 p.hw, .int .i64 p.hl, .int .i64 p.gw, .int .i64 p.gl, .int .i64 p.ge, .int .i64 p.ai, .int .i64 p.aq, .int .i64 p.ah, .int .i64 p.an, .int .i64 p.ae, .string p.ax, .int .i64 p.ak, .int .i64 p.ab, .bool p.af, .int .i64 p.ad, .string p.aw, .int .i64 p.rs, .int .i64 p.rq, .int .i64 p.rh, .int .i64 p.rn, .int .i64 p.rw, .int .i64 p.re, .slice p.ra p.rl.length p.rc, .bool p.rb, .int .i64 p.ss, .int .i64 p.sq] 46))
  have HX := Lib.hid (show Blk (w.alloc (.cells #[.int .i64 1, .int .i64 p.hw, .int .i64 p.hl, .int .i64 p.gw, .int .i64 p.gl, .int .i64 p.ge, .int .i64 p.ai, .int .i64 p.aq, .int .i64 p.ah, .int .i64 p.an, .int .i64 p.ae, .string p.ax, .int .i64 p.ak, .int .i64 p.ab, .bool p.af, .int .i64 p.ad, .string p.aw, .int .i64 p.rs, .int .i64 p.rq, .int .i64 p.rh, .int .i64 p.rn, .int .i64 p.rw, .int .i64 p.re, .slice p.ra p.rl.length p.rc, .bool p.rb, .int .i64 p.ss, .int .i64 p.sq] 46)) w.heap.size 46 [.int .i64 1, .int .i64 p.hw, .int .i64 p.hl, .int .i64 p.gw, .int .i64 p.gl, .int .i64 p.ge, .int .i64 p.ai, .int .i64 p.aq, .int .i64 p.ah, .int .i64 p.an, .int .i64 p.ae, .string p.ax, .int .i64 p.ak, .int .i64 p.ab, .bool p.af, .int .i64 p.ad, .string p.aw, .int .i64 p.rs, .int .i64 p.rq, .int .i64 p.rh, .int .i64 p.rn, .int .i64 p.rw, .int .i64 p.re, .slice p.ra p.rl.length p.rc, .bool p.rb, .int .i64 p.ss, .int .i64 p.sq] from heap_alloc_new w _)
  obtain ⟨W0, hW0⟩ : ∃ W0, w.alloc (.cells #[.int .i64 1, .int .i64 p.hw, .int .i64 p.hl, .int .i64 p.gw, .int .i64 p.gl, .int .i64 p.ge, .int .i64 p.ai, .int .i64 p.aq, .int .i64 p.ah, .int .i64 p.an, .int .i64 p.ae, .string p.ax, .int .i64 p.ak, .int .i64 p.ab, .bool p.af, .int .i64 p.ad, .string p.aw, .int .i64 p.rs, .int .i64 p.rq, .int .i64 p.rh, .int .i64 p.rn, .int .i64 p.rw, .int .i64 p.re, .slice p.ra p.rl.length p.rc, .bool p.rb, .int .i64 p.ss, .int .i64 p.sq] 46) = W0 := ⟨_, rfl⟩
  rw [hW0] at HB HX
  have HB1 := Lib.hid (HB.out.alloc HB.out.size (.cells (ints [p.hw, p.hl]).toArray 3))
  have HC := Lib.hid (fours_any none 0 [] (some ⟨W0.heap.size, 0, none⟩) 2 2 [p.hw, p.hl] (W0.alloc (.cells (ints [p.hw, p.hl]).toArray 3)) (rd_nil _ _ rfl) (by decide) (new_ints W0 [p.hw, p.hl] (by simp [maxLen])) (by simp) HIN.out)
  rw [HE.out] at HC
  generalize restL (.hello p.hw p.hl) = rl at *
  have t0 : W0.cell? ⟨w.heap.size, 0, none⟩ = some (.int .i64 1) := HX.out.cell 0
  have t1 : W0.cell? ⟨w.heap.size, 1, none⟩ = some (.int .i64 p.hw) := HX.out.cell 1
  have t2 : W0.cell? ⟨w.heap.size, 2, none⟩ = some (.int .i64 p.hl) := HX.out.cell 2
  have t3 : W0.cell? ⟨w.heap.size, 3, none⟩ = some (.int .i64 p.gw) := HX.out.cell 3
  have t4 : W0.cell? ⟨w.heap.size, 4, none⟩ = some (.int .i64 p.gl) := HX.out.cell 4
  have t5 : W0.cell? ⟨w.heap.size, 5, none⟩ = some (.int .i64 p.ge) := HX.out.cell 5
  have t6 : W0.cell? ⟨w.heap.size, 6, none⟩ = some (.int .i64 p.ai) := HX.out.cell 6
  have t7 : W0.cell? ⟨w.heap.size, 7, none⟩ = some (.int .i64 p.aq) := HX.out.cell 7
  have t8 : W0.cell? ⟨w.heap.size, 8, none⟩ = some (.int .i64 p.ah) := HX.out.cell 8
  have t9 : W0.cell? ⟨w.heap.size, 9, none⟩ = some (.int .i64 p.an) := HX.out.cell 9
  have t10 : W0.cell? ⟨w.heap.size, 10, none⟩ = some (.int .i64 p.ae) := HX.out.cell 10
  have t11 : W0.cell? ⟨w.heap.size, 11, none⟩ = some (.string p.ax) := HX.out.cell 11
  have t12 : W0.cell? ⟨w.heap.size, 12, none⟩ = some (.int .i64 p.ak) := HX.out.cell 12
  have t13 : W0.cell? ⟨w.heap.size, 13, none⟩ = some (.int .i64 p.ab) := HX.out.cell 13
  have t14 : W0.cell? ⟨w.heap.size, 14, none⟩ = some (.bool p.af) := HX.out.cell 14
  have t15 : W0.cell? ⟨w.heap.size, 15, none⟩ = some (.int .i64 p.ad) := HX.out.cell 15
  have t16 : W0.cell? ⟨w.heap.size, 16, none⟩ = some (.string p.aw) := HX.out.cell 16
  have t17 : W0.cell? ⟨w.heap.size, 17, none⟩ = some (.int .i64 p.rs) := HX.out.cell 17
  have t18 : W0.cell? ⟨w.heap.size, 18, none⟩ = some (.int .i64 p.rq) := HX.out.cell 18
  have t19 : W0.cell? ⟨w.heap.size, 19, none⟩ = some (.int .i64 p.rh) := HX.out.cell 19
  have t20 : W0.cell? ⟨w.heap.size, 20, none⟩ = some (.int .i64 p.rn) := HX.out.cell 20
  have t21 : W0.cell? ⟨w.heap.size, 21, none⟩ = some (.int .i64 p.rw) := HX.out.cell 21
  have t22 : W0.cell? ⟨w.heap.size, 22, none⟩ = some (.int .i64 p.re) := HX.out.cell 22
  have t23 : W0.cell? ⟨w.heap.size, 23, none⟩ = some (.slice p.ra p.rl.length p.rc) := HX.out.cell 23
  have t24 : W0.cell? ⟨w.heap.size, 24, none⟩ = some (.bool p.rb) := HX.out.cell 24
  have t25 : W0.cell? ⟨w.heap.size, 25, none⟩ = some (.int .i64 p.ss) := HX.out.cell 25
  have t26 : W0.cell? ⟨w.heap.size, 26, none⟩ = some (.int .i64 p.sq) := HX.out.cell 26
  go_enter Try.func41, Try.ntmps41
  go_wp2_with (rw [hW0])
  refine HC.out.mono ?_
  rintro e w2 ⟨ao, c, rfl, hr, hb⟩
  have HR := Lib.hid hr
  have HB2 := Lib.hid (HB1.out.trans (hb.mono HB1.out.size))
  clear hr hb hW0
  go_wp2_with fail
  go_ret
  exact ⟨ao, c, rfl, HR.out, HB2.out⟩
set_option maxRecDepth 100000 in
set_option maxHeartbeats 8000000 in
theorem rbody_grant (p : P5) (w : World) (hf : p.fit w) (hm : MV.may (.grant p.gw p.gl p.ge) = true) : Calls Try.prog 41 #[.agg #[.int .i64 2, .int .i64 p.hw, .int .i64 p.hl, .int .i64 p.gw, .int .i64 p.gl, .int .i64 p.ge, .int .i64 p.ai, .int .i64 p.aq, .int .i64 p.ah, .int .i64 p.an, .int .i64 p.ae, .string p.ax, .int .i64 p.ak, .int .i64 p.ab, .bool p.af, .int .i64 p.ad, .string p.aw, .int .i64 p.rs, .int .i64 p.rq, .int .i64 p.rh, .int .i64 p.rn, .int .i64 p.rw, .int .i64 p.re, .slice p.ra p.rl.length p.rc, .bool p.rb, .int .i64 p.ss, .int .i64 p.sq]] w fun e w' => RdOut w (restL (.grant p.gw p.gl p.ge)) e w' := by
  have HIN := Lib.hid (grant_in hm)
  have HE := Lib.hid (show numsL [] [p.gw, p.gl, p.ge] = restL (.grant p.gw p.gl p.ge) from by unfold restL; simp only [numsL_cons, numsL_nil, List.nil_append, List.append_assoc])
  clear hm hf
  have HB := Lib.hid ((Below.refl w.heap.size w).alloc (Nat.le_refl _) (.cells #[.int .i64 2, .int .i64 p.hw, .int .i64 p.hl, .int .i64 p.gw, .int .i64 p.gl, .int .i64 p.ge, .int .i64 p.ai, .int .i64 p.aq, .int .i64 p.ah, .int .i64 p.an, .int .i64 p.ae, .string p.ax, .int .i64 p.ak, .int .i64 p.ab, .bool p.af, .int .i64 p.ad, .string p.aw, .int .i64 p.rs, .int .i64 p.rq, .int .i64 p.rh, .int .i64 p.rn, .int .i64 p.rw, .int .i64 p.re, .slice p.ra p.rl.length p.rc, .bool p.rb, .int .i64 p.ss, .int .i64 p.sq] 46))
  have HX := Lib.hid (show Blk (w.alloc (.cells #[.int .i64 2, .int .i64 p.hw, .int .i64 p.hl, .int .i64 p.gw, .int .i64 p.gl, .int .i64 p.ge, .int .i64 p.ai, .int .i64 p.aq, .int .i64 p.ah, .int .i64 p.an, .int .i64 p.ae, .string p.ax, .int .i64 p.ak, .int .i64 p.ab, .bool p.af, .int .i64 p.ad, .string p.aw, .int .i64 p.rs, .int .i64 p.rq, .int .i64 p.rh, .int .i64 p.rn, .int .i64 p.rw, .int .i64 p.re, .slice p.ra p.rl.length p.rc, .bool p.rb, .int .i64 p.ss, .int .i64 p.sq] 46)) w.heap.size 46 [.int .i64 2, .int .i64 p.hw, .int .i64 p.hl, .int .i64 p.gw, .int .i64 p.gl, .int .i64 p.ge, .int .i64 p.ai, .int .i64 p.aq, .int .i64 p.ah, .int .i64 p.an, .int .i64 p.ae, .string p.ax, .int .i64 p.ak, .int .i64 p.ab, .bool p.af, .int .i64 p.ad, .string p.aw, .int .i64 p.rs, .int .i64 p.rq, .int .i64 p.rh, .int .i64 p.rn, .int .i64 p.rw, .int .i64 p.re, .slice p.ra p.rl.length p.rc, .bool p.rb, .int .i64 p.ss, .int .i64 p.sq] from heap_alloc_new w _)
  obtain ⟨W0, hW0⟩ : ∃ W0, w.alloc (.cells #[.int .i64 2, .int .i64 p.hw, .int .i64 p.hl, .int .i64 p.gw, .int .i64 p.gl, .int .i64 p.ge, .int .i64 p.ai, .int .i64 p.aq, .int .i64 p.ah, .int .i64 p.an, .int .i64 p.ae, .string p.ax, .int .i64 p.ak, .int .i64 p.ab, .bool p.af, .int .i64 p.ad, .string p.aw, .int .i64 p.rs, .int .i64 p.rq, .int .i64 p.rh, .int .i64 p.rn, .int .i64 p.rw, .int .i64 p.re, .slice p.ra p.rl.length p.rc, .bool p.rb, .int .i64 p.ss, .int .i64 p.sq] 46) = W0 := ⟨_, rfl⟩
  rw [hW0] at HB HX
  have HB1 := Lib.hid (HB.out.alloc HB.out.size (.cells (ints [p.gw, p.gl, p.ge]).toArray 3))
  have HC := Lib.hid (fours_any none 0 [] (some ⟨W0.heap.size, 0, none⟩) 3 3 [p.gw, p.gl, p.ge] (W0.alloc (.cells (ints [p.gw, p.gl, p.ge]).toArray 3)) (rd_nil _ _ rfl) (by decide) (new_ints W0 [p.gw, p.gl, p.ge] (by simp [maxLen])) (by simp) HIN.out)
  rw [HE.out] at HC
  generalize restL (.grant p.gw p.gl p.ge) = rl at *
  have t0 : W0.cell? ⟨w.heap.size, 0, none⟩ = some (.int .i64 2) := HX.out.cell 0
  have t1 : W0.cell? ⟨w.heap.size, 1, none⟩ = some (.int .i64 p.hw) := HX.out.cell 1
  have t2 : W0.cell? ⟨w.heap.size, 2, none⟩ = some (.int .i64 p.hl) := HX.out.cell 2
  have t3 : W0.cell? ⟨w.heap.size, 3, none⟩ = some (.int .i64 p.gw) := HX.out.cell 3
  have t4 : W0.cell? ⟨w.heap.size, 4, none⟩ = some (.int .i64 p.gl) := HX.out.cell 4
  have t5 : W0.cell? ⟨w.heap.size, 5, none⟩ = some (.int .i64 p.ge) := HX.out.cell 5
  have t6 : W0.cell? ⟨w.heap.size, 6, none⟩ = some (.int .i64 p.ai) := HX.out.cell 6
  have t7 : W0.cell? ⟨w.heap.size, 7, none⟩ = some (.int .i64 p.aq) := HX.out.cell 7
  have t8 : W0.cell? ⟨w.heap.size, 8, none⟩ = some (.int .i64 p.ah) := HX.out.cell 8
  have t9 : W0.cell? ⟨w.heap.size, 9, none⟩ = some (.int .i64 p.an) := HX.out.cell 9
  have t10 : W0.cell? ⟨w.heap.size, 10, none⟩ = some (.int .i64 p.ae) := HX.out.cell 10
  have t11 : W0.cell? ⟨w.heap.size, 11, none⟩ = some (.string p.ax) := HX.out.cell 11
  have t12 : W0.cell? ⟨w.heap.size, 12, none⟩ = some (.int .i64 p.ak) := HX.out.cell 12
  have t13 : W0.cell? ⟨w.heap.size, 13, none⟩ = some (.int .i64 p.ab) := HX.out.cell 13
  have t14 : W0.cell? ⟨w.heap.size, 14, none⟩ = some (.bool p.af) := HX.out.cell 14
  have t15 : W0.cell? ⟨w.heap.size, 15, none⟩ = some (.int .i64 p.ad) := HX.out.cell 15
  have t16 : W0.cell? ⟨w.heap.size, 16, none⟩ = some (.string p.aw) := HX.out.cell 16
  have t17 : W0.cell? ⟨w.heap.size, 17, none⟩ = some (.int .i64 p.rs) := HX.out.cell 17
  have t18 : W0.cell? ⟨w.heap.size, 18, none⟩ = some (.int .i64 p.rq) := HX.out.cell 18
  have t19 : W0.cell? ⟨w.heap.size, 19, none⟩ = some (.int .i64 p.rh) := HX.out.cell 19
  have t20 : W0.cell? ⟨w.heap.size, 20, none⟩ = some (.int .i64 p.rn) := HX.out.cell 20
  have t21 : W0.cell? ⟨w.heap.size, 21, none⟩ = some (.int .i64 p.rw) := HX.out.cell 21
  have t22 : W0.cell? ⟨w.heap.size, 22, none⟩ = some (.int .i64 p.re) := HX.out.cell 22
  have t23 : W0.cell? ⟨w.heap.size, 23, none⟩ = some (.slice p.ra p.rl.length p.rc) := HX.out.cell 23
  have t24 : W0.cell? ⟨w.heap.size, 24, none⟩ = some (.bool p.rb) := HX.out.cell 24
  have t25 : W0.cell? ⟨w.heap.size, 25, none⟩ = some (.int .i64 p.ss) := HX.out.cell 25
  have t26 : W0.cell? ⟨w.heap.size, 26, none⟩ = some (.int .i64 p.sq) := HX.out.cell 26
  go_enter Try.func41, Try.ntmps41
  go_wp2_with (rw [hW0])
  refine HC.out.mono ?_
  rintro e w2 ⟨ao, c, rfl, hr, hb⟩
  have HR := Lib.hid hr
  have HB2 := Lib.hid (HB1.out.trans (hb.mono HB1.out.size))
  clear hr hb hW0
  go_wp2_with fail
  go_ret
  exact ⟨ao, c, rfl, HR.out, HB2.out⟩
set_option maxRecDepth 100000 in
set_option maxHeartbeats 8000000 in
theorem rbody_stop (p : P5) (w : World) (hf : p.fit w) (hm : MV.may (.stop p.ss p.sq) = true) : Calls Try.prog 41 #[.agg #[.int .i64 5, .int .i64 p.hw, .int .i64 p.hl, .int .i64 p.gw, .int .i64 p.gl, .int .i64 p.ge, .int .i64 p.ai, .int .i64 p.aq, .int .i64 p.ah, .int .i64 p.an, .int .i64 p.ae, .string p.ax, .int .i64 p.ak, .int .i64 p.ab, .bool p.af, .int .i64 p.ad, .string p.aw, .int .i64 p.rs, .int .i64 p.rq, .int .i64 p.rh, .int .i64 p.rn, .int .i64 p.rw, .int .i64 p.re, .slice p.ra p.rl.length p.rc, .bool p.rb, .int .i64 p.ss, .int .i64 p.sq]] w fun e w' => RdOut w (restL (.stop p.ss p.sq)) e w' := by
  have HIN := Lib.hid (stop_in hm)
  have HE := Lib.hid (show numsL [] [p.ss, p.sq] = restL (.stop p.ss p.sq) from by unfold restL; simp only [numsL_cons, numsL_nil, List.nil_append])
  clear hm hf
  have HB := Lib.hid ((Below.refl w.heap.size w).alloc (Nat.le_refl _) (.cells #[.int .i64 5, .int .i64 p.hw, .int .i64 p.hl, .int .i64 p.gw, .int .i64 p.gl, .int .i64 p.ge, .int .i64 p.ai, .int .i64 p.aq, .int .i64 p.ah, .int .i64 p.an, .int .i64 p.ae, .string p.ax, .int .i64 p.ak, .int .i64 p.ab, .bool p.af, .int .i64 p.ad, .string p.aw, .int .i64 p.rs, .int .i64 p.rq, .int .i64 p.rh, .int .i64 p.rn, .int .i64 p.rw, .int .i64 p.re, .slice p.ra p.rl.length p.rc, .bool p.rb, .int .i64 p.ss, .int .i64 p.sq] 46))
  have HX := Lib.hid (show Blk (w.alloc (.cells #[.int .i64 5, .int .i64 p.hw, .int .i64 p.hl, .int .i64 p.gw, .int .i64 p.gl, .int .i64 p.ge, .int .i64 p.ai, .int .i64 p.aq, .int .i64 p.ah, .int .i64 p.an, .int .i64 p.ae, .string p.ax, .int .i64 p.ak, .int .i64 p.ab, .bool p.af, .int .i64 p.ad, .string p.aw, .int .i64 p.rs, .int .i64 p.rq, .int .i64 p.rh, .int .i64 p.rn, .int .i64 p.rw, .int .i64 p.re, .slice p.ra p.rl.length p.rc, .bool p.rb, .int .i64 p.ss, .int .i64 p.sq] 46)) w.heap.size 46 [.int .i64 5, .int .i64 p.hw, .int .i64 p.hl, .int .i64 p.gw, .int .i64 p.gl, .int .i64 p.ge, .int .i64 p.ai, .int .i64 p.aq, .int .i64 p.ah, .int .i64 p.an, .int .i64 p.ae, .string p.ax, .int .i64 p.ak, .int .i64 p.ab, .bool p.af, .int .i64 p.ad, .string p.aw, .int .i64 p.rs, .int .i64 p.rq, .int .i64 p.rh, .int .i64 p.rn, .int .i64 p.rw, .int .i64 p.re, .slice p.ra p.rl.length p.rc, .bool p.rb, .int .i64 p.ss, .int .i64 p.sq] from heap_alloc_new w _)
  obtain ⟨W0, hW0⟩ : ∃ W0, w.alloc (.cells #[.int .i64 5, .int .i64 p.hw, .int .i64 p.hl, .int .i64 p.gw, .int .i64 p.gl, .int .i64 p.ge, .int .i64 p.ai, .int .i64 p.aq, .int .i64 p.ah, .int .i64 p.an, .int .i64 p.ae, .string p.ax, .int .i64 p.ak, .int .i64 p.ab, .bool p.af, .int .i64 p.ad, .string p.aw, .int .i64 p.rs, .int .i64 p.rq, .int .i64 p.rh, .int .i64 p.rn, .int .i64 p.rw, .int .i64 p.re, .slice p.ra p.rl.length p.rc, .bool p.rb, .int .i64 p.ss, .int .i64 p.sq] 46) = W0 := ⟨_, rfl⟩
  rw [hW0] at HB HX
  have HB1 := Lib.hid (HB.out.alloc HB.out.size (.cells (ints [p.ss, p.sq]).toArray 3))
  have HC := Lib.hid (fours_any none 0 [] (some ⟨W0.heap.size, 0, none⟩) 2 2 [p.ss, p.sq] (W0.alloc (.cells (ints [p.ss, p.sq]).toArray 3)) (rd_nil _ _ rfl) (by decide) (new_ints W0 [p.ss, p.sq] (by simp [maxLen])) (by simp) HIN.out)
  rw [HE.out] at HC
  generalize restL (.stop p.ss p.sq) = rl at *
  have t0 : W0.cell? ⟨w.heap.size, 0, none⟩ = some (.int .i64 5) := HX.out.cell 0
  have t1 : W0.cell? ⟨w.heap.size, 1, none⟩ = some (.int .i64 p.hw) := HX.out.cell 1
  have t2 : W0.cell? ⟨w.heap.size, 2, none⟩ = some (.int .i64 p.hl) := HX.out.cell 2
  have t3 : W0.cell? ⟨w.heap.size, 3, none⟩ = some (.int .i64 p.gw) := HX.out.cell 3
  have t4 : W0.cell? ⟨w.heap.size, 4, none⟩ = some (.int .i64 p.gl) := HX.out.cell 4
  have t5 : W0.cell? ⟨w.heap.size, 5, none⟩ = some (.int .i64 p.ge) := HX.out.cell 5
  have t6 : W0.cell? ⟨w.heap.size, 6, none⟩ = some (.int .i64 p.ai) := HX.out.cell 6
  have t7 : W0.cell? ⟨w.heap.size, 7, none⟩ = some (.int .i64 p.aq) := HX.out.cell 7
  have t8 : W0.cell? ⟨w.heap.size, 8, none⟩ = some (.int .i64 p.ah) := HX.out.cell 8
  have t9 : W0.cell? ⟨w.heap.size, 9, none⟩ = some (.int .i64 p.an) := HX.out.cell 9
  have t10 : W0.cell? ⟨w.heap.size, 10, none⟩ = some (.int .i64 p.ae) := HX.out.cell 10
  have t11 : W0.cell? ⟨w.heap.size, 11, none⟩ = some (.string p.ax) := HX.out.cell 11
  have t12 : W0.cell? ⟨w.heap.size, 12, none⟩ = some (.int .i64 p.ak) := HX.out.cell 12
  have t13 : W0.cell? ⟨w.heap.size, 13, none⟩ = some (.int .i64 p.ab) := HX.out.cell 13
  have t14 : W0.cell? ⟨w.heap.size, 14, none⟩ = some (.bool p.af) := HX.out.cell 14
  have t15 : W0.cell? ⟨w.heap.size, 15, none⟩ = some (.int .i64 p.ad) := HX.out.cell 15
  have t16 : W0.cell? ⟨w.heap.size, 16, none⟩ = some (.string p.aw) := HX.out.cell 16
  have t17 : W0.cell? ⟨w.heap.size, 17, none⟩ = some (.int .i64 p.rs) := HX.out.cell 17
  have t18 : W0.cell? ⟨w.heap.size, 18, none⟩ = some (.int .i64 p.rq) := HX.out.cell 18
  have t19 : W0.cell? ⟨w.heap.size, 19, none⟩ = some (.int .i64 p.rh) := HX.out.cell 19
  have t20 : W0.cell? ⟨w.heap.size, 20, none⟩ = some (.int .i64 p.rn) := HX.out.cell 20
  have t21 : W0.cell? ⟨w.heap.size, 21, none⟩ = some (.int .i64 p.rw) := HX.out.cell 21
  have t22 : W0.cell? ⟨w.heap.size, 22, none⟩ = some (.int .i64 p.re) := HX.out.cell 22
  have t23 : W0.cell? ⟨w.heap.size, 23, none⟩ = some (.slice p.ra p.rl.length p.rc) := HX.out.cell 23
  have t24 : W0.cell? ⟨w.heap.size, 24, none⟩ = some (.bool p.rb) := HX.out.cell 24
  have t25 : W0.cell? ⟨w.heap.size, 25, none⟩ = some (.int .i64 p.ss) := HX.out.cell 25
  have t26 : W0.cell? ⟨w.heap.size, 26, none⟩ = some (.int .i64 p.sq) := HX.out.cell 26
  go_enter Try.func41, Try.ntmps41
  go_wp2_with (rw [hW0])
  refine HC.out.mono ?_
  rintro e w2 ⟨ao, c, rfl, hr, hb⟩
  have HR := Lib.hid hr
  have HB2 := Lib.hid (HB1.out.trans (hb.mono HB1.out.size))
  clear hr hb hW0
  go_wp2_with fail
  go_ret
  exact ⟨ao, c, rfl, HR.out, HB2.out⟩
set_option maxRecDepth 100000 in
set_option maxHeartbeats 8000000 in
theorem rbody_ask (p : P5) (w : World) (hf : p.fit w) (hm : MV.may (.ask p.ai p.aq p.ah p.an p.ae p.ax p.ak p.ab p.af p.ad p.aw) = true) : Calls Try.prog 41 #[.agg #[.int .i64 3, .int .i64 p.hw, .int .i64 p.hl, .int .i64 p.gw, .int .i64 p.gl, .int .i64 p.ge, .int .i64 p.ai, .int .i64 p.aq, .int .i64 p.ah, .int .i64 p.an, .int .i64 p.ae, .string p.ax, .int .i64 p.ak, .int .i64 p.ab, .bool p.af, .int .i64 p.ad, .string p.aw, .int .i64 p.rs, .int .i64 p.rq, .int .i64 p.rh, .int .i64 p.rn, .int .i64 p.rw, .int .i64 p.re, .slice p.ra p.rl.length p.rc, .bool p.rb, .int .i64 p.ss, .int .i64 p.sq]] w fun e w' => RdOut w (restL (.ask p.ai p.aq p.ah p.an p.ae p.ax p.ak p.ab p.af p.ad p.aw)) e w' := by
  have HB := Lib.hid ((Below.refl w.heap.size w).alloc (Nat.le_refl _) (.cells #[.int .i64 3, .int .i64 p.hw, .int .i64 p.hl, .int .i64 p.gw, .int .i64 p.gl, .int .i64 p.ge, .int .i64 p.ai, .int .i64 p.aq, .int .i64 p.ah, .int .i64 p.an, .int .i64 p.ae, .string p.ax, .int .i64 p.ak, .int .i64 p.ab, .bool p.af, .int .i64 p.ad, .string p.aw, .int .i64 p.rs, .int .i64 p.rq, .int .i64 p.rh, .int .i64 p.rn, .int .i64 p.rw, .int .i64 p.re, .slice p.ra p.rl.length p.rc, .bool p.rb, .int .i64 p.ss, .int .i64 p.sq] 46))
  have HX := Lib.hid (show Blk (w.alloc (.cells #[.int .i64 3, .int .i64 p.hw, .int .i64 p.hl, .int .i64 p.gw, .int .i64 p.gl, .int .i64 p.ge, .int .i64 p.ai, .int .i64 p.aq, .int .i64 p.ah, .int .i64 p.an, .int .i64 p.ae, .string p.ax, .int .i64 p.ak, .int .i64 p.ab, .bool p.af, .int .i64 p.ad, .string p.aw, .int .i64 p.rs, .int .i64 p.rq, .int .i64 p.rh, .int .i64 p.rn, .int .i64 p.rw, .int .i64 p.re, .slice p.ra p.rl.length p.rc, .bool p.rb, .int .i64 p.ss, .int .i64 p.sq] 46)) w.heap.size 46 [.int .i64 3, .int .i64 p.hw, .int .i64 p.hl, .int .i64 p.gw, .int .i64 p.gl, .int .i64 p.ge, .int .i64 p.ai, .int .i64 p.aq, .int .i64 p.ah, .int .i64 p.an, .int .i64 p.ae, .string p.ax, .int .i64 p.ak, .int .i64 p.ab, .bool p.af, .int .i64 p.ad, .string p.aw, .int .i64 p.rs, .int .i64 p.rq, .int .i64 p.rh, .int .i64 p.rn, .int .i64 p.rw, .int .i64 p.re, .slice p.ra p.rl.length p.rc, .bool p.rb, .int .i64 p.ss, .int .i64 p.sq] from heap_alloc_new w _)
  obtain ⟨W0, hW0⟩ : ∃ W0, w.alloc (.cells #[.int .i64 3, .int .i64 p.hw, .int .i64 p.hl, .int .i64 p.gw, .int .i64 p.gl, .int .i64 p.ge, .int .i64 p.ai, .int .i64 p.aq, .int .i64 p.ah, .int .i64 p.an, .int .i64 p.ae, .string p.ax, .int .i64 p.ak, .int .i64 p.ab, .bool p.af, .int .i64 p.ad, .string p.aw, .int .i64 p.rs, .int .i64 p.rq, .int .i64 p.rh, .int .i64 p.rn, .int .i64 p.rw, .int .i64 p.re, .slice p.ra p.rl.length p.rc, .bool p.rb, .int .i64 p.ss, .int .i64 p.sq] 46) = W0 := ⟨_, rfl⟩
  rw [hW0] at HB HX
  have HC := Lib.hid (asked15_any p.ai p.aq p.ah p.an p.ae p.ax p.ak p.ab p.af p.ad p.aw W0 hm hf.2.2.1 hf.2.2.2)
  clear hm hf
  generalize restL (.ask p.ai p.aq p.ah p.an p.ae p.ax p.ak p.ab p.af p.ad p.aw) = rl at *
  have t0 : W0.cell? ⟨w.heap.size, 0, none⟩ = some (.int .i64 3) := HX.out.cell 0
  have t1 : W0.cell? ⟨w.heap.size, 1, none⟩ = some (.int .i64 p.hw) := HX.out.cell 1
  have t2 : W0.cell? ⟨w.heap.size, 2, none⟩ = some (.int .i64 p.hl) := HX.out.cell 2
  have t3 : W0.cell? ⟨w.heap.size, 3, none⟩ = some (.int .i64 p.gw) := HX.out.cell 3
  have t4 : W0.cell? ⟨w.heap.size, 4, none⟩ = some (.int .i64 p.gl) := HX.out.cell 4
  have t5 : W0.cell? ⟨w.heap.size, 5, none⟩ = some (.int .i64 p.ge) := HX.out.cell 5
  have t6 : W0.cell? ⟨w.heap.size, 6, none⟩ = some (.int .i64 p.ai) := HX.out.cell 6
  have t7 : W0.cell? ⟨w.heap.size, 7, none⟩ = some (.int .i64 p.aq) := HX.out.cell 7
  have t8 : W0.cell? ⟨w.heap.size, 8, none⟩ = some (.int .i64 p.ah) := HX.out.cell 8
  have t9 : W0.cell? ⟨w.heap.size, 9, none⟩ = some (.int .i64 p.an) := HX.out.cell 9
  have t10 : W0.cell? ⟨w.heap.size, 10, none⟩ = some (.int .i64 p.ae) := HX.out.cell 10
  have t11 : W0.cell? ⟨w.heap.size, 11, none⟩ = some (.string p.ax) := HX.out.cell 11
  have t12 : W0.cell? ⟨w.heap.size, 12, none⟩ = some (.int .i64 p.ak) := HX.out.cell 12
  have t13 : W0.cell? ⟨w.heap.size, 13, none⟩ = some (.int .i64 p.ab) := HX.out.cell 13
  have t14 : W0.cell? ⟨w.heap.size, 14, none⟩ = some (.bool p.af) := HX.out.cell 14
  have t15 : W0.cell? ⟨w.heap.size, 15, none⟩ = some (.int .i64 p.ad) := HX.out.cell 15
  have t16 : W0.cell? ⟨w.heap.size, 16, none⟩ = some (.string p.aw) := HX.out.cell 16
  have t17 : W0.cell? ⟨w.heap.size, 17, none⟩ = some (.int .i64 p.rs) := HX.out.cell 17
  have t18 : W0.cell? ⟨w.heap.size, 18, none⟩ = some (.int .i64 p.rq) := HX.out.cell 18
  have t19 : W0.cell? ⟨w.heap.size, 19, none⟩ = some (.int .i64 p.rh) := HX.out.cell 19
  have t20 : W0.cell? ⟨w.heap.size, 20, none⟩ = some (.int .i64 p.rn) := HX.out.cell 20
  have t21 : W0.cell? ⟨w.heap.size, 21, none⟩ = some (.int .i64 p.rw) := HX.out.cell 21
  have t22 : W0.cell? ⟨w.heap.size, 22, none⟩ = some (.int .i64 p.re) := HX.out.cell 22
  have t23 : W0.cell? ⟨w.heap.size, 23, none⟩ = some (.slice p.ra p.rl.length p.rc) := HX.out.cell 23
  have t24 : W0.cell? ⟨w.heap.size, 24, none⟩ = some (.bool p.rb) := HX.out.cell 24
  have t25 : W0.cell? ⟨w.heap.size, 25, none⟩ = some (.int .i64 p.ss) := HX.out.cell 25
  have t26 : W0.cell? ⟨w.heap.size, 26, none⟩ = some (.int .i64 p.sq) := HX.out.cell 26
  go_enter Try.func41, Try.ntmps41
  go_wp2_with (rw [hW0])
  refine HC.out.mono ?_
  rintro e w2 ⟨ao, c, rfl, hr, hb⟩
  have HR := Lib.hid hr
  have HB2 := Lib.hid (HB.out.trans (hb.mono HB.out.size))
  clear hr hb hW0
  go_wp2_with fail
  go_ret
  exact ⟨ao, c, rfl, HR.out, HB2.out⟩
set_option maxRecDepth 100000 in
set_option maxHeartbeats 8000000 in
theorem rbody_reply (p : P5) (w : World) (hf : p.fit w) (hm : MV.may (.reply p.rs p.rq p.rh p.rn p.rw p.re p.rl p.rb) = true) : Calls Try.prog 41 #[.agg #[.int .i64 4, .int .i64 p.hw, .int .i64 p.hl, .int .i64 p.gw, .int .i64 p.gl, .int .i64 p.ge, .int .i64 p.ai, .int .i64 p.aq, .int .i64 p.ah, .int .i64 p.an, .int .i64 p.ae, .string p.ax, .int .i64 p.ak, .int .i64 p.ab, .bool p.af, .int .i64 p.ad, .string p.aw, .int .i64 p.rs, .int .i64 p.rq, .int .i64 p.rh, .int .i64 p.rn, .int .i64 p.rw, .int .i64 p.re, .slice p.ra p.rl.length p.rc, .bool p.rb, .int .i64 p.ss, .int .i64 p.sq]] w fun e w' => RdOut w (restL (.reply p.rs p.rq p.rh p.rn p.rw p.re p.rl p.rb)) e w' := by
  have HB := Lib.hid ((Below.refl w.heap.size w).alloc (Nat.le_refl _) (.cells #[.int .i64 4, .int .i64 p.hw, .int .i64 p.hl, .int .i64 p.gw, .int .i64 p.gl, .int .i64 p.ge, .int .i64 p.ai, .int .i64 p.aq, .int .i64 p.ah, .int .i64 p.an, .int .i64 p.ae, .string p.ax, .int .i64 p.ak, .int .i64 p.ab, .bool p.af, .int .i64 p.ad, .string p.aw, .int .i64 p.rs, .int .i64 p.rq, .int .i64 p.rh, .int .i64 p.rn, .int .i64 p.rw, .int .i64 p.re, .slice p.ra p.rl.length p.rc, .bool p.rb, .int .i64 p.ss, .int .i64 p.sq] 46))
  have HX := Lib.hid (show Blk (w.alloc (.cells #[.int .i64 4, .int .i64 p.hw, .int .i64 p.hl, .int .i64 p.gw, .int .i64 p.gl, .int .i64 p.ge, .int .i64 p.ai, .int .i64 p.aq, .int .i64 p.ah, .int .i64 p.an, .int .i64 p.ae, .string p.ax, .int .i64 p.ak, .int .i64 p.ab, .bool p.af, .int .i64 p.ad, .string p.aw, .int .i64 p.rs, .int .i64 p.rq, .int .i64 p.rh, .int .i64 p.rn, .int .i64 p.rw, .int .i64 p.re, .slice p.ra p.rl.length p.rc, .bool p.rb, .int .i64 p.ss, .int .i64 p.sq] 46)) w.heap.size 46 [.int .i64 4, .int .i64 p.hw, .int .i64 p.hl, .int .i64 p.gw, .int .i64 p.gl, .int .i64 p.ge, .int .i64 p.ai, .int .i64 p.aq, .int .i64 p.ah, .int .i64 p.an, .int .i64 p.ae, .string p.ax, .int .i64 p.ak, .int .i64 p.ab, .bool p.af, .int .i64 p.ad, .string p.aw, .int .i64 p.rs, .int .i64 p.rq, .int .i64 p.rh, .int .i64 p.rn, .int .i64 p.rw, .int .i64 p.re, .slice p.ra p.rl.length p.rc, .bool p.rb, .int .i64 p.ss, .int .i64 p.sq] from heap_alloc_new w _)
  obtain ⟨W0, hW0⟩ : ∃ W0, w.alloc (.cells #[.int .i64 4, .int .i64 p.hw, .int .i64 p.hl, .int .i64 p.gw, .int .i64 p.gl, .int .i64 p.ge, .int .i64 p.ai, .int .i64 p.aq, .int .i64 p.ah, .int .i64 p.an, .int .i64 p.ae, .string p.ax, .int .i64 p.ak, .int .i64 p.ab, .bool p.af, .int .i64 p.ad, .string p.aw, .int .i64 p.rs, .int .i64 p.rq, .int .i64 p.rh, .int .i64 p.rn, .int .i64 p.rw, .int .i64 p.re, .slice p.ra p.rl.length p.rc, .bool p.rb, .int .i64 p.ss, .int .i64 p.sq] 46) = W0 := ⟨_, rfl⟩
  rw [hW0] at HB HX
  have HC := Lib.hid (replied15_any p.rs p.rq p.rh p.rn p.rw p.re p.rl p.rb p.ra p.rc W0 (hf.1.below HB.out rfl) hm hf.2.1)
  clear hm hf
  generalize restL (.reply p.rs p.rq p.rh p.rn p.rw p.re p.rl p.rb) = rl at *
  have t0 : W0.cell? ⟨w.heap.size, 0, none⟩ = some (.int .i64 4) := HX.out.cell 0
  have t1 : W0.cell? ⟨w.heap.size, 1, none⟩ = some (.int .i64 p.hw) := HX.out.cell 1
  have t2 : W0.cell? ⟨w.heap.size, 2, none⟩ = some (.int .i64 p.hl) := HX.out.cell 2
  have t3 : W0.cell? ⟨w.heap.size, 3, none⟩ = some (.int .i64 p.gw) := HX.out.cell 3
  have t4 : W0.cell? ⟨w.heap.size, 4, none⟩ = some (.int .i64 p.gl) := HX.out.cell 4
  have t5 : W0.cell? ⟨w.heap.size, 5, none⟩ = some (.int .i64 p.ge) := HX.out.cell 5
  have t6 : W0.cell? ⟨w.heap.size, 6, none⟩ = some (.int .i64 p.ai) := HX.out.cell 6
  have t7 : W0.cell? ⟨w.heap.size, 7, none⟩ = some (.int .i64 p.aq) := HX.out.cell 7
  have t8 : W0.cell? ⟨w.heap.size, 8, none⟩ = some (.int .i64 p.ah) := HX.out.cell 8
  have t9 : W0.cell? ⟨w.heap.size, 9, none⟩ = some (.int .i64 p.an) := HX.out.cell 9
  have t10 : W0.cell? ⟨w.heap.size, 10, none⟩ = some (.int .i64 p.ae) := HX.out.cell 10
  have t11 : W0.cell? ⟨w.heap.size, 11, none⟩ = some (.string p.ax) := HX.out.cell 11
  have t12 : W0.cell? ⟨w.heap.size, 12, none⟩ = some (.int .i64 p.ak) := HX.out.cell 12
  have t13 : W0.cell? ⟨w.heap.size, 13, none⟩ = some (.int .i64 p.ab) := HX.out.cell 13
  have t14 : W0.cell? ⟨w.heap.size, 14, none⟩ = some (.bool p.af) := HX.out.cell 14
  have t15 : W0.cell? ⟨w.heap.size, 15, none⟩ = some (.int .i64 p.ad) := HX.out.cell 15
  have t16 : W0.cell? ⟨w.heap.size, 16, none⟩ = some (.string p.aw) := HX.out.cell 16
  have t17 : W0.cell? ⟨w.heap.size, 17, none⟩ = some (.int .i64 p.rs) := HX.out.cell 17
  have t18 : W0.cell? ⟨w.heap.size, 18, none⟩ = some (.int .i64 p.rq) := HX.out.cell 18
  have t19 : W0.cell? ⟨w.heap.size, 19, none⟩ = some (.int .i64 p.rh) := HX.out.cell 19
  have t20 : W0.cell? ⟨w.heap.size, 20, none⟩ = some (.int .i64 p.rn) := HX.out.cell 20
  have t21 : W0.cell? ⟨w.heap.size, 21, none⟩ = some (.int .i64 p.rw) := HX.out.cell 21
  have t22 : W0.cell? ⟨w.heap.size, 22, none⟩ = some (.int .i64 p.re) := HX.out.cell 22
  have t23 : W0.cell? ⟨w.heap.size, 23, none⟩ = some (.slice p.ra p.rl.length p.rc) := HX.out.cell 23
  have t24 : W0.cell? ⟨w.heap.size, 24, none⟩ = some (.bool p.rb) := HX.out.cell 24
  have t25 : W0.cell? ⟨w.heap.size, 25, none⟩ = some (.int .i64 p.ss) := HX.out.cell 25
  have t26 : W0.cell? ⟨w.heap.size, 26, none⟩ = some (.int .i64 p.sq) := HX.out.cell 26
  go_enter Try.func41, Try.ntmps41
  go_wp2_with (rw [hW0])
  refine HC.out.mono ?_
  rintro e w2 ⟨ao, c, rfl, hr, hb⟩
  have HR := Lib.hid hr
  have HB2 := Lib.hid (HB.out.trans (hb.mono HB.out.size))
  clear hr hb hW0
  go_wp2_with fail
  go_ret
  exact ⟨ao, c, rfl, HR.out, HB2.out⟩
set_option maxRecDepth 100000 in
theorem rbody_any (p : P5) (k : Int) (w : World) (hf : p.fit w) (hm : (p.kd k).may = true) : Calls Try.prog 41 #[p.msg k] w fun e w' => RdOut w (restL (p.kd k)) e w' := by
  by_cases h1 : k = 1
  · subst h1; exact rbody_hello p w hf hm
  by_cases h2 : k = 2
  · subst h2; exact rbody_grant p w hf hm
  by_cases h3 : k = 3
  · subst h3; exact rbody_ask p w hf hm
  by_cases h4 : k = 4
  · subst h4; exact rbody_reply p w hf hm
  by_cases h5 : k = 5
  · subst h5; exact rbody_stop p w hf hm
  have e : p.kd k = .nil := by unfold P5.kd; rw [if_neg h1, if_neg h2, if_neg h3, if_neg h4, if_neg h5]
  rw [e] at hm
  simp [MV.may] at hm
set_option maxRecDepth 100000 in
theorem isz_msg : (Try.prog.info? 46).map (·.size) = some 27 := by kernel_rfl
set_option maxRecDepth 100000 in
theorem kd_kind {p : P5} {k : Int} (hm : (p.kd k).may = true) : 1 ≤ k ∧ k ≤ 5 ∧ (p.kd k).kind = k := by
  by_cases h1 : k = 1
  · subst h1; exact ⟨by decide, by decide, rfl⟩
  by_cases h2 : k = 2
  · subst h2; exact ⟨by decide, by decide, rfl⟩
  by_cases h3 : k = 3
  · subst h3; exact ⟨by decide, by decide, rfl⟩
  by_cases h4 : k = 4
  · subst h4; exact ⟨by decide, by decide, rfl⟩
  by_cases h5 : k = 5
  · subst h5; exact ⟨by decide, by decide, rfl⟩
  have e : p.kd k = .nil := by unfold P5.kd; rw [if_neg h1, if_neg h2, if_neg h3, if_neg h4, if_neg h5]
  rw [e] at hm
  simp [MV.may] at hm
set_option maxRecDepth 100000 in
theorem head_eq {p : P5} {k : Int} (hm : (p.kd k).may = true) : putL (putL [] ((restL (p.kd k)).length + 7 : Int) 2) k 1 = headL (p.kd k) := by
  have hk := kd_kind hm
  have hb := bodyL_eq (p.kd k) (may_isMsg hm)
  have hl : (((bodyL (p.kd k)).length : Int) + 4) = ((restL (p.kd k)).length + 7 : Int) := by rw [hb]; simp; omega
  unfold headL
  rw [hl, hk.2.2, putL1]
  unfold putL b1
  rw [clamp2, List.nil_append]
  congr 1
  have h5 : k = 1 ∨ k = 2 ∨ k = 3 ∨ k = 4 ∨ k = 5 := by omega
  rcases h5 with rfl | rfl | rfl | rfl | rfl <;> rfl
set_option maxRecDepth 100000 in
theorem rest_len {m : MV} (hm : m.may = true) (hz : m.short) : (restL m).length ≤ 20000 := by
  cases m with
  | hello => unfold restL; simp only [List.length_append, b4_len]; omega
  | grant => unfold restL; simp only [List.length_append, b4_len]; omega
  | stop => unfold restL; simp only [List.length_append, b4_len]; omega
  | ask s q h sq ep tx k b f d wd =>
    have h1 := hz.1
    have h2 := hz.2
    unfold restL itmL
    simp only [List.length_append, b4_len, b1_len, txtL_len _ (show tx.size ≤ 65535 by omega), txtL_len _ (show wd.size ≤ 65535 by omega)]
    omega
  | reply s q h sq wk ep l en =>
    have h5 := (reply_in hm).2.2
    have hq := sum_le l 2000 hz
    unfold restL
    simp only [List.length_append, b4_len, b1_len, flatI_len l (fun x hx => by have := hz x hx; omega)]
    omega
  | other => simp [MV.may] at hm
  | nil => simp [MV.may] at hm
set_option maxRecDepth 100000 in
set_option maxHeartbeats 4000000 in
theorem seal_any (a : Option Addr) (c : Nat) (l : List Nat) (w : World) (hr : Rd w a l.length c (u8s l)) (hn : l.length ≤ 1000000) (hb : ∀ x ∈ l, x < 256) :
    Calls Try.prog 43 #[.slice a l.length c] w fun e w' => OwnR w w' (u8s (putL l (addN 0 l : Nat) 4)) e := by
  have HO := Lib.hid (refof_any a l.length c l w hb hr)
  have hs := addN_lt 0 l hb
  have HP := Lib.hid (refput_any a l.length c l (addN 0 l : Nat) 4 w hr (by omega) (by omega) (by omega))
  generalize putL l (addN 0 l : Nat) 4 = ml at *
  generalize addN 0 l = sm at *
  have kv : IntKind.i64.wrap (sm : Int) = sm := IntWalk.i64_in _ (by omega)
  clear hr hb
  go_enter Try.func43, Try.ntmps43
  go_wp2_with fail
  refine HO.out.mono ?_
  rintro e w' ⟨rfl, rfl⟩
  go_wp2_with fail
  refine HP.out.mono ?_
  rintro e w2 ⟨ao, c2, rfl, h1, h2⟩
  have H1 := Lib.hid h1
  have H2 := Lib.hid h2
  clear h1 h2
  go_wp2_with fail
  go_ret
  exact ⟨ao, c2, rfl, H1.out, H2.out⟩
set_option maxRecDepth 100000 in
set_option maxHeartbeats 8000000 in
theorem rencode_no (p : P5) (k : Int) (w : World) (hf : p.fit w) (hm : (p.kd k).may = false) : Calls Try.prog 15 #[p.msg k] w fun e w' => e = .returned (.tuple #[.slice none 0 0, .int .i64 2]) ∧ Below w.heap.size w w' := by
  have HM := Lib.hid (fun W (hb : Below w.heap.size w W) => rmay_any p k W (hf.below hb))
  rw [hm] at HM
  clear hm hf
  unfold P5.msg at *
  have HB := Lib.hid ((Below.refl w.heap.size w).alloc (Nat.le_refl _) (.cells #[.int .i64 k, .int .i64 p.hw, .int .i64 p.hl, .int .i64 p.gw, .int .i64 p.gl, .int .i64 p.ge, .int .i64 p.ai, .int .i64 p.aq, .int .i64 p.ah, .int .i64 p.an, .int .i64 p.ae, .string p.ax, .int .i64 p.ak, .int .i64 p.ab, .bool p.af, .int .i64 p.ad, .string p.aw, .int .i64 p.rs, .int .i64 p.rq, .int .i64 p.rh, .int .i64 p.rn, .int .i64 p.rw, .int .i64 p.re, .slice p.ra p.rl.length p.rc, .bool p.rb, .int .i64 p.ss, .int .i64 p.sq] 46))
  have HX := Lib.hid (show Blk (w.alloc (.cells #[.int .i64 k, .int .i64 p.hw, .int .i64 p.hl, .int .i64 p.gw, .int .i64 p.gl, .int .i64 p.ge, .int .i64 p.ai, .int .i64 p.aq, .int .i64 p.ah, .int .i64 p.an, .int .i64 p.ae, .string p.ax, .int .i64 p.ak, .int .i64 p.ab, .bool p.af, .int .i64 p.ad, .string p.aw, .int .i64 p.rs, .int .i64 p.rq, .int .i64 p.rh, .int .i64 p.rn, .int .i64 p.rw, .int .i64 p.re, .slice p.ra p.rl.length p.rc, .bool p.rb, .int .i64 p.ss, .int .i64 p.sq] 46)) w.heap.size 46 [.int .i64 k, .int .i64 p.hw, .int .i64 p.hl, .int .i64 p.gw, .int .i64 p.gl, .int .i64 p.ge, .int .i64 p.ai, .int .i64 p.aq, .int .i64 p.ah, .int .i64 p.an, .int .i64 p.ae, .string p.ax, .int .i64 p.ak, .int .i64 p.ab, .bool p.af, .int .i64 p.ad, .string p.aw, .int .i64 p.rs, .int .i64 p.rq, .int .i64 p.rh, .int .i64 p.rn, .int .i64 p.rw, .int .i64 p.re, .slice p.ra p.rl.length p.rc, .bool p.rb, .int .i64 p.ss, .int .i64 p.sq] from heap_alloc_new w _)
  obtain ⟨W0, hW0⟩ : ∃ W0, w.alloc (.cells #[.int .i64 k, .int .i64 p.hw, .int .i64 p.hl, .int .i64 p.gw, .int .i64 p.gl, .int .i64 p.ge, .int .i64 p.ai, .int .i64 p.aq, .int .i64 p.ah, .int .i64 p.an, .int .i64 p.ae, .string p.ax, .int .i64 p.ak, .int .i64 p.ab, .bool p.af, .int .i64 p.ad, .string p.aw, .int .i64 p.rs, .int .i64 p.rq, .int .i64 p.rh, .int .i64 p.rn, .int .i64 p.rw, .int .i64 p.re, .slice p.ra p.rl.length p.rc, .bool p.rb, .int .i64 p.ss, .int .i64 p.sq] 46) = W0 := ⟨_, rfl⟩
  rw [hW0] at HB HX
  go_enter Try.func15, Try.ntmps15
  go_wp2_with (first | (refine wpList_load_row rfl 46 _ rfl w.heap.size rfl _ #[.int .i64 k, .int .i64 p.hw, .int .i64 p.hl, .int .i64 p.gw, .int .i64 p.gl, .int .i64 p.ge, .int .i64 p.ai, .int .i64 p.aq, .int .i64 p.ah, .int .i64 p.an, .int .i64 p.ae, .string p.ax, .int .i64 p.ak, .int .i64 p.ab, .bool p.af, .int .i64 p.ad, .string p.aw, .int .i64 p.rs, .int .i64 p.rq, .int .i64 p.rh, .int .i64 p.rn, .int .i64 p.rw, .int .i64 p.re, .slice p.ra p.rl.length p.rc, .bool p.rb, .int .i64 p.ss, .int .i64 p.sq] (0, 0) _ HX.out Try.underlying46 rfl isz_msg ?_) | rw [hW0])
  refine (HM.out _ HB.out).mono ?_
  rintro e w1 ⟨rfl, hb⟩
  have HB2 := Lib.hid (HB.out.trans (hb.mono HB.out.size))
  clear hb hW0
  go_wp2_with fail
  go_ret2
  exact ⟨rfl, HB2.out⟩
set_option maxRecDepth 100000 in
set_option maxHeartbeats 8000000 in
theorem rencode_yes (p : P5) (k : Int) (w : World) (hf : p.fit w) (hm : (p.kd k).may = true) : Calls Try.prog 15 #[p.msg k] w fun e w' => EncE w (encL (p.kd k)) e w' := by
  obtain ⟨i0, hi, hz0, hz1, hz2⟩ := info_parts info5
  have HI := Lib.hid hi
  have HZ0 := Lib.hid hz0
  have HZ1 := Lib.hid hz1
  have HZ2 : RowKit.Hid (i0.bytes = 1) := hz2
  clear hi hz0 hz1 hz2
  have HM := Lib.hid (fun W (hb : Below w.heap.size w W) => rmay_any p k W (hf.below hb))
  have HBO := Lib.hid (fun W (hb : Below w.heap.size w W) => rbody_any p k W (hf.below hb) hm)
  have hk := kd_kind hm
  have hrl := rest_len hm (hf.short k)
  have HHD := Lib.hid (head_eq hm)
  have HCO := Lib.hid (show coreL (p.kd k) = headL (p.kd k) ++ restL (p.kd k) from rfl)
  have HFL := Lib.hid (show encL (p.kd k) = putL (coreL (p.kd k)) (addN 0 (coreL (p.kd k)) : Nat) 4 from by rw [encL_eq _ (may_isMsg hm), putL4])
  have HLT := Lib.hid (show ∀ x ∈ coreL (p.kd k), x < 256 from fun x hx => coreL_lt (p.kd k) (may_isMsg hm) x (by rw [encL_eq _ (may_isMsg hm)]; exact List.mem_append_left _ hx))
  have hhl := headL_len (p.kd k)
  rw [hm] at HM
  clear hm hf
  unfold P5.msg at *
  obtain ⟨fl, hfl⟩ : ∃ fl, encL (p.kd k) = fl := ⟨_, rfl⟩
  rw [hfl] at HFL ⊢
  clear hfl
  generalize coreL (p.kd k) = cl at *
  generalize restL (p.kd k) = rl at *
  generalize headL (p.kd k) = hd at *
  generalize p.kd k = mm at *
  have HB := Lib.hid ((Below.refl w.heap.size w).alloc (Nat.le_refl _) (.cells #[.int .i64 k, .int .i64 p.hw, .int .i64 p.hl, .int .i64 p.gw, .int .i64 p.gl, .int .i64 p.ge, .int .i64 p.ai, .int .i64 p.aq, .int .i64 p.ah, .int .i64 p.an, .int .i64 p.ae, .string p.ax, .int .i64 p.ak, .int .i64 p.ab, .bool p.af, .int .i64 p.ad, .string p.aw, .int .i64 p.rs, .int .i64 p.rq, .int .i64 p.rh, .int .i64 p.rn, .int .i64 p.rw, .int .i64 p.re, .slice p.ra p.rl.length p.rc, .bool p.rb, .int .i64 p.ss, .int .i64 p.sq] 46))
  have HX := Lib.hid (show Blk (w.alloc (.cells #[.int .i64 k, .int .i64 p.hw, .int .i64 p.hl, .int .i64 p.gw, .int .i64 p.gl, .int .i64 p.ge, .int .i64 p.ai, .int .i64 p.aq, .int .i64 p.ah, .int .i64 p.an, .int .i64 p.ae, .string p.ax, .int .i64 p.ak, .int .i64 p.ab, .bool p.af, .int .i64 p.ad, .string p.aw, .int .i64 p.rs, .int .i64 p.rq, .int .i64 p.rh, .int .i64 p.rn, .int .i64 p.rw, .int .i64 p.re, .slice p.ra p.rl.length p.rc, .bool p.rb, .int .i64 p.ss, .int .i64 p.sq] 46)) w.heap.size 46 [.int .i64 k, .int .i64 p.hw, .int .i64 p.hl, .int .i64 p.gw, .int .i64 p.gl, .int .i64 p.ge, .int .i64 p.ai, .int .i64 p.aq, .int .i64 p.ah, .int .i64 p.an, .int .i64 p.ae, .string p.ax, .int .i64 p.ak, .int .i64 p.ab, .bool p.af, .int .i64 p.ad, .string p.aw, .int .i64 p.rs, .int .i64 p.rq, .int .i64 p.rh, .int .i64 p.rn, .int .i64 p.rw, .int .i64 p.re, .slice p.ra p.rl.length p.rc, .bool p.rb, .int .i64 p.ss, .int .i64 p.sq] from heap_alloc_new w _)
  obtain ⟨W0, hW0⟩ : ∃ W0, w.alloc (.cells #[.int .i64 k, .int .i64 p.hw, .int .i64 p.hl, .int .i64 p.gw, .int .i64 p.gl, .int .i64 p.ge, .int .i64 p.ai, .int .i64 p.aq, .int .i64 p.ah, .int .i64 p.an, .int .i64 p.ae, .string p.ax, .int .i64 p.ak, .int .i64 p.ab, .bool p.af, .int .i64 p.ad, .string p.aw, .int .i64 p.rs, .int .i64 p.rq, .int .i64 p.rh, .int .i64 p.rn, .int .i64 p.rw, .int .i64 p.re, .slice p.ra p.rl.length p.rc, .bool p.rb, .int .i64 p.ss, .int .i64 p.sq] 46) = W0 := ⟨_, rfl⟩
  rw [hW0] at HB HX
  unfold EncE
  go_enter Try.func15, Try.ntmps15
  go_wp2_with (first | (refine wpList_load_row rfl 46 _ rfl w.heap.size rfl _ #[.int .i64 k, .int .i64 p.hw, .int .i64 p.hl, .int .i64 p.gw, .int .i64 p.gl, .int .i64 p.ge, .int .i64 p.ai, .int .i64 p.aq, .int .i64 p.ah, .int .i64 p.an, .int .i64 p.ae, .string p.ax, .int .i64 p.ak, .int .i64 p.ab, .bool p.af, .int .i64 p.ad, .string p.aw, .int .i64 p.rs, .int .i64 p.rq, .int .i64 p.rh, .int .i64 p.rn, .int .i64 p.rw, .int .i64 p.re, .slice p.ra p.rl.length p.rc, .bool p.rb, .int .i64 p.ss, .int .i64 p.sq] (0, 0) _ HX.out Try.underlying46 rfl isz_msg ?_) | rw [hW0])
  clear hW0
  refine (HM.out _ HB.out).mono ?_
  clear HM
  rintro e w1 ⟨rfl, hb⟩
  have HX1 := Lib.hid (HX.out.below hb HX.out.lt)
  have HB1 := Lib.hid (HB.out.trans (hb.mono HB.out.size))
  clear hb HX HB
  go_wp2_with (refine wpList_load_row rfl 46 _ rfl w.heap.size rfl _ #[.int .i64 k, .int .i64 p.hw, .int .i64 p.hl, .int .i64 p.gw, .int .i64 p.gl, .int .i64 p.ge, .int .i64 p.ai, .int .i64 p.aq, .int .i64 p.ah, .int .i64 p.an, .int .i64 p.ae, .string p.ax, .int .i64 p.ak, .int .i64 p.ab, .bool p.af, .int .i64 p.ad, .string p.aw, .int .i64 p.rs, .int .i64 p.rq, .int .i64 p.rh, .int .i64 p.rn, .int .i64 p.rw, .int .i64 p.re, .slice p.ra p.rl.length p.rc, .bool p.rb, .int .i64 p.ss, .int .i64 p.sq] (0, 0) _ HX1.out Try.underlying46 rfl isz_msg ?_)
  refine (HBO.out _ HB1.out).mono ?_
  clear HBO
  rintro e w2 ⟨a2, c2, rfl, hr, hb⟩
  have HR2 := Lib.hid hr
  have HX2 := Lib.hid (HX1.out.below hb HX1.out.lt)
  have HB2 := Lib.hid (HB1.out.trans (hb.mono HB1.out.size))
  clear hr hb HX1 HB1
  have t0 : w2.cell? ⟨w.heap.size, 0, none⟩ = some (.int .i64 k) := HX2.out.cell 0
  have kw : IntKind.i64.wrap ((rl.length : Int) + 7) = (rl.length : Int) + 7 := IntWalk.i64_in _ (by omega)
  go_wp2_with fail
  clear t0
  have HX2d := Lib.hid (show Blk w2.drew w.heap.size 46 [.int .i64 k, .int .i64 p.hw, .int .i64 p.hl, .int .i64 p.gw, .int .i64 p.gl, .int .i64 p.ge, .int .i64 p.ai, .int .i64 p.aq, .int .i64 p.ah, .int .i64 p.an, .int .i64 p.ae, .string p.ax, .int .i64 p.ak, .int .i64 p.ab, .bool p.af, .int .i64 p.ad, .string p.aw, .int .i64 p.rs, .int .i64 p.rq, .int .i64 p.rh, .int .i64 p.rn, .int .i64 p.rw, .int .i64 p.re, .slice p.ra p.rl.length p.rc, .bool p.rb, .int .i64 p.ss, .int .i64 p.sq] from HX2.out)
  have HB2d := Lib.hid HB2.out.drew
  have HR2d := Lib.hid (show Rd w2.drew a2 rl.length c2 (u8s rl) from HR2.out)
  obtain ⟨h2, e2⟩ : ∃ m, putL [] ((rl.length : Int) + 7) 2 = m := ⟨_, rfl⟩
  have hl2 : h2.length = 2 := by rw [← e2, putL_len2]; rfl
  rw [e2] at HHD
  have E2 := Lib.hid e2
  have HL2 := Lib.hid hl2
  clear e2 hl2 HX2 HB2 HR2
  refine wp_region_held_drew (S := (fun w' => w'.cell? ⟨w.heap.size, 0, none⟩ = some (.int .i64 k))) (by kernel_rfl) (by first | exact HX2d.out.cell 0 | exact HX3.out.cell 0 | exact HX4.out.cell 0) (fun hHeld => ?_)
  refine takeO 0 (some 11) (v := ?_) rfl rfl (by kernel_rfl) (by kernel_rfl) (by kernel_rfl) (fun _ _ _ h => h) (Or.inl ⟨by rfl, ?_⟩) (by assumption) ?_
  rotate_left 1
  · intro w hSw; (try dsimp only at hSw); go_simp; all_goals with_reducible rfl
  try simp only [Act.put, List.setIfInBounds_toArray, List.set_cons_zero, List.set_cons_succ]
  refine takeO 1 (some 12) (v := ?_) rfl rfl (by kernel_rfl) (by kernel_rfl) (by kernel_rfl) (fun _ _ _ h => h) (Or.inl ⟨by rfl, ?_⟩) (by assumption) ?_
  rotate_left 1
  · intro w hSw; (try dsimp only at hSw); go_simp; all_goals with_reducible rfl
  try simp only [Act.put, List.setIfInBounds_toArray, List.set_cons_zero, List.set_cons_succ]
  refine takeO 2 (some 13) (v := ?_) rfl rfl (by kernel_rfl) (by kernel_rfl) (by kernel_rfl) (fun _ _ _ h => h) (Or.inl ⟨by rfl, ?_⟩) (by assumption) ?_
  rotate_left 1
  · intro w hSw; (try dsimp only at hSw); go_simp; all_goals with_reducible rfl
  try simp only [Act.put, List.setIfInBounds_toArray, List.set_cons_zero, List.set_cons_succ]
  refine takeO 4 (some 15) (v := ?_) rfl rfl (by kernel_rfl) (by kernel_rfl) (by kernel_rfl) (fun _ _ _ h => h) (Or.inl ⟨by rfl, ?_⟩) (by assumption) ?_
  rotate_left 1
  · intro w hSw; (try dsimp only at hSw); go_simp; all_goals with_reducible rfl
  try simp only [Act.put, List.setIfInBounds_toArray, List.set_cons_zero, List.set_cons_succ]
  refine takeO 5 (some 16) (v := ?_) rfl rfl (by kernel_rfl) (by kernel_rfl) (by kernel_rfl) (fun _ _ _ h => h) (Or.inl ⟨by rfl, ?_⟩) (by assumption) ?_
  rotate_left 1
  · intro w hSw; (try dsimp only at hSw); go_simp; all_goals with_reducible rfl
  try simp only [Act.put, List.setIfInBounds_toArray, List.set_cons_zero, List.set_cons_succ]
  refine wpAnyH_ready (rs := [3]) (by kernel_rfl) (by simp) ?_
  refine AllReadyH.cons rfl (fun K hK => ?_) AllReadyH.nil
  go_simp
  have HC := Lib.hid (rput_out none 0 [] ((rl.length : Int) + 7) 2 w2.drew (rd_nil _ _ rfl) (by decide) (by omega) (by omega)); rw [E2.out] at HC; refine HC.out.mono ?_; clear HC; rintro e w3 ⟨ao3, c3, rfl, hr, hb⟩; have HR3 := Lib.hid hr; have HX3 := Lib.hid (HX2d.out.below hb HX2d.out.lt); have HB3 := Lib.hid (HB2d.out.trans (hb.mono HB2d.out.size)); have HQ3 := Lib.hid (HR2d.out.below hb rfl); clear hr hb
  go_wp2_with fail
  refine hK.out _ _ (by first | exact HX2d.out.cell 0 | exact HX3.out.cell 0 | exact HX4.out.cell 0) (fun hHeld => ?_)
  clear hK K
  try simp only [Act.put, List.setIfInBounds_toArray, List.set_cons_zero, List.set_cons_succ]
  refine wpAnyH_ready (rs := [6]) (by kernel_rfl) (by simp) ?_
  refine AllReadyH.cons rfl (fun K hK => ?_) AllReadyH.nil
  go_simp
  have HC := Lib.hid (refput_any ao3 h2.length c3 h2 k 1 w3 HR3.out (by have := HL2.out; omega) (by omega) (by omega)); rw [HHD.out] at HC; refine HC.out.mono ?_; clear HC; rintro e w4 ⟨ao4, c4, rfl, ho, hb⟩; rw [u8s_length, hhl] at ho ⊢; have HO4 := Lib.hid ho; have HG4 := Lib.hid hb; have HX4 := Lib.hid (HX3.out.below hb HX3.out.lt); have HB4 := Lib.hid (HB3.out.trans (hb.mono HB3.out.size)); have HQ4 := Lib.hid (HQ3.out.below hb rfl); clear ho hb
  go_wp2_with fail
  refine hK.out _ _ (by first | exact HX2d.out.cell 0 | exact HX3.out.cell 0 | exact HX4.out.cell 0) (fun hHeld => ?_)
  clear hK K
  try simp only [Act.put, List.setIfInBounds_toArray, List.set_cons_zero, List.set_cons_succ]
  refine takeO 7 (some 5) (v := ?_) rfl rfl (by kernel_rfl) (by kernel_rfl) (by kernel_rfl) (fun _ _ _ h => h) (Or.inl ⟨by rfl, ?_⟩) (by assumption) ?_
  rotate_left 1
  · intro w hSw; (try dsimp only at hSw); go_simp; all_goals with_reducible rfl
  try simp only [Act.put, List.setIfInBounds_toArray, List.set_cons_zero, List.set_cons_succ]
  refine wpAnyH_done (by kernel_rfl) ?_ _
  have HS4 := Lib.hid (Src.ofRd (P := Try.prog) Try.underlying39 HQ4.out (u8s_one rl))
  have hcl : cl.length = 3 + rl.length := by rw [HCO.out, List.length_append, hhl]
  go_wp2_with (at_builtin; refine wpList_app rfl _ _ 39 39 rfl w3.heap.size 5 i0 (.int .u8 0) 1 1 Try.underlying39 HI.out HZ0.out HZ1.out HZ2.out rfl (by decide) ao4 3 c4 (u8s hd) rfl HO4.out _ rl.length (u8s rl) rfl HS4.out (by unfold maxLen; omega) (by omega) HG4.out.size ?_; intro ao5 c5 w5 hown hg; rw [← u8s_append, ← HCO.out] at hown; have HO5 := Lib.hid hown; have HB5 := Lib.hid (HB4.out.grown hg HB4.out.size (fun k hk => Nat.le_trans HB3.out.size (HO4.out.lt k hk).1)); clear hown hg)
  have hr5 := ownsRow_rd HO5.out
  rw [show 3 + rl.length = cl.length from hcl.symm] at hr5 ⊢
  have HC := Lib.hid (seal_any ao5 c5 cl w5 hr5 (by omega) HLT.out)
  rw [← HFL.out] at HC
  refine HC.out.mono ?_
  clear HC
  rintro e w6 ⟨ao6, c6, rfl, ho, hb⟩
  rw [u8s_length] at ho ⊢
  have HO6 := Lib.hid ho
  have HB6 := Lib.hid (HB5.out.trans (hb.mono HB5.out.size))
  clear ho hb
  go_wp2_with fail
  go_ret2
  exact ⟨ao6, c6, rfl, own0 HO6.out HB5.out.size, HB6.out⟩
end Go.Proofs.Ytjhkdbcfkaaffaa
/- l.Of. -/
namespace Go.Proofs.Ytjhkdbcfkaaffaa
open Go.RowKit
set_option linter.unusedVariables false

set_option maxRecDepth 100000 in
theorem rdE_nil0 (w : World) : RdE KeyL.cells 2 w none ([] : List KeyL).length 0 [] := ⟨rfl, Nat.le_refl _, Nat.zero_le _, fun _ => rfl, fun i x h => by simp at h⟩
def OfE (m : MV) (w : World) (e : Ending) (w' : World) : Prop := ∃ (p : P5) (k : Int), e = .returned (p.msg k) ∧ k = m.kind ∧ (m.isMsg = true → p.kd k = m) ∧ (m.isMsg = false → p.kd k = .nil) ∧ p.fit w' ∧ Below w.heap.size w w'
set_option maxRecDepth 100000 in
set_option maxHeartbeats 8000000 in
theorem of_hello (w0 l0 : Int) (w : World) : Calls Try.prog 16 #[.iface 23 (.agg #[.int .i64 w0, .int .i64 l0])] w fun e w' => OfE (.hello w0 l0) w e w' := by
  have HG := Lib.hid (Blk.alloc (show Blk (w.alloc (.cells #[.int .i64 0, .int .i64 0, .int .i64 0, .int .i64 0, .int .i64 0, .int .i64 0, .int .i64 0, .int .i64 0, .int .i64 0, .int .i64 0, .int .i64 0, .string ⟨#[]⟩, .int .i64 0, .int .i64 0, .bool false, .int .i64 0, .string ⟨#[]⟩, .int .i64 0, .int .i64 0, .int .i64 0, .int .i64 0, .int .i64 0, .int .i64 0, .slice none 0 0, .bool false, .int .i64 0, .int .i64 0] 46)) w.heap.size 46 [.int .i64 0, .int .i64 0, .int .i64 0, .int .i64 0, .int .i64 0, .int .i64 0, .int .i64 0, .int .i64 0, .int .i64 0, .int .i64 0, .int .i64 0, .string ⟨#[]⟩, .int .i64 0, .int .i64 0, .bool false, .int .i64 0, .string ⟨#[]⟩, .int .i64 0, .int .i64 0, .int .i64 0, .int .i64 0, .int .i64 0, .int .i64 0, .slice none 0 0, .bool false, .int .i64 0, .int .i64 0] from heap_alloc_new w _) (.cells #[.int .i64 w0, .int .i64 l0] 23))
  have HB := Lib.hid (show Below w.heap.size w ((w.alloc (.cells #[.int .i64 0, .int .i64 0, .int .i64 0, .int .i64 0, .int .i64 0, .int .i64 0, .int .i64 0, .int .i64 0, .int .i64 0, .int .i64 0, .int .i64 0, .string ⟨#[]⟩, .int .i64 0, .int .i64 0, .bool false, .int .i64 0, .string ⟨#[]⟩, .int .i64 0, .int .i64 0, .int .i64 0, .int .i64 0, .int .i64 0, .int .i64 0, .slice none 0 0, .bool false, .int .i64 0, .int .i64 0] 46)).alloc (.cells #[.int .i64 w0, .int .i64 l0] 23)) from (by repeat (first | exact Below.refl _ _ | refine Below.alloc ?_ (by first | (simp; done) | (simp; omega)) _)))
  go_enter Try.func16, Try.ntmps16
  go_wp2_with (first | rw [ta_hello_hello] | rw [ta_grant_hello] | rw [ta_ask_hello] | rw [ta_reply_hello] | rw [ta_stop_hello] | (refine wpList_store_row rfl 46 _ _ rfl w.heap.size #[.int .i64 1, .int .i64 w0, .int .i64 l0, .int .i64 0, .int .i64 0, .int .i64 0, .int .i64 0, .int .i64 0, .int .i64 0, .int .i64 0, .int .i64 0, .string ⟨#[]⟩, .int .i64 0, .int .i64 0, .bool false, .int .i64 0, .string ⟨#[]⟩, .int .i64 0, .int .i64 0, .int .i64 0, .int .i64 0, .int .i64 0, .int .i64 0, .slice none 0 0, .bool false, .int .i64 0, .int .i64 0] rfl rfl _ #[.int .i64 0, .int .i64 0, .int .i64 0, .int .i64 0, .int .i64 0, .int .i64 0, .int .i64 0, .int .i64 0, .int .i64 0, .int .i64 0, .int .i64 0, .string ⟨#[]⟩, .int .i64 0, .int .i64 0, .bool false, .int .i64 0, .string ⟨#[]⟩, .int .i64 0, .int .i64 0, .int .i64 0, .int .i64 0, .int .i64 0, .int .i64 0, .slice none 0 0, .bool false, .int .i64 0, .int .i64 0] HG.out isz_msg rfl (by simp [Value.oneCell']) ?_))
  have hS := setRow_heap ((w.alloc (.cells #[.int .i64 0, .int .i64 0, .int .i64 0, .int .i64 0, .int .i64 0, .int .i64 0, .int .i64 0, .int .i64 0, .int .i64 0, .int .i64 0, .int .i64 0, .string ⟨#[]⟩, .int .i64 0, .int .i64 0, .bool false, .int .i64 0, .string ⟨#[]⟩, .int .i64 0, .int .i64 0, .int .i64 0, .int .i64 0, .int .i64 0, .int .i64 0, .slice none 0 0, .bool false, .int .i64 0, .int .i64 0] 46)).alloc (.cells #[.int .i64 w0, .int .i64 l0] 23)) w.heap.size #[.int .i64 0, .int .i64 0, .int .i64 0, .int .i64 0, .int .i64 0, .int .i64 0, .int .i64 0, .int .i64 0, .int .i64 0, .int .i64 0, .int .i64 0, .string ⟨#[]⟩, .int .i64 0, .int .i64 0, .bool false, .int .i64 0, .string ⟨#[]⟩, .int .i64 0, .int .i64 0, .int .i64 0, .int .i64 0, .int .i64 0, .int .i64 0, .slice none 0 0, .bool false, .int .i64 0, .int .i64 0] #[.int .i64 1, .int .i64 w0, .int .i64 l0, .int .i64 0, .int .i64 0, .int .i64 0, .int .i64 0, .int .i64 0, .int .i64 0, .int .i64 0, .int .i64 0, .string ⟨#[]⟩, .int .i64 0, .int .i64 0, .bool false, .int .i64 0, .string ⟨#[]⟩, .int .i64 0, .int .i64 0, .int .i64 0, .int .i64 0, .int .i64 0, .int .i64 0, .slice none 0 0, .bool false, .int .i64 0, .int .i64 0] 46 (0, 0) HG.out
  have hBs := below_setRow HB.out (Nat.le_refl w.heap.size) #[.int .i64 1, .int .i64 w0, .int .i64 l0, .int .i64 0, .int .i64 0, .int .i64 0, .int .i64 0, .int .i64 0, .int .i64 0, .int .i64 0, .int .i64 0, .string ⟨#[]⟩, .int .i64 0, .int .i64 0, .bool false, .int .i64 0, .string ⟨#[]⟩, .int .i64 0, .int .i64 0, .int .i64 0, .int .i64 0, .int .i64 0, .int .i64 0, .slice none 0 0, .bool false, .int .i64 0, .int .i64 0]
  refine bodyPost_ret (results_cell_row rfl _ _ w.heap.size 46 #[.int .i64 1, .int .i64 w0, .int .i64 l0, .int .i64 0, .int .i64 0, .int .i64 0, .int .i64 0, .int .i64 0, .int .i64 0, .int .i64 0, .int .i64 0, .string ⟨#[]⟩, .int .i64 0, .int .i64 0, .bool false, .int .i64 0, .string ⟨#[]⟩, .int .i64 0, .int .i64 0, .int .i64 0, .int .i64 0, .int .i64 0, .int .i64 0, .slice none 0 0, .bool false, .int .i64 0, .int .i64 0] (0, 0) _ rfl hS Try.underlying46 rfl isz_msg) rfl ?_
  exact ⟨(⟨w0, l0, 0, 0, 0, 0, 0, 0, 0, 0, ⟨#[]⟩, 0, 0, false, 0, ⟨#[]⟩, 0, 0, 0, 0, 0, 0, none, 0, [], false, 0, 0⟩ : P5), 1, rfl, rfl, fun _ => rfl, fun h => (by cases h), ⟨rdE_nil0 _, by simp, Nat.zero_le 2000, Nat.zero_le 2000⟩, hBs⟩
set_option maxRecDepth 100000 in
set_option maxHeartbeats 8000000 in
theorem of_grant (w0 l0 e0 : Int) (w : World) : Calls Try.prog 16 #[.iface 25 (.agg #[.int .i64 w0, .int .i64 l0, .int .i64 e0])] w fun e w' => OfE (.grant w0 l0 e0) w e w' := by
  have HG := Lib.hid (Blk.alloc (show Blk (w.alloc (.cells #[.int .i64 0, .int .i64 0, .int .i64 0, .int .i64 0, .int .i64 0, .int .i64 0, .int .i64 0, .int .i64 0, .int .i64 0, .int .i64 0, .int .i64 0, .string ⟨#[]⟩, .int .i64 0, .int .i64 0, .bool false, .int .i64 0, .string ⟨#[]⟩, .int .i64 0, .int .i64 0, .int .i64 0, .int .i64 0, .int .i64 0, .int .i64 0, .slice none 0 0, .bool false, .int .i64 0, .int .i64 0] 46)) w.heap.size 46 [.int .i64 0, .int .i64 0, .int .i64 0, .int .i64 0, .int .i64 0, .int .i64 0, .int .i64 0, .int .i64 0, .int .i64 0, .int .i64 0, .int .i64 0, .string ⟨#[]⟩, .int .i64 0, .int .i64 0, .bool false, .int .i64 0, .string ⟨#[]⟩, .int .i64 0, .int .i64 0, .int .i64 0, .int .i64 0, .int .i64 0, .int .i64 0, .slice none 0 0, .bool false, .int .i64 0, .int .i64 0] from heap_alloc_new w _) (.cells #[.int .i64 w0, .int .i64 l0, .int .i64 e0] 25))
  have HB := Lib.hid (show Below w.heap.size w ((w.alloc (.cells #[.int .i64 0, .int .i64 0, .int .i64 0, .int .i64 0, .int .i64 0, .int .i64 0, .int .i64 0, .int .i64 0, .int .i64 0, .int .i64 0, .int .i64 0, .string ⟨#[]⟩, .int .i64 0, .int .i64 0, .bool false, .int .i64 0, .string ⟨#[]⟩, .int .i64 0, .int .i64 0, .int .i64 0, .int .i64 0, .int .i64 0, .int .i64 0, .slice none 0 0, .bool false, .int .i64 0, .int .i64 0] 46)).alloc (.cells #[.int .i64 w0, .int .i64 l0, .int .i64 e0] 25)) from (by repeat (first | exact Below.refl _ _ | refine Below.alloc ?_ (by first | (simp; done) | (simp; omega)) _)))
  go_enter Try.func16, Try.ntmps16
  go_wp2_with (first | rw [ta_hello_grant] | rw [ta_grant_grant] | rw [ta_ask_grant] | rw [ta_reply_grant] | rw [ta_stop_grant] | (refine wpList_store_row rfl 46 _ _ rfl w.heap.size #[.int .i64 2, .int .i64 0, .int .i64 0, .int .i64 w0, .int .i64 l0, .int .i64 e0, .int .i64 0, .int .i64 0, .int .i64 0, .int .i64 0, .int .i64 0, .string ⟨#[]⟩, .int .i64 0, .int .i64 0, .bool false, .int .i64 0, .string ⟨#[]⟩, .int .i64 0, .int .i64 0, .int .i64 0, .int .i64 0, .int .i64 0, .int .i64 0, .slice none 0 0, .bool false, .int .i64 0, .int .i64 0] rfl rfl _ #[.int .i64 0, .int .i64 0, .int .i64 0, .int .i64 0, .int .i64 0, .int .i64 0, .int .i64 0, .int .i64 0, .int .i64 0, .int .i64 0, .int .i64 0, .string ⟨#[]⟩, .int .i64 0, .int .i64 0, .bool false, .int .i64 0, .string ⟨#[]⟩, .int .i64 0, .int .i64 0, .int .i64 0, .int .i64 0, .int .i64 0, .int .i64 0, .slice none 0 0, .bool false, .int .i64 0, .int .i64 0] HG.out isz_msg rfl (by simp [Value.oneCell']) ?_))
  have hS := setRow_heap ((w.alloc (.cells #[.int .i64 0, .int .i64 0, .int .i64 0, .int .i64 0, .int .i64 0, .int .i64 0, .int .i64 0, .int .i64 0, .int .i64 0, .int .i64 0, .int .i64 0, .string ⟨#[]⟩, .int .i64 0, .int .i64 0, .bool false, .int .i64 0, .string ⟨#[]⟩, .int .i64 0, .int .i64 0, .int .i64 0, .int .i64 0, .int .i64 0, .int .i64 0, .slice none 0 0, .bool false, .int .i64 0, .int .i64 0] 46)).alloc (.cells #[.int .i64 w0, .int .i64 l0, .int .i64 e0] 25)) w.heap.size #[.int .i64 0, .int .i64 0, .int .i64 0, .int .i64 0, .int .i64 0, .int .i64 0, .int .i64 0, .int .i64 0, .int .i64 0, .int .i64 0, .int .i64 0, .string ⟨#[]⟩, .int .i64 0, .int .i64 0, .bool false, .int .i64 0, .string ⟨#[]⟩, .int .i64 0, .int .i64 0, .int .i64 0, .int .i64 0, .int .i64 0, .int .i64 0, .slice none 0 0, .bool false, .int .i64 0, .int .i64 0] #[.int .i64 2, .int .i64 0, .int .i64 0, .int .i64 w0, .int .i64 l0, .int .i64 e0, .int .i64 0, .int .i64 0, .int .i64 0, .int .i64 0, .int .i64 0, .string ⟨#[]⟩, .int .i64 0, .int .i64 0, .bool false, .int .i64 0, .string ⟨#[]⟩, .int .i64 0, .int .i64 0, .int .i64 0, .int .i64 0, .int .i64 0, .int .i64 0, .slice none 0 0, .bool false, .int .i64 0, .int .i64 0] 46 (0, 0) HG.out
  have hBs := below_setRow HB.out (Nat.le_refl w.heap.size) #[.int .i64 2, .int .i64 0, .int .i64 0, .int .i64 w0, .int .i64 l0, .int .i64 e0, .int .i64 0, .int .i64 0, .int .i64 0, .int .i64 0, .int .i64 0, .string ⟨#[]⟩, .int .i64 0, .int .i64 0, .bool false, .int .i64 0, .string ⟨#[]⟩, .int .i64 0, .int .i64 0, .int .i64 0, .int .i64 0, .int .i64 0, .int .i64 0, .slice none 0 0, .bool false, .int .i64 0, .int .i64 0]
  refine bodyPost_ret (results_cell_row rfl _ _ w.heap.size 46 #[.int .i64 2, .int .i64 0, .int .i64 0, .int .i64 w0, .int .i64 l0, .int .i64 e0, .int .i64 0, .int .i64 0, .int .i64 0, .int .i64 0, .int .i64 0, .string ⟨#[]⟩, .int .i64 0, .int .i64 0, .bool false, .int .i64 0, .string ⟨#[]⟩, .int .i64 0, .int .i64 0, .int .i64 0, .int .i64 0, .int .i64 0, .int .i64 0, .slice none 0 0, .bool false, .int .i64 0, .int .i64 0] (0, 0) _ rfl hS Try.underlying46 rfl isz_msg) rfl ?_
  exact ⟨(⟨0, 0, w0, l0, e0, 0, 0, 0, 0, 0, ⟨#[]⟩, 0, 0, false, 0, ⟨#[]⟩, 0, 0, 0, 0, 0, 0, none, 0, [], false, 0, 0⟩ : P5), 2, rfl, rfl, fun _ => rfl, fun h => (by cases h), ⟨rdE_nil0 _, by simp, Nat.zero_le 2000, Nat.zero_le 2000⟩, hBs⟩
set_option maxRecDepth 100000 in
set_option maxHeartbeats 8000000 in
theorem of_ask (s q hh sq ep : Int) (tx : ByteArray) (k b : Int) (f : Bool) (d : Int) (wd : ByteArray) (w : World) (h1 : tx.size ≤ 2000) (h2 : wd.size ≤ 2000) : Calls Try.prog 16 #[.iface 29 (.agg #[.int .i64 s, .int .i64 q, .int .i64 hh, .int .i64 sq, .int .i64 ep, .string tx, .int .i64 k, .int .i64 b, .bool f, .int .i64 d, .string wd])] w fun e w' => OfE (.ask s q hh sq ep tx k b f d wd) w e w' := by
  have HG := Lib.hid (Blk.alloc (show Blk (w.alloc (.cells #[.int .i64 0, .int .i64 0, .int .i64 0, .int .i64 0, .int .i64 0, .int .i64 0, .int .i64 0, .int .i64 0, .int .i64 0, .int .i64 0, .int .i64 0, .string ⟨#[]⟩, .int .i64 0, .int .i64 0, .bool false, .int .i64 0, .string ⟨#[]⟩, .int .i64 0, .int .i64 0, .int .i64 0, .int .i64 0, .int .i64 0, .int .i64 0, .slice none 0 0, .bool false, .int .i64 0, .int .i64 0] 46)) w.heap.size 46 [.int .i64 0, .int .i64 0, .int .i64 0, .int .i64 0, .int .i64 0, .int .i64 0, .int .i64 0, .int .i64 0, .int .i64 0, .int .i64 0, .int .i64 0, .string ⟨#[]⟩, .int .i64 0, .int .i64 0, .bool false, .int .i64 0, .string ⟨#[]⟩, .int .i64 0, .int .i64 0, .int .i64 0, .int .i64 0, .int .i64 0, .int .i64 0, .slice none 0 0, .bool false, .int .i64 0, .int .i64 0] from heap_alloc_new w _) (.cells #[.int .i64 s, .int .i64 q, .int .i64 hh, .int .i64 sq, .int .i64 ep, .string tx, .int .i64 k, .int .i64 b, .bool f, .int .i64 d, .string wd] 29))
  have HB := Lib.hid (show Below w.heap.size w ((w.alloc (.cells #[.int .i64 0, .int .i64 0, .int .i64 0, .int .i64 0, .int .i64 0, .int .i64 0, .int .i64 0, .int .i64 0, .int .i64 0, .int .i64 0, .int .i64 0, .string ⟨#[]⟩, .int .i64 0, .int .i64 0, .bool false, .int .i64 0, .string ⟨#[]⟩, .int .i64 0, .int .i64 0, .int .i64 0, .int .i64 0, .int .i64 0, .int .i64 0, .slice none 0 0, .bool false, .int .i64 0, .int .i64 0] 46)).alloc (.cells #[.int .i64 s, .int .i64 q, .int .i64 hh, .int .i64 sq, .int .i64 ep, .string tx, .int .i64 k, .int .i64 b, .bool f, .int .i64 d, .string wd] 29)) from (by repeat (first | exact Below.refl _ _ | refine Below.alloc ?_ (by first | (simp; done) | (simp; omega)) _)))
  go_enter Try.func16, Try.ntmps16
  go_wp2_with (first | rw [ta_hello_ask] | rw [ta_grant_ask] | rw [ta_ask_ask] | rw [ta_reply_ask] | rw [ta_stop_ask] | (refine wpList_store_row rfl 46 _ _ rfl w.heap.size #[.int .i64 3, .int .i64 0, .int .i64 0, .int .i64 0, .int .i64 0, .int .i64 0, .int .i64 s, .int .i64 q, .int .i64 hh, .int .i64 sq, .int .i64 ep, .string tx, .int .i64 k, .int .i64 b, .bool f, .int .i64 d, .string wd, .int .i64 0, .int .i64 0, .int .i64 0, .int .i64 0, .int .i64 0, .int .i64 0, .slice none 0 0, .bool false, .int .i64 0, .int .i64 0] rfl rfl _ #[.int .i64 0, .int .i64 0, .int .i64 0, .int .i64 0, .int .i64 0, .int .i64 0, .int .i64 0, .int .i64 0, .int .i64 0, .int .i64 0, .int .i64 0, .string ⟨#[]⟩, .int .i64 0, .int .i64 0, .bool false, .int .i64 0, .string ⟨#[]⟩, .int .i64 0, .int .i64 0, .int .i64 0, .int .i64 0, .int .i64 0, .int .i64 0, .slice none 0 0, .bool false, .int .i64 0, .int .i64 0] HG.out isz_msg rfl (by simp [Value.oneCell']) ?_))
  have hS := setRow_heap ((w.alloc (.cells #[.int .i64 0, .int .i64 0, .int .i64 0, .int .i64 0, .int .i64 0, .int .i64 0, .int .i64 0, .int .i64 0, .int .i64 0, .int .i64 0, .int .i64 0, .string ⟨#[]⟩, .int .i64 0, .int .i64 0, .bool false, .int .i64 0, .string ⟨#[]⟩, .int .i64 0, .int .i64 0, .int .i64 0, .int .i64 0, .int .i64 0, .int .i64 0, .slice none 0 0, .bool false, .int .i64 0, .int .i64 0] 46)).alloc (.cells #[.int .i64 s, .int .i64 q, .int .i64 hh, .int .i64 sq, .int .i64 ep, .string tx, .int .i64 k, .int .i64 b, .bool f, .int .i64 d, .string wd] 29)) w.heap.size #[.int .i64 0, .int .i64 0, .int .i64 0, .int .i64 0, .int .i64 0, .int .i64 0, .int .i64 0, .int .i64 0, .int .i64 0, .int .i64 0, .int .i64 0, .string ⟨#[]⟩, .int .i64 0, .int .i64 0, .bool false, .int .i64 0, .string ⟨#[]⟩, .int .i64 0, .int .i64 0, .int .i64 0, .int .i64 0, .int .i64 0, .int .i64 0, .slice none 0 0, .bool false, .int .i64 0, .int .i64 0] #[.int .i64 3, .int .i64 0, .int .i64 0, .int .i64 0, .int .i64 0, .int .i64 0, .int .i64 s, .int .i64 q, .int .i64 hh, .int .i64 sq, .int .i64 ep, .string tx, .int .i64 k, .int .i64 b, .bool f, .int .i64 d, .string wd, .int .i64 0, .int .i64 0, .int .i64 0, .int .i64 0, .int .i64 0, .int .i64 0, .slice none 0 0, .bool false, .int .i64 0, .int .i64 0] 46 (0, 0) HG.out
  have hBs := below_setRow HB.out (Nat.le_refl w.heap.size) #[.int .i64 3, .int .i64 0, .int .i64 0, .int .i64 0, .int .i64 0, .int .i64 0, .int .i64 s, .int .i64 q, .int .i64 hh, .int .i64 sq, .int .i64 ep, .string tx, .int .i64 k, .int .i64 b, .bool f, .int .i64 d, .string wd, .int .i64 0, .int .i64 0, .int .i64 0, .int .i64 0, .int .i64 0, .int .i64 0, .slice none 0 0, .bool false, .int .i64 0, .int .i64 0]
  refine bodyPost_ret (results_cell_row rfl _ _ w.heap.size 46 #[.int .i64 3, .int .i64 0, .int .i64 0, .int .i64 0, .int .i64 0, .int .i64 0, .int .i64 s, .int .i64 q, .int .i64 hh, .int .i64 sq, .int .i64 ep, .string tx, .int .i64 k, .int .i64 b, .bool f, .int .i64 d, .string wd, .int .i64 0, .int .i64 0, .int .i64 0, .int .i64 0, .int .i64 0, .int .i64 0, .slice none 0 0, .bool false, .int .i64 0, .int .i64 0] (0, 0) _ rfl hS Try.underlying46 rfl isz_msg) rfl ?_
  exact ⟨(⟨0, 0, 0, 0, 0, s, q, hh, sq, ep, tx, k, b, f, d, wd, 0, 0, 0, 0, 0, 0, none, 0, [], false, 0, 0⟩ : P5), 3, rfl, rfl, fun _ => rfl, fun h => (by cases h), ⟨rdE_nil0 _, by simp, h1, h2⟩, hBs⟩
set_option maxRecDepth 100000 in
set_option maxHeartbeats 8000000 in
theorem of_reply (s q hh sq wk ep : Int) (l : List KeyL) (en : Bool) (a : Option Addr) (c : Nat) (w : World) (hr : RdE KeyL.cells 2 w a l.length c l) (h1 : ∀ x ∈ l, x.2.size ≤ 2000) : Calls Try.prog 16 #[.iface 32 (.agg #[.int .i64 s, .int .i64 q, .int .i64 hh, .int .i64 sq, .int .i64 wk, .int .i64 ep, .slice a l.length c, .bool en])] w fun e w' => OfE (.reply s q hh sq wk ep l en) w e w' := by
  have HRI := Lib.hid (fun W (hb : Below w.heap.size w W) => hr.below hb rfl)
  clear hr
  have HG := Lib.hid (Blk.alloc (show Blk (w.alloc (.cells #[.int .i64 0, .int .i64 0, .int .i64 0, .int .i64 0, .int .i64 0, .int .i64 0, .int .i64 0, .int .i64 0, .int .i64 0, .int .i64 0, .int .i64 0, .string ⟨#[]⟩, .int .i64 0, .int .i64 0, .bool false, .int .i64 0, .string ⟨#[]⟩, .int .i64 0, .int .i64 0, .int .i64 0, .int .i64 0, .int .i64 0, .int .i64 0, .slice none 0 0, .bool false, .int .i64 0, .int .i64 0] 46)) w.heap.size 46 [.int .i64 0, .int .i64 0, .int .i64 0, .int .i64 0, .int .i64 0, .int .i64 0, .int .i64 0, .int .i64 0, .int .i64 0, .int .i64 0, .int .i64 0, .string ⟨#[]⟩, .int .i64 0, .int .i64 0, .bool false, .int .i64 0, .string ⟨#[]⟩, .int .i64 0, .int .i64 0, .int .i64 0, .int .i64 0, .int .i64 0, .int .i64 0, .slice none 0 0, .bool false, .int .i64 0, .int .i64 0] from heap_alloc_new w _) (.cells #[.int .i64 s, .int .i64 q, .int .i64 hh, .int .i64 sq, .int .i64 wk, .int .i64 ep, .slice a l.length c, .bool en] 32))
  have HB := Lib.hid (show Below w.heap.size w ((w.alloc (.cells #[.int .i64 0, .int .i64 0, .int .i64 0, .int .i64 0, .int .i64 0, .int .i64 0, .int .i64 0, .int .i64 0, .int .i64 0, .int .i64 0, .int .i64 0, .string ⟨#[]⟩, .int .i64 0, .int .i64 0, .bool false, .int .i64 0, .string ⟨#[]⟩, .int .i64 0, .int .i64 0, .int .i64 0, .int .i64 0, .int .i64 0, .int .i64 0, .slice none 0 0, .bool false, .int .i64 0, .int .i64 0] 46)).alloc (.cells #[.int .i64 s, .int .i64 q, .int .i64 hh, .int .i64 sq, .int .i64 wk, .int .i64 ep, .slice a l.length c, .bool en] 32)) from (by repeat (first | exact Below.refl _ _ | refine Below.alloc ?_ (by first | (simp; done) | (simp; omega)) _)))
  go_enter Try.func16, Try.ntmps16
  go_wp2_with (first | rw [ta_hello_reply] | rw [ta_grant_reply] | rw [ta_ask_reply] | rw [ta_reply_reply] | rw [ta_stop_reply] | (refine wpList_store_row rfl 46 _ _ rfl w.heap.size #[.int .i64 4, .int .i64 0, .int .i64 0, .int .i64 0, .int .i64 0, .int .i64 0, .int .i64 0, .int .i64 0, .int .i64 0, .int .i64 0, .int .i64 0, .string ⟨#[]⟩, .int .i64 0, .int .i64 0, .bool false, .int .i64 0, .string ⟨#[]⟩, .int .i64 s, .int .i64 q, .int .i64 hh, .int .i64 sq, .int .i64 wk, .int .i64 ep, .slice a l.length c, .bool en, .int .i64 0, .int .i64 0] rfl rfl _ #[.int .i64 0, .int .i64 0, .int .i64 0, .int .i64 0, .int .i64 0, .int .i64 0, .int .i64 0, .int .i64 0, .int .i64 0, .int .i64 0, .int .i64 0, .string ⟨#[]⟩, .int .i64 0, .int .i64 0, .bool false, .int .i64 0, .string ⟨#[]⟩, .int .i64 0, .int .i64 0, .int .i64 0, .int .i64 0, .int .i64 0, .int .i64 0, .slice none 0 0, .bool false, .int .i64 0, .int .i64 0] HG.out isz_msg rfl (by simp [Value.oneCell']) ?_))
  have hS := setRow_heap ((w.alloc (.cells #[.int .i64 0, .int .i64 0, .int .i64 0, .int .i64 0, .int .i64 0, .int .i64 0, .int .i64 0, .int .i64 0, .int .i64 0, .int .i64 0, .int .i64 0, .string ⟨#[]⟩, .int .i64 0, .int .i64 0, .bool false, .int .i64 0, .string ⟨#[]⟩, .int .i64 0, .int .i64 0, .int .i64 0, .int .i64 0, .int .i64 0, .int .i64 0, .slice none 0 0, .bool false, .int .i64 0, .int .i64 0] 46)).alloc (.cells #[.int .i64 s, .int .i64 q, .int .i64 hh, .int .i64 sq, .int .i64 wk, .int .i64 ep, .slice a l.length c, .bool en] 32)) w.heap.size #[.int .i64 0, .int .i64 0, .int .i64 0, .int .i64 0, .int .i64 0, .int .i64 0, .int .i64 0, .int .i64 0, .int .i64 0, .int .i64 0, .int .i64 0, .string ⟨#[]⟩, .int .i64 0, .int .i64 0, .bool false, .int .i64 0, .string ⟨#[]⟩, .int .i64 0, .int .i64 0, .int .i64 0, .int .i64 0, .int .i64 0, .int .i64 0, .slice none 0 0, .bool false, .int .i64 0, .int .i64 0] #[.int .i64 4, .int .i64 0, .int .i64 0, .int .i64 0, .int .i64 0, .int .i64 0, .int .i64 0, .int .i64 0, .int .i64 0, .int .i64 0, .int .i64 0, .string ⟨#[]⟩, .int .i64 0, .int .i64 0, .bool false, .int .i64 0, .string ⟨#[]⟩, .int .i64 s, .int .i64 q, .int .i64 hh, .int .i64 sq, .int .i64 wk, .int .i64 ep, .slice a l.length c, .bool en, .int .i64 0, .int .i64 0] 46 (0, 0) HG.out
  have hBs := below_setRow HB.out (Nat.le_refl w.heap.size) #[.int .i64 4, .int .i64 0, .int .i64 0, .int .i64 0, .int .i64 0, .int .i64 0, .int .i64 0, .int .i64 0, .int .i64 0, .int .i64 0, .int .i64 0, .string ⟨#[]⟩, .int .i64 0, .int .i64 0, .bool false, .int .i64 0, .string ⟨#[]⟩, .int .i64 s, .int .i64 q, .int .i64 hh, .int .i64 sq, .int .i64 wk, .int .i64 ep, .slice a l.length c, .bool en, .int .i64 0, .int .i64 0]
  refine bodyPost_ret (results_cell_row rfl _ _ w.heap.size 46 #[.int .i64 4, .int .i64 0, .int .i64 0, .int .i64 0, .int .i64 0, .int .i64 0, .int .i64 0, .int .i64 0, .int .i64 0, .int .i64 0, .int .i64 0, .string ⟨#[]⟩, .int .i64 0, .int .i64 0, .bool false, .int .i64 0, .string ⟨#[]⟩, .int .i64 s, .int .i64 q, .int .i64 hh, .int .i64 sq, .int .i64 wk, .int .i64 ep, .slice a l.length c, .bool en, .int .i64 0, .int .i64 0] (0, 0) _ rfl hS Try.underlying46 rfl isz_msg) rfl ?_
  exact ⟨(⟨0, 0, 0, 0, 0, 0, 0, 0, 0, 0, ⟨#[]⟩, 0, 0, false, 0, ⟨#[]⟩, s, q, hh, sq, wk, ep, a, c, l, en, 0, 0⟩ : P5), 4, rfl, rfl, fun _ => rfl, fun h => (by cases h), ⟨HRI.out _ hBs, h1, Nat.zero_le 2000, Nat.zero_le 2000⟩, hBs⟩
set_option maxRecDepth 100000 in
set_option maxHeartbeats 8000000 in
theorem of_stop (s q : Int) (w : World) : Calls Try.prog 16 #[.iface 34 (.agg #[.int .i64 s, .int .i64 q])] w fun e w' => OfE (.stop s q) w e w' := by
  have HG := Lib.hid (Blk.alloc (show Blk (w.alloc (.cells #[.int .i64 0, .int .i64 0, .int .i64 0, .int .i64 0, .int .i64 0, .int .i64 0, .int .i64 0, .int .i64 0, .int .i64 0, .int .i64 0, .int .i64 0, .string ⟨#[]⟩, .int .i64 0, .int .i64 0, .bool false, .int .i64 0, .string ⟨#[]⟩, .int .i64 0, .int .i64 0, .int .i64 0, .int .i64 0, .int .i64 0, .int .i64 0, .slice none 0 0, .bool false, .int .i64 0, .int .i64 0] 46)) w.heap.size 46 [.int .i64 0, .int .i64 0, .int .i64 0, .int .i64 0, .int .i64 0, .int .i64 0, .int .i64 0, .int .i64 0, .int .i64 0, .int .i64 0, .int .i64 0, .string ⟨#[]⟩, .int .i64 0, .int .i64 0, .bool false, .int .i64 0, .string ⟨#[]⟩, .int .i64 0, .int .i64 0, .int .i64 0, .int .i64 0, .int .i64 0, .int .i64 0, .slice none 0 0, .bool false, .int .i64 0, .int .i64 0] from heap_alloc_new w _) (.cells #[.int .i64 s, .int .i64 q] 34))
  have HB := Lib.hid (show Below w.heap.size w ((w.alloc (.cells #[.int .i64 0, .int .i64 0, .int .i64 0, .int .i64 0, .int .i64 0, .int .i64 0, .int .i64 0, .int .i64 0, .int .i64 0, .int .i64 0, .int .i64 0, .string ⟨#[]⟩, .int .i64 0, .int .i64 0, .bool false, .int .i64 0, .string ⟨#[]⟩, .int .i64 0, .int .i64 0, .int .i64 0, .int .i64 0, .int .i64 0, .int .i64 0, .slice none 0 0, .bool false, .int .i64 0, .int .i64 0] 46)).alloc (.cells #[.int .i64 s, .int .i64 q] 34)) from (by repeat (first | exact Below.refl _ _ | refine Below.alloc ?_ (by first | (simp; done) | (simp; omega)) _)))
  go_enter Try.func16, Try.ntmps16
  go_wp2_with (first | rw [ta_hello_stop] | rw [ta_grant_stop] | rw [ta_ask_stop] | rw [ta_reply_stop] | rw [ta_stop_stop] | (refine wpList_store_row rfl 46 _ _ rfl w.heap.size #[.int .i64 5, .int .i64 0, .int .i64 0, .int .i64 0, .int .i64 0, .int .i64 0, .int .i64 0, .int .i64 0, .int .i64 0, .int .i64 0, .int .i64 0, .string ⟨#[]⟩, .int .i64 0, .int .i64 0, .bool false, .int .i64 0, .string ⟨#[]⟩, .int .i64 0, .int .i64 0, .int .i64 0, .int .i64 0, .int .i64 0, .int .i64 0, .slice none 0 0, .bool false, .int .i64 s, .int .i64 q] rfl rfl _ #[.int .i64 0, .int .i64 0, .int .i64 0, .int .i64 0, .int .i64 0, .int .i64 0, .int .i64 0, .int .i64 0, .int .i64 0, .int .i64 0, .int .i64 0, .string ⟨#[]⟩, .int .i64 0, .int .i64 0, .bool false, .int .i64 0, .string ⟨#[]⟩, .int .i64 0, .int .i64 0, .int .i64 0, .int .i64 0, .int .i64 0, .int .i64 0, .slice none 0 0, .bool false, .int .i64 0, .int .i64 0] HG.out isz_msg rfl (by simp [Value.oneCell']) ?_))
  have hS := setRow_heap ((w.alloc (.cells #[.int .i64 0, .int .i64 0, .int .i64 0, .int .i64 0, .int .i64 0, .int .i64 0, .int .i64 0, .int .i64 0, .int .i64 0, .int .i64 0, .int .i64 0, .string ⟨#[]⟩, .int .i64 0, .int .i64 0, .bool false, .int .i64 0, .string ⟨#[]⟩, .int .i64 0, .int .i64 0, .int .i64 0, .int .i64 0, .int .i64 0, .int .i64 0, .slice none 0 0, .bool false, .int .i64 0, .int .i64 0] 46)).alloc (.cells #[.int .i64 s, .int .i64 q] 34)) w.heap.size #[.int .i64 0, .int .i64 0, .int .i64 0, .int .i64 0, .int .i64 0, .int .i64 0, .int .i64 0, .int .i64 0, .int .i64 0, .int .i64 0, .int .i64 0, .string ⟨#[]⟩, .int .i64 0, .int .i64 0, .bool false, .int .i64 0, .string ⟨#[]⟩, .int .i64 0, .int .i64 0, .int .i64 0, .int .i64 0, .int .i64 0, .int .i64 0, .slice none 0 0, .bool false, .int .i64 0, .int .i64 0] #[.int .i64 5, .int .i64 0, .int .i64 0, .int .i64 0, .int .i64 0, .int .i64 0, .int .i64 0, .int .i64 0, .int .i64 0, .int .i64 0, .int .i64 0, .string ⟨#[]⟩, .int .i64 0, .int .i64 0, .bool false, .int .i64 0, .string ⟨#[]⟩, .int .i64 0, .int .i64 0, .int .i64 0, .int .i64 0, .int .i64 0, .int .i64 0, .slice none 0 0, .bool false, .int .i64 s, .int .i64 q] 46 (0, 0) HG.out
  have hBs := below_setRow HB.out (Nat.le_refl w.heap.size) #[.int .i64 5, .int .i64 0, .int .i64 0, .int .i64 0, .int .i64 0, .int .i64 0, .int .i64 0, .int .i64 0, .int .i64 0, .int .i64 0, .int .i64 0, .string ⟨#[]⟩, .int .i64 0, .int .i64 0, .bool false, .int .i64 0, .string ⟨#[]⟩, .int .i64 0, .int .i64 0, .int .i64 0, .int .i64 0, .int .i64 0, .int .i64 0, .slice none 0 0, .bool false, .int .i64 s, .int .i64 q]
  refine bodyPost_ret (results_cell_row rfl _ _ w.heap.size 46 #[.int .i64 5, .int .i64 0, .int .i64 0, .int .i64 0, .int .i64 0, .int .i64 0, .int .i64 0, .int .i64 0, .int .i64 0, .int .i64 0, .int .i64 0, .string ⟨#[]⟩, .int .i64 0, .int .i64 0, .bool false, .int .i64 0, .string ⟨#[]⟩, .int .i64 0, .int .i64 0, .int .i64 0, .int .i64 0, .int .i64 0, .int .i64 0, .slice none 0 0, .bool false, .int .i64 s, .int .i64 q] (0, 0) _ rfl hS Try.underlying46 rfl isz_msg) rfl ?_
  exact ⟨(⟨0, 0, 0, 0, 0, 0, 0, 0, 0, 0, ⟨#[]⟩, 0, 0, false, 0, ⟨#[]⟩, 0, 0, 0, 0, 0, 0, none, 0, [], false, s, q⟩ : P5), 5, rfl, rfl, fun _ => rfl, fun h => (by cases h), ⟨rdE_nil0 _, by simp, Nat.zero_le 2000, Nat.zero_le 2000⟩, hBs⟩
set_option maxRecDepth 100000 in
set_option maxHeartbeats 8000000 in
theorem of_nil (w : World) : Calls Try.prog 16 #[.nilIface] w fun e w' => OfE .nil w e w' := by
  have HG := Lib.hid (show Blk (w.alloc (.cells #[.int .i64 0, .int .i64 0, .int .i64 0, .int .i64 0, .int .i64 0, .int .i64 0, .int .i64 0, .int .i64 0, .int .i64 0, .int .i64 0, .int .i64 0, .string ⟨#[]⟩, .int .i64 0, .int .i64 0, .bool false, .int .i64 0, .string ⟨#[]⟩, .int .i64 0, .int .i64 0, .int .i64 0, .int .i64 0, .int .i64 0, .int .i64 0, .slice none 0 0, .bool false, .int .i64 0, .int .i64 0] 46)) w.heap.size 46 [.int .i64 0, .int .i64 0, .int .i64 0, .int .i64 0, .int .i64 0, .int .i64 0, .int .i64 0, .int .i64 0, .int .i64 0, .int .i64 0, .int .i64 0, .string ⟨#[]⟩, .int .i64 0, .int .i64 0, .bool false, .int .i64 0, .string ⟨#[]⟩, .int .i64 0, .int .i64 0, .int .i64 0, .int .i64 0, .int .i64 0, .int .i64 0, .slice none 0 0, .bool false, .int .i64 0, .int .i64 0] from heap_alloc_new w _)
  have HB := Lib.hid (show Below w.heap.size w (w.alloc (.cells #[.int .i64 0, .int .i64 0, .int .i64 0, .int .i64 0, .int .i64 0, .int .i64 0, .int .i64 0, .int .i64 0, .int .i64 0, .int .i64 0, .int .i64 0, .string ⟨#[]⟩, .int .i64 0, .int .i64 0, .bool false, .int .i64 0, .string ⟨#[]⟩, .int .i64 0, .int .i64 0, .int .i64 0, .int .i64 0, .int .i64 0, .int .i64 0, .slice none 0 0, .bool false, .int .i64 0, .int .i64 0] 46)) from (by repeat (first | exact Below.refl _ _ | refine Below.alloc ?_ (by first | (simp; done) | (simp; omega)) _)))
  go_enter Try.func16, Try.ntmps16
  go_wp2_with (first | rw [ta_hello_nil] | rw [ta_grant_nil] | rw [ta_ask_nil] | rw [ta_reply_nil] | rw [ta_stop_nil] | (refine wpList_store_row rfl 46 _ _ rfl w.heap.size #[.int .i64 0, .int .i64 0, .int .i64 0, .int .i64 0, .int .i64 0, .int .i64 0, .int .i64 0, .int .i64 0, .int .i64 0, .int .i64 0, .int .i64 0, .string ⟨#[]⟩, .int .i64 0, .int .i64 0, .bool false, .int .i64 0, .string ⟨#[]⟩, .int .i64 0, .int .i64 0, .int .i64 0, .int .i64 0, .int .i64 0, .int .i64 0, .slice none 0 0, .bool false, .int .i64 0, .int .i64 0] rfl rfl _ #[.int .i64 0, .int .i64 0, .int .i64 0, .int .i64 0, .int .i64 0, .int .i64 0, .int .i64 0, .int .i64 0, .int .i64 0, .int .i64 0, .int .i64 0, .string ⟨#[]⟩, .int .i64 0, .int .i64 0, .bool false, .int .i64 0, .string ⟨#[]⟩, .int .i64 0, .int .i64 0, .int .i64 0, .int .i64 0, .int .i64 0, .int .i64 0, .slice none 0 0, .bool false, .int .i64 0, .int .i64 0] HG.out isz_msg rfl (by simp [Value.oneCell']) ?_))
  have hS := setRow_heap (w.alloc (.cells #[.int .i64 0, .int .i64 0, .int .i64 0, .int .i64 0, .int .i64 0, .int .i64 0, .int .i64 0, .int .i64 0, .int .i64 0, .int .i64 0, .int .i64 0, .string ⟨#[]⟩, .int .i64 0, .int .i64 0, .bool false, .int .i64 0, .string ⟨#[]⟩, .int .i64 0, .int .i64 0, .int .i64 0, .int .i64 0, .int .i64 0, .int .i64 0, .slice none 0 0, .bool false, .int .i64 0, .int .i64 0] 46)) w.heap.size #[.int .i64 0, .int .i64 0, .int .i64 0, .int .i64 0, .int .i64 0, .int .i64 0, .int .i64 0, .int .i64 0, .int .i64 0, .int .i64 0, .int .i64 0, .string ⟨#[]⟩, .int .i64 0, .int .i64 0, .bool false, .int .i64 0, .string ⟨#[]⟩, .int .i64 0, .int .i64 0, .int .i64 0, .int .i64 0, .int .i64 0, .int .i64 0, .slice none 0 0, .bool false, .int .i64 0, .int .i64 0] #[.int .i64 0, .int .i64 0, .int .i64 0, .int .i64 0, .int .i64 0, .int .i64 0, .int .i64 0, .int .i64 0, .int .i64 0, .int .i64 0, .int .i64 0, .string ⟨#[]⟩, .int .i64 0, .int .i64 0, .bool false, .int .i64 0, .string ⟨#[]⟩, .int .i64 0, .int .i64 0, .int .i64 0, .int .i64 0, .int .i64 0, .int .i64 0, .slice none 0 0, .bool false, .int .i64 0, .int .i64 0] 46 (0, 0) HG.out
  have hBs := below_setRow HB.out (Nat.le_refl w.heap.size) #[.int .i64 0, .int .i64 0, .int .i64 0, .int .i64 0, .int .i64 0, .int .i64 0, .int .i64 0, .int .i64 0, .int .i64 0, .int .i64 0, .int .i64 0, .string ⟨#[]⟩, .int .i64 0, .int .i64 0, .bool false, .int .i64 0, .string ⟨#[]⟩, .int .i64 0, .int .i64 0, .int .i64 0, .int .i64 0, .int .i64 0, .int .i64 0, .slice none 0 0, .bool false, .int .i64 0, .int .i64 0]
  refine bodyPost_ret (results_cell_row rfl _ _ w.heap.size 46 #[.int .i64 0, .int .i64 0, .int .i64 0, .int .i64 0, .int .i64 0, .int .i64 0, .int .i64 0, .int .i64 0, .int .i64 0, .int .i64 0, .int .i64 0, .string ⟨#[]⟩, .int .i64 0, .int .i64 0, .bool false, .int .i64 0, .string ⟨#[]⟩, .int .i64 0, .int .i64 0, .int .i64 0, .int .i64 0, .int .i64 0, .int .i64 0, .slice none 0 0, .bool false, .int .i64 0, .int .i64 0] (0, 0) _ rfl hS Try.underlying46 rfl isz_msg) rfl ?_
  exact ⟨(⟨0, 0, 0, 0, 0, 0, 0, 0, 0, 0, ⟨#[]⟩, 0, 0, false, 0, ⟨#[]⟩, 0, 0, 0, 0, 0, 0, none, 0, [], false, 0, 0⟩ : P5), 0, rfl, rfl, fun h => (by cases h), fun _ => rfl, ⟨rdE_nil0 _, by simp, Nat.zero_le 2000, Nat.zero_le 2000⟩, hBs⟩
set_option maxRecDepth 100000 in
set_option maxHeartbeats 8000000 in
theorem of_other (t : TypeId) (v : Value) (w : World) (h1 : t ≠ 23) (h2 : t ≠ 25) (h3 : t ≠ 29) (h4 : t ≠ 32) (h5 : t ≠ 34) : Calls Try.prog 16 #[.iface t v] w fun e w' => OfE (.other t v) w e w' := by
  have HG := Lib.hid (show Blk (w.alloc (.cells #[.int .i64 0, .int .i64 0, .int .i64 0, .int .i64 0, .int .i64 0, .int .i64 0, .int .i64 0, .int .i64 0, .int .i64 0, .int .i64 0, .int .i64 0, .string ⟨#[]⟩, .int .i64 0, .int .i64 0, .bool false, .int .i64 0, .string ⟨#[]⟩, .int .i64 0, .int .i64 0, .int .i64 0, .int .i64 0, .int .i64 0, .int .i64 0, .slice none 0 0, .bool false, .int .i64 0, .int .i64 0] 46)) w.heap.size 46 [.int .i64 0, .int .i64 0, .int .i64 0, .int .i64 0, .int .i64 0, .int .i64 0, .int .i64 0, .int .i64 0, .int .i64 0, .int .i64 0, .int .i64 0, .string ⟨#[]⟩, .int .i64 0, .int .i64 0, .bool false, .int .i64 0, .string ⟨#[]⟩, .int .i64 0, .int .i64 0, .int .i64 0, .int .i64 0, .int .i64 0, .int .i64 0, .slice none 0 0, .bool false, .int .i64 0, .int .i64 0] from heap_alloc_new w _)
  have HB := Lib.hid (show Below w.heap.size w (w.alloc (.cells #[.int .i64 0, .int .i64 0, .int .i64 0, .int .i64 0, .int .i64 0, .int .i64 0, .int .i64 0, .int .i64 0, .int .i64 0, .int .i64 0, .int .i64 0, .string ⟨#[]⟩, .int .i64 0, .int .i64 0, .bool false, .int .i64 0, .string ⟨#[]⟩, .int .i64 0, .int .i64 0, .int .i64 0, .int .i64 0, .int .i64 0, .int .i64 0, .slice none 0 0, .bool false, .int .i64 0, .int .i64 0] 46)) from (by repeat (first | exact Below.refl _ _ | refine Below.alloc ?_ (by first | (simp; done) | (simp; omega)) _)))
  go_enter Try.func16, Try.ntmps16
  go_wp2_with (first | rw [ta_hello_other _ _ _ _ h1] | rw [ta_grant_other _ _ _ _ h2] | rw [ta_ask_other _ _ _ _ h3] | rw [ta_reply_other _ _ _ _ h4] | rw [ta_stop_other _ _ _ _ h5] | (refine wpList_store_row rfl 46 _ _ rfl w.heap.size #[.int .i64 0, .int .i64 0, .int .i64 0, .int .i64 0, .int .i64 0, .int .i64 0, .int .i64 0, .int .i64 0, .int .i64 0, .int .i64 0, .int .i64 0, .string ⟨#[]⟩, .int .i64 0, .int .i64 0, .bool false, .int .i64 0, .string ⟨#[]⟩, .int .i64 0, .int .i64 0, .int .i64 0, .int .i64 0, .int .i64 0, .int .i64 0, .slice none 0 0, .bool false, .int .i64 0, .int .i64 0] rfl rfl _ #[.int .i64 0, .int .i64 0, .int .i64 0, .int .i64 0, .int .i64 0, .int .i64 0, .int .i64 0, .int .i64 0, .int .i64 0, .int .i64 0, .int .i64 0, .string ⟨#[]⟩, .int .i64 0, .int .i64 0, .bool false, .int .i64 0, .string ⟨#[]⟩, .int .i64 0, .int .i64 0, .int .i64 0, .int .i64 0, .int .i64 0, .int .i64 0, .slice none 0 0, .bool false, .int .i64 0, .int .i64 0] HG.out isz_msg rfl (by simp [Value.oneCell']) ?_))
  have hS := setRow_heap (w.alloc (.cells #[.int .i64 0, .int .i64 0, .int .i64 0, .int .i64 0, .int .i64 0, .int .i64 0, .int .i64 0, .int .i64 0, .int .i64 0, .int .i64 0, .int .i64 0, .string ⟨#[]⟩, .int .i64 0, .int .i64 0, .bool false, .int .i64 0, .string ⟨#[]⟩, .int .i64 0, .int .i64 0, .int .i64 0, .int .i64 0, .int .i64 0, .int .i64 0, .slice none 0 0, .bool false, .int .i64 0, .int .i64 0] 46)) w.heap.size #[.int .i64 0, .int .i64 0, .int .i64 0, .int .i64 0, .int .i64 0, .int .i64 0, .int .i64 0, .int .i64 0, .int .i64 0, .int .i64 0, .int .i64 0, .string ⟨#[]⟩, .int .i64 0, .int .i64 0, .bool false, .int .i64 0, .string ⟨#[]⟩, .int .i64 0, .int .i64 0, .int .i64 0, .int .i64 0, .int .i64 0, .int .i64 0, .slice none 0 0, .bool false, .int .i64 0, .int .i64 0] #[.int .i64 0, .int .i64 0, .int .i64 0, .int .i64 0, .int .i64 0, .int .i64 0, .int .i64 0, .int .i64 0, .int .i64 0, .int .i64 0, .int .i64 0, .string ⟨#[]⟩, .int .i64 0, .int .i64 0, .bool false, .int .i64 0, .string ⟨#[]⟩, .int .i64 0, .int .i64 0, .int .i64 0, .int .i64 0, .int .i64 0, .int .i64 0, .slice none 0 0, .bool false, .int .i64 0, .int .i64 0] 46 (0, 0) HG.out
  have hBs := below_setRow HB.out (Nat.le_refl w.heap.size) #[.int .i64 0, .int .i64 0, .int .i64 0, .int .i64 0, .int .i64 0, .int .i64 0, .int .i64 0, .int .i64 0, .int .i64 0, .int .i64 0, .int .i64 0, .string ⟨#[]⟩, .int .i64 0, .int .i64 0, .bool false, .int .i64 0, .string ⟨#[]⟩, .int .i64 0, .int .i64 0, .int .i64 0, .int .i64 0, .int .i64 0, .int .i64 0, .slice none 0 0, .bool false, .int .i64 0, .int .i64 0]
  refine bodyPost_ret (results_cell_row rfl _ _ w.heap.size 46 #[.int .i64 0, .int .i64 0, .int .i64 0, .int .i64 0, .int .i64 0, .int .i64 0, .int .i64 0, .int .i64 0, .int .i64 0, .int .i64 0, .int .i64 0, .string ⟨#[]⟩, .int .i64 0, .int .i64 0, .bool false, .int .i64 0, .string ⟨#[]⟩, .int .i64 0, .int .i64 0, .int .i64 0, .int .i64 0, .int .i64 0, .int .i64 0, .slice none 0 0, .bool false, .int .i64 0, .int .i64 0] (0, 0) _ rfl hS Try.underlying46 rfl isz_msg) rfl ?_
  exact ⟨(⟨0, 0, 0, 0, 0, 0, 0, 0, 0, 0, ⟨#[]⟩, 0, 0, false, 0, ⟨#[]⟩, 0, 0, 0, 0, 0, 0, none, 0, [], false, 0, 0⟩ : P5), 0, rfl, rfl, fun h => (by cases h), fun _ => rfl, ⟨rdE_nil0 _, by simp, Nat.zero_le 2000, Nat.zero_le 2000⟩, hBs⟩
set_option maxRecDepth 100000 in
theorem of15_any (m : MV) (u : Value) (w : World) (h : m.At w u) (hz : m.short) : Calls Try.prog 16 #[u] w fun e w' => OfE m w e w' := by
  cases m with
  | hello w0 l0 => obtain rfl := h; exact of_hello w0 l0 w
  | grant w0 l0 e0 => obtain rfl := h; exact of_grant w0 l0 e0 w
  | stop s q => obtain rfl := h; exact of_stop s q w
  | ask s q h' sq ep tx k b f d wd => obtain rfl := h; exact of_ask s q h' sq ep tx k b f d wd w hz.1 hz.2
  | reply s q h' sq wk ep l en => obtain ⟨a, c, rfl, hr⟩ := h; exact of_reply s q h' sq wk ep l en a c w hr hz
  | other t v => obtain ⟨rfl, h1, h2, h3, h4, h5⟩ := h; exact of_other t v w h1 h2 h3 h4 h5
  | nil => obtain rfl := h; exact of_nil w

end Go.Proofs.Ytjhkdbcfkaaffaa
/- OverBytes, Num; the law MsgLays's walk. -/
namespace Go.Proofs.Ytjhkdbcfkaaffaa
open Go.RowKit
set_option linter.unusedVariables false

set_option maxRecDepth 100000 in
set_option maxHeartbeats 600000 in
theorem over_any (ao : Option Addr) (n c base : Nat) (xs : List Value) (w : World) (hown : w.ownsRow base 5 1 (.slice ao n c) n xs) (hb : base ≤ w.heap.size) (hn9 : n ≤ 1000000000) :
    Calls Try.prog 22 #[.slice ao n c] w fun e w' => e = .returned (.tuple #[]) ∧ w.grownBy w' (Value.ownBlock (.slice ao n c)) := by
  obtain ⟨i0, hi, hz0, hz1, hz2⟩ := info_parts info5
  have HI := Lib.hid hi
  have HZ0 := Lib.hid hz0
  have HZ1 := Lib.hid hz1
  have HZ2 : RowKit.Hid (i0.bytes = 1) := hz2
  have HO := Lib.hid hown
  clear hi hz0 hz1 hz2 hown
  go_enter Try.func22, Try.ntmps22
  go_wp2
  go_loopw [2] (fun i wr => ∃ k : Nat, k ≤ n ∧ i = .int .i64 k ∧ ∃ ys, RowKit.Hid (wr.ownsRow base 5 1 (.slice ao n c) n ys) ∧ RowKit.Hid (w.grownBy wr (Value.ownBlock (.slice ao n c)))) (fun i _ => n - (intOf i).toNat)
  case atStart => exact ⟨0, by omega, rfl, xs, HO.out, World.grownBy.refl _ _⟩
  case round =>
    obtain ⟨k, hk, rfl, ys, HO1, HG1⟩ := hrel
    by_cases hlt : k < n
    · obtain ⟨g, rfl, hg⟩ := ownsRow_some HO1.out (by omega)
      obtain ⟨spare, _, hblk⟩ := ownsRow_blk HO1.out
      have hl : ys.length = n := by simpa using HO1.out.1
      have hc : wr.cell? ⟨g, k, none⟩ = some (ys[k]'(by omega)) := by
        rw [hblk.cell, List.getElem?_append_left (by omega), List.getElem?_eq_getElem (by omega)]
      have hf := hblk.frozen k
      have HS := Lib.hid (HO1.out.stored k (.int .u8 238))
      obtain ⟨v0, hv0⟩ : ∃ v0, v0 = ys[k]'(by omega) := ⟨_, rfl⟩
      rw [← hv0] at hc
      clear hv0 hblk hl
      go_wp2
      go_roundw
      case rel => exact ⟨k + 1, by omega, by go_num, _, HS.out.1, grownBy_trans HG1.out HS.out.2⟩
      case measure => simp [intOf]; omega
    · obtain rfl : k = n := by omega
      have hsz := HG1.out.size
      go_wp2_with (at_builtin; refine wpList_app rfl _ _ 39 39 rfl base 5 i0 (.int .u8 0) 1 1 Try.underlying39 HI.out HZ0.out HZ1.out HZ2.out rfl (by decide) ao k c ys rfl (HO1.out.alloc _) _ 1 _ rfl (Src.one' Try.underlying39 wr _ 5 rfl) (by unfold maxLen; omega) (by omega) (by simp; omega) ?_; intro ao2 c2 w2 hown2 hg2; have HG2 := Lib.hid (grownBy_trans HG1.out (grownBy_trans (grownBy_alloc' _ _ _) hg2)); clear hown2 hg2)
      go_end0
      exact ⟨rfl, HG2.out⟩
set_option maxRecDepth 100000 in
theorem num15_any (x : Int) (w : World) : Calls Try.prog 18 #[.int .i64 x] w fun e w' => e = .returned (.int .i64 x) ∧ w = w' := by
  go_enter Try.func18, Try.ntmps18
  go_wp2
  go_ret
  exact ⟨rfl, rfl⟩
/-- with the items lent -/
def P5.lent (p : P5) (q : Nat) : P5 := { p with ra := some ⟨q, 0, none⟩, rc := p.rl.length + 3 }
set_option maxRecDepth 100000 in
theorem msg_field0 (p : P5) (k : Int) (w : World) : (Instr.field 46 (p.msg k) 0).run Try.prog w = .ok (.int .i64 k) w := by kernel_rfl
set_option maxRecDepth 100000 in
theorem isMsg_no {m : MV} (h : m.isMsg = false) : m.may = false := by cases m <;> first | rfl | simp [MV.isMsg] at h
set_option maxRecDepth 100000 in
theorem great_items {p : P5} (h : p.great = false) : p.rl.length ≤ 80 ∧ ∀ x ∈ p.rl, x.2.size ≤ 100 := by
  unfold P5.great at h
  simp only [Bool.or_eq_false_iff] at h
  exact greatI_false h.2
set_option maxRecDepth 100000 in
set_option maxHeartbeats 16000000 in
theorem lays_law (k : Int) (p : P5) (w : World) (h : p.ok w) (hk : -9223372036854775808 ≤ k ∧ k ≤ 9223372036854775807) :
    Calls Try.prog 3 #[.int .i64 k, .agg #[.int .i64 p.hw, .int .i64 p.hl], .agg #[.int .i64 p.gw, .int .i64 p.gl, .int .i64 p.ge], .agg #[.int .i64 p.ai, .int .i64 p.aq, .int .i64 p.ah, .int .i64 p.an, .int .i64 p.ae, .string p.ax, .int .i64 p.ak, .int .i64 p.ab, .bool p.af, .int .i64 p.ad, .string p.aw], .agg #[.int .i64 p.rs, .int .i64 p.rq, .int .i64 p.rh, .int .i64 p.rn, .int .i64 p.rw, .int .i64 p.re, .slice p.ra p.rl.length p.rc, .bool p.rb], .agg #[.int .i64 p.ss, .int .i64 p.sq]] w fun e w' => e = .returned (.bool true) ∧ Below w.heap.size w w' := by
  have HAW := Lib.hid (fun W => awake_any W)
  have HP := Lib.hid h
  have hcap := h.1.2.1
  have hcm := h.1.2.2.1
  unfold maxLen at hcm
  clear h
  have HB := Lib.hid (show Below w.heap.size w (((((w.alloc (.cells #[.int .i64 p.hw, .int .i64 p.hl] 23)).alloc (.cells #[.int .i64 p.gw, .int .i64 p.gl, .int .i64 p.ge] 25)).alloc (.cells #[.int .i64 p.ai, .int .i64 p.aq, .int .i64 p.ah, .int .i64 p.an, .int .i64 p.ae, .string p.ax, .int .i64 p.ak, .int .i64 p.ab, .bool p.af, .int .i64 p.ad, .string p.aw] 29)).alloc (.cells #[.int .i64 p.rs, .int .i64 p.rq, .int .i64 p.rh, .int .i64 p.rn, .int .i64 p.rw, .int .i64 p.re, .slice p.ra p.rl.length p.rc, .bool p.rb] 32)).alloc (.cells #[.int .i64 p.ss, .int .i64 p.sq] 34)) from (by repeat (first | exact Below.refl _ _ | refine Below.alloc ?_ (by first | (simp; done) | (simp; omega)) _)))
  have HXh := Lib.hid (Blk.alloc (Blk.alloc (Blk.alloc (Blk.alloc (show Blk (w.alloc (.cells #[.int .i64 p.hw, .int .i64 p.hl] 23)) (w.heap.size) 23 [.int .i64 p.hw, .int .i64 p.hl] from by have q := heap_alloc_new w (.cells #[.int .i64 p.hw, .int .i64 p.hl] 23); exact q) (.cells #[.int .i64 p.gw, .int .i64 p.gl, .int .i64 p.ge] 25)) (.cells #[.int .i64 p.ai, .int .i64 p.aq, .int .i64 p.ah, .int .i64 p.an, .int .i64 p.ae, .string p.ax, .int .i64 p.ak, .int .i64 p.ab, .bool p.af, .int .i64 p.ad, .string p.aw] 29)) (.cells #[.int .i64 p.rs, .int .i64 p.rq, .int .i64 p.rh, .int .i64 p.rn, .int .i64 p.rw, .int .i64 p.re, .slice p.ra p.rl.length p.rc, .bool p.rb] 32)) (.cells #[.int .i64 p.ss, .int .i64 p.sq] 34))
  have HXg := Lib.hid (Blk.alloc (Blk.alloc (Blk.alloc (show Blk ((w.alloc (.cells #[.int .i64 p.hw, .int .i64 p.hl] 23)).alloc (.cells #[.int .i64 p.gw, .int .i64 p.gl, .int .i64 p.ge] 25)) (w.heap.size + 1) 25 [.int .i64 p.gw, .int .i64 p.gl, .int .i64 p.ge] from by have q := heap_alloc_new (w.alloc (.cells #[.int .i64 p.hw, .int .i64 p.hl] 23)) (.cells #[.int .i64 p.gw, .int .i64 p.gl, .int .i64 p.ge] 25); rw [show (w.alloc (.cells #[.int .i64 p.hw, .int .i64 p.hl] 23)).heap.size = w.heap.size + 1 from by simp] at q; exact q) (.cells #[.int .i64 p.ai, .int .i64 p.aq, .int .i64 p.ah, .int .i64 p.an, .int .i64 p.ae, .string p.ax, .int .i64 p.ak, .int .i64 p.ab, .bool p.af, .int .i64 p.ad, .string p.aw] 29)) (.cells #[.int .i64 p.rs, .int .i64 p.rq, .int .i64 p.rh, .int .i64 p.rn, .int .i64 p.rw, .int .i64 p.re, .slice p.ra p.rl.length p.rc, .bool p.rb] 32)) (.cells #[.int .i64 p.ss, .int .i64 p.sq] 34))
  have HXa := Lib.hid (Blk.alloc (Blk.alloc (show Blk (((w.alloc (.cells #[.int .i64 p.hw, .int .i64 p.hl] 23)).alloc (.cells #[.int .i64 p.gw, .int .i64 p.gl, .int .i64 p.ge] 25)).alloc (.cells #[.int .i64 p.ai, .int .i64 p.aq, .int .i64 p.ah, .int .i64 p.an, .int .i64 p.ae, .string p.ax, .int .i64 p.ak, .int .i64 p.ab, .bool p.af, .int .i64 p.ad, .string p.aw] 29)) (w.heap.size + 1 + 1) 29 [.int .i64 p.ai, .int .i64 p.aq, .int .i64 p.ah, .int .i64 p.an, .int .i64 p.ae, .string p.ax, .int .i64 p.ak, .int .i64 p.ab, .bool p.af, .int .i64 p.ad, .string p.aw] from by have q := heap_alloc_new ((w.alloc (.cells #[.int .i64 p.hw, .int .i64 p.hl] 23)).alloc (.cells #[.int .i64 p.gw, .int .i64 p.gl, .int .i64 p.ge] 25)) (.cells #[.int .i64 p.ai, .int .i64 p.aq, .int .i64 p.ah, .int .i64 p.an, .int .i64 p.ae, .string p.ax, .int .i64 p.ak, .int .i64 p.ab, .bool p.af, .int .i64 p.ad, .string p.aw] 29); rw [show ((w.alloc (.cells #[.int .i64 p.hw, .int .i64 p.hl] 23)).alloc (.cells #[.int .i64 p.gw, .int .i64 p.gl, .int .i64 p.ge] 25)).heap.size = w.heap.size + 1 + 1 from by simp] at q; exact q) (.cells #[.int .i64 p.rs, .int .i64 p.rq, .int .i64 p.rh, .int .i64 p.rn, .int .i64 p.rw, .int .i64 p.re, .slice p.ra p.rl.length p.rc, .bool p.rb] 32)) (.cells #[.int .i64 p.ss, .int .i64 p.sq] 34))
  have HXr := Lib.hid (Blk.alloc (show Blk ((((w.alloc (.cells #[.int .i64 p.hw, .int .i64 p.hl] 23)).alloc (.cells #[.int .i64 p.gw, .int .i64 p.gl, .int .i64 p.ge] 25)).alloc (.cells #[.int .i64 p.ai, .int .i64 p.aq, .int .i64 p.ah, .int .i64 p.an, .int .i64 p.ae, .string p.ax, .int .i64 p.ak, .int .i64 p.ab, .bool p.af, .int .i64 p.ad, .string p.aw] 29)).alloc (.cells #[.int .i64 p.rs, .int .i64 p.rq, .int .i64 p.rh, .int .i64 p.rn, .int .i64 p.rw, .int .i64 p.re, .slice p.ra p.rl.length p.rc, .bool p.rb] 32)) (w.heap.size + 1 + 1 + 1) 32 [.int .i64 p.rs, .int .i64 p.rq, .int .i64 p.rh, .int .i64 p.rn, .int .i64 p.rw, .int .i64 p.re, .slice p.ra p.rl.length p.rc, .bool p.rb] from by have q := heap_alloc_new (((w.alloc (.cells #[.int .i64 p.hw, .int .i64 p.hl] 23)).alloc (.cells #[.int .i64 p.gw, .int .i64 p.gl, .int .i64 p.ge] 25)).alloc (.cells #[.int .i64 p.ai, .int .i64 p.aq, .int .i64 p.ah, .int .i64 p.an, .int .i64 p.ae, .string p.ax, .int .i64 p.ak, .int .i64 p.ab, .bool p.af, .int .i64 p.ad, .string p.aw] 29)) (.cells #[.int .i64 p.rs, .int .i64 p.rq, .int .i64 p.rh, .int .i64 p.rn, .int .i64 p.rw, .int .i64 p.re, .slice p.ra p.rl.length p.rc, .bool p.rb] 32); rw [show (((w.alloc (.cells #[.int .i64 p.hw, .int .i64 p.hl] 23)).alloc (.cells #[.int .i64 p.gw, .int .i64 p.gl, .int .i64 p.ge] 25)).alloc (.cells #[.int .i64 p.ai, .int .i64 p.aq, .int .i64 p.ah, .int .i64 p.an, .int .i64 p.ae, .string p.ax, .int .i64 p.ak, .int .i64 p.ab, .bool p.af, .int .i64 p.ad, .string p.aw] 29)).heap.size = w.heap.size + 1 + 1 + 1 from by simp] at q; exact q) (.cells #[.int .i64 p.ss, .int .i64 p.sq] 34))
  have HXs := Lib.hid (show Blk (((((w.alloc (.cells #[.int .i64 p.hw, .int .i64 p.hl] 23)).alloc (.cells #[.int .i64 p.gw, .int .i64 p.gl, .int .i64 p.ge] 25)).alloc (.cells #[.int .i64 p.ai, .int .i64 p.aq, .int .i64 p.ah, .int .i64 p.an, .int .i64 p.ae, .string p.ax, .int .i64 p.ak, .int .i64 p.ab, .bool p.af, .int .i64 p.ad, .string p.aw] 29)).alloc (.cells #[.int .i64 p.rs, .int .i64 p.rq, .int .i64 p.rh, .int .i64 p.rn, .int .i64 p.rw, .int .i64 p.re, .slice p.ra p.rl.length p.rc, .bool p.rb] 32)).alloc (.cells #[.int .i64 p.ss, .int .i64 p.sq] 34)) (w.heap.size + 1 + 1 + 1 + 1) 34 [.int .i64 p.ss, .int .i64 p.sq] from by have q := heap_alloc_new ((((w.alloc (.cells #[.int .i64 p.hw, .int .i64 p.hl] 23)).alloc (.cells #[.int .i64 p.gw, .int .i64 p.gl, .int .i64 p.ge] 25)).alloc (.cells #[.int .i64 p.ai, .int .i64 p.aq, .int .i64 p.ah, .int .i64 p.an, .int .i64 p.ae, .string p.ax, .int .i64 p.ak, .int .i64 p.ab, .bool p.af, .int .i64 p.ad, .string p.aw] 29)).alloc (.cells #[.int .i64 p.rs, .int .i64 p.rq, .int .i64 p.rh, .int .i64 p.rn, .int .i64 p.rw, .int .i64 p.re, .slice p.ra p.rl.length p.rc, .bool p.rb] 32)) (.cells #[.int .i64 p.ss, .int .i64 p.sq] 34); rw [show ((((w.alloc (.cells #[.int .i64 p.hw, .int .i64 p.hl] 23)).alloc (.cells #[.int .i64 p.gw, .int .i64 p.gl, .int .i64 p.ge] 25)).alloc (.cells #[.int .i64 p.ai, .int .i64 p.aq, .int .i64 p.ah, .int .i64 p.an, .int .i64 p.ae, .string p.ax, .int .i64 p.ak, .int .i64 p.ab, .bool p.af, .int .i64 p.ad, .string p.aw] 29)).alloc (.cells #[.int .i64 p.rs, .int .i64 p.rq, .int .i64 p.rh, .int .i64 p.rn, .int .i64 p.rw, .int .i64 p.re, .slice p.ra p.rl.length p.rc, .bool p.rb] 32)).heap.size = w.heap.size + 1 + 1 + 1 + 1 from by simp] at q; exact q)
  obtain ⟨W, hW⟩ : ∃ W, (((((w.alloc (.cells #[.int .i64 p.hw, .int .i64 p.hl] 23)).alloc (.cells #[.int .i64 p.gw, .int .i64 p.gl, .int .i64 p.ge] 25)).alloc (.cells #[.int .i64 p.ai, .int .i64 p.aq, .int .i64 p.ah, .int .i64 p.an, .int .i64 p.ae, .string p.ax, .int .i64 p.ak, .int .i64 p.ab, .bool p.af, .int .i64 p.ad, .string p.aw] 29)).alloc (.cells #[.int .i64 p.rs, .int .i64 p.rq, .int .i64 p.rh, .int .i64 p.rn, .int .i64 p.rw, .int .i64 p.re, .slice p.ra p.rl.length p.rc, .bool p.rb] 32)).alloc (.cells #[.int .i64 p.ss, .int .i64 p.sq] 34)) = W := ⟨_, rfl⟩
  rw [hW] at HB HXh HXg HXa HXr HXs
  have th0 : W.cell? ⟨w.heap.size, 0, none⟩ = some (.int .i64 p.hw) := HXh.out.cell 0
  have th1 : W.cell? ⟨w.heap.size, 1, none⟩ = some (.int .i64 p.hl) := HXh.out.cell 1
  have tg0 : W.cell? ⟨w.heap.size + 1, 0, none⟩ = some (.int .i64 p.gw) := HXg.out.cell 0
  have tg1 : W.cell? ⟨w.heap.size + 1, 1, none⟩ = some (.int .i64 p.gl) := HXg.out.cell 1
  have tg2 : W.cell? ⟨w.heap.size + 1, 2, none⟩ = some (.int .i64 p.ge) := HXg.out.cell 2
  have ta0 : W.cell? ⟨w.heap.size + 1 + 1, 0, none⟩ = some (.int .i64 p.ai) := HXa.out.cell 0
  have ta1 : W.cell? ⟨w.heap.size + 1 + 1, 1, none⟩ = some (.int .i64 p.aq) := HXa.out.cell 1
  have ta2 : W.cell? ⟨w.heap.size + 1 + 1, 2, none⟩ = some (.int .i64 p.ah) := HXa.out.cell 2
  have ta3 : W.cell? ⟨w.heap.size + 1 + 1, 3, none⟩ = some (.int .i64 p.an) := HXa.out.cell 3
  have ta4 : W.cell? ⟨w.heap.size + 1 + 1, 4, none⟩ = some (.int .i64 p.ae) := HXa.out.cell 4
  have ta5 : W.cell? ⟨w.heap.size + 1 + 1, 5, none⟩ = some (.string p.ax) := HXa.out.cell 5
  have ta6 : W.cell? ⟨w.heap.size + 1 + 1, 6, none⟩ = some (.int .i64 p.ak) := HXa.out.cell 6
  have ta7 : W.cell? ⟨w.heap.size + 1 + 1, 7, none⟩ = some (.int .i64 p.ab) := HXa.out.cell 7
  have ta8 : W.cell? ⟨w.heap.size + 1 + 1, 8, none⟩ = some (.bool p.af) := HXa.out.cell 8
  have ta9 : W.cell? ⟨w.heap.size + 1 + 1, 9, none⟩ = some (.int .i64 p.ad) := HXa.out.cell 9
  have ta10 : W.cell? ⟨w.heap.size + 1 + 1, 10, none⟩ = some (.string p.aw) := HXa.out.cell 10
  have tr0 : W.cell? ⟨w.heap.size + 1 + 1 + 1, 0, none⟩ = some (.int .i64 p.rs) := HXr.out.cell 0
  have tr1 : W.cell? ⟨w.heap.size + 1 + 1 + 1, 1, none⟩ = some (.int .i64 p.rq) := HXr.out.cell 1
  have tr2 : W.cell? ⟨w.heap.size + 1 + 1 + 1, 2, none⟩ = some (.int .i64 p.rh) := HXr.out.cell 2
  have tr3 : W.cell? ⟨w.heap.size + 1 + 1 + 1, 3, none⟩ = some (.int .i64 p.rn) := HXr.out.cell 3
  have tr4 : W.cell? ⟨w.heap.size + 1 + 1 + 1, 4, none⟩ = some (.int .i64 p.rw) := HXr.out.cell 4
  have tr5 : W.cell? ⟨w.heap.size + 1 + 1 + 1, 5, none⟩ = some (.int .i64 p.re) := HXr.out.cell 5
  have tr6 : W.cell? ⟨w.heap.size + 1 + 1 + 1, 6, none⟩ = some (.slice p.ra p.rl.length p.rc) := HXr.out.cell 6
  have tr7 : W.cell? ⟨w.heap.size + 1 + 1 + 1, 7, none⟩ = some (.bool p.rb) := HXr.out.cell 7
  have ts0 : W.cell? ⟨w.heap.size + 1 + 1 + 1 + 1, 0, none⟩ = some (.int .i64 p.ss) := HXs.out.cell 0
  have ts1 : W.cell? ⟨w.heap.size + 1 + 1 + 1 + 1, 1, none⟩ = some (.int .i64 p.sq) := HXs.out.cell 1
  have HGR := Lib.hid (great_any p W (HP.out.below HB.out))
  go_enter Try.func3, Try.ntmps3
  go_wp2_with (rw [hW])
  clear hW
  refine HGR.out.mono ?_
  rintro e w1 ⟨rfl, hb⟩
  clear HGR
  have HB1 := Lib.hid (HB.out.trans (hb.mono HB.out.size))
  have HXh1 := Lib.hid (HXh.out.below hb HXh.out.lt)
  have HXg1 := Lib.hid (HXg.out.below hb HXg.out.lt)
  have HXa1 := Lib.hid (HXa.out.below hb HXa.out.lt)
  have HXr1 := Lib.hid (HXr.out.below hb HXr.out.lt)
  have HXs1 := Lib.hid (HXs.out.below hb HXs.out.lt)
  clear th0 th1 tg0 tg1 tg2 ta0 ta1 ta2 ta3 ta4 ta5 ta6 ta7 ta8 ta9 ta10 tr0 tr1 tr2 tr3 tr4 tr5 tr6 tr7 ts0 ts1
  clear hb HB HXh HXg HXa HXr HXs
  cases hg : p.great
  rotate_left 1
  · go_wp2_with fail
    refine (HAW.out _).mono ?_
    rintro e w9 ⟨rfl, hb⟩
    have HB9 := Lib.hid (HB1.out.trans (hb.mono HB1.out.size))
    clear hb
    go_wp2_with fail
    go_ret
    exact ⟨rfl, HB9.out⟩
  have HT := Lib.hid (one_tiny (k := k) hg)
  have hl80 := (great_items hg).1
  clear hg
  have tr6 : w1.cell? ⟨w.heap.size + 1 + 1 + 1, 6, none⟩ = some (.slice p.ra p.rl.length p.rc) := HXr1.out.cell 6
  go_wp2_with fail
  refine (lendI_any p.ra p.rl.length p.rc p.rl w1 (HP.out.below HB1.out).1 (by omega)).mono ?_
  rintro e w2 ⟨rfl, hkb, hb⟩
  clear tr6
  obtain ⟨q, hq⟩ : ∃ q, w1.heap.size = q := ⟨_, rfl⟩
  have hqs : w.heap.size + 1 + 1 + 1 + 1 < q := by rw [← hq]; exact HXs1.out.lt
  rw [hq] at hkb ⊢
  have HXh2 := Lib.hid (HXh1.out.below hb HXh1.out.lt)
  have HXg2 := Lib.hid (HXg1.out.below hb HXg1.out.lt)
  have HXa2 := Lib.hid (HXa1.out.below hb HXa1.out.lt)
  have HXr2 := Lib.hid (HXr1.out.below hb HXr1.out.lt)
  have HXs2 := Lib.hid (HXs1.out.below hb HXs1.out.lt)
  have HB2 := Lib.hid (HB1.out.trans (hb.mono HB1.out.size))
  have HK2 := Lib.hid hkb
  clear hb hkb hq HB1 HXh1 HXg1 HXa1 HXr1 HXs1
  have fz := fz_of (o := 6) HXr2.out
  have tr6 : w2.cell? ⟨w.heap.size + 1 + 1 + 1, 6, none⟩ = some (.slice p.ra p.rl.length p.rc) := HXr2.out.cell 6
  obtain ⟨w3, hw3⟩ : ∃ w3, w2.setCell ⟨w.heap.size + 1 + 1 + 1, 6, none⟩ (.slice (some ⟨q, 0, none⟩) p.rl.length (p.rl.length + 3)) = w3 := ⟨_, rfl⟩
  have HXr3 := Lib.hid (show Blk w3 (w.heap.size + 1 + 1 + 1) 32 [.int .i64 p.rs, .int .i64 p.rq, .int .i64 p.rh, .int .i64 p.rn, .int .i64 p.rw, .int .i64 p.re, .slice (some ⟨q, 0, none⟩) p.rl.length (p.rl.length + 3), .bool p.rb] from hw3 ▸ HXr2.out.set 6 (.slice (some ⟨q, 0, none⟩) p.rl.length (p.rl.length + 3)))
  have HXh3 := Lib.hid (show Blk w3 (w.heap.size) 23 [.int .i64 p.hw, .int .i64 p.hl] from hw3 ▸ HXh2.out.far ⟨w.heap.size + 1 + 1 + 1, 6, none⟩ _ (by show w.heap.size ≠ w.heap.size + 1 + 1 + 1; omega))
  have HXg3 := Lib.hid (show Blk w3 (w.heap.size + 1) 25 [.int .i64 p.gw, .int .i64 p.gl, .int .i64 p.ge] from hw3 ▸ HXg2.out.far ⟨w.heap.size + 1 + 1 + 1, 6, none⟩ _ (by show w.heap.size + 1 ≠ w.heap.size + 1 + 1 + 1; omega))
  have HXa3 := Lib.hid (show Blk w3 (w.heap.size + 1 + 1) 29 [.int .i64 p.ai, .int .i64 p.aq, .int .i64 p.ah, .int .i64 p.an, .int .i64 p.ae, .string p.ax, .int .i64 p.ak, .int .i64 p.ab, .bool p.af, .int .i64 p.ad, .string p.aw] from hw3 ▸ HXa2.out.far ⟨w.heap.size + 1 + 1 + 1, 6, none⟩ _ (by show w.heap.size + 1 + 1 ≠ w.heap.size + 1 + 1 + 1; omega))
  have HXs3 := Lib.hid (show Blk w3 (w.heap.size + 1 + 1 + 1 + 1) 34 [.int .i64 p.ss, .int .i64 p.sq] from hw3 ▸ HXs2.out.far ⟨w.heap.size + 1 + 1 + 1, 6, none⟩ _ (by show w.heap.size + 1 + 1 + 1 + 1 ≠ w.heap.size + 1 + 1 + 1; omega))
  have HK3 := Lib.hid (show Blk w3 q 27 (p.rl.flatMap KeyL.cells ++ marksI 3) from hw3 ▸ HK2.out.far ⟨w.heap.size + 1 + 1 + 1, 6, none⟩ _ (by show q ≠ w.heap.size + 1 + 1 + 1; omega))
  have HB3 := Lib.hid (show Below w.heap.size w w3 from hw3 ▸ HB2.out.setCell (show w.heap.size ≤ w.heap.size + 1 + 1 + 1 by omega) _)
  have HQ := Lib.hid hw3
  clear hw3 HB2 HK2 HXh2 HXg2 HXa2 HXr2 HXs2
  have th0 : w3.cell? ⟨w.heap.size, 0, none⟩ = some (.int .i64 p.hw) := HXh3.out.cell 0
  have th1 : w3.cell? ⟨w.heap.size, 1, none⟩ = some (.int .i64 p.hl) := HXh3.out.cell 1
  have tg0 : w3.cell? ⟨w.heap.size + 1, 0, none⟩ = some (.int .i64 p.gw) := HXg3.out.cell 0
  have tg1 : w3.cell? ⟨w.heap.size + 1, 1, none⟩ = some (.int .i64 p.gl) := HXg3.out.cell 1
  have tg2 : w3.cell? ⟨w.heap.size + 1, 2, none⟩ = some (.int .i64 p.ge) := HXg3.out.cell 2
  have ta0 : w3.cell? ⟨w.heap.size + 1 + 1, 0, none⟩ = some (.int .i64 p.ai) := HXa3.out.cell 0
  have ta1 : w3.cell? ⟨w.heap.size + 1 + 1, 1, none⟩ = some (.int .i64 p.aq) := HXa3.out.cell 1
  have ta2 : w3.cell? ⟨w.heap.size + 1 + 1, 2, none⟩ = some (.int .i64 p.ah) := HXa3.out.cell 2
  have ta3 : w3.cell? ⟨w.heap.size + 1 + 1, 3, none⟩ = some (.int .i64 p.an) := HXa3.out.cell 3
  have ta4 : w3.cell? ⟨w.heap.size + 1 + 1, 4, none⟩ = some (.int .i64 p.ae) := HXa3.out.cell 4
  have ta5 : w3.cell? ⟨w.heap.size + 1 + 1, 5, none⟩ = some (.string p.ax) := HXa3.out.cell 5
  have ta6 : w3.cell? ⟨w.heap.size + 1 + 1, 6, none⟩ = some (.int .i64 p.ak) := HXa3.out.cell 6
  have ta7 : w3.cell? ⟨w.heap.size + 1 + 1, 7, none⟩ = some (.int .i64 p.ab) := HXa3.out.cell 7
  have ta8 : w3.cell? ⟨w.heap.size + 1 + 1, 8, none⟩ = some (.bool p.af) := HXa3.out.cell 8
  have ta9 : w3.cell? ⟨w.heap.size + 1 + 1, 9, none⟩ = some (.int .i64 p.ad) := HXa3.out.cell 9
  have ta10 : w3.cell? ⟨w.heap.size + 1 + 1, 10, none⟩ = some (.string p.aw) := HXa3.out.cell 10
  have tr0 : w3.cell? ⟨w.heap.size + 1 + 1 + 1, 0, none⟩ = some (.int .i64 p.rs) := HXr3.out.cell 0
  have tr1 : w3.cell? ⟨w.heap.size + 1 + 1 + 1, 1, none⟩ = some (.int .i64 p.rq) := HXr3.out.cell 1
  have tr2 : w3.cell? ⟨w.heap.size + 1 + 1 + 1, 2, none⟩ = some (.int .i64 p.rh) := HXr3.out.cell 2
  have tr3 : w3.cell? ⟨w.heap.size + 1 + 1 + 1, 3, none⟩ = some (.int .i64 p.rn) := HXr3.out.cell 3
  have tr4 : w3.cell? ⟨w.heap.size + 1 + 1 + 1, 4, none⟩ = some (.int .i64 p.rw) := HXr3.out.cell 4
  have tr5 : w3.cell? ⟨w.heap.size + 1 + 1 + 1, 5, none⟩ = some (.int .i64 p.re) := HXr3.out.cell 5
  have tr6 : w3.cell? ⟨w.heap.size + 1 + 1 + 1, 6, none⟩ = some (.slice (some ⟨q, 0, none⟩) p.rl.length (p.rl.length + 3)) := HXr3.out.cell 6
  have tr7 : w3.cell? ⟨w.heap.size + 1 + 1 + 1, 7, none⟩ = some (.bool p.rb) := HXr3.out.cell 7
  have ts0 : w3.cell? ⟨w.heap.size + 1 + 1 + 1 + 1, 0, none⟩ = some (.int .i64 p.ss) := HXs3.out.cell 0
  have ts1 : w3.cell? ⟨w.heap.size + 1 + 1 + 1 + 1, 1, none⟩ = some (.int .i64 p.sq) := HXs3.out.cell 1
  have HL2 := Lib.hid (show (p.lent q).ok w3 from ⟨Blk.rdE (enc := KeyL.cells) (size := 2) (fun _ => rfl) HK3.out (p.rl.length + 3) (by omega) (by unfold maxLen; omega), HP.out.2⟩)
  have HON := Lib.hid (show Calls Try.prog 13 #[.int .i64 k, .agg #[.int .i64 p.hw, .int .i64 p.hl], .agg #[.int .i64 p.gw, .int .i64 p.gl, .int .i64 p.ge], .agg #[.int .i64 p.ai, .int .i64 p.aq, .int .i64 p.ah, .int .i64 p.an, .int .i64 p.ae, .string p.ax, .int .i64 p.ak, .int .i64 p.ab, .bool p.af, .int .i64 p.ad, .string p.aw], .agg #[.int .i64 p.rs, .int .i64 p.rq, .int .i64 p.rh, .int .i64 p.rn, .int .i64 p.rw, .int .i64 p.re, .slice (some ⟨q, 0, none⟩) p.rl.length (p.rl.length + 3), .bool p.rb], .agg #[.int .i64 p.ss, .int .i64 p.sq]] w3 fun e w' => ∃ u, e = .returned u ∧ (p.one k).At w' u ∧ Below w3.heap.size w3 w' from oneM_any (p.lent q) k w3 HL2.out hk)
  go_wp2_with (rw [HQ.out])
  refine HON.out.mono ?_
  clear HON
  rintro e w4 ⟨u, rfl, hu, hb⟩
  have HU4 := Lib.hid hu
  have HK4 := Lib.hid (HK3.out.below hb HK3.out.lt)
  have HB4 := Lib.hid (HB3.out.trans (hb.mono HB3.out.size))
  clear hu hb HQ HL2 HB3 HK3 fz tr6 HXh3 HXg3 HXa3 HXr3 HXs3 th0 th1 tg0 tg1 tg2 ta0 ta1 ta2 ta3 ta4 ta5 ta6 ta7 ta8 ta9 ta10 tr0 tr1 tr2 tr3 tr4 tr5 tr7 ts0 ts1
  generalize p.one k = mm at *
  have HMY := Lib.hid (fun W (h : mm.At W u) => mmay_any mm u W h HT.out.short.small)
  have HKI := Lib.hid (fun W (h : mm.At W u) => mkind_any mm u W h)
  have HOF := Lib.hid (fun W (h : mm.At W u) => of15_any mm u W h HT.out.short)
  have HBS := Lib.hid HB4.out.size
  cases hm : mm.may
  · have HE := Lib.hid (mencode_no mm u w4 HU4.out HT.out.short.small hm)
    go_wp2_with fail
    refine HE.out.mono ?_
    clear HE
    rintro e w5 ⟨rfl, hb⟩
    have HU5 := Lib.hid (HU4.out.below hb)
    have HK5 := Lib.hid (HK4.out.below hb HK4.out.lt)
    have HB5 := Lib.hid (HB4.out.trans (hb.mono HB4.out.size))
    clear hb
    clear HU4 HK4 HB4
    go_wp2_with fail
    refine (HOF.out _ HU5.out).mono ?_
    rintro e w6 ⟨p6, k6, rfl, hk6, hy6, hn6, hf6, hb⟩
    have hkm6 : (p6.kd k6).may = mm.may := by cases hi : mm.isMsg; (rw [hn6 hi, isMsg_no hi]; rfl); rw [hy6 hi]
    have HU6 := Lib.hid (HU5.out.below hb)
    have HK6 := Lib.hid (HK5.out.below hb HK5.out.lt)
    have HB6 := Lib.hid (HB5.out.trans (hb.mono HB5.out.size))
    clear hb
    clear HU5 HK5 HB5
    have HE := Lib.hid (rencode_no p6 k6 w6 hf6 (hkm6.trans hm))
    clear hk6 hy6 hn6 hf6 hkm6
    go_wp2_with fail
    refine HE.out.mono ?_
    clear HE
    rintro e w7 ⟨rfl, hb⟩
    have HU7 := Lib.hid (HU6.out.below hb)
    have HK7 := Lib.hid (HK6.out.below hb HK6.out.lt)
    have HB7 := Lib.hid (HB6.out.trans (hb.mono HB6.out.size))
    clear hb
    clear HU6 HK6 HB6
    go_wp2_with fail
    refine (sameB_any none 0 0 none 0 0 [] [] w7 (rd_nil _ _ rfl) (rd_nil _ _ rfl)).mono ?_
    rintro e w8 ⟨rfl, hd⟩
    have hb := hd.below w7.heap.size
    rw [eqL_self]
    have HU8 := Lib.hid (HU7.out.below hb)
    have HK8 := Lib.hid (HK7.out.below hb HK7.out.lt)
    have HB8 := Lib.hid (HB7.out.trans (hb.mono HB7.out.size))
    clear hd hb
    clear HU7 HK7 HB7
    go_wp2_with fail
    refine (num15_any _ _).mono ?_
    rintro e w' ⟨rfl, rfl⟩
    go_wp2_with fail
    refine (HMY.out _ HU8.out).mono ?_
    rintro e w9 ⟨rfl, hb⟩
    have HU9 := Lib.hid (HU8.out.below hb)
    have HK9 := Lib.hid (HK8.out.below hb HK8.out.lt)
    have HB9 := Lib.hid (HB8.out.trans (hb.mono HB8.out.size))
    clear hb
    clear HU8 HK8 HB8
    go_wp2_with fail
    refine (HOF.out _ HU9.out).mono ?_
    rintro e w10 ⟨p10, k10, rfl, hk10, hy10, hn10, hf10, hb⟩
    have hkm10 : (p10.kd k10).may = mm.may := by cases hi : mm.isMsg; (rw [hn10 hi, isMsg_no hi]; rfl); rw [hy10 hi]
    have HU10 := Lib.hid (HU9.out.below hb)
    have HK10 := Lib.hid (HK9.out.below hb HK9.out.lt)
    have HB10 := Lib.hid (HB9.out.trans (hb.mono HB9.out.size))
    clear hb
    clear HU9 HK9 HB9
    have HRM := Lib.hid (rmay_any p10 k10 w10 hf10)
    rw [hkm10] at HRM
    clear hk10 hy10 hn10 hf10 hkm10
    go_wp2_with fail
    refine HRM.out.mono ?_
    clear HRM
    rintro e w11 ⟨rfl, hb⟩
    have HU11 := Lib.hid (HU10.out.below hb)
    have HK11 := Lib.hid (HK10.out.below hb HK10.out.lt)
    have HB11 := Lib.hid (HB10.out.trans (hb.mono HB10.out.size))
    clear hb
    clear HU10 HK10 HB10
    rw [hm]
    go_wp2_with fail
    refine (HKI.out _ HU11.out).mono ?_
    rintro e w12 ⟨rfl, hb⟩
    have HU12 := Lib.hid (HU11.out.below hb)
    have HK12 := Lib.hid (HK11.out.below hb HK11.out.lt)
    have HB12 := Lib.hid (HB11.out.trans (hb.mono HB11.out.size))
    clear hb
    clear HU11 HK11 HB11
    go_wp2_with fail
    refine (HOF.out _ HU12.out).mono ?_
    rintro e w13 ⟨p13, k13, rfl, hk13, hy13, hn13, hf13, hb⟩
    have HU13 := Lib.hid (HU12.out.below hb)
    have HK13 := Lib.hid (HK12.out.below hb HK12.out.lt)
    have HB13 := Lib.hid (HB12.out.trans (hb.mono HB12.out.size))
    clear hb hy13 hn13 hf13
    clear HU12 HK12 HB12
    subst hk13
    have hfd := msg_field0 p13 mm.kind w13
    unfold P5.msg at hfd ⊢
    go_wp2_with (rw [hfd])
    clear hfd
    refine (mkind_any (.other 53 (.pointer (some ⟨w.heap.size, 0, none⟩))) _ w13 ⟨rfl, by decide, by decide, by decide, by decide, by decide⟩).mono ?_
    rintro e w14 ⟨rfl, hb⟩
    have HU14 := Lib.hid (HU13.out.below hb)
    have HK14 := Lib.hid (HK13.out.below hb HK13.out.lt)
    have HB14 := Lib.hid (HB13.out.trans (hb.mono HB13.out.size))
    clear hb
    clear HU13 HK13 HB13
    rw [show MV.kind (.other 53 (.pointer (some ⟨w.heap.size, 0, none⟩))) = 0 from rfl]
    go_wp2_with fail
    refine (mmay_any .nil .nilIface w14 rfl trivial).mono ?_
    rintro e w15 ⟨rfl, hb⟩
    have HU15 := Lib.hid (HU14.out.below hb)
    have HK15 := Lib.hid (HK14.out.below hb HK14.out.lt)
    have HB15 := Lib.hid (HB14.out.trans (hb.mono HB14.out.size))
    clear hb
    clear HU14 HK14 HB14
    rw [show MV.may .nil = false from rfl]
    go_wp2_with fail
    refine (over_any none 0 0 w15.heap.size [] w15 (World.ownsRow_nil _ _ _ _) (Nat.le_refl _) (by decide)).mono ?_
    rintro e w16 ⟨rfl, hgr⟩
    have HK16 := Lib.hid (show Blk w16 q 27 (p.rl.flatMap KeyL.cells ++ marksI 3) from (hgr.block q HK15.out.lt (fun e => by cases e)).trans HK15.out)
    have HB16 := Lib.hid (HB15.out.grown hgr HB15.out.size (fun k hk => by cases hk))
    clear hgr HB15 HK15
    go_wp2_with fail
    refine (keptI_any q p.ra p.rl.length p.rc p.rl p.rl w16 (by omega) HK16.out (HP.out.below HB16.out).1).mono ?_
    rintro e w17 ⟨rfl, hd⟩
    have hb := hd.below w16.heap.size
    have HB17 := Lib.hid (HB16.out.trans (hb.mono HB16.out.size))
    clear hd hb
    rw [show eqIs p.rl p.rl = true from by simp [eqIs]]
    go_wp2_with fail
    refine (HAW.out _).mono ?_
    rintro e w9 ⟨rfl, hb⟩
    have HB9 := Lib.hid (HB17.out.trans (hb.mono HB17.out.size))
    clear hb
    go_wp2_with fail
    go_ret
    exact ⟨rfl, HB9.out⟩
  · have HE := Lib.hid (mencode_yes mm u w4 HU4.out HT.out.short hm)
    have hisM := may_isMsg hm
    obtain ⟨fl, hfl⟩ : ∃ fl, encL mm = fl := ⟨_, rfl⟩
    rw [hfl] at HE
    have HLB := Lib.hid (show fl.length ≤ 1024 from by rw [← hfl]; exact enc_size hm HT.out)
    go_wp2_with fail
    refine HE.out.mono ?_
    clear HE
    rintro e w5 ⟨a5, c5, rfl, ho, hb⟩
    have HU5 := Lib.hid (HU4.out.below hb)
    have HK5 := Lib.hid (HK4.out.below hb HK4.out.lt)
    have HB5 := Lib.hid (HB4.out.trans (hb.mono HB4.out.size))
    have HO5 := Lib.hid (own0 ho (Nat.le_trans (show w.heap.size ≤ w4.heap.size from HBS.out) (Nat.le_refl _)))
    clear hb ho
    clear HU4 HK4 HB4
    go_wp2_with fail
    refine (HOF.out _ HU5.out).mono ?_
    rintro e w6 ⟨p6, k6, rfl, hk6, hy6, hn6, hf6, hb⟩
    have hkm6 : (p6.kd k6).may = mm.may := by cases hi : mm.isMsg; (rw [hn6 hi, isMsg_no hi]; rfl); rw [hy6 hi]
    have HU6 := Lib.hid (HU5.out.below hb)
    have HK6 := Lib.hid (HK5.out.below hb HK5.out.lt)
    have HB6 := Lib.hid (HB5.out.trans (hb.mono HB5.out.size))
    have HO6 := Lib.hid (ownsRow_below HO5.out hb)
    clear HO5
    clear hb
    clear HU5 HK5 HB5
    have HE := Lib.hid (rencode_yes p6 k6 w6 hf6 (hkm6.trans hm))
    rw [hy6 hisM, hfl] at HE
    clear hk6 hy6 hn6 hf6 hkm6
    go_wp2_with fail
    refine HE.out.mono ?_
    clear HE
    rintro e w7 ⟨a7, c7, rfl, ho, hb⟩
    have HU7 := Lib.hid (HU6.out.below hb)
    have HK7 := Lib.hid (HK6.out.below hb HK6.out.lt)
    have HB7 := Lib.hid (HB6.out.trans (hb.mono HB6.out.size))
    have HO7 := Lib.hid (ownsRow_below HO6.out hb)
    clear HO6
    have HQ7 := Lib.hid ho
    clear hb ho
    clear HU6 HK6 HB6
    go_wp2_with fail
    refine (sameB_any a5 fl.length c5 a7 fl.length c7 fl fl w7 (ownsRow_rd HO7.out) (ownsRow_rd HQ7.out)).mono ?_
    rintro e w8 ⟨rfl, hd⟩
    have hb := hd.below w7.heap.size
    rw [eqL_self]
    have HU8 := Lib.hid (HU7.out.below hb)
    have HK8 := Lib.hid (HK7.out.below hb HK7.out.lt)
    have HB8 := Lib.hid (HB7.out.trans (hb.mono HB7.out.size))
    have HO8 := Lib.hid (ownsRow_below HO7.out hb)
    clear HO7
    clear hd hb HQ7
    clear HU7 HK7 HB7
    go_wp2_with fail
    refine (num15_any _ _).mono ?_
    rintro e w' ⟨rfl, rfl⟩
    go_wp2_with fail
    refine (HMY.out _ HU8.out).mono ?_
    rintro e w9 ⟨rfl, hb⟩
    have HU9 := Lib.hid (HU8.out.below hb)
    have HK9 := Lib.hid (HK8.out.below hb HK8.out.lt)
    have HB9 := Lib.hid (HB8.out.trans (hb.mono HB8.out.size))
    have HO9 := Lib.hid (ownsRow_below HO8.out hb)
    clear HO8
    clear hb
    clear HU8 HK8 HB8
    go_wp2_with fail
    refine (HOF.out _ HU9.out).mono ?_
    rintro e w10 ⟨p10, k10, rfl, hk10, hy10, hn10, hf10, hb⟩
    have hkm10 : (p10.kd k10).may = mm.may := by cases hi : mm.isMsg; (rw [hn10 hi, isMsg_no hi]; rfl); rw [hy10 hi]
    have HU10 := Lib.hid (HU9.out.below hb)
    have HK10 := Lib.hid (HK9.out.below hb HK9.out.lt)
    have HB10 := Lib.hid (HB9.out.trans (hb.mono HB9.out.size))
    have HO10 := Lib.hid (ownsRow_below HO9.out hb)
    clear HO9
    clear hb
    clear HU9 HK9 HB9
    have HRM := Lib.hid (rmay_any p10 k10 w10 hf10)
    rw [hkm10] at HRM
    clear hk10 hy10 hn10 hf10 hkm10
    go_wp2_with fail
    refine HRM.out.mono ?_
    clear HRM
    rintro e w11 ⟨rfl, hb⟩
    have HU11 := Lib.hid (HU10.out.below hb)
    have HK11 := Lib.hid (HK10.out.below hb HK10.out.lt)
    have HB11 := Lib.hid (HB10.out.trans (hb.mono HB10.out.size))
    have HO11 := Lib.hid (ownsRow_below HO10.out hb)
    clear HO10
    clear hb
    clear HU10 HK10 HB10
    rw [hm]
    go_wp2_with fail
    refine (HKI.out _ HU11.out).mono ?_
    rintro e w12 ⟨rfl, hb⟩
    have HU12 := Lib.hid (HU11.out.below hb)
    have HK12 := Lib.hid (HK11.out.below hb HK11.out.lt)
    have HB12 := Lib.hid (HB11.out.trans (hb.mono HB11.out.size))
    have HO12 := Lib.hid (ownsRow_below HO11.out hb)
    clear HO11
    clear hb
    clear HU11 HK11 HB11
    go_wp2_with fail
    refine (HOF.out _ HU12.out).mono ?_
    rintro e w13 ⟨p13, k13, rfl, hk13, hy13, hn13, hf13, hb⟩
    have HU13 := Lib.hid (HU12.out.below hb)
    have HK13 := Lib.hid (HK12.out.below hb HK12.out.lt)
    have HB13 := Lib.hid (HB12.out.trans (hb.mono HB12.out.size))
    have HO13 := Lib.hid (ownsRow_below HO12.out hb)
    clear HO12
    clear hb hy13 hn13 hf13
    clear HU12 HK12 HB12
    subst hk13
    have hfd := msg_field0 p13 mm.kind w13
    unfold P5.msg at hfd ⊢
    go_wp2_with (rw [hfd])
    clear hfd
    refine (mkind_any (.other 53 (.pointer (some ⟨w.heap.size, 0, none⟩))) _ w13 ⟨rfl, by decide, by decide, by decide, by decide, by decide⟩).mono ?_
    rintro e w14 ⟨rfl, hb⟩
    have HU14 := Lib.hid (HU13.out.below hb)
    have HK14 := Lib.hid (HK13.out.below hb HK13.out.lt)
    have HB14 := Lib.hid (HB13.out.trans (hb.mono HB13.out.size))
    have HO14 := Lib.hid (ownsRow_below HO13.out hb)
    clear HO13
    clear hb
    clear HU13 HK13 HB13
    rw [show MV.kind (.other 53 (.pointer (some ⟨w.heap.size, 0, none⟩))) = 0 from rfl]
    go_wp2_with fail
    refine (mmay_any .nil .nilIface w14 rfl trivial).mono ?_
    rintro e w15 ⟨rfl, hb⟩
    have HU15 := Lib.hid (HU14.out.below hb)
    have HK15 := Lib.hid (HK14.out.below hb HK14.out.lt)
    have HB15 := Lib.hid (HB14.out.trans (hb.mono HB14.out.size))
    have HO15 := Lib.hid (ownsRow_below HO14.out hb)
    clear HO14
    clear hb
    clear HU14 HK14 HB14
    rw [show MV.may .nil = false from rfl]
    go_wp2_with fail
    refine (over_any a5 fl.length c5 _ (u8s fl) w15 HO15.out HB15.out.size (by have := HLB.out; omega)).mono ?_
    rintro e w16 ⟨rfl, hgr⟩
    have HK16 := Lib.hid (show Blk w16 q 27 (p.rl.flatMap KeyL.cells ++ marksI 3) from (hgr.block q HK15.out.lt (fun e => ownsRow_ne HO15.out HK15.out (by decide) q e.symm rfl)).trans HK15.out)
    have HB16 := Lib.hid (HB15.out.grown hgr HB15.out.size (fun k hk => (HO15.out.lt k hk).1))
    clear hgr HO15 HB15 HK15
    go_wp2_with fail
    refine (keptI_any q p.ra p.rl.length p.rc p.rl p.rl w16 (by omega) HK16.out (HP.out.below HB16.out).1).mono ?_
    rintro e w17 ⟨rfl, hd⟩
    have hb := hd.below w16.heap.size
    have HB17 := Lib.hid (HB16.out.trans (hb.mono HB16.out.size))
    clear hd hb
    rw [show eqIs p.rl p.rl = true from by simp [eqIs]]
    go_wp2_with fail
    refine (HAW.out _).mono ?_
    rintro e w9 ⟨rfl, hb⟩
    have HB9 := Lib.hid (HB17.out.trans (hb.mono HB17.out.size))
    clear hb
    go_wp2_with fail
    go_ret
    exact ⟨rfl, HB9.out⟩
end Go.Proofs.Ytjhkdbcfkaaffaa
