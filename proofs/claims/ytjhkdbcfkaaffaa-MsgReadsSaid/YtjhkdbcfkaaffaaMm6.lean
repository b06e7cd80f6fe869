/- msg.Encode at an Ask. -/
import Derived.Test.YtjhkdbcfkaaffaaMm5
namespace Go.Proofs.Ytjhkdbcfkaaffaa
open Go.RowKit
set_option linter.unusedVariables false

set_option maxRecDepth 100000 in
theorem putTextL_len (l : List Nat) (s : ByteArray) (h : s.size ≤ 65535) : (putTextL l s).length = l.length + 2 + s.size := by
  unfold putTextL
  rw [List.length_append, putL_len2, List.length_take, bytesN_length]
  unfold cutN; omega
set_option maxRecDepth 100000 in
theorem itemL_len (l : List Nat) (d : Int) (s : ByteArray) (h : s.size ≤ 65535) : (itemL l d s).length = l.length + 3 + s.size := by
  unfold itemL; rw [putTextL_len _ _ h, putL_len1]
set_option maxRecDepth 100000 in
theorem putTextL_lt (l : List Nat) (s : ByteArray) (h : ∀ x ∈ l, x < 256) : ∀ x ∈ putTextL l s, x < 256 := by
  intro x hx
  rcases List.mem_append.1 hx with h1 | h1
  · exact putL_lt _ _ _ h x h1
  · exact bytesN_lt s x (List.mem_of_mem_take h1)
set_option maxRecDepth 100000 in
theorem itemL_lt (l : List Nat) (d : Int) (s : ByteArray) (h : ∀ x ∈ l, x < 256) : ∀ x ∈ itemL l d s, x < 256 := putTextL_lt _ _ (putL_lt _ _ _ h)
set_option maxRecDepth 100000 in
theorem afterB_in {f : Bool} {d : Int} {wd : ByteArray} (h : afterB f d wd = true) : 0 ≤ d ∧ d ≤ 4 := by
  unfold afterB at h; split at h
  · simp at h; omega
  · simp [itemB] at h; omega
set_option maxRecDepth 100000 in
theorem ask_in {s q h sq ep : Int} {tx : ByteArray} {k b : Int} {f : Bool} {d : Int} {wd : ByteArray} (hm : (MV.ask s q h sq ep tx k b f d wd).may = true) :
    (∀ x ∈ [s, q, h, sq, ep], -9223372036854775808 ≤ x ∧ x ≤ 9223372036854775807) ∧ 0 ≤ d ∧ d ≤ 4 ∧ 0 ≤ k ∧ k ≤ 4 ∧ 1 ≤ b ∧ b ≤ 5 := by
  simp only [MV.may, askB, Bool.and_eq_true, decide_eq_true_eq] at hm
  obtain ⟨⟨⟨⟨⟨⟨⟨h1, h2⟩, h3⟩, h4⟩, h5⟩, h6⟩, h7⟩, h8⟩ := hm
  have p1 := afterB_in h1
  have p2 := placeB_in h2
  have q1 := withinL_in h3 q (by simp)
  have q2 := withinL_in h3 sq (by simp)
  have q3 := withinL_in h3 ep (by simp)
  refine ⟨?_, by omega, by omega, h5, h6, h7, h8⟩
  intro x hx
  simp only [List.mem_cons, List.not_mem_nil, or_false] at hx
  rcases hx with rfl | rfl | rfl | rfl | rfl <;> omega
set_option maxRecDepth 100000 in
set_option maxHeartbeats 8000000 in
theorem mencode_ask (s q h sq ep : Int) (tx : ByteArray) (k b : Int) (f : Bool) (d : Int) (wd : ByteArray) (w : World) (hm : (MV.ask s q h sq ep tx k b f d wd).may = true) (hx : tx.size ≤ 2000) (hy : wd.size ≤ 2000) :
    Calls Try.prog 14 #[.iface 29 (.agg #[.int .i64 s, .int .i64 q, .int .i64 h, .int .i64 sq, .int .i64 ep, .string tx, .int .i64 k, .int .i64 b, .bool f, .int .i64 d, .string wd])] w fun e w' => EncE w (encL (.ask s q h sq ep tx k b f d wd)) e w' := by
  have HM := Lib.hid (mmay_any (.ask s q h sq ep tx k b f d wd) _ w rfl (by constructor <;> (unfold maxLen; omega)))
  have HK := Lib.hid (fun W : World => (show Calls Try.prog 21 #[.iface 29 (.agg #[.int .i64 s, .int .i64 q, .int .i64 h, .int .i64 sq, .int .i64 ep, .string tx, .int .i64 k, .int .i64 b, .bool f, .int .i64 d, .string wd])] W fun e w' => e = .returned (.int .i64 3) ∧ Below W.heap.size W w' from mkind_any (.ask s q h sq ep tx k b f d wd) _ W rfl))
  have HI := Lib.hid (ask_in hm).1
  have hk4 := (ask_in hm).2
  rw [hm] at HM
  clear hm
  obtain ⟨l1, e1⟩ : ∃ l, numsL [0, 0, 3] [s, q, h, sq, ep] = l := ⟨_, rfl⟩
  obtain ⟨l2, e2⟩ : ∃ l, putTextL l1 tx = l := ⟨_, rfl⟩
  obtain ⟨l3, e3⟩ : ∃ l, putL l2 k 1 = l := ⟨_, rfl⟩
  obtain ⟨l4, e4⟩ : ∃ l, putL l3 b 1 = l := ⟨_, rfl⟩
  obtain ⟨l5, e5⟩ : ∃ l, putL l4 (flagN f) 1 = l := ⟨_, rfl⟩
  obtain ⟨bl, e6⟩ : ∃ l, itemL l5 d wd = l := ⟨_, rfl⟩
  have n1 : l1.length = 23 := by rw [← e1, numsL_len]; rfl
  have n2 : l2.length = 25 + tx.size := by rw [← e2, putTextL_len _ _ (by omega), n1]
  have n3 : l3.length = 26 + tx.size := by rw [← e3, putL_len1, n2]; omega
  have n4 : l4.length = 27 + tx.size := by rw [← e4, putL_len1, n3]; omega
  have n5 : l5.length = 28 + tx.size := by rw [← e5, putL_len1, n4]; omega
  have n6 : bl.length = 31 + tx.size + wd.size := by rw [← e6, itemL_len _ _ _ (by omega), n5]; omega
  have HLT := Lib.hid (show ∀ x ∈ bl, x < 256 from by rw [← e6, ← e5, ← e4, ← e3, ← e2, ← e1]; exact itemL_lt _ _ _ (putL_lt _ _ _ (putL_lt _ _ _ (putL_lt _ _ _ (putTextL_lt _ _ (numsL_lt _ _ (by decide)))))))
  have HLL := Lib.hid (show 3 ≤ bl.length ∧ bl.length ≤ 900000 from by omega)
  have EB := Lib.hid (show bl = bodyL (.ask s q h sq ep tx k b f d wd) from by rw [← e6, ← e5, ← e4, ← e3, ← e2, ← e1]; rfl)
  have E1 := Lib.hid e1
  have E2 := Lib.hid e2
  have E3 := Lib.hid e3
  have E4 := Lib.hid e4
  have E5 := Lib.hid e5
  have E6 := Lib.hid e6
  have N1 := Lib.hid (show l1.length ≤ 100000 from by omega)
  have N2 := Lib.hid (show l2.length ≤ 100000 from by omega)
  have N3 := Lib.hid (show l3.length ≤ 100000 from by omega)
  have N4 := Lib.hid (show l4.length ≤ 100000 from by omega)
  have N5 := Lib.hid (show l5.length ≤ 100000 from by omega)
  clear e1 e2 e3 e4 e5 e6 n1 n2 n3 n4 n5 n6
  unfold EncE
  go_enter Try.func14, Try.ntmps14
  go_wp2_with fail
  refine HM.out.mono ?_
  rintro e w1 ⟨rfl, hb⟩
  have HB := Lib.hid hb
  clear hb
  go_wp2_with fail
  refine (HK.out _).mono ?_
  rintro e w2 ⟨rfl, hb⟩
  have HB2 := Lib.hid (HB.out.trans (hb.mono HB.out.size))
  clear hb HB
  have k9 : IntKind.u8.wrap (3 : Int) = 3 := by decide
  go_wp2_with (first | rw [ta_hello_ask] | rw [ta_grant_ask] | rw [ta_ask_ask] | rw [ta_reply_ask] | rw [ta_stop_ask])
  have H0 := Lib.hid (((new_writer w2 w.heap.size 3 HB2.out.size).alloc (.cells #[.int .i64 s, .int .i64 q, .int .i64 h, .int .i64 sq, .int .i64 ep, .string tx, .int .i64 k, .int .i64 b, .bool f, .int .i64 d, .string wd] 29)).alloc (.cells #[.int .i64 s, .int .i64 q, .int .i64 h, .int .i64 sq, .int .i64 ep] 3))
  have hs2 := HB2.out.size
  have hsz : (((w2.alloc (.cells #[.int .u8 0, .int .u8 0, .int .u8 3] 5)).alloc (.cells #[.slice (some ⟨w2.heap.size, 0, none⟩) 3 3] 74)).alloc (.cells #[.int .i64 s, .int .i64 q, .int .i64 h, .int .i64 sq, .int .i64 ep, .string tx, .int .i64 k, .int .i64 b, .bool f, .int .i64 d, .string wd] 29)).heap.size = w2.heap.size + 1 + 1 + 1 := by simp
  have HBL := Lib.hid ((((HB2.out.alloc HB2.out.size (.cells #[.int .u8 0, .int .u8 0, .int .u8 3] 5)).alloc (by first | (simp; done) | (simp; omega)) (.cells #[.slice (some ⟨w2.heap.size, 0, none⟩) 3 3] 74)).alloc (by first | (simp; done) | (simp; omega)) (.cells #[.int .i64 s, .int .i64 q, .int .i64 h, .int .i64 sq, .int .i64 ep, .string tx, .int .i64 k, .int .i64 b, .bool f, .int .i64 d, .string wd] 29)).alloc (by first | (simp; done) | (simp; omega)) (.cells #[.int .i64 s, .int .i64 q, .int .i64 h, .int .i64 sq, .int .i64 ep] 3))
  have HX := Lib.hid ((show Blk (((w2.alloc (.cells #[.int .u8 0, .int .u8 0, .int .u8 3] 5)).alloc (.cells #[.slice (some ⟨w2.heap.size, 0, none⟩) 3 3] 74)).alloc (.cells #[.int .i64 s, .int .i64 q, .int .i64 h, .int .i64 sq, .int .i64 ep, .string tx, .int .i64 k, .int .i64 b, .bool f, .int .i64 d, .string wd] 29)) (w2.heap.size + 1 + 1) 29 [.int .i64 s, .int .i64 q, .int .i64 h, .int .i64 sq, .int .i64 ep, .string tx, .int .i64 k, .int .i64 b, .bool f, .int .i64 d, .string wd] from by have q := heap_alloc_new ((w2.alloc (.cells #[.int .u8 0, .int .u8 0, .int .u8 3] 5)).alloc (.cells #[.slice (some ⟨w2.heap.size, 0, none⟩) 3 3] 74)) (.cells #[.int .i64 s, .int .i64 q, .int .i64 h, .int .i64 sq, .int .i64 ep, .string tx, .int .i64 k, .int .i64 b, .bool f, .int .i64 d, .string wd] 29); rw [show ((w2.alloc (.cells #[.int .u8 0, .int .u8 0, .int .u8 3] 5)).alloc (.cells #[.slice (some ⟨w2.heap.size, 0, none⟩) 3 3] 74)).heap.size = w2.heap.size + 1 + 1 from by simp] at q; exact q).alloc (.cells #[.int .i64 s, .int .i64 q, .int .i64 h, .int .i64 sq, .int .i64 ep] 3))
  obtain ⟨W, hW⟩ : ∃ W, ((((w2.alloc (.cells #[.int .u8 0, .int .u8 0, .int .u8 3] 5)).alloc (.cells #[.slice (some ⟨w2.heap.size, 0, none⟩) 3 3] 74)).alloc (.cells #[.int .i64 s, .int .i64 q, .int .i64 h, .int .i64 sq, .int .i64 ep, .string tx, .int .i64 k, .int .i64 b, .bool f, .int .i64 d, .string wd] 29)).alloc (.cells #[.int .i64 s, .int .i64 q, .int .i64 h, .int .i64 sq, .int .i64 ep] 3)) = W := ⟨_, rfl⟩
  rw [hW] at HX
  have HN := Lib.hid (show Rd W (some ⟨w2.heap.size + 1 + 1 + 1, 0, none⟩) 5 5 (ints [s, q, h, sq, ep]) from by
    have q := new_ints (((w2.alloc (.cells #[.int .u8 0, .int .u8 0, .int .u8 3] 5)).alloc (.cells #[.slice (some ⟨w2.heap.size, 0, none⟩) 3 3] 74)).alloc (.cells #[.int .i64 s, .int .i64 q, .int .i64 h, .int .i64 sq, .int .i64 ep, .string tx, .int .i64 k, .int .i64 b, .bool f, .int .i64 d, .string wd] 29)) [s, q, h, sq, ep] (by simp [maxLen])
    rw [hsz] at q; rw [← hW]; exact q)
  have HZ := Lib.hid (show WAt w.heap.size W (w2.heap.size + 1) [0, 0, 3] from hW ▸ H0.out)
  have HBW := Lib.hid (show Below w.heap.size w W from hW ▸ HBL.out)
  clear H0 HBL
  rw [hW]
  clear hW
  have HC := Lib.hid (wnums_any w.heap.size (w2.heap.size + 1) [0, 0, 3] (some ⟨w2.heap.size + 1 + 1 + 1, 0, none⟩) 5 5 [s, q, h, sq, ep] W HBW.out.size HZ.out (by decide) (by simp) HN.out (by intro b o h; cases h; omega) HI.out)
  rw [E1.out] at HC
  refine HC.out.mono ?_
  clear HC HN HZ
  rintro e V ⟨rfl, hz, hf⟩
  have HZ := Lib.hid hz
  have HBV := Lib.hid (show Below w.heap.size w V from HBW.out.trans (Frm.toBelow hf HBW.out.size (fun i hi hs => by have hs' : i = w2.heap.size + 1 := hs; omega)))
  have HXV := Lib.hid (Blk.frm HX.out hf (fun hh => absurd (show w2.heap.size + 1 + 1 = w2.heap.size + 1 from hh) (by omega)))
  clear hz hf HBW HX
  have HV := Lib.hid (show WAt w.heap.size V.drew (w2.heap.size + 1) l1 from HZ.out)
  have HX1 := Lib.hid (show Blk V.drew (w2.heap.size + 1 + 1) 29 [.int .i64 s, .int .i64 q, .int .i64 h, .int .i64 sq, .int .i64 ep, .string tx, .int .i64 k, .int .i64 b, .bool f, .int .i64 d, .string wd] from HXV.out)
  have HB1 := Lib.hid (show Below w.heap.size w V.drew from HBV.out.drew)
  clear HZ HXV HBV
  obtain ⟨a, c, hk, ho⟩ := HV.out
  have HKG := Lib.hid hk
  have hg := hk.lt
  have t0 : V.drew.cell? ⟨w2.heap.size + 1, 0, none⟩ = some (.slice a l1.length c) := hk.cell 0
  have HP2 := Lib.hid (puttext_any a l1.length c l1 tx V.drew (ownsRow_rd ho) (by have := N1.out; omega) (by omega))
  rw [E2.out] at HP2
  clear hk ho
  go_wp2_with fail
  have hx1 : V.drew.cell? ⟨w2.heap.size + 1 + 1, 5, none⟩ = some (.string tx) := HX1.out.cell 5
  refine wp_region_held_drew (S := (fun w' => w'.cell? ⟨w2.heap.size + 1 + 1, 5, none⟩ = some (.string tx))) (by kernel_rfl) (by first | exact HX1.out.cell 5 | exact HX2.out.cell 5 | exact (Blk.far HX2.out _ _ (show w2.heap.size + 1 + 1 ≠ w2.heap.size + 1 from by omega)).cell 5) (fun hHeld => ?_)
  refine takeO 0 (some 60) (v := ?_) rfl rfl (by kernel_rfl) (by kernel_rfl) (by kernel_rfl) (fun _ _ _ h => h) (Or.inl ⟨by rfl, ?_⟩) (by assumption) ?_
  rotate_left 1
  · intro w hSw; (try dsimp only at hSw); go_simp; all_goals with_reducible rfl
  try simp only [Act.put, List.setIfInBounds_toArray, List.set_cons_zero, List.set_cons_succ]
  refine takeO 1 (some 61) (v := ?_) rfl rfl (by kernel_rfl) (by kernel_rfl) (by kernel_rfl) (fun _ _ _ h => h) (Or.inl ⟨by rfl, ?_⟩) (by assumption) ?_
  rotate_left 1
  · intro w hSw; (try dsimp only at hSw); go_simp; all_goals with_reducible rfl
  try simp only [Act.put, List.setIfInBounds_toArray, List.set_cons_zero, List.set_cons_succ]
  refine takeO 2 (some 62) (v := ?_) rfl rfl (by kernel_rfl) (by kernel_rfl) (by kernel_rfl) (fun _ _ _ h => h) (Or.inl ⟨by rfl, ?_⟩) (by assumption) ?_
  rotate_left 1
  · intro w hSw; (try dsimp only at hSw); go_simp; all_goals with_reducible rfl
  try simp only [Act.put, List.setIfInBounds_toArray, List.set_cons_zero, List.set_cons_succ]
  refine takeO 3 (some 63) (v := ?_) rfl rfl (by kernel_rfl) (by kernel_rfl) (by kernel_rfl) (fun _ _ _ h => h) (Or.inl ⟨by rfl, ?_⟩) (by assumption) ?_
  rotate_left 1
  · intro w hSw; (try dsimp only at hSw); go_simp; all_goals with_reducible rfl
  try simp only [Act.put, List.setIfInBounds_toArray, List.set_cons_zero, List.set_cons_succ]
  refine takeO 5 (some 65) (v := ?_) rfl rfl (by kernel_rfl) (by kernel_rfl) (by kernel_rfl) (fun _ _ _ h => h) (Or.inl ⟨by rfl, ?_⟩) (by assumption) ?_
  rotate_left 1
  · intro w hSw; (try dsimp only at hSw); go_simp; all_goals with_reducible rfl
  try simp only [Act.put, List.setIfInBounds_toArray, List.set_cons_zero, List.set_cons_succ]
  refine takeO 6 (some 66) (v := ?_) rfl rfl (by kernel_rfl) (by kernel_rfl) (by kernel_rfl) (fun _ _ _ h => h) (Or.inl ⟨by rfl, ?_⟩) (by assumption) ?_
  rotate_left 1
  · intro w hSw; (try dsimp only at hSw); go_simp; all_goals with_reducible rfl
  try simp only [Act.put, List.setIfInBounds_toArray, List.set_cons_zero, List.set_cons_succ]
  refine wpAnyH_ready (rs := [4]) (by kernel_rfl) (by simp) ?_
  refine AllReadyH.cons rfl (fun K hK => ?_) AllReadyH.nil
  go_simp
  go_wp2_with fail
  refine hK.out _ _ (by first | exact HX1.out.cell 5 | exact HX2.out.cell 5 | exact (Blk.far HX2.out _ _ (show w2.heap.size + 1 + 1 ≠ w2.heap.size + 1 from by omega)).cell 5) (fun hHeld => ?_)
  clear hK K
  try simp only [Act.put, List.setIfInBounds_toArray, List.set_cons_zero, List.set_cons_succ]
  refine wpAnyH_ready (rs := [7]) (by kernel_rfl) (by simp) ?_
  refine AllReadyH.cons rfl (fun K hK => ?_) AllReadyH.nil
  go_simp
  refine HP2.out.mono ?_; rintro e V2 ⟨ao, c2, rfl, hown, hbel⟩; rw [u8s_length] at hown ⊢; have HO := Lib.hid hown; have HBE := Lib.hid hbel; have HX2 := Lib.hid (Blk.below HX1.out hbel (Blk.lt HX1.out)); have t2 : V2.cell? ⟨w2.heap.size + 1, 0, none⟩ = some (.slice a l1.length c) := (Blk.below HKG.out hbel hg).cell 0; have fz := fz_of (o := 0) (Blk.below HKG.out hbel hg); clear hown hbel
  go_wp2_with fail
  refine hK.out _ _ (by first | exact HX1.out.cell 5 | exact HX2.out.cell 5 | exact (Blk.far HX2.out _ _ (show w2.heap.size + 1 + 1 ≠ w2.heap.size + 1 from by omega)).cell 5) (fun hHeld => ?_)
  clear hK K
  try simp only [Act.put, List.setIfInBounds_toArray, List.set_cons_zero, List.set_cons_succ]
  refine takeO 8 (some 68) (v := ?_) rfl rfl (by kernel_rfl) (by kernel_rfl) (by kernel_rfl) (fun _ _ _ h => h) (Or.inl ⟨by rfl, ?_⟩) (by assumption) ?_
  rotate_left 1
  · intro w hSw; (try dsimp only at hSw); go_simp; all_goals with_reducible rfl
  try simp only [Act.put, List.setIfInBounds_toArray, List.set_cons_zero, List.set_cons_succ]
  refine takeO 9 (some 69) (v := ?_) rfl rfl (by kernel_rfl) (by kernel_rfl) (by kernel_rfl) (fun _ _ _ h => h) (Or.inl ⟨by rfl, ?_⟩) (by assumption) ?_
  rotate_left 1
  · intro w hSw; (try dsimp only at hSw); go_simp; all_goals with_reducible rfl
  try simp only [Act.put, List.setIfInBounds_toArray, List.set_cons_zero, List.set_cons_succ]
  refine wpAnyH_ready (rs := [10]) (by kernel_rfl) (by simp) ?_
  refine AllReadyH.cons rfl (fun K hK => ?_) AllReadyH.nil
  go_simp
  go_wp2_with fail
  refine hK.out _ _ (by first | exact HX1.out.cell 5 | exact HX2.out.cell 5 | exact (Blk.far HX2.out _ _ (show w2.heap.size + 1 + 1 ≠ w2.heap.size + 1 from by omega)).cell 5) (fun hHeld => ?_)
  clear hK K
  try simp only [Act.put, List.setIfInBounds_toArray, List.set_cons_zero, List.set_cons_succ]
  refine wpAnyH_done (by kernel_rfl) ?_ _
  have hst := HV.out.store HB1.out.size HO.out HBE.out
  have HX3 := Lib.hid (Blk.far HX2.out ⟨w2.heap.size + 1, 0, none⟩ (.slice ao l2.length c2) (show w2.heap.size + 1 + 1 ≠ w2.heap.size + 1 from by omega))
  clear HX1 HX2 HKG t0 t2 fz hx1 HP2 HO HBE HV hg
  obtain ⟨V3, hV3⟩ : ∃ V3, V2.setCell ⟨w2.heap.size + 1, 0, none⟩ (.slice ao l2.length c2) = V3 := ⟨_, rfl⟩
  rw [hV3] at hst HX3 ⊢
  clear hV3
  obtain ⟨hz, hf⟩ := hst
  have HZ3 := Lib.hid hz
  have HBV3 := Lib.hid (show Below w.heap.size w V3 from HB1.out.trans (Frm.toBelow hf HB1.out.size (fun i hi hs => by have hs' : i = w2.heap.size + 1 := hs; omega)))
  have HXV3 := HX3
  clear hz hf HB1 HX3
  have HC := Lib.hid (wsmall_any w.heap.size (w2.heap.size + 1) l2 k V3 HBV3.out.size HZ3.out (by have := N2.out; omega) (by omega))
  rw [E3.out] at HC
  have x6 : V3.cell? ⟨w2.heap.size + 1 + 1, 6, none⟩ = some (.int .i64 k) := HXV3.out.cell 6
  go_wp2_with fail
  refine HC.out.mono ?_
  clear HC
  rintro e V4 ⟨rfl, hz, hf⟩
  have HZ4 := Lib.hid hz
  have HBV4 := Lib.hid (show Below w.heap.size w V4 from HBV3.out.trans (Frm.toBelow hf HBV3.out.size (fun i hi hs => by have hs' : i = w2.heap.size + 1 := hs; omega)))
  have HXV4 := Lib.hid (Blk.frm HXV3.out hf (fun hh => absurd (show w2.heap.size + 1 + 1 = w2.heap.size + 1 from hh) (by omega)))
  clear hz hf HBV3 HXV3
  have HC := Lib.hid (wsmall_any w.heap.size (w2.heap.size + 1) l3 b V4 HBV4.out.size HZ4.out (by have := N3.out; omega) (by omega))
  rw [E4.out] at HC
  clear x6
  have x7 : V4.cell? ⟨w2.heap.size + 1 + 1, 7, none⟩ = some (.int .i64 b) := HXV4.out.cell 7
  go_wp2_with fail
  refine HC.out.mono ?_
  clear HC
  rintro e V5 ⟨rfl, hz, hf⟩
  have HZ5 := Lib.hid hz
  have HBV5 := Lib.hid (show Below w.heap.size w V5 from HBV4.out.trans (Frm.toBelow hf HBV4.out.size (fun i hi hs => by have hs' : i = w2.heap.size + 1 := hs; omega)))
  have HXV5 := Lib.hid (Blk.frm HXV4.out hf (fun hh => absurd (show w2.heap.size + 1 + 1 = w2.heap.size + 1 from hh) (by omega)))
  clear hz hf HBV4 HXV4
  have HC := Lib.hid (wflag_any w.heap.size (w2.heap.size + 1) l4 f V5 HBV5.out.size HZ5.out (by have := N4.out; omega))
  rw [E5.out] at HC
  clear x7
  have x8 : V5.cell? ⟨w2.heap.size + 1 + 1, 8, none⟩ = some (.bool f) := HXV5.out.cell 8
  go_wp2_with fail
  refine HC.out.mono ?_
  clear HC
  rintro e V6 ⟨rfl, hz, hf⟩
  have HZ6 := Lib.hid hz
  have HBV6 := Lib.hid (show Below w.heap.size w V6 from HBV5.out.trans (Frm.toBelow hf HBV5.out.size (fun i hi hs => by have hs' : i = w2.heap.size + 1 := hs; omega)))
  have HXV6 := Lib.hid (Blk.frm HXV5.out hf (fun hh => absurd (show w2.heap.size + 1 + 1 = w2.heap.size + 1 from hh) (by omega)))
  clear hz hf HBV5 HXV5
  have HC := Lib.hid (witem_any w.heap.size (w2.heap.size + 1) l5 d wd V6 HBV6.out.size HZ6.out (by have := N5.out; omega) (by omega) (by omega))
  rw [E6.out] at HC
  clear x8
  have x9 : V6.cell? ⟨w2.heap.size + 1 + 1, 9, none⟩ = some (.int .i64 d) := HXV6.out.cell 9
  have x10 : V6.cell? ⟨w2.heap.size + 1 + 1, 10, none⟩ = some (.string wd) := HXV6.out.cell 10
  go_wp2_with fail
  refine HC.out.mono ?_
  clear HC
  rintro e V7 ⟨rfl, hz, hf⟩
  have HZ7 := Lib.hid hz
  have HBV7 := Lib.hid (show Below w.heap.size w V7 from HBV6.out.trans (Frm.toBelow hf HBV6.out.size (fun i hi hs => by have hs' : i = w2.heap.size + 1 := hs; omega)))
  have HXV7 := Lib.hid (Blk.frm HXV6.out hf (fun hh => absurd (show w2.heap.size + 1 + 1 = w2.heap.size + 1 from hh) (by omega)))
  clear hz hf HBV6 HXV6
  clear x9 x10 HXV7
  have HE := Lib.hid (show encL (.ask s q h sq ep tx k b f d wd) = frameL (bodyL (.ask s q h sq ep tx k b f d wd)) from rfl)
  rw [← EB.out] at HE
  generalize hfl : encL (.ask s q h sq ep tx k b f d wd) = fl at HE
  have HQ := Lib.hid hfl
  clear hfl
  obtain ⟨a, c, hk, ho⟩ := HZ7.out
  have HKG := Lib.hid hk
  have HO := Lib.hid ho
  have t0 : V7.cell? ⟨w2.heap.size + 1, 0, none⟩ = some (.slice a bl.length c) := hk.cell 0
  clear hk ho
  go_wp2_with fail
  have HKG' := Lib.hid (show Blk V7.drew (w2.heap.size + 1) 74 [.slice a bl.length c] from HKG.out)
  clear HKG t0
  have HKG := HKG'
  clear HKG'
  have HO' := Lib.hid (show V7.drew.ownsRow w.heap.size 5 1 (.slice a bl.length c) bl.length (u8s bl) from HO.out)
  clear HO
  have HO := HO'
  clear HO'
  have HBV7' := Lib.hid (show Below w.heap.size w V7.drew from HBV7.out.drew)
  clear HBV7
  have HBV7 := HBV7'
  clear HBV7'
  have HPU := Lib.hid (put2_any ((bl.length : Int) + 4) V7.drew (by have := HLL.out; omega))
  have kw : IntKind.i64.wrap ((bl.length : Int) + 4) = (bl.length : Int) + 4 := IntWalk.i64_in _ (by have := HLL.out; omega)
  refine wp_region_held_drew (S := (fun w' => w'.cell? ⟨w2.heap.size + 1, 0, none⟩ = some (.slice a bl.length c))) (by kernel_rfl) (by first | exact HKG.out.cell 0 | exact HK2.out.cell 0 | exact HK3.out.cell 0) (fun hHeld => ?_)
  refine takeO 0 (some 134) (v := ?_) rfl rfl (by kernel_rfl) (by kernel_rfl) (by kernel_rfl) (fun _ _ _ h => h) (Or.inl ⟨by rfl, ?_⟩) (by assumption) ?_
  rotate_left 1
  · intro w hSw; (try dsimp only at hSw); go_simp; all_goals with_reducible rfl
  try simp only [Act.put, List.setIfInBounds_toArray, List.set_cons_zero, List.set_cons_succ]
  refine takeO 1 (some 135) (v := ?_) rfl rfl (by kernel_rfl) (by kernel_rfl) (by kernel_rfl) (fun _ _ _ h => h) (Or.inl ⟨by rfl, ?_⟩) (by assumption) ?_
  rotate_left 1
  · intro w hSw; (try dsimp only at hSw); go_simp; all_goals with_reducible rfl
  try simp only [Act.put, List.setIfInBounds_toArray, List.set_cons_zero, List.set_cons_succ]
  refine takeO 2 (some 136) (v := ?_) rfl rfl (by kernel_rfl) (by kernel_rfl) (by kernel_rfl) (fun _ _ _ h => h) (Or.inl ⟨by rfl, ?_⟩) (by assumption) ?_
  rotate_left 1
  · intro w hSw; (try dsimp only at hSw); go_simp; all_goals with_reducible rfl
  try simp only [Act.put, List.setIfInBounds_toArray, List.set_cons_zero, List.set_cons_succ]
  refine takeO 3 (some 137) (v := ?_) rfl rfl (by kernel_rfl) (by kernel_rfl) (by kernel_rfl) (fun _ _ _ h => h) (Or.inl ⟨by rfl, ?_⟩) (by assumption) ?_
  rotate_left 1
  · intro w hSw; (try dsimp only at hSw); go_simp; all_goals with_reducible rfl
  try simp only [Act.put, List.setIfInBounds_toArray, List.set_cons_zero, List.set_cons_succ]
  refine takeO 4 (some 138) (v := ?_) rfl rfl (by kernel_rfl) (by kernel_rfl) (by kernel_rfl) (fun _ _ _ h => h) (Or.inl ⟨by rfl, ?_⟩) (by assumption) ?_
  rotate_left 1
  · intro w hSw; (try dsimp only at hSw); go_simp; all_goals with_reducible rfl
  try simp only [Act.put, List.setIfInBounds_toArray, List.set_cons_zero, List.set_cons_succ]
  refine takeO 5 (some 139) (v := ?_) rfl rfl (by kernel_rfl) (by kernel_rfl) (by kernel_rfl) (fun _ _ _ h => h) (Or.inl ⟨by rfl, ?_⟩) (by assumption) ?_
  rotate_left 1
  · intro w hSw; (try dsimp only at hSw); go_simp; all_goals with_reducible rfl
  try simp only [Act.put, List.setIfInBounds_toArray, List.set_cons_zero, List.set_cons_succ]
  refine takeO 6 (some 140) (v := ?_) rfl rfl (by kernel_rfl) (by kernel_rfl) (by kernel_rfl) (fun _ _ _ h => h) (Or.inl ⟨by rfl, ?_⟩) (by assumption) ?_
  rotate_left 1
  · intro w hSw; (try dsimp only at hSw); go_simp; all_goals with_reducible rfl
  try simp only [Act.put, List.setIfInBounds_toArray, List.set_cons_zero, List.set_cons_succ]
  refine takeO 7 (some 141) (v := ?_) rfl rfl (by kernel_rfl) (by kernel_rfl) (by kernel_rfl) (fun _ _ _ h => h) (Or.inl ⟨by rfl, ?_⟩) (by assumption) ?_
  rotate_left 1
  · intro w hSw; (try dsimp only at hSw); go_simp; all_goals with_reducible rfl
  try simp only [Act.put, List.setIfInBounds_toArray, List.set_cons_zero, List.set_cons_succ]
  refine takeO 8 (some 142) (v := ?_) rfl rfl (by kernel_rfl) (by kernel_rfl) (by kernel_rfl) (fun _ _ _ h => h) (Or.inl ⟨by rfl, ?_⟩) (by assumption) ?_
  rotate_left 1
  · intro w hSw; (try dsimp only at hSw); go_simp; all_goals with_reducible rfl
  try simp only [Act.put, List.setIfInBounds_toArray, List.set_cons_zero, List.set_cons_succ]
  refine takeO 9 (some 143) (v := ?_) rfl rfl (by kernel_rfl) (by kernel_rfl) (by kernel_rfl) (fun _ _ _ h => h) (Or.inl ⟨by rfl, ?_⟩) (by assumption) ?_
  rotate_left 1
  · intro w hSw; (try dsimp only at hSw); go_simp; all_goals with_reducible rfl
  try simp only [Act.put, List.setIfInBounds_toArray, List.set_cons_zero, List.set_cons_succ]
  refine wpAnyH_ready (rs := [10]) (by kernel_rfl) (by simp) ?_
  refine AllReadyH.cons rfl (fun K hK => ?_) AllReadyH.nil
  go_simp
  refine HPU.out.mono ?_; rintro e V2 ⟨ao, c2, rfl, hown, hbel⟩; have HPO := Lib.hid hown; have HBE := Lib.hid hbel; have HK2 := Lib.hid (Blk.below HKG.out hbel (Blk.lt HKG.out)); clear hown hbel
  go_wp2_with fail
  refine hK.out _ _ (by first | exact HKG.out.cell 0 | exact HK2.out.cell 0 | exact HK3.out.cell 0) (fun hHeld => ?_)
  clear hK K
  try simp only [Act.put, List.setIfInBounds_toArray, List.set_cons_zero, List.set_cons_succ]
  refine wpAnyH_ready (rs := [11]) (by kernel_rfl) (by simp) ?_
  refine AllReadyH.cons rfl (fun K hK => ?_) AllReadyH.nil
  refine step_copyN rfl (.tmp 137) (.tmp 144) 39 39 (some 145) rfl rfl 5 Try.underlying39 isz8 w.heap.size V7.drew.heap.size a ao bl.length c 2 c2 (u8s bl) (u8s (putL [] ((bl.length : Int) + 4) 2)) rfl rfl (ownsRow_below HO.out HBE.out) HPO.out (by decide) (by have := HLL.out; omega) (u8s_one _) ?_
  intro V3 ho3 hf3
  rw [← u8s_drop, ← u8s_append] at ho3
  have HK3 := Lib.hid (Blk.frm HK2.out hf3 (fun hh => ownsRow_ne (ownsRow_below HO.out HBE.out) HK2.out (by decide) _ hh rfl))
  have HB3 := Lib.hid (show Below w.heap.size w V3.drew from ((HBV7.out.trans ((show Below w.heap.size V7.drew V2 from HBE.out.mono HBV7.out.size))).trans (Frm.toBelow hf3 (Nat.le_trans HBV7.out.size HBE.out.size) (fun i hi hh => Nat.lt_irrefl _ (Nat.lt_of_lt_of_le hi (own_ge HO.out _ hh))))).drew)
  have HO3 := Lib.hid (show V3.drew.ownsRow w.heap.size 5 1 (.slice a bl.length c) bl.length _ from ho3)
  clear ho3 hf3 HBE HPO HO
  refine hK.out _ _ (by first | exact HKG.out.cell 0 | exact HK2.out.cell 0 | exact HK3.out.cell 0) (fun hHeld => ?_)
  clear hK K
  try simp only [Act.put, List.setIfInBounds_toArray, List.set_cons_zero, List.set_cons_succ]
  refine wpAnyH_done (by kernel_rfl) ?_ _
  clear HPU HKG HK2 kw
  have HK3' := Lib.hid (show Blk V3.drew (w2.heap.size + 1) 74 [.slice a bl.length c] from HK3.out)
  clear HK3
  have HK3 := HK3'
  clear HK3'
  obtain ⟨cl, hcl⟩ : ∃ cl, putL [] ((bl.length : Int) + 4) 2 ++ bl.drop 2 = cl := ⟨_, rfl⟩
  rw [hcl] at HO3
  have HCL := Lib.hid (show ∀ x ∈ cl, x < 256 from hcl ▸ copied_lt HLT.out)
  have HCN := Lib.hid (show cl.length = bl.length from hcl ▸ copied_len (by have := HLL.out; omega))
  have HF := Lib.hid (show fl = putL cl (addN 0 cl) 4 from hcl ▸ HE.out)
  clear hcl
  have HRD := Lib.hid (ownsRow_rd HO3.out)
  have HSU := Lib.hid (of_any a bl.length c cl V3.drew HCL.out HRD.out)
  have hsl : addN 0 cl < 4294967296 := addN_lt _ _ HCL.out
  have HPL := Lib.hid (putfr_any a bl.length c cl (addN 0 cl) V3.drew HRD.out (by have := HLL.out; omega) (by omega))
  rw [← HF.out] at HPL
  generalize addN 0 cl = sm at *
  have kv : IntKind.i64.wrap (sm : Int) = sm := IntWalk.i64_in _ (by omega)
  go_wp2_with fail
  refine wp_region_held_drew (S := (fun w' => w'.cell? ⟨w2.heap.size + 1, 0, none⟩ = some (.slice a bl.length c))) (by kernel_rfl) (by first | exact HK3.out.cell 0 | exact HK5.out.cell 0) (fun hHeld => ?_)
  refine takeO 0 (some 146) (v := ?_) rfl rfl (by kernel_rfl) (by kernel_rfl) (by kernel_rfl) (fun _ _ _ h => h) (Or.inl ⟨by rfl, ?_⟩) (by assumption) ?_
  rotate_left 1
  · intro w hSw; (try dsimp only at hSw); go_simp; all_goals with_reducible rfl
  try simp only [Act.put, List.setIfInBounds_toArray, List.set_cons_zero, List.set_cons_succ]
  refine takeO 1 (some 147) (v := ?_) rfl rfl (by kernel_rfl) (by kernel_rfl) (by kernel_rfl) (fun _ _ _ h => h) (Or.inl ⟨by rfl, ?_⟩) (by assumption) ?_
  rotate_left 1
  · intro w hSw; (try dsimp only at hSw); go_simp; all_goals with_reducible rfl
  try simp only [Act.put, List.setIfInBounds_toArray, List.set_cons_zero, List.set_cons_succ]
  refine takeO 2 (some 148) (v := ?_) rfl rfl (by kernel_rfl) (by kernel_rfl) (by kernel_rfl) (fun _ _ _ h => h) (Or.inl ⟨by rfl, ?_⟩) (by assumption) ?_
  rotate_left 1
  · intro w hSw; (try dsimp only at hSw); go_simp; all_goals with_reducible rfl
  try simp only [Act.put, List.setIfInBounds_toArray, List.set_cons_zero, List.set_cons_succ]
  refine takeO 3 (some 149) (v := ?_) rfl rfl (by kernel_rfl) (by kernel_rfl) (by kernel_rfl) (fun _ _ _ h => h) (Or.inl ⟨by rfl, ?_⟩) (by assumption) ?_
  rotate_left 1
  · intro w hSw; (try dsimp only at hSw); go_simp; all_goals with_reducible rfl
  try simp only [Act.put, List.setIfInBounds_toArray, List.set_cons_zero, List.set_cons_succ]
  refine takeO 4 (some 150) (v := ?_) rfl rfl (by kernel_rfl) (by kernel_rfl) (by kernel_rfl) (fun _ _ _ h => h) (Or.inl ⟨by rfl, ?_⟩) (by assumption) ?_
  rotate_left 1
  · intro w hSw; (try dsimp only at hSw); go_simp; all_goals with_reducible rfl
  try simp only [Act.put, List.setIfInBounds_toArray, List.set_cons_zero, List.set_cons_succ]
  refine takeO 5 (some 151) (v := ?_) rfl rfl (by kernel_rfl) (by kernel_rfl) (by kernel_rfl) (fun _ _ _ h => h) (Or.inl ⟨by rfl, ?_⟩) (by assumption) ?_
  rotate_left 1
  · intro w hSw; (try dsimp only at hSw); go_simp; all_goals with_reducible rfl
  try simp only [Act.put, List.setIfInBounds_toArray, List.set_cons_zero, List.set_cons_succ]
  refine takeO 6 (some 152) (v := ?_) rfl rfl (by kernel_rfl) (by kernel_rfl) (by kernel_rfl) (fun _ _ _ h => h) (Or.inl ⟨by rfl, ?_⟩) (by assumption) ?_
  rotate_left 1
  · intro w hSw; (try dsimp only at hSw); go_simp; all_goals with_reducible rfl
  try simp only [Act.put, List.setIfInBounds_toArray, List.set_cons_zero, List.set_cons_succ]
  refine takeO 7 (some 153) (v := ?_) rfl rfl (by kernel_rfl) (by kernel_rfl) (by kernel_rfl) (fun _ _ _ h => h) (Or.inl ⟨by rfl, ?_⟩) (by assumption) ?_
  rotate_left 1
  · intro w hSw; (try dsimp only at hSw); go_simp; all_goals with_reducible rfl
  try simp only [Act.put, List.setIfInBounds_toArray, List.set_cons_zero, List.set_cons_succ]
  refine wpAnyH_ready (rs := [8]) (by kernel_rfl) (by simp) ?_
  refine AllReadyH.cons rfl (fun K hK => ?_) AllReadyH.nil
  go_simp
  refine HSU.out.mono ?_; rintro e V4 ⟨rfl, rfl⟩
  go_wp2_with fail
  refine hK.out _ _ (by first | exact HK3.out.cell 0 | exact HK5.out.cell 0) (fun hHeld => ?_)
  clear hK K
  try simp only [Act.put, List.setIfInBounds_toArray, List.set_cons_zero, List.set_cons_succ]
  refine takeO 9 (some 155) (v := ?_) rfl rfl (by kernel_rfl) (by kernel_rfl) (by kernel_rfl) (fun _ _ _ h => h) (Or.inl ⟨by rfl, ?_⟩) (by assumption) ?_
  rotate_left 1
  · intro w hSw; (try dsimp only at hSw); go_simp; all_goals with_reducible rfl
  try simp only [Act.put, List.setIfInBounds_toArray, List.set_cons_zero, List.set_cons_succ]
  refine wpAnyH_ready (rs := [10]) (by kernel_rfl) (by simp) ?_
  refine AllReadyH.cons rfl (fun K hK => ?_) AllReadyH.nil
  go_simp
  refine HPL.out.mono ?_; rintro e V5 ⟨ao, c2, rfl, hown, hbel⟩; have HPO := Lib.hid hown; have HBE := Lib.hid hbel; have HK5 := Lib.hid (Blk.below HK3.out hbel (Blk.lt HK3.out)); clear hown hbel
  go_wp2_with fail
  refine hK.out _ _ (by first | exact HK3.out.cell 0 | exact HK5.out.cell 0) (fun hHeld => ?_)
  clear hK K
  try simp only [Act.put, List.setIfInBounds_toArray, List.set_cons_zero, List.set_cons_succ]
  refine takeO 11 (some 2) (v := ?_) rfl rfl (by kernel_rfl) (by kernel_rfl) (by kernel_rfl) (fun _ _ _ h => h) (Or.inl ⟨by rfl, ?_⟩) (by assumption) ?_
  rotate_left 1
  · intro w hSw; (try dsimp only at hSw); go_simp; all_goals with_reducible rfl
  try simp only [Act.put, List.setIfInBounds_toArray, List.set_cons_zero, List.set_cons_succ]
  refine takeO 12 (some 3) (v := ?_) rfl rfl (by kernel_rfl) (by kernel_rfl) (by kernel_rfl) (fun _ _ _ h => h) (Or.inl ⟨by rfl, ?_⟩) (by assumption) ?_
  rotate_left 1
  · intro w hSw; (try dsimp only at hSw); go_simp; all_goals with_reducible rfl
  try simp only [Act.put, List.setIfInBounds_toArray, List.set_cons_zero, List.set_cons_succ]
  refine wpAnyH_done (by kernel_rfl) ?_ _
  go_wp2_with fail
  go_ret2
  rw [HQ.out]
  exact ⟨ao, c2, rfl, own0 HPO.out HB3.out.size, HB3.out.trans (HBE.out.mono HB3.out.size)⟩
end Go.Proofs.Ytjhkdbcfkaaffaa
