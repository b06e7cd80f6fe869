/- msg.ask, msg.reply: which Asks and Replies may be. -/
import Derived.Test.YtjhkdbcfkaaffaaMm0
import Derived.Test.YtjhkdbcfkaaffaaRank1
import Derived.Test.YtjhkdbcfkaaffaaHand
import Derived.Deep.Cut
import Derived.Deep.CutRange
import Derived.IntWalk
namespace Go.Proofs.Ytjhkdbcfkaaffaa
open Go.RowKit
set_option linter.unusedVariables false

/-- may a text be asked for? -/
def askedB (s : ByteArray) : Bool := decide (0 ≤ tLen s) && decide (tLen s ≤ 16)
set_option maxRecDepth 100000 in
theorem asked_any (s : ByteArray) (w : World) (hs : s.size ≤ maxLen) :
    Calls Try.prog 67 #[.string s] w fun e w' => e = .returned (.bool (askedB s)) ∧ Below w.heap.size w w' := by
  unfold askedB
  have H := Lib.hid (len_any s w hs)
  generalize tLen s = z at *
  by_cases h1 : 0 ≤ z
  · have d1 : decide (0 ≤ z) = true := by simp; omega
    rw [d1]
    go_enter Try.func67, Try.ntmps67
    go_wp2_with fail
    refine (H.out).mono ?_
    rintro e w' ⟨rfl, hb⟩
    go_wp2_with fail
    go_ret
    exact ⟨by simp, hb⟩
  · have d1 : decide (0 ≤ z) = false := by simp; omega
    rw [d1]
    go_enter Try.func67, Try.ntmps67
    go_wp2_with fail
    refine (H.out).mono ?_
    rintro e w' ⟨rfl, hb⟩
    go_wp2_with fail
    go_ret
    exact ⟨by simp, hb⟩
set_option maxRecDepth 100000 in
theorem eqI_run (x y : KeyL) (W : World) : (binOp .eql 27 (.agg #[.int .i64 x.1, .string x.2]) (.agg #[.int .i64 y.1, .string y.2])).run Try.prog W = .ok (.bool (decide (x = y))) W := by
  obtain ⟨lx, tx⟩ := x
  obtain ⟨ly, ty⟩ := y
  by_cases heq : lx = ly ∧ tx = ty
  · obtain ⟨rfl, rfl⟩ := heq
    have ht : (tx.toList == tx.toList) = true := by simp
    have hl : (lx == lx) = true := by simp
    have hd : decide ((lx, tx) = (lx, tx)) = true := decide_eq_true rfl
    rw [hd]
    go_simp
  · have hd : decide ((lx, tx) = (ly, ty)) = false := decide_eq_false (fun e => heq (Prod.mk.inj e))
    rw [hd]
    by_cases hl : lx = ly
    · have ht := str_ne (fun e => heq ⟨hl, e⟩)
      subst hl
      have hl : (lx == lx) = true := by simp
      clear heq
      go_simp
    · have hl' : (lx == ly) = false := by simpa using hl
      clear heq
      go_simp
set_option maxRecDepth 100000 in
theorem new_ints (w : World) (l : List Int) (h : l.length ≤ maxLen) : Rd (w.alloc (.cells (ints l).toArray 3)) (some ⟨w.heap.size, 0, none⟩) l.length l.length (ints l) := by
  have hb : Blk (w.alloc (.cells (ints l).toArray 3)) w.heap.size 3 (ints l) := heap_alloc_new w _
  exact hb.rd _ _ _ (ints_len l) (Nat.le_refl _) h (fun i _ => rfl)
def afterB (f : Bool) (d : Int) (wd : ByteArray) : Bool := if f = true then decide ((d, wd) = ((0 : Int), (⟨#[]⟩ : ByteArray))) else itemB (d, wd)
def askB (s q h sq ep : Int) (tx : ByteArray) (k b : Int) (f : Bool) (d : Int) (wd : ByteArray) : Bool := afterB f d wd && placeB s h && withinL [q, sq, ep] && askedB tx && decide (0 ≤ k) && decide (k ≤ 4) && decide (1 ≤ b) && decide (b ≤ 5)
set_option maxRecDepth 100000 in
set_option maxHeartbeats 8000000 in
theorem mask_any (s q h sq ep : Int) (tx : ByteArray) (k b : Int) (f : Bool) (d : Int) (wd : ByteArray) (w : World) (h1 : tx.size ≤ maxLen) (h2 : wd.size ≤ maxLen) :
    Calls Try.prog 46 #[.agg #[.int .i64 s, .int .i64 q, .int .i64 h, .int .i64 sq, .int .i64 ep, .string tx, .int .i64 k, .int .i64 b, .bool f, .int .i64 d, .string wd]] w fun e w' => e = .returned (.bool (askB s q h sq ep tx k b f d wd)) ∧ Below w.heap.size w w' := by
  obtain ⟨R, hR⟩ : ∃ R, askB s q h sq ep tx k b f d wd = R := ⟨_, rfl⟩
  rw [hR]
  unfold askB at hR
  have HRL := Lib.hid hR
  clear hR
  have HB := Lib.hid ((Below.refl _ w).alloc (Nat.le_refl _) (.cells #[.int .i64 s, .int .i64 q, .int .i64 h, .int .i64 sq, .int .i64 ep, .string tx, .int .i64 k, .int .i64 b, .bool f, .int .i64 d, .string wd] 29))
  have HK := Lib.hid (show Blk (w.alloc (.cells #[.int .i64 s, .int .i64 q, .int .i64 h, .int .i64 sq, .int .i64 ep, .string tx, .int .i64 k, .int .i64 b, .bool f, .int .i64 d, .string wd] 29)) w.heap.size 29 [.int .i64 s, .int .i64 q, .int .i64 h, .int .i64 sq, .int .i64 ep, .string tx, .int .i64 k, .int .i64 b, .bool f, .int .i64 d, .string wd] from heap_alloc_new w _)
  obtain ⟨W, hW⟩ : ∃ W, w.alloc (.cells #[.int .i64 s, .int .i64 q, .int .i64 h, .int .i64 sq, .int .i64 ep, .string tx, .int .i64 k, .int .i64 b, .bool f, .int .i64 d, .string wd] 29) = W := ⟨_, rfl⟩
  rw [hW] at HB HK
  have HI := Lib.hid (fun V => mitem_any (d, wd) V h2)
  have HP := Lib.hid (fun V => place_any s h V)
  have HA := Lib.hid (fun V => asked_any tx V h1)
  have HWI := Lib.hid (fun V a c hr => within_any a 3 c [q, sq, ep] V hr)
  have heq := eqI_run (d, wd) ((0 : Int), (⟨#[]⟩ : ByteArray))
  have HAF := Lib.hid (show afterB f d wd = (if f = true then decide ((d, wd) = ((0 : Int), (⟨#[]⟩ : ByteArray))) else itemB (d, wd)) from rfl)
  generalize afterB f d wd = af at *
  generalize decide ((d, wd) = ((0 : Int), (⟨#[]⟩ : ByteArray))) = ez at *
  generalize itemB (d, wd) = ib at *
  generalize placeB s h = pb at *
  generalize askedB tx = ab at *
  generalize withinL [q, sq, ep] = wb at *
  clear h1 h2
  have t0 : W.cell? ⟨w.heap.size, 0, none⟩ = some (.int .i64 s) := HK.out.cell 0
  have t1 : W.cell? ⟨w.heap.size, 1, none⟩ = some (.int .i64 q) := HK.out.cell 1
  have t2 : W.cell? ⟨w.heap.size, 2, none⟩ = some (.int .i64 h) := HK.out.cell 2
  have t3 : W.cell? ⟨w.heap.size, 3, none⟩ = some (.int .i64 sq) := HK.out.cell 3
  have t4 : W.cell? ⟨w.heap.size, 4, none⟩ = some (.int .i64 ep) := HK.out.cell 4
  have t5 : W.cell? ⟨w.heap.size, 5, none⟩ = some (.string tx) := HK.out.cell 5
  have t6 : W.cell? ⟨w.heap.size, 6, none⟩ = some (.int .i64 k) := HK.out.cell 6
  have t7 : W.cell? ⟨w.heap.size, 7, none⟩ = some (.int .i64 b) := HK.out.cell 7
  have t8 : W.cell? ⟨w.heap.size, 8, none⟩ = some (.bool f) := HK.out.cell 8
  have t9 : W.cell? ⟨w.heap.size, 9, none⟩ = some (.int .i64 d) := HK.out.cell 9
  have t10 : W.cell? ⟨w.heap.size, 10, none⟩ = some (.string wd) := HK.out.cell 10
  go_enter Try.func46, Try.ntmps46
  go_wp2_with (rw [hW])
  clear hW
  refine (HI.out _).mono ?_
  rintro e V1 ⟨rfl, hb⟩
  clear t0 t1 t2 t3 t4 t5 t6 t7 t8 t9 t10
  have ZZ := Lib.hid (HB.out.trans ((hb).mono HB.out.size))
  clear HB
  have HB := ZZ
  clear ZZ
  have ZZ := Lib.hid (HK.out.below hb HK.out.lt)
  clear HK
  have HK := ZZ
  clear ZZ
  clear hb HI
  have t0 : V1.cell? ⟨w.heap.size, 0, none⟩ = some (.int .i64 s) := HK.out.cell 0
  have t1 : V1.cell? ⟨w.heap.size, 1, none⟩ = some (.int .i64 q) := HK.out.cell 1
  have t2 : V1.cell? ⟨w.heap.size, 2, none⟩ = some (.int .i64 h) := HK.out.cell 2
  have t3 : V1.cell? ⟨w.heap.size, 3, none⟩ = some (.int .i64 sq) := HK.out.cell 3
  have t4 : V1.cell? ⟨w.heap.size, 4, none⟩ = some (.int .i64 ep) := HK.out.cell 4
  have t5 : V1.cell? ⟨w.heap.size, 5, none⟩ = some (.string tx) := HK.out.cell 5
  have t6 : V1.cell? ⟨w.heap.size, 6, none⟩ = some (.int .i64 k) := HK.out.cell 6
  have t7 : V1.cell? ⟨w.heap.size, 7, none⟩ = some (.int .i64 b) := HK.out.cell 7
  have t8 : V1.cell? ⟨w.heap.size, 8, none⟩ = some (.bool f) := HK.out.cell 8
  have t9 : V1.cell? ⟨w.heap.size, 9, none⟩ = some (.int .i64 d) := HK.out.cell 9
  have t10 : V1.cell? ⟨w.heap.size, 10, none⟩ = some (.string wd) := HK.out.cell 10
  cases f
  · obtain rfl : af = ib := by rw [HAF.out]; rfl
    clear HAF
    cases af
    · obtain rfl : R = false := by rw [← HRL.out]; simp
      go_wp2_with fail
      go_ret
      exact ⟨rfl, HB.out⟩
    go_wp2_with fail
    refine (HP.out _).mono ?_
    rintro e V2 ⟨rfl, rfl⟩
    cases pb
    · obtain rfl : R = false := by rw [← HRL.out]; simp
      go_wp2_with fail
      go_ret
      exact ⟨rfl, HB.out⟩
    have HAL := Lib.hid ((Below.refl _ V1).alloc (Nat.le_refl _) (.cells #[.int .i64 q, .int .i64 sq, .int .i64 ep] 3))
    have HNI := Lib.hid (show Rd (V1.alloc (.cells #[.int .i64 q, .int .i64 sq, .int .i64 ep] 3)) (some ⟨V1.heap.size, 0, none⟩) 3 3 (ints [q, sq, ep]) from new_ints V1 [q, sq, ep] (by simp [maxLen]))
    have ZZ := Lib.hid (HB.out.trans ((HAL.out).mono HB.out.size))
    clear HB
    have HB := ZZ
    clear ZZ
    have ZZ := Lib.hid (HK.out.below HAL.out HK.out.lt)
    clear HK
    have HK := ZZ
    clear ZZ
    go_wp2_with fail
    refine (HWI.out _ _ _ HNI.out).mono ?_
    rintro e V3 ⟨rfl, rfl⟩
    clear HNI HAL t0 t1 t2 t3 t4 t5 t6 t7 t8 t9 t10
    obtain ⟨V4, hV4⟩ : ∃ V, V1.alloc (.cells #[.int .i64 q, .int .i64 sq, .int .i64 ep] 3) = V := ⟨_, rfl⟩
    rw [hV4] at HB HK ⊢
    clear hV4
    have t0 : V4.cell? ⟨w.heap.size, 0, none⟩ = some (.int .i64 s) := HK.out.cell 0
    have t1 : V4.cell? ⟨w.heap.size, 1, none⟩ = some (.int .i64 q) := HK.out.cell 1
    have t2 : V4.cell? ⟨w.heap.size, 2, none⟩ = some (.int .i64 h) := HK.out.cell 2
    have t3 : V4.cell? ⟨w.heap.size, 3, none⟩ = some (.int .i64 sq) := HK.out.cell 3
    have t4 : V4.cell? ⟨w.heap.size, 4, none⟩ = some (.int .i64 ep) := HK.out.cell 4
    have t5 : V4.cell? ⟨w.heap.size, 5, none⟩ = some (.string tx) := HK.out.cell 5
    have t6 : V4.cell? ⟨w.heap.size, 6, none⟩ = some (.int .i64 k) := HK.out.cell 6
    have t7 : V4.cell? ⟨w.heap.size, 7, none⟩ = some (.int .i64 b) := HK.out.cell 7
    have t8 : V4.cell? ⟨w.heap.size, 8, none⟩ = some (.bool false) := HK.out.cell 8
    have t9 : V4.cell? ⟨w.heap.size, 9, none⟩ = some (.int .i64 d) := HK.out.cell 9
    have t10 : V4.cell? ⟨w.heap.size, 10, none⟩ = some (.string wd) := HK.out.cell 10
    cases wb
    · obtain rfl : R = false := by rw [← HRL.out]; simp
      go_wp2_with fail
      go_ret
      exact ⟨rfl, HB.out⟩
    go_wp2_with fail
    refine (HA.out _).mono ?_
    rintro e V5 ⟨rfl, hb⟩
    clear t0 t1 t2 t3 t4 t5 t6 t7 t8 t9 t10
    have ZZ := Lib.hid (HB.out.trans ((hb).mono HB.out.size))
    clear HB
    have HB := ZZ
    clear ZZ
    have ZZ := Lib.hid (HK.out.below hb HK.out.lt)
    clear HK
    have HK := ZZ
    clear ZZ
    clear hb
    have t0 : V5.cell? ⟨w.heap.size, 0, none⟩ = some (.int .i64 s) := HK.out.cell 0
    have t1 : V5.cell? ⟨w.heap.size, 1, none⟩ = some (.int .i64 q) := HK.out.cell 1
    have t2 : V5.cell? ⟨w.heap.size, 2, none⟩ = some (.int .i64 h) := HK.out.cell 2
    have t3 : V5.cell? ⟨w.heap.size, 3, none⟩ = some (.int .i64 sq) := HK.out.cell 3
    have t4 : V5.cell? ⟨w.heap.size, 4, none⟩ = some (.int .i64 ep) := HK.out.cell 4
    have t5 : V5.cell? ⟨w.heap.size, 5, none⟩ = some (.string tx) := HK.out.cell 5
    have t6 : V5.cell? ⟨w.heap.size, 6, none⟩ = some (.int .i64 k) := HK.out.cell 6
    have t7 : V5.cell? ⟨w.heap.size, 7, none⟩ = some (.int .i64 b) := HK.out.cell 7
    have t8 : V5.cell? ⟨w.heap.size, 8, none⟩ = some (.bool false) := HK.out.cell 8
    have t9 : V5.cell? ⟨w.heap.size, 9, none⟩ = some (.int .i64 d) := HK.out.cell 9
    have t10 : V5.cell? ⟨w.heap.size, 10, none⟩ = some (.string wd) := HK.out.cell 10
    cases ab
    · obtain rfl : R = false := by rw [← HRL.out]; simp
      go_wp2_with fail
      go_ret
      exact ⟨rfl, HB.out⟩
    by_cases he1 : 0 ≤ k
    rotate_left
    · have e1 : decide (0 ≤ k) = false := by simpa using he1
      obtain rfl : R = false := by rw [← HRL.out, e1]; simp
      go_wp2_with fail
      go_ret
      exact ⟨rfl, HB.out⟩
    have e1 : decide (0 ≤ k) = true := by simpa using he1
    by_cases he2 : k ≤ 4
    rotate_left
    · have e2 : decide (k ≤ 4) = false := by simpa using he2
      obtain rfl : R = false := by rw [← HRL.out, e2]; simp
      go_wp2_with fail
      go_ret
      exact ⟨rfl, HB.out⟩
    have e2 : decide (k ≤ 4) = true := by simpa using he2
    by_cases he3 : 1 ≤ b
    rotate_left
    · have e3 : decide (1 ≤ b) = false := by simpa using he3
      obtain rfl : R = false := by rw [← HRL.out, e3]; simp
      go_wp2_with fail
      go_ret
      exact ⟨rfl, HB.out⟩
    have e3 : decide (1 ≤ b) = true := by simpa using he3
    by_cases he4 : b ≤ 5
    rotate_left
    · have e4 : decide (b ≤ 5) = false := by simpa using he4
      obtain rfl : R = false := by rw [← HRL.out, e4]; simp
      go_wp2_with fail
      go_ret
      exact ⟨rfl, HB.out⟩
    have e4 : decide (b ≤ 5) = true := by simpa using he4
    obtain rfl : R = true := by rw [← HRL.out, e1, e2, e3, e4]; rfl
    go_wp2_with fail
    go_ret
    exact ⟨rfl, HB.out⟩
  · obtain rfl : af = ez := by rw [HAF.out]; rfl
    clear HAF
    cases af
    · obtain rfl : R = false := by rw [← HRL.out]; simp
      go_wp2_with fail
      go_ret
      exact ⟨rfl, HB.out⟩
    go_wp2_with fail
    refine (HP.out _).mono ?_
    rintro e V2 ⟨rfl, rfl⟩
    cases pb
    · obtain rfl : R = false := by rw [← HRL.out]; simp
      go_wp2_with fail
      go_ret
      exact ⟨rfl, HB.out⟩
    have HAL := Lib.hid ((Below.refl _ V1).alloc (Nat.le_refl _) (.cells #[.int .i64 q, .int .i64 sq, .int .i64 ep] 3))
    have HNI := Lib.hid (show Rd (V1.alloc (.cells #[.int .i64 q, .int .i64 sq, .int .i64 ep] 3)) (some ⟨V1.heap.size, 0, none⟩) 3 3 (ints [q, sq, ep]) from new_ints V1 [q, sq, ep] (by simp [maxLen]))
    have ZZ := Lib.hid (HB.out.trans ((HAL.out).mono HB.out.size))
    clear HB
    have HB := ZZ
    clear ZZ
    have ZZ := Lib.hid (HK.out.below HAL.out HK.out.lt)
    clear HK
    have HK := ZZ
    clear ZZ
    go_wp2_with fail
    refine (HWI.out _ _ _ HNI.out).mono ?_
    rintro e V3 ⟨rfl, rfl⟩
    clear HNI HAL t0 t1 t2 t3 t4 t5 t6 t7 t8 t9 t10
    obtain ⟨V4, hV4⟩ : ∃ V, V1.alloc (.cells #[.int .i64 q, .int .i64 sq, .int .i64 ep] 3) = V := ⟨_, rfl⟩
    rw [hV4] at HB HK ⊢
    clear hV4
    have t0 : V4.cell? ⟨w.heap.size, 0, none⟩ = some (.int .i64 s) := HK.out.cell 0
    have t1 : V4.cell? ⟨w.heap.size, 1, none⟩ = some (.int .i64 q) := HK.out.cell 1
    have t2 : V4.cell? ⟨w.heap.size, 2, none⟩ = some (.int .i64 h) := HK.out.cell 2
    have t3 : V4.cell? ⟨w.heap.size, 3, none⟩ = some (.int .i64 sq) := HK.out.cell 3
    have t4 : V4.cell? ⟨w.heap.size, 4, none⟩ = some (.int .i64 ep) := HK.out.cell 4
    have t5 : V4.cell? ⟨w.heap.size, 5, none⟩ = some (.string tx) := HK.out.cell 5
    have t6 : V4.cell? ⟨w.heap.size, 6, none⟩ = some (.int .i64 k) := HK.out.cell 6
    have t7 : V4.cell? ⟨w.heap.size, 7, none⟩ = some (.int .i64 b) := HK.out.cell 7
    have t8 : V4.cell? ⟨w.heap.size, 8, none⟩ = some (.bool true) := HK.out.cell 8
    have t9 : V4.cell? ⟨w.heap.size, 9, none⟩ = some (.int .i64 d) := HK.out.cell 9
    have t10 : V4.cell? ⟨w.heap.size, 10, none⟩ = some (.string wd) := HK.out.cell 10
    cases wb
    · obtain rfl : R = false := by rw [← HRL.out]; simp
      go_wp2_with fail
      go_ret
      exact ⟨rfl, HB.out⟩
    go_wp2_with fail
    refine (HA.out _).mono ?_
    rintro e V5 ⟨rfl, hb⟩
    clear t0 t1 t2 t3 t4 t5 t6 t7 t8 t9 t10
    have ZZ := Lib.hid (HB.out.trans ((hb).mono HB.out.size))
    clear HB
    have HB := ZZ
    clear ZZ
    have ZZ := Lib.hid (HK.out.below hb HK.out.lt)
    clear HK
    have HK := ZZ
    clear ZZ
    clear hb
    have t0 : V5.cell? ⟨w.heap.size, 0, none⟩ = some (.int .i64 s) := HK.out.cell 0
    have t1 : V5.cell? ⟨w.heap.size, 1, none⟩ = some (.int .i64 q) := HK.out.cell 1
    have t2 : V5.cell? ⟨w.heap.size, 2, none⟩ = some (.int .i64 h) := HK.out.cell 2
    have t3 : V5.cell? ⟨w.heap.size, 3, none⟩ = some (.int .i64 sq) := HK.out.cell 3
    have t4 : V5.cell? ⟨w.heap.size, 4, none⟩ = some (.int .i64 ep) := HK.out.cell 4
    have t5 : V5.cell? ⟨w.heap.size, 5, none⟩ = some (.string tx) := HK.out.cell 5
    have t6 : V5.cell? ⟨w.heap.size, 6, none⟩ = some (.int .i64 k) := HK.out.cell 6
    have t7 : V5.cell? ⟨w.heap.size, 7, none⟩ = some (.int .i64 b) := HK.out.cell 7
    have t8 : V5.cell? ⟨w.heap.size, 8, none⟩ = some (.bool true) := HK.out.cell 8
    have t9 : V5.cell? ⟨w.heap.size, 9, none⟩ = some (.int .i64 d) := HK.out.cell 9
    have t10 : V5.cell? ⟨w.heap.size, 10, none⟩ = some (.string wd) := HK.out.cell 10
    cases ab
    · obtain rfl : R = false := by rw [← HRL.out]; simp
      go_wp2_with fail
      go_ret
      exact ⟨rfl, HB.out⟩
    by_cases he1 : 0 ≤ k
    rotate_left
    · have e1 : decide (0 ≤ k) = false := by simpa using he1
      obtain rfl : R = false := by rw [← HRL.out, e1]; simp
      go_wp2_with fail
      go_ret
      exact ⟨rfl, HB.out⟩
    have e1 : decide (0 ≤ k) = true := by simpa using he1
    by_cases he2 : k ≤ 4
    rotate_left
    · have e2 : decide (k ≤ 4) = false := by simpa using he2
      obtain rfl : R = false := by rw [← HRL.out, e2]; simp
      go_wp2_with fail
      go_ret
      exact ⟨rfl, HB.out⟩
    have e2 : decide (k ≤ 4) = true := by simpa using he2
    by_cases he3 : 1 ≤ b
    rotate_left
    · have e3 : decide (1 ≤ b) = false := by simpa using he3
      obtain rfl : R = false := by rw [← HRL.out, e3]; simp
      go_wp2_with fail
      go_ret
      exact ⟨rfl, HB.out⟩
    have e3 : decide (1 ≤ b) = true := by simpa using he3
    by_cases he4 : b ≤ 5
    rotate_left
    · have e4 : decide (b ≤ 5) = false := by simpa using he4
      obtain rfl : R = false := by rw [← HRL.out, e4]; simp
      go_wp2_with fail
      go_ret
      exact ⟨rfl, HB.out⟩
    have e4 : decide (b ≤ 5) = true := by simpa using he4
    obtain rfl : R = true := by rw [← HRL.out, e1, e2, e3, e4]; rfl
    go_wp2_with fail
    go_ret
    exact ⟨rfl, HB.out⟩
/-- the first items may stand in a Reply -/
def itOK (l : List KeyL) : Nat → Bool
  | 0 => true
  | n + 1 => itOK l n && (match l[n]? with
    | some x => itemB x && (match n with
      | 0 => true
      | m + 1 => match l[m]? with
        | some y => kless y x
        | none => true)
    | none => true)
set_option maxRecDepth 100000 in
theorem itOK_zero {l : List KeyL} {x : KeyL} (h : l[0]? = some x) : itOK l 1 = itemB x := by
  unfold itOK
  rw [h]
  simp [itOK]
set_option maxRecDepth 100000 in
theorem itOK_succ {l : List KeyL} {m : Nat} {x y : KeyL} (h : l[m + 1]? = some x) (hy : l[m]? = some y) : itOK l (m + 1 + 1) = (itOK l (m + 1) && (itemB x && kless y x)) := by
  conv => lhs; unfold itOK
  rw [h]
  simp only
  rw [hy]
set_option maxRecDepth 100000 in
theorem itOK_no {l : List KeyL} {k : Nat} (h : itOK l k = false) : ∀ n, k ≤ n → itOK l n = false
  | 0, hk => by obtain rfl : k = 0 := by omega
                exact h
  | n + 1, hk => by
    by_cases e : k = n + 1
    · rw [← e]; exact h
    · unfold itOK
      rw [itOK_no h n (by omega)]
      rfl
def replyB (s q h sq wk ep : Int) (l : List KeyL) : Bool := itOK l l.length && decide (l.length ≤ 5) && placeB s h && withinL [q, sq, ep] && workerB wk
set_option maxRecDepth 100000 in
theorem mless_any (x y : KeyL) (w : World) : Calls Try.prog 68 #[.agg #[.int .i64 x.1, .string x.2], .agg #[.int .i64 y.1, .string y.2]] w fun e w' => e = .returned (.bool (kless x y)) ∧ Below w.heap.size w w' := itless_any x.1 x.2 y.1 y.2 w
def RpR (w : World) (l : List KeyL) (v : Value) (wr : World) : Prop := ∃ i : Nat, i ≤ l.length ∧ v = .int .i64 i ∧ RowKit.Hid (itOK l i = true) ∧ RowKit.Hid (Below w.heap.size w wr)
set_option maxRecDepth 100000 in
set_option maxHeartbeats 8000000 in
theorem mreply_any (s q h sq wk ep : Int) (a : Option Addr) (c : Nat) (l : List KeyL) (en : Bool) (w : World) (hr : RdE KeyL.cells 2 w a l.length c l) (hz : ∀ x ∈ l, x.2.size ≤ maxLen) :
    Calls Try.prog 47 #[.agg #[.int .i64 s, .int .i64 q, .int .i64 h, .int .i64 sq, .int .i64 wk, .int .i64 ep, .slice a l.length c, .bool en]] w fun e w' => e = .returned (.bool (replyB s q h sq wk ep l)) ∧ Below w.heap.size w w' := by
  obtain ⟨R, hR⟩ : ∃ R, replyB s q h sq wk ep l = R := ⟨_, rfl⟩
  rw [hR]
  unfold replyB at hR
  have HRL := Lib.hid hR
  clear hR
  have hcap := hr.2.1
  have hcm := hr.2.2.1
  unfold maxLen at hcm
  have HB := Lib.hid ((Below.refl _ w).alloc (Nat.le_refl _) (.cells #[.int .i64 s, .int .i64 q, .int .i64 h, .int .i64 sq, .int .i64 wk, .int .i64 ep, .slice a l.length c, .bool en] 32))
  have HK := Lib.hid (show Blk (w.alloc (.cells #[.int .i64 s, .int .i64 q, .int .i64 h, .int .i64 sq, .int .i64 wk, .int .i64 ep, .slice a l.length c, .bool en] 32)) w.heap.size 32 [.int .i64 s, .int .i64 q, .int .i64 h, .int .i64 sq, .int .i64 wk, .int .i64 ep, .slice a l.length c, .bool en] from heap_alloc_new w _)
  obtain ⟨W, hW⟩ : ∃ W, w.alloc (.cells #[.int .i64 s, .int .i64 q, .int .i64 h, .int .i64 sq, .int .i64 wk, .int .i64 ep, .slice a l.length c, .bool en] 32) = W := ⟨_, rfl⟩
  rw [hW] at HB HK
  have HX := Lib.hid (hr.below HB.out rfl)
  have HZ := Lib.hid hz
  clear hr hz
  have HP := Lib.hid (fun V => place_any s h V)
  have HWK := Lib.hid (fun V => worker_any wk V)
  have HWI := Lib.hid (fun V a c hr => within_any a 3 c [q, sq, ep] V hr)
  generalize placeB s h = pb at *
  generalize workerB wk = kb at *
  generalize withinL [q, sq, ep] = wb at *
  have t0 : W.cell? ⟨w.heap.size, 0, none⟩ = some (.int .i64 s) := HK.out.cell 0
  have t1 : W.cell? ⟨w.heap.size, 1, none⟩ = some (.int .i64 q) := HK.out.cell 1
  have t2 : W.cell? ⟨w.heap.size, 2, none⟩ = some (.int .i64 h) := HK.out.cell 2
  have t3 : W.cell? ⟨w.heap.size, 3, none⟩ = some (.int .i64 sq) := HK.out.cell 3
  have t4 : W.cell? ⟨w.heap.size, 4, none⟩ = some (.int .i64 wk) := HK.out.cell 4
  have t5 : W.cell? ⟨w.heap.size, 5, none⟩ = some (.int .i64 ep) := HK.out.cell 5
  have t6 : W.cell? ⟨w.heap.size, 6, none⟩ = some (.slice a l.length c) := HK.out.cell 6
  have t7 : W.cell? ⟨w.heap.size, 7, none⟩ = some (.bool en) := HK.out.cell 7
  have HBZ := Lib.hid (Below.refl W.heap.size W)
  go_enter Try.func47, Try.ntmps47
  go_wp2_with (rw [hW])
  clear hW
  go_loopw [8] (fun v wr => RpR W l v wr) (fun v _ => l.length - (intOf v).toNat)
  case atStart => exact ⟨0, by omega, rfl, rfl, HBZ.out⟩
  case round =>
    clear HBZ t0 t1 t2 t3 t4 t5 t6 t7
    obtain ⟨i, hi, rfl, HT, HBL⟩ := hrel
    have ZZ := Lib.hid (HB.out.trans ((HBL.out).mono HB.out.size))
    clear HB
    have HB := ZZ
    clear ZZ
    have ZZ := Lib.hid (HK.out.below HBL.out HK.out.lt)
    clear HK
    have HK := ZZ
    clear ZZ
    have ZZ := Lib.hid (HX.out.below HBL.out rfl)
    clear HX
    have HX := ZZ
    clear ZZ
    by_cases hlt : i < l.length
    · obtain ⟨x, hx⟩ : ∃ x, l[i]? = some x := ⟨_, List.getElem?_eq_getElem hlt⟩
      have HMI := Lib.hid (fun V => mitem_any x V (HZ.out x (List.mem_of_getElem? hx)))
      obtain ⟨bb, ob, rfl, hbb, hcx⟩ := HX.out.2.2.2.2 i x hx
      have x0 : wr.cell? ⟨bb, ob + i * 2, none⟩ = some (.int .i64 x.1) := hcx 0 (by decide)
      have x1 : wr.cell? ⟨bb, ob + i * 2 + 1, none⟩ = some (.string x.2) := hcx 1 (by decide)
      have k1 : (0 : Int) ≤ (i : Int) := by omega
      have k2 : (i : Int) < (l.length : Int) := by omega
      have HXI := Lib.hid hx
      have HAL := Lib.hid ((Below.refl _ wr).alloc (Nat.le_refl _) (.cells #[.int .i64 x.1, .string x.2] 27))
      have HPX := Lib.hid (show Blk (wr.alloc (.cells #[.int .i64 x.1, .string x.2] 27)) wr.heap.size 27 [.int .i64 x.1, .string x.2] from heap_alloc_new wr _)
      clear hx hcx
      have ZZ := Lib.hid (HB.out.trans ((HAL.out).mono HB.out.size))
      clear HB
      have HB := ZZ
      clear ZZ
      have ZZ := Lib.hid (HK.out.below HAL.out HK.out.lt)
      clear HK
      have HK := ZZ
      clear ZZ
      have ZZ := Lib.hid (HX.out.below HAL.out rfl)
      clear HX
      have HX := ZZ
      clear ZZ
      have HBL2 := Lib.hid (HBL.out.trans (HAL.out.mono HBL.out.size))
      clear HAL HBL
      go_upto_region 4 with fail
      obtain ⟨V, hV⟩ : ∃ V, wr.alloc (.cells #[.int .i64 x.1, .string x.2] 27) = V := ⟨_, rfl⟩
      rw [hV] at HPX HB HK HX HBL2 ⊢
      clear hV x0 x1
      obtain ⟨px, hpx⟩ : ∃ p, wr.heap.size = p := ⟨_, rfl⟩
      rw [hpx] at HPX ⊢
      clear hpx
      have HGB : RowKit.Hid (Below V.heap.size V V.drew) := below_drewN (Below.refl _ _) 1
      cases hib : itemB x
      · rw [hib] at HMI
        obtain rfl : R = false := by
          rw [← HRL.out]
          have h1 : itOK l (i + 1) = false := by
            cases i with
            | zero => rw [itOK_zero HXI.out, hib]
            | succ m =>
              obtain ⟨y, hy⟩ : ∃ y, l[m]? = some y := ⟨_, List.getElem?_eq_getElem (by omega)⟩
              rw [itOK_succ HXI.out hy, hib]; simp
          rw [itOK_no h1 l.length (by omega)]; rfl
        clear hib
        refine wp_region_held_drew (S := (fun w' => w'.cell? ⟨px, 0, none⟩ = some (.int .i64 x.1) ∧ w'.cell? ⟨px, 1, none⟩ = some (.string x.2))) (by kernel_rfl) (by exact ⟨(Blk.below HPX.out HGB.out (Blk.lt HPX.out)).cell 0, (Blk.below HPX.out HGB.out (Blk.lt HPX.out)).cell 1⟩) (fun hHeld => ?_)
        refine takeO 0 (some 13) (v := ?_) rfl rfl (by kernel_rfl) (by kernel_rfl) (by kernel_rfl) (fun _ _ _ h => h) (Or.inl ⟨by rfl, ?_⟩) (by assumption) ?_
        rotate_left 1
        · intro w hSw; (try dsimp only at hSw); go_simp; all_goals with_reducible rfl
        try simp only [Act.put, List.setIfInBounds_toArray, List.set_cons_zero, List.set_cons_succ]
        refine wpAnyH_ready (rs := [1]) (by kernel_rfl) (by simp) ?_
        refine AllReadyH.cons rfl (fun K hK => ?_) AllReadyH.nil
        go_simp
        go_at_call 66; (with_reducible refine (HMI.out _).mono ?_); rintro e u1 ⟨rfl, hb⟩; have HSN := Lib.hid (HGB.out.trans (hb.mono HGB.out.size)); clear HGB; have HGB := HSN; clear HSN; clear hb
        go_wp2_with fail
        refine hK.out _ _ (by exact ⟨(Blk.below HPX.out HGB.out (Blk.lt HPX.out)).cell 0, (Blk.below HPX.out HGB.out (Blk.lt HPX.out)).cell 1⟩) (fun hHeld => ?_)
        clear hK K
        try simp only [Act.put, List.setIfInBounds_toArray, List.set_cons_zero, List.set_cons_succ]
        refine takeO 2 (some 15) (v := ?_) rfl rfl (by kernel_rfl) (by kernel_rfl) (by kernel_rfl) (fun _ _ _ h => h) (Or.inl ⟨by rfl, ?_⟩) (by assumption) ?_
        rotate_left 1
        · intro w hSw; (try dsimp only at hSw); go_simp; all_goals with_reducible rfl
        try simp only [Act.put, List.setIfInBounds_toArray, List.set_cons_zero, List.set_cons_succ]
        refine takeO 3 (some 16) (v := ?_) rfl rfl (by kernel_rfl) (by kernel_rfl) (by kernel_rfl) (fun _ _ _ h => h) (Or.inl ⟨by rfl, ?_⟩) (by assumption) ?_
        rotate_left 1
        · intro w hSw; (try dsimp only at hSw); go_simp; all_goals with_reducible rfl
        try simp only [Act.put, List.setIfInBounds_toArray, List.set_cons_zero, List.set_cons_succ]
        refine takeO 4 (some 17) (v := undef) rfl rfl (by kernel_rfl) (by kernel_rfl) (by kernel_rfl) (fun _ _ _ h => h) (Or.inr ⟨by rfl, rfl⟩) (by assumption) ?_
        try simp only [Act.put, List.setIfInBounds_toArray, List.set_cons_zero, List.set_cons_succ]
        refine takeO 5 (some 18) (v := undef) rfl rfl (by kernel_rfl) (by kernel_rfl) (by kernel_rfl) (fun _ _ _ h => h) (Or.inr ⟨by rfl, rfl⟩) (by assumption) ?_
        try simp only [Act.put, List.setIfInBounds_toArray, List.set_cons_zero, List.set_cons_succ]
        refine takeO 6 (some 19) (v := undef) rfl rfl (by kernel_rfl) (by kernel_rfl) (by kernel_rfl) (fun _ _ _ h => h) (Or.inr ⟨by rfl, rfl⟩) (by assumption) ?_
        try simp only [Act.put, List.setIfInBounds_toArray, List.set_cons_zero, List.set_cons_succ]
        refine takeO 7 (some 20) (v := undef) rfl rfl (by kernel_rfl) (by kernel_rfl) (by kernel_rfl) (fun _ _ _ h => h) (Or.inr ⟨by rfl, rfl⟩) (by assumption) ?_
        try simp only [Act.put, List.setIfInBounds_toArray, List.set_cons_zero, List.set_cons_succ]
        refine takeO 8 (some 21) (v := undef) rfl rfl (by kernel_rfl) (by kernel_rfl) (by kernel_rfl) (fun _ _ _ h => h) (Or.inr ⟨by rfl, rfl⟩) (by assumption) ?_
        try simp only [Act.put, List.setIfInBounds_toArray, List.set_cons_zero, List.set_cons_succ]
        refine takeO 9 (some 22) (v := undef) rfl rfl (by kernel_rfl) (by kernel_rfl) (by kernel_rfl) (fun _ _ _ h => h) (Or.inr ⟨by rfl, rfl⟩) (by assumption) ?_
        try simp only [Act.put, List.setIfInBounds_toArray, List.set_cons_zero, List.set_cons_succ]
        refine takeO 10 (some 23) (v := undef) rfl rfl (by kernel_rfl) (by kernel_rfl) (by kernel_rfl) (fun _ _ _ h => h) (Or.inr ⟨by rfl, rfl⟩) (by assumption) ?_
        try simp only [Act.put, List.setIfInBounds_toArray, List.set_cons_zero, List.set_cons_succ]
        refine takeO 11 (some 24) (v := undef) rfl rfl (by kernel_rfl) (by kernel_rfl) (by kernel_rfl) (fun _ _ _ h => h) (Or.inr ⟨by rfl, rfl⟩) (by assumption) ?_
        try simp only [Act.put, List.setIfInBounds_toArray, List.set_cons_zero, List.set_cons_succ]
        refine takeO 12 (some 25) (v := undef) rfl rfl (by kernel_rfl) (by kernel_rfl) (by kernel_rfl) (fun _ _ _ h => h) (Or.inr ⟨by rfl, rfl⟩) (by assumption) ?_
        try simp only [Act.put, List.setIfInBounds_toArray, List.set_cons_zero, List.set_cons_succ]
        refine takeO 13 (some 26) (v := undef) rfl rfl (by kernel_rfl) (by kernel_rfl) (by kernel_rfl) (fun _ _ _ h => h) (Or.inr ⟨by rfl, rfl⟩) (by assumption) ?_
        try simp only [Act.put, List.setIfInBounds_toArray, List.set_cons_zero, List.set_cons_succ]
        refine takeO 14 (some 27) (v := undef) rfl rfl (by kernel_rfl) (by kernel_rfl) (by kernel_rfl) (fun _ _ _ h => h) (Or.inr ⟨by rfl, rfl⟩) (by assumption) ?_
        try simp only [Act.put, List.setIfInBounds_toArray, List.set_cons_zero, List.set_cons_succ]
        refine takeO 15 (some 28) (v := undef) rfl rfl (by kernel_rfl) (by kernel_rfl) (by kernel_rfl) (fun _ _ _ h => h) (Or.inr ⟨by rfl, rfl⟩) (by assumption) ?_
        try simp only [Act.put, List.setIfInBounds_toArray, List.set_cons_zero, List.set_cons_succ]
        refine takeO 16 (some 29) (v := undef) rfl rfl (by kernel_rfl) (by kernel_rfl) (by kernel_rfl) (fun _ _ _ h => h) (Or.inr ⟨by rfl, rfl⟩) (by assumption) ?_
        try simp only [Act.put, List.setIfInBounds_toArray, List.set_cons_zero, List.set_cons_succ]
        refine takeO 17 (some 30) (v := ?_) rfl rfl (by kernel_rfl) (by kernel_rfl) (by kernel_rfl) (fun _ _ _ h => h) (Or.inl ⟨by rfl, ?_⟩) (by assumption) ?_
        rotate_left 1
        · intro w hSw; (try dsimp only at hSw); go_simp; all_goals with_reducible rfl
        try simp only [Act.put, List.setIfInBounds_toArray, List.set_cons_zero, List.set_cons_succ]
        refine wpAnyH_done (by kernel_rfl) ?_ _
        have HBE := Lib.hid (HB.out.trans (HGB.out.mono HB.out.size))
        go_wp2_with fail
        go_ret
        exact ⟨rfl, HBE.out⟩
      rw [hib] at HMI
      by_cases hi0 : i = 0
      · subst hi0
        have HT2 := Lib.hid (show itOK l 1 = true from by rw [itOK_zero HXI.out, hib])
        clear hib
        refine wp_region_held_drew (S := (fun w' => w'.cell? ⟨px, 0, none⟩ = some (.int .i64 x.1) ∧ w'.cell? ⟨px, 1, none⟩ = some (.string x.2))) (by kernel_rfl) (by exact ⟨(Blk.below HPX.out HGB.out (Blk.lt HPX.out)).cell 0, (Blk.below HPX.out HGB.out (Blk.lt HPX.out)).cell 1⟩) (fun hHeld => ?_)
        refine takeO 0 (some 13) (v := ?_) rfl rfl (by kernel_rfl) (by kernel_rfl) (by kernel_rfl) (fun _ _ _ h => h) (Or.inl ⟨by rfl, ?_⟩) (by assumption) ?_
        rotate_left 1
        · intro w hSw; (try dsimp only at hSw); go_simp; all_goals with_reducible rfl
        try simp only [Act.put, List.setIfInBounds_toArray, List.set_cons_zero, List.set_cons_succ]
        refine wpAnyH_ready (rs := [1]) (by kernel_rfl) (by simp) ?_
        refine AllReadyH.cons rfl (fun K hK => ?_) AllReadyH.nil
        go_simp
        go_at_call 66; (with_reducible refine (HMI.out _).mono ?_); rintro e u1 ⟨rfl, hb⟩; have HSN := Lib.hid (HGB.out.trans (hb.mono HGB.out.size)); clear HGB; have HGB := HSN; clear HSN; clear hb
        go_wp2_with fail
        refine hK.out _ _ (by exact ⟨(Blk.below HPX.out HGB.out (Blk.lt HPX.out)).cell 0, (Blk.below HPX.out HGB.out (Blk.lt HPX.out)).cell 1⟩) (fun hHeld => ?_)
        clear hK K
        try simp only [Act.put, List.setIfInBounds_toArray, List.set_cons_zero, List.set_cons_succ]
        refine takeO 2 (some 15) (v := ?_) rfl rfl (by kernel_rfl) (by kernel_rfl) (by kernel_rfl) (fun _ _ _ h => h) (Or.inl ⟨by rfl, ?_⟩) (by assumption) ?_
        rotate_left 1
        · intro w hSw; (try dsimp only at hSw); go_simp; all_goals with_reducible rfl
        try simp only [Act.put, List.setIfInBounds_toArray, List.set_cons_zero, List.set_cons_succ]
        refine takeO 3 (some 16) (v := ?_) rfl rfl (by kernel_rfl) (by kernel_rfl) (by kernel_rfl) (fun _ _ _ h => h) (Or.inl ⟨by rfl, ?_⟩) (by assumption) ?_
        rotate_left 1
        · intro w hSw; (try dsimp only at hSw); go_simp; all_goals with_reducible rfl
        try simp only [Act.put, List.setIfInBounds_toArray, List.set_cons_zero, List.set_cons_succ]
        refine takeO 4 (some 17) (v := ?_) rfl rfl (by kernel_rfl) (by kernel_rfl) (by kernel_rfl) (fun _ _ _ h => h) (Or.inl ⟨by rfl, ?_⟩) (by assumption) ?_
        rotate_left 1
        · intro w hSw; (try dsimp only at hSw); go_simp; all_goals with_reducible rfl
        try simp only [Act.put, List.setIfInBounds_toArray, List.set_cons_zero, List.set_cons_succ]
        refine takeO 5 (some 18) (v := ?_) rfl rfl (by kernel_rfl) (by kernel_rfl) (by kernel_rfl) (fun _ _ _ h => h) (Or.inl ⟨by rfl, ?_⟩) (by assumption) ?_
        rotate_left 1
        · intro w hSw; (try dsimp only at hSw); go_simp; all_goals with_reducible rfl
        try simp only [Act.put, List.setIfInBounds_toArray, List.set_cons_zero, List.set_cons_succ]
        refine takeO 6 (some 19) (v := ?_) rfl rfl (by kernel_rfl) (by kernel_rfl) (by kernel_rfl) (fun _ _ _ h => h) (Or.inl ⟨by rfl, ?_⟩) (by assumption) ?_
        rotate_left 1
        · intro w hSw; (try dsimp only at hSw); go_simp; all_goals with_reducible rfl
        try simp only [Act.put, List.setIfInBounds_toArray, List.set_cons_zero, List.set_cons_succ]
        refine takeO 7 (some 20) (v := undef) rfl rfl (by kernel_rfl) (by kernel_rfl) (by kernel_rfl) (fun _ _ _ h => h) (Or.inr ⟨by rfl, rfl⟩) (by assumption) ?_
        try simp only [Act.put, List.setIfInBounds_toArray, List.set_cons_zero, List.set_cons_succ]
        refine takeO 8 (some 21) (v := undef) rfl rfl (by kernel_rfl) (by kernel_rfl) (by kernel_rfl) (fun _ _ _ h => h) (Or.inr ⟨by rfl, rfl⟩) (by assumption) ?_
        try simp only [Act.put, List.setIfInBounds_toArray, List.set_cons_zero, List.set_cons_succ]
        refine takeO 9 (some 22) (v := undef) rfl rfl (by kernel_rfl) (by kernel_rfl) (by kernel_rfl) (fun _ _ _ h => h) (Or.inr ⟨by rfl, rfl⟩) (by assumption) ?_
        try simp only [Act.put, List.setIfInBounds_toArray, List.set_cons_zero, List.set_cons_succ]
        refine takeO 10 (some 23) (v := undef) rfl rfl (by kernel_rfl) (by kernel_rfl) (by kernel_rfl) (fun _ _ _ h => h) (Or.inr ⟨by rfl, rfl⟩) (by assumption) ?_
        try simp only [Act.put, List.setIfInBounds_toArray, List.set_cons_zero, List.set_cons_succ]
        refine takeO 11 (some 24) (v := undef) rfl rfl (by kernel_rfl) (by kernel_rfl) (by kernel_rfl) (fun _ _ _ h => h) (Or.inr ⟨by rfl, rfl⟩) (by assumption) ?_
        try simp only [Act.put, List.setIfInBounds_toArray, List.set_cons_zero, List.set_cons_succ]
        refine takeO 12 (some 25) (v := undef) rfl rfl (by kernel_rfl) (by kernel_rfl) (by kernel_rfl) (fun _ _ _ h => h) (Or.inr ⟨by rfl, rfl⟩) (by assumption) ?_
        try simp only [Act.put, List.setIfInBounds_toArray, List.set_cons_zero, List.set_cons_succ]
        refine takeO 13 (some 26) (v := undef) rfl rfl (by kernel_rfl) (by kernel_rfl) (by kernel_rfl) (fun _ _ _ h => h) (Or.inr ⟨by rfl, rfl⟩) (by assumption) ?_
        try simp only [Act.put, List.setIfInBounds_toArray, List.set_cons_zero, List.set_cons_succ]
        refine takeO 14 (some 27) (v := undef) rfl rfl (by kernel_rfl) (by kernel_rfl) (by kernel_rfl) (fun _ _ _ h => h) (Or.inr ⟨by rfl, rfl⟩) (by assumption) ?_
        try simp only [Act.put, List.setIfInBounds_toArray, List.set_cons_zero, List.set_cons_succ]
        refine takeO 15 (some 28) (v := undef) rfl rfl (by kernel_rfl) (by kernel_rfl) (by kernel_rfl) (fun _ _ _ h => h) (Or.inr ⟨by rfl, rfl⟩) (by assumption) ?_
        try simp only [Act.put, List.setIfInBounds_toArray, List.set_cons_zero, List.set_cons_succ]
        refine takeO 16 (some 29) (v := ?_) rfl rfl (by kernel_rfl) (by kernel_rfl) (by kernel_rfl) (fun _ _ _ h => h) (Or.inl ⟨by rfl, ?_⟩) (by assumption) ?_
        rotate_left 1
        · intro w hSw; (try dsimp only at hSw); go_simp; all_goals with_reducible rfl
        try simp only [Act.put, List.setIfInBounds_toArray, List.set_cons_zero, List.set_cons_succ]
        refine takeO 17 (some 30) (v := ?_) rfl rfl (by kernel_rfl) (by kernel_rfl) (by kernel_rfl) (fun _ _ _ h => h) (Or.inl ⟨by rfl, ?_⟩) (by assumption) ?_
        rotate_left 1
        · intro w hSw; (try dsimp only at hSw); go_simp; all_goals with_reducible rfl
        try simp only [Act.put, List.setIfInBounds_toArray, List.set_cons_zero, List.set_cons_succ]
        refine wpAnyH_done (by kernel_rfl) ?_ _
        have HBN := Lib.hid (HBL2.out.trans (HGB.out.mono HBL2.out.size))
        go_wp2_with fail
        go_roundw
        case rel => exact ⟨1, by omega, by go_num, HT2.out, HBN.out⟩
        case measure => simp [intOf]; omega
      obtain ⟨d, hd⟩ : ∃ d, i - 1 = d := ⟨_, rfl⟩
      have hdi : d + 1 = i := by omega
      obtain ⟨y, hy⟩ : ∃ y, l[d]? = some y := ⟨_, List.getElem?_eq_getElem (by omega)⟩
      obtain ⟨bb', ob', e, hbb', hcy⟩ := HX.out.2.2.2.2 d y hy
      obtain ⟨rfl, rfl⟩ : bb = bb' ∧ ob = ob' := by cases e; exact ⟨rfl, rfl⟩
      have HD0 := Lib.hid (show V.cell? ⟨bb, ob + d * 2, none⟩ = some (.int .i64 y.1) from hcy 0 (by decide))
      have HD1 := Lib.hid (show V.cell? ⟨bb, ob + d * 2 + 1, none⟩ = some (.string y.2) from hcy 1 (by decide))
      have wd : IntKind.i64.wrap ((i : Int) - 1) = (d : Int) := by rw [IntWalk.i64_in _ (by omega)]; omega
      have k5 : (0 : Int) ≤ (d : Int) := by omega
      have k6 : (d : Int) < (l.length : Int) := by omega
      have k7 : decide ((0 : Int) < (i : Int)) = true := by simp; omega
      have k8 : 0 < i := by omega
      have k9 : decide (0 < i) = true := by simpa using k8
      have HNX := Lib.hid (show itOK l (i + 1) = kless y x from by
        have h1 : l[d + 1]? = some x := by rw [hdi]; exact HXI.out
        have h2 := itOK_succ h1 hy
        have h3 := HT.out
        rw [hdi] at h2
        rw [h2, h3, hib]; simp)
      have HLE := Lib.hid (mless_any y x)
      clear hy hcy e hd hdi hi0 hib
      generalize kless y x = kl at *
      refine wp_region_held_drew (S := (fun w' => w'.cell? ⟨px, 0, none⟩ = some (.int .i64 x.1) ∧ w'.cell? ⟨px, 1, none⟩ = some (.string x.2) ∧ w'.cell? ⟨w.heap.size, 6, none⟩ = some (.slice (some ⟨bb, ob, none⟩) l.length c) ∧ w'.cell? ⟨bb, ob + d * 2, none⟩ = some (.int .i64 y.1) ∧ w'.cell? ⟨bb, ob + d * 2 + 1, none⟩ = some (.string y.2))) (by kernel_rfl) (by exact ⟨(Blk.below HPX.out HGB.out (Blk.lt HPX.out)).cell 0, (Blk.below HPX.out HGB.out (Blk.lt HPX.out)).cell 1, (Blk.below HK.out HGB.out (Blk.lt HK.out)).cell 6, (HGB.out.cell (p := ⟨bb, ob + d * 2, none⟩) hbb').trans HD0.out, (HGB.out.cell (p := ⟨bb, ob + d * 2 + 1, none⟩) hbb').trans HD1.out⟩) (fun hHeld => ?_)
      refine takeO 0 (some 13) (v := ?_) rfl rfl (by kernel_rfl) (by kernel_rfl) (by kernel_rfl) (fun _ _ _ h => h) (Or.inl ⟨by rfl, ?_⟩) (by assumption) ?_
      rotate_left 1
      · intro w hSw; (try dsimp only at hSw); go_simp; all_goals with_reducible rfl
      try simp only [Act.put, List.setIfInBounds_toArray, List.set_cons_zero, List.set_cons_succ]
      refine wpAnyH_ready (rs := [1]) (by kernel_rfl) (by simp) ?_
      refine AllReadyH.cons rfl (fun K hK => ?_) AllReadyH.nil
      go_simp
      go_at_call 66; (with_reducible refine (HMI.out _).mono ?_); rintro e u1 ⟨rfl, hb⟩; have HSN := Lib.hid (HGB.out.trans (hb.mono HGB.out.size)); clear HGB; have HGB := HSN; clear HSN; clear hb
      go_wp2_with fail
      refine hK.out _ _ (by exact ⟨(Blk.below HPX.out HGB.out (Blk.lt HPX.out)).cell 0, (Blk.below HPX.out HGB.out (Blk.lt HPX.out)).cell 1, (Blk.below HK.out HGB.out (Blk.lt HK.out)).cell 6, (HGB.out.cell (p := ⟨bb, ob + d * 2, none⟩) hbb').trans HD0.out, (HGB.out.cell (p := ⟨bb, ob + d * 2 + 1, none⟩) hbb').trans HD1.out⟩) (fun hHeld => ?_)
      clear hK K
      try simp only [Act.put, List.setIfInBounds_toArray, List.set_cons_zero, List.set_cons_succ]
      refine takeO 2 (some 15) (v := ?_) rfl rfl (by kernel_rfl) (by kernel_rfl) (by kernel_rfl) (fun _ _ _ h => h) (Or.inl ⟨by rfl, ?_⟩) (by assumption) ?_
      rotate_left 1
      · intro w hSw; (try dsimp only at hSw); go_simp; all_goals with_reducible rfl
      try simp only [Act.put, List.setIfInBounds_toArray, List.set_cons_zero, List.set_cons_succ]
      refine takeO 3 (some 16) (v := ?_) rfl rfl (by kernel_rfl) (by kernel_rfl) (by kernel_rfl) (fun _ _ _ h => h) (Or.inl ⟨by rfl, ?_⟩) (by assumption) ?_
      rotate_left 1
      · intro w hSw; (try dsimp only at hSw); go_simp; all_goals with_reducible rfl
      try simp only [Act.put, List.setIfInBounds_toArray, List.set_cons_zero, List.set_cons_succ]
      refine takeO 4 (some 17) (v := ?_) rfl rfl (by kernel_rfl) (by kernel_rfl) (by kernel_rfl) (fun _ _ _ h => h) (Or.inl ⟨by rfl, ?_⟩) (by assumption) ?_
      rotate_left 1
      · intro w hSw; (try dsimp only at hSw); go_simp; all_goals with_reducible rfl
      try simp only [Act.put, List.setIfInBounds_toArray, List.set_cons_zero, List.set_cons_succ]
      refine takeO 5 (some 18) (v := ?_) rfl rfl (by kernel_rfl) (by kernel_rfl) (by kernel_rfl) (fun _ _ _ h => h) (Or.inl ⟨by rfl, ?_⟩) (by assumption) ?_
      rotate_left 1
      · intro w hSw; (try dsimp only at hSw); go_simp; all_goals with_reducible rfl
      try simp only [Act.put, List.setIfInBounds_toArray, List.set_cons_zero, List.set_cons_succ]
      refine takeO 6 (some 19) (v := ?_) rfl rfl (by kernel_rfl) (by kernel_rfl) (by kernel_rfl) (fun _ _ _ h => h) (Or.inl ⟨by rfl, ?_⟩) (by assumption) ?_
      rotate_left 1
      · intro w hSw; (try dsimp only at hSw); go_simp; all_goals with_reducible rfl
      try simp only [Act.put, List.setIfInBounds_toArray, List.set_cons_zero, List.set_cons_succ]
      refine takeO 7 (some 20) (v := ?_) rfl rfl (by kernel_rfl) (by kernel_rfl) (by kernel_rfl) (fun _ _ _ h => h) (Or.inl ⟨by rfl, ?_⟩) (by assumption) ?_
      rotate_left 1
      · intro w hSw; (try dsimp only at hSw); go_simp; all_goals with_reducible rfl
      try simp only [Act.put, List.setIfInBounds_toArray, List.set_cons_zero, List.set_cons_succ]
      refine takeO 8 (some 21) (v := ?_) rfl rfl (by kernel_rfl) (by kernel_rfl) (by kernel_rfl) (fun _ _ _ h => h) (Or.inl ⟨by rfl, ?_⟩) (by assumption) ?_
      rotate_left 1
      · intro w hSw; (try dsimp only at hSw); go_simp; all_goals with_reducible rfl
      try simp only [Act.put, List.setIfInBounds_toArray, List.set_cons_zero, List.set_cons_succ]
      refine takeO 9 (some 22) (v := ?_) rfl rfl (by kernel_rfl) (by kernel_rfl) (by kernel_rfl) (fun _ _ _ h => h) (Or.inl ⟨by rfl, ?_⟩) (by assumption) ?_
      rotate_left 1
      · intro w hSw; (try dsimp only at hSw); go_simp; all_goals with_reducible rfl
      try simp only [Act.put, List.setIfInBounds_toArray, List.set_cons_zero, List.set_cons_succ]
      refine takeO 10 (some 23) (v := ?_) rfl rfl (by kernel_rfl) (by kernel_rfl) (by kernel_rfl) (fun _ _ _ h => h) (Or.inl ⟨by rfl, ?_⟩) (by assumption) ?_
      rotate_left 1
      · intro w hSw; (try dsimp only at hSw); go_simp; all_goals with_reducible rfl
      try simp only [Act.put, List.setIfInBounds_toArray, List.set_cons_zero, List.set_cons_succ]
      refine takeO 11 (some 24) (v := ?_) rfl rfl (by kernel_rfl) (by kernel_rfl) (by kernel_rfl) (fun _ _ _ h => h) (Or.inl ⟨by rfl, ?_⟩) (by assumption) ?_
      rotate_left 1
      · intro w hSw; (try dsimp only at hSw); go_simp; all_goals with_reducible rfl
      try simp only [Act.put, List.setIfInBounds_toArray, List.set_cons_zero, List.set_cons_succ]
      refine takeO 12 (some 25) (v := ?_) rfl rfl (by kernel_rfl) (by kernel_rfl) (by kernel_rfl) (fun _ _ _ h => h) (Or.inl ⟨by rfl, ?_⟩) (by assumption) ?_
      rotate_left 1
      · intro w hSw; (try dsimp only at hSw); go_simp; all_goals with_reducible rfl
      try simp only [Act.put, List.setIfInBounds_toArray, List.set_cons_zero, List.set_cons_succ]
      refine takeO 13 (some 26) (v := ?_) rfl rfl (by kernel_rfl) (by kernel_rfl) (by kernel_rfl) (fun _ _ _ h => h) (Or.inl ⟨by rfl, ?_⟩) (by assumption) ?_
      rotate_left 1
      · intro w hSw; (try dsimp only at hSw); go_simp; all_goals with_reducible rfl
      try simp only [Act.put, List.setIfInBounds_toArray, List.set_cons_zero, List.set_cons_succ]
      refine wpAnyH_ready (rs := [14]) (by kernel_rfl) (by simp) ?_
      refine AllReadyH.cons rfl (fun K hK => ?_) AllReadyH.nil
      go_simp
      go_at_call 68; (with_reducible refine (HLE.out _).mono ?_); rintro e u2 ⟨rfl, hb⟩; have HSN := Lib.hid (HGB.out.trans (hb.mono HGB.out.size)); clear HGB; have HGB := HSN; clear HSN; clear hb
      go_wp2_with fail
      refine hK.out _ _ (by exact ⟨(Blk.below HPX.out HGB.out (Blk.lt HPX.out)).cell 0, (Blk.below HPX.out HGB.out (Blk.lt HPX.out)).cell 1, (Blk.below HK.out HGB.out (Blk.lt HK.out)).cell 6, (HGB.out.cell (p := ⟨bb, ob + d * 2, none⟩) hbb').trans HD0.out, (HGB.out.cell (p := ⟨bb, ob + d * 2 + 1, none⟩) hbb').trans HD1.out⟩) (fun hHeld => ?_)
      clear hK K
      try simp only [Act.put, List.setIfInBounds_toArray, List.set_cons_zero, List.set_cons_succ]
      refine takeO 15 (some 28) (v := ?_) rfl rfl (by kernel_rfl) (by kernel_rfl) (by kernel_rfl) (fun _ _ _ h => h) (Or.inl ⟨by rfl, ?_⟩) (by assumption) ?_
      rotate_left 1
      · intro w hSw; (try dsimp only at hSw); go_simp; all_goals with_reducible rfl
      try simp only [Act.put, List.setIfInBounds_toArray, List.set_cons_zero, List.set_cons_succ]
      refine takeO 16 (some 29) (v := ?_) rfl rfl (by kernel_rfl) (by kernel_rfl) (by kernel_rfl) (fun _ _ _ h => h) (Or.inl ⟨by rfl, ?_⟩) (by assumption) ?_
      rotate_left 1
      · intro w hSw; (try dsimp only at hSw); go_simp; all_goals with_reducible rfl
      try simp only [Act.put, List.setIfInBounds_toArray, List.set_cons_zero, List.set_cons_succ]
      refine takeO 17 (some 30) (v := ?_) rfl rfl (by kernel_rfl) (by kernel_rfl) (by kernel_rfl) (fun _ _ _ h => h) (Or.inl ⟨by rfl, ?_⟩) (by assumption) ?_
      rotate_left 1
      · intro w hSw; (try dsimp only at hSw); go_simp; all_goals with_reducible rfl
      try simp only [Act.put, List.setIfInBounds_toArray, List.set_cons_zero, List.set_cons_succ]
      refine wpAnyH_done (by kernel_rfl) ?_ _
      have HBN := Lib.hid (HBL2.out.trans (HGB.out.mono HBL2.out.size))
      have HBE := Lib.hid (HB.out.trans (HGB.out.mono HB.out.size))
      clear wd
      cases kl
      · obtain rfl : R = false := by rw [← HRL.out, itOK_no HNX.out l.length (by omega)]; rfl
        go_wp2_with fail
        go_ret
        exact ⟨rfl, HBE.out⟩
      · go_wp2_with fail
        go_roundw
        case rel => exact ⟨i + 1, by omega, by go_num, HNX.out, HBN.out⟩
        case measure => simp [intOf]; omega
    · obtain rfl : i = l.length := by omega
      clear hlt HBL
      have t0 : wr.cell? ⟨w.heap.size, 0, none⟩ = some (.int .i64 s) := HK.out.cell 0
      have t1 : wr.cell? ⟨w.heap.size, 1, none⟩ = some (.int .i64 q) := HK.out.cell 1
      have t2 : wr.cell? ⟨w.heap.size, 2, none⟩ = some (.int .i64 h) := HK.out.cell 2
      have t3 : wr.cell? ⟨w.heap.size, 3, none⟩ = some (.int .i64 sq) := HK.out.cell 3
      have t4 : wr.cell? ⟨w.heap.size, 4, none⟩ = some (.int .i64 wk) := HK.out.cell 4
      have t5 : wr.cell? ⟨w.heap.size, 5, none⟩ = some (.int .i64 ep) := HK.out.cell 5
      have t6 : wr.cell? ⟨w.heap.size, 6, none⟩ = some (.slice a l.length c) := HK.out.cell 6
      have t7 : wr.cell? ⟨w.heap.size, 7, none⟩ = some (.bool en) := HK.out.cell 7
      by_cases h5 : l.length ≤ 5
      rotate_left
      · have d1 : decide ((l.length : Int) ≤ 5) = false := by simp; omega
        have d2 : decide (l.length ≤ 5) = false := by simpa using h5
        obtain rfl : R = false := by rw [← HRL.out, d2]; simp
        go_wp2_with fail
        go_ret
        exact ⟨rfl, HB.out⟩
      have d1 : decide ((l.length : Int) ≤ 5) = true := by simp; omega
      have d2 : decide (l.length ≤ 5) = true := by simpa using h5
      go_wp2_with fail
      refine (HP.out _).mono ?_
      rintro e V2 ⟨rfl, rfl⟩
      cases pb
      · obtain rfl : R = false := by rw [← HRL.out]; simp
        go_wp2_with fail
        go_ret
        exact ⟨rfl, HB.out⟩
      have HAL := Lib.hid ((Below.refl _ wr).alloc (Nat.le_refl _) (.cells #[.int .i64 q, .int .i64 sq, .int .i64 ep] 3))
      have HNI := Lib.hid (show Rd (wr.alloc (.cells #[.int .i64 q, .int .i64 sq, .int .i64 ep] 3)) (some ⟨wr.heap.size, 0, none⟩) 3 3 (ints [q, sq, ep]) from new_ints wr [q, sq, ep] (by simp [maxLen]))
      have ZZ := Lib.hid (HB.out.trans ((HAL.out).mono HB.out.size))
      clear HB
      have HB := ZZ
      clear ZZ
      have ZZ := Lib.hid (HK.out.below HAL.out HK.out.lt)
      clear HK
      have HK := ZZ
      clear ZZ
      have ZZ := Lib.hid (HX.out.below HAL.out rfl)
      clear HX
      have HX := ZZ
      clear ZZ
      go_wp2_with fail
      refine (HWI.out _ _ _ HNI.out).mono ?_
      rintro e V3 ⟨rfl, rfl⟩
      clear HNI HAL t0 t1 t2 t3 t4 t5 t6 t7
      obtain ⟨V4, hV4⟩ : ∃ V, wr.alloc (.cells #[.int .i64 q, .int .i64 sq, .int .i64 ep] 3) = V := ⟨_, rfl⟩
      rw [hV4] at HB HK ⊢
      clear hV4 HX
      have t0 : V4.cell? ⟨w.heap.size, 0, none⟩ = some (.int .i64 s) := HK.out.cell 0
      have t1 : V4.cell? ⟨w.heap.size, 1, none⟩ = some (.int .i64 q) := HK.out.cell 1
      have t2 : V4.cell? ⟨w.heap.size, 2, none⟩ = some (.int .i64 h) := HK.out.cell 2
      have t3 : V4.cell? ⟨w.heap.size, 3, none⟩ = some (.int .i64 sq) := HK.out.cell 3
      have t4 : V4.cell? ⟨w.heap.size, 4, none⟩ = some (.int .i64 wk) := HK.out.cell 4
      have t5 : V4.cell? ⟨w.heap.size, 5, none⟩ = some (.int .i64 ep) := HK.out.cell 5
      have t6 : V4.cell? ⟨w.heap.size, 6, none⟩ = some (.slice a l.length c) := HK.out.cell 6
      have t7 : V4.cell? ⟨w.heap.size, 7, none⟩ = some (.bool en) := HK.out.cell 7
      cases wb
      · obtain rfl : R = false := by rw [← HRL.out]; simp
        go_wp2_with fail
        go_ret
        exact ⟨rfl, HB.out⟩
      go_wp2_with fail
      refine (HWK.out _).mono ?_
      rintro e V5 ⟨rfl, rfl⟩
      obtain rfl : R = kb := by rw [← HRL.out, HT.out, d2]; simp
      go_wp2_with fail
      go_ret
      exact ⟨rfl, HB.out⟩
end Go.Proofs.Ytjhkdbcfkaaffaa
