/- The document's small questions of chapter 15: Len, Word, Asked, in, nums, item. -/
import Derived.Test.YtjhkdbcfkaaffaaRef3
import Derived.Test.YtjhkdbcfkaaffaaRef10
import Derived.Test.YtjhkdbcfkaaffaaMm4
import Derived.Test.YtjhkdbcfkaaffaaMm17
namespace Go.Proofs.Ytjhkdbcfkaaffaa
open Go.RowKit
set_option linter.unusedVariables false

set_option maxRecDepth 100000 in
theorem rlen_any (s : ByteArray) (w : World) (hs : s.size ≤ 1000000) :
    Calls Try.prog 85 #[.string s] w fun e w' => e = .returned (.int .i64 (tLen s)) ∧ Below w.heap.size w w' := by
  have H := Lib.hid (fun W => rrunes_any s W hs)
  have hl := runesO_len s
  obtain ⟨z, hz⟩ : ∃ z, tLen s = z := ⟨_, rfl⟩
  rw [hz] at hl ⊢
  clear hz
  cases hr : runesO s with
  | none =>
    rw [hr] at hl H
    simp only at hl
    subst hl
    clear hr
    go_enter Try.func85, Try.ntmps85
    go_wp2_with fail
    refine (H.out _).mono ?_
    rintro e w' ⟨rfl, hb⟩
    go_wp2_with fail
    go_ret
    exact ⟨rfl, hb⟩
  | some l =>
    rw [hr] at hl H
    simp only at hl
    subst hl
    clear hr
    go_enter Try.func85, Try.ntmps85
    go_wp2_with fail
    refine (H.out _).mono ?_
    rintro e w' ⟨⟨ao, c, rfl, hr⟩, hb⟩
    go_wp2_with fail
    go_ret
    exact ⟨rfl, hb⟩
set_option maxRecDepth 100000 in
theorem rasked_any (s : ByteArray) (w : World) (hs : s.size ≤ 1000000) :
    Calls Try.prog 69 #[.string s] w fun e w' => e = .returned (.bool (askedB s)) ∧ Below w.heap.size w w' := by
  unfold askedB
  have H := Lib.hid (fun W => rlen_any s W hs)
  generalize tLen s = z at *
  by_cases h1 : 0 ≤ z
  · have d1 : decide (0 ≤ z) = true := by simp; omega
    rw [d1]
    go_enter Try.func69, Try.ntmps69
    go_wp2_with fail
    refine (H.out _).mono ?_
    rintro e w1 ⟨rfl, hb⟩
    have HB := Lib.hid hb
    clear hb
    go_wp2_with fail
    refine (H.out _).mono ?_
    rintro e w2 ⟨rfl, hb⟩
    have HB2 := Lib.hid (HB.out.trans (hb.mono HB.out.size))
    clear hb HB
    go_wp2_with fail
    go_ret
    exact ⟨by simp, HB2.out⟩
  · have d1 : decide (0 ≤ z) = false := by simp; omega
    rw [d1]
    go_enter Try.func69, Try.ntmps69
    go_wp2_with fail
    refine (H.out _).mono ?_
    rintro e w' ⟨rfl, hb⟩
    go_wp2_with fail
    go_ret
    exact ⟨by simp, hb⟩
set_option maxRecDepth 100000 in
theorem rword_any (s : ByteArray) (w : World) (hs : s.size ≤ 1000000) :
    Calls Try.prog 86 #[.string s] w fun e w' => e = .returned (.bool (isWord s)) ∧ Below w.heap.size w w' := by
  unfold isWord
  have H := Lib.hid (fun W => rlen_any s W hs)
  generalize tLen s = z at *
  by_cases h1 : 1 ≤ z
  · have d1 : decide (1 ≤ z) = true := by simp; omega
    rw [d1]
    go_enter Try.func86, Try.ntmps86
    go_wp2_with fail
    refine (H.out _).mono ?_
    rintro e w1 ⟨rfl, hb⟩
    have HB := Lib.hid hb
    clear hb
    go_wp2_with fail
    refine (H.out _).mono ?_
    rintro e w2 ⟨rfl, hb⟩
    have HB2 := Lib.hid (HB.out.trans (hb.mono HB.out.size))
    clear hb HB
    go_wp2_with fail
    go_ret
    exact ⟨by simp, HB2.out⟩
  · have d1 : decide (1 ≤ z) = false := by simp; omega
    rw [d1]
    go_enter Try.func86, Try.ntmps86
    go_wp2_with fail
    refine (H.out _).mono ?_
    rintro e w' ⟨rfl, hb⟩
    go_wp2_with fail
    go_ret
    exact ⟨by simp, hb⟩
def inB (n lo hi : Int) : Bool := decide (lo ≤ n) && decide (n ≤ hi)
set_option maxRecDepth 100000 in
theorem rin_any (n lo hi : Int) (w : World) : Calls Try.prog 49 #[.int .i64 n, .int .i64 lo, .int .i64 hi] w fun e w' => e = .returned (.bool (inB n lo hi)) ∧ w = w' := by
  unfold inB
  go_enter Try.func49, Try.ntmps49
  by_cases h1 : lo ≤ n
  · have d1 : decide (lo ≤ n) = true := by simpa using h1
    rw [d1]
    go_wp2_with fail
    go_ret
    exact ⟨by simp, rfl⟩
  · have d1 : decide (lo ≤ n) = false := by simpa using h1
    rw [d1]
    go_wp2_with fail
    go_ret
    exact ⟨by simp, rfl⟩
set_option maxRecDepth 100000 in
set_option maxHeartbeats 2000000 in
theorem ritem15_any (x : KeyL) (w : World) (hs : x.2.size ≤ 1000000) : Calls Try.prog 70 #[.agg #[.int .i64 x.1, .string x.2]] w fun e w' => e = .returned (.bool (itemB x)) ∧ Below w.heap.size w w' := by
  unfold itemB
  have H := Lib.hid (fun W => rword_any x.2 W hs)
  have HI := Lib.hid (fun W => rin_any x.1 0 4 W)
  generalize isWord x.2 = wb at *
  have HB := Lib.hid ((Below.refl w.heap.size w).alloc (Nat.le_refl _) (.cells #[.int .i64 x.1, .string x.2] 27))
  have hin : inB x.1 0 4 = (decide (0 ≤ x.1) && decide (x.1 ≤ 4)) := rfl
  cases hq : inB x.1 0 4
  · rw [hq] at HI hin
    rw [← hin]
    clear hq hin
    go_enter Try.func70, Try.ntmps70
    go_wp2_with fail
    refine (HI.out _).mono ?_
    rintro e w' ⟨rfl, rfl⟩
    go_wp2_with fail
    go_ret
    exact ⟨by simp, HB.out⟩
  · rw [hq] at HI hin
    rw [← hin]
    clear hq hin
    go_enter Try.func70, Try.ntmps70
    go_wp2_with fail
    refine (HI.out _).mono ?_
    rintro e w' ⟨rfl, rfl⟩
    go_wp2_with fail
    refine (H.out _).mono ?_
    rintro e w' ⟨rfl, hb⟩
    have HB2 := Lib.hid (HB.out.trans (hb.mono HB.out.size))
    clear hb
    go_wp2_with fail
    go_ret
    exact ⟨by simp, HB2.out⟩
set_option maxRecDepth 100000 in
set_option maxHeartbeats 2000000 in
theorem rnums15_any (a : Option Addr) (n c : Nat) (l : List Int) (w : World) (h : Rd w a n c (ints l)) :
    Calls Try.prog 50 #[.slice a n c] w fun e w' => e = .returned (.bool (withinL l)) ∧ Below w.heap.size w w' := by
  have hn : l.length = n := by rw [← h.1, ints_len]
  subst hn
  have hcap := h.2.1
  have hcm := h.2.2.1
  unfold maxLen at hcm
  have HR := Lib.hid h
  obtain ⟨R, hR⟩ : ∃ R, withinL l = R := ⟨_, rfl⟩
  rw [hR]
  have HQ := Lib.hid hR
  clear h hR
  go_enter Try.func50, Try.ntmps50
  go_wp2_with fail
  go_loopw [3] (fun v wr => ∃ k : Nat, k ≤ l.length ∧ v = .int .i64 k ∧ RowKit.Hid ((l.take k).all inR = true) ∧ RowKit.Hid (Below w.heap.size w wr)) (fun v _ => l.length - (intOf v).toNat)
  case atStart => exact ⟨0, by omega, rfl, rfl, Below.refl _ _⟩
  case round =>
    obtain ⟨k, hk, rfl, HA, HB⟩ := hrel
    by_cases hlt : k < l.length
    · obtain ⟨x, hx⟩ : ∃ x, l[k]? = some x := ⟨_, List.getElem?_eq_getElem hlt⟩
      obtain ⟨bb, ob, hab, hbb, hc⟩ := (HR.out.below HB.out rfl).2.2.2.2 k hlt
      have cx : wr.cell? ⟨bb, ob + k, none⟩ = some (.int .i64 x) := by rw [hc]; simp [ints, hx]
      have k1 : (0 : Int) ≤ (k : Int) := by omega
      have k2 : (k : Int) < (l.length : Int) := by omega
      have HX := Lib.hid hx
      clear hx hc
      subst hab
      have HIN := Lib.hid (show inR x = (decide (0 ≤ x) && decide (x ≤ 2147483647)) from rfl)
      by_cases h1 : x < 0
      · obtain rfl : R = false := by rw [← HQ.out]; exact all_no HX.out (by rw [HIN.out, decide_eq_false (by omega)]; rfl)
        have d1 : decide (x < 0) = true := by simpa using h1
        go_wp2_with fail
        go_ret
        exact ⟨rfl, HB.out⟩
      have d1 : decide (x < 0) = false := by simpa using h1
      by_cases h2 : 2147483647 < x
      · obtain rfl : R = false := by rw [← HQ.out]; exact all_no HX.out (by rw [HIN.out, decide_eq_false (show ¬ x ≤ 2147483647 by omega)]; simp)
        have d2 : decide (2147483647 < x) = true := by simpa using h2
        go_wp2_with fail
        go_ret
        exact ⟨rfl, HB.out⟩
      have d2 : decide (2147483647 < x) = false := by simpa using h2
      have HT2 := Lib.hid (show (l.take (k + 1)).all inR = true from by rw [all_next HX.out, HA.out, HIN.out, decide_eq_true (by omega), decide_eq_true (by omega)]; rfl)
      go_wp2_with fail
      go_roundw
      case rel => exact ⟨k + 1, by omega, by go_num, HT2.out, HB.out⟩
      case measure => simp [intOf]; omega
    · obtain rfl : k = l.length := by omega
      obtain rfl : R = true := by rw [← HQ.out]; have q := HA.out; rw [List.take_length] at q; exact q
      go_wp2_with fail
      go_ret
      exact ⟨rfl, HB.out⟩
end Go.Proofs.Ytjhkdbcfkaaffaa
/- The document's MayAsk and MayReply. -/
namespace Go.Proofs.Ytjhkdbcfkaaffaa
open Go.RowKit
set_option linter.unusedVariables false

set_option maxRecDepth 100000 in
theorem placeB_eq (s h : Int) : placeB s h = (inB s 0 3 && inB h 0 5) := by
  rw [Bool.eq_iff_iff]; unfold placeB inB; simp; omega
set_option maxRecDepth 100000 in
theorem workerB_eq (n : Int) : workerB n = inB n 1 5 := rfl
set_option maxRecDepth 100000 in
theorem askB_eq (s q h sq ep : Int) (tx : ByteArray) (k b : Int) (f : Bool) (d : Int) (wd : ByteArray) : askB s q h sq ep tx k b f d wd = (withinL [q, sq, ep] && inB s 0 3 && inB h 0 5 && inB k 0 4 && inB b 1 5 && askedB tx && afterB f d wd) := by
  unfold askB
  rw [placeB_eq]
  unfold inB
  generalize withinL [q, sq, ep] = x1
  generalize askedB tx = x2
  generalize afterB f d wd = x3
  rw [Bool.eq_iff_iff]
  simp only [Bool.and_eq_true, decide_eq_true_eq]
  constructor <;> intro hh <;> simp only [hh, and_self] <;> omega
set_option maxRecDepth 100000 in
theorem replyB_eq (s q h sq wk ep : Int) (l : List KeyL) : replyB s q h sq wk ep l = (withinL [q, sq, ep] && inB s 0 3 && inB h 0 5 && inB wk 1 5 && decide (l.length ≤ 5) && itOK l l.length) := by
  unfold replyB
  rw [placeB_eq, workerB_eq]
  generalize withinL [q, sq, ep] = x1
  generalize inB s 0 3 = x2
  generalize inB h 0 5 = x3
  generalize inB wk 1 5 = x4
  generalize decide (l.length ≤ 5) = x5
  generalize itOK l l.length = x6
  cases x1 <;> cases x2 <;> cases x3 <;> cases x4 <;> cases x5 <;> cases x6 <;> rfl
set_option maxRecDepth 100000 in
set_option maxHeartbeats 8000000 in
theorem rmayask_any (s q h sq ep : Int) (tx : ByteArray) (k b : Int) (f : Bool) (d : Int) (wd : ByteArray) (w : World) (h1 : tx.size ≤ 1000000) (h2 : wd.size ≤ 1000000) :
    Calls Try.prog 51 #[.agg #[.int .i64 s, .int .i64 q, .int .i64 h, .int .i64 sq, .int .i64 ep, .string tx, .int .i64 k, .int .i64 b, .bool f, .int .i64 d, .string wd]] w fun e w' => e = .returned (.bool (askB s q h sq ep tx k b f d wd)) ∧ Below w.heap.size w w' := by
  rw [askB_eq]
  have HI1 := Lib.hid (fun W => rin_any s 0 3 W)
  have HI2 := Lib.hid (fun W => rin_any h 0 5 W)
  have HI3 := Lib.hid (fun W => rin_any k 0 4 W)
  have HI4 := Lib.hid (fun W => rin_any b 1 5 W)
  have HAS := Lib.hid (fun W => rasked_any tx W h1)
  have HIT := Lib.hid (fun W => ritem15_any (d, wd) W h2)
  have heq := eqI_run (d, wd) ((0 : Int), (⟨#[]⟩ : ByteArray))
  simp only at heq
  have HEQ := Lib.hid heq
  clear heq
  have HAF := Lib.hid (show afterB f d wd = if f = true then decide ((d, wd) = ((0 : Int), (⟨#[]⟩ : ByteArray))) else itemB (d, wd) from rfl)
  obtain ⟨R, hR⟩ : ∃ R, (withinL [q, sq, ep] && inB s 0 3 && inB h 0 5 && inB k 0 4 && inB b 1 5 && askedB tx && afterB f d wd) = R := ⟨_, rfl⟩
  rw [hR]
  have HRL := Lib.hid hR
  clear hR h1 h2
  have HB := Lib.hid ((Below.refl w.heap.size w).alloc (Nat.le_refl _) (.cells #[.int .i64 s, .int .i64 q, .int .i64 h, .int .i64 sq, .int .i64 ep, .string tx, .int .i64 k, .int .i64 b, .bool f, .int .i64 d, .string wd] 29))
  have HX := Lib.hid (show Blk (w.alloc (.cells #[.int .i64 s, .int .i64 q, .int .i64 h, .int .i64 sq, .int .i64 ep, .string tx, .int .i64 k, .int .i64 b, .bool f, .int .i64 d, .string wd] 29)) w.heap.size 29 [.int .i64 s, .int .i64 q, .int .i64 h, .int .i64 sq, .int .i64 ep, .string tx, .int .i64 k, .int .i64 b, .bool f, .int .i64 d, .string wd] from heap_alloc_new w _)
  obtain ⟨W0, hW0⟩ : ∃ W0, w.alloc (.cells #[.int .i64 s, .int .i64 q, .int .i64 h, .int .i64 sq, .int .i64 ep, .string tx, .int .i64 k, .int .i64 b, .bool f, .int .i64 d, .string wd] 29) = W0 := ⟨_, rfl⟩
  rw [hW0] at HB HX
  have HB1 := Lib.hid (HB.out.alloc HB.out.size (.cells (ints [q, sq, ep]).toArray 3))
  have HX1 := Lib.hid (HX.out.alloc (.cells (ints [q, sq, ep]).toArray 3))
  have HN := Lib.hid (rnums15_any (some ⟨W0.heap.size, 0, none⟩) 3 3 [q, sq, ep] (W0.alloc (.cells (ints [q, sq, ep]).toArray 3)) (new_ints W0 [q, sq, ep] (by simp [maxLen])))
  have t0 : W0.cell? ⟨w.heap.size, 0, none⟩ = some (.int .i64 s) := HX.out.cell 0
  have t1 : W0.cell? ⟨w.heap.size, 1, none⟩ = some (.int .i64 q) := HX.out.cell 1
  have t2 : W0.cell? ⟨w.heap.size, 2, none⟩ = some (.int .i64 h) := HX.out.cell 2
  have t3 : W0.cell? ⟨w.heap.size, 3, none⟩ = some (.int .i64 sq) := HX.out.cell 3
  have t4 : W0.cell? ⟨w.heap.size, 4, none⟩ = some (.int .i64 ep) := HX.out.cell 4
  have t5 : W0.cell? ⟨w.heap.size, 5, none⟩ = some (.string tx) := HX.out.cell 5
  have t6 : W0.cell? ⟨w.heap.size, 6, none⟩ = some (.int .i64 k) := HX.out.cell 6
  have t7 : W0.cell? ⟨w.heap.size, 7, none⟩ = some (.int .i64 b) := HX.out.cell 7
  have t8 : W0.cell? ⟨w.heap.size, 8, none⟩ = some (.bool f) := HX.out.cell 8
  have t9 : W0.cell? ⟨w.heap.size, 9, none⟩ = some (.int .i64 d) := HX.out.cell 9
  have t10 : W0.cell? ⟨w.heap.size, 10, none⟩ = some (.string wd) := HX.out.cell 10
  have hQ := HRL.out
  go_enter Try.func51, Try.ntmps51
  go_wp2_with (rw [hW0])
  clear hW0 hQ
  refine HN.out.mono ?_
  clear HN
  rintro e w1 ⟨rfl, hb⟩
  have HX2 := Lib.hid (HX1.out.below hb HX1.out.lt)
  have HB2 := Lib.hid (HB1.out.trans (hb.mono HB1.out.size))
  clear t0 t1 t2 t3 t4 t5 t6 t7 t8 t9 t10
  clear hb HX HX1 HB HB1
  generalize withinL [q, sq, ep] = A1 at *
  generalize inB s 0 3 = A2 at *
  generalize inB h 0 5 = A3 at *
  generalize inB k 0 4 = A4 at *
  generalize inB b 1 5 = A5 at *
  generalize askedB tx = A6 at *
  have t0 : w1.cell? ⟨w.heap.size, 0, none⟩ = some (.int .i64 s) := HX2.out.cell 0
  have t1 : w1.cell? ⟨w.heap.size, 1, none⟩ = some (.int .i64 q) := HX2.out.cell 1
  have t2 : w1.cell? ⟨w.heap.size, 2, none⟩ = some (.int .i64 h) := HX2.out.cell 2
  have t3 : w1.cell? ⟨w.heap.size, 3, none⟩ = some (.int .i64 sq) := HX2.out.cell 3
  have t4 : w1.cell? ⟨w.heap.size, 4, none⟩ = some (.int .i64 ep) := HX2.out.cell 4
  have t5 : w1.cell? ⟨w.heap.size, 5, none⟩ = some (.string tx) := HX2.out.cell 5
  have t6 : w1.cell? ⟨w.heap.size, 6, none⟩ = some (.int .i64 k) := HX2.out.cell 6
  have t7 : w1.cell? ⟨w.heap.size, 7, none⟩ = some (.int .i64 b) := HX2.out.cell 7
  have t8 : w1.cell? ⟨w.heap.size, 8, none⟩ = some (.bool f) := HX2.out.cell 8
  have t9 : w1.cell? ⟨w.heap.size, 9, none⟩ = some (.int .i64 d) := HX2.out.cell 9
  have t10 : w1.cell? ⟨w.heap.size, 10, none⟩ = some (.string wd) := HX2.out.cell 10
  cases A1
  · obtain rfl : R = false := by rw [← HRL.out]; simp []
    go_wp2_with fail
    go_ret
    exact ⟨rfl, HB2.out⟩
  go_wp2_with fail
  refine (HI1.out _).mono ?_
  rintro e w' ⟨rfl, rfl⟩
  cases A2
  · obtain rfl : R = false := by rw [← HRL.out]; simp []
    go_wp2_with fail
    go_ret
    exact ⟨rfl, HB2.out⟩
  go_wp2_with fail
  refine (HI2.out _).mono ?_
  rintro e w' ⟨rfl, rfl⟩
  cases A3
  · obtain rfl : R = false := by rw [← HRL.out]; simp []
    go_wp2_with fail
    go_ret
    exact ⟨rfl, HB2.out⟩
  go_wp2_with fail
  refine (HI3.out _).mono ?_
  rintro e w' ⟨rfl, rfl⟩
  cases A4
  · obtain rfl : R = false := by rw [← HRL.out]; simp []
    go_wp2_with fail
    go_ret
    exact ⟨rfl, HB2.out⟩
  go_wp2_with fail
  refine (HI4.out _).mono ?_
  rintro e w' ⟨rfl, rfl⟩
  cases A5
  · obtain rfl : R = false := by rw [← HRL.out]; simp []
    go_wp2_with fail
    go_ret
    exact ⟨rfl, HB2.out⟩
  go_wp2_with fail
  refine (HAS.out _).mono ?_
  rintro e w2 ⟨rfl, hb⟩
  have HX3 := Lib.hid (HX2.out.below hb HX2.out.lt)
  have HB3 := Lib.hid (HB2.out.trans (hb.mono HB2.out.size))
  clear t0 t1 t2 t3 t4 t5 t6 t7 t8 t9 t10
  clear hb HX2 HB2
  have t0 : w2.cell? ⟨w.heap.size, 0, none⟩ = some (.int .i64 s) := HX3.out.cell 0
  have t1 : w2.cell? ⟨w.heap.size, 1, none⟩ = some (.int .i64 q) := HX3.out.cell 1
  have t2 : w2.cell? ⟨w.heap.size, 2, none⟩ = some (.int .i64 h) := HX3.out.cell 2
  have t3 : w2.cell? ⟨w.heap.size, 3, none⟩ = some (.int .i64 sq) := HX3.out.cell 3
  have t4 : w2.cell? ⟨w.heap.size, 4, none⟩ = some (.int .i64 ep) := HX3.out.cell 4
  have t5 : w2.cell? ⟨w.heap.size, 5, none⟩ = some (.string tx) := HX3.out.cell 5
  have t6 : w2.cell? ⟨w.heap.size, 6, none⟩ = some (.int .i64 k) := HX3.out.cell 6
  have t7 : w2.cell? ⟨w.heap.size, 7, none⟩ = some (.int .i64 b) := HX3.out.cell 7
  have t8 : w2.cell? ⟨w.heap.size, 8, none⟩ = some (.bool f) := HX3.out.cell 8
  have t9 : w2.cell? ⟨w.heap.size, 9, none⟩ = some (.int .i64 d) := HX3.out.cell 9
  have t10 : w2.cell? ⟨w.heap.size, 10, none⟩ = some (.string wd) := HX3.out.cell 10
  cases A6
  · obtain rfl : R = false := by rw [← HRL.out]; simp []
    go_wp2_with fail
    go_ret
    exact ⟨rfl, HB3.out⟩
  cases f
  · have hr : R = itemB (d, wd) := by rw [← HRL.out, HAF.out]; simp
    have HR := Lib.hid hr
    clear hr
    go_wp2_with fail
    refine (HIT.out _).mono ?_
    rintro e w3 ⟨rfl, hb⟩
    have HB4 := Lib.hid (HB3.out.trans (hb.mono HB3.out.size))
    clear hb
    generalize itemB (d, wd) = ib at *
    go_wp2_with fail
    go_ret
    rw [HR.out]
    exact ⟨rfl, HB4.out⟩
  · have hr : R = decide ((d, wd) = ((0 : Int), (⟨#[]⟩ : ByteArray))) := by rw [← HRL.out, HAF.out]; simp
    have HR := Lib.hid hr
    clear hr
    have heq := HEQ.out
    generalize decide ((d, wd) = ((0 : Int), (⟨#[]⟩ : ByteArray))) = ib at *
    go_wp2_with fail
    go_ret
    rw [HR.out]
    exact ⟨rfl, HB3.out⟩
set_option maxRecDepth 100000 in
set_option maxHeartbeats 8000000 in
theorem rmayreply_any (s q h sq wk ep : Int) (l : List KeyL) (en : Bool) (a : Option Addr) (c : Nat) (w : World) (hr : RdE KeyL.cells 2 w a l.length c l) (hz : ∀ x ∈ l, x.2.size ≤ 1000000) :
    Calls Try.prog 52 #[.agg #[.int .i64 s, .int .i64 q, .int .i64 h, .int .i64 sq, .int .i64 wk, .int .i64 ep, .slice a l.length c, .bool en]] w fun e w' => e = .returned (.bool (replyB s q h sq wk ep l)) ∧ Below w.heap.size w w' := by
  rw [replyB_eq]
  have HI1 := Lib.hid (fun W => rin_any s 0 3 W)
  have HI2 := Lib.hid (fun W => rin_any h 0 5 W)
  have HI3 := Lib.hid (fun W => rin_any wk 1 5 W)
  have HZ := Lib.hid hz
  have HRI := Lib.hid (fun W (hb : Below w.heap.size w W) => hr.below hb rfl)
  have hcap := hr.2.1
  have hcm := hr.2.2.1
  unfold maxLen at hcm
  obtain ⟨R, hR⟩ : ∃ R, (withinL [q, sq, ep] && inB s 0 3 && inB h 0 5 && inB wk 1 5 && decide (l.length ≤ 5) && itOK l l.length) = R := ⟨_, rfl⟩
  rw [hR]
  have HRL := Lib.hid hR
  clear hR hr hz
  have HB := Lib.hid ((Below.refl w.heap.size w).alloc (Nat.le_refl _) (.cells #[.int .i64 s, .int .i64 q, .int .i64 h, .int .i64 sq, .int .i64 wk, .int .i64 ep, .slice a l.length c, .bool en] 32))
  have HX := Lib.hid (show Blk (w.alloc (.cells #[.int .i64 s, .int .i64 q, .int .i64 h, .int .i64 sq, .int .i64 wk, .int .i64 ep, .slice a l.length c, .bool en] 32)) w.heap.size 32 [.int .i64 s, .int .i64 q, .int .i64 h, .int .i64 sq, .int .i64 wk, .int .i64 ep, .slice a l.length c, .bool en] from heap_alloc_new w _)
  obtain ⟨W0, hW0⟩ : ∃ W0, w.alloc (.cells #[.int .i64 s, .int .i64 q, .int .i64 h, .int .i64 sq, .int .i64 wk, .int .i64 ep, .slice a l.length c, .bool en] 32) = W0 := ⟨_, rfl⟩
  rw [hW0] at HB HX
  have HB1 := Lib.hid (HB.out.alloc HB.out.size (.cells (ints [q, sq, ep]).toArray 3))
  have HX1 := Lib.hid (HX.out.alloc (.cells (ints [q, sq, ep]).toArray 3))
  have HN := Lib.hid (rnums15_any (some ⟨W0.heap.size, 0, none⟩) 3 3 [q, sq, ep] (W0.alloc (.cells (ints [q, sq, ep]).toArray 3)) (new_ints W0 [q, sq, ep] (by simp [maxLen])))
  have t0 : W0.cell? ⟨w.heap.size, 0, none⟩ = some (.int .i64 s) := HX.out.cell 0
  have t1 : W0.cell? ⟨w.heap.size, 1, none⟩ = some (.int .i64 q) := HX.out.cell 1
  have t2 : W0.cell? ⟨w.heap.size, 2, none⟩ = some (.int .i64 h) := HX.out.cell 2
  have t3 : W0.cell? ⟨w.heap.size, 3, none⟩ = some (.int .i64 sq) := HX.out.cell 3
  have t4 : W0.cell? ⟨w.heap.size, 4, none⟩ = some (.int .i64 wk) := HX.out.cell 4
  have t5 : W0.cell? ⟨w.heap.size, 5, none⟩ = some (.int .i64 ep) := HX.out.cell 5
  have t6 : W0.cell? ⟨w.heap.size, 6, none⟩ = some (.slice a l.length c) := HX.out.cell 6
  have t7 : W0.cell? ⟨w.heap.size, 7, none⟩ = some (.bool en) := HX.out.cell 7
  have hQ := HRL.out
  go_enter Try.func52, Try.ntmps52
  go_wp2_with (rw [hW0])
  clear hW0 hQ
  refine HN.out.mono ?_
  clear HN
  rintro e w1 ⟨rfl, hb⟩
  have HX2 := Lib.hid (HX1.out.below hb HX1.out.lt)
  have HB2 := Lib.hid (HB1.out.trans (hb.mono HB1.out.size))
  clear t0 t1 t2 t3 t4 t5 t6 t7
  clear hb HX HX1 HB HB1
  generalize withinL [q, sq, ep] = A1 at *
  generalize inB s 0 3 = A2 at *
  generalize inB h 0 5 = A3 at *
  generalize inB wk 1 5 = A4 at *
  have t0 : w1.cell? ⟨w.heap.size, 0, none⟩ = some (.int .i64 s) := HX2.out.cell 0
  have t1 : w1.cell? ⟨w.heap.size, 1, none⟩ = some (.int .i64 q) := HX2.out.cell 1
  have t2 : w1.cell? ⟨w.heap.size, 2, none⟩ = some (.int .i64 h) := HX2.out.cell 2
  have t3 : w1.cell? ⟨w.heap.size, 3, none⟩ = some (.int .i64 sq) := HX2.out.cell 3
  have t4 : w1.cell? ⟨w.heap.size, 4, none⟩ = some (.int .i64 wk) := HX2.out.cell 4
  have t5 : w1.cell? ⟨w.heap.size, 5, none⟩ = some (.int .i64 ep) := HX2.out.cell 5
  have t6 : w1.cell? ⟨w.heap.size, 6, none⟩ = some (.slice a l.length c) := HX2.out.cell 6
  have t7 : w1.cell? ⟨w.heap.size, 7, none⟩ = some (.bool en) := HX2.out.cell 7
  cases A1
  · obtain rfl : R = false := by rw [← HRL.out]; simp []
    go_wp2_with fail
    go_ret
    exact ⟨rfl, HB2.out⟩
  go_wp2_with fail
  refine (HI1.out _).mono ?_
  rintro e w' ⟨rfl, rfl⟩
  cases A2
  · obtain rfl : R = false := by rw [← HRL.out]; simp []
    go_wp2_with fail
    go_ret
    exact ⟨rfl, HB2.out⟩
  go_wp2_with fail
  refine (HI2.out _).mono ?_
  rintro e w' ⟨rfl, rfl⟩
  cases A3
  · obtain rfl : R = false := by rw [← HRL.out]; simp []
    go_wp2_with fail
    go_ret
    exact ⟨rfl, HB2.out⟩
  go_wp2_with fail
  refine (HI3.out _).mono ?_
  rintro e w' ⟨rfl, rfl⟩
  cases A4
  · obtain rfl : R = false := by rw [← HRL.out]; simp []
    go_wp2_with fail
    go_ret
    exact ⟨rfl, HB2.out⟩
  by_cases h5 : l.length ≤ 5
  rotate_left 1
  · have d5 : (5 : Int) < (l.length : Int) := by omega
    obtain rfl : R = false := by rw [← HRL.out]; simp [h5]
    go_wp2_with fail
    go_ret
    exact ⟨rfl, HB2.out⟩
  have d5 : ¬ (5 : Int) < (l.length : Int) := by omega
  have HRO := Lib.hid (show R = itOK l l.length from by rw [← HRL.out]; simp [h5])
  go_wp2_with fail
  clear t0 t1 t2 t3 t4 t5 t6 t7
  go_loopw [3] (fun v wr => ∃ i : Nat, i ≤ l.length ∧ v = .int .i64 i ∧ RowKit.Hid (itOK l i = true) ∧ RowKit.Hid (Blk wr w.heap.size 32 [.int .i64 s, .int .i64 q, .int .i64 h, .int .i64 sq, .int .i64 wk, .int .i64 ep, .slice a l.length c, .bool en]) ∧ RowKit.Hid (Below w.heap.size w wr)) (fun v _ => l.length - (intOf v).toNat)
  case atStart => exact ⟨0, by omega, rfl, rfl, HX2, HB2⟩
  case round =>
    clear HX2 HB2
    obtain ⟨i, hi, rfl, HT, HX3, HB3⟩ := hrel
    have t6 : wr.cell? ⟨w.heap.size, 6, none⟩ = some (.slice a l.length c) := HX3.out.cell 6
    by_cases hlt : i < l.length
    · obtain ⟨x, hx⟩ : ∃ x, l[i]? = some x := ⟨_, List.getElem?_eq_getElem hlt⟩
      obtain ⟨bb, ob, rfl, hbb, hcx⟩ := (HRI.out wr HB3.out).2.2.2.2 i x hx
      have HC := Lib.hid (show ∀ W, Below w.heap.size w W → W.cell? ⟨bb, ob + i * 2, none⟩ = some (.int .i64 x.1) ∧ W.cell? ⟨bb, ob + i * 2 + 1, none⟩ = some (.string x.2) from fun W hb => by
        obtain ⟨b', o', e, _, hc⟩ := (HRI.out W hb).2.2.2.2 i x hx
        cases e
        exact ⟨hc 0 (by decide), hc 1 (by decide)⟩)
      have k1 : (0 : Int) ≤ (i : Int) := by omega
      have k2 : (i : Int) < (l.length : Int) := by omega
      have HXI := Lib.hid hx
      have HIT := Lib.hid (fun W => ritem15_any x W (HZ.out x (List.mem_of_getElem? hx)))
      have HXd := Lib.hid (show Blk wr.drew w.heap.size 32 [.int .i64 s, .int .i64 q, .int .i64 h, .int .i64 sq, .int .i64 wk, .int .i64 ep, .slice (some ⟨bb, ob, none⟩) l.length c, .bool en] from HX3.out)
      have HBd := Lib.hid HB3.out.drew
      clear hx hcx hbb
      go_wp2_with fail
      clear t6 HX3 HB3
      cases hib : itemB x
      · rw [hib] at HIT
        obtain rfl : R = false := by
          rw [HRO.out]
          have h1 : itOK l (i + 1) = false := by
            cases i with
            | zero => rw [itOK_zero HXI.out, hib]
            | succ m =>
              obtain ⟨y, hy⟩ : ∃ y, l[m]? = some y := ⟨_, List.getElem?_eq_getElem (by omega)⟩
              rw [itOK_succ HXI.out hy, hib]; simp
          exact itOK_no h1 l.length (by omega)
        clear hib
        refine wp_region_held_drew (S := (fun w' => w'.cell? ⟨w.heap.size, 6, none⟩ = some (.slice (some ⟨bb, ob, none⟩) l.length c) ∧ w'.cell? ⟨bb, ob + i * 2, none⟩ = some (.int .i64 x.1) ∧ w'.cell? ⟨bb, ob + i * 2 + 1, none⟩ = some (.string x.2))) (by kernel_rfl) (by first | exact ⟨HXd.out.cell 6, HC.out _ HBd.out⟩ | exact ⟨HX4.out.cell 6, HC.out _ HB4.out⟩) (fun hHeld => ?_)
        refine takeO 0 (some 44) (v := ?_) rfl rfl (by kernel_rfl) (by kernel_rfl) (by kernel_rfl) (fun _ _ _ h => h) (Or.inl ⟨by rfl, ?_⟩) (by assumption) ?_
        rotate_left 1
        · intro w hSw; (try dsimp only at hSw); go_simp; all_goals with_reducible rfl
        try simp only [Act.put, List.setIfInBounds_toArray, List.set_cons_zero, List.set_cons_succ]
        refine takeO 1 (some 45) (v := ?_) rfl rfl (by kernel_rfl) (by kernel_rfl) (by kernel_rfl) (fun _ _ _ h => h) (Or.inl ⟨by rfl, ?_⟩) (by assumption) ?_
        rotate_left 1
        · intro w hSw; (try dsimp only at hSw); go_simp; all_goals with_reducible rfl
        try simp only [Act.put, List.setIfInBounds_toArray, List.set_cons_zero, List.set_cons_succ]
        refine takeO 2 (some 46) (v := ?_) rfl rfl (by kernel_rfl) (by kernel_rfl) (by kernel_rfl) (fun _ _ _ h => h) (Or.inl ⟨by rfl, ?_⟩) (by assumption) ?_
        rotate_left 1
        · intro w hSw; (try dsimp only at hSw); go_simp; all_goals with_reducible rfl
        try simp only [Act.put, List.setIfInBounds_toArray, List.set_cons_zero, List.set_cons_succ]
        refine takeO 3 (some 47) (v := ?_) rfl rfl (by kernel_rfl) (by kernel_rfl) (by kernel_rfl) (fun _ _ _ h => h) (Or.inl ⟨by rfl, ?_⟩) (by assumption) ?_
        rotate_left 1
        · intro w hSw; (try dsimp only at hSw); go_simp; all_goals with_reducible rfl
        try simp only [Act.put, List.setIfInBounds_toArray, List.set_cons_zero, List.set_cons_succ]
        refine takeO 4 (some 48) (v := ?_) rfl rfl (by kernel_rfl) (by kernel_rfl) (by kernel_rfl) (fun _ _ _ h => h) (Or.inl ⟨by rfl, ?_⟩) (by assumption) ?_
        rotate_left 1
        · intro w hSw; (try dsimp only at hSw); go_simp; all_goals with_reducible rfl
        try simp only [Act.put, List.setIfInBounds_toArray, List.set_cons_zero, List.set_cons_succ]
        refine wpAnyH_ready (rs := [5]) (by kernel_rfl) (by simp) ?_
        refine AllReadyH.cons rfl (fun K hK => ?_) AllReadyH.nil
        go_simp
        refine (HIT.out _).mono ?_; rintro e w4 ⟨rfl, hb⟩; have HX4 := Lib.hid (HXd.out.below hb HXd.out.lt); have HB4 := Lib.hid (HBd.out.trans (hb.mono HBd.out.size)); clear hb
        go_wp2_with fail
        refine hK.out _ _ (by first | exact ⟨HXd.out.cell 6, HC.out _ HBd.out⟩ | exact ⟨HX4.out.cell 6, HC.out _ HB4.out⟩) (fun hHeld => ?_)
        clear hK K
        try simp only [Act.put, List.setIfInBounds_toArray, List.set_cons_zero, List.set_cons_succ]
        refine takeO 6 (some 50) (v := ?_) rfl rfl (by kernel_rfl) (by kernel_rfl) (by kernel_rfl) (fun _ _ _ h => h) (Or.inl ⟨by rfl, ?_⟩) (by assumption) ?_
        rotate_left 1
        · intro w hSw; (try dsimp only at hSw); go_simp; all_goals with_reducible rfl
        try simp only [Act.put, List.setIfInBounds_toArray, List.set_cons_zero, List.set_cons_succ]
        refine takeO 7 (some 51) (v := ?_) rfl rfl (by kernel_rfl) (by kernel_rfl) (by kernel_rfl) (fun _ _ _ h => h) (Or.inl ⟨by rfl, ?_⟩) (by assumption) ?_
        rotate_left 1
        · intro w hSw; (try dsimp only at hSw); go_simp; all_goals with_reducible rfl
        try simp only [Act.put, List.setIfInBounds_toArray, List.set_cons_zero, List.set_cons_succ]
        refine takeO 8 (some 52) (v := undef) rfl rfl (by kernel_rfl) (by kernel_rfl) (by kernel_rfl) (fun _ _ _ h => h) (Or.inr ⟨by rfl, rfl⟩) (by assumption) ?_
        try simp only [Act.put, List.setIfInBounds_toArray, List.set_cons_zero, List.set_cons_succ]
        refine takeO 9 (some 53) (v := undef) rfl rfl (by kernel_rfl) (by kernel_rfl) (by kernel_rfl) (fun _ _ _ h => h) (Or.inr ⟨by rfl, rfl⟩) (by assumption) ?_
        try simp only [Act.put, List.setIfInBounds_toArray, List.set_cons_zero, List.set_cons_succ]
        refine takeO 10 (some 54) (v := undef) rfl rfl (by kernel_rfl) (by kernel_rfl) (by kernel_rfl) (fun _ _ _ h => h) (Or.inr ⟨by rfl, rfl⟩) (by assumption) ?_
        try simp only [Act.put, List.setIfInBounds_toArray, List.set_cons_zero, List.set_cons_succ]
        refine takeO 11 (some 55) (v := undef) rfl rfl (by kernel_rfl) (by kernel_rfl) (by kernel_rfl) (fun _ _ _ h => h) (Or.inr ⟨by rfl, rfl⟩) (by assumption) ?_
        try simp only [Act.put, List.setIfInBounds_toArray, List.set_cons_zero, List.set_cons_succ]
        refine takeO 12 (some 56) (v := undef) rfl rfl (by kernel_rfl) (by kernel_rfl) (by kernel_rfl) (fun _ _ _ h => h) (Or.inr ⟨by rfl, rfl⟩) (by assumption) ?_
        try simp only [Act.put, List.setIfInBounds_toArray, List.set_cons_zero, List.set_cons_succ]
        refine takeO 13 (some 57) (v := undef) rfl rfl (by kernel_rfl) (by kernel_rfl) (by kernel_rfl) (fun _ _ _ h => h) (Or.inr ⟨by rfl, rfl⟩) (by assumption) ?_
        try simp only [Act.put, List.setIfInBounds_toArray, List.set_cons_zero, List.set_cons_succ]
        refine takeO 14 (some 58) (v := undef) rfl rfl (by kernel_rfl) (by kernel_rfl) (by kernel_rfl) (fun _ _ _ h => h) (Or.inr ⟨by rfl, rfl⟩) (by assumption) ?_
        try simp only [Act.put, List.setIfInBounds_toArray, List.set_cons_zero, List.set_cons_succ]
        refine takeO 15 (some 59) (v := undef) rfl rfl (by kernel_rfl) (by kernel_rfl) (by kernel_rfl) (fun _ _ _ h => h) (Or.inr ⟨by rfl, rfl⟩) (by assumption) ?_
        try simp only [Act.put, List.setIfInBounds_toArray, List.set_cons_zero, List.set_cons_succ]
        refine takeO 16 (some 60) (v := undef) rfl rfl (by kernel_rfl) (by kernel_rfl) (by kernel_rfl) (fun _ _ _ h => h) (Or.inr ⟨by rfl, rfl⟩) (by assumption) ?_
        try simp only [Act.put, List.setIfInBounds_toArray, List.set_cons_zero, List.set_cons_succ]
        refine takeO 17 (some 61) (v := undef) rfl rfl (by kernel_rfl) (by kernel_rfl) (by kernel_rfl) (fun _ _ _ h => h) (Or.inr ⟨by rfl, rfl⟩) (by assumption) ?_
        try simp only [Act.put, List.setIfInBounds_toArray, List.set_cons_zero, List.set_cons_succ]
        refine takeO 18 (some 62) (v := undef) rfl rfl (by kernel_rfl) (by kernel_rfl) (by kernel_rfl) (fun _ _ _ h => h) (Or.inr ⟨by rfl, rfl⟩) (by assumption) ?_
        try simp only [Act.put, List.setIfInBounds_toArray, List.set_cons_zero, List.set_cons_succ]
        refine takeO 19 (some 63) (v := undef) rfl rfl (by kernel_rfl) (by kernel_rfl) (by kernel_rfl) (fun _ _ _ h => h) (Or.inr ⟨by rfl, rfl⟩) (by assumption) ?_
        try simp only [Act.put, List.setIfInBounds_toArray, List.set_cons_zero, List.set_cons_succ]
        refine takeO 20 (some 64) (v := undef) rfl rfl (by kernel_rfl) (by kernel_rfl) (by kernel_rfl) (fun _ _ _ h => h) (Or.inr ⟨by rfl, rfl⟩) (by assumption) ?_
        try simp only [Act.put, List.setIfInBounds_toArray, List.set_cons_zero, List.set_cons_succ]
        refine takeO 21 (some 65) (v := undef) rfl rfl (by kernel_rfl) (by kernel_rfl) (by kernel_rfl) (fun _ _ _ h => h) (Or.inr ⟨by rfl, rfl⟩) (by assumption) ?_
        try simp only [Act.put, List.setIfInBounds_toArray, List.set_cons_zero, List.set_cons_succ]
        refine takeO 22 (some 66) (v := undef) rfl rfl (by kernel_rfl) (by kernel_rfl) (by kernel_rfl) (fun _ _ _ h => h) (Or.inr ⟨by rfl, rfl⟩) (by assumption) ?_
        try simp only [Act.put, List.setIfInBounds_toArray, List.set_cons_zero, List.set_cons_succ]
        refine takeO 23 (some 67) (v := undef) rfl rfl (by kernel_rfl) (by kernel_rfl) (by kernel_rfl) (fun _ _ _ h => h) (Or.inr ⟨by rfl, rfl⟩) (by assumption) ?_
        try simp only [Act.put, List.setIfInBounds_toArray, List.set_cons_zero, List.set_cons_succ]
        refine takeO 24 (some 68) (v := undef) rfl rfl (by kernel_rfl) (by kernel_rfl) (by kernel_rfl) (fun _ _ _ h => h) (Or.inr ⟨by rfl, rfl⟩) (by assumption) ?_
        try simp only [Act.put, List.setIfInBounds_toArray, List.set_cons_zero, List.set_cons_succ]
        refine takeO 25 (some 69) (v := ?_) rfl rfl (by kernel_rfl) (by kernel_rfl) (by kernel_rfl) (fun _ _ _ h => h) (Or.inl ⟨by rfl, ?_⟩) (by assumption) ?_
        rotate_left 1
        · intro w hSw; (try dsimp only at hSw); go_simp; all_goals with_reducible rfl
        try simp only [Act.put, List.setIfInBounds_toArray, List.set_cons_zero, List.set_cons_succ]
        refine wpAnyH_done (by kernel_rfl) ?_ _
        go_wp2_with fail
        go_ret
        exact ⟨rfl, HB4.out⟩
      rw [hib] at HIT
      by_cases hi0 : ¬ 0 < i
      · have HT2 := Lib.hid (show itOK l (i + 1) = true from (by (obtain rfl : i = 0 := by omega); rw [itOK_zero HXI.out, hib]))
        have k0 : decide ((0 : Int) < (i : Int)) = false := decide_eq_false (by omega)
        have k0n : decide (0 < i) = false := decide_eq_false hi0
        have k0m : i = 0 := by omega
        have HK0 := Lib.hid k0m
        clear hib hi0 k0m
        refine wp_region_held_drew (S := (fun w' => w'.cell? ⟨w.heap.size, 6, none⟩ = some (.slice (some ⟨bb, ob, none⟩) l.length c) ∧ w'.cell? ⟨bb, ob + i * 2, none⟩ = some (.int .i64 x.1) ∧ w'.cell? ⟨bb, ob + i * 2 + 1, none⟩ = some (.string x.2))) (by kernel_rfl) (by first | exact ⟨HXd.out.cell 6, HC.out _ HBd.out⟩ | exact ⟨HX4.out.cell 6, HC.out _ HB4.out⟩) (fun hHeld => ?_)
        refine takeO 0 (some 44) (v := ?_) rfl rfl (by kernel_rfl) (by kernel_rfl) (by kernel_rfl) (fun _ _ _ h => h) (Or.inl ⟨by rfl, ?_⟩) (by assumption) ?_
        rotate_left 1
        · intro w hSw; (try dsimp only at hSw); go_simp; all_goals with_reducible rfl
        try simp only [Act.put, List.setIfInBounds_toArray, List.set_cons_zero, List.set_cons_succ]
        refine takeO 1 (some 45) (v := ?_) rfl rfl (by kernel_rfl) (by kernel_rfl) (by kernel_rfl) (fun _ _ _ h => h) (Or.inl ⟨by rfl, ?_⟩) (by assumption) ?_
        rotate_left 1
        · intro w hSw; (try dsimp only at hSw); go_simp; all_goals with_reducible rfl
        try simp only [Act.put, List.setIfInBounds_toArray, List.set_cons_zero, List.set_cons_succ]
        refine takeO 2 (some 46) (v := ?_) rfl rfl (by kernel_rfl) (by kernel_rfl) (by kernel_rfl) (fun _ _ _ h => h) (Or.inl ⟨by rfl, ?_⟩) (by assumption) ?_
        rotate_left 1
        · intro w hSw; (try dsimp only at hSw); go_simp; all_goals with_reducible rfl
        try simp only [Act.put, List.setIfInBounds_toArray, List.set_cons_zero, List.set_cons_succ]
        refine takeO 3 (some 47) (v := ?_) rfl rfl (by kernel_rfl) (by kernel_rfl) (by kernel_rfl) (fun _ _ _ h => h) (Or.inl ⟨by rfl, ?_⟩) (by assumption) ?_
        rotate_left 1
        · intro w hSw; (try dsimp only at hSw); go_simp; all_goals with_reducible rfl
        try simp only [Act.put, List.setIfInBounds_toArray, List.set_cons_zero, List.set_cons_succ]
        refine takeO 4 (some 48) (v := ?_) rfl rfl (by kernel_rfl) (by kernel_rfl) (by kernel_rfl) (fun _ _ _ h => h) (Or.inl ⟨by rfl, ?_⟩) (by assumption) ?_
        rotate_left 1
        · intro w hSw; (try dsimp only at hSw); go_simp; all_goals with_reducible rfl
        try simp only [Act.put, List.setIfInBounds_toArray, List.set_cons_zero, List.set_cons_succ]
        refine wpAnyH_ready (rs := [5]) (by kernel_rfl) (by simp) ?_
        refine AllReadyH.cons rfl (fun K hK => ?_) AllReadyH.nil
        go_simp
        refine (HIT.out _).mono ?_; rintro e w4 ⟨rfl, hb⟩; have HX4 := Lib.hid (HXd.out.below hb HXd.out.lt); have HB4 := Lib.hid (HBd.out.trans (hb.mono HBd.out.size)); clear hb
        go_wp2_with fail
        refine hK.out _ _ (by first | exact ⟨HXd.out.cell 6, HC.out _ HBd.out⟩ | exact ⟨HX4.out.cell 6, HC.out _ HB4.out⟩) (fun hHeld => ?_)
        clear hK K
        try simp only [Act.put, List.setIfInBounds_toArray, List.set_cons_zero, List.set_cons_succ]
        refine takeO 6 (some 50) (v := ?_) rfl rfl (by kernel_rfl) (by kernel_rfl) (by kernel_rfl) (fun _ _ _ h => h) (Or.inl ⟨by rfl, ?_⟩) (by assumption) ?_
        rotate_left 1
        · intro w hSw; (try dsimp only at hSw); go_simp; all_goals with_reducible rfl
        try simp only [Act.put, List.setIfInBounds_toArray, List.set_cons_zero, List.set_cons_succ]
        refine takeO 7 (some 51) (v := ?_) rfl rfl (by kernel_rfl) (by kernel_rfl) (by kernel_rfl) (fun _ _ _ h => h) (Or.inl ⟨by rfl, ?_⟩) (by assumption) ?_
        rotate_left 1
        · intro w hSw; (try dsimp only at hSw); go_simp; all_goals with_reducible rfl
        try simp only [Act.put, List.setIfInBounds_toArray, List.set_cons_zero, List.set_cons_succ]
        refine takeO 8 (some 52) (v := ?_) rfl rfl (by kernel_rfl) (by kernel_rfl) (by kernel_rfl) (fun _ _ _ h => h) (Or.inl ⟨by rfl, ?_⟩) (by assumption) ?_
        rotate_left 1
        · intro w hSw; (try dsimp only at hSw); go_simp; all_goals with_reducible rfl
        try simp only [Act.put, List.setIfInBounds_toArray, List.set_cons_zero, List.set_cons_succ]
        refine takeO 9 (some 53) (v := ?_) rfl rfl (by kernel_rfl) (by kernel_rfl) (by kernel_rfl) (fun _ _ _ h => h) (Or.inl ⟨by rfl, ?_⟩) (by assumption) ?_
        rotate_left 1
        · intro w hSw; (try dsimp only at hSw); go_simp; all_goals with_reducible rfl
        try simp only [Act.put, List.setIfInBounds_toArray, List.set_cons_zero, List.set_cons_succ]
        refine takeO 10 (some 54) (v := ?_) rfl rfl (by kernel_rfl) (by kernel_rfl) (by kernel_rfl) (fun _ _ _ h => h) (Or.inl ⟨by rfl, ?_⟩) (by assumption) ?_
        rotate_left 1
        · intro w hSw; (try dsimp only at hSw); go_simp; all_goals with_reducible rfl
        try simp only [Act.put, List.setIfInBounds_toArray, List.set_cons_zero, List.set_cons_succ]
        refine takeO 11 (some 55) (v := undef) rfl rfl (by kernel_rfl) (by kernel_rfl) (by kernel_rfl) (fun _ _ _ h => h) (Or.inr ⟨by rfl, rfl⟩) (by assumption) ?_
        try simp only [Act.put, List.setIfInBounds_toArray, List.set_cons_zero, List.set_cons_succ]
        refine takeO 12 (some 56) (v := undef) rfl rfl (by kernel_rfl) (by kernel_rfl) (by kernel_rfl) (fun _ _ _ h => h) (Or.inr ⟨by rfl, rfl⟩) (by assumption) ?_
        try simp only [Act.put, List.setIfInBounds_toArray, List.set_cons_zero, List.set_cons_succ]
        refine takeO 13 (some 57) (v := undef) rfl rfl (by kernel_rfl) (by kernel_rfl) (by kernel_rfl) (fun _ _ _ h => h) (Or.inr ⟨by rfl, rfl⟩) (by assumption) ?_
        try simp only [Act.put, List.setIfInBounds_toArray, List.set_cons_zero, List.set_cons_succ]
        refine takeO 14 (some 58) (v := undef) rfl rfl (by kernel_rfl) (by kernel_rfl) (by kernel_rfl) (fun _ _ _ h => h) (Or.inr ⟨by rfl, rfl⟩) (by assumption) ?_
        try simp only [Act.put, List.setIfInBounds_toArray, List.set_cons_zero, List.set_cons_succ]
        refine takeO 15 (some 59) (v := undef) rfl rfl (by kernel_rfl) (by kernel_rfl) (by kernel_rfl) (fun _ _ _ h => h) (Or.inr ⟨by rfl, rfl⟩) (by assumption) ?_
        try simp only [Act.put, List.setIfInBounds_toArray, List.set_cons_zero, List.set_cons_succ]
        refine takeO 16 (some 60) (v := undef) rfl rfl (by kernel_rfl) (by kernel_rfl) (by kernel_rfl) (fun _ _ _ h => h) (Or.inr ⟨by rfl, rfl⟩) (by assumption) ?_
        try simp only [Act.put, List.setIfInBounds_toArray, List.set_cons_zero, List.set_cons_succ]
        refine takeO 17 (some 61) (v := undef) rfl rfl (by kernel_rfl) (by kernel_rfl) (by kernel_rfl) (fun _ _ _ h => h) (Or.inr ⟨by rfl, rfl⟩) (by assumption) ?_
        try simp only [Act.put, List.setIfInBounds_toArray, List.set_cons_zero, List.set_cons_succ]
        refine takeO 18 (some 62) (v := undef) rfl rfl (by kernel_rfl) (by kernel_rfl) (by kernel_rfl) (fun _ _ _ h => h) (Or.inr ⟨by rfl, rfl⟩) (by assumption) ?_
        try simp only [Act.put, List.setIfInBounds_toArray, List.set_cons_zero, List.set_cons_succ]
        refine takeO 19 (some 63) (v := undef) rfl rfl (by kernel_rfl) (by kernel_rfl) (by kernel_rfl) (fun _ _ _ h => h) (Or.inr ⟨by rfl, rfl⟩) (by assumption) ?_
        try simp only [Act.put, List.setIfInBounds_toArray, List.set_cons_zero, List.set_cons_succ]
        refine takeO 20 (some 64) (v := undef) rfl rfl (by kernel_rfl) (by kernel_rfl) (by kernel_rfl) (fun _ _ _ h => h) (Or.inr ⟨by rfl, rfl⟩) (by assumption) ?_
        try simp only [Act.put, List.setIfInBounds_toArray, List.set_cons_zero, List.set_cons_succ]
        refine takeO 21 (some 65) (v := undef) rfl rfl (by kernel_rfl) (by kernel_rfl) (by kernel_rfl) (fun _ _ _ h => h) (Or.inr ⟨by rfl, rfl⟩) (by assumption) ?_
        try simp only [Act.put, List.setIfInBounds_toArray, List.set_cons_zero, List.set_cons_succ]
        refine takeO 22 (some 66) (v := undef) rfl rfl (by kernel_rfl) (by kernel_rfl) (by kernel_rfl) (fun _ _ _ h => h) (Or.inr ⟨by rfl, rfl⟩) (by assumption) ?_
        try simp only [Act.put, List.setIfInBounds_toArray, List.set_cons_zero, List.set_cons_succ]
        refine takeO 23 (some 67) (v := undef) rfl rfl (by kernel_rfl) (by kernel_rfl) (by kernel_rfl) (fun _ _ _ h => h) (Or.inr ⟨by rfl, rfl⟩) (by assumption) ?_
        try simp only [Act.put, List.setIfInBounds_toArray, List.set_cons_zero, List.set_cons_succ]
        refine takeO 24 (some 68) (v := ?_) rfl rfl (by kernel_rfl) (by kernel_rfl) (by kernel_rfl) (fun _ _ _ h => h) (Or.inl ⟨by rfl, ?_⟩) (by assumption) ?_
        rotate_left 1
        · intro w hSw; (try dsimp only at hSw); go_simp; all_goals with_reducible rfl
        try simp only [Act.put, List.setIfInBounds_toArray, List.set_cons_zero, List.set_cons_succ]
        refine takeO 25 (some 69) (v := ?_) rfl rfl (by kernel_rfl) (by kernel_rfl) (by kernel_rfl) (fun _ _ _ h => h) (Or.inl ⟨by rfl, ?_⟩) (by assumption) ?_
        rotate_left 1
        · intro w hSw; (try dsimp only at hSw); go_simp; all_goals with_reducible rfl
        try simp only [Act.put, List.setIfInBounds_toArray, List.set_cons_zero, List.set_cons_succ]
        refine wpAnyH_done (by kernel_rfl) ?_ _
        go_wp2_with fail
        go_roundw
        case rel => exact ⟨i + 1, by omega, by go_num, HT2.out, HX4.out, HB4.out⟩
        case measure => simp [intOf]; omega
      · obtain ⟨m, hm⟩ : ∃ m, i = m + 1 := ⟨i - 1, by omega⟩
        obtain ⟨y, hy⟩ : ∃ y, l[m]? = some y := ⟨_, List.getElem?_eq_getElem (by omega)⟩
        have HCY := Lib.hid (show ∀ W, Below w.heap.size w W → W.cell? ⟨bb, ob + m * 2, none⟩ = some (.int .i64 y.1) ∧ W.cell? ⟨bb, ob + m * 2 + 1, none⟩ = some (.string y.2) from fun W hb => by
          obtain ⟨b', o', e, _, hc⟩ := (HRI.out W hb).2.2.2.2 m y hy
          cases e
          exact ⟨hc 0 (by decide), hc 1 (by decide)⟩)
        have HLS := Lib.hid (fun W => (show Calls Try.prog 71 #[.agg #[.int .i64 y.1, .string y.2], .agg #[.int .i64 x.1, .string x.2]] W fun e w' => e = .returned (.bool (kless y x)) ∧ Below W.heap.size W w' from ritless_any y.1 y.2 x.1 x.2 W (HZ.out y (List.mem_of_getElem? hy)) (HZ.out x (List.mem_of_getElem? HXI.out))))
        have HOK := Lib.hid (show itOK l (i + 1) = (itOK l i && (itemB x && kless y x)) from by subst hm; exact itOK_succ HXI.out hy)
        have kw : IntKind.i64.wrap ((i : Int) - 1) = (m : Int) := by rw [IntWalk.i64_in _ (by omega)]; omega
        have k3 : decide ((0 : Int) < (i : Int)) = true := decide_eq_true (by omega)
        have k3n : decide (0 < i) = true := decide_eq_true (by omega)
        have k4 : (0 : Int) ≤ (m : Int) := by omega
        have k5 : (m : Int) < (l.length : Int) := by omega
        have HMM := Lib.hid hm
        clear hy hm hi0
        cases hkl : kless y x
        · rw [hkl] at HLS
          obtain rfl : R = false := by
            rw [HRO.out]
            have h1 := HOK.out
            rw [hkl] at h1
            simp only [Bool.and_false] at h1
            exact itOK_no h1 l.length (by omega)
          clear hkl hib
          refine wp_region_held_drew (S := (fun w' => w'.cell? ⟨w.heap.size, 6, none⟩ = some (.slice (some ⟨bb, ob, none⟩) l.length c) ∧ w'.cell? ⟨bb, ob + i * 2, none⟩ = some (.int .i64 x.1) ∧ w'.cell? ⟨bb, ob + i * 2 + 1, none⟩ = some (.string x.2) ∧ w'.cell? ⟨bb, ob + m * 2, none⟩ = some (.int .i64 y.1) ∧ w'.cell? ⟨bb, ob + m * 2 + 1, none⟩ = some (.string y.2))) (by kernel_rfl) (by first | exact ⟨HXd.out.cell 6, (HC.out _ HBd.out).1, (HC.out _ HBd.out).2, HCY.out _ HBd.out⟩ | exact ⟨HX4.out.cell 6, (HC.out _ HB4.out).1, (HC.out _ HB4.out).2, HCY.out _ HB4.out⟩ | exact ⟨HX5.out.cell 6, (HC.out _ HB5.out).1, (HC.out _ HB5.out).2, HCY.out _ HB5.out⟩) (fun hHeld => ?_)
          refine takeO 0 (some 44) (v := ?_) rfl rfl (by kernel_rfl) (by kernel_rfl) (by kernel_rfl) (fun _ _ _ h => h) (Or.inl ⟨by rfl, ?_⟩) (by assumption) ?_
          rotate_left 1
          · intro w hSw; (try dsimp only at hSw); go_simp; all_goals with_reducible rfl
          try simp only [Act.put, List.setIfInBounds_toArray, List.set_cons_zero, List.set_cons_succ]
          refine takeO 1 (some 45) (v := ?_) rfl rfl (by kernel_rfl) (by kernel_rfl) (by kernel_rfl) (fun _ _ _ h => h) (Or.inl ⟨by rfl, ?_⟩) (by assumption) ?_
          rotate_left 1
          · intro w hSw; (try dsimp only at hSw); go_simp; all_goals with_reducible rfl
          try simp only [Act.put, List.setIfInBounds_toArray, List.set_cons_zero, List.set_cons_succ]
          refine takeO 2 (some 46) (v := ?_) rfl rfl (by kernel_rfl) (by kernel_rfl) (by kernel_rfl) (fun _ _ _ h => h) (Or.inl ⟨by rfl, ?_⟩) (by assumption) ?_
          rotate_left 1
          · intro w hSw; (try dsimp only at hSw); go_simp; all_goals with_reducible rfl
          try simp only [Act.put, List.setIfInBounds_toArray, List.set_cons_zero, List.set_cons_succ]
          refine takeO 3 (some 47) (v := ?_) rfl rfl (by kernel_rfl) (by kernel_rfl) (by kernel_rfl) (fun _ _ _ h => h) (Or.inl ⟨by rfl, ?_⟩) (by assumption) ?_
          rotate_left 1
          · intro w hSw; (try dsimp only at hSw); go_simp; all_goals with_reducible rfl
          try simp only [Act.put, List.setIfInBounds_toArray, List.set_cons_zero, List.set_cons_succ]
          refine takeO 4 (some 48) (v := ?_) rfl rfl (by kernel_rfl) (by kernel_rfl) (by kernel_rfl) (fun _ _ _ h => h) (Or.inl ⟨by rfl, ?_⟩) (by assumption) ?_
          rotate_left 1
          · intro w hSw; (try dsimp only at hSw); go_simp; all_goals with_reducible rfl
          try simp only [Act.put, List.setIfInBounds_toArray, List.set_cons_zero, List.set_cons_succ]
          refine wpAnyH_ready (rs := [5]) (by kernel_rfl) (by simp) ?_
          refine AllReadyH.cons rfl (fun K hK => ?_) AllReadyH.nil
          go_simp
          refine (HIT.out _).mono ?_; rintro e w4 ⟨rfl, hb⟩; have HX4 := Lib.hid (HXd.out.below hb HXd.out.lt); have HB4 := Lib.hid (HBd.out.trans (hb.mono HBd.out.size)); clear hb
          go_wp2_with fail
          refine hK.out _ _ (by first | exact ⟨HXd.out.cell 6, (HC.out _ HBd.out).1, (HC.out _ HBd.out).2, HCY.out _ HBd.out⟩ | exact ⟨HX4.out.cell 6, (HC.out _ HB4.out).1, (HC.out _ HB4.out).2, HCY.out _ HB4.out⟩ | exact ⟨HX5.out.cell 6, (HC.out _ HB5.out).1, (HC.out _ HB5.out).2, HCY.out _ HB5.out⟩) (fun hHeld => ?_)
          clear hK K
          try simp only [Act.put, List.setIfInBounds_toArray, List.set_cons_zero, List.set_cons_succ]
          refine takeO 6 (some 50) (v := ?_) rfl rfl (by kernel_rfl) (by kernel_rfl) (by kernel_rfl) (fun _ _ _ h => h) (Or.inl ⟨by rfl, ?_⟩) (by assumption) ?_
          rotate_left 1
          · intro w hSw; (try dsimp only at hSw); go_simp; all_goals with_reducible rfl
          try simp only [Act.put, List.setIfInBounds_toArray, List.set_cons_zero, List.set_cons_succ]
          refine takeO 7 (some 51) (v := ?_) rfl rfl (by kernel_rfl) (by kernel_rfl) (by kernel_rfl) (fun _ _ _ h => h) (Or.inl ⟨by rfl, ?_⟩) (by assumption) ?_
          rotate_left 1
          · intro w hSw; (try dsimp only at hSw); go_simp; all_goals with_reducible rfl
          try simp only [Act.put, List.setIfInBounds_toArray, List.set_cons_zero, List.set_cons_succ]
          refine takeO 8 (some 52) (v := ?_) rfl rfl (by kernel_rfl) (by kernel_rfl) (by kernel_rfl) (fun _ _ _ h => h) (Or.inl ⟨by rfl, ?_⟩) (by assumption) ?_
          rotate_left 1
          · intro w hSw; (try dsimp only at hSw); go_simp; all_goals with_reducible rfl
          try simp only [Act.put, List.setIfInBounds_toArray, List.set_cons_zero, List.set_cons_succ]
          refine takeO 9 (some 53) (v := ?_) rfl rfl (by kernel_rfl) (by kernel_rfl) (by kernel_rfl) (fun _ _ _ h => h) (Or.inl ⟨by rfl, ?_⟩) (by assumption) ?_
          rotate_left 1
          · intro w hSw; (try dsimp only at hSw); go_simp; all_goals with_reducible rfl
          try simp only [Act.put, List.setIfInBounds_toArray, List.set_cons_zero, List.set_cons_succ]
          refine takeO 10 (some 54) (v := ?_) rfl rfl (by kernel_rfl) (by kernel_rfl) (by kernel_rfl) (fun _ _ _ h => h) (Or.inl ⟨by rfl, ?_⟩) (by assumption) ?_
          rotate_left 1
          · intro w hSw; (try dsimp only at hSw); go_simp; all_goals with_reducible rfl
          try simp only [Act.put, List.setIfInBounds_toArray, List.set_cons_zero, List.set_cons_succ]
          refine takeO 11 (some 55) (v := ?_) rfl rfl (by kernel_rfl) (by kernel_rfl) (by kernel_rfl) (fun _ _ _ h => h) (Or.inl ⟨by rfl, ?_⟩) (by assumption) ?_
          rotate_left 1
          · intro w hSw; (try dsimp only at hSw); go_simp; all_goals with_reducible rfl
          try simp only [Act.put, List.setIfInBounds_toArray, List.set_cons_zero, List.set_cons_succ]
          refine takeO 12 (some 56) (v := ?_) rfl rfl (by kernel_rfl) (by kernel_rfl) (by kernel_rfl) (fun _ _ _ h => h) (Or.inl ⟨by rfl, ?_⟩) (by assumption) ?_
          rotate_left 1
          · intro w hSw; (try dsimp only at hSw); go_simp; all_goals with_reducible rfl
          try simp only [Act.put, List.setIfInBounds_toArray, List.set_cons_zero, List.set_cons_succ]
          refine takeO 13 (some 57) (v := ?_) rfl rfl (by kernel_rfl) (by kernel_rfl) (by kernel_rfl) (fun _ _ _ h => h) (Or.inl ⟨by rfl, ?_⟩) (by assumption) ?_
          rotate_left 1
          · intro w hSw; (try dsimp only at hSw); go_simp; all_goals with_reducible rfl
          try simp only [Act.put, List.setIfInBounds_toArray, List.set_cons_zero, List.set_cons_succ]
          refine takeO 14 (some 58) (v := ?_) rfl rfl (by kernel_rfl) (by kernel_rfl) (by kernel_rfl) (fun _ _ _ h => h) (Or.inl ⟨by rfl, ?_⟩) (by assumption) ?_
          rotate_left 1
          · intro w hSw; (try dsimp only at hSw); go_simp; all_goals with_reducible rfl
          try simp only [Act.put, List.setIfInBounds_toArray, List.set_cons_zero, List.set_cons_succ]
          refine takeO 15 (some 59) (v := ?_) rfl rfl (by kernel_rfl) (by kernel_rfl) (by kernel_rfl) (fun _ _ _ h => h) (Or.inl ⟨by rfl, ?_⟩) (by assumption) ?_
          rotate_left 1
          · intro w hSw; (try dsimp only at hSw); go_simp; all_goals with_reducible rfl
          try simp only [Act.put, List.setIfInBounds_toArray, List.set_cons_zero, List.set_cons_succ]
          refine takeO 16 (some 60) (v := ?_) rfl rfl (by kernel_rfl) (by kernel_rfl) (by kernel_rfl) (fun _ _ _ h => h) (Or.inl ⟨by rfl, ?_⟩) (by assumption) ?_
          rotate_left 1
          · intro w hSw; (try dsimp only at hSw); go_simp; all_goals with_reducible rfl
          try simp only [Act.put, List.setIfInBounds_toArray, List.set_cons_zero, List.set_cons_succ]
          refine takeO 17 (some 61) (v := ?_) rfl rfl (by kernel_rfl) (by kernel_rfl) (by kernel_rfl) (fun _ _ _ h => h) (Or.inl ⟨by rfl, ?_⟩) (by assumption) ?_
          rotate_left 1
          · intro w hSw; (try dsimp only at hSw); go_simp; all_goals with_reducible rfl
          try simp only [Act.put, List.setIfInBounds_toArray, List.set_cons_zero, List.set_cons_succ]
          refine takeO 18 (some 62) (v := ?_) rfl rfl (by kernel_rfl) (by kernel_rfl) (by kernel_rfl) (fun _ _ _ h => h) (Or.inl ⟨by rfl, ?_⟩) (by assumption) ?_
          rotate_left 1
          · intro w hSw; (try dsimp only at hSw); go_simp; all_goals with_reducible rfl
          try simp only [Act.put, List.setIfInBounds_toArray, List.set_cons_zero, List.set_cons_succ]
          refine takeO 19 (some 63) (v := ?_) rfl rfl (by kernel_rfl) (by kernel_rfl) (by kernel_rfl) (fun _ _ _ h => h) (Or.inl ⟨by rfl, ?_⟩) (by assumption) ?_
          rotate_left 1
          · intro w hSw; (try dsimp only at hSw); go_simp; all_goals with_reducible rfl
          try simp only [Act.put, List.setIfInBounds_toArray, List.set_cons_zero, List.set_cons_succ]
          refine takeO 20 (some 64) (v := ?_) rfl rfl (by kernel_rfl) (by kernel_rfl) (by kernel_rfl) (fun _ _ _ h => h) (Or.inl ⟨by rfl, ?_⟩) (by assumption) ?_
          rotate_left 1
          · intro w hSw; (try dsimp only at hSw); go_simp; all_goals with_reducible rfl
          try simp only [Act.put, List.setIfInBounds_toArray, List.set_cons_zero, List.set_cons_succ]
          refine takeO 21 (some 65) (v := ?_) rfl rfl (by kernel_rfl) (by kernel_rfl) (by kernel_rfl) (fun _ _ _ h => h) (Or.inl ⟨by rfl, ?_⟩) (by assumption) ?_
          rotate_left 1
          · intro w hSw; (try dsimp only at hSw); go_simp; all_goals with_reducible rfl
          try simp only [Act.put, List.setIfInBounds_toArray, List.set_cons_zero, List.set_cons_succ]
          refine wpAnyH_ready (rs := [22]) (by kernel_rfl) (by simp) ?_
          refine AllReadyH.cons rfl (fun K hK => ?_) AllReadyH.nil
          go_simp
          refine (HLS.out _).mono ?_; rintro e w5 ⟨rfl, hb⟩; have HX5 := Lib.hid (HX4.out.below hb HX4.out.lt); have HB5 := Lib.hid (HB4.out.trans (hb.mono HB4.out.size)); clear hb
          go_wp2_with fail
          refine hK.out _ _ (by first | exact ⟨HXd.out.cell 6, (HC.out _ HBd.out).1, (HC.out _ HBd.out).2, HCY.out _ HBd.out⟩ | exact ⟨HX4.out.cell 6, (HC.out _ HB4.out).1, (HC.out _ HB4.out).2, HCY.out _ HB4.out⟩ | exact ⟨HX5.out.cell 6, (HC.out _ HB5.out).1, (HC.out _ HB5.out).2, HCY.out _ HB5.out⟩) (fun hHeld => ?_)
          clear hK K
          try simp only [Act.put, List.setIfInBounds_toArray, List.set_cons_zero, List.set_cons_succ]
          refine takeO 23 (some 67) (v := ?_) rfl rfl (by kernel_rfl) (by kernel_rfl) (by kernel_rfl) (fun _ _ _ h => h) (Or.inl ⟨by rfl, ?_⟩) (by assumption) ?_
          rotate_left 1
          · intro w hSw; (try dsimp only at hSw); go_simp; all_goals with_reducible rfl
          try simp only [Act.put, List.setIfInBounds_toArray, List.set_cons_zero, List.set_cons_succ]
          refine takeO 24 (some 68) (v := ?_) rfl rfl (by kernel_rfl) (by kernel_rfl) (by kernel_rfl) (fun _ _ _ h => h) (Or.inl ⟨by rfl, ?_⟩) (by assumption) ?_
          rotate_left 1
          · intro w hSw; (try dsimp only at hSw); go_simp; all_goals with_reducible rfl
          try simp only [Act.put, List.setIfInBounds_toArray, List.set_cons_zero, List.set_cons_succ]
          refine takeO 25 (some 69) (v := ?_) rfl rfl (by kernel_rfl) (by kernel_rfl) (by kernel_rfl) (fun _ _ _ h => h) (Or.inl ⟨by rfl, ?_⟩) (by assumption) ?_
          rotate_left 1
          · intro w hSw; (try dsimp only at hSw); go_simp; all_goals with_reducible rfl
          try simp only [Act.put, List.setIfInBounds_toArray, List.set_cons_zero, List.set_cons_succ]
          refine wpAnyH_done (by kernel_rfl) ?_ _
          go_wp2_with fail
          go_ret
          exact ⟨rfl, HB5.out⟩
        · have HT2 := Lib.hid (show itOK l (i + 1) = true from by rw [HOK.out, hkl, hib, HT.out]; rfl)
          rw [hkl] at HLS
          clear hkl hib
          refine wp_region_held_drew (S := (fun w' => w'.cell? ⟨w.heap.size, 6, none⟩ = some (.slice (some ⟨bb, ob, none⟩) l.length c) ∧ w'.cell? ⟨bb, ob + i * 2, none⟩ = some (.int .i64 x.1) ∧ w'.cell? ⟨bb, ob + i * 2 + 1, none⟩ = some (.string x.2) ∧ w'.cell? ⟨bb, ob + m * 2, none⟩ = some (.int .i64 y.1) ∧ w'.cell? ⟨bb, ob + m * 2 + 1, none⟩ = some (.string y.2))) (by kernel_rfl) (by first | exact ⟨HXd.out.cell 6, (HC.out _ HBd.out).1, (HC.out _ HBd.out).2, HCY.out _ HBd.out⟩ | exact ⟨HX4.out.cell 6, (HC.out _ HB4.out).1, (HC.out _ HB4.out).2, HCY.out _ HB4.out⟩ | exact ⟨HX5.out.cell 6, (HC.out _ HB5.out).1, (HC.out _ HB5.out).2, HCY.out _ HB5.out⟩) (fun hHeld => ?_)
          refine takeO 0 (some 44) (v := ?_) rfl rfl (by kernel_rfl) (by kernel_rfl) (by kernel_rfl) (fun _ _ _ h => h) (Or.inl ⟨by rfl, ?_⟩) (by assumption) ?_
          rotate_left 1
          · intro w hSw; (try dsimp only at hSw); go_simp; all_goals with_reducible rfl
          try simp only [Act.put, List.setIfInBounds_toArray, List.set_cons_zero, List.set_cons_succ]
          refine takeO 1 (some 45) (v := ?_) rfl rfl (by kernel_rfl) (by kernel_rfl) (by kernel_rfl) (fun _ _ _ h => h) (Or.inl ⟨by rfl, ?_⟩) (by assumption) ?_
          rotate_left 1
          · intro w hSw; (try dsimp only at hSw); go_simp; all_goals with_reducible rfl
          try simp only [Act.put, List.setIfInBounds_toArray, List.set_cons_zero, List.set_cons_succ]
          refine takeO 2 (some 46) (v := ?_) rfl rfl (by kernel_rfl) (by kernel_rfl) (by kernel_rfl) (fun _ _ _ h => h) (Or.inl ⟨by rfl, ?_⟩) (by assumption) ?_
          rotate_left 1
          · intro w hSw; (try dsimp only at hSw); go_simp; all_goals with_reducible rfl
          try simp only [Act.put, List.setIfInBounds_toArray, List.set_cons_zero, List.set_cons_succ]
          refine takeO 3 (some 47) (v := ?_) rfl rfl (by kernel_rfl) (by kernel_rfl) (by kernel_rfl) (fun _ _ _ h => h) (Or.inl ⟨by rfl, ?_⟩) (by assumption) ?_
          rotate_left 1
          · intro w hSw; (try dsimp only at hSw); go_simp; all_goals with_reducible rfl
          try simp only [Act.put, List.setIfInBounds_toArray, List.set_cons_zero, List.set_cons_succ]
          refine takeO 4 (some 48) (v := ?_) rfl rfl (by kernel_rfl) (by kernel_rfl) (by kernel_rfl) (fun _ _ _ h => h) (Or.inl ⟨by rfl, ?_⟩) (by assumption) ?_
          rotate_left 1
          · intro w hSw; (try dsimp only at hSw); go_simp; all_goals with_reducible rfl
          try simp only [Act.put, List.setIfInBounds_toArray, List.set_cons_zero, List.set_cons_succ]
          refine wpAnyH_ready (rs := [5]) (by kernel_rfl) (by simp) ?_
          refine AllReadyH.cons rfl (fun K hK => ?_) AllReadyH.nil
          go_simp
          refine (HIT.out _).mono ?_; rintro e w4 ⟨rfl, hb⟩; have HX4 := Lib.hid (HXd.out.below hb HXd.out.lt); have HB4 := Lib.hid (HBd.out.trans (hb.mono HBd.out.size)); clear hb
          go_wp2_with fail
          refine hK.out _ _ (by first | exact ⟨HXd.out.cell 6, (HC.out _ HBd.out).1, (HC.out _ HBd.out).2, HCY.out _ HBd.out⟩ | exact ⟨HX4.out.cell 6, (HC.out _ HB4.out).1, (HC.out _ HB4.out).2, HCY.out _ HB4.out⟩ | exact ⟨HX5.out.cell 6, (HC.out _ HB5.out).1, (HC.out _ HB5.out).2, HCY.out _ HB5.out⟩) (fun hHeld => ?_)
          clear hK K
          try simp only [Act.put, List.setIfInBounds_toArray, List.set_cons_zero, List.set_cons_succ]
          refine takeO 6 (some 50) (v := ?_) rfl rfl (by kernel_rfl) (by kernel_rfl) (by kernel_rfl) (fun _ _ _ h => h) (Or.inl ⟨by rfl, ?_⟩) (by assumption) ?_
          rotate_left 1
          · intro w hSw; (try dsimp only at hSw); go_simp; all_goals with_reducible rfl
          try simp only [Act.put, List.setIfInBounds_toArray, List.set_cons_zero, List.set_cons_succ]
          refine takeO 7 (some 51) (v := ?_) rfl rfl (by kernel_rfl) (by kernel_rfl) (by kernel_rfl) (fun _ _ _ h => h) (Or.inl ⟨by rfl, ?_⟩) (by assumption) ?_
          rotate_left 1
          · intro w hSw; (try dsimp only at hSw); go_simp; all_goals with_reducible rfl
          try simp only [Act.put, List.setIfInBounds_toArray, List.set_cons_zero, List.set_cons_succ]
          refine takeO 8 (some 52) (v := ?_) rfl rfl (by kernel_rfl) (by kernel_rfl) (by kernel_rfl) (fun _ _ _ h => h) (Or.inl ⟨by rfl, ?_⟩) (by assumption) ?_
          rotate_left 1
          · intro w hSw; (try dsimp only at hSw); go_simp; all_goals with_reducible rfl
          try simp only [Act.put, List.setIfInBounds_toArray, List.set_cons_zero, List.set_cons_succ]
          refine takeO 9 (some 53) (v := ?_) rfl rfl (by kernel_rfl) (by kernel_rfl) (by kernel_rfl) (fun _ _ _ h => h) (Or.inl ⟨by rfl, ?_⟩) (by assumption) ?_
          rotate_left 1
          · intro w hSw; (try dsimp only at hSw); go_simp; all_goals with_reducible rfl
          try simp only [Act.put, List.setIfInBounds_toArray, List.set_cons_zero, List.set_cons_succ]
          refine takeO 10 (some 54) (v := ?_) rfl rfl (by kernel_rfl) (by kernel_rfl) (by kernel_rfl) (fun _ _ _ h => h) (Or.inl ⟨by rfl, ?_⟩) (by assumption) ?_
          rotate_left 1
          · intro w hSw; (try dsimp only at hSw); go_simp; all_goals with_reducible rfl
          try simp only [Act.put, List.setIfInBounds_toArray, List.set_cons_zero, List.set_cons_succ]
          refine takeO 11 (some 55) (v := ?_) rfl rfl (by kernel_rfl) (by kernel_rfl) (by kernel_rfl) (fun _ _ _ h => h) (Or.inl ⟨by rfl, ?_⟩) (by assumption) ?_
          rotate_left 1
          · intro w hSw; (try dsimp only at hSw); go_simp; all_goals with_reducible rfl
          try simp only [Act.put, List.setIfInBounds_toArray, List.set_cons_zero, List.set_cons_succ]
          refine takeO 12 (some 56) (v := ?_) rfl rfl (by kernel_rfl) (by kernel_rfl) (by kernel_rfl) (fun _ _ _ h => h) (Or.inl ⟨by rfl, ?_⟩) (by assumption) ?_
          rotate_left 1
          · intro w hSw; (try dsimp only at hSw); go_simp; all_goals with_reducible rfl
          try simp only [Act.put, List.setIfInBounds_toArray, List.set_cons_zero, List.set_cons_succ]
          refine takeO 13 (some 57) (v := ?_) rfl rfl (by kernel_rfl) (by kernel_rfl) (by kernel_rfl) (fun _ _ _ h => h) (Or.inl ⟨by rfl, ?_⟩) (by assumption) ?_
          rotate_left 1
          · intro w hSw; (try dsimp only at hSw); go_simp; all_goals with_reducible rfl
          try simp only [Act.put, List.setIfInBounds_toArray, List.set_cons_zero, List.set_cons_succ]
          refine takeO 14 (some 58) (v := ?_) rfl rfl (by kernel_rfl) (by kernel_rfl) (by kernel_rfl) (fun _ _ _ h => h) (Or.inl ⟨by rfl, ?_⟩) (by assumption) ?_
          rotate_left 1
          · intro w hSw; (try dsimp only at hSw); go_simp; all_goals with_reducible rfl
          try simp only [Act.put, List.setIfInBounds_toArray, List.set_cons_zero, List.set_cons_succ]
          refine takeO 15 (some 59) (v := ?_) rfl rfl (by kernel_rfl) (by kernel_rfl) (by kernel_rfl) (fun _ _ _ h => h) (Or.inl ⟨by rfl, ?_⟩) (by assumption) ?_
          rotate_left 1
          · intro w hSw; (try dsimp only at hSw); go_simp; all_goals with_reducible rfl
          try simp only [Act.put, List.setIfInBounds_toArray, List.set_cons_zero, List.set_cons_succ]
          refine takeO 16 (some 60) (v := ?_) rfl rfl (by kernel_rfl) (by kernel_rfl) (by kernel_rfl) (fun _ _ _ h => h) (Or.inl ⟨by rfl, ?_⟩) (by assumption) ?_
          rotate_left 1
          · intro w hSw; (try dsimp only at hSw); go_simp; all_goals with_reducible rfl
          try simp only [Act.put, List.setIfInBounds_toArray, List.set_cons_zero, List.set_cons_succ]
          refine takeO 17 (some 61) (v := ?_) rfl rfl (by kernel_rfl) (by kernel_rfl) (by kernel_rfl) (fun _ _ _ h => h) (Or.inl ⟨by rfl, ?_⟩) (by assumption) ?_
          rotate_left 1
          · intro w hSw; (try dsimp only at hSw); go_simp; all_goals with_reducible rfl
          try simp only [Act.put, List.setIfInBounds_toArray, List.set_cons_zero, List.set_cons_succ]
          refine takeO 18 (some 62) (v := ?_) rfl rfl (by kernel_rfl) (by kernel_rfl) (by kernel_rfl) (fun _ _ _ h => h) (Or.inl ⟨by rfl, ?_⟩) (by assumption) ?_
          rotate_left 1
          · intro w hSw; (try dsimp only at hSw); go_simp; all_goals with_reducible rfl
          try simp only [Act.put, List.setIfInBounds_toArray, List.set_cons_zero, List.set_cons_succ]
          refine takeO 19 (some 63) (v := ?_) rfl rfl (by kernel_rfl) (by kernel_rfl) (by kernel_rfl) (fun _ _ _ h => h) (Or.inl ⟨by rfl, ?_⟩) (by assumption) ?_
          rotate_left 1
          · intro w hSw; (try dsimp only at hSw); go_simp; all_goals with_reducible rfl
          try simp only [Act.put, List.setIfInBounds_toArray, List.set_cons_zero, List.set_cons_succ]
          refine takeO 20 (some 64) (v := ?_) rfl rfl (by kernel_rfl) (by kernel_rfl) (by kernel_rfl) (fun _ _ _ h => h) (Or.inl ⟨by rfl, ?_⟩) (by assumption) ?_
          rotate_left 1
          · intro w hSw; (try dsimp only at hSw); go_simp; all_goals with_reducible rfl
          try simp only [Act.put, List.setIfInBounds_toArray, List.set_cons_zero, List.set_cons_succ]
          refine takeO 21 (some 65) (v := ?_) rfl rfl (by kernel_rfl) (by kernel_rfl) (by kernel_rfl) (fun _ _ _ h => h) (Or.inl ⟨by rfl, ?_⟩) (by assumption) ?_
          rotate_left 1
          · intro w hSw; (try dsimp only at hSw); go_simp; all_goals with_reducible rfl
          try simp only [Act.put, List.setIfInBounds_toArray, List.set_cons_zero, List.set_cons_succ]
          refine wpAnyH_ready (rs := [22]) (by kernel_rfl) (by simp) ?_
          refine AllReadyH.cons rfl (fun K hK => ?_) AllReadyH.nil
          go_simp
          refine (HLS.out _).mono ?_; rintro e w5 ⟨rfl, hb⟩; have HX5 := Lib.hid (HX4.out.below hb HX4.out.lt); have HB5 := Lib.hid (HB4.out.trans (hb.mono HB4.out.size)); clear hb
          go_wp2_with fail
          refine hK.out _ _ (by first | exact ⟨HXd.out.cell 6, (HC.out _ HBd.out).1, (HC.out _ HBd.out).2, HCY.out _ HBd.out⟩ | exact ⟨HX4.out.cell 6, (HC.out _ HB4.out).1, (HC.out _ HB4.out).2, HCY.out _ HB4.out⟩ | exact ⟨HX5.out.cell 6, (HC.out _ HB5.out).1, (HC.out _ HB5.out).2, HCY.out _ HB5.out⟩) (fun hHeld => ?_)
          clear hK K
          try simp only [Act.put, List.setIfInBounds_toArray, List.set_cons_zero, List.set_cons_succ]
          refine takeO 23 (some 67) (v := ?_) rfl rfl (by kernel_rfl) (by kernel_rfl) (by kernel_rfl) (fun _ _ _ h => h) (Or.inl ⟨by rfl, ?_⟩) (by assumption) ?_
          rotate_left 1
          · intro w hSw; (try dsimp only at hSw); go_simp; all_goals with_reducible rfl
          try simp only [Act.put, List.setIfInBounds_toArray, List.set_cons_zero, List.set_cons_succ]
          refine takeO 24 (some 68) (v := ?_) rfl rfl (by kernel_rfl) (by kernel_rfl) (by kernel_rfl) (fun _ _ _ h => h) (Or.inl ⟨by rfl, ?_⟩) (by assumption) ?_
          rotate_left 1
          · intro w hSw; (try dsimp only at hSw); go_simp; all_goals with_reducible rfl
          try simp only [Act.put, List.setIfInBounds_toArray, List.set_cons_zero, List.set_cons_succ]
          refine takeO 25 (some 69) (v := ?_) rfl rfl (by kernel_rfl) (by kernel_rfl) (by kernel_rfl) (fun _ _ _ h => h) (Or.inl ⟨by rfl, ?_⟩) (by assumption) ?_
          rotate_left 1
          · intro w hSw; (try dsimp only at hSw); go_simp; all_goals with_reducible rfl
          try simp only [Act.put, List.setIfInBounds_toArray, List.set_cons_zero, List.set_cons_succ]
          refine wpAnyH_done (by kernel_rfl) ?_ _
          go_wp2_with fail
          go_roundw
          case rel => exact ⟨i + 1, by omega, by go_num, HT2.out, HX5.out, HB5.out⟩
          case measure => simp [intOf]; omega
    · obtain rfl : i = l.length := by omega
      obtain rfl : R = true := by rw [HRO.out]; exact HT.out
      go_wp2_with fail
      go_ret
      exact ⟨rfl, HB3.out⟩
end Go.Proofs.Ytjhkdbcfkaaffaa
/- The document's messages; Of, May. -/
namespace Go.Proofs.Ytjhkdbcfkaaffaa
open Go.RowKit
set_option linter.unusedVariables false

/-- the message that a Msg of the document is -/
def P5.kd (p : P5) (k : Int) : MV :=
  if k = 1 then (.hello p.hw p.hl) else if k = 2 then (.grant p.gw p.gl p.ge) else if k = 3 then (.ask p.ai p.aq p.ah p.an p.ae p.ax p.ak p.ab p.af p.ad p.aw) else if k = 4 then (.reply p.rs p.rq p.rh p.rn p.rw p.re p.rl p.rb) else if k = 5 then (.stop p.ss p.sq) else .nil
def P5.msg (p : P5) (k : Int) : Value := .agg #[.int .i64 k, .int .i64 p.hw, .int .i64 p.hl, .int .i64 p.gw, .int .i64 p.gl, .int .i64 p.ge, .int .i64 p.ai, .int .i64 p.aq, .int .i64 p.ah, .int .i64 p.an, .int .i64 p.ae, .string p.ax, .int .i64 p.ak, .int .i64 p.ab, .bool p.af, .int .i64 p.ad, .string p.aw, .int .i64 p.rs, .int .i64 p.rq, .int .i64 p.rh, .int .i64 p.rn, .int .i64 p.rw, .int .i64 p.re, .slice p.ra p.rl.length p.rc, .bool p.rb, .int .i64 p.ss, .int .i64 p.sq]
/-- its items lie in the world, its texts are of moderate size -/
def P5.fit (p : P5) (w : World) : Prop := RdE KeyL.cells 2 w p.ra p.rl.length p.rc p.rl ∧ (∀ x ∈ p.rl, x.2.size ≤ 2000) ∧ p.ax.size ≤ 2000 ∧ p.aw.size ≤ 2000
set_option maxRecDepth 100000 in
theorem P5.fit.below {p : P5} {w w' : World} (h : p.fit w) (hb : Below w.heap.size w w') : p.fit w' := ⟨h.1.below hb rfl, h.2⟩
set_option maxRecDepth 100000 in
theorem P5.fit.short {p : P5} {w : World} (h : p.fit w) (k : Int) : (p.kd k).short := by
  unfold P5.kd
  repeat' split
  all_goals first | trivial | exact h.2.2 | exact h.2.1
set_option maxRecDepth 100000 in
set_option maxHeartbeats 8000000 in
theorem rmay_hello (p : P5) (w : World) (hf : p.fit w) : Calls Try.prog 20 #[.agg #[.int .i64 1, .int .i64 p.hw, .int .i64 p.hl, .int .i64 p.gw, .int .i64 p.gl, .int .i64 p.ge, .int .i64 p.ai, .int .i64 p.aq, .int .i64 p.ah, .int .i64 p.an, .int .i64 p.ae, .string p.ax, .int .i64 p.ak, .int .i64 p.ab, .bool p.af, .int .i64 p.ad, .string p.aw, .int .i64 p.rs, .int .i64 p.rq, .int .i64 p.rh, .int .i64 p.rn, .int .i64 p.rw, .int .i64 p.re, .slice p.ra p.rl.length p.rc, .bool p.rb, .int .i64 p.ss, .int .i64 p.sq]] w fun e w' => e = .returned (.bool (MV.may (.hello p.hw p.hl))) ∧ Below w.heap.size w w' := by
  have HI := Lib.hid (fun W => rin_any p.hw 1 5 W)
  have HEQ := Lib.hid (show MV.may (.hello p.hw p.hl) = (inB p.hw 1 5 && withinL [p.hl]) from rfl)
  rw [HEQ.out]
  clear hf
  have HB := Lib.hid ((Below.refl w.heap.size w).alloc (Nat.le_refl _) (.cells #[.int .i64 1, .int .i64 p.hw, .int .i64 p.hl, .int .i64 p.gw, .int .i64 p.gl, .int .i64 p.ge, .int .i64 p.ai, .int .i64 p.aq, .int .i64 p.ah, .int .i64 p.an, .int .i64 p.ae, .string p.ax, .int .i64 p.ak, .int .i64 p.ab, .bool p.af, .int .i64 p.ad, .string p.aw, .int .i64 p.rs, .int .i64 p.rq, .int .i64 p.rh, .int .i64 p.rn, .int .i64 p.rw, .int .i64 p.re, .slice p.ra p.rl.length p.rc, .bool p.rb, .int .i64 p.ss, .int .i64 p.sq] 46))
  have HX := Lib.hid (show Blk (w.alloc (.cells #[.int .i64 1, .int .i64 p.hw, .int .i64 p.hl, .int .i64 p.gw, .int .i64 p.gl, .int .i64 p.ge, .int .i64 p.ai, .int .i64 p.aq, .int .i64 p.ah, .int .i64 p.an, .int .i64 p.ae, .string p.ax, .int .i64 p.ak, .int .i64 p.ab, .bool p.af, .int .i64 p.ad, .string p.aw, .int .i64 p.rs, .int .i64 p.rq, .int .i64 p.rh, .int .i64 p.rn, .int .i64 p.rw, .int .i64 p.re, .slice p.ra p.rl.length p.rc, .bool p.rb, .int .i64 p.ss, .int .i64 p.sq] 46)) w.heap.size 46 [.int .i64 1, .int .i64 p.hw, .int .i64 p.hl, .int .i64 p.gw, .int .i64 p.gl, .int .i64 p.ge, .int .i64 p.ai, .int .i64 p.aq, .int .i64 p.ah, .int .i64 p.an, .int .i64 p.ae, .string p.ax, .int .i64 p.ak, .int .i64 p.ab, .bool p.af, .int .i64 p.ad, .string p.aw, .int .i64 p.rs, .int .i64 p.rq, .int .i64 p.rh, .int .i64 p.rn, .int .i64 p.rw, .int .i64 p.re, .slice p.ra p.rl.length p.rc, .bool p.rb, .int .i64 p.ss, .int .i64 p.sq] from heap_alloc_new w _)
  obtain ⟨W0, hW0⟩ : ∃ W0, w.alloc (.cells #[.int .i64 1, .int .i64 p.hw, .int .i64 p.hl, .int .i64 p.gw, .int .i64 p.gl, .int .i64 p.ge, .int .i64 p.ai, .int .i64 p.aq, .int .i64 p.ah, .int .i64 p.an, .int .i64 p.ae, .string p.ax, .int .i64 p.ak, .int .i64 p.ab, .bool p.af, .int .i64 p.ad, .string p.aw, .int .i64 p.rs, .int .i64 p.rq, .int .i64 p.rh, .int .i64 p.rn, .int .i64 p.rw, .int .i64 p.re, .slice p.ra p.rl.length p.rc, .bool p.rb, .int .i64 p.ss, .int .i64 p.sq] 46) = W0 := ⟨_, rfl⟩
  rw [hW0] at HB HX
  have HB1 := Lib.hid (HB.out.alloc HB.out.size (.cells (ints [p.hl]).toArray 3))
  have HN := Lib.hid (rnums15_any (some ⟨W0.heap.size, 0, none⟩) 1 1 [p.hl] (W0.alloc (.cells (ints [p.hl]).toArray 3)) (new_ints W0 [p.hl] (by simp [maxLen])))
  clear HEQ
  generalize inB p.hw 1 5 = A at *
  generalize withinL [p.hl] = B at *
  have t0 : W0.cell? ⟨w.heap.size, 0, none⟩ = some (.int .i64 1) := HX.out.cell 0
  have t1 : W0.cell? ⟨w.heap.size, 1, none⟩ = some (.int .i64 p.hw) := HX.out.cell 1
  have t2 : W0.cell? ⟨w.heap.size, 2, none⟩ = some (.int .i64 p.hl) := HX.out.cell 2
  have t3 : W0.cell? ⟨w.heap.size, 3, none⟩ = some (.int .i64 p.gw) := HX.out.cell 3
  have t4 : W0.cell? ⟨w.heap.size, 4, none⟩ = some (.int .i64 p.gl) := HX.out.cell 4
  have t5 : W0.cell? ⟨w.heap.size, 5, none⟩ = some (.int .i64 p.ge) := HX.out.cell 5
  have t6 : W0.cell? ⟨w.heap.size, 6, none⟩ = some (.int .i64 p.ai) := HX.out.cell 6
  have t7 : W0.cell? ⟨w.heap.size, 7, none⟩ = some (.int .i64 p.aq) := HX.out.cell 7
  have t8 : W0.cell? ⟨w.heap.size, 8, none⟩ = some (.int .i64 p.ah) := HX.out.cell 8
  have t9 : W0.cell? ⟨w.heap.size, 9, none⟩ = some (.int .i64 p.an) := HX.out.cell 9
  have t10 : W0.cell? ⟨w.heap.size, 10, none⟩ = some (.int .i64 p.ae) := HX.out.cell 10
  have t11 : W0.cell? ⟨w.heap.size, 11, none⟩ = some (.string p.ax) := HX.out.cell 11
  have t12 : W0.cell? ⟨w.heap.size, 12, none⟩ = some (.int .i64 p.ak) := HX.out.cell 12
  have t13 : W0.cell? ⟨w.heap.size, 13, none⟩ = some (.int .i64 p.ab) := HX.out.cell 13
  have t14 : W0.cell? ⟨w.heap.size, 14, none⟩ = some (.bool p.af) := HX.out.cell 14
  have t15 : W0.cell? ⟨w.heap.size, 15, none⟩ = some (.int .i64 p.ad) := HX.out.cell 15
  have t16 : W0.cell? ⟨w.heap.size, 16, none⟩ = some (.string p.aw) := HX.out.cell 16
  have t17 : W0.cell? ⟨w.heap.size, 17, none⟩ = some (.int .i64 p.rs) := HX.out.cell 17
  have t18 : W0.cell? ⟨w.heap.size, 18, none⟩ = some (.int .i64 p.rq) := HX.out.cell 18
  have t19 : W0.cell? ⟨w.heap.size, 19, none⟩ = some (.int .i64 p.rh) := HX.out.cell 19
  have t20 : W0.cell? ⟨w.heap.size, 20, none⟩ = some (.int .i64 p.rn) := HX.out.cell 20
  have t21 : W0.cell? ⟨w.heap.size, 21, none⟩ = some (.int .i64 p.rw) := HX.out.cell 21
  have t22 : W0.cell? ⟨w.heap.size, 22, none⟩ = some (.int .i64 p.re) := HX.out.cell 22
  have t23 : W0.cell? ⟨w.heap.size, 23, none⟩ = some (.slice p.ra p.rl.length p.rc) := HX.out.cell 23
  have t24 : W0.cell? ⟨w.heap.size, 24, none⟩ = some (.bool p.rb) := HX.out.cell 24
  have t25 : W0.cell? ⟨w.heap.size, 25, none⟩ = some (.int .i64 p.ss) := HX.out.cell 25
  have t26 : W0.cell? ⟨w.heap.size, 26, none⟩ = some (.int .i64 p.sq) := HX.out.cell 26
  go_enter Try.func20, Try.ntmps20
  go_wp2_with (rw [hW0])
  refine (HI.out _).mono ?_
  rintro e w' ⟨rfl, rfl⟩
  clear hW0
  cases A
  · go_wp2_with fail
    go_ret
    exact ⟨rfl, HB.out⟩
  · go_wp2_with fail
    refine HN.out.mono ?_
    rintro e w1 ⟨rfl, hb⟩
    have HB2 := Lib.hid (HB1.out.trans (hb.mono HB1.out.size))
    clear hb
    go_wp2_with fail
    go_ret
    exact ⟨by simp, HB2.out⟩
set_option maxRecDepth 100000 in
set_option maxHeartbeats 8000000 in
theorem rmay_grant (p : P5) (w : World) (hf : p.fit w) : Calls Try.prog 20 #[.agg #[.int .i64 2, .int .i64 p.hw, .int .i64 p.hl, .int .i64 p.gw, .int .i64 p.gl, .int .i64 p.ge, .int .i64 p.ai, .int .i64 p.aq, .int .i64 p.ah, .int .i64 p.an, .int .i64 p.ae, .string p.ax, .int .i64 p.ak, .int .i64 p.ab, .bool p.af, .int .i64 p.ad, .string p.aw, .int .i64 p.rs, .int .i64 p.rq, .int .i64 p.rh, .int .i64 p.rn, .int .i64 p.rw, .int .i64 p.re, .slice p.ra p.rl.length p.rc, .bool p.rb, .int .i64 p.ss, .int .i64 p.sq]] w fun e w' => e = .returned (.bool (MV.may (.grant p.gw p.gl p.ge))) ∧ Below w.heap.size w w' := by
  have HI := Lib.hid (fun W => rin_any p.gw 1 5 W)
  have HEQ := Lib.hid (show MV.may (.grant p.gw p.gl p.ge) = (inB p.gw 1 5 && withinL [p.gl, p.ge]) from rfl)
  rw [HEQ.out]
  clear hf
  have HB := Lib.hid ((Below.refl w.heap.size w).alloc (Nat.le_refl _) (.cells #[.int .i64 2, .int .i64 p.hw, .int .i64 p.hl, .int .i64 p.gw, .int .i64 p.gl, .int .i64 p.ge, .int .i64 p.ai, .int .i64 p.aq, .int .i64 p.ah, .int .i64 p.an, .int .i64 p.ae, .string p.ax, .int .i64 p.ak, .int .i64 p.ab, .bool p.af, .int .i64 p.ad, .string p.aw, .int .i64 p.rs, .int .i64 p.rq, .int .i64 p.rh, .int .i64 p.rn, .int .i64 p.rw, .int .i64 p.re, .slice p.ra p.rl.length p.rc, .bool p.rb, .int .i64 p.ss, .int .i64 p.sq] 46))
  have HX := Lib.hid (show Blk (w.alloc (.cells #[.int .i64 2, .int .i64 p.hw, .int .i64 p.hl, .int .i64 p.gw, .int .i64 p.gl, .int .i64 p.ge, .int .i64 p.ai, .int .i64 p.aq, .int .i64 p.ah, .int .i64 p.an, .int .i64 p.ae, .string p.ax, .int .i64 p.ak, .int .i64 p.ab, .bool p.af, .int .i64 p.ad, .string p.aw, .int .i64 p.rs, .int .i64 p.rq, .int .i64 p.rh, .int .i64 p.rn, .int .i64 p.rw, .int .i64 p.re, .slice p.ra p.rl.length p.rc, .bool p.rb, .int .i64 p.ss, .int .i64 p.sq] 46)) w.heap.size 46 [.int .i64 2, .int .i64 p.hw, .int .i64 p.hl, .int .i64 p.gw, .int .i64 p.gl, .int .i64 p.ge, .int .i64 p.ai, .int .i64 p.aq, .int .i64 p.ah, .int .i64 p.an, .int .i64 p.ae, .string p.ax, .int .i64 p.ak, .int .i64 p.ab, .bool p.af, .int .i64 p.ad, .string p.aw, .int .i64 p.rs, .int .i64 p.rq, .int .i64 p.rh, .int .i64 p.rn, .int .i64 p.rw, .int .i64 p.re, .slice p.ra p.rl.length p.rc, .bool p.rb, .int .i64 p.ss, .int .i64 p.sq] from heap_alloc_new w _)
  obtain ⟨W0, hW0⟩ : ∃ W0, w.alloc (.cells #[.int .i64 2, .int .i64 p.hw, .int .i64 p.hl, .int .i64 p.gw, .int .i64 p.gl, .int .i64 p.ge, .int .i64 p.ai, .int .i64 p.aq, .int .i64 p.ah, .int .i64 p.an, .int .i64 p.ae, .string p.ax, .int .i64 p.ak, .int .i64 p.ab, .bool p.af, .int .i64 p.ad, .string p.aw, .int .i64 p.rs, .int .i64 p.rq, .int .i64 p.rh, .int .i64 p.rn, .int .i64 p.rw, .int .i64 p.re, .slice p.ra p.rl.length p.rc, .bool p.rb, .int .i64 p.ss, .int .i64 p.sq] 46) = W0 := ⟨_, rfl⟩
  rw [hW0] at HB HX
  have HB1 := Lib.hid (HB.out.alloc HB.out.size (.cells (ints [p.gl, p.ge]).toArray 3))
  have HN := Lib.hid (rnums15_any (some ⟨W0.heap.size, 0, none⟩) 2 2 [p.gl, p.ge] (W0.alloc (.cells (ints [p.gl, p.ge]).toArray 3)) (new_ints W0 [p.gl, p.ge] (by simp [maxLen])))
  clear HEQ
  generalize inB p.gw 1 5 = A at *
  generalize withinL [p.gl, p.ge] = B at *
  have t0 : W0.cell? ⟨w.heap.size, 0, none⟩ = some (.int .i64 2) := HX.out.cell 0
  have t1 : W0.cell? ⟨w.heap.size, 1, none⟩ = some (.int .i64 p.hw) := HX.out.cell 1
  have t2 : W0.cell? ⟨w.heap.size, 2, none⟩ = some (.int .i64 p.hl) := HX.out.cell 2
  have t3 : W0.cell? ⟨w.heap.size, 3, none⟩ = some (.int .i64 p.gw) := HX.out.cell 3
  have t4 : W0.cell? ⟨w.heap.size, 4, none⟩ = some (.int .i64 p.gl) := HX.out.cell 4
  have t5 : W0.cell? ⟨w.heap.size, 5, none⟩ = some (.int .i64 p.ge) := HX.out.cell 5
  have t6 : W0.cell? ⟨w.heap.size, 6, none⟩ = some (.int .i64 p.ai) := HX.out.cell 6
  have t7 : W0.cell? ⟨w.heap.size, 7, none⟩ = some (.int .i64 p.aq) := HX.out.cell 7
  have t8 : W0.cell? ⟨w.heap.size, 8, none⟩ = some (.int .i64 p.ah) := HX.out.cell 8
  have t9 : W0.cell? ⟨w.heap.size, 9, none⟩ = some (.int .i64 p.an) := HX.out.cell 9
  have t10 : W0.cell? ⟨w.heap.size, 10, none⟩ = some (.int .i64 p.ae) := HX.out.cell 10
  have t11 : W0.cell? ⟨w.heap.size, 11, none⟩ = some (.string p.ax) := HX.out.cell 11
  have t12 : W0.cell? ⟨w.heap.size, 12, none⟩ = some (.int .i64 p.ak) := HX.out.cell 12
  have t13 : W0.cell? ⟨w.heap.size, 13, none⟩ = some (.int .i64 p.ab) := HX.out.cell 13
  have t14 : W0.cell? ⟨w.heap.size, 14, none⟩ = some (.bool p.af) := HX.out.cell 14
  have t15 : W0.cell? ⟨w.heap.size, 15, none⟩ = some (.int .i64 p.ad) := HX.out.cell 15
  have t16 : W0.cell? ⟨w.heap.size, 16, none⟩ = some (.string p.aw) := HX.out.cell 16
  have t17 : W0.cell? ⟨w.heap.size, 17, none⟩ = some (.int .i64 p.rs) := HX.out.cell 17
  have t18 : W0.cell? ⟨w.heap.size, 18, none⟩ = some (.int .i64 p.rq) := HX.out.cell 18
  have t19 : W0.cell? ⟨w.heap.size, 19, none⟩ = some (.int .i64 p.rh) := HX.out.cell 19
  have t20 : W0.cell? ⟨w.heap.size, 20, none⟩ = some (.int .i64 p.rn) := HX.out.cell 20
  have t21 : W0.cell? ⟨w.heap.size, 21, none⟩ = some (.int .i64 p.rw) := HX.out.cell 21
  have t22 : W0.cell? ⟨w.heap.size, 22, none⟩ = some (.int .i64 p.re) := HX.out.cell 22
  have t23 : W0.cell? ⟨w.heap.size, 23, none⟩ = some (.slice p.ra p.rl.length p.rc) := HX.out.cell 23
  have t24 : W0.cell? ⟨w.heap.size, 24, none⟩ = some (.bool p.rb) := HX.out.cell 24
  have t25 : W0.cell? ⟨w.heap.size, 25, none⟩ = some (.int .i64 p.ss) := HX.out.cell 25
  have t26 : W0.cell? ⟨w.heap.size, 26, none⟩ = some (.int .i64 p.sq) := HX.out.cell 26
  go_enter Try.func20, Try.ntmps20
  go_wp2_with (rw [hW0])
  refine (HI.out _).mono ?_
  rintro e w' ⟨rfl, rfl⟩
  clear hW0
  cases A
  · go_wp2_with fail
    go_ret
    exact ⟨rfl, HB.out⟩
  · go_wp2_with fail
    refine HN.out.mono ?_
    rintro e w1 ⟨rfl, hb⟩
    have HB2 := Lib.hid (HB1.out.trans (hb.mono HB1.out.size))
    clear hb
    go_wp2_with fail
    go_ret
    exact ⟨by simp, HB2.out⟩
set_option maxRecDepth 100000 in
set_option maxHeartbeats 8000000 in
theorem rmay_stop (p : P5) (w : World) (hf : p.fit w) : Calls Try.prog 20 #[.agg #[.int .i64 5, .int .i64 p.hw, .int .i64 p.hl, .int .i64 p.gw, .int .i64 p.gl, .int .i64 p.ge, .int .i64 p.ai, .int .i64 p.aq, .int .i64 p.ah, .int .i64 p.an, .int .i64 p.ae, .string p.ax, .int .i64 p.ak, .int .i64 p.ab, .bool p.af, .int .i64 p.ad, .string p.aw, .int .i64 p.rs, .int .i64 p.rq, .int .i64 p.rh, .int .i64 p.rn, .int .i64 p.rw, .int .i64 p.re, .slice p.ra p.rl.length p.rc, .bool p.rb, .int .i64 p.ss, .int .i64 p.sq]] w fun e w' => e = .returned (.bool (MV.may (.stop p.ss p.sq))) ∧ Below w.heap.size w w' := by
  have HI := Lib.hid (fun W => rin_any p.ss 0 3 W)
  have HEQ := Lib.hid (show MV.may (.stop p.ss p.sq) = (inB p.ss 0 3 && withinL [p.sq]) from by show (placeB p.ss 0 && withinL [p.sq]) = _; rw [placeB_eq, show inB 0 0 5 = true from rfl, Bool.and_true])
  rw [HEQ.out]
  clear hf
  have HB := Lib.hid ((Below.refl w.heap.size w).alloc (Nat.le_refl _) (.cells #[.int .i64 5, .int .i64 p.hw, .int .i64 p.hl, .int .i64 p.gw, .int .i64 p.gl, .int .i64 p.ge, .int .i64 p.ai, .int .i64 p.aq, .int .i64 p.ah, .int .i64 p.an, .int .i64 p.ae, .string p.ax, .int .i64 p.ak, .int .i64 p.ab, .bool p.af, .int .i64 p.ad, .string p.aw, .int .i64 p.rs, .int .i64 p.rq, .int .i64 p.rh, .int .i64 p.rn, .int .i64 p.rw, .int .i64 p.re, .slice p.ra p.rl.length p.rc, .bool p.rb, .int .i64 p.ss, .int .i64 p.sq] 46))
  have HX := Lib.hid (show Blk (w.alloc (.cells #[.int .i64 5, .int .i64 p.hw, .int .i64 p.hl, .int .i64 p.gw, .int .i64 p.gl, .int .i64 p.ge, .int .i64 p.ai, .int .i64 p.aq, .int .i64 p.ah, .int .i64 p.an, .int .i64 p.ae, .string p.ax, .int .i64 p.ak, .int .i64 p.ab, .bool p.af, .int .i64 p.ad, .string p.aw, .int .i64 p.rs, .int .i64 p.rq, .int .i64 p.rh, .int .i64 p.rn, .int .i64 p.rw, .int .i64 p.re, .slice p.ra p.rl.length p.rc, .bool p.rb, .int .i64 p.ss, .int .i64 p.sq] 46)) w.heap.size 46 [.int .i64 5, .int .i64 p.hw, .int .i64 p.hl, .int .i64 p.gw, .int .i64 p.gl, .int .i64 p.ge, .int .i64 p.ai, .int .i64 p.aq, .int .i64 p.ah, .int .i64 p.an, .int .i64 p.ae, .string p.ax, .int .i64 p.ak, .int .i64 p.ab, .bool p.af, .int .i64 p.ad, .string p.aw, .int .i64 p.rs, .int .i64 p.rq, .int .i64 p.rh, .int .i64 p.rn, .int .i64 p.rw, .int .i64 p.re, .slice p.ra p.rl.length p.rc, .bool p.rb, .int .i64 p.ss, .int .i64 p.sq] from heap_alloc_new w _)
  obtain ⟨W0, hW0⟩ : ∃ W0, w.alloc (.cells #[.int .i64 5, .int .i64 p.hw, .int .i64 p.hl, .int .i64 p.gw, .int .i64 p.gl, .int .i64 p.ge, .int .i64 p.ai, .int .i64 p.aq, .int .i64 p.ah, .int .i64 p.an, .int .i64 p.ae, .string p.ax, .int .i64 p.ak, .int .i64 p.ab, .bool p.af, .int .i64 p.ad, .string p.aw, .int .i64 p.rs, .int .i64 p.rq, .int .i64 p.rh, .int .i64 p.rn, .int .i64 p.rw, .int .i64 p.re, .slice p.ra p.rl.length p.rc, .bool p.rb, .int .i64 p.ss, .int .i64 p.sq] 46) = W0 := ⟨_, rfl⟩
  rw [hW0] at HB HX
  have HB1 := Lib.hid (HB.out.alloc HB.out.size (.cells (ints [p.sq]).toArray 3))
  have HN := Lib.hid (rnums15_any (some ⟨W0.heap.size, 0, none⟩) 1 1 [p.sq] (W0.alloc (.cells (ints [p.sq]).toArray 3)) (new_ints W0 [p.sq] (by simp [maxLen])))
  clear HEQ
  generalize inB p.ss 0 3 = A at *
  generalize withinL [p.sq] = B at *
  have t0 : W0.cell? ⟨w.heap.size, 0, none⟩ = some (.int .i64 5) := HX.out.cell 0
  have t1 : W0.cell? ⟨w.heap.size, 1, none⟩ = some (.int .i64 p.hw) := HX.out.cell 1
  have t2 : W0.cell? ⟨w.heap.size, 2, none⟩ = some (.int .i64 p.hl) := HX.out.cell 2
  have t3 : W0.cell? ⟨w.heap.size, 3, none⟩ = some (.int .i64 p.gw) := HX.out.cell 3
  have t4 : W0.cell? ⟨w.heap.size, 4, none⟩ = some (.int .i64 p.gl) := HX.out.cell 4
  have t5 : W0.cell? ⟨w.heap.size, 5, none⟩ = some (.int .i64 p.ge) := HX.out.cell 5
  have t6 : W0.cell? ⟨w.heap.size, 6, none⟩ = some (.int .i64 p.ai) := HX.out.cell 6
  have t7 : W0.cell? ⟨w.heap.size, 7, none⟩ = some (.int .i64 p.aq) := HX.out.cell 7
  have t8 : W0.cell? ⟨w.heap.size, 8, none⟩ = some (.int .i64 p.ah) := HX.out.cell 8
  have t9 : W0.cell? ⟨w.heap.size, 9, none⟩ = some (.int .i64 p.an) := HX.out.cell 9
  have t10 : W0.cell? ⟨w.heap.size, 10, none⟩ = some (.int .i64 p.ae) := HX.out.cell 10
  have t11 : W0.cell? ⟨w.heap.size, 11, none⟩ = some (.string p.ax) := HX.out.cell 11
  have t12 : W0.cell? ⟨w.heap.size, 12, none⟩ = some (.int .i64 p.ak) := HX.out.cell 12
  have t13 : W0.cell? ⟨w.heap.size, 13, none⟩ = some (.int .i64 p.ab) := HX.out.cell 13
  have t14 : W0.cell? ⟨w.heap.size, 14, none⟩ = some (.bool p.af) := HX.out.cell 14
  have t15 : W0.cell? ⟨w.heap.size, 15, none⟩ = some (.int .i64 p.ad) := HX.out.cell 15
  have t16 : W0.cell? ⟨w.heap.size, 16, none⟩ = some (.string p.aw) := HX.out.cell 16
  have t17 : W0.cell? ⟨w.heap.size, 17, none⟩ = some (.int .i64 p.rs) := HX.out.cell 17
  have t18 : W0.cell? ⟨w.heap.size, 18, none⟩ = some (.int .i64 p.rq) := HX.out.cell 18
  have t19 : W0.cell? ⟨w.heap.size, 19, none⟩ = some (.int .i64 p.rh) := HX.out.cell 19
  have t20 : W0.cell? ⟨w.heap.size, 20, none⟩ = some (.int .i64 p.rn) := HX.out.cell 20
  have t21 : W0.cell? ⟨w.heap.size, 21, none⟩ = some (.int .i64 p.rw) := HX.out.cell 21
  have t22 : W0.cell? ⟨w.heap.size, 22, none⟩ = some (.int .i64 p.re) := HX.out.cell 22
  have t23 : W0.cell? ⟨w.heap.size, 23, none⟩ = some (.slice p.ra p.rl.length p.rc) := HX.out.cell 23
  have t24 : W0.cell? ⟨w.heap.size, 24, none⟩ = some (.bool p.rb) := HX.out.cell 24
  have t25 : W0.cell? ⟨w.heap.size, 25, none⟩ = some (.int .i64 p.ss) := HX.out.cell 25
  have t26 : W0.cell? ⟨w.heap.size, 26, none⟩ = some (.int .i64 p.sq) := HX.out.cell 26
  go_enter Try.func20, Try.ntmps20
  go_wp2_with (rw [hW0])
  refine (HI.out _).mono ?_
  rintro e w' ⟨rfl, rfl⟩
  clear hW0
  cases A
  · go_wp2_with fail
    go_ret
    exact ⟨rfl, HB.out⟩
  · go_wp2_with fail
    refine HN.out.mono ?_
    rintro e w1 ⟨rfl, hb⟩
    have HB2 := Lib.hid (HB1.out.trans (hb.mono HB1.out.size))
    clear hb
    go_wp2_with fail
    go_ret
    exact ⟨by simp, HB2.out⟩
set_option maxRecDepth 100000 in
set_option maxHeartbeats 8000000 in
theorem rmay_ask (p : P5) (w : World) (hf : p.fit w) : Calls Try.prog 20 #[.agg #[.int .i64 3, .int .i64 p.hw, .int .i64 p.hl, .int .i64 p.gw, .int .i64 p.gl, .int .i64 p.ge, .int .i64 p.ai, .int .i64 p.aq, .int .i64 p.ah, .int .i64 p.an, .int .i64 p.ae, .string p.ax, .int .i64 p.ak, .int .i64 p.ab, .bool p.af, .int .i64 p.ad, .string p.aw, .int .i64 p.rs, .int .i64 p.rq, .int .i64 p.rh, .int .i64 p.rn, .int .i64 p.rw, .int .i64 p.re, .slice p.ra p.rl.length p.rc, .bool p.rb, .int .i64 p.ss, .int .i64 p.sq]] w fun e w' => e = .returned (.bool (MV.may (.ask p.ai p.aq p.ah p.an p.ae p.ax p.ak p.ab p.af p.ad p.aw))) ∧ Below w.heap.size w w' := by
  have HM := Lib.hid (fun W => rmayask_any p.ai p.aq p.ah p.an p.ae p.ax p.ak p.ab p.af p.ad p.aw W (by have := hf.2.2.1; omega) (by have := hf.2.2.2; omega))
  rw [show MV.may (.ask p.ai p.aq p.ah p.an p.ae p.ax p.ak p.ab p.af p.ad p.aw) = askB p.ai p.aq p.ah p.an p.ae p.ax p.ak p.ab p.af p.ad p.aw from rfl]
  clear hf
  have HB := Lib.hid ((Below.refl w.heap.size w).alloc (Nat.le_refl _) (.cells #[.int .i64 3, .int .i64 p.hw, .int .i64 p.hl, .int .i64 p.gw, .int .i64 p.gl, .int .i64 p.ge, .int .i64 p.ai, .int .i64 p.aq, .int .i64 p.ah, .int .i64 p.an, .int .i64 p.ae, .string p.ax, .int .i64 p.ak, .int .i64 p.ab, .bool p.af, .int .i64 p.ad, .string p.aw, .int .i64 p.rs, .int .i64 p.rq, .int .i64 p.rh, .int .i64 p.rn, .int .i64 p.rw, .int .i64 p.re, .slice p.ra p.rl.length p.rc, .bool p.rb, .int .i64 p.ss, .int .i64 p.sq] 46))
  have HX := Lib.hid (show Blk (w.alloc (.cells #[.int .i64 3, .int .i64 p.hw, .int .i64 p.hl, .int .i64 p.gw, .int .i64 p.gl, .int .i64 p.ge, .int .i64 p.ai, .int .i64 p.aq, .int .i64 p.ah, .int .i64 p.an, .int .i64 p.ae, .string p.ax, .int .i64 p.ak, .int .i64 p.ab, .bool p.af, .int .i64 p.ad, .string p.aw, .int .i64 p.rs, .int .i64 p.rq, .int .i64 p.rh, .int .i64 p.rn, .int .i64 p.rw, .int .i64 p.re, .slice p.ra p.rl.length p.rc, .bool p.rb, .int .i64 p.ss, .int .i64 p.sq] 46)) w.heap.size 46 [.int .i64 3, .int .i64 p.hw, .int .i64 p.hl, .int .i64 p.gw, .int .i64 p.gl, .int .i64 p.ge, .int .i64 p.ai, .int .i64 p.aq, .int .i64 p.ah, .int .i64 p.an, .int .i64 p.ae, .string p.ax, .int .i64 p.ak, .int .i64 p.ab, .bool p.af, .int .i64 p.ad, .string p.aw, .int .i64 p.rs, .int .i64 p.rq, .int .i64 p.rh, .int .i64 p.rn, .int .i64 p.rw, .int .i64 p.re, .slice p.ra p.rl.length p.rc, .bool p.rb, .int .i64 p.ss, .int .i64 p.sq] from heap_alloc_new w _)
  obtain ⟨W0, hW0⟩ : ∃ W0, w.alloc (.cells #[.int .i64 3, .int .i64 p.hw, .int .i64 p.hl, .int .i64 p.gw, .int .i64 p.gl, .int .i64 p.ge, .int .i64 p.ai, .int .i64 p.aq, .int .i64 p.ah, .int .i64 p.an, .int .i64 p.ae, .string p.ax, .int .i64 p.ak, .int .i64 p.ab, .bool p.af, .int .i64 p.ad, .string p.aw, .int .i64 p.rs, .int .i64 p.rq, .int .i64 p.rh, .int .i64 p.rn, .int .i64 p.rw, .int .i64 p.re, .slice p.ra p.rl.length p.rc, .bool p.rb, .int .i64 p.ss, .int .i64 p.sq] 46) = W0 := ⟨_, rfl⟩
  rw [hW0] at HB HX
  generalize askB p.ai p.aq p.ah p.an p.ae p.ax p.ak p.ab p.af p.ad p.aw = A at *
  have t0 : W0.cell? ⟨w.heap.size, 0, none⟩ = some (.int .i64 3) := HX.out.cell 0
  have t1 : W0.cell? ⟨w.heap.size, 1, none⟩ = some (.int .i64 p.hw) := HX.out.cell 1
  have t2 : W0.cell? ⟨w.heap.size, 2, none⟩ = some (.int .i64 p.hl) := HX.out.cell 2
  have t3 : W0.cell? ⟨w.heap.size, 3, none⟩ = some (.int .i64 p.gw) := HX.out.cell 3
  have t4 : W0.cell? ⟨w.heap.size, 4, none⟩ = some (.int .i64 p.gl) := HX.out.cell 4
  have t5 : W0.cell? ⟨w.heap.size, 5, none⟩ = some (.int .i64 p.ge) := HX.out.cell 5
  have t6 : W0.cell? ⟨w.heap.size, 6, none⟩ = some (.int .i64 p.ai) := HX.out.cell 6
  have t7 : W0.cell? ⟨w.heap.size, 7, none⟩ = some (.int .i64 p.aq) := HX.out.cell 7
  have t8 : W0.cell? ⟨w.heap.size, 8, none⟩ = some (.int .i64 p.ah) := HX.out.cell 8
  have t9 : W0.cell? ⟨w.heap.size, 9, none⟩ = some (.int .i64 p.an) := HX.out.cell 9
  have t10 : W0.cell? ⟨w.heap.size, 10, none⟩ = some (.int .i64 p.ae) := HX.out.cell 10
  have t11 : W0.cell? ⟨w.heap.size, 11, none⟩ = some (.string p.ax) := HX.out.cell 11
  have t12 : W0.cell? ⟨w.heap.size, 12, none⟩ = some (.int .i64 p.ak) := HX.out.cell 12
  have t13 : W0.cell? ⟨w.heap.size, 13, none⟩ = some (.int .i64 p.ab) := HX.out.cell 13
  have t14 : W0.cell? ⟨w.heap.size, 14, none⟩ = some (.bool p.af) := HX.out.cell 14
  have t15 : W0.cell? ⟨w.heap.size, 15, none⟩ = some (.int .i64 p.ad) := HX.out.cell 15
  have t16 : W0.cell? ⟨w.heap.size, 16, none⟩ = some (.string p.aw) := HX.out.cell 16
  have t17 : W0.cell? ⟨w.heap.size, 17, none⟩ = some (.int .i64 p.rs) := HX.out.cell 17
  have t18 : W0.cell? ⟨w.heap.size, 18, none⟩ = some (.int .i64 p.rq) := HX.out.cell 18
  have t19 : W0.cell? ⟨w.heap.size, 19, none⟩ = some (.int .i64 p.rh) := HX.out.cell 19
  have t20 : W0.cell? ⟨w.heap.size, 20, none⟩ = some (.int .i64 p.rn) := HX.out.cell 20
  have t21 : W0.cell? ⟨w.heap.size, 21, none⟩ = some (.int .i64 p.rw) := HX.out.cell 21
  have t22 : W0.cell? ⟨w.heap.size, 22, none⟩ = some (.int .i64 p.re) := HX.out.cell 22
  have t23 : W0.cell? ⟨w.heap.size, 23, none⟩ = some (.slice p.ra p.rl.length p.rc) := HX.out.cell 23
  have t24 : W0.cell? ⟨w.heap.size, 24, none⟩ = some (.bool p.rb) := HX.out.cell 24
  have t25 : W0.cell? ⟨w.heap.size, 25, none⟩ = some (.int .i64 p.ss) := HX.out.cell 25
  have t26 : W0.cell? ⟨w.heap.size, 26, none⟩ = some (.int .i64 p.sq) := HX.out.cell 26
  go_enter Try.func20, Try.ntmps20
  go_wp2_with (rw [hW0])
  refine (HM.out _).mono ?_
  rintro e w1 ⟨rfl, hb⟩
  have HB2 := Lib.hid (HB.out.trans (hb.mono HB.out.size))
  clear hb hW0
  go_wp2_with fail
  go_ret
  exact ⟨rfl, HB2.out⟩
set_option maxRecDepth 100000 in
set_option maxHeartbeats 8000000 in
theorem rmay_reply (p : P5) (w : World) (hf : p.fit w) : Calls Try.prog 20 #[.agg #[.int .i64 4, .int .i64 p.hw, .int .i64 p.hl, .int .i64 p.gw, .int .i64 p.gl, .int .i64 p.ge, .int .i64 p.ai, .int .i64 p.aq, .int .i64 p.ah, .int .i64 p.an, .int .i64 p.ae, .string p.ax, .int .i64 p.ak, .int .i64 p.ab, .bool p.af, .int .i64 p.ad, .string p.aw, .int .i64 p.rs, .int .i64 p.rq, .int .i64 p.rh, .int .i64 p.rn, .int .i64 p.rw, .int .i64 p.re, .slice p.ra p.rl.length p.rc, .bool p.rb, .int .i64 p.ss, .int .i64 p.sq]] w fun e w' => e = .returned (.bool (MV.may (.reply p.rs p.rq p.rh p.rn p.rw p.re p.rl p.rb))) ∧ Below w.heap.size w w' := by
  have HM := Lib.hid (fun W (hb : Below w.heap.size w W) => rmayreply_any p.rs p.rq p.rh p.rn p.rw p.re p.rl p.rb p.ra p.rc W (hf.1.below hb rfl) (fun x hx => by have := hf.2.1 x hx; omega))
  rw [show MV.may (.reply p.rs p.rq p.rh p.rn p.rw p.re p.rl p.rb) = replyB p.rs p.rq p.rh p.rn p.rw p.re p.rl from rfl]
  clear hf
  have HB := Lib.hid ((Below.refl w.heap.size w).alloc (Nat.le_refl _) (.cells #[.int .i64 4, .int .i64 p.hw, .int .i64 p.hl, .int .i64 p.gw, .int .i64 p.gl, .int .i64 p.ge, .int .i64 p.ai, .int .i64 p.aq, .int .i64 p.ah, .int .i64 p.an, .int .i64 p.ae, .string p.ax, .int .i64 p.ak, .int .i64 p.ab, .bool p.af, .int .i64 p.ad, .string p.aw, .int .i64 p.rs, .int .i64 p.rq, .int .i64 p.rh, .int .i64 p.rn, .int .i64 p.rw, .int .i64 p.re, .slice p.ra p.rl.length p.rc, .bool p.rb, .int .i64 p.ss, .int .i64 p.sq] 46))
  have HX := Lib.hid (show Blk (w.alloc (.cells #[.int .i64 4, .int .i64 p.hw, .int .i64 p.hl, .int .i64 p.gw, .int .i64 p.gl, .int .i64 p.ge, .int .i64 p.ai, .int .i64 p.aq, .int .i64 p.ah, .int .i64 p.an, .int .i64 p.ae, .string p.ax, .int .i64 p.ak, .int .i64 p.ab, .bool p.af, .int .i64 p.ad, .string p.aw, .int .i64 p.rs, .int .i64 p.rq, .int .i64 p.rh, .int .i64 p.rn, .int .i64 p.rw, .int .i64 p.re, .slice p.ra p.rl.length p.rc, .bool p.rb, .int .i64 p.ss, .int .i64 p.sq] 46)) w.heap.size 46 [.int .i64 4, .int .i64 p.hw, .int .i64 p.hl, .int .i64 p.gw, .int .i64 p.gl, .int .i64 p.ge, .int .i64 p.ai, .int .i64 p.aq, .int .i64 p.ah, .int .i64 p.an, .int .i64 p.ae, .string p.ax, .int .i64 p.ak, .int .i64 p.ab, .bool p.af, .int .i64 p.ad, .string p.aw, .int .i64 p.rs, .int .i64 p.rq, .int .i64 p.rh, .int .i64 p.rn, .int .i64 p.rw, .int .i64 p.re, .slice p.ra p.rl.length p.rc, .bool p.rb, .int .i64 p.ss, .int .i64 p.sq] from heap_alloc_new w _)
  obtain ⟨W0, hW0⟩ : ∃ W0, w.alloc (.cells #[.int .i64 4, .int .i64 p.hw, .int .i64 p.hl, .int .i64 p.gw, .int .i64 p.gl, .int .i64 p.ge, .int .i64 p.ai, .int .i64 p.aq, .int .i64 p.ah, .int .i64 p.an, .int .i64 p.ae, .string p.ax, .int .i64 p.ak, .int .i64 p.ab, .bool p.af, .int .i64 p.ad, .string p.aw, .int .i64 p.rs, .int .i64 p.rq, .int .i64 p.rh, .int .i64 p.rn, .int .i64 p.rw, .int .i64 p.re, .slice p.ra p.rl.length p.rc, .bool p.rb, .int .i64 p.ss, .int .i64 p.sq] 46) = W0 := ⟨_, rfl⟩
  rw [hW0] at HB HX
  generalize replyB p.rs p.rq p.rh p.rn p.rw p.re p.rl = A at *
  have t0 : W0.cell? ⟨w.heap.size, 0, none⟩ = some (.int .i64 4) := HX.out.cell 0
  have t1 : W0.cell? ⟨w.heap.size, 1, none⟩ = some (.int .i64 p.hw) := HX.out.cell 1
  have t2 : W0.cell? ⟨w.heap.size, 2, none⟩ = some (.int .i64 p.hl) := HX.out.cell 2
  have t3 : W0.cell? ⟨w.heap.size, 3, none⟩ = some (.int .i64 p.gw) := HX.out.cell 3
  have t4 : W0.cell? ⟨w.heap.size, 4, none⟩ = some (.int .i64 p.gl) := HX.out.cell 4
  have t5 : W0.cell? ⟨w.heap.size, 5, none⟩ = some (.int .i64 p.ge) := HX.out.cell 5
  have t6 : W0.cell? ⟨w.heap.size, 6, none⟩ = some (.int .i64 p.ai) := HX.out.cell 6
  have t7 : W0.cell? ⟨w.heap.size, 7, none⟩ = some (.int .i64 p.aq) := HX.out.cell 7
  have t8 : W0.cell? ⟨w.heap.size, 8, none⟩ = some (.int .i64 p.ah) := HX.out.cell 8
  have t9 : W0.cell? ⟨w.heap.size, 9, none⟩ = some (.int .i64 p.an) := HX.out.cell 9
  have t10 : W0.cell? ⟨w.heap.size, 10, none⟩ = some (.int .i64 p.ae) := HX.out.cell 10
  have t11 : W0.cell? ⟨w.heap.size, 11, none⟩ = some (.string p.ax) := HX.out.cell 11
  have t12 : W0.cell? ⟨w.heap.size, 12, none⟩ = some (.int .i64 p.ak) := HX.out.cell 12
  have t13 : W0.cell? ⟨w.heap.size, 13, none⟩ = some (.int .i64 p.ab) := HX.out.cell 13
  have t14 : W0.cell? ⟨w.heap.size, 14, none⟩ = some (.bool p.af) := HX.out.cell 14
  have t15 : W0.cell? ⟨w.heap.size, 15, none⟩ = some (.int .i64 p.ad) := HX.out.cell 15
  have t16 : W0.cell? ⟨w.heap.size, 16, none⟩ = some (.string p.aw) := HX.out.cell 16
  have t17 : W0.cell? ⟨w.heap.size, 17, none⟩ = some (.int .i64 p.rs) := HX.out.cell 17
  have t18 : W0.cell? ⟨w.heap.size, 18, none⟩ = some (.int .i64 p.rq) := HX.out.cell 18
  have t19 : W0.cell? ⟨w.heap.size, 19, none⟩ = some (.int .i64 p.rh) := HX.out.cell 19
  have t20 : W0.cell? ⟨w.heap.size, 20, none⟩ = some (.int .i64 p.rn) := HX.out.cell 20
  have t21 : W0.cell? ⟨w.heap.size, 21, none⟩ = some (.int .i64 p.rw) := HX.out.cell 21
  have t22 : W0.cell? ⟨w.heap.size, 22, none⟩ = some (.int .i64 p.re) := HX.out.cell 22
  have t23 : W0.cell? ⟨w.heap.size, 23, none⟩ = some (.slice p.ra p.rl.length p.rc) := HX.out.cell 23
  have t24 : W0.cell? ⟨w.heap.size, 24, none⟩ = some (.bool p.rb) := HX.out.cell 24
  have t25 : W0.cell? ⟨w.heap.size, 25, none⟩ = some (.int .i64 p.ss) := HX.out.cell 25
  have t26 : W0.cell? ⟨w.heap.size, 26, none⟩ = some (.int .i64 p.sq) := HX.out.cell 26
  go_enter Try.func20, Try.ntmps20
  go_wp2_with (rw [hW0])
  refine (HM.out _ HB.out).mono ?_
  rintro e w1 ⟨rfl, hb⟩
  have HB2 := Lib.hid (HB.out.trans (hb.mono HB.out.size))
  clear hb hW0
  go_wp2_with fail
  go_ret
  exact ⟨rfl, HB2.out⟩
set_option maxRecDepth 100000 in
set_option maxHeartbeats 8000000 in
theorem rmay_no (p : P5) (k : Int) (h1 : k ≠ 1) (h2 : k ≠ 2) (h3 : k ≠ 3) (h4 : k ≠ 4) (h5 : k ≠ 5) (w : World) (hf : p.fit w) : Calls Try.prog 20 #[.agg #[.int .i64 k, .int .i64 p.hw, .int .i64 p.hl, .int .i64 p.gw, .int .i64 p.gl, .int .i64 p.ge, .int .i64 p.ai, .int .i64 p.aq, .int .i64 p.ah, .int .i64 p.an, .int .i64 p.ae, .string p.ax, .int .i64 p.ak, .int .i64 p.ab, .bool p.af, .int .i64 p.ad, .string p.aw, .int .i64 p.rs, .int .i64 p.rq, .int .i64 p.rh, .int .i64 p.rn, .int .i64 p.rw, .int .i64 p.re, .slice p.ra p.rl.length p.rc, .bool p.rb, .int .i64 p.ss, .int .i64 p.sq]] w fun e w' => e = .returned (.bool (MV.may .nil)) ∧ Below w.heap.size w w' := by
  rw [show MV.may .nil = false from rfl]
  clear hf
  have b1 : (k == 1) = false := by simpa using h1
  have b2 : (k == 2) = false := by simpa using h2
  have b3 : (k == 3) = false := by simpa using h3
  have b4 : (k == 4) = false := by simpa using h4
  have b5 : (k == 5) = false := by simpa using h5
  clear h1 h2 h3 h4 h5
  have HB := Lib.hid ((Below.refl w.heap.size w).alloc (Nat.le_refl _) (.cells #[.int .i64 k, .int .i64 p.hw, .int .i64 p.hl, .int .i64 p.gw, .int .i64 p.gl, .int .i64 p.ge, .int .i64 p.ai, .int .i64 p.aq, .int .i64 p.ah, .int .i64 p.an, .int .i64 p.ae, .string p.ax, .int .i64 p.ak, .int .i64 p.ab, .bool p.af, .int .i64 p.ad, .string p.aw, .int .i64 p.rs, .int .i64 p.rq, .int .i64 p.rh, .int .i64 p.rn, .int .i64 p.rw, .int .i64 p.re, .slice p.ra p.rl.length p.rc, .bool p.rb, .int .i64 p.ss, .int .i64 p.sq] 46))
  have HX := Lib.hid (show Blk (w.alloc (.cells #[.int .i64 k, .int .i64 p.hw, .int .i64 p.hl, .int .i64 p.gw, .int .i64 p.gl, .int .i64 p.ge, .int .i64 p.ai, .int .i64 p.aq, .int .i64 p.ah, .int .i64 p.an, .int .i64 p.ae, .string p.ax, .int .i64 p.ak, .int .i64 p.ab, .bool p.af, .int .i64 p.ad, .string p.aw, .int .i64 p.rs, .int .i64 p.rq, .int .i64 p.rh, .int .i64 p.rn, .int .i64 p.rw, .int .i64 p.re, .slice p.ra p.rl.length p.rc, .bool p.rb, .int .i64 p.ss, .int .i64 p.sq] 46)) w.heap.size 46 [.int .i64 k, .int .i64 p.hw, .int .i64 p.hl, .int .i64 p.gw, .int .i64 p.gl, .int .i64 p.ge, .int .i64 p.ai, .int .i64 p.aq, .int .i64 p.ah, .int .i64 p.an, .int .i64 p.ae, .string p.ax, .int .i64 p.ak, .int .i64 p.ab, .bool p.af, .int .i64 p.ad, .string p.aw, .int .i64 p.rs, .int .i64 p.rq, .int .i64 p.rh, .int .i64 p.rn, .int .i64 p.rw, .int .i64 p.re, .slice p.ra p.rl.length p.rc, .bool p.rb, .int .i64 p.ss, .int .i64 p.sq] from heap_alloc_new w _)
  obtain ⟨W0, hW0⟩ : ∃ W0, w.alloc (.cells #[.int .i64 k, .int .i64 p.hw, .int .i64 p.hl, .int .i64 p.gw, .int .i64 p.gl, .int .i64 p.ge, .int .i64 p.ai, .int .i64 p.aq, .int .i64 p.ah, .int .i64 p.an, .int .i64 p.ae, .string p.ax, .int .i64 p.ak, .int .i64 p.ab, .bool p.af, .int .i64 p.ad, .string p.aw, .int .i64 p.rs, .int .i64 p.rq, .int .i64 p.rh, .int .i64 p.rn, .int .i64 p.rw, .int .i64 p.re, .slice p.ra p.rl.length p.rc, .bool p.rb, .int .i64 p.ss, .int .i64 p.sq] 46) = W0 := ⟨_, rfl⟩
  rw [hW0] at HB HX
  have t0 : W0.cell? ⟨w.heap.size, 0, none⟩ = some (.int .i64 k) := HX.out.cell 0
  go_enter Try.func20, Try.ntmps20
  go_wp2_with (rw [hW0])
  go_ret
  exact ⟨rfl, HB.out⟩
set_option maxRecDepth 100000 in
theorem rmay_any (p : P5) (k : Int) (w : World) (hf : p.fit w) : Calls Try.prog 20 #[p.msg k] w fun e w' => e = .returned (.bool (p.kd k).may) ∧ Below w.heap.size w w' := by
  by_cases h1 : k = 1
  · subst h1; exact rmay_hello p w hf
  by_cases h2 : k = 2
  · subst h2; exact rmay_grant p w hf
  by_cases h3 : k = 3
  · subst h3; exact rmay_ask p w hf
  by_cases h4 : k = 4
  · subst h4; exact rmay_reply p w hf
  by_cases h5 : k = 5
  · subst h5; exact rmay_stop p w hf
  have e : p.kd k = .nil := by unfold P5.kd; rw [if_neg h1, if_neg h2, if_neg h3, if_neg h4, if_neg h5]
  rw [e]
  exact rmay_no p k h1 h2 h3 h4 h5 w hf
end Go.Proofs.Ytjhkdbcfkaaffaa
