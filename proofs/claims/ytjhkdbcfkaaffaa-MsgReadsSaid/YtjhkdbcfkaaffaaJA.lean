/- The document's small questions of chapter 15: Len, Word, Asked, in, nums, item. -/
import Derived.Test.YtjhkdbcfkaaffaaRef3
import Derived.Test.YtjhkdbcfkaaffaaRef10
import Derived.Test.YtjhkdbcfkaaffaaMm4
import Derived.Test.YtjhkdbcfkaaffaaMm17
import Derived.Test.YtjhkdbcfkaaffaaMm18
import Derived.Test.YtjhkdbcfkaaffaaSum2
namespace Go.Proofs.Ytjhkdbcfkaaffaa
open Go.RowKit
set_option linter.unusedVariables false

set_option maxRecDepth 100000 in
theorem rlen_any (s : ByteArray) (w : World) (hs : s.size ≤ 1000000) :
    Calls Try.prog 85 #[.string s] w fun e w' => e = .returned (.int .i64 (tLen s)) ∧ Below w.heap.size w w' := by
  have H := Lib.hid (fun W => rrunes_any s W hs)
  have hl := runesO_len s
  obtain ⟨z, hz⟩ : ∃ z, tLen s = z := ⟨_, rfl⟩
  rw [hz] at hl ⊢
  clear hz
  cases hr : runesO s with
  | none =>
    rw [hr] at hl H
    simp only at hl
    subst hl
    clear hr
    go_enter Try.func85, Try.ntmps85
    go_wp2_with fail
    refine (H.out _).mono ?_
    rintro e w' ⟨rfl, hb⟩
    go_wp2_with fail
    go_ret
    exact ⟨rfl, hb⟩
  | some l =>
    rw [hr] at hl H
    simp only at hl
    subst hl
    clear hr
    go_enter Try.func85, Try.ntmps85
    go_wp2_with fail
    refine (H.out _).mono ?_
    rintro e w' ⟨⟨ao, c, rfl, hr⟩, hb⟩
    go_wp2_with fail
    go_ret
    exact ⟨rfl, hb⟩
set_option maxRecDepth 100000 in
theorem rasked_any (s : ByteArray) (w : World) (hs : s.size ≤ 1000000) :
    Calls Try.prog 69 #[.string s] w fun e w' => e = .returned (.bool (askedB s)) ∧ Below w.heap.size w w' := by
  unfold askedB
  have H := Lib.hid (fun W => rlen_any s W hs)
  generalize tLen s = z at *
  by_cases h1 : 0 ≤ z
  · have d1 : decide (0 ≤ z) = true := by simp; omega
    rw [d1]
    go_enter Try.func69, Try.ntmps69
    go_wp2_with fail
    refine (H.out _).mono ?_
    rintro e w1 ⟨rfl, hb⟩
    have HB := Lib.hid hb
    clear hb
    go_wp2_with fail
    refine (H.out _).mono ?_
    rintro e w2 ⟨rfl, hb⟩
    have HB2 := Lib.hid (HB.out.trans (hb.mono HB.out.size))
    clear hb HB
    go_wp2_with fail
    go_ret
    exact ⟨by simp, HB2.out⟩
  · have d1 : decide (0 ≤ z) = false := by simp; omega
    rw [d1]
    go_enter Try.func69, Try.ntmps69
    go_wp2_with fail
    refine (H.out _).mono ?_
    rintro e w' ⟨rfl, hb⟩
    go_wp2_with fail
    go_ret
    exact ⟨by simp, hb⟩
set_option maxRecDepth 100000 in
theorem rword_any (s : ByteArray) (w : World) (hs : s.size ≤ 1000000) :
    Calls Try.prog 86 #[.string s] w fun e w' => e = .returned (.bool (isWord s)) ∧ Below w.heap.size w w' := by
  unfold isWord
  have H := Lib.hid (fun W => rlen_any s W hs)
  generalize tLen s = z at *
  by_cases h1 : 1 ≤ z
  · have d1 : decide (1 ≤ z) = true := by simp; omega
    rw [d1]
    go_enter Try.func86, Try.ntmps86
    go_wp2_with fail
    refine (H.out _).mono ?_
    rintro e w1 ⟨rfl, hb⟩
    have HB := Lib.hid hb
    clear hb
    go_wp2_with fail
    refine (H.out _).mono ?_
    rintro e w2 ⟨rfl, hb⟩
    have HB2 := Lib.hid (HB.out.trans (hb.mono HB.out.size))
    clear hb HB
    go_wp2_with fail
    go_ret
    exact ⟨by simp, HB2.out⟩
  · have d1 : decide (1 ≤ z) = false := by simp; omega
    rw [d1]
    go_enter Try.func86, Try.ntmps86
    go_wp2_with fail
    refine (H.out _).mono ?_
    rintro e w' ⟨rfl, hb⟩
    go_wp2_with fail
    go_ret
    exact ⟨by simp, hb⟩
def inB (n lo hi : Int) : Bool := decide (lo ≤ n) && decide (n ≤ hi)
set_option maxRecDepth 100000 in
theorem rin_any (n lo hi : Int) (w : World) : Calls Try.prog 49 #[.int .i64 n, .int .i64 lo, .int .i64 hi] w fun e w' => e = .returned (.bool (inB n lo hi)) ∧ w = w' := by
  unfold inB
  go_enter Try.func49, Try.ntmps49
  by_cases h1 : lo ≤ n
  · have d1 : decide (lo ≤ n) = true := by simpa using h1
    rw [d1]
    go_wp2_with fail
    go_ret
    exact ⟨by simp, rfl⟩
  · have d1 : decide (lo ≤ n) = false := by simpa using h1
    rw [d1]
    go_wp2_with fail
    go_ret
    exact ⟨by simp, rfl⟩
set_option maxRecDepth 100000 in
set_option maxHeartbeats 2000000 in
theorem ritem15_any (x : KeyL) (w : World) (hs : x.2.size ≤ 1000000) : Calls Try.prog 70 #[.agg #[.int .i64 x.1, .string x.2]] w fun e w' => e = .returned (.bool (itemB x)) ∧ Below w.heap.size w w' := by
  unfold itemB
  have H := Lib.hid (fun W => rword_any x.2 W hs)
  have HI := Lib.hid (fun W => rin_any x.1 0 4 W)
  generalize isWord x.2 = wb at *
  have HB := Lib.hid ((Below.refl w.heap.size w).alloc (Nat.le_refl _) (.cells #[.int .i64 x.1, .string x.2] 27))
  have hin : inB x.1 0 4 = (decide (0 ≤ x.1) && decide (x.1 ≤ 4)) := rfl
  cases hq : inB x.1 0 4
  · rw [hq] at HI hin
    rw [← hin]
    clear hq hin
    go_enter Try.func70, Try.ntmps70
    go_wp2_with fail
    refine (HI.out _).mono ?_
    rintro e w' ⟨rfl, rfl⟩
    go_wp2_with fail
    go_ret
    exact ⟨by simp, HB.out⟩
  · rw [hq] at HI hin
    rw [← hin]
    clear hq hin
    go_enter Try.func70, Try.ntmps70
    go_wp2_with fail
    refine (HI.out _).mono ?_
    rintro e w' ⟨rfl, rfl⟩
    go_wp2_with fail
    refine (H.out _).mono ?_
    rintro e w' ⟨rfl, hb⟩
    have HB2 := Lib.hid (HB.out.trans (hb.mono HB.out.size))
    clear hb
    go_wp2_with fail
    go_ret
    exact ⟨by simp, HB2.out⟩
set_option maxRecDepth 100000 in
set_option maxHeartbeats 2000000 in
theorem rnums15_any (a : Option Addr) (n c : Nat) (l : List Int) (w : World) (h : Rd w a n c (ints l)) :
    Calls Try.prog 50 #[.slice a n c] w fun e w' => e = .returned (.bool (withinL l)) ∧ Below w.heap.size w w' := by
  have hn : l.length = n := by rw [← h.1, ints_len]
  subst hn
  have hcap := h.2.1
  have hcm := h.2.2.1
  unfold maxLen at hcm
  have HR := Lib.hid h
  obtain ⟨R, hR⟩ : ∃ R, withinL l = R := ⟨_, rfl⟩
  rw [hR]
  have HQ := Lib.hid hR
  clear h hR
  go_enter Try.func50, Try.ntmps50
  go_wp2_with fail
  go_loopw [3] (fun v wr => ∃ k : Nat, k ≤ l.length ∧ v = .int .i64 k ∧ RowKit.Hid ((l.take k).all inR = true) ∧ RowKit.Hid (Below w.heap.size w wr)) (fun v _ => l.length - (intOf v).toNat)
  case atStart => exact ⟨0, by omega, rfl, rfl, Below.refl _ _⟩
  case round =>
    obtain ⟨k, hk, rfl, HA, HB⟩ := hrel
    by_cases hlt : k < l.length
    · obtain ⟨x, hx⟩ : ∃ x, l[k]? = some x := ⟨_, List.getElem?_eq_getElem hlt⟩
      obtain ⟨bb, ob, hab, hbb, hc⟩ := (HR.out.below HB.out rfl).2.2.2.2 k hlt
      have cx : wr.cell? ⟨bb, ob + k, none⟩ = some (.int .i64 x) := by rw [hc]; simp [ints, hx]
      have k1 : (0 : Int) ≤ (k : Int) := by omega
      have k2 : (k : Int) < (l.length : Int) := by omega
      have HX := Lib.hid hx
      clear hx hc
      subst hab
      have HIN := Lib.hid (show inR x = (decide (0 ≤ x) && decide (x ≤ 2147483647)) from rfl)
      by_cases h1 : x < 0
      · obtain rfl : R = false := by rw [← HQ.out]; exact all_no HX.out (by rw [HIN.out, decide_eq_false (by omega)]; rfl)
        have d1 : decide (x < 0) = true := by simpa using h1
        go_wp2_with fail
        go_ret
        exact ⟨rfl, HB.out⟩
      have d1 : decide (x < 0) = false := by simpa using h1
      by_cases h2 : 2147483647 < x
      · obtain rfl : R = false := by rw [← HQ.out]; exact all_no HX.out (by rw [HIN.out, decide_eq_false (show ¬ x ≤ 2147483647 by omega)]; simp)
        have d2 : decide (2147483647 < x) = true := by simpa using h2
        go_wp2_with fail
        go_ret
        exact ⟨rfl, HB.out⟩
      have d2 : decide (2147483647 < x) = false := by simpa using h2
      have HT2 := Lib.hid (show (l.take (k + 1)).all inR = true from by rw [all_next HX.out, HA.out, HIN.out, decide_eq_true (by omega), decide_eq_true (by omega)]; rfl)
      go_wp2_with fail
      go_roundw
      case rel => exact ⟨k + 1, by omega, by go_num, HT2.out, HB.out⟩
      case measure => simp [intOf]; omega
    · obtain rfl : k = l.length := by omega
      obtain rfl : R = true := by rw [← HQ.out]; have q := HA.out; rw [List.take_length] at q; exact q
      go_wp2_with fail
      go_ret
      exact ⟨rfl, HB.out⟩
end Go.Proofs.Ytjhkdbcfkaaffaa
/- The document's MayAsk and MayReply. -/
namespace Go.Proofs.Ytjhkdbcfkaaffaa
open Go.RowKit
set_option linter.unusedVariables false

set_option maxRecDepth 100000 in
theorem placeB_eq (s h : Int) : placeB s h = (inB s 0 3 && inB h 0 5) := by
  rw [Bool.eq_iff_iff]; unfold placeB inB; simp; omega
set_option maxRecDepth 100000 in
theorem workerB_eq (n : Int) : workerB n = inB n 1 5 := rfl
set_option maxRecDepth 100000 in
theorem askB_eq (s q h sq ep : Int) (tx : ByteArray) (k b : Int) (f : Bool) (d : Int) (wd : ByteArray) : askB s q h sq ep tx k b f d wd = (withinL [q, sq, ep] && inB s 0 3 && inB h 0 5 && inB k 0 4 && inB b 1 5 && askedB tx && afterB f d wd) := by
  unfold askB
  rw [placeB_eq]
  unfold inB
  generalize withinL [q, sq, ep] = x1
  generalize askedB tx = x2
  generalize afterB f d wd = x3
  rw [Bool.eq_iff_iff]
  simp only [Bool.and_eq_true, decide_eq_true_eq]
  constructor <;> intro hh <;> simp only [hh, and_self] <;> omega
set_option maxRecDepth 100000 in
theorem replyB_eq (s q h sq wk ep : Int) (l : List KeyL) : replyB s q h sq wk ep l = (withinL [q, sq, ep] && inB s 0 3 && inB h 0 5 && inB wk 1 5 && decide (l.length ≤ 5) && itOK l l.length) := by
  unfold replyB
  rw [placeB_eq, workerB_eq]
  generalize withinL [q, sq, ep] = x1
  generalize inB s 0 3 = x2
  generalize inB h 0 5 = x3
  generalize inB wk 1 5 = x4
  generalize decide (l.length ≤ 5) = x5
  generalize itOK l l.length = x6
  cases x1 <;> cases x2 <;> cases x3 <;> cases x4 <;> cases x5 <;> cases x6 <;> rfl
set_option maxRecDepth 100000 in
set_option maxHeartbeats 8000000 in
theorem rmayask_any (s q h sq ep : Int) (tx : ByteArray) (k b : Int) (f : Bool) (d : Int) (wd : ByteArray) (w : World) (h1 : tx.size ≤ 1000000) (h2 : wd.size ≤ 1000000) :
    Calls Try.prog 51 #[.agg #[.int .i64 s, .int .i64 q, .int .i64 h, .int .i64 sq, .int .i64 ep, .string tx, .int .i64 k, .int .i64 b, .bool f, .int .i64 d, .string wd]] w fun e w' => e = .returned (.bool (askB s q h sq ep tx k b f d wd)) ∧ Below w.heap.size w w' := by
  rw [askB_eq]
  have HI1 := Lib.hid (fun W => rin_any s 0 3 W)
  have HI2 := Lib.hid (fun W => rin_any h 0 5 W)
  have HI3 := Lib.hid (fun W => rin_any k 0 4 W)
  have HI4 := Lib.hid (fun W => rin_any b 1 5 W)
  have HAS := Lib.hid (fun W => rasked_any tx W h1)
  have HIT := Lib.hid (fun W => ritem15_any (d, wd) W h2)
  have heq := eqI_run (d, wd) ((0 : Int), (⟨#[]⟩ : ByteArray))
  simp only at heq
  have HEQ := Lib.hid heq
  clear heq
  have HAF := Lib.hid (show afterB f d wd = if f = true then decide ((d, wd) = ((0 : Int), (⟨#[]⟩ : ByteArray))) else itemB (d, wd) from rfl)
  obtain ⟨R, hR⟩ : ∃ R, (withinL [q, sq, ep] && inB s 0 3 && inB h 0 5 && inB k 0 4 && inB b 1 5 && askedB tx && afterB f d wd) = R := ⟨_, rfl⟩
  rw [hR]
  have HRL := Lib.hid hR
  clear hR h1 h2
  have HB := Lib.hid ((Below.refl w.heap.size w).alloc (Nat.le_refl _) (.cells #[.int .i64 s, .int .i64 q, .int .i64 h, .int .i64 sq, .int .i64 ep, .string tx, .int .i64 k, .int .i64 b, .bool f, .int .i64 d, .string wd] 29))
  have HX := Lib.hid (show Blk (w.alloc (.cells #[.int .i64 s, .int .i64 q, .int .i64 h, .int .i64 sq, .int .i64 ep, .string tx, .int .i64 k, .int .i64 b, .bool f, .int .i64 d, .string wd] 29)) w.heap.size 29 [.int .i64 s, .int .i64 q, .int .i64 h, .int .i64 sq, .int .i64 ep, .string tx, .int .i64 k, .int .i64 b, .bool f, .int .i64 d, .string wd] from heap_alloc_new w _)
  obtain ⟨W0, hW0⟩ : ∃ W0, w.alloc (.cells #[.int .i64 s, .int .i64 q, .int .i64 h, .int .i64 sq, .int .i64 ep, .string tx, .int .i64 k, .int .i64 b, .bool f, .int .i64 d, .string wd] 29) = W0 := ⟨_, rfl⟩
  rw [hW0] at HB HX
  have HB1 := Lib.hid (HB.out.alloc HB.out.size (.cells (ints [q, sq, ep]).toArray 3))
  have HX1 := Lib.hid (HX.out.alloc (.cells (ints [q, sq, ep]).toArray 3))
  have HN := Lib.hid (rnums15_any (some ⟨W0.heap.size, 0, none⟩) 3 3 [q, sq, ep] (W0.alloc (.cells (ints [q, sq, ep]).toArray 3)) (new_ints W0 [q, sq, ep] (by simp [maxLen])))
  have t0 : W0.cell? ⟨w.heap.size, 0, none⟩ = some (.int .i64 s) := HX.out.cell 0
  have t1 : W0.cell? ⟨w.heap.size, 1, none⟩ = some (.int .i64 q) := HX.out.cell 1
  have t2 : W0.cell? ⟨w.heap.size, 2, none⟩ = some (.int .i64 h) := HX.out.cell 2
  have t3 : W0.cell? ⟨w.heap.size, 3, none⟩ = some (.int .i64 sq) := HX.out.cell 3
  have t4 : W0.cell? ⟨w.heap.size, 4, none⟩ = some (.int .i64 ep) := HX.out.cell 4
  have t5 : W0.cell? ⟨w.heap.size, 5, none⟩ = some (.string tx) := HX.out.cell 5
  have t6 : W0.cell? ⟨w.heap.size, 6, none⟩ = some (.int .i64 k) := HX.out.cell 6
  have t7 : W0.cell? ⟨w.heap.size, 7, none⟩ = some (.int .i64 b) := HX.out.cell 7
  have t8 : W0.cell? ⟨w.heap.size, 8, none⟩ = some (.bool f) := HX.out.cell 8
  have t9 : W0.cell? ⟨w.heap.size, 9, none⟩ = some (.int .i64 d) := HX.out.cell 9
  have t10 : W0.cell? ⟨w.heap.size, 10, none⟩ = some (.string wd) := HX.out.cell 10
  have hQ := HRL.out
  go_enter Try.func51, Try.ntmps51
  go_wp2_with (rw [hW0])
  clear hW0 hQ
  refine HN.out.mono ?_
  clear HN
  rintro e w1 ⟨rfl, hb⟩
  have HX2 := Lib.hid (HX1.out.below hb HX1.out.lt)
  have HB2 := Lib.hid (HB1.out.trans (hb.mono HB1.out.size))
  clear t0 t1 t2 t3 t4 t5 t6 t7 t8 t9 t10
  clear hb HX HX1 HB HB1
  generalize withinL [q, sq, ep] = A1 at *
  generalize inB s 0 3 = A2 at *
  generalize inB h 0 5 = A3 at *
  generalize inB k 0 4 = A4 at *
  generalize inB b 1 5 = A5 at *
  generalize askedB tx = A6 at *
  have t0 : w1.cell? ⟨w.heap.size, 0, none⟩ = some (.int .i64 s) := HX2.out.cell 0
  have t1 : w1.cell? ⟨w.heap.size, 1, none⟩ = some (.int .i64 q) := HX2.out.cell 1
  have t2 : w1.cell? ⟨w.heap.size, 2, none⟩ = some (.int .i64 h) := HX2.out.cell 2
  have t3 : w1.cell? ⟨w.heap.size, 3, none⟩ = some (.int .i64 sq) := HX2.out.cell 3
  have t4 : w1.cell? ⟨w.heap.size, 4, none⟩ = some (.int .i64 ep) := HX2.out.cell 4
  have t5 : w1.cell? ⟨w.heap.size, 5, none⟩ = some (.string tx) := HX2.out.cell 5
  have t6 : w1.cell? ⟨w.heap.size, 6, none⟩ = some (.int .i64 k) := HX2.out.cell 6
  have t7 : w1.cell? ⟨w.heap.size, 7, none⟩ = some (.int .i64 b) := HX2.out.cell 7
  have t8 : w1.cell? ⟨w.heap.size, 8, none⟩ = some (.bool f) := HX2.out.cell 8
  have t9 : w1.cell? ⟨w.heap.size, 9, none⟩ = some (.int .i64 d) := HX2.out.cell 9
  have t10 : w1.cell? ⟨w.heap.size, 10, none⟩ = some (.string wd) := HX2.out.cell 10
  cases A1
  · obtain rfl : R = false := by rw [← HRL.out]; simp []
    go_wp2_with fail
    go_ret
    exact ⟨rfl, HB2.out⟩
  go_wp2_with fail
  refine (HI1.out _).mono ?_
  rintro e w' ⟨rfl, rfl⟩
  cases A2
  · obtain rfl : R = false := by rw [← HRL.out]; simp []
    go_wp2_with fail
    go_ret
    exact ⟨rfl, HB2.out⟩
  go_wp2_with fail
  refine (HI2.out _).mono ?_
  rintro e w' ⟨rfl, rfl⟩
  cases A3
  · obtain rfl : R = false := by rw [← HRL.out]; simp []
    go_wp2_with fail
    go_ret
    exact ⟨rfl, HB2.out⟩
  go_wp2_with fail
  refine (HI3.out _).mono ?_
  rintro e w' ⟨rfl, rfl⟩
  cases A4
  · obtain rfl : R = false := by rw [← HRL.out]; simp []
    go_wp2_with fail
    go_ret
    exact ⟨rfl, HB2.out⟩
  go_wp2_with fail
  refine (HI4.out _).mono ?_
  rintro e w' ⟨rfl, rfl⟩
  cases A5
  · obtain rfl : R = false := by rw [← HRL.out]; simp []
    go_wp2_with fail
    go_ret
    exact ⟨rfl, HB2.out⟩
  go_wp2_with fail
  refine (HAS.out _).mono ?_
  rintro e w2 ⟨rfl, hb⟩
  have HX3 := Lib.hid (HX2.out.below hb HX2.out.lt)
  have HB3 := Lib.hid (HB2.out.trans (hb.mono HB2.out.size))
  clear t0 t1 t2 t3 t4 t5 t6 t7 t8 t9 t10
  clear hb HX2 HB2
  have t0 : w2.cell? ⟨w.heap.size, 0, none⟩ = some (.int .i64 s) := HX3.out.cell 0
  have t1 : w2.cell? ⟨w.heap.size, 1, none⟩ = some (.int .i64 q) := HX3.out.cell 1
  have t2 : w2.cell? ⟨w.heap.size, 2, none⟩ = some (.int .i64 h) := HX3.out.cell 2
  have t3 : w2.cell? ⟨w.heap.size, 3, none⟩ = some (.int .i64 sq) := HX3.out.cell 3
  have t4 : w2.cell? ⟨w.heap.size, 4, none⟩ = some (.int .i64 ep) := HX3.out.cell 4
  have t5 : w2.cell? ⟨w.heap.size, 5, none⟩ = some (.string tx) := HX3.out.cell 5
  have t6 : w2.cell? ⟨w.heap.size, 6, none⟩ = some (.int .i64 k) := HX3.out.cell 6
  have t7 : w2.cell? ⟨w.heap.size, 7, none⟩ = some (.int .i64 b) := HX3.out.cell 7
  have t8 : w2.cell? ⟨w.heap.size, 8, none⟩ = some (.bool f) := HX3.out.cell 8
  have t9 : w2.cell? ⟨w.heap.size, 9, none⟩ = some (.int .i64 d) := HX3.out.cell 9
  have t10 : w2.cell? ⟨w.heap.size, 10, none⟩ = some (.string wd) := HX3.out.cell 10
  cases A6
  · obtain rfl : R = false := by rw [← HRL.out]; simp []
    go_wp2_with fail
    go_ret
    exact ⟨rfl, HB3.out⟩
  cases f
  · have hr : R = itemB (d, wd) := by rw [← HRL.out, HAF.out]; simp
    have HR := Lib.hid hr
    clear hr
    go_wp2_with fail
    refine (HIT.out _).mono ?_
    rintro e w3 ⟨rfl, hb⟩
    have HB4 := Lib.hid (HB3.out.trans (hb.mono HB3.out.size))
    clear hb
    generalize itemB (d, wd) = ib at *
    go_wp2_with fail
    go_ret
    rw [HR.out]
    exact ⟨rfl, HB4.out⟩
  · have hr : R = decide ((d, wd) = ((0 : Int), (⟨#[]⟩ : ByteArray))) := by rw [← HRL.out, HAF.out]; simp
    have HR := Lib.hid hr
    clear hr
    have heq := HEQ.out
    generalize decide ((d, wd) = ((0 : Int), (⟨#[]⟩ : ByteArray))) = ib at *
    go_wp2_with fail
    go_ret
    rw [HR.out]
    exact ⟨rfl, HB3.out⟩
set_option maxRecDepth 100000 in
set_option maxHeartbeats 8000000 in
theorem rmayreply_any (s q h sq wk ep : Int) (l : List KeyL) (en : Bool) (a : Option Addr) (c : Nat) (w : World) (hr : RdE KeyL.cells 2 w a l.length c l) (hz : ∀ x ∈ l, x.2.size ≤ 1000000) :
    Calls Try.prog 52 #[.agg #[.int .i64 s, .int .i64 q, .int .i64 h, .int .i64 sq, .int .i64 wk, .int .i64 ep, .slice a l.length c, .bool en]] w fun e w' => e = .returned (.bool (replyB s q h sq wk ep l)) ∧ Below w.heap.size w w' := by
  rw [replyB_eq]
  have HI1 := Lib.hid (fun W => rin_any s 0 3 W)
  have HI2 := Lib.hid (fun W => rin_any h 0 5 W)
  have HI3 := Lib.hid (fun W => rin_any wk 1 5 W)
  have HZ := Lib.hid hz
  have HRI := Lib.hid (fun W (hb : Below w.heap.size w W) => hr.below hb rfl)
  have hcap := hr.2.1
  have hcm := hr.2.2.1
  unfold maxLen at hcm
  obtain ⟨R, hR⟩ : ∃ R, (withinL [q, sq, ep] && inB s 0 3 && inB h 0 5 && inB wk 1 5 && decide (l.length ≤ 5) && itOK l l.length) = R := ⟨_, rfl⟩
  rw [hR]
  have HRL := Lib.hid hR
  clear hR hr hz
  have HB := Lib.hid ((Below.refl w.heap.size w).alloc (Nat.le_refl _) (.cells #[.int .i64 s, .int .i64 q, .int .i64 h, .int .i64 sq, .int .i64 wk, .int .i64 ep, .slice a l.length c, .bool en] 32))
  have HX := Lib.hid (show Blk (w.alloc (.cells #[.int .i64 s, .int .i64 q, .int .i64 h, .int .i64 sq, .int .i64 wk, .int .i64 ep, .slice a l.length c, .bool en] 32)) w.heap.size 32 [.int .i64 s, .int .i64 q, .int .i64 h, .int .i64 sq, .int .i64 wk, .int .i64 ep, .slice a l.length c, .bool en] from heap_alloc_new w _)
  obtain ⟨W0, hW0⟩ : ∃ W0, w.alloc (.cells #[.int .i64 s, .int .i64 q, .int .i64 h, .int .i64 sq, .int .i64 wk, .int .i64 ep, .slice a l.length c, .bool en] 32) = W0 := ⟨_, rfl⟩
  rw [hW0] at HB HX
  have HB1 := Lib.hid (HB.out.alloc HB.out.size (.cells (ints [q, sq, ep]).toArray 3))
  have HX1 := Lib.hid (HX.out.alloc (.cells (ints [q, sq, ep]).toArray 3))
  have HN := Lib.hid (rnums15_any (some ⟨W0.heap.size, 0, none⟩) 3 3 [q, sq, ep] (W0.alloc (.cells (ints [q, sq, ep]).toArray 3)) (new_ints W0 [q, sq, ep] (by simp [maxLen])))
  have t0 : W0.cell? ⟨w.heap.size, 0, none⟩ = some (.int .i64 s) := HX.out.cell 0
  have t1 : W0.cell? ⟨w.heap.size, 1, none⟩ = some (.int .i64 q) := HX.out.cell 1
  have t2 : W0.cell? ⟨w.heap.size, 2, none⟩ = some (.int .i64 h) := HX.out.cell 2
  have t3 : W0.cell? ⟨w.heap.size, 3, none⟩ = some (.int .i64 sq) := HX.out.cell 3
  have t4 : W0.cell? ⟨w.heap.size, 4, none⟩ = some (.int .i64 wk) := HX.out.cell 4
  have t5 : W0.cell? ⟨w.heap.size, 5, none⟩ = some (.int .i64 ep) := HX.out.cell 5
  have t6 : W0.cell? ⟨w.heap.size, 6, none⟩ = some (.slice a l.length c) := HX.out.cell 6
  have t7 : W0.cell? ⟨w.heap.size, 7, none⟩ = some (.bool en) := HX.out.cell 7
  have hQ := HRL.out
  go_enter Try.func52, Try.ntmps52
  go_wp2_with (rw [hW0])
  clear hW0 hQ
  refine HN.out.mono ?_
  clear HN
  rintro e w1 ⟨rfl, hb⟩
  have HX2 := Lib.hid (HX1.out.below hb HX1.out.lt)
  have HB2 := Lib.hid (HB1.out.trans (hb.mono HB1.out.size))
  clear t0 t1 t2 t3 t4 t5 t6 t7
  clear hb HX HX1 HB HB1
  generalize withinL [q, sq, ep] = A1 at *
  generalize inB s 0 3 = A2 at *
  generalize inB h 0 5 = A3 at *
  generalize inB wk 1 5 = A4 at *
  have t0 : w1.cell? ⟨w.heap.size, 0, none⟩ = some (.int .i64 s) := HX2.out.cell 0
  have t1 : w1.cell? ⟨w.heap.size, 1, none⟩ = some (.int .i64 q) := HX2.out.cell 1
  have t2 : w1.cell? ⟨w.heap.size, 2, none⟩ = some (.int .i64 h) := HX2.out.cell 2
  have t3 : w1.cell? ⟨w.heap.size, 3, none⟩ = some (.int .i64 sq) := HX2.out.cell 3
  have t4 : w1.cell? ⟨w.heap.size, 4, none⟩ = some (.int .i64 wk) := HX2.out.cell 4
  have t5 : w1.cell? ⟨w.heap.size, 5, none⟩ = some (.int .i64 ep) := HX2.out.cell 5
  have t6 : w1.cell? ⟨w.heap.size, 6, none⟩ = some (.slice a l.length c) := HX2.out.cell 6
  have t7 : w1.cell? ⟨w.heap.size, 7, none⟩ = some (.bool en) := HX2.out.cell 7
  cases A1
  · obtain rfl : R = false := by rw [← HRL.out]; simp []
    go_wp2_with fail
    go_ret
    exact ⟨rfl, HB2.out⟩
  go_wp2_with fail
  refine (HI1.out _).mono ?_
  rintro e w' ⟨rfl, rfl⟩
  cases A2
  · obtain rfl : R = false := by rw [← HRL.out]; simp []
    go_wp2_with fail
    go_ret
    exact ⟨rfl, HB2.out⟩
  go_wp2_with fail
  refine (HI2.out _).mono ?_
  rintro e w' ⟨rfl, rfl⟩
  cases A3
  · obtain rfl : R = false := by rw [← HRL.out]; simp []
    go_wp2_with fail
    go_ret
    exact ⟨rfl, HB2.out⟩
  go_wp2_with fail
  refine (HI3.out _).mono ?_
  rintro e w' ⟨rfl, rfl⟩
  cases A4
  · obtain rfl : R = false := by rw [← HRL.out]; simp []
    go_wp2_with fail
    go_ret
    exact ⟨rfl, HB2.out⟩
  by_cases h5 : l.length ≤ 5
  rotate_left 1
  · have d5 : (5 : Int) < (l.length : Int) := by omega
    obtain rfl : R = false := by rw [← HRL.out]; simp [h5]
    go_wp2_with fail
    go_ret
    exact ⟨rfl, HB2.out⟩
  have d5 : ¬ (5 : Int) < (l.length : Int) := by omega
  have HRO := Lib.hid (show R = itOK l l.length from by rw [← HRL.out]; simp [h5])
  go_wp2_with fail
  clear t0 t1 t2 t3 t4 t5 t6 t7
  go_loopw [3] (fun v wr => ∃ i : Nat, i ≤ l.length ∧ v = .int .i64 i ∧ RowKit.Hid (itOK l i = true) ∧ RowKit.Hid (Blk wr w.heap.size 32 [.int .i64 s, .int .i64 q, .int .i64 h, .int .i64 sq, .int .i64 wk, .int .i64 ep, .slice a l.length c, .bool en]) ∧ RowKit.Hid (Below w.heap.size w wr)) (fun v _ => l.length - (intOf v).toNat)
  case atStart => exact ⟨0, by omega, rfl, rfl, HX2, HB2⟩
  case round =>
    clear HX2 HB2
    obtain ⟨i, hi, rfl, HT, HX3, HB3⟩ := hrel
    have t6 : wr.cell? ⟨w.heap.size, 6, none⟩ = some (.slice a l.length c) := HX3.out.cell 6
    by_cases hlt : i < l.length
    · obtain ⟨x, hx⟩ : ∃ x, l[i]? = some x := ⟨_, List.getElem?_eq_getElem hlt⟩
      obtain ⟨bb, ob, rfl, hbb, hcx⟩ := (HRI.out wr HB3.out).2.2.2.2 i x hx
      have HC := Lib.hid (show ∀ W, Below w.heap.size w W → W.cell? ⟨bb, ob + i * 2, none⟩ = some (.int .i64 x.1) ∧ W.cell? ⟨bb, ob + i * 2 + 1, none⟩ = some (.string x.2) from fun W hb => by
        obtain ⟨b', o', e, _, hc⟩ := (HRI.out W hb).2.2.2.2 i x hx
        cases e
        exact ⟨hc 0 (by decide), hc 1 (by decide)⟩)
      have k1 : (0 : Int) ≤ (i : Int) := by omega
      have k2 : (i : Int) < (l.length : Int) := by omega
      have HXI := Lib.hid hx
      have HIT := Lib.hid (fun W => ritem15_any x W (HZ.out x (List.mem_of_getElem? hx)))
      have HXd := Lib.hid (show Blk wr.drew w.heap.size 32 [.int .i64 s, .int .i64 q, .int .i64 h, .int .i64 sq, .int .i64 wk, .int .i64 ep, .slice (some ⟨bb, ob, none⟩) l.length c, .bool en] from HX3.out)
      have HBd := Lib.hid HB3.out.drew
      clear hx hcx hbb
      go_wp2_with fail
      clear t6 HX3 HB3
      cases hib : itemB x
      · rw [hib] at HIT
        obtain rfl : R = false := by
          rw [HRO.out]
          have h1 : itOK l (i + 1) = false := by
            cases i with
            | zero => rw [itOK_zero HXI.out, hib]
            | succ m =>
              obtain ⟨y, hy⟩ : ∃ y, l[m]? = some y := ⟨_, List.getElem?_eq_getElem (by omega)⟩
              rw [itOK_succ HXI.out hy, hib]; simp
          exact itOK_no h1 l.length (by omega)
        clear hib
        refine wp_region_held_drew (S := (fun w' => w'.cell? ⟨w.heap.size, 6, none⟩ = some (.slice (some ⟨bb, ob, none⟩) l.length c) ∧ w'.cell? ⟨bb, ob + i * 2, none⟩ = some (.int .i64 x.1) ∧ w'.cell? ⟨bb, ob + i * 2 + 1, none⟩ = some (.string x.2))) (by kernel_rfl) (by first | exact ⟨HXd.out.cell 6, HC.out _ HBd.out⟩ | exact ⟨HX4.out.cell 6, HC.out _ HB4.out⟩) (fun hHeld => ?_)
        refine takeO 0 (some 44) (v := ?_) rfl rfl (by kernel_rfl) (by kernel_rfl) (by kernel_rfl) (fun _ _ _ h => h) (Or.inl ⟨by rfl, ?_⟩) (by assumption) ?_
        rotate_left 1
        · intro w hSw; (try dsimp only at hSw); go_simp; all_goals with_reducible rfl
        try simp only [Act.put, List.setIfInBounds_toArray, List.set_cons_zero, List.set_cons_succ]
        refine takeO 1 (some 45) (v := ?_) rfl rfl (by kernel_rfl) (by kernel_rfl) (by kernel_rfl) (fun _ _ _ h => h) (Or.inl ⟨by rfl, ?_⟩) (by assumption) ?_
        rotate_left 1
        · intro w hSw; (try dsimp only at hSw); go_simp; all_goals with_reducible rfl
        try simp only [Act.put, List.setIfInBounds_toArray, List.set_cons_zero, List.set_cons_succ]
        refine takeO 2 (some 46) (v := ?_) rfl rfl (by kernel_rfl) (by kernel_rfl) (by kernel_rfl) (fun _ _ _ h => h) (Or.inl ⟨by rfl, ?_⟩) (by assumption) ?_
        rotate_left 1
        · intro w hSw; (try dsimp only at hSw); go_simp; all_goals with_reducible rfl
        try simp only [Act.put, List.setIfInBounds_toArray, List.set_cons_zero, List.set_cons_succ]
        refine takeO 3 (some 47) (v := ?_) rfl rfl (by kernel_rfl) (by kernel_rfl) (by kernel_rfl) (fun _ _ _ h => h) (Or.inl ⟨by rfl, ?_⟩) (by assumption) ?_
        rotate_left 1
        · intro w hSw; (try dsimp only at hSw); go_simp; all_goals with_reducible rfl
        try simp only [Act.put, List.setIfInBounds_toArray, List.set_cons_zero, List.set_cons_succ]
        refine takeO 4 (some 48) (v := ?_) rfl rfl (by kernel_rfl) (by kernel_rfl) (by kernel_rfl) (fun _ _ _ h => h) (Or.inl ⟨by rfl, ?_⟩) (by assumption) ?_
        rotate_left 1
        · intro w hSw; (try dsimp only at hSw); go_simp; all_goals with_reducible rfl
        try simp only [Act.put, List.setIfInBounds_toArray, List.set_cons_zero, List.set_cons_succ]
        refine wpAnyH_ready (rs := [5]) (by kernel_rfl) (by simp) ?_
        refine AllReadyH.cons rfl (fun K hK => ?_) AllReadyH.nil
        go_simp
        refine (HIT.out _).mono ?_; rintro e w4 ⟨rfl, hb⟩; have HX4 := Lib.hid (HXd.out.below hb HXd.out.lt); have HB4 := Lib.hid (HBd.out.trans (hb.mono HBd.out.size)); clear hb
        go_wp2_with fail
        refine hK.out _ _ (by first | exact ⟨HXd.out.cell 6, HC.out _ HBd.out⟩ | exact ⟨HX4.out.cell 6, HC.out _ HB4.out⟩) (fun hHeld => ?_)
        clear hK K
        try simp only [Act.put, List.setIfInBounds_toArray, List.set_cons_zero, List.set_cons_succ]
        refine takeO 6 (some 50) (v := ?_) rfl rfl (by kernel_rfl) (by kernel_rfl) (by kernel_rfl) (fun _ _ _ h => h) (Or.inl ⟨by rfl, ?_⟩) (by assumption) ?_
        rotate_left 1
        · intro w hSw; (try dsimp only at hSw); go_simp; all_goals with_reducible rfl
        try simp only [Act.put, List.setIfInBounds_toArray, List.set_cons_zero, List.set_cons_succ]
        refine takeO 7 (some 51) (v := ?_) rfl rfl (by kernel_rfl) (by kernel_rfl) (by kernel_rfl) (fun _ _ _ h => h) (Or.inl ⟨by rfl, ?_⟩) (by assumption) ?_
        rotate_left 1
        · intro w hSw; (try dsimp only at hSw); go_simp; all_goals with_reducible rfl
        try simp only [Act.put, List.setIfInBounds_toArray, List.set_cons_zero, List.set_cons_succ]
        refine takeO 8 (some 52) (v := undef) rfl rfl (by kernel_rfl) (by kernel_rfl) (by kernel_rfl) (fun _ _ _ h => h) (Or.inr ⟨by rfl, rfl⟩) (by assumption) ?_
        try simp only [Act.put, List.setIfInBounds_toArray, List.set_cons_zero, List.set_cons_succ]
        refine takeO 9 (some 53) (v := undef) rfl rfl (by kernel_rfl) (by kernel_rfl) (by kernel_rfl) (fun _ _ _ h => h) (Or.inr ⟨by rfl, rfl⟩) (by assumption) ?_
        try simp only [Act.put, List.setIfInBounds_toArray, List.set_cons_zero, List.set_cons_succ]
        refine takeO 10 (some 54) (v := undef) rfl rfl (by kernel_rfl) (by kernel_rfl) (by kernel_rfl) (fun _ _ _ h => h) (Or.inr ⟨by rfl, rfl⟩) (by assumption) ?_
        try simp only [Act.put, List.setIfInBounds_toArray, List.set_cons_zero, List.set_cons_succ]
        refine takeO 11 (some 55) (v := undef) rfl rfl (by kernel_rfl) (by kernel_rfl) (by kernel_rfl) (fun _ _ _ h => h) (Or.inr ⟨by rfl, rfl⟩) (by assumption) ?_
        try simp only [Act.put, List.setIfInBounds_toArray, List.set_cons_zero, List.set_cons_succ]
        refine takeO 12 (some 56) (v := undef) rfl rfl (by kernel_rfl) (by kernel_rfl) (by kernel_rfl) (fun _ _ _ h => h) (Or.inr ⟨by rfl, rfl⟩) (by assumption) ?_
        try simp only [Act.put, List.setIfInBounds_toArray, List.set_cons_zero, List.set_cons_succ]
        refine takeO 13 (some 57) (v := undef) rfl rfl (by kernel_rfl) (by kernel_rfl) (by kernel_rfl) (fun _ _ _ h => h) (Or.inr ⟨by rfl, rfl⟩) (by assumption) ?_
        try simp only [Act.put, List.setIfInBounds_toArray, List.set_cons_zero, List.set_cons_succ]
        refine takeO 14 (some 58) (v := undef) rfl rfl (by kernel_rfl) (by kernel_rfl) (by kernel_rfl) (fun _ _ _ h => h) (Or.inr ⟨by rfl, rfl⟩) (by assumption) ?_
        try simp only [Act.put, List.setIfInBounds_toArray, List.set_cons_zero, List.set_cons_succ]
        refine takeO 15 (some 59) (v := undef) rfl rfl (by kernel_rfl) (by kernel_rfl) (by kernel_rfl) (fun _ _ _ h => h) (Or.inr ⟨by rfl, rfl⟩) (by assumption) ?_
        try simp only [Act.put, List.setIfInBounds_toArray, List.set_cons_zero, List.set_cons_succ]
        refine takeO 16 (some 60) (v := undef) rfl rfl (by kernel_rfl) (by kernel_rfl) (by kernel_rfl) (fun _ _ _ h => h) (Or.inr ⟨by rfl, rfl⟩) (by assumption) ?_
        try simp only [Act.put, List.setIfInBounds_toArray, List.set_cons_zero, List.set_cons_succ]
        refine takeO 17 (some 61) (v := undef) rfl rfl (by kernel_rfl) (by kernel_rfl) (by kernel_rfl) (fun _ _ _ h => h) (Or.inr ⟨by rfl, rfl⟩) (by assumption) ?_
        try simp only [Act.put, List.setIfInBounds_toArray, List.set_cons_zero, List.set_cons_succ]
        refine takeO 18 (some 62) (v := undef) rfl rfl (by kernel_rfl) (by kernel_rfl) (by kernel_rfl) (fun _ _ _ h => h) (Or.inr ⟨by rfl, rfl⟩) (by assumption) ?_
        try simp only [Act.put, List.setIfInBounds_toArray, List.set_cons_zero, List.set_cons_succ]
        refine takeO 19 (some 63) (v := undef) rfl rfl (by kernel_rfl) (by kernel_rfl) (by kernel_rfl) (fun _ _ _ h => h) (Or.inr ⟨by rfl, rfl⟩) (by assumption) ?_
        try simp only [Act.put, List.setIfInBounds_toArray, List.set_cons_zero, List.set_cons_succ]
        refine takeO 20 (some 64) (v := undef) rfl rfl (by kernel_rfl) (by kernel_rfl) (by kernel_rfl) (fun _ _ _ h => h) (Or.inr ⟨by rfl, rfl⟩) (by assumption) ?_
        try simp only [Act.put, List.setIfInBounds_toArray, List.set_cons_zero, List.set_cons_succ]
        refine takeO 21 (some 65) (v := undef) rfl rfl (by kernel_rfl) (by kernel_rfl) (by kernel_rfl) (fun _ _ _ h => h) (Or.inr ⟨by rfl, rfl⟩) (by assumption) ?_
        try simp only [Act.put, List.setIfInBounds_toArray, List.set_cons_zero, List.set_cons_succ]
        refine takeO 22 (some 66) (v := undef) rfl rfl (by kernel_rfl) (by kernel_rfl) (by kernel_rfl) (fun _ _ _ h => h) (Or.inr ⟨by rfl, rfl⟩) (by assumption) ?_
        try simp only [Act.put, List.setIfInBounds_toArray, List.set_cons_zero, List.set_cons_succ]
        refine takeO 23 (some 67) (v := undef) rfl rfl (by kernel_rfl) (by kernel_rfl) (by kernel_rfl) (fun _ _ _ h => h) (Or.inr ⟨by rfl, rfl⟩) (by assumption) ?_
        try simp only [Act.put, List.setIfInBounds_toArray, List.set_cons_zero, List.set_cons_succ]
        refine takeO 24 (some 68) (v := undef) rfl rfl (by kernel_rfl) (by kernel_rfl) (by kernel_rfl) (fun _ _ _ h => h) (Or.inr ⟨by rfl, rfl⟩) (by assumption) ?_
        try simp only [Act.put, List.setIfInBounds_toArray, List.set_cons_zero, List.set_cons_succ]
        refine takeO 25 (some 69) (v := ?_) rfl rfl (by kernel_rfl) (by kernel_rfl) (by kernel_rfl) (fun _ _ _ h => h) (Or.inl ⟨by rfl, ?_⟩) (by assumption) ?_
        rotate_left 1
        · intro w hSw; (try dsimp only at hSw); go_simp; all_goals with_reducible rfl
        try simp only [Act.put, List.setIfInBounds_toArray, List.set_cons_zero, List.set_cons_succ]
        refine wpAnyH_done (by kernel_rfl) ?_ _
        go_wp2_with fail
        go_ret
        exact ⟨rfl, HB4.out⟩
      rw [hib] at HIT
      by_cases hi0 : ¬ 0 < i
      · have HT2 := Lib.hid (show itOK l (i + 1) = true from (by (obtain rfl : i = 0 := by omega); rw [itOK_zero HXI.out, hib]))
        have k0 : decide ((0 : Int) < (i : Int)) = false := decide_eq_false (by omega)
        have k0n : decide (0 < i) = false := decide_eq_false hi0
        have k0m : i = 0 := by omega
        have HK0 := Lib.hid k0m
        clear hib hi0 k0m
        refine wp_region_held_drew (S := (fun w' => w'.cell? ⟨w.heap.size, 6, none⟩ = some (.slice (some ⟨bb, ob, none⟩) l.length c) ∧ w'.cell? ⟨bb, ob + i * 2, none⟩ = some (.int .i64 x.1) ∧ w'.cell? ⟨bb, ob + i * 2 + 1, none⟩ = some (.string x.2))) (by kernel_rfl) (by first | exact ⟨HXd.out.cell 6, HC.out _ HBd.out⟩ | exact ⟨HX4.out.cell 6, HC.out _ HB4.out⟩) (fun hHeld => ?_)
        refine takeO 0 (some 44) (v := ?_) rfl rfl (by kernel_rfl) (by kernel_rfl) (by kernel_rfl) (fun _ _ _ h => h) (Or.inl ⟨by rfl, ?_⟩) (by assumption) ?_
        rotate_left 1
        · intro w hSw; (try dsimp only at hSw); go_simp; all_goals with_reducible rfl
        try simp only [Act.put, List.setIfInBounds_toArray, List.set_cons_zero, List.set_cons_succ]
        refine takeO 1 (some 45) (v := ?_) rfl rfl (by kernel_rfl) (by kernel_rfl) (by kernel_rfl) (fun _ _ _ h => h) (Or.inl ⟨by rfl, ?_⟩) (by assumption) ?_
        rotate_left 1
        · intro w hSw; (try dsimp only at hSw); go_simp; all_goals with_reducible rfl
        try simp only [Act.put, List.setIfInBounds_toArray, List.set_cons_zero, List.set_cons_succ]
        refine takeO 2 (some 46) (v := ?_) rfl rfl (by kernel_rfl) (by kernel_rfl) (by kernel_rfl) (fun _ _ _ h => h) (Or.inl ⟨by rfl, ?_⟩) (by assumption) ?_
        rotate_left 1
        · intro w hSw; (try dsimp only at hSw); go_simp; all_goals with_reducible rfl
        try simp only [Act.put, List.setIfInBounds_toArray, List.set_cons_zero, List.set_cons_succ]
        refine takeO 3 (some 47) (v := ?_) rfl rfl (by kernel_rfl) (by kernel_rfl) (by kernel_rfl) (fun _ _ _ h => h) (Or.inl ⟨by rfl, ?_⟩) (by assumption) ?_
        rotate_left 1
        · intro w hSw; (try dsimp only at hSw); go_simp; all_goals with_reducible rfl
        try simp only [Act.put, List.setIfInBounds_toArray, List.set_cons_zero, List.set_cons_succ]
        refine takeO 4 (some 48) (v := ?_) rfl rfl (by kernel_rfl) (by kernel_rfl) (by kernel_rfl) (fun _ _ _ h => h) (Or.inl ⟨by rfl, ?_⟩) (by assumption) ?_
        rotate_left 1
        · intro w hSw; (try dsimp only at hSw); go_simp; all_goals with_reducible rfl
        try simp only [Act.put, List.setIfInBounds_toArray, List.set_cons_zero, List.set_cons_succ]
        refine wpAnyH_ready (rs := [5]) (by kernel_rfl) (by simp) ?_
        refine AllReadyH.cons rfl (fun K hK => ?_) AllReadyH.nil
        go_simp
        refine (HIT.out _).mono ?_; rintro e w4 ⟨rfl, hb⟩; have HX4 := Lib.hid (HXd.out.below hb HXd.out.lt); have HB4 := Lib.hid (HBd.out.trans (hb.mono HBd.out.size)); clear hb
        go_wp2_with fail
        refine hK.out _ _ (by first | exact ⟨HXd.out.cell 6, HC.out _ HBd.out⟩ | exact ⟨HX4.out.cell 6, HC.out _ HB4.out⟩) (fun hHeld => ?_)
        clear hK K
        try simp only [Act.put, List.setIfInBounds_toArray, List.set_cons_zero, List.set_cons_succ]
        refine takeO 6 (some 50) (v := ?_) rfl rfl (by kernel_rfl) (by kernel_rfl) (by kernel_rfl) (fun _ _ _ h => h) (Or.inl ⟨by rfl, ?_⟩) (by assumption) ?_
        rotate_left 1
        · intro w hSw; (try dsimp only at hSw); go_simp; all_goals with_reducible rfl
        try simp only [Act.put, List.setIfInBounds_toArray, List.set_cons_zero, List.set_cons_succ]
        refine takeO 7 (some 51) (v := ?_) rfl rfl (by kernel_rfl) (by kernel_rfl) (by kernel_rfl) (fun _ _ _ h => h) (Or.inl ⟨by rfl, ?_⟩) (by assumption) ?_
        rotate_left 1
        · intro w hSw; (try dsimp only at hSw); go_simp; all_goals with_reducible rfl
        try simp only [Act.put, List.setIfInBounds_toArray, List.set_cons_zero, List.set_cons_succ]
        refine takeO 8 (some 52) (v := ?_) rfl rfl (by kernel_rfl) (by kernel_rfl) (by kernel_rfl) (fun _ _ _ h => h) (Or.inl ⟨by rfl, ?_⟩) (by assumption) ?_
        rotate_left 1
        · intro w hSw; (try dsimp only at hSw); go_simp; all_goals with_reducible rfl
        try simp only [Act.put, List.setIfInBounds_toArray, List.set_cons_zero, List.set_cons_succ]
        refine takeO 9 (some 53) (v := ?_) rfl rfl (by kernel_rfl) (by kernel_rfl) (by kernel_rfl) (fun _ _ _ h => h) (Or.inl ⟨by rfl, ?_⟩) (by assumption) ?_
        rotate_left 1
        · intro w hSw; (try dsimp only at hSw); go_simp; all_goals with_reducible rfl
        try simp only [Act.put, List.setIfInBounds_toArray, List.set_cons_zero, List.set_cons_succ]
        refine takeO 10 (some 54) (v := ?_) rfl rfl (by kernel_rfl) (by kernel_rfl) (by kernel_rfl) (fun _ _ _ h => h) (Or.inl ⟨by rfl, ?_⟩) (by assumption) ?_
        rotate_left 1
        · intro w hSw; (try dsimp only at hSw); go_simp; all_goals with_reducible rfl
        try simp only [Act.put, List.setIfInBounds_toArray, List.set_cons_zero, List.set_cons_succ]
        refine takeO 11 (some 55) (v := undef) rfl rfl (by kernel_rfl) (by kernel_rfl) (by kernel_rfl) (fun _ _ _ h => h) (Or.inr ⟨by rfl, rfl⟩) (by assumption) ?_
        try simp only [Act.put, List.setIfInBounds_toArray, List.set_cons_zero, List.set_cons_succ]
        refine takeO 12 (some 56) (v := undef) rfl rfl (by kernel_rfl) (by kernel_rfl) (by kernel_rfl) (fun _ _ _ h => h) (Or.inr ⟨by rfl, rfl⟩) (by assumption) ?_
        try simp only [Act.put, List.setIfInBounds_toArray, List.set_cons_zero, List.set_cons_succ]
        refine takeO 13 (some 57) (v := undef) rfl rfl (by kernel_rfl) (by kernel_rfl) (by kernel_rfl) (fun _ _ _ h => h) (Or.inr ⟨by rfl, rfl⟩) (by assumption) ?_
        try simp only [Act.put, List.setIfInBounds_toArray, List.set_cons_zero, List.set_cons_succ]
        refine takeO 14 (some 58) (v := undef) rfl rfl (by kernel_rfl) (by kernel_rfl) (by kernel_rfl) (fun _ _ _ h => h) (Or.inr ⟨by rfl, rfl⟩) (by assumption) ?_
        try simp only [Act.put, List.setIfInBounds_toArray, List.set_cons_zero, List.set_cons_succ]
        refine takeO 15 (some 59) (v := undef) rfl rfl (by kernel_rfl) (by kernel_rfl) (by kernel_rfl) (fun _ _ _ h => h) (Or.inr ⟨by rfl, rfl⟩) (by assumption) ?_
        try simp only [Act.put, List.setIfInBounds_toArray, List.set_cons_zero, List.set_cons_succ]
        refine takeO 16 (some 60) (v := undef) rfl rfl (by kernel_rfl) (by kernel_rfl) (by kernel_rfl) (fun _ _ _ h => h) (Or.inr ⟨by rfl, rfl⟩) (by assumption) ?_
        try simp only [Act.put, List.setIfInBounds_toArray, List.set_cons_zero, List.set_cons_succ]
        refine takeO 17 (some 61) (v := undef) rfl rfl (by kernel_rfl) (by kernel_rfl) (by kernel_rfl) (fun _ _ _ h => h) (Or.inr ⟨by rfl, rfl⟩) (by assumption) ?_
        try simp only [Act.put, List.setIfInBounds_toArray, List.set_cons_zero, List.set_cons_succ]
        refine takeO 18 (some 62) (v := undef) rfl rfl (by kernel_rfl) (by kernel_rfl) (by kernel_rfl) (fun _ _ _ h => h) (Or.inr ⟨by rfl, rfl⟩) (by assumption) ?_
        try simp only [Act.put, List.setIfInBounds_toArray, List.set_cons_zero, List.set_cons_succ]
        refine takeO 19 (some 63) (v := undef) rfl rfl (by kernel_rfl) (by kernel_rfl) (by kernel_rfl) (fun _ _ _ h => h) (Or.inr ⟨by rfl, rfl⟩) (by assumption) ?_
        try simp only [Act.put, List.setIfInBounds_toArray, List.set_cons_zero, List.set_cons_succ]
        refine takeO 20 (some 64) (v := undef) rfl rfl (by kernel_rfl) (by kernel_rfl) (by kernel_rfl) (fun _ _ _ h => h) (Or.inr ⟨by rfl, rfl⟩) (by assumption) ?_
        try simp only [Act.put, List.setIfInBounds_toArray, List.set_cons_zero, List.set_cons_succ]
        refine takeO 21 (some 65) (v := undef) rfl rfl (by kernel_rfl) (by kernel_rfl) (by kernel_rfl) (fun _ _ _ h => h) (Or.inr ⟨by rfl, rfl⟩) (by assumption) ?_
        try simp only [Act.put, List.setIfInBounds_toArray, List.set_cons_zero, List.set_cons_succ]
        refine takeO 22 (some 66) (v := undef) rfl rfl (by kernel_rfl) (by kernel_rfl) (by kernel_rfl) (fun _ _ _ h => h) (Or.inr ⟨by rfl, rfl⟩) (by assumption) ?_
        try simp only [Act.put, List.setIfInBounds_toArray, List.set_cons_zero, List.set_cons_succ]
        refine takeO 23 (some 67) (v := undef) rfl rfl (by kernel_rfl) (by kernel_rfl) (by kernel_rfl) (fun _ _ _ h => h) (Or.inr ⟨by rfl, rfl⟩) (by assumption) ?_
        try simp only [Act.put, List.setIfInBounds_toArray, List.set_cons_zero, List.set_cons_succ]
        refine takeO 24 (some 68) (v := ?_) rfl rfl (by kernel_rfl) (by kernel_rfl) (by kernel_rfl) (fun _ _ _ h => h) (Or.inl ⟨by rfl, ?_⟩) (by assumption) ?_
        rotate_left 1
        · intro w hSw; (try dsimp only at hSw); go_simp; all_goals with_reducible rfl
        try simp only [Act.put, List.setIfInBounds_toArray, List.set_cons_zero, List.set_cons_succ]
        refine takeO 25 (some 69) (v := ?_) rfl rfl (by kernel_rfl) (by kernel_rfl) (by kernel_rfl) (fun _ _ _ h => h) (Or.inl ⟨by rfl, ?_⟩) (by assumption) ?_
        rotate_left 1
        · intro w hSw; (try dsimp only at hSw); go_simp; all_goals with_reducible rfl
        try simp only [Act.put, List.setIfInBounds_toArray, List.set_cons_zero, List.set_cons_succ]
        refine wpAnyH_done (by kernel_rfl) ?_ _
        go_wp2_with fail
        go_roundw
        case rel => exact ⟨i + 1, by omega, by go_num, HT2.out, HX4.out, HB4.out⟩
        case measure => simp [intOf]; omega
      · obtain ⟨m, hm⟩ : ∃ m, i = m + 1 := ⟨i - 1, by omega⟩
        obtain ⟨y, hy⟩ : ∃ y, l[m]? = some y := ⟨_, List.getElem?_eq_getElem (by omega)⟩
        have HCY := Lib.hid (show ∀ W, Below w.heap.size w W → W.cell? ⟨bb, ob + m * 2, none⟩ = some (.int .i64 y.1) ∧ W.cell? ⟨bb, ob + m * 2 + 1, none⟩ = some (.string y.2) from fun W hb => by
          obtain ⟨b', o', e, _, hc⟩ := (HRI.out W hb).2.2.2.2 m y hy
          cases e
          exact ⟨hc 0 (by decide), hc 1 (by decide)⟩)
        have HLS := Lib.hid (fun W => (show Calls Try.prog 71 #[.agg #[.int .i64 y.1, .string y.2], .agg #[.int .i64 x.1, .string x.2]] W fun e w' => e = .returned (.bool (kless y x)) ∧ Below W.heap.size W w' from ritless_any y.1 y.2 x.1 x.2 W (HZ.out y (List.mem_of_getElem? hy)) (HZ.out x (List.mem_of_getElem? HXI.out))))
        have HOK := Lib.hid (show itOK l (i + 1) = (itOK l i && (itemB x && kless y x)) from by subst hm; exact itOK_succ HXI.out hy)
        have kw : IntKind.i64.wrap ((i : Int) - 1) = (m : Int) := by rw [IntWalk.i64_in _ (by omega)]; omega
        have k3 : decide ((0 : Int) < (i : Int)) = true := decide_eq_true (by omega)
        have k3n : decide (0 < i) = true := decide_eq_true (by omega)
        have k4 : (0 : Int) ≤ (m : Int) := by omega
        have k5 : (m : Int) < (l.length : Int) := by omega
        have HMM := Lib.hid hm
        clear hy hm hi0
        cases hkl : kless y x
        · rw [hkl] at HLS
          obtain rfl : R = false := by
            rw [HRO.out]
            have h1 := HOK.out
            rw [hkl] at h1
            simp only [Bool.and_false] at h1
            exact itOK_no h1 l.length (by omega)
          clear hkl hib
          refine wp_region_held_drew (S := (fun w' => w'.cell? ⟨w.heap.size, 6, none⟩ = some (.slice (some ⟨bb, ob, none⟩) l.length c) ∧ w'.cell? ⟨bb, ob + i * 2, none⟩ = some (.int .i64 x.1) ∧ w'.cell? ⟨bb, ob + i * 2 + 1, none⟩ = some (.string x.2) ∧ w'.cell? ⟨bb, ob + m * 2, none⟩ = some (.int .i64 y.1) ∧ w'.cell? ⟨bb, ob + m * 2 + 1, none⟩ = some (.string y.2))) (by kernel_rfl) (by first | exact ⟨HXd.out.cell 6, (HC.out _ HBd.out).1, (HC.out _ HBd.out).2, HCY.out _ HBd.out⟩ | exact ⟨HX4.out.cell 6, (HC.out _ HB4.out).1, (HC.out _ HB4.out).2, HCY.out _ HB4.out⟩ | exact ⟨HX5.out.cell 6, (HC.out _ HB5.out).1, (HC.out _ HB5.out).2, HCY.out _ HB5.out⟩) (fun hHeld => ?_)
          refine takeO 0 (some 44) (v := ?_) rfl rfl (by kernel_rfl) (by kernel_rfl) (by kernel_rfl) (fun _ _ _ h => h) (Or.inl ⟨by rfl, ?_⟩) (by assumption) ?_
          rotate_left 1
          · intro w hSw; (try dsimp only at hSw); go_simp; all_goals with_reducible rfl
          try simp only [Act.put, List.setIfInBounds_toArray, List.set_cons_zero, List.set_cons_succ]
          refine takeO 1 (some 45) (v := ?_) rfl rfl (by kernel_rfl) (by kernel_rfl) (by kernel_rfl) (fun _ _ _ h => h) (Or.inl ⟨by rfl, ?_⟩) (by assumption) ?_
          rotate_left 1
          · intro w hSw; (try dsimp only at hSw); go_simp; all_goals with_reducible rfl
          try simp only [Act.put, List.setIfInBounds_toArray, List.set_cons_zero, List.set_cons_succ]
          refine takeO 2 (some 46) (v := ?_) rfl rfl (by kernel_rfl) (by kernel_rfl) (by kernel_rfl) (fun _ _ _ h => h) (Or.inl ⟨by rfl, ?_⟩) (by assumption) ?_
          rotate_left 1
          · intro w hSw; (try dsimp only at hSw); go_simp; all_goals with_reducible rfl
          try simp only [Act.put, List.setIfInBounds_toArray, List.set_cons_zero, List.set_cons_succ]
          refine takeO 3 (some 47) (v := ?_) rfl rfl (by kernel_rfl) (by kernel_rfl) (by kernel_rfl) (fun _ _ _ h => h) (Or.inl ⟨by rfl, ?_⟩) (by assumption) ?_
          rotate_left 1
          · intro w hSw; (try dsimp only at hSw); go_simp; all_goals with_reducible rfl
          try simp only [Act.put, List.setIfInBounds_toArray, List.set_cons_zero, List.set_cons_succ]
          refine takeO 4 (some 48) (v := ?_) rfl rfl (by kernel_rfl) (by kernel_rfl) (by kernel_rfl) (fun _ _ _ h => h) (Or.inl ⟨by rfl, ?_⟩) (by assumption) ?_
          rotate_left 1
          · intro w hSw; (try dsimp only at hSw); go_simp; all_goals with_reducible rfl
          try simp only [Act.put, List.setIfInBounds_toArray, List.set_cons_zero, List.set_cons_succ]
          refine wpAnyH_ready (rs := [5]) (by kernel_rfl) (by simp) ?_
          refine AllReadyH.cons rfl (fun K hK => ?_) AllReadyH.nil
          go_simp
          refine (HIT.out _).mono ?_; rintro e w4 ⟨rfl, hb⟩; have HX4 := Lib.hid (HXd.out.below hb HXd.out.lt); have HB4 := Lib.hid (HBd.out.trans (hb.mono HBd.out.size)); clear hb
          go_wp2_with fail
          refine hK.out _ _ (by first | exact ⟨HXd.out.cell 6, (HC.out _ HBd.out).1, (HC.out _ HBd.out).2, HCY.out _ HBd.out⟩ | exact ⟨HX4.out.cell 6, (HC.out _ HB4.out).1, (HC.out _ HB4.out).2, HCY.out _ HB4.out⟩ | exact ⟨HX5.out.cell 6, (HC.out _ HB5.out).1, (HC.out _ HB5.out).2, HCY.out _ HB5.out⟩) (fun hHeld => ?_)
          clear hK K
          try simp only [Act.put, List.setIfInBounds_toArray, List.set_cons_zero, List.set_cons_succ]
          refine takeO 6 (some 50) (v := ?_) rfl rfl (by kernel_rfl) (by kernel_rfl) (by kernel_rfl) (fun _ _ _ h => h) (Or.inl ⟨by rfl, ?_⟩) (by assumption) ?_
          rotate_left 1
          · intro w hSw; (try dsimp only at hSw); go_simp; all_goals with_reducible rfl
          try simp only [Act.put, List.setIfInBounds_toArray, List.set_cons_zero, List.set_cons_succ]
          refine takeO 7 (some 51) (v := ?_) rfl rfl (by kernel_rfl) (by kernel_rfl) (by kernel_rfl) (fun _ _ _ h => h) (Or.inl ⟨by rfl, ?_⟩) (by assumption) ?_
          rotate_left 1
          · intro w hSw; (try dsimp only at hSw); go_simp; all_goals with_reducible rfl
          try simp only [Act.put, List.setIfInBounds_toArray, List.set_cons_zero, List.set_cons_succ]
          refine takeO 8 (some 52) (v := ?_) rfl rfl (by kernel_rfl) (by kernel_rfl) (by kernel_rfl) (fun _ _ _ h => h) (Or.inl ⟨by rfl, ?_⟩) (by assumption) ?_
          rotate_left 1
          · intro w hSw; (try dsimp only at hSw); go_simp; all_goals with_reducible rfl
          try simp only [Act.put, List.setIfInBounds_toArray, List.set_cons_zero, List.set_cons_succ]
          refine takeO 9 (some 53) (v := ?_) rfl rfl (by kernel_rfl) (by kernel_rfl) (by kernel_rfl) (fun _ _ _ h => h) (Or.inl ⟨by rfl, ?_⟩) (by assumption) ?_
          rotate_left 1
          · intro w hSw; (try dsimp only at hSw); go_simp; all_goals with_reducible rfl
          try simp only [Act.put, List.setIfInBounds_toArray, List.set_cons_zero, List.set_cons_succ]
          refine takeO 10 (some 54) (v := ?_) rfl rfl (by kernel_rfl) (by kernel_rfl) (by kernel_rfl) (fun _ _ _ h => h) (Or.inl ⟨by rfl, ?_⟩) (by assumption) ?_
          rotate_left 1
          · intro w hSw; (try dsimp only at hSw); go_simp; all_goals with_reducible rfl
          try simp only [Act.put, List.setIfInBounds_toArray, List.set_cons_zero, List.set_cons_succ]
          refine takeO 11 (some 55) (v := ?_) rfl rfl (by kernel_rfl) (by kernel_rfl) (by kernel_rfl) (fun _ _ _ h => h) (Or.inl ⟨by rfl, ?_⟩) (by assumption) ?_
          rotate_left 1
          · intro w hSw; (try dsimp only at hSw); go_simp; all_goals with_reducible rfl
          try simp only [Act.put, List.setIfInBounds_toArray, List.set_cons_zero, List.set_cons_succ]
          refine takeO 12 (some 56) (v := ?_) rfl rfl (by kernel_rfl) (by kernel_rfl) (by kernel_rfl) (fun _ _ _ h => h) (Or.inl ⟨by rfl, ?_⟩) (by assumption) ?_
          rotate_left 1
          · intro w hSw; (try dsimp only at hSw); go_simp; all_goals with_reducible rfl
          try simp only [Act.put, List.setIfInBounds_toArray, List.set_cons_zero, List.set_cons_succ]
          refine takeO 13 (some 57) (v := ?_) rfl rfl (by kernel_rfl) (by kernel_rfl) (by kernel_rfl) (fun _ _ _ h => h) (Or.inl ⟨by rfl, ?_⟩) (by assumption) ?_
          rotate_left 1
          · intro w hSw; (try dsimp only at hSw); go_simp; all_goals with_reducible rfl
          try simp only [Act.put, List.setIfInBounds_toArray, List.set_cons_zero, List.set_cons_succ]
          refine takeO 14 (some 58) (v := ?_) rfl rfl (by kernel_rfl) (by kernel_rfl) (by kernel_rfl) (fun _ _ _ h => h) (Or.inl ⟨by rfl, ?_⟩) (by assumption) ?_
          rotate_left 1
          · intro w hSw; (try dsimp only at hSw); go_simp; all_goals with_reducible rfl
          try simp only [Act.put, List.setIfInBounds_toArray, List.set_cons_zero, List.set_cons_succ]
          refine takeO 15 (some 59) (v := ?_) rfl rfl (by kernel_rfl) (by kernel_rfl) (by kernel_rfl) (fun _ _ _ h => h) (Or.inl ⟨by rfl, ?_⟩) (by assumption) ?_
          rotate_left 1
          · intro w hSw; (try dsimp only at hSw); go_simp; all_goals with_reducible rfl
          try simp only [Act.put, List.setIfInBounds_toArray, List.set_cons_zero, List.set_cons_succ]
          refine takeO 16 (some 60) (v := ?_) rfl rfl (by kernel_rfl) (by kernel_rfl) (by kernel_rfl) (fun _ _ _ h => h) (Or.inl ⟨by rfl, ?_⟩) (by assumption) ?_
          rotate_left 1
          · intro w hSw; (try dsimp only at hSw); go_simp; all_goals with_reducible rfl
          try simp only [Act.put, List.setIfInBounds_toArray, List.set_cons_zero, List.set_cons_succ]
          refine takeO 17 (some 61) (v := ?_) rfl rfl (by kernel_rfl) (by kernel_rfl) (by kernel_rfl) (fun _ _ _ h => h) (Or.inl ⟨by rfl, ?_⟩) (by assumption) ?_
          rotate_left 1
          · intro w hSw; (try dsimp only at hSw); go_simp; all_goals with_reducible rfl
          try simp only [Act.put, List.setIfInBounds_toArray, List.set_cons_zero, List.set_cons_succ]
          refine takeO 18 (some 62) (v := ?_) rfl rfl (by kernel_rfl) (by kernel_rfl) (by kernel_rfl) (fun _ _ _ h => h) (Or.inl ⟨by rfl, ?_⟩) (by assumption) ?_
          rotate_left 1
          · intro w hSw; (try dsimp only at hSw); go_simp; all_goals with_reducible rfl
          try simp only [Act.put, List.setIfInBounds_toArray, List.set_cons_zero, List.set_cons_succ]
          refine takeO 19 (some 63) (v := ?_) rfl rfl (by kernel_rfl) (by kernel_rfl) (by kernel_rfl) (fun _ _ _ h => h) (Or.inl ⟨by rfl, ?_⟩) (by assumption) ?_
          rotate_left 1
          · intro w hSw; (try dsimp only at hSw); go_simp; all_goals with_reducible rfl
          try simp only [Act.put, List.setIfInBounds_toArray, List.set_cons_zero, List.set_cons_succ]
          refine takeO 20 (some 64) (v := ?_) rfl rfl (by kernel_rfl) (by kernel_rfl) (by kernel_rfl) (fun _ _ _ h => h) (Or.inl ⟨by rfl, ?_⟩) (by assumption) ?_
          rotate_left 1
          · intro w hSw; (try dsimp only at hSw); go_simp; all_goals with_reducible rfl
          try simp only [Act.put, List.setIfInBounds_toArray, List.set_cons_zero, List.set_cons_succ]
          refine takeO 21 (some 65) (v := ?_) rfl rfl (by kernel_rfl) (by kernel_rfl) (by kernel_rfl) (fun _ _ _ h => h) (Or.inl ⟨by rfl, ?_⟩) (by assumption) ?_
          rotate_left 1
          · intro w hSw; (try dsimp only at hSw); go_simp; all_goals with_reducible rfl
          try simp only [Act.put, List.setIfInBounds_toArray, List.set_cons_zero, List.set_cons_succ]
          refine wpAnyH_ready (rs := [22]) (by kernel_rfl) (by simp) ?_
          refine AllReadyH.cons rfl (fun K hK => ?_) AllReadyH.nil
          go_simp
          refine (HLS.out _).mono ?_; rintro e w5 ⟨rfl, hb⟩; have HX5 := Lib.hid (HX4.out.below hb HX4.out.lt); have HB5 := Lib.hid (HB4.out.trans (hb.mono HB4.out.size)); clear hb
          go_wp2_with fail
          refine hK.out _ _ (by first | exact ⟨HXd.out.cell 6, (HC.out _ HBd.out).1, (HC.out _ HBd.out).2, HCY.out _ HBd.out⟩ | exact ⟨HX4.out.cell 6, (HC.out _ HB4.out).1, (HC.out _ HB4.out).2, HCY.out _ HB4.out⟩ | exact ⟨HX5.out.cell 6, (HC.out _ HB5.out).1, (HC.out _ HB5.out).2, HCY.out _ HB5.out⟩) (fun hHeld => ?_)
          clear hK K
          try simp only [Act.put, List.setIfInBounds_toArray, List.set_cons_zero, List.set_cons_succ]
          refine takeO 23 (some 67) (v := ?_) rfl rfl (by kernel_rfl) (by kernel_rfl) (by kernel_rfl) (fun _ _ _ h => h) (Or.inl ⟨by rfl, ?_⟩) (by assumption) ?_
          rotate_left 1
          · intro w hSw; (try dsimp only at hSw); go_simp; all_goals with_reducible rfl
          try simp only [Act.put, List.setIfInBounds_toArray, List.set_cons_zero, List.set_cons_succ]
          refine takeO 24 (some 68) (v := ?_) rfl rfl (by kernel_rfl) (by kernel_rfl) (by kernel_rfl) (fun _ _ _ h => h) (Or.inl ⟨by rfl, ?_⟩) (by assumption) ?_
          rotate_left 1
          · intro w hSw; (try dsimp only at hSw); go_simp; all_goals with_reducible rfl
          try simp only [Act.put, List.setIfInBounds_toArray, List.set_cons_zero, List.set_cons_succ]
          refine takeO 25 (some 69) (v := ?_) rfl rfl (by kernel_rfl) (by kernel_rfl) (by kernel_rfl) (fun _ _ _ h => h) (Or.inl ⟨by rfl, ?_⟩) (by assumption) ?_
          rotate_left 1
          · intro w hSw; (try dsimp only at hSw); go_simp; all_goals with_reducible rfl
          try simp only [Act.put, List.setIfInBounds_toArray, List.set_cons_zero, List.set_cons_succ]
          refine wpAnyH_done (by kernel_rfl) ?_ _
          go_wp2_with fail
          go_ret
          exact ⟨rfl, HB5.out⟩
        · have HT2 := Lib.hid (show itOK l (i + 1) = true from by rw [HOK.out, hkl, hib, HT.out]; rfl)
          rw [hkl] at HLS
          clear hkl hib
          refine wp_region_held_drew (S := (fun w' => w'.cell? ⟨w.heap.size, 6, none⟩ = some (.slice (some ⟨bb, ob, none⟩) l.length c) ∧ w'.cell? ⟨bb, ob + i * 2, none⟩ = some (.int .i64 x.1) ∧ w'.cell? ⟨bb, ob + i * 2 + 1, none⟩ = some (.string x.2) ∧ w'.cell? ⟨bb, ob + m * 2, none⟩ = some (.int .i64 y.1) ∧ w'.cell? ⟨bb, ob + m * 2 + 1, none⟩ = some (.string y.2))) (by kernel_rfl) (by first | exact ⟨HXd.out.cell 6, (HC.out _ HBd.out).1, (HC.out _ HBd.out).2, HCY.out _ HBd.out⟩ | exact ⟨HX4.out.cell 6, (HC.out _ HB4.out).1, (HC.out _ HB4.out).2, HCY.out _ HB4.out⟩ | exact ⟨HX5.out.cell 6, (HC.out _ HB5.out).1, (HC.out _ HB5.out).2, HCY.out _ HB5.out⟩) (fun hHeld => ?_)
          refine takeO 0 (some 44) (v := ?_) rfl rfl (by kernel_rfl) (by kernel_rfl) (by kernel_rfl) (fun _ _ _ h => h) (Or.inl ⟨by rfl, ?_⟩) (by assumption) ?_
          rotate_left 1
          · intro w hSw; (try dsimp only at hSw); go_simp; all_goals with_reducible rfl
          try simp only [Act.put, List.setIfInBounds_toArray, List.set_cons_zero, List.set_cons_succ]
          refine takeO 1 (some 45) (v := ?_) rfl rfl (by kernel_rfl) (by kernel_rfl) (by kernel_rfl) (fun _ _ _ h => h) (Or.inl ⟨by rfl, ?_⟩) (by assumption) ?_
          rotate_left 1
          · intro w hSw; (try dsimp only at hSw); go_simp; all_goals with_reducible rfl
          try simp only [Act.put, List.setIfInBounds_toArray, List.set_cons_zero, List.set_cons_succ]
          refine takeO 2 (some 46) (v := ?_) rfl rfl (by kernel_rfl) (by kernel_rfl) (by kernel_rfl) (fun _ _ _ h => h) (Or.inl ⟨by rfl, ?_⟩) (by assumption) ?_
          rotate_left 1
          · intro w hSw; (try dsimp only at hSw); go_simp; all_goals with_reducible rfl
          try simp only [Act.put, List.setIfInBounds_toArray, List.set_cons_zero, List.set_cons_succ]
          refine takeO 3 (some 47) (v := ?_) rfl rfl (by kernel_rfl) (by kernel_rfl) (by kernel_rfl) (fun _ _ _ h => h) (Or.inl ⟨by rfl, ?_⟩) (by assumption) ?_
          rotate_left 1
          · intro w hSw; (try dsimp only at hSw); go_simp; all_goals with_reducible rfl
          try simp only [Act.put, List.setIfInBounds_toArray, List.set_cons_zero, List.set_cons_succ]
          refine takeO 4 (some 48) (v := ?_) rfl rfl (by kernel_rfl) (by kernel_rfl) (by kernel_rfl) (fun _ _ _ h => h) (Or.inl ⟨by rfl, ?_⟩) (by assumption) ?_
          rotate_left 1
          · intro w hSw; (try dsimp only at hSw); go_simp; all_goals with_reducible rfl
          try simp only [Act.put, List.setIfInBounds_toArray, List.set_cons_zero, List.set_cons_succ]
          refine wpAnyH_ready (rs := [5]) (by kernel_rfl) (by simp) ?_
          refine AllReadyH.cons rfl (fun K hK => ?_) AllReadyH.nil
          go_simp
          refine (HIT.out _).mono ?_; rintro e w4 ⟨rfl, hb⟩; have HX4 := Lib.hid (HXd.out.below hb HXd.out.lt); have HB4 := Lib.hid (HBd.out.trans (hb.mono HBd.out.size)); clear hb
          go_wp2_with fail
          refine hK.out _ _ (by first | exact ⟨HXd.out.cell 6, (HC.out _ HBd.out).1, (HC.out _ HBd.out).2, HCY.out _ HBd.out⟩ | exact ⟨HX4.out.cell 6, (HC.out _ HB4.out).1, (HC.out _ HB4.out).2, HCY.out _ HB4.out⟩ | exact ⟨HX5.out.cell 6, (HC.out _ HB5.out).1, (HC.out _ HB5.out).2, HCY.out _ HB5.out⟩) (fun hHeld => ?_)
          clear hK K
          try simp only [Act.put, List.setIfInBounds_toArray, List.set_cons_zero, List.set_cons_succ]
          refine takeO 6 (some 50) (v := ?_) rfl rfl (by kernel_rfl) (by kernel_rfl) (by kernel_rfl) (fun _ _ _ h => h) (Or.inl ⟨by rfl, ?_⟩) (by assumption) ?_
          rotate_left 1
          · intro w hSw; (try dsimp only at hSw); go_simp; all_goals with_reducible rfl
          try simp only [Act.put, List.setIfInBounds_toArray, List.set_cons_zero, List.set_cons_succ]
          refine takeO 7 (some 51) (v := ?_) rfl rfl (by kernel_rfl) (by kernel_rfl) (by kernel_rfl) (fun _ _ _ h => h) (Or.inl ⟨by rfl, ?_⟩) (by assumption) ?_
          rotate_left 1
          · intro w hSw; (try dsimp only at hSw); go_simp; all_goals with_reducible rfl
          try simp only [Act.put, List.setIfInBounds_toArray, List.set_cons_zero, List.set_cons_succ]
          refine takeO 8 (some 52) (v := ?_) rfl rfl (by kernel_rfl) (by kernel_rfl) (by kernel_rfl) (fun _ _ _ h => h) (Or.inl ⟨by rfl, ?_⟩) (by assumption) ?_
          rotate_left 1
          · intro w hSw; (try dsimp only at hSw); go_simp; all_goals with_reducible rfl
          try simp only [Act.put, List.setIfInBounds_toArray, List.set_cons_zero, List.set_cons_succ]
          refine takeO 9 (some 53) (v := ?_) rfl rfl (by kernel_rfl) (by kernel_rfl) (by kernel_rfl) (fun _ _ _ h => h) (Or.inl ⟨by rfl, ?_⟩) (by assumption) ?_
          rotate_left 1
          · intro w hSw; (try dsimp only at hSw); go_simp; all_goals with_reducible rfl
          try simp only [Act.put, List.setIfInBounds_toArray, List.set_cons_zero, List.set_cons_succ]
          refine takeO 10 (some 54) (v := ?_) rfl rfl (by kernel_rfl) (by kernel_rfl) (by kernel_rfl) (fun _ _ _ h => h) (Or.inl ⟨by rfl, ?_⟩) (by assumption) ?_
          rotate_left 1
          · intro w hSw; (try dsimp only at hSw); go_simp; all_goals with_reducible rfl
          try simp only [Act.put, List.setIfInBounds_toArray, List.set_cons_zero, List.set_cons_succ]
          refine takeO 11 (some 55) (v := ?_) rfl rfl (by kernel_rfl) (by kernel_rfl) (by kernel_rfl) (fun _ _ _ h => h) (Or.inl ⟨by rfl, ?_⟩) (by assumption) ?_
          rotate_left 1
          · intro w hSw; (try dsimp only at hSw); go_simp; all_goals with_reducible rfl
          try simp only [Act.put, List.setIfInBounds_toArray, List.set_cons_zero, List.set_cons_succ]
          refine takeO 12 (some 56) (v := ?_) rfl rfl (by kernel_rfl) (by kernel_rfl) (by kernel_rfl) (fun _ _ _ h => h) (Or.inl ⟨by rfl, ?_⟩) (by assumption) ?_
          rotate_left 1
          · intro w hSw; (try dsimp only at hSw); go_simp; all_goals with_reducible rfl
          try simp only [Act.put, List.setIfInBounds_toArray, List.set_cons_zero, List.set_cons_succ]
          refine takeO 13 (some 57) (v := ?_) rfl rfl (by kernel_rfl) (by kernel_rfl) (by kernel_rfl) (fun _ _ _ h => h) (Or.inl ⟨by rfl, ?_⟩) (by assumption) ?_
          rotate_left 1
          · intro w hSw; (try dsimp only at hSw); go_simp; all_goals with_reducible rfl
          try simp only [Act.put, List.setIfInBounds_toArray, List.set_cons_zero, List.set_cons_succ]
          refine takeO 14 (some 58) (v := ?_) rfl rfl (by kernel_rfl) (by kernel_rfl) (by kernel_rfl) (fun _ _ _ h => h) (Or.inl ⟨by rfl, ?_⟩) (by assumption) ?_
          rotate_left 1
          · intro w hSw; (try dsimp only at hSw); go_simp; all_goals with_reducible rfl
          try simp only [Act.put, List.setIfInBounds_toArray, List.set_cons_zero, List.set_cons_succ]
          refine takeO 15 (some 59) (v := ?_) rfl rfl (by kernel_rfl) (by kernel_rfl) (by kernel_rfl) (fun _ _ _ h => h) (Or.inl ⟨by rfl, ?_⟩) (by assumption) ?_
          rotate_left 1
          · intro w hSw; (try dsimp only at hSw); go_simp; all_goals with_reducible rfl
          try simp only [Act.put, List.setIfInBounds_toArray, List.set_cons_zero, List.set_cons_succ]
          refine takeO 16 (some 60) (v := ?_) rfl rfl (by kernel_rfl) (by kernel_rfl) (by kernel_rfl) (fun _ _ _ h => h) (Or.inl ⟨by rfl, ?_⟩) (by assumption) ?_
          rotate_left 1
          · intro w hSw; (try dsimp only at hSw); go_simp; all_goals with_reducible rfl
          try simp only [Act.put, List.setIfInBounds_toArray, List.set_cons_zero, List.set_cons_succ]
          refine takeO 17 (some 61) (v := ?_) rfl rfl (by kernel_rfl) (by kernel_rfl) (by kernel_rfl) (fun _ _ _ h => h) (Or.inl ⟨by rfl, ?_⟩) (by assumption) ?_
          rotate_left 1
          · intro w hSw; (try dsimp only at hSw); go_simp; all_goals with_reducible rfl
          try simp only [Act.put, List.setIfInBounds_toArray, List.set_cons_zero, List.set_cons_succ]
          refine takeO 18 (some 62) (v := ?_) rfl rfl (by kernel_rfl) (by kernel_rfl) (by kernel_rfl) (fun _ _ _ h => h) (Or.inl ⟨by rfl, ?_⟩) (by assumption) ?_
          rotate_left 1
          · intro w hSw; (try dsimp only at hSw); go_simp; all_goals with_reducible rfl
          try simp only [Act.put, List.setIfInBounds_toArray, List.set_cons_zero, List.set_cons_succ]
          refine takeO 19 (some 63) (v := ?_) rfl rfl (by kernel_rfl) (by kernel_rfl) (by kernel_rfl) (fun _ _ _ h => h) (Or.inl ⟨by rfl, ?_⟩) (by assumption) ?_
          rotate_left 1
          · intro w hSw; (try dsimp only at hSw); go_simp; all_goals with_reducible rfl
          try simp only [Act.put, List.setIfInBounds_toArray, List.set_cons_zero, List.set_cons_succ]
          refine takeO 20 (some 64) (v := ?_) rfl rfl (by kernel_rfl) (by kernel_rfl) (by kernel_rfl) (fun _ _ _ h => h) (Or.inl ⟨by rfl, ?_⟩) (by assumption) ?_
          rotate_left 1
          · intro w hSw; (try dsimp only at hSw); go_simp; all_goals with_reducible rfl
          try simp only [Act.put, List.setIfInBounds_toArray, List.set_cons_zero, List.set_cons_succ]
          refine takeO 21 (some 65) (v := ?_) rfl rfl (by kernel_rfl) (by kernel_rfl) (by kernel_rfl) (fun _ _ _ h => h) (Or.inl ⟨by rfl, ?_⟩) (by assumption) ?_
          rotate_left 1
          · intro w hSw; (try dsimp only at hSw); go_simp; all_goals with_reducible rfl
          try simp only [Act.put, List.setIfInBounds_toArray, List.set_cons_zero, List.set_cons_succ]
          refine wpAnyH_ready (rs := [22]) (by kernel_rfl) (by simp) ?_
          refine AllReadyH.cons rfl (fun K hK => ?_) AllReadyH.nil
          go_simp
          refine (HLS.out _).mono ?_; rintro e w5 ⟨rfl, hb⟩; have HX5 := Lib.hid (HX4.out.below hb HX4.out.lt); have HB5 := Lib.hid (HB4.out.trans (hb.mono HB4.out.size)); clear hb
          go_wp2_with fail
          refine hK.out _ _ (by first | exact ⟨HXd.out.cell 6, (HC.out _ HBd.out).1, (HC.out _ HBd.out).2, HCY.out _ HBd.out⟩ | exact ⟨HX4.out.cell 6, (HC.out _ HB4.out).1, (HC.out _ HB4.out).2, HCY.out _ HB4.out⟩ | exact ⟨HX5.out.cell 6, (HC.out _ HB5.out).1, (HC.out _ HB5.out).2, HCY.out _ HB5.out⟩) (fun hHeld => ?_)
          clear hK K
          try simp only [Act.put, List.setIfInBounds_toArray, List.set_cons_zero, List.set_cons_succ]
          refine takeO 23 (some 67) (v := ?_) rfl rfl (by kernel_rfl) (by kernel_rfl) (by kernel_rfl) (fun _ _ _ h => h) (Or.inl ⟨by rfl, ?_⟩) (by assumption) ?_
          rotate_left 1
          · intro w hSw; (try dsimp only at hSw); go_simp; all_goals with_reducible rfl
          try simp only [Act.put, List.setIfInBounds_toArray, List.set_cons_zero, List.set_cons_succ]
          refine takeO 24 (some 68) (v := ?_) rfl rfl (by kernel_rfl) (by kernel_rfl) (by kernel_rfl) (fun _ _ _ h => h) (Or.inl ⟨by rfl, ?_⟩) (by assumption) ?_
          rotate_left 1
          · intro w hSw; (try dsimp only at hSw); go_simp; all_goals with_reducible rfl
          try simp only [Act.put, List.setIfInBounds_toArray, List.set_cons_zero, List.set_cons_succ]
          refine takeO 25 (some 69) (v := ?_) rfl rfl (by kernel_rfl) (by kernel_rfl) (by kernel_rfl) (fun _ _ _ h => h) (Or.inl ⟨by rfl, ?_⟩) (by assumption) ?_
          rotate_left 1
          · intro w hSw; (try dsimp only at hSw); go_simp; all_goals with_reducible rfl
          try simp only [Act.put, List.setIfInBounds_toArray, List.set_cons_zero, List.set_cons_succ]
          refine wpAnyH_done (by kernel_rfl) ?_ _
          go_wp2_with fail
          go_roundw
          case rel => exact ⟨i + 1, by omega, by go_num, HT2.out, HX5.out, HB5.out⟩
          case measure => simp [intOf]; omega
    · obtain rfl : i = l.length := by omega
      obtain rfl : R = true := by rw [HRO.out]; exact HT.out
      go_wp2_with fail
      go_ret
      exact ⟨rfl, HB3.out⟩
end Go.Proofs.Ytjhkdbcfkaaffaa
/- The document's messages; Of, May. -/
namespace Go.Proofs.Ytjhkdbcfkaaffaa
open Go.RowKit
set_option linter.unusedVariables false

/-- the message that a Msg of the document is -/
def P5.kd (p : P5) (k : Int) : MV :=
  if k = 1 then (.hello p.hw p.hl) else if k = 2 then (.grant p.gw p.gl p.ge) else if k = 3 then (.ask p.ai p.aq p.ah p.an p.ae p.ax p.ak p.ab p.af p.ad p.aw) else if k = 4 then (.reply p.rs p.rq p.rh p.rn p.rw p.re p.rl p.rb) else if k = 5 then (.stop p.ss p.sq) else .nil
def P5.msg (p : P5) (k : Int) : Value := .agg #[.int .i64 k, .int .i64 p.hw, .int .i64 p.hl, .int .i64 p.gw, .int .i64 p.gl, .int .i64 p.ge, .int .i64 p.ai, .int .i64 p.aq, .int .i64 p.ah, .int .i64 p.an, .int .i64 p.ae, .string p.ax, .int .i64 p.ak, .int .i64 p.ab, .bool p.af, .int .i64 p.ad, .string p.aw, .int .i64 p.rs, .int .i64 p.rq, .int .i64 p.rh, .int .i64 p.rn, .int .i64 p.rw, .int .i64 p.re, .slice p.ra p.rl.length p.rc, .bool p.rb, .int .i64 p.ss, .int .i64 p.sq]
/-- its items lie in the world, its texts are of moderate size -/
def P5.fit (p : P5) (w : World) : Prop := RdE KeyL.cells 2 w p.ra p.rl.length p.rc p.rl ∧ (∀ x ∈ p.rl, x.2.size ≤ 2000) ∧ p.ax.size ≤ 2000 ∧ p.aw.size ≤ 2000
set_option maxRecDepth 100000 in
theorem P5.fit.below {p : P5} {w w' : World} (h : p.fit w) (hb : Below w.heap.size w w') : p.fit w' := ⟨h.1.below hb rfl, h.2⟩
set_option maxRecDepth 100000 in
theorem P5.fit.short {p : P5} {w : World} (h : p.fit w) (k : Int) : (p.kd k).short := by
  unfold P5.kd
  repeat' split
  all_goals first | trivial | exact h.2.2 | exact h.2.1
set_option maxRecDepth 100000 in
set_option maxHeartbeats 8000000 in
theorem rmay_hello (p : P5) (w : World) (hf : p.fit w) : Calls Try.prog 20 #[.agg #[.int .i64 1, .int .i64 p.hw, .int .i64 p.hl, .int .i64 p.gw, .int .i64 p.gl, .int .i64 p.ge, .int .i64 p.ai, .int .i64 p.aq, .int .i64 p.ah, .int .i64 p.an, .int .i64 p.ae, .string p.ax, .int .i64 p.ak, .int .i64 p.ab, .bool p.af, .int .i64 p.ad, .string p.aw, .int .i64 p.rs, .int .i64 p.rq, .int .i64 p.rh, .int .i64 p.rn, .int .i64 p.rw, .int .i64 p.re, .slice p.ra p.rl.length p.rc, .bool p.rb, .int .i64 p.ss, .int .i64 p.sq]] w fun e w' => e = .returned (.bool (MV.may (.hello p.hw p.hl))) ∧ Below w.heap.size w w' := by
  have HI := Lib.hid (fun W => rin_any p.hw 1 5 W)
  have HEQ := Lib.hid (show MV.may (.hello p.hw p.hl) = (inB p.hw 1 5 && withinL [p.hl]) from rfl)
  rw [HEQ.out]
  clear hf
  have HB := Lib.hid ((Below.refl w.heap.size w).alloc (Nat.le_refl _) (.cells #[.int .i64 1, .int .i64 p.hw, .int .i64 p.hl, .int .i64 p.gw, .int .i64 p.gl, .int .i64 p.ge, .int .i64 p.ai, .int .i64 p.aq, .int .i64 p.ah, .int .i64 p.an, .int .i64 p.ae, .string p.ax, .int .i64 p.ak, .int .i64 p.ab, .bool p.af, .int .i64 p.ad, .string p.aw, .int .i64 p.rs, .int .i64 p.rq, .int .i64 p.rh, .int .i64 p.rn, .int .i64 p.rw, .int .i64 p.re, .slice p.ra p.rl.length p.rc, .bool p.rb, .int .i64 p.ss, .int .i64 p.sq] 46))
  have HX := Lib.hid (show Blk (w.alloc (.cells #[.int .i64 1, .int .i64 p.hw, .int .i64 p.hl, .int .i64 p.gw, .int .i64 p.gl, .int .i64 p.ge, .int .i64 p.ai, .int .i64 p.aq, .int .i64 p.ah, .int .i64 p.an, .int .i64 p.ae, .string p.ax, .int .i64 p.ak, .int .i64 p.ab, .bool p.af, .int .i64 p.ad, .string p.aw, .int .i64 p.rs, .int .i64 p.rq, .int .i64 p.rh, .int .i64 p.rn, .int .i64 p.rw, .int .i64 p.re, .slice p.ra p.rl.length p.rc, .bool p.rb, .int .i64 p.ss, .int .i64 p.sq] 46)) w.heap.size 46 [.int .i64 1, .int .i64 p.hw, .int .i64 p.hl, .int .i64 p.gw, .int .i64 p.gl, .int .i64 p.ge, .int .i64 p.ai, .int .i64 p.aq, .int .i64 p.ah, .int .i64 p.an, .int .i64 p.ae, .string p.ax, .int .i64 p.ak, .int .i64 p.ab, .bool p.af, .int .i64 p.ad, .string p.aw, .int .i64 p.rs, .int .i64 p.rq, .int .i64 p.rh, .int .i64 p.rn, .int .i64 p.rw, .int .i64 p.re, .slice p.ra p.rl.length p.rc, .bool p.rb, .int .i64 p.ss, .int .i64 p.sq] from heap_alloc_new w _)
  obtain ⟨W0, hW0⟩ : ∃ W0, w.alloc (.cells #[.int .i64 1, .int .i64 p.hw, .int .i64 p.hl, .int .i64 p.gw, .int .i64 p.gl, .int .i64 p.ge, .int .i64 p.ai, .int .i64 p.aq, .int .i64 p.ah, .int .i64 p.an, .int .i64 p.ae, .string p.ax, .int .i64 p.ak, .int .i64 p.ab, .bool p.af, .int .i64 p.ad, .string p.aw, .int .i64 p.rs, .int .i64 p.rq, .int .i64 p.rh, .int .i64 p.rn, .int .i64 p.rw, .int .i64 p.re, .slice p.ra p.rl.length p.rc, .bool p.rb, .int .i64 p.ss, .int .i64 p.sq] 46) = W0 := ⟨_, rfl⟩
  rw [hW0] at HB HX
  have HB1 := Lib.hid (HB.out.alloc HB.out.size (.cells (ints [p.hl]).toArray 3))
  have HN := Lib.hid (rnums15_any (some ⟨W0.heap.size, 0, none⟩) 1 1 [p.hl] (W0.alloc (.cells (ints [p.hl]).toArray 3)) (new_ints W0 [p.hl] (by simp [maxLen])))
  clear HEQ
  generalize inB p.hw 1 5 = A at *
  generalize withinL [p.hl] = B at *
  have t0 : W0.cell? ⟨w.heap.size, 0, none⟩ = some (.int .i64 1) := HX.out.cell 0
  have t1 : W0.cell? ⟨w.heap.size, 1, none⟩ = some (.int .i64 p.hw) := HX.out.cell 1
  have t2 : W0.cell? ⟨w.heap.size, 2, none⟩ = some (.int .i64 p.hl) := HX.out.cell 2
  have t3 : W0.cell? ⟨w.heap.size, 3, none⟩ = some (.int .i64 p.gw) := HX.out.cell 3
  have t4 : W0.cell? ⟨w.heap.size, 4, none⟩ = some (.int .i64 p.gl) := HX.out.cell 4
  have t5 : W0.cell? ⟨w.heap.size, 5, none⟩ = some (.int .i64 p.ge) := HX.out.cell 5
  have t6 : W0.cell? ⟨w.heap.size, 6, none⟩ = some (.int .i64 p.ai) := HX.out.cell 6
  have t7 : W0.cell? ⟨w.heap.size, 7, none⟩ = some (.int .i64 p.aq) := HX.out.cell 7
  have t8 : W0.cell? ⟨w.heap.size, 8, none⟩ = some (.int .i64 p.ah) := HX.out.cell 8
  have t9 : W0.cell? ⟨w.heap.size, 9, none⟩ = some (.int .i64 p.an) := HX.out.cell 9
  have t10 : W0.cell? ⟨w.heap.size, 10, none⟩ = some (.int .i64 p.ae) := HX.out.cell 10
  have t11 : W0.cell? ⟨w.heap.size, 11, none⟩ = some (.string p.ax) := HX.out.cell 11
  have t12 : W0.cell? ⟨w.heap.size, 12, none⟩ = some (.int .i64 p.ak) := HX.out.cell 12
  have t13 : W0.cell? ⟨w.heap.size, 13, none⟩ = some (.int .i64 p.ab) := HX.out.cell 13
  have t14 : W0.cell? ⟨w.heap.size, 14, none⟩ = some (.bool p.af) := HX.out.cell 14
  have t15 : W0.cell? ⟨w.heap.size, 15, none⟩ = some (.int .i64 p.ad) := HX.out.cell 15
  have t16 : W0.cell? ⟨w.heap.size, 16, none⟩ = some (.string p.aw) := HX.out.cell 16
  have t17 : W0.cell? ⟨w.heap.size, 17, none⟩ = some (.int .i64 p.rs) := HX.out.cell 17
  have t18 : W0.cell? ⟨w.heap.size, 18, none⟩ = some (.int .i64 p.rq) := HX.out.cell 18
  have t19 : W0.cell? ⟨w.heap.size, 19, none⟩ = some (.int .i64 p.rh) := HX.out.cell 19
  have t20 : W0.cell? ⟨w.heap.size, 20, none⟩ = some (.int .i64 p.rn) := HX.out.cell 20
  have t21 : W0.cell? ⟨w.heap.size, 21, none⟩ = some (.int .i64 p.rw) := HX.out.cell 21
  have t22 : W0.cell? ⟨w.heap.size, 22, none⟩ = some (.int .i64 p.re) := HX.out.cell 22
  have t23 : W0.cell? ⟨w.heap.size, 23, none⟩ = some (.slice p.ra p.rl.length p.rc) := HX.out.cell 23
  have t24 : W0.cell? ⟨w.heap.size, 24, none⟩ = some (.bool p.rb) := HX.out.cell 24
  have t25 : W0.cell? ⟨w.heap.size, 25, none⟩ = some (.int .i64 p.ss) := HX.out.cell 25
  have t26 : W0.cell? ⟨w.heap.size, 26, none⟩ = some (.int .i64 p.sq) := HX.out.cell 26
  go_enter Try.func20, Try.ntmps20
  go_wp2_with (rw [hW0])
  refine (HI.out _).mono ?_
  rintro e w' ⟨rfl, rfl⟩
  clear hW0
  cases A
  · go_wp2_with fail
    go_ret
    exact ⟨rfl, HB.out⟩
  · go_wp2_with fail
    refine HN.out.mono ?_
    rintro e w1 ⟨rfl, hb⟩
    have HB2 := Lib.hid (HB1.out.trans (hb.mono HB1.out.size))
    clear hb
    go_wp2_with fail
    go_ret
    exact ⟨by simp, HB2.out⟩
set_option maxRecDepth 100000 in
set_option maxHeartbeats 8000000 in
theorem rmay_grant (p : P5) (w : World) (hf : p.fit w) : Calls Try.prog 20 #[.agg #[.int .i64 2, .int .i64 p.hw, .int .i64 p.hl, .int .i64 p.gw, .int .i64 p.gl, .int .i64 p.ge, .int .i64 p.ai, .int .i64 p.aq, .int .i64 p.ah, .int .i64 p.an, .int .i64 p.ae, .string p.ax, .int .i64 p.ak, .int .i64 p.ab, .bool p.af, .int .i64 p.ad, .string p.aw, .int .i64 p.rs, .int .i64 p.rq, .int .i64 p.rh, .int .i64 p.rn, .int .i64 p.rw, .int .i64 p.re, .slice p.ra p.rl.length p.rc, .bool p.rb, .int .i64 p.ss, .int .i64 p.sq]] w fun e w' => e = .returned (.bool (MV.may (.grant p.gw p.gl p.ge))) ∧ Below w.heap.size w w' := by
  have HI := Lib.hid (fun W => rin_any p.gw 1 5 W)
  have HEQ := Lib.hid (show MV.may (.grant p.gw p.gl p.ge) = (inB p.gw 1 5 && withinL [p.gl, p.ge]) from rfl)
  rw [HEQ.out]
  clear hf
  have HB := Lib.hid ((Below.refl w.heap.size w).alloc (Nat.le_refl _) (.cells #[.int .i64 2, .int .i64 p.hw, .int .i64 p.hl, .int .i64 p.gw, .int .i64 p.gl, .int .i64 p.ge, .int .i64 p.ai, .int .i64 p.aq, .int .i64 p.ah, .int .i64 p.an, .int .i64 p.ae, .string p.ax, .int .i64 p.ak, .int .i64 p.ab, .bool p.af, .int .i64 p.ad, .string p.aw, .int .i64 p.rs, .int .i64 p.rq, .int .i64 p.rh, .int .i64 p.rn, .int .i64 p.rw, .int .i64 p.re, .slice p.ra p.rl.length p.rc, .bool p.rb, .int .i64 p.ss, .int .i64 p.sq] 46))
  have HX := Lib.hid (show Blk (w.alloc (.cells #[.int .i64 2, .int .i64 p.hw, .int .i64 p.hl, .int .i64 p.gw, .int .i64 p.gl, .int .i64 p.ge, .int .i64 p.ai, .int .i64 p.aq, .int .i64 p.ah, .int .i64 p.an, .int .i64 p.ae, .string p.ax, .int .i64 p.ak, .int .i64 p.ab, .bool p.af, .int .i64 p.ad, .string p.aw, .int .i64 p.rs, .int .i64 p.rq, .int .i64 p.rh, .int .i64 p.rn, .int .i64 p.rw, .int .i64 p.re, .slice p.ra p.rl.length p.rc, .bool p.rb, .int .i64 p.ss, .int .i64 p.sq] 46)) w.heap.size 46 [.int .i64 2, .int .i64 p.hw, .int .i64 p.hl, .int .i64 p.gw, .int .i64 p.gl, .int .i64 p.ge, .int .i64 p.ai, .int .i64 p.aq, .int .i64 p.ah, .int .i64 p.an, .int .i64 p.ae, .string p.ax, .int .i64 p.ak, .int .i64 p.ab, .bool p.af, .int .i64 p.ad, .string p.aw, .int .i64 p.rs, .int .i64 p.rq, .int .i64 p.rh, .int .i64 p.rn, .int .i64 p.rw, .int .i64 p.re, .slice p.ra p.rl.length p.rc, .bool p.rb, .int .i64 p.ss, .int .i64 p.sq] from heap_alloc_new w _)
  obtain ⟨W0, hW0⟩ : ∃ W0, w.alloc (.cells #[.int .i64 2, .int .i64 p.hw, .int .i64 p.hl, .int .i64 p.gw, .int .i64 p.gl, .int .i64 p.ge, .int .i64 p.ai, .int .i64 p.aq, .int .i64 p.ah, .int .i64 p.an, .int .i64 p.ae, .string p.ax, .int .i64 p.ak, .int .i64 p.ab, .bool p.af, .int .i64 p.ad, .string p.aw, .int .i64 p.rs, .int .i64 p.rq, .int .i64 p.rh, .int .i64 p.rn, .int .i64 p.rw, .int .i64 p.re, .slice p.ra p.rl.length p.rc, .bool p.rb, .int .i64 p.ss, .int .i64 p.sq] 46) = W0 := ⟨_, rfl⟩
  rw [hW0] at HB HX
  have HB1 := Lib.hid (HB.out.alloc HB.out.size (.cells (ints [p.gl, p.ge]).toArray 3))
  have HN := Lib.hid (rnums15_any (some ⟨W0.heap.size, 0, none⟩) 2 2 [p.gl, p.ge] (W0.alloc (.cells (ints [p.gl, p.ge]).toArray 3)) (new_ints W0 [p.gl, p.ge] (by simp [maxLen])))
  clear HEQ
  generalize inB p.gw 1 5 = A at *
  generalize withinL [p.gl, p.ge] = B at *
  have t0 : W0.cell? ⟨w.heap.size, 0, none⟩ = some (.int .i64 2) := HX.out.cell 0
  have t1 : W0.cell? ⟨w.heap.size, 1, none⟩ = some (.int .i64 p.hw) := HX.out.cell 1
  have t2 : W0.cell? ⟨w.heap.size, 2, none⟩ = some (.int .i64 p.hl) := HX.out.cell 2
  have t3 : W0.cell? ⟨w.heap.size, 3, none⟩ = some (.int .i64 p.gw) := HX.out.cell 3
  have t4 : W0.cell? ⟨w.heap.size, 4, none⟩ = some (.int .i64 p.gl) := HX.out.cell 4
  have t5 : W0.cell? ⟨w.heap.size, 5, none⟩ = some (.int .i64 p.ge) := HX.out.cell 5
  have t6 : W0.cell? ⟨w.heap.size, 6, none⟩ = some (.int .i64 p.ai) := HX.out.cell 6
  have t7 : W0.cell? ⟨w.heap.size, 7, none⟩ = some (.int .i64 p.aq) := HX.out.cell 7
  have t8 : W0.cell? ⟨w.heap.size, 8, none⟩ = some (.int .i64 p.ah) := HX.out.cell 8
  have t9 : W0.cell? ⟨w.heap.size, 9, none⟩ = some (.int .i64 p.an) := HX.out.cell 9
  have t10 : W0.cell? ⟨w.heap.size, 10, none⟩ = some (.int .i64 p.ae) := HX.out.cell 10
  have t11 : W0.cell? ⟨w.heap.size, 11, none⟩ = some (.string p.ax) := HX.out.cell 11
  have t12 : W0.cell? ⟨w.heap.size, 12, none⟩ = some (.int .i64 p.ak) := HX.out.cell 12
  have t13 : W0.cell? ⟨w.heap.size, 13, none⟩ = some (.int .i64 p.ab) := HX.out.cell 13
  have t14 : W0.cell? ⟨w.heap.size, 14, none⟩ = some (.bool p.af) := HX.out.cell 14
  have t15 : W0.cell? ⟨w.heap.size, 15, none⟩ = some (.int .i64 p.ad) := HX.out.cell 15
  have t16 : W0.cell? ⟨w.heap.size, 16, none⟩ = some (.string p.aw) := HX.out.cell 16
  have t17 : W0.cell? ⟨w.heap.size, 17, none⟩ = some (.int .i64 p.rs) := HX.out.cell 17
  have t18 : W0.cell? ⟨w.heap.size, 18, none⟩ = some (.int .i64 p.rq) := HX.out.cell 18
  have t19 : W0.cell? ⟨w.heap.size, 19, none⟩ = some (.int .i64 p.rh) := HX.out.cell 19
  have t20 : W0.cell? ⟨w.heap.size, 20, none⟩ = some (.int .i64 p.rn) := HX.out.cell 20
  have t21 : W0.cell? ⟨w.heap.size, 21, none⟩ = some (.int .i64 p.rw) := HX.out.cell 21
  have t22 : W0.cell? ⟨w.heap.size, 22, none⟩ = some (.int .i64 p.re) := HX.out.cell 22
  have t23 : W0.cell? ⟨w.heap.size, 23, none⟩ = some (.slice p.ra p.rl.length p.rc) := HX.out.cell 23
  have t24 : W0.cell? ⟨w.heap.size, 24, none⟩ = some (.bool p.rb) := HX.out.cell 24
  have t25 : W0.cell? ⟨w.heap.size, 25, none⟩ = some (.int .i64 p.ss) := HX.out.cell 25
  have t26 : W0.cell? ⟨w.heap.size, 26, none⟩ = some (.int .i64 p.sq) := HX.out.cell 26
  go_enter Try.func20, Try.ntmps20
  go_wp2_with (rw [hW0])
  refine (HI.out _).mono ?_
  rintro e w' ⟨rfl, rfl⟩
  clear hW0
  cases A
  · go_wp2_with fail
    go_ret
    exact ⟨rfl, HB.out⟩
  · go_wp2_with fail
    refine HN.out.mono ?_
    rintro e w1 ⟨rfl, hb⟩
    have HB2 := Lib.hid (HB1.out.trans (hb.mono HB1.out.size))
    clear hb
    go_wp2_with fail
    go_ret
    exact ⟨by simp, HB2.out⟩
set_option maxRecDepth 100000 in
set_option maxHeartbeats 8000000 in
theorem rmay_stop (p : P5) (w : World) (hf : p.fit w) : Calls Try.prog 20 #[.agg #[.int .i64 5, .int .i64 p.hw, .int .i64 p.hl, .int .i64 p.gw, .int .i64 p.gl, .int .i64 p.ge, .int .i64 p.ai, .int .i64 p.aq, .int .i64 p.ah, .int .i64 p.an, .int .i64 p.ae, .string p.ax, .int .i64 p.ak, .int .i64 p.ab, .bool p.af, .int .i64 p.ad, .string p.aw, .int .i64 p.rs, .int .i64 p.rq, .int .i64 p.rh, .int .i64 p.rn, .int .i64 p.rw, .int .i64 p.re, .slice p.ra p.rl.length p.rc, .bool p.rb, .int .i64 p.ss, .int .i64 p.sq]] w fun e w' => e = .returned (.bool (MV.may (.stop p.ss p.sq))) ∧ Below w.heap.size w w' := by
  have HI := Lib.hid (fun W => rin_any p.ss 0 3 W)
  have HEQ := Lib.hid (show MV.may (.stop p.ss p.sq) = (inB p.ss 0 3 && withinL [p.sq]) from by show (placeB p.ss 0 && withinL [p.sq]) = _; rw [placeB_eq, show inB 0 0 5 = true from rfl, Bool.and_true])
  rw [HEQ.out]
  clear hf
  have HB := Lib.hid ((Below.refl w.heap.size w).alloc (Nat.le_refl _) (.cells #[.int .i64 5, .int .i64 p.hw, .int .i64 p.hl, .int .i64 p.gw, .int .i64 p.gl, .int .i64 p.ge, .int .i64 p.ai, .int .i64 p.aq, .int .i64 p.ah, .int .i64 p.an, .int .i64 p.ae, .string p.ax, .int .i64 p.ak, .int .i64 p.ab, .bool p.af, .int .i64 p.ad, .string p.aw, .int .i64 p.rs, .int .i64 p.rq, .int .i64 p.rh, .int .i64 p.rn, .int .i64 p.rw, .int .i64 p.re, .slice p.ra p.rl.length p.rc, .bool p.rb, .int .i64 p.ss, .int .i64 p.sq] 46))
  have HX := Lib.hid (show Blk (w.alloc (.cells #[.int .i64 5, .int .i64 p.hw, .int .i64 p.hl, .int .i64 p.gw, .int .i64 p.gl, .int .i64 p.ge, .int .i64 p.ai, .int .i64 p.aq, .int .i64 p.ah, .int .i64 p.an, .int .i64 p.ae, .string p.ax, .int .i64 p.ak, .int .i64 p.ab, .bool p.af, .int .i64 p.ad, .string p.aw, .int .i64 p.rs, .int .i64 p.rq, .int .i64 p.rh, .int .i64 p.rn, .int .i64 p.rw, .int .i64 p.re, .slice p.ra p.rl.length p.rc, .bool p.rb, .int .i64 p.ss, .int .i64 p.sq] 46)) w.heap.size 46 [.int .i64 5, .int .i64 p.hw, .int .i64 p.hl, .int .i64 p.gw, .int .i64 p.gl, .int .i64 p.ge, .int .i64 p.ai, .int .i64 p.aq, .int .i64 p.ah, .int .i64 p.an, .int .i64 p.ae, .string p.ax, .int .i64 p.ak, .int .i64 p.ab, .bool p.af, .int .i64 p.ad, .string p.aw, .int .i64 p.rs, .int .i64 p.rq, .int .i64 p.rh, .int .i64 p.rn, .int .i64 p.rw, .int .i64 p.re, .slice p.ra p.rl.length p.rc, .bool p.rb, .int .i64 p.ss, .int .i64 p.sq] from heap_alloc_new w _)
  obtain ⟨W0, hW0⟩ : ∃ W0, w.alloc (.cells #[.int .i64 5, .int .i64 p.hw, .int .i64 p.hl, .int .i64 p.gw, .int .i64 p.gl, .int .i64 p.ge, .int .i64 p.ai, .int .i64 p.aq, .int .i64 p.ah, .int .i64 p.an, .int .i64 p.ae, .string p.ax, .int .i64 p.ak, .int .i64 p.ab, .bool p.af, .int .i64 p.ad, .string p.aw, .int .i64 p.rs, .int .i64 p.rq, .int .i64 p.rh, .int .i64 p.rn, .int .i64 p.rw, .int .i64 p.re, .slice p.ra p.rl.length p.rc, .bool p.rb, .int .i64 p.ss, .int .i64 p.sq] 46) = W0 := ⟨_, rfl⟩
  rw [hW0] at HB HX
  have HB1 := Lib.hid (HB.out.alloc HB.out.size (.cells (ints [p.sq]).toArray 3))
  have HN := Lib.hid (rnums15_any (some ⟨W0.heap.size, 0, none⟩) 1 1 [p.sq] (W0.alloc (.cells (ints [p.sq]).toArray 3)) (new_ints W0 [p.sq] (by simp [maxLen])))
  clear HEQ
  generalize inB p.ss 0 3 = A at *
  generalize withinL [p.sq] = B at *
  have t0 : W0.cell? ⟨w.heap.size, 0, none⟩ = some (.int .i64 5) := HX.out.cell 0
  have t1 : W0.cell? ⟨w.heap.size, 1, none⟩ = some (.int .i64 p.hw) := HX.out.cell 1
  have t2 : W0.cell? ⟨w.heap.size, 2, none⟩ = some (.int .i64 p.hl) := HX.out.cell 2
  have t3 : W0.cell? ⟨w.heap.size, 3, none⟩ = some (.int .i64 p.gw) := HX.out.cell 3
  have t4 : W0.cell? ⟨w.heap.size, 4, none⟩ = some (.int .i64 p.gl) := HX.out.cell 4
  have t5 : W0.cell? ⟨w.heap.size, 5, none⟩ = some (.int .i64 p.ge) := HX.out.cell 5
  have t6 : W0.cell? ⟨w.heap.size, 6, none⟩ = some (.int .i64 p.ai) := HX.out.cell 6
  have t7 : W0.cell? ⟨w.heap.size, 7, none⟩ = some (.int .i64 p.aq) := HX.out.cell 7
  have t8 : W0.cell? ⟨w.heap.size, 8, none⟩ = some (.int .i64 p.ah) := HX.out.cell 8
  have t9 : W0.cell? ⟨w.heap.size, 9, none⟩ = some (.int .i64 p.an) := HX.out.cell 9
  have t10 : W0.cell? ⟨w.heap.size, 10, none⟩ = some (.int .i64 p.ae) := HX.out.cell 10
  have t11 : W0.cell? ⟨w.heap.size, 11, none⟩ = some (.string p.ax) := HX.out.cell 11
  have t12 : W0.cell? ⟨w.heap.size, 12, none⟩ = some (.int .i64 p.ak) := HX.out.cell 12
  have t13 : W0.cell? ⟨w.heap.size, 13, none⟩ = some (.int .i64 p.ab) := HX.out.cell 13
  have t14 : W0.cell? ⟨w.heap.size, 14, none⟩ = some (.bool p.af) := HX.out.cell 14
  have t15 : W0.cell? ⟨w.heap.size, 15, none⟩ = some (.int .i64 p.ad) := HX.out.cell 15
  have t16 : W0.cell? ⟨w.heap.size, 16, none⟩ = some (.string p.aw) := HX.out.cell 16
  have t17 : W0.cell? ⟨w.heap.size, 17, none⟩ = some (.int .i64 p.rs) := HX.out.cell 17
  have t18 : W0.cell? ⟨w.heap.size, 18, none⟩ = some (.int .i64 p.rq) := HX.out.cell 18
  have t19 : W0.cell? ⟨w.heap.size, 19, none⟩ = some (.int .i64 p.rh) := HX.out.cell 19
  have t20 : W0.cell? ⟨w.heap.size, 20, none⟩ = some (.int .i64 p.rn) := HX.out.cell 20
  have t21 : W0.cell? ⟨w.heap.size, 21, none⟩ = some (.int .i64 p.rw) := HX.out.cell 21
  have t22 : W0.cell? ⟨w.heap.size, 22, none⟩ = some (.int .i64 p.re) := HX.out.cell 22
  have t23 : W0.cell? ⟨w.heap.size, 23, none⟩ = some (.slice p.ra p.rl.length p.rc) := HX.out.cell 23
  have t24 : W0.cell? ⟨w.heap.size, 24, none⟩ = some (.bool p.rb) := HX.out.cell 24
  have t25 : W0.cell? ⟨w.heap.size, 25, none⟩ = some (.int .i64 p.ss) := HX.out.cell 25
  have t26 : W0.cell? ⟨w.heap.size, 26, none⟩ = some (.int .i64 p.sq) := HX.out.cell 26
  go_enter Try.func20, Try.ntmps20
  go_wp2_with (rw [hW0])
  refine (HI.out _).mono ?_
  rintro e w' ⟨rfl, rfl⟩
  clear hW0
  cases A
  · go_wp2_with fail
    go_ret
    exact ⟨rfl, HB.out⟩
  · go_wp2_with fail
    refine HN.out.mono ?_
    rintro e w1 ⟨rfl, hb⟩
    have HB2 := Lib.hid (HB1.out.trans (hb.mono HB1.out.size))
    clear hb
    go_wp2_with fail
    go_ret
    exact ⟨by simp, HB2.out⟩
set_option maxRecDepth 100000 in
set_option maxHeartbeats 8000000 in
theorem rmay_ask (p : P5) (w : World) (hf : p.fit w) : Calls Try.prog 20 #[.agg #[.int .i64 3, .int .i64 p.hw, .int .i64 p.hl, .int .i64 p.gw, .int .i64 p.gl, .int .i64 p.ge, .int .i64 p.ai, .int .i64 p.aq, .int .i64 p.ah, .int .i64 p.an, .int .i64 p.ae, .string p.ax, .int .i64 p.ak, .int .i64 p.ab, .bool p.af, .int .i64 p.ad, .string p.aw, .int .i64 p.rs, .int .i64 p.rq, .int .i64 p.rh, .int .i64 p.rn, .int .i64 p.rw, .int .i64 p.re, .slice p.ra p.rl.length p.rc, .bool p.rb, .int .i64 p.ss, .int .i64 p.sq]] w fun e w' => e = .returned (.bool (MV.may (.ask p.ai p.aq p.ah p.an p.ae p.ax p.ak p.ab p.af p.ad p.aw))) ∧ Below w.heap.size w w' := by
  have HM := Lib.hid (fun W => rmayask_any p.ai p.aq p.ah p.an p.ae p.ax p.ak p.ab p.af p.ad p.aw W (by have := hf.2.2.1; omega) (by have := hf.2.2.2; omega))
  rw [show MV.may (.ask p.ai p.aq p.ah p.an p.ae p.ax p.ak p.ab p.af p.ad p.aw) = askB p.ai p.aq p.ah p.an p.ae p.ax p.ak p.ab p.af p.ad p.aw from rfl]
  clear hf
  have HB := Lib.hid ((Below.refl w.heap.size w).alloc (Nat.le_refl _) (.cells #[.int .i64 3, .int .i64 p.hw, .int .i64 p.hl, .int .i64 p.gw, .int .i64 p.gl, .int .i64 p.ge, .int .i64 p.ai, .int .i64 p.aq, .int .i64 p.ah, .int .i64 p.an, .int .i64 p.ae, .string p.ax, .int .i64 p.ak, .int .i64 p.ab, .bool p.af, .int .i64 p.ad, .string p.aw, .int .i64 p.rs, .int .i64 p.rq, .int .i64 p.rh, .int .i64 p.rn, .int .i64 p.rw, .int .i64 p.re, .slice p.ra p.rl.length p.rc, .bool p.rb, .int .i64 p.ss, .int .i64 p.sq] 46))
  have HX := Lib.hid (show Blk (w.alloc (.cells #[.int .i64 3, .int .i64 p.hw, .int .i64 p.hl, .int .i64 p.gw, .int .i64 p.gl, .int .i64 p.ge, .int .i64 p.ai, .int .i64 p.aq, .int .i64 p.ah, .int .i64 p.an, .int .i64 p.ae, .string p.ax, .int .i64 p.ak, .int .i64 p.ab, .bool p.af, .int .i64 p.ad, .string p.aw, .int .i64 p.rs, .int .i64 p.rq, .int .i64 p.rh, .int .i64 p.rn, .int .i64 p.rw, .int .i64 p.re, .slice p.ra p.rl.length p.rc, .bool p.rb, .int .i64 p.ss, .int .i64 p.sq] 46)) w.heap.size 46 [.int .i64 3, .int .i64 p.hw, .int .i64 p.hl, .int .i64 p.gw, .int .i64 p.gl, .int .i64 p.ge, .int .i64 p.ai, .int .i64 p.aq, .int .i64 p.ah, .int .i64 p.an, .int .i64 p.ae, .string p.ax, .int .i64 p.ak, .int .i64 p.ab, .bool p.af, .int .i64 p.ad, .string p.aw, .int .i64 p.rs, .int .i64 p.rq, .int .i64 p.rh, .int .i64 p.rn, .int .i64 p.rw, .int .i64 p.re, .slice p.ra p.rl.length p.rc, .bool p.rb, .int .i64 p.ss, .int .i64 p.sq] from heap_alloc_new w _)
  obtain ⟨W0, hW0⟩ : ∃ W0, w.alloc (.cells #[.int .i64 3, .int .i64 p.hw, .int .i64 p.hl, .int .i64 p.gw, .int .i64 p.gl, .int .i64 p.ge, .int .i64 p.ai, .int .i64 p.aq, .int .i64 p.ah, .int .i64 p.an, .int .i64 p.ae, .string p.ax, .int .i64 p.ak, .int .i64 p.ab, .bool p.af, .int .i64 p.ad, .string p.aw, .int .i64 p.rs, .int .i64 p.rq, .int .i64 p.rh, .int .i64 p.rn, .int .i64 p.rw, .int .i64 p.re, .slice p.ra p.rl.length p.rc, .bool p.rb, .int .i64 p.ss, .int .i64 p.sq] 46) = W0 := ⟨_, rfl⟩
  rw [hW0] at HB HX
  generalize askB p.ai p.aq p.ah p.an p.ae p.ax p.ak p.ab p.af p.ad p.aw = A at *
  have t0 : W0.cell? ⟨w.heap.size, 0, none⟩ = some (.int .i64 3) := HX.out.cell 0
  have t1 : W0.cell? ⟨w.heap.size, 1, none⟩ = some (.int .i64 p.hw) := HX.out.cell 1
  have t2 : W0.cell? ⟨w.heap.size, 2, none⟩ = some (.int .i64 p.hl) := HX.out.cell 2
  have t3 : W0.cell? ⟨w.heap.size, 3, none⟩ = some (.int .i64 p.gw) := HX.out.cell 3
  have t4 : W0.cell? ⟨w.heap.size, 4, none⟩ = some (.int .i64 p.gl) := HX.out.cell 4
  have t5 : W0.cell? ⟨w.heap.size, 5, none⟩ = some (.int .i64 p.ge) := HX.out.cell 5
  have t6 : W0.cell? ⟨w.heap.size, 6, none⟩ = some (.int .i64 p.ai) := HX.out.cell 6
  have t7 : W0.cell? ⟨w.heap.size, 7, none⟩ = some (.int .i64 p.aq) := HX.out.cell 7
  have t8 : W0.cell? ⟨w.heap.size, 8, none⟩ = some (.int .i64 p.ah) := HX.out.cell 8
  have t9 : W0.cell? ⟨w.heap.size, 9, none⟩ = some (.int .i64 p.an) := HX.out.cell 9
  have t10 : W0.cell? ⟨w.heap.size, 10, none⟩ = some (.int .i64 p.ae) := HX.out.cell 10
  have t11 : W0.cell? ⟨w.heap.size, 11, none⟩ = some (.string p.ax) := HX.out.cell 11
  have t12 : W0.cell? ⟨w.heap.size, 12, none⟩ = some (.int .i64 p.ak) := HX.out.cell 12
  have t13 : W0.cell? ⟨w.heap.size, 13, none⟩ = some (.int .i64 p.ab) := HX.out.cell 13
  have t14 : W0.cell? ⟨w.heap.size, 14, none⟩ = some (.bool p.af) := HX.out.cell 14
  have t15 : W0.cell? ⟨w.heap.size, 15, none⟩ = some (.int .i64 p.ad) := HX.out.cell 15
  have t16 : W0.cell? ⟨w.heap.size, 16, none⟩ = some (.string p.aw) := HX.out.cell 16
  have t17 : W0.cell? ⟨w.heap.size, 17, none⟩ = some (.int .i64 p.rs) := HX.out.cell 17
  have t18 : W0.cell? ⟨w.heap.size, 18, none⟩ = some (.int .i64 p.rq) := HX.out.cell 18
  have t19 : W0.cell? ⟨w.heap.size, 19, none⟩ = some (.int .i64 p.rh) := HX.out.cell 19
  have t20 : W0.cell? ⟨w.heap.size, 20, none⟩ = some (.int .i64 p.rn) := HX.out.cell 20
  have t21 : W0.cell? ⟨w.heap.size, 21, none⟩ = some (.int .i64 p.rw) := HX.out.cell 21
  have t22 : W0.cell? ⟨w.heap.size, 22, none⟩ = some (.int .i64 p.re) := HX.out.cell 22
  have t23 : W0.cell? ⟨w.heap.size, 23, none⟩ = some (.slice p.ra p.rl.length p.rc) := HX.out.cell 23
  have t24 : W0.cell? ⟨w.heap.size, 24, none⟩ = some (.bool p.rb) := HX.out.cell 24
  have t25 : W0.cell? ⟨w.heap.size, 25, none⟩ = some (.int .i64 p.ss) := HX.out.cell 25
  have t26 : W0.cell? ⟨w.heap.size, 26, none⟩ = some (.int .i64 p.sq) := HX.out.cell 26
  go_enter Try.func20, Try.ntmps20
  go_wp2_with (rw [hW0])
  refine (HM.out _).mono ?_
  rintro e w1 ⟨rfl, hb⟩
  have HB2 := Lib.hid (HB.out.trans (hb.mono HB.out.size))
  clear hb hW0
  go_wp2_with fail
  go_ret
  exact ⟨rfl, HB2.out⟩
set_option maxRecDepth 100000 in
set_option maxHeartbeats 8000000 in
theorem rmay_reply (p : P5) (w : World) (hf : p.fit w) : Calls Try.prog 20 #[.agg #[.int .i64 4, .int .i64 p.hw, .int .i64 p.hl, .int .i64 p.gw, .int .i64 p.gl, .int .i64 p.ge, .int .i64 p.ai, .int .i64 p.aq, .int .i64 p.ah, .int .i64 p.an, .int .i64 p.ae, .string p.ax, .int .i64 p.ak, .int .i64 p.ab, .bool p.af, .int .i64 p.ad, .string p.aw, .int .i64 p.rs, .int .i64 p.rq, .int .i64 p.rh, .int .i64 p.rn, .int .i64 p.rw, .int .i64 p.re, .slice p.ra p.rl.length p.rc, .bool p.rb, .int .i64 p.ss, .int .i64 p.sq]] w fun e w' => e = .returned (.bool (MV.may (.reply p.rs p.rq p.rh p.rn p.rw p.re p.rl p.rb))) ∧ Below w.heap.size w w' := by
  have HM := Lib.hid (fun W (hb : Below w.heap.size w W) => rmayreply_any p.rs p.rq p.rh p.rn p.rw p.re p.rl p.rb p.ra p.rc W (hf.1.below hb rfl) (fun x hx => by have := hf.2.1 x hx; omega))
  rw [show MV.may (.reply p.rs p.rq p.rh p.rn p.rw p.re p.rl p.rb) = replyB p.rs p.rq p.rh p.rn p.rw p.re p.rl from rfl]
  clear hf
  have HB := Lib.hid ((Below.refl w.heap.size w).alloc (Nat.le_refl _) (.cells #[.int .i64 4, .int .i64 p.hw, .int .i64 p.hl, .int .i64 p.gw, .int .i64 p.gl, .int .i64 p.ge, .int .i64 p.ai, .int .i64 p.aq, .int .i64 p.ah, .int .i64 p.an, .int .i64 p.ae, .string p.ax, .int .i64 p.ak, .int .i64 p.ab, .bool p.af, .int .i64 p.ad, .string p.aw, .int .i64 p.rs, .int .i64 p.rq, .int .i64 p.rh, .int .i64 p.rn, .int .i64 p.rw, .int .i64 p.re, .slice p.ra p.rl.length p.rc, .bool p.rb, .int .i64 p.ss, .int .i64 p.sq] 46))
  have HX := Lib.hid (show Blk (w.alloc (.cells #[.int .i64 4, .int .i64 p.hw, .int .i64 p.hl, .int .i64 p.gw, .int .i64 p.gl, .int .i64 p.ge, .int .i64 p.ai, .int .i64 p.aq, .int .i64 p.ah, .int .i64 p.an, .int .i64 p.ae, .string p.ax, .int .i64 p.ak, .int .i64 p.ab, .bool p.af, .int .i64 p.ad, .string p.aw, .int .i64 p.rs, .int .i64 p.rq, .int .i64 p.rh, .int .i64 p.rn, .int .i64 p.rw, .int .i64 p.re, .slice p.ra p.rl.length p.rc, .bool p.rb, .int .i64 p.ss, .int .i64 p.sq] 46)) w.heap.size 46 [.int .i64 4, .int .i64 p.hw, .int .i64 p.hl, .int .i64 p.gw, .int .i64 p.gl, .int .i64 p.ge, .int .i64 p.ai, .int .i64 p.aq, .int .i64 p.ah, .int .i64 p.an, .int .i64 p.ae, .string p.ax, .int .i64 p.ak, .int .i64 p.ab, .bool p.af, .int .i64 p.ad, .string p.aw, .int .i64 p.rs, .int .i64 p.rq, .int .i64 p.rh, .int .i64 p.rn, .int .i64 p.rw, .int .i64 p.re, .slice p.ra p.rl.length p.rc, .bool p.rb, .int .i64 p.ss, .int .i64 p.sq] from heap_alloc_new w _)
  obtain ⟨W0, hW0⟩ : ∃ W0, w.alloc (.cells #[.int .i64 4, .int .i64 p.hw, .int .i64 p.hl, .int .i64 p.gw, .int .i64 p.gl, .int .i64 p.ge, .int .i64 p.ai, .int .i64 p.aq, .int .i64 p.ah, .int .i64 p.an, .int .i64 p.ae, .string p.ax, .int .i64 p.ak, .int .i64 p.ab, .bool p.af, .int .i64 p.ad, .string p.aw, .int .i64 p.rs, .int .i64 p.rq, .int .i64 p.rh, .int .i64 p.rn, .int .i64 p.rw, .int .i64 p.re, .slice p.ra p.rl.length p.rc, .bool p.rb, .int .i64 p.ss, .int .i64 p.sq] 46) = W0 := ⟨_, rfl⟩
  rw [hW0] at HB HX
  generalize replyB p.rs p.rq p.rh p.rn p.rw p.re p.rl = A at *
  have t0 : W0.cell? ⟨w.heap.size, 0, none⟩ = some (.int .i64 4) := HX.out.cell 0
  have t1 : W0.cell? ⟨w.heap.size, 1, none⟩ = some (.int .i64 p.hw) := HX.out.cell 1
  have t2 : W0.cell? ⟨w.heap.size, 2, none⟩ = some (.int .i64 p.hl) := HX.out.cell 2
  have t3 : W0.cell? ⟨w.heap.size, 3, none⟩ = some (.int .i64 p.gw) := HX.out.cell 3
  have t4 : W0.cell? ⟨w.heap.size, 4, none⟩ = some (.int .i64 p.gl) := HX.out.cell 4
  have t5 : W0.cell? ⟨w.heap.size, 5, none⟩ = some (.int .i64 p.ge) := HX.out.cell 5
  have t6 : W0.cell? ⟨w.heap.size, 6, none⟩ = some (.int .i64 p.ai) := HX.out.cell 6
  have t7 : W0.cell? ⟨w.heap.size, 7, none⟩ = some (.int .i64 p.aq) := HX.out.cell 7
  have t8 : W0.cell? ⟨w.heap.size, 8, none⟩ = some (.int .i64 p.ah) := HX.out.cell 8
  have t9 : W0.cell? ⟨w.heap.size, 9, none⟩ = some (.int .i64 p.an) := HX.out.cell 9
  have t10 : W0.cell? ⟨w.heap.size, 10, none⟩ = some (.int .i64 p.ae) := HX.out.cell 10
  have t11 : W0.cell? ⟨w.heap.size, 11, none⟩ = some (.string p.ax) := HX.out.cell 11
  have t12 : W0.cell? ⟨w.heap.size, 12, none⟩ = some (.int .i64 p.ak) := HX.out.cell 12
  have t13 : W0.cell? ⟨w.heap.size, 13, none⟩ = some (.int .i64 p.ab) := HX.out.cell 13
  have t14 : W0.cell? ⟨w.heap.size, 14, none⟩ = some (.bool p.af) := HX.out.cell 14
  have t15 : W0.cell? ⟨w.heap.size, 15, none⟩ = some (.int .i64 p.ad) := HX.out.cell 15
  have t16 : W0.cell? ⟨w.heap.size, 16, none⟩ = some (.string p.aw) := HX.out.cell 16
  have t17 : W0.cell? ⟨w.heap.size, 17, none⟩ = some (.int .i64 p.rs) := HX.out.cell 17
  have t18 : W0.cell? ⟨w.heap.size, 18, none⟩ = some (.int .i64 p.rq) := HX.out.cell 18
  have t19 : W0.cell? ⟨w.heap.size, 19, none⟩ = some (.int .i64 p.rh) := HX.out.cell 19
  have t20 : W0.cell? ⟨w.heap.size, 20, none⟩ = some (.int .i64 p.rn) := HX.out.cell 20
  have t21 : W0.cell? ⟨w.heap.size, 21, none⟩ = some (.int .i64 p.rw) := HX.out.cell 21
  have t22 : W0.cell? ⟨w.heap.size, 22, none⟩ = some (.int .i64 p.re) := HX.out.cell 22
  have t23 : W0.cell? ⟨w.heap.size, 23, none⟩ = some (.slice p.ra p.rl.length p.rc) := HX.out.cell 23
  have t24 : W0.cell? ⟨w.heap.size, 24, none⟩ = some (.bool p.rb) := HX.out.cell 24
  have t25 : W0.cell? ⟨w.heap.size, 25, none⟩ = some (.int .i64 p.ss) := HX.out.cell 25
  have t26 : W0.cell? ⟨w.heap.size, 26, none⟩ = some (.int .i64 p.sq) := HX.out.cell 26
  go_enter Try.func20, Try.ntmps20
  go_wp2_with (rw [hW0])
  refine (HM.out _ HB.out).mono ?_
  rintro e w1 ⟨rfl, hb⟩
  have HB2 := Lib.hid (HB.out.trans (hb.mono HB.out.size))
  clear hb hW0
  go_wp2_with fail
  go_ret
  exact ⟨rfl, HB2.out⟩
set_option maxRecDepth 100000 in
set_option maxHeartbeats 8000000 in
theorem rmay_no (p : P5) (k : Int) (h1 : k ≠ 1) (h2 : k ≠ 2) (h3 : k ≠ 3) (h4 : k ≠ 4) (h5 : k ≠ 5) (w : World) (hf : p.fit w) : Calls Try.prog 20 #[.agg #[.int .i64 k, .int .i64 p.hw, .int .i64 p.hl, .int .i64 p.gw, .int .i64 p.gl, .int .i64 p.ge, .int .i64 p.ai, .int .i64 p.aq, .int .i64 p.ah, .int .i64 p.an, .int .i64 p.ae, .string p.ax, .int .i64 p.ak, .int .i64 p.ab, .bool p.af, .int .i64 p.ad, .string p.aw, .int .i64 p.rs, .int .i64 p.rq, .int .i64 p.rh, .int .i64 p.rn, .int .i64 p.rw, .int .i64 p.re, .slice p.ra p.rl.length p.rc, .bool p.rb, .int .i64 p.ss, .int .i64 p.sq]] w fun e w' => e = .returned (.bool (MV.may .nil)) ∧ Below w.heap.size w w' := by
  rw [show MV.may .nil = false from rfl]
  clear hf
  have b1 : (k == 1) = false := by simpa using h1
  have b2 : (k == 2) = false := by simpa using h2
  have b3 : (k == 3) = false := by simpa using h3
  have b4 : (k == 4) = false := by simpa using h4
  have b5 : (k == 5) = false := by simpa using h5
  clear h1 h2 h3 h4 h5
  have HB := Lib.hid ((Below.refl w.heap.size w).alloc (Nat.le_refl _) (.cells #[.int .i64 k, .int .i64 p.hw, .int .i64 p.hl, .int .i64 p.gw, .int .i64 p.gl, .int .i64 p.ge, .int .i64 p.ai, .int .i64 p.aq, .int .i64 p.ah, .int .i64 p.an, .int .i64 p.ae, .string p.ax, .int .i64 p.ak, .int .i64 p.ab, .bool p.af, .int .i64 p.ad, .string p.aw, .int .i64 p.rs, .int .i64 p.rq, .int .i64 p.rh, .int .i64 p.rn, .int .i64 p.rw, .int .i64 p.re, .slice p.ra p.rl.length p.rc, .bool p.rb, .int .i64 p.ss, .int .i64 p.sq] 46))
  have HX := Lib.hid (show Blk (w.alloc (.cells #[.int .i64 k, .int .i64 p.hw, .int .i64 p.hl, .int .i64 p.gw, .int .i64 p.gl, .int .i64 p.ge, .int .i64 p.ai, .int .i64 p.aq, .int .i64 p.ah, .int .i64 p.an, .int .i64 p.ae, .string p.ax, .int .i64 p.ak, .int .i64 p.ab, .bool p.af, .int .i64 p.ad, .string p.aw, .int .i64 p.rs, .int .i64 p.rq, .int .i64 p.rh, .int .i64 p.rn, .int .i64 p.rw, .int .i64 p.re, .slice p.ra p.rl.length p.rc, .bool p.rb, .int .i64 p.ss, .int .i64 p.sq] 46)) w.heap.size 46 [.int .i64 k, .int .i64 p.hw, .int .i64 p.hl, .int .i64 p.gw, .int .i64 p.gl, .int .i64 p.ge, .int .i64 p.ai, .int .i64 p.aq, .int .i64 p.ah, .int .i64 p.an, .int .i64 p.ae, .string p.ax, .int .i64 p.ak, .int .i64 p.ab, .bool p.af, .int .i64 p.ad, .string p.aw, .int .i64 p.rs, .int .i64 p.rq, .int .i64 p.rh, .int .i64 p.rn, .int .i64 p.rw, .int .i64 p.re, .slice p.ra p.rl.length p.rc, .bool p.rb, .int .i64 p.ss, .int .i64 p.sq] from heap_alloc_new w _)
  obtain ⟨W0, hW0⟩ : ∃ W0, w.alloc (.cells #[.int .i64 k, .int .i64 p.hw, .int .i64 p.hl, .int .i64 p.gw, .int .i64 p.gl, .int .i64 p.ge, .int .i64 p.ai, .int .i64 p.aq, .int .i64 p.ah, .int .i64 p.an, .int .i64 p.ae, .string p.ax, .int .i64 p.ak, .int .i64 p.ab, .bool p.af, .int .i64 p.ad, .string p.aw, .int .i64 p.rs, .int .i64 p.rq, .int .i64 p.rh, .int .i64 p.rn, .int .i64 p.rw, .int .i64 p.re, .slice p.ra p.rl.length p.rc, .bool p.rb, .int .i64 p.ss, .int .i64 p.sq] 46) = W0 := ⟨_, rfl⟩
  rw [hW0] at HB HX
  have t0 : W0.cell? ⟨w.heap.size, 0, none⟩ = some (.int .i64 k) := HX.out.cell 0
  go_enter Try.func20, Try.ntmps20
  go_wp2_with (rw [hW0])
  go_ret
  exact ⟨rfl, HB.out⟩
set_option maxRecDepth 100000 in
theorem rmay_any (p : P5) (k : Int) (w : World) (hf : p.fit w) : Calls Try.prog 20 #[p.msg k] w fun e w' => e = .returned (.bool (p.kd k).may) ∧ Below w.heap.size w w' := by
  by_cases h1 : k = 1
  · subst h1; exact rmay_hello p w hf
  by_cases h2 : k = 2
  · subst h2; exact rmay_grant p w hf
  by_cases h3 : k = 3
  · subst h3; exact rmay_ask p w hf
  by_cases h4 : k = 4
  · subst h4; exact rmay_reply p w hf
  by_cases h5 : k = 5
  · subst h5; exact rmay_stop p w hf
  have e : p.kd k = .nil := by unfold P5.kd; rw [if_neg h1, if_neg h2, if_neg h3, if_neg h4, if_neg h5]
  rw [e]
  exact rmay_no p k h1 h2 h3 h4 h5 w hf
end Go.Proofs.Ytjhkdbcfkaaffaa
/- The document's fours, flag, asked, replied, body. -/
namespace Go.Proofs.Ytjhkdbcfkaaffaa
open Go.RowKit
set_option linter.unusedVariables false

/-- bytes handed out, wherever they lie -/
def RdOut (w : World) (l : List Nat) (e : Ending) (w' : World) : Prop := ∃ ao c, e = .returned (.slice ao l.length c) ∧ Rd w' ao l.length c (u8s l) ∧ Below w.heap.size w w'
set_option maxRecDepth 100000 in
theorem rput_out (a : Option Addr) (c : Nat) (l : List Nat) (v size : Int) (w : World) (hr : Rd w a l.length c (u8s l)) (hn : l.length ≤ 1000000) (hv : -9223372036854775808 ≤ v ∧ v ≤ 9223372036854775807) (hs : -9223372036854775808 ≤ size ∧ size ≤ 9223372036854775807) :
    Calls Try.prog 42 #[.slice a l.length c, .int .i64 v, .int .i64 size] w fun e w' => RdOut w (putL l v size) e w' := by
  refine (refput_any a l.length c l v size w hr (by omega) hv hs).mono ?_
  rintro e w' ⟨ao, c2, rfl, h1, h2⟩
  rw [u8s_length] at h1 ⊢
  exact ⟨ao, c2, rfl, ownsRow_rd h1, h2⟩
set_option maxRecDepth 100000 in
theorem rputtext_out (a : Option Addr) (c : Nat) (l : List Nat) (s : ByteArray) (w : World) (hr : Rd w a l.length c (u8s l)) (hn : l.length ≤ 100000) (hs : s.size ≤ 1000000) :
    Calls Try.prog 80 #[.slice a l.length c, .string s] w fun e w' => RdOut w (putTextL l s) e w' := by
  refine (refputtext_any a l.length c l s w hr (by omega) (by omega)).mono ?_
  rintro e w' ⟨ao, c2, rfl, h1, h2⟩
  rw [u8s_length] at h1 ⊢
  exact ⟨ao, c2, rfl, ownsRow_rd h1, h2⟩
set_option maxRecDepth 100000 in
set_option maxHeartbeats 4000000 in
theorem fours_any (a : Option Addr) (c : Nat) (b : List Nat) (a2 : Option Addr) (n c2 : Nat) (L : List Int) (w : World) (hr : Rd w a b.length c (u8s b)) (hb : b.length ≤ 1000) (hl : Rd w a2 n c2 (ints L)) (hL : L.length ≤ 10) (hin : ∀ x ∈ L, -9223372036854775808 ≤ x ∧ x ≤ 9223372036854775807) :
    Calls Try.prog 62 #[.slice a b.length c, .slice a2 n c2] w fun e w' => RdOut w (numsL b L) e w' := by
  have hn : L.length = n := by rw [← hl.1, ints_len]
  subst hn
  have HL := Lib.hid hl
  have HIN := Lib.hid hin
  have HR := Lib.hid hr
  have HLN := Lib.hid (fun k => numsL_len (L.take k) b)
  clear hl hin hr
  go_enter Try.func62, Try.ntmps62
  go_wp2_with fail
  go_loopw [0, 5] (fun bv v wr => ∃ (k : Nat) (ao : Option Addr) (c' : Nat), k ≤ L.length ∧ v = .int .i64 k ∧ bv = .slice ao (numsL b (L.take k)).length c' ∧ RowKit.Hid (Rd wr ao (numsL b (L.take k)).length c' (u8s (numsL b (L.take k)))) ∧ RowKit.Hid (Below w.heap.size w wr)) (fun _ v _ => L.length - (intOf v).toNat)
  case atStart => exact ⟨0, a, c, by omega, rfl, rfl, HR.out, Below.refl _ _⟩
  case round =>
    obtain ⟨k, ao, c', hk, rfl, rfl, HA, HB⟩ := hrel
    by_cases hlt : k < L.length
    · obtain ⟨x, hx⟩ : ∃ x, L[k]? = some x := ⟨_, List.getElem?_eq_getElem hlt⟩
      obtain ⟨bb, ob, hab, hbb, hc⟩ := (HL.out.below HB.out rfl).2.2.2.2 k hlt
      have cx : wr.cell? ⟨bb, ob + k, none⟩ = some (.int .i64 x) := by rw [hc]; simp [ints, hx]
      have HN := Lib.hid (numsL_next (l := b) hx)
      have hxx := HIN.out x (List.mem_of_getElem? hx)
      have k1 : (0 : Int) ≤ (k : Int) := by omega
      have k2 : (k : Int) < (L.length : Int) := by omega
      have HP := Lib.hid (rput_out ao c' (numsL b (L.take k)) x 4 wr HA.out (by have := HLN.out k; rw [List.length_take] at this; omega) hxx (by omega))
      rw [HN.out] at HP
      subst hab
      clear hx hc hxx
      generalize hq : numsL b (L.take k) = l1 at *
      have HQ := Lib.hid hq
      clear hq
      go_wp2_with fail
      refine HP.out.mono ?_
      rintro e w1 ⟨ao2, c3, rfl, h1, hb1⟩
      have HA2 := Lib.hid h1
      have HB2 := Lib.hid (HB.out.trans (hb1.mono HB.out.size))
      clear h1 hb1
      go_wp2_with fail
      go_roundw
      case rel => exact ⟨k + 1, ao2, c3, by omega, by go_num, rfl, HA2.out, HB2.out⟩
      case measure => simp [intOf]; omega
    · obtain rfl : k = L.length := by omega
      have ha := HA.out
      rw [List.take_length] at ha
      rw [List.take_length]
      go_wp2_with fail
      go_ret
      exact ⟨ao, c', rfl, ha, HB.out⟩
set_option maxRecDepth 100000 in
set_option maxHeartbeats 2000000 in
theorem rflag15_any (a : Option Addr) (c : Nat) (l : List Nat) (f : Bool) (w : World) (hr : Rd w a l.length c (u8s l)) (hn : l.length ≤ 1000000) :
    Calls Try.prog 81 #[.slice a l.length c, .bool f] w fun e w' => RdOut w (putL l (flagN f) 1) e w' := by
  have H1 := Lib.hid (rput_out a c l 1 1 w hr hn (by omega) (by omega))
  have H0 := Lib.hid (rput_out a c l 0 1 w hr hn (by omega) (by omega))
  clear hr
  go_enter Try.func81, Try.ntmps81
  cases f
  · go_wp2_with fail
    refine H0.out.mono ?_
    rintro e w1 ⟨ao, c2, rfl, h1, h2⟩
    go_wp2_with fail
    go_ret
    exact ⟨ao, c2, rfl, h1, h2⟩
  · go_wp2_with fail
    refine H1.out.mono ?_
    rintro e w1 ⟨ao, c2, rfl, h1, h2⟩
    go_wp2_with fail
    go_ret
    exact ⟨ao, c2, rfl, h1, h2⟩
set_option maxRecDepth 100000 in
set_option maxHeartbeats 8000000 in
theorem asked15_any (s q h sq ep : Int) (tx : ByteArray) (k b : Int) (f : Bool) (d : Int) (wd : ByteArray) (w : World) (hm : MV.may (.ask s q h sq ep tx k b f d wd) = true) (h1 : tx.size ≤ 2000) (h2 : wd.size ≤ 2000) :
    Calls Try.prog 63 #[.agg #[.int .i64 s, .int .i64 q, .int .i64 h, .int .i64 sq, .int .i64 ep, .string tx, .int .i64 k, .int .i64 b, .bool f, .int .i64 d, .string wd]] w fun e w' => RdOut w (restL (.ask s q h sq ep tx k b f d wd)) e w' := by
  have HIN := Lib.hid (ask_in hm).1
  have hk4 := (ask_in hm).2
  clear hm
  obtain ⟨m1, e1⟩ : ∃ l, numsL [] [s, q, h, sq, ep] = l := ⟨_, rfl⟩
  obtain ⟨m2, e2⟩ : ∃ l, putTextL m1 tx = l := ⟨_, rfl⟩
  obtain ⟨m3, e3⟩ : ∃ l, putL m2 k 1 = l := ⟨_, rfl⟩
  obtain ⟨m4, e4⟩ : ∃ l, putL m3 b 1 = l := ⟨_, rfl⟩
  obtain ⟨m5, e5⟩ : ∃ l, putL m4 (flagN f) 1 = l := ⟨_, rfl⟩
  obtain ⟨m6, e6⟩ : ∃ l, putL m5 d 1 = l := ⟨_, rfl⟩
  obtain ⟨m7, e7⟩ : ∃ l, putTextL m6 wd = l := ⟨_, rfl⟩
  have n1 : m1.length = 20 := by rw [← e1, numsL_len]; rfl
  have n2 : m2.length = 22 + tx.size := by rw [← e2, putTextL_len _ _ (by omega), n1]
  have n3 : m3.length = 23 + tx.size := by rw [← e3, putL_len1, n2]; omega
  have n4 : m4.length = 24 + tx.size := by rw [← e4, putL_len1, n3]; omega
  have n5 : m5.length = 25 + tx.size := by rw [← e5, putL_len1, n4]; omega
  have n6 : m6.length = 26 + tx.size := by rw [← e6, putL_len1, n5]; omega
  have EB := Lib.hid (show m7 = restL (.ask s q h sq ep tx k b f d wd) from by rw [← e7, ← e6, ← e5, ← e4, ← e3, ← e2, ← e1]; unfold restL itmL; simp only [putTextL_eq, putL1, numsL_cons, numsL_nil, List.nil_append, List.append_assoc])
  rw [← EB.out]
  have E1 := Lib.hid e1
  have E2 := Lib.hid e2
  have E3 := Lib.hid e3
  have E4 := Lib.hid e4
  have E5 := Lib.hid e5
  have E6 := Lib.hid e6
  have E7 := Lib.hid e7
  have N1 := Lib.hid (show m1.length ≤ 5000 from by omega)
  have N2 := Lib.hid (show m2.length ≤ 5000 from by omega)
  have N3 := Lib.hid (show m3.length ≤ 5000 from by omega)
  have N4 := Lib.hid (show m4.length ≤ 5000 from by omega)
  have N5 := Lib.hid (show m5.length ≤ 5000 from by omega)
  have N6 := Lib.hid (show m6.length ≤ 5000 from by omega)
  clear e1 e2 e3 e4 e5 e6 e7 n1 n2 n3 n4 n5 n6 EB
  have HB := Lib.hid ((Below.refl w.heap.size w).alloc (Nat.le_refl _) (.cells #[.int .i64 s, .int .i64 q, .int .i64 h, .int .i64 sq, .int .i64 ep, .string tx, .int .i64 k, .int .i64 b, .bool f, .int .i64 d, .string wd] 29))
  have HX := Lib.hid (show Blk (w.alloc (.cells #[.int .i64 s, .int .i64 q, .int .i64 h, .int .i64 sq, .int .i64 ep, .string tx, .int .i64 k, .int .i64 b, .bool f, .int .i64 d, .string wd] 29)) w.heap.size 29 [.int .i64 s, .int .i64 q, .int .i64 h, .int .i64 sq, .int .i64 ep, .string tx, .int .i64 k, .int .i64 b, .bool f, .int .i64 d, .string wd] from heap_alloc_new w _)
  obtain ⟨W0, hW0⟩ : ∃ W0, w.alloc (.cells #[.int .i64 s, .int .i64 q, .int .i64 h, .int .i64 sq, .int .i64 ep, .string tx, .int .i64 k, .int .i64 b, .bool f, .int .i64 d, .string wd] 29) = W0 := ⟨_, rfl⟩
  rw [hW0] at HB HX
  have HB1 := Lib.hid (HB.out.alloc HB.out.size (.cells (ints [s, q, h, sq, ep]).toArray 3))
  have HX1 := Lib.hid (HX.out.alloc (.cells (ints [s, q, h, sq, ep]).toArray 3))
  have HC := Lib.hid (fours_any none 0 [] (some ⟨W0.heap.size, 0, none⟩) 5 5 [s, q, h, sq, ep] (W0.alloc (.cells (ints [s, q, h, sq, ep]).toArray 3)) (rd_nil _ _ rfl) (by decide) (new_ints W0 [s, q, h, sq, ep] (by simp [maxLen])) (by simp) HIN.out)
  rw [E1.out] at HC
  have t0 : W0.cell? ⟨w.heap.size, 0, none⟩ = some (.int .i64 s) := HX.out.cell 0
  have t1 : W0.cell? ⟨w.heap.size, 1, none⟩ = some (.int .i64 q) := HX.out.cell 1
  have t2 : W0.cell? ⟨w.heap.size, 2, none⟩ = some (.int .i64 h) := HX.out.cell 2
  have t3 : W0.cell? ⟨w.heap.size, 3, none⟩ = some (.int .i64 sq) := HX.out.cell 3
  have t4 : W0.cell? ⟨w.heap.size, 4, none⟩ = some (.int .i64 ep) := HX.out.cell 4
  have t5 : W0.cell? ⟨w.heap.size, 5, none⟩ = some (.string tx) := HX.out.cell 5
  have t6 : W0.cell? ⟨w.heap.size, 6, none⟩ = some (.int .i64 k) := HX.out.cell 6
  have t7 : W0.cell? ⟨w.heap.size, 7, none⟩ = some (.int .i64 b) := HX.out.cell 7
  have t8 : W0.cell? ⟨w.heap.size, 8, none⟩ = some (.bool f) := HX.out.cell 8
  have t9 : W0.cell? ⟨w.heap.size, 9, none⟩ = some (.int .i64 d) := HX.out.cell 9
  have t10 : W0.cell? ⟨w.heap.size, 10, none⟩ = some (.string wd) := HX.out.cell 10
  go_enter Try.func63, Try.ntmps63
  go_wp2_with (rw [hW0])
  clear hW0
  refine HC.out.mono ?_
  clear HC
  rintro e w2 ⟨ao2, c2, rfl, hr, hb⟩
  have HR2 := Lib.hid hr
  have HX2 := Lib.hid (HX1.out.below hb HX1.out.lt)
  have HB2 := Lib.hid (HB1.out.trans (hb.mono HB1.out.size))
  clear hr hb
  clear t0 t1 t2 t3 t4 t5 t6 t7 t8 t9 t10
  have t0 : w2.cell? ⟨w.heap.size, 0, none⟩ = some (.int .i64 s) := HX2.out.cell 0
  have t1 : w2.cell? ⟨w.heap.size, 1, none⟩ = some (.int .i64 q) := HX2.out.cell 1
  have t2 : w2.cell? ⟨w.heap.size, 2, none⟩ = some (.int .i64 h) := HX2.out.cell 2
  have t3 : w2.cell? ⟨w.heap.size, 3, none⟩ = some (.int .i64 sq) := HX2.out.cell 3
  have t4 : w2.cell? ⟨w.heap.size, 4, none⟩ = some (.int .i64 ep) := HX2.out.cell 4
  have t5 : w2.cell? ⟨w.heap.size, 5, none⟩ = some (.string tx) := HX2.out.cell 5
  have t6 : w2.cell? ⟨w.heap.size, 6, none⟩ = some (.int .i64 k) := HX2.out.cell 6
  have t7 : w2.cell? ⟨w.heap.size, 7, none⟩ = some (.int .i64 b) := HX2.out.cell 7
  have t8 : w2.cell? ⟨w.heap.size, 8, none⟩ = some (.bool f) := HX2.out.cell 8
  have t9 : w2.cell? ⟨w.heap.size, 9, none⟩ = some (.int .i64 d) := HX2.out.cell 9
  have t10 : w2.cell? ⟨w.heap.size, 10, none⟩ = some (.string wd) := HX2.out.cell 10
  have HC := Lib.hid (rputtext_out ao2 c2 m1 tx w2 HR2.out (by have := N1.out; omega) (by omega))
  rw [E2.out] at HC
  go_wp2_with fail
  refine HC.out.mono ?_
  clear HC
  rintro e w3 ⟨ao3, c3, rfl, hr, hb⟩
  have HR3 := Lib.hid hr
  have HX3 := Lib.hid (HX2.out.below hb HX2.out.lt)
  have HB3 := Lib.hid (HB2.out.trans (hb.mono HB2.out.size))
  clear hr hb
  clear t0 t1 t2 t3 t4 t5 t6 t7 t8 t9 t10
  go_wp2_with fail
  have HR3d := Lib.hid (show Rd w3.drew ao3 m2.length c3 (u8s m2) from HR3.out)
  have HB3d := Lib.hid HB3.out.drew
  have HX3d := Lib.hid (show Blk w3.drew w.heap.size 29 [.int .i64 s, .int .i64 q, .int .i64 h, .int .i64 sq, .int .i64 ep, .string tx, .int .i64 k, .int .i64 b, .bool f, .int .i64 d, .string wd] from HX3.out)
  clear HR3 HB3 HX3
  refine wp_region_held_drew (S := (fun w' => w'.cell? ⟨w.heap.size, 6, none⟩ = some (.int .i64 k) ∧ w'.cell? ⟨w.heap.size, 7, none⟩ = some (.int .i64 b))) (by kernel_rfl) (by first | exact ⟨HX3d.out.cell 6, HX3d.out.cell 7⟩ | exact ⟨HX4.out.cell 6, HX4.out.cell 7⟩ | exact ⟨HX5.out.cell 6, HX5.out.cell 7⟩) (fun hHeld => ?_)
  refine takeO 0 (some 20) (v := ?_) rfl rfl (by kernel_rfl) (by kernel_rfl) (by kernel_rfl) (fun _ _ _ h => h) (Or.inl ⟨by rfl, ?_⟩) (by assumption) ?_
  rotate_left 1
  · intro w hSw; (try dsimp only at hSw); go_simp; all_goals with_reducible rfl
  try simp only [Act.put, List.setIfInBounds_toArray, List.set_cons_zero, List.set_cons_succ]
  refine takeO 1 (some 21) (v := ?_) rfl rfl (by kernel_rfl) (by kernel_rfl) (by kernel_rfl) (fun _ _ _ h => h) (Or.inl ⟨by rfl, ?_⟩) (by assumption) ?_
  rotate_left 1
  · intro w hSw; (try dsimp only at hSw); go_simp; all_goals with_reducible rfl
  try simp only [Act.put, List.setIfInBounds_toArray, List.set_cons_zero, List.set_cons_succ]
  refine takeO 2 (some 22) (v := ?_) rfl rfl (by kernel_rfl) (by kernel_rfl) (by kernel_rfl) (fun _ _ _ h => h) (Or.inl ⟨by rfl, ?_⟩) (by assumption) ?_
  rotate_left 1
  · intro w hSw; (try dsimp only at hSw); go_simp; all_goals with_reducible rfl
  try simp only [Act.put, List.setIfInBounds_toArray, List.set_cons_zero, List.set_cons_succ]
  refine takeO 4 (some 24) (v := ?_) rfl rfl (by kernel_rfl) (by kernel_rfl) (by kernel_rfl) (fun _ _ _ h => h) (Or.inl ⟨by rfl, ?_⟩) (by assumption) ?_
  rotate_left 1
  · intro w hSw; (try dsimp only at hSw); go_simp; all_goals with_reducible rfl
  try simp only [Act.put, List.setIfInBounds_toArray, List.set_cons_zero, List.set_cons_succ]
  refine takeO 5 (some 25) (v := ?_) rfl rfl (by kernel_rfl) (by kernel_rfl) (by kernel_rfl) (fun _ _ _ h => h) (Or.inl ⟨by rfl, ?_⟩) (by assumption) ?_
  rotate_left 1
  · intro w hSw; (try dsimp only at hSw); go_simp; all_goals with_reducible rfl
  try simp only [Act.put, List.setIfInBounds_toArray, List.set_cons_zero, List.set_cons_succ]
  refine wpAnyH_ready (rs := [3]) (by kernel_rfl) (by simp) ?_
  refine AllReadyH.cons rfl (fun K hK => ?_) AllReadyH.nil
  go_simp
  have HC := Lib.hid (rput_out ao3 c3 m2 k 1 w3.drew HR3d.out (by have := N2.out; omega) (by omega) (by omega)); rw [E3.out] at HC; refine HC.out.mono ?_; clear HC; rintro e w4 ⟨ao4, c4, rfl, hr, hb⟩; have HR4 := Lib.hid hr; have HX4 := Lib.hid (HX3d.out.below hb HX3d.out.lt); have HB4 := Lib.hid (HB3d.out.trans (hb.mono HB3d.out.size)); clear hr hb
  go_wp2_with fail
  refine hK.out _ _ (by first | exact ⟨HX3d.out.cell 6, HX3d.out.cell 7⟩ | exact ⟨HX4.out.cell 6, HX4.out.cell 7⟩ | exact ⟨HX5.out.cell 6, HX5.out.cell 7⟩) (fun hHeld => ?_)
  clear hK K
  try simp only [Act.put, List.setIfInBounds_toArray, List.set_cons_zero, List.set_cons_succ]
  refine wpAnyH_ready (rs := [6]) (by kernel_rfl) (by simp) ?_
  refine AllReadyH.cons rfl (fun K hK => ?_) AllReadyH.nil
  go_simp
  have HC := Lib.hid (rput_out ao4 c4 m3 b 1 w4 HR4.out (by have := N3.out; omega) (by omega) (by omega)); rw [E4.out] at HC; refine HC.out.mono ?_; clear HC; rintro e w5 ⟨ao5, c5, rfl, hr, hb⟩; have HR5 := Lib.hid hr; have HX5 := Lib.hid (HX4.out.below hb HX4.out.lt); have HB5 := Lib.hid (HB4.out.trans (hb.mono HB4.out.size)); clear hr hb
  go_wp2_with fail
  refine hK.out _ _ (by first | exact ⟨HX3d.out.cell 6, HX3d.out.cell 7⟩ | exact ⟨HX4.out.cell 6, HX4.out.cell 7⟩ | exact ⟨HX5.out.cell 6, HX5.out.cell 7⟩) (fun hHeld => ?_)
  clear hK K
  try simp only [Act.put, List.setIfInBounds_toArray, List.set_cons_zero, List.set_cons_succ]
  refine takeO 7 (some 3) (v := ?_) rfl rfl (by kernel_rfl) (by kernel_rfl) (by kernel_rfl) (fun _ _ _ h => h) (Or.inl ⟨by rfl, ?_⟩) (by assumption) ?_
  rotate_left 1
  · intro w hSw; (try dsimp only at hSw); go_simp; all_goals with_reducible rfl
  try simp only [Act.put, List.setIfInBounds_toArray, List.set_cons_zero, List.set_cons_succ]
  refine wpAnyH_done (by kernel_rfl) ?_ _
  clear HX3d HX4 HB3d HB4 HR3d HR4
  have t8 : w5.cell? ⟨w.heap.size, 8, none⟩ = some (.bool f) := HX5.out.cell 8
  have HC := Lib.hid (rflag15_any ao5 c5 m4 f w5 HR5.out (by have := N4.out; omega))
  rw [E5.out] at HC
  go_wp2_with fail
  refine HC.out.mono ?_
  clear HC
  rintro e w6 ⟨ao6, c6, rfl, hr, hb⟩
  have HR6 := Lib.hid hr
  have HX6 := Lib.hid (HX5.out.below hb HX5.out.lt)
  have HB6 := Lib.hid (HB5.out.trans (hb.mono HB5.out.size))
  clear hr hb
  clear t8 HX5 HB5 HR5
  go_wp2_with fail
  have HR6d := Lib.hid (show Rd w6.drew ao6 m5.length c6 (u8s m5) from HR6.out)
  have HB6d := Lib.hid HB6.out.drew
  have HX6d := Lib.hid (show Blk w6.drew w.heap.size 29 [.int .i64 s, .int .i64 q, .int .i64 h, .int .i64 sq, .int .i64 ep, .string tx, .int .i64 k, .int .i64 b, .bool f, .int .i64 d, .string wd] from HX6.out)
  clear HR6 HB6 HX6
  refine wp_region_held_drew (S := (fun w' => w'.cell? ⟨w.heap.size, 9, none⟩ = some (.int .i64 d) ∧ w'.cell? ⟨w.heap.size, 10, none⟩ = some (.string wd))) (by kernel_rfl) (by first | exact ⟨HX6d.out.cell 9, HX6d.out.cell 10⟩ | exact ⟨HX7.out.cell 9, HX7.out.cell 10⟩ | exact ⟨HX8.out.cell 9, HX8.out.cell 10⟩) (fun hHeld => ?_)
  refine takeO 0 (some 31) (v := ?_) rfl rfl (by kernel_rfl) (by kernel_rfl) (by kernel_rfl) (fun _ _ _ h => h) (Or.inl ⟨by rfl, ?_⟩) (by assumption) ?_
  rotate_left 1
  · intro w hSw; (try dsimp only at hSw); go_simp; all_goals with_reducible rfl
  try simp only [Act.put, List.setIfInBounds_toArray, List.set_cons_zero, List.set_cons_succ]
  refine takeO 1 (some 32) (v := ?_) rfl rfl (by kernel_rfl) (by kernel_rfl) (by kernel_rfl) (fun _ _ _ h => h) (Or.inl ⟨by rfl, ?_⟩) (by assumption) ?_
  rotate_left 1
  · intro w hSw; (try dsimp only at hSw); go_simp; all_goals with_reducible rfl
  try simp only [Act.put, List.setIfInBounds_toArray, List.set_cons_zero, List.set_cons_succ]
  refine takeO 2 (some 33) (v := ?_) rfl rfl (by kernel_rfl) (by kernel_rfl) (by kernel_rfl) (fun _ _ _ h => h) (Or.inl ⟨by rfl, ?_⟩) (by assumption) ?_
  rotate_left 1
  · intro w hSw; (try dsimp only at hSw); go_simp; all_goals with_reducible rfl
  try simp only [Act.put, List.setIfInBounds_toArray, List.set_cons_zero, List.set_cons_succ]
  refine takeO 3 (some 34) (v := ?_) rfl rfl (by kernel_rfl) (by kernel_rfl) (by kernel_rfl) (fun _ _ _ h => h) (Or.inl ⟨by rfl, ?_⟩) (by assumption) ?_
  rotate_left 1
  · intro w hSw; (try dsimp only at hSw); go_simp; all_goals with_reducible rfl
  try simp only [Act.put, List.setIfInBounds_toArray, List.set_cons_zero, List.set_cons_succ]
  refine takeO 5 (some 36) (v := ?_) rfl rfl (by kernel_rfl) (by kernel_rfl) (by kernel_rfl) (fun _ _ _ h => h) (Or.inl ⟨by rfl, ?_⟩) (by assumption) ?_
  rotate_left 1
  · intro w hSw; (try dsimp only at hSw); go_simp; all_goals with_reducible rfl
  try simp only [Act.put, List.setIfInBounds_toArray, List.set_cons_zero, List.set_cons_succ]
  refine takeO 6 (some 37) (v := ?_) rfl rfl (by kernel_rfl) (by kernel_rfl) (by kernel_rfl) (fun _ _ _ h => h) (Or.inl ⟨by rfl, ?_⟩) (by assumption) ?_
  rotate_left 1
  · intro w hSw; (try dsimp only at hSw); go_simp; all_goals with_reducible rfl
  try simp only [Act.put, List.setIfInBounds_toArray, List.set_cons_zero, List.set_cons_succ]
  refine takeO 7 (some 38) (v := ?_) rfl rfl (by kernel_rfl) (by kernel_rfl) (by kernel_rfl) (fun _ _ _ h => h) (Or.inl ⟨by rfl, ?_⟩) (by assumption) ?_
  rotate_left 1
  · intro w hSw; (try dsimp only at hSw); go_simp; all_goals with_reducible rfl
  try simp only [Act.put, List.setIfInBounds_toArray, List.set_cons_zero, List.set_cons_succ]
  refine wpAnyH_ready (rs := [4]) (by kernel_rfl) (by simp) ?_
  refine AllReadyH.cons rfl (fun K hK => ?_) AllReadyH.nil
  go_simp
  have HC := Lib.hid (rput_out ao6 c6 m5 d 1 w6.drew HR6d.out (by have := N5.out; omega) (by omega) (by omega)); rw [E6.out] at HC; refine HC.out.mono ?_; clear HC; rintro e w7 ⟨ao7, c7, rfl, hr, hb⟩; have HR7 := Lib.hid hr; have HX7 := Lib.hid (HX6d.out.below hb HX6d.out.lt); have HB7 := Lib.hid (HB6d.out.trans (hb.mono HB6d.out.size)); clear hr hb
  go_wp2_with fail
  refine hK.out _ _ (by first | exact ⟨HX6d.out.cell 9, HX6d.out.cell 10⟩ | exact ⟨HX7.out.cell 9, HX7.out.cell 10⟩ | exact ⟨HX8.out.cell 9, HX8.out.cell 10⟩) (fun hHeld => ?_)
  clear hK K
  try simp only [Act.put, List.setIfInBounds_toArray, List.set_cons_zero, List.set_cons_succ]
  refine wpAnyH_ready (rs := [8]) (by kernel_rfl) (by simp) ?_
  refine AllReadyH.cons rfl (fun K hK => ?_) AllReadyH.nil
  go_simp
  have HC := Lib.hid (rputtext_out ao7 c7 m6 wd w7 HR7.out (by have := N6.out; omega) (by omega)); rw [E7.out] at HC; refine HC.out.mono ?_; clear HC; rintro e w8 ⟨ao8, c8, rfl, hr, hb⟩; have HR8 := Lib.hid hr; have HX8 := Lib.hid (HX7.out.below hb HX7.out.lt); have HB8 := Lib.hid (HB7.out.trans (hb.mono HB7.out.size)); clear hr hb
  go_wp2_with fail
  refine hK.out _ _ (by first | exact ⟨HX6d.out.cell 9, HX6d.out.cell 10⟩ | exact ⟨HX7.out.cell 9, HX7.out.cell 10⟩ | exact ⟨HX8.out.cell 9, HX8.out.cell 10⟩) (fun hHeld => ?_)
  clear hK K
  try simp only [Act.put, List.setIfInBounds_toArray, List.set_cons_zero, List.set_cons_succ]
  refine takeO 9 (some 2) (v := ?_) rfl rfl (by kernel_rfl) (by kernel_rfl) (by kernel_rfl) (fun _ _ _ h => h) (Or.inl ⟨by rfl, ?_⟩) (by assumption) ?_
  rotate_left 1
  · intro w hSw; (try dsimp only at hSw); go_simp; all_goals with_reducible rfl
  try simp only [Act.put, List.setIfInBounds_toArray, List.set_cons_zero, List.set_cons_succ]
  refine wpAnyH_done (by kernel_rfl) ?_ _
  go_wp2_with fail
  go_ret
  exact ⟨ao8, c8, rfl, HR8.out, HB8.out⟩
set_option maxRecDepth 100000 in
set_option maxHeartbeats 8000000 in
theorem replied15_any (s q h sq wk ep : Int) (l : List KeyL) (en : Bool) (a : Option Addr) (c : Nat) (w : World) (hr : RdE KeyL.cells 2 w a l.length c l) (hm : MV.may (.reply s q h sq wk ep l en) = true) (hx : ∀ x ∈ l, x.2.size ≤ 2000) :
    Calls Try.prog 64 #[.agg #[.int .i64 s, .int .i64 q, .int .i64 h, .int .i64 sq, .int .i64 wk, .int .i64 ep, .slice a l.length c, .bool en]] w fun e w' => RdOut w (restL (.reply s q h sq wk ep l en)) e w' := by
  have HIN := Lib.hid (reply_in hm).1
  have HD := Lib.hid (reply_in hm).2.1
  have hl5 := (reply_in hm).2.2
  have HSZ := Lib.hid hx
  have HRI := Lib.hid (fun (W : World) (hbw : Below w.heap.size w W) => hr.below hbw rfl)
  have hcap := hr.2.1
  have hcm := hr.2.2.1
  unfold maxLen at hcm
  obtain ⟨m1, e1⟩ : ∃ m, numsL [] [s, q, h, sq, wk, ep] = m := ⟨_, rfl⟩
  obtain ⟨m2, e2⟩ : ∃ m, putL m1 (l.length : Int) 1 = m := ⟨_, rfl⟩
  obtain ⟨ln, e3⟩ : ∃ ln : Nat → List Nat, (fun i => itemsL m2 (l.take i)) = ln := ⟨_, rfl⟩
  obtain ⟨bl, e4⟩ : ∃ m, putL (ln l.length) (flagN en) 1 = m := ⟨_, rfl⟩
  have n1 : m1.length = 24 := by rw [← e1, numsL_len]; rfl
  have n2 : m2.length = 25 := by rw [← e2, putL_len1, n1]
  have NL := Lib.hid (show ∀ i, i ≤ l.length → (ln i).length ≤ 25 + i * 2003 from by rw [← e3]; intro i hi; exact itemsL_len m2 25 n2 l HSZ.out i hi)
  have nn := NL.out l.length (Nat.le_refl _)
  have HS0 := Lib.hid (show ln 0 = m2 from by rw [← e3]; rfl)
  have HSS := Lib.hid (show ∀ i x, l[i]? = some x → putTextL (putL (ln i) x.1 1) x.2 = ln (i + 1) from by rw [← e3]; intro i x hx; exact itemsL_next hx)
  have EB := Lib.hid (show bl = restL (.reply s q h sq wk ep l en) from by rw [← e4, ← e3, ← e2, ← e1]; unfold restL; simp only [List.take_length, itemsL_eq, putL1, numsL_cons, numsL_nil, List.nil_append, List.append_assoc])
  rw [← EB.out]
  have E1 := Lib.hid e1
  have E2 := Lib.hid e2
  have E4 := Lib.hid e4
  have N1 := Lib.hid (show m1.length ≤ 5000 from by omega)
  have N4 := Lib.hid (show (ln l.length).length ≤ 50000 from by omega)
  clear e1 e2 e3 e4 n1 n2 nn EB hm hx hr
  have HB := Lib.hid ((Below.refl w.heap.size w).alloc (Nat.le_refl _) (.cells #[.int .i64 s, .int .i64 q, .int .i64 h, .int .i64 sq, .int .i64 wk, .int .i64 ep, .slice a l.length c, .bool en] 32))
  have HX := Lib.hid (show Blk (w.alloc (.cells #[.int .i64 s, .int .i64 q, .int .i64 h, .int .i64 sq, .int .i64 wk, .int .i64 ep, .slice a l.length c, .bool en] 32)) w.heap.size 32 [.int .i64 s, .int .i64 q, .int .i64 h, .int .i64 sq, .int .i64 wk, .int .i64 ep, .slice a l.length c, .bool en] from heap_alloc_new w _)
  obtain ⟨W0, hW0⟩ : ∃ W0, w.alloc (.cells #[.int .i64 s, .int .i64 q, .int .i64 h, .int .i64 sq, .int .i64 wk, .int .i64 ep, .slice a l.length c, .bool en] 32) = W0 := ⟨_, rfl⟩
  rw [hW0] at HB HX
  have HB1 := Lib.hid (HB.out.alloc HB.out.size (.cells (ints [s, q, h, sq, wk, ep]).toArray 3))
  have HX1 := Lib.hid (HX.out.alloc (.cells (ints [s, q, h, sq, wk, ep]).toArray 3))
  have HC := Lib.hid (fours_any none 0 [] (some ⟨W0.heap.size, 0, none⟩) 6 6 [s, q, h, sq, wk, ep] (W0.alloc (.cells (ints [s, q, h, sq, wk, ep]).toArray 3)) (rd_nil _ _ rfl) (by decide) (new_ints W0 [s, q, h, sq, wk, ep] (by simp [maxLen])) (by simp) HIN.out)
  rw [E1.out] at HC
  have t0 : W0.cell? ⟨w.heap.size, 0, none⟩ = some (.int .i64 s) := HX.out.cell 0
  have t1 : W0.cell? ⟨w.heap.size, 1, none⟩ = some (.int .i64 q) := HX.out.cell 1
  have t2 : W0.cell? ⟨w.heap.size, 2, none⟩ = some (.int .i64 h) := HX.out.cell 2
  have t3 : W0.cell? ⟨w.heap.size, 3, none⟩ = some (.int .i64 sq) := HX.out.cell 3
  have t4 : W0.cell? ⟨w.heap.size, 4, none⟩ = some (.int .i64 wk) := HX.out.cell 4
  have t5 : W0.cell? ⟨w.heap.size, 5, none⟩ = some (.int .i64 ep) := HX.out.cell 5
  have t6 : W0.cell? ⟨w.heap.size, 6, none⟩ = some (.slice a l.length c) := HX.out.cell 6
  have t7 : W0.cell? ⟨w.heap.size, 7, none⟩ = some (.bool en) := HX.out.cell 7
  go_enter Try.func64, Try.ntmps64
  go_wp2_with (rw [hW0])
  clear hW0
  refine HC.out.mono ?_
  clear HC
  rintro e w2 ⟨ao2, c2, rfl, hr, hb⟩
  have HR2 := Lib.hid hr
  have HX2 := Lib.hid (HX1.out.below hb HX1.out.lt)
  have HB2 := Lib.hid (HB1.out.trans (hb.mono HB1.out.size))
  clear hr hb
  clear t0 t1 t2 t3 t4 t5 t6 t7
  have t6 : w2.cell? ⟨w.heap.size, 6, none⟩ = some (.slice a l.length c) := HX2.out.cell 6
  have HC := Lib.hid (rput_out ao2 c2 m1 (l.length : Int) 1 w2 HR2.out (by have := N1.out; omega) (by omega) (by omega))
  rw [E2.out] at HC
  go_wp2_with fail
  refine HC.out.mono ?_
  clear HC
  rintro e w3 ⟨ao3, c3, rfl, hr, hb⟩
  have HR3 := Lib.hid hr
  have HX3 := Lib.hid (HX2.out.below hb HX2.out.lt)
  have HB3 := Lib.hid (HB2.out.trans (hb.mono HB2.out.size))
  clear hr hb
  clear t6 HX2 HB2 HR2 HX1 HB1 HX HB
  go_wp2_with fail
  go_loopw [3, 4] (fun bv v wr => ∃ (i : Nat) (ao : Option Addr) (c' : Nat), i ≤ l.length ∧ v = .int .i64 i ∧ bv = .slice ao (ln i).length c' ∧ RowKit.Hid (Rd wr ao (ln i).length c' (u8s (ln i))) ∧ RowKit.Hid (Blk wr w.heap.size 32 [.int .i64 s, .int .i64 q, .int .i64 h, .int .i64 sq, .int .i64 wk, .int .i64 ep, .slice a l.length c, .bool en]) ∧ RowKit.Hid (Below w.heap.size w wr)) (fun _ v _ => l.length - (intOf v).toNat)
  case atStart => exact ⟨0, ao3, c3, by omega, rfl, by rw [HS0.out], by rw [HS0.out]; exact HR3, HX3, HB3⟩
  case round =>
    clear HX3 HB3 HR3
    obtain ⟨i, ao, c', hi, rfl, rfl, HR4, HX4, HB4⟩ := hrel
    have t6 : wr.cell? ⟨w.heap.size, 6, none⟩ = some (.slice a l.length c) := HX4.out.cell 6
    by_cases hlt : i < l.length
    · obtain ⟨x, hx⟩ : ∃ x, l[i]? = some x := ⟨_, List.getElem?_eq_getElem hlt⟩
      obtain ⟨bb, ob, rfl, hbb, hcx⟩ := (HRI.out wr HB4.out).2.2.2.2 i x hx
      have HCX := Lib.hid (show ∀ W, Below w.heap.size w W → W.cell? ⟨bb, ob + i * 2, none⟩ = some (.int .i64 x.1) ∧ W.cell? ⟨bb, ob + i * 2 + 1, none⟩ = some (.string x.2) from fun W hb => by
        obtain ⟨b', o', e, _, hc⟩ := (HRI.out W hb).2.2.2.2 i x hx
        cases e
        exact ⟨hc 0 (by decide), hc 1 (by decide)⟩)
      have k1 : (0 : Int) ≤ (i : Int) := by omega
      have k2 : (i : Int) < (l.length : Int) := by omega
      have hd4 := HD.out x (List.mem_of_getElem? hx)
      have hs4 := HSZ.out x (List.mem_of_getElem? hx)
      have hni := NL.out i (by omega)
      have HNX := Lib.hid (HSS.out i x hx)
      have HX4d := Lib.hid (show Blk wr.drew w.heap.size 32 [.int .i64 s, .int .i64 q, .int .i64 h, .int .i64 sq, .int .i64 wk, .int .i64 ep, .slice (some ⟨bb, ob, none⟩) l.length c, .bool en] from HX4.out)
      have HB4d := Lib.hid HB4.out.drew
      have HR4d := Lib.hid (show Rd wr.drew ao (ln i).length c' (u8s (ln i)) from HR4.out)
      clear hx hcx hbb
      go_wp2_with fail
      clear t6 HX4 HB4 HR4
      refine wp_region_held_drew (S := (fun w' => w'.cell? ⟨w.heap.size, 6, none⟩ = some (.slice (some ⟨bb, ob, none⟩) l.length c) ∧ w'.cell? ⟨bb, ob + i * 2, none⟩ = some (.int .i64 x.1) ∧ w'.cell? ⟨bb, ob + i * 2 + 1, none⟩ = some (.string x.2))) (by kernel_rfl) (by first | exact ⟨HX4d.out.cell 6, HCX.out _ HB4d.out⟩ | exact ⟨HX5.out.cell 6, HCX.out _ HB5.out⟩ | exact ⟨HX6.out.cell 6, HCX.out _ HB6.out⟩) (fun hHeld => ?_)
      refine takeO 0 (some 31) (v := ?_) rfl rfl (by kernel_rfl) (by kernel_rfl) (by kernel_rfl) (fun _ _ _ h => h) (Or.inl ⟨by rfl, ?_⟩) (by assumption) ?_
      rotate_left 1
      · intro w hSw; (try dsimp only at hSw); go_simp; all_goals with_reducible rfl
      try simp only [Act.put, List.setIfInBounds_toArray, List.set_cons_zero, List.set_cons_succ]
      refine takeO 1 (some 32) (v := ?_) rfl rfl (by kernel_rfl) (by kernel_rfl) (by kernel_rfl) (fun _ _ _ h => h) (Or.inl ⟨by rfl, ?_⟩) (by assumption) ?_
      rotate_left 1
      · intro w hSw; (try dsimp only at hSw); go_simp; all_goals with_reducible rfl
      try simp only [Act.put, List.setIfInBounds_toArray, List.set_cons_zero, List.set_cons_succ]
      refine takeO 2 (some 33) (v := ?_) rfl rfl (by kernel_rfl) (by kernel_rfl) (by kernel_rfl) (fun _ _ _ h => h) (Or.inl ⟨by rfl, ?_⟩) (by assumption) ?_
      rotate_left 1
      · intro w hSw; (try dsimp only at hSw); go_simp; all_goals with_reducible rfl
      try simp only [Act.put, List.setIfInBounds_toArray, List.set_cons_zero, List.set_cons_succ]
      refine takeO 3 (some 34) (v := ?_) rfl rfl (by kernel_rfl) (by kernel_rfl) (by kernel_rfl) (fun _ _ _ h => h) (Or.inl ⟨by rfl, ?_⟩) (by assumption) ?_
      rotate_left 1
      · intro w hSw; (try dsimp only at hSw); go_simp; all_goals with_reducible rfl
      try simp only [Act.put, List.setIfInBounds_toArray, List.set_cons_zero, List.set_cons_succ]
      refine takeO 4 (some 35) (v := ?_) rfl rfl (by kernel_rfl) (by kernel_rfl) (by kernel_rfl) (fun _ _ _ h => h) (Or.inl ⟨by rfl, ?_⟩) (by assumption) ?_
      rotate_left 1
      · intro w hSw; (try dsimp only at hSw); go_simp; all_goals with_reducible rfl
      try simp only [Act.put, List.setIfInBounds_toArray, List.set_cons_zero, List.set_cons_succ]
      refine takeO 5 (some 36) (v := ?_) rfl rfl (by kernel_rfl) (by kernel_rfl) (by kernel_rfl) (fun _ _ _ h => h) (Or.inl ⟨by rfl, ?_⟩) (by assumption) ?_
      rotate_left 1
      · intro w hSw; (try dsimp only at hSw); go_simp; all_goals with_reducible rfl
      try simp only [Act.put, List.setIfInBounds_toArray, List.set_cons_zero, List.set_cons_succ]
      refine takeO 6 (some 37) (v := ?_) rfl rfl (by kernel_rfl) (by kernel_rfl) (by kernel_rfl) (fun _ _ _ h => h) (Or.inl ⟨by rfl, ?_⟩) (by assumption) ?_
      rotate_left 1
      · intro w hSw; (try dsimp only at hSw); go_simp; all_goals with_reducible rfl
      try simp only [Act.put, List.setIfInBounds_toArray, List.set_cons_zero, List.set_cons_succ]
      refine takeO 8 (some 39) (v := ?_) rfl rfl (by kernel_rfl) (by kernel_rfl) (by kernel_rfl) (fun _ _ _ h => h) (Or.inl ⟨by rfl, ?_⟩) (by assumption) ?_
      rotate_left 1
      · intro w hSw; (try dsimp only at hSw); go_simp; all_goals with_reducible rfl
      try simp only [Act.put, List.setIfInBounds_toArray, List.set_cons_zero, List.set_cons_succ]
      refine takeO 9 (some 40) (v := ?_) rfl rfl (by kernel_rfl) (by kernel_rfl) (by kernel_rfl) (fun _ _ _ h => h) (Or.inl ⟨by rfl, ?_⟩) (by assumption) ?_
      rotate_left 1
      · intro w hSw; (try dsimp only at hSw); go_simp; all_goals with_reducible rfl
      try simp only [Act.put, List.setIfInBounds_toArray, List.set_cons_zero, List.set_cons_succ]
      refine takeO 10 (some 41) (v := ?_) rfl rfl (by kernel_rfl) (by kernel_rfl) (by kernel_rfl) (fun _ _ _ h => h) (Or.inl ⟨by rfl, ?_⟩) (by assumption) ?_
      rotate_left 1
      · intro w hSw; (try dsimp only at hSw); go_simp; all_goals with_reducible rfl
      try simp only [Act.put, List.setIfInBounds_toArray, List.set_cons_zero, List.set_cons_succ]
      refine takeO 11 (some 42) (v := ?_) rfl rfl (by kernel_rfl) (by kernel_rfl) (by kernel_rfl) (fun _ _ _ h => h) (Or.inl ⟨by rfl, ?_⟩) (by assumption) ?_
      rotate_left 1
      · intro w hSw; (try dsimp only at hSw); go_simp; all_goals with_reducible rfl
      try simp only [Act.put, List.setIfInBounds_toArray, List.set_cons_zero, List.set_cons_succ]
      refine takeO 12 (some 43) (v := ?_) rfl rfl (by kernel_rfl) (by kernel_rfl) (by kernel_rfl) (fun _ _ _ h => h) (Or.inl ⟨by rfl, ?_⟩) (by assumption) ?_
      rotate_left 1
      · intro w hSw; (try dsimp only at hSw); go_simp; all_goals with_reducible rfl
      try simp only [Act.put, List.setIfInBounds_toArray, List.set_cons_zero, List.set_cons_succ]
      refine takeO 13 (some 44) (v := ?_) rfl rfl (by kernel_rfl) (by kernel_rfl) (by kernel_rfl) (fun _ _ _ h => h) (Or.inl ⟨by rfl, ?_⟩) (by assumption) ?_
      rotate_left 1
      · intro w hSw; (try dsimp only at hSw); go_simp; all_goals with_reducible rfl
      try simp only [Act.put, List.setIfInBounds_toArray, List.set_cons_zero, List.set_cons_succ]
      refine wpAnyH_ready (rs := [7]) (by kernel_rfl) (by simp) ?_
      refine AllReadyH.cons rfl (fun K hK => ?_) AllReadyH.nil
      go_simp
      have HC := Lib.hid (rput_out ao c' (ln i) x.1 1 wr.drew HR4d.out (by omega) (by omega) (by omega)); refine HC.out.mono ?_; clear HC; rintro e w5 ⟨ao5, c5, rfl, hr, hb⟩; have HR5 := Lib.hid hr; have HX5 := Lib.hid (HX4d.out.below hb HX4d.out.lt); have HB5 := Lib.hid (HB4d.out.trans (hb.mono HB4d.out.size)); clear hr hb
      go_wp2_with fail
      refine hK.out _ _ (by first | exact ⟨HX4d.out.cell 6, HCX.out _ HB4d.out⟩ | exact ⟨HX5.out.cell 6, HCX.out _ HB5.out⟩ | exact ⟨HX6.out.cell 6, HCX.out _ HB6.out⟩) (fun hHeld => ?_)
      clear hK K
      try simp only [Act.put, List.setIfInBounds_toArray, List.set_cons_zero, List.set_cons_succ]
      refine wpAnyH_ready (rs := [14]) (by kernel_rfl) (by simp) ?_
      refine AllReadyH.cons rfl (fun K hK => ?_) AllReadyH.nil
      go_simp
      have HC := Lib.hid (rputtext_out ao5 c5 (putL (ln i) x.1 1) x.2 w5 HR5.out (by rw [putL_len1]; omega) (by omega)); rw [HNX.out] at HC; refine HC.out.mono ?_; clear HC; rintro e w6 ⟨ao6, c6, rfl, hr, hb⟩; have HR6 := Lib.hid hr; have HX6 := Lib.hid (HX5.out.below hb HX5.out.lt); have HB6 := Lib.hid (HB5.out.trans (hb.mono HB5.out.size)); clear hr hb
      go_wp2_with fail
      refine hK.out _ _ (by first | exact ⟨HX4d.out.cell 6, HCX.out _ HB4d.out⟩ | exact ⟨HX5.out.cell 6, HCX.out _ HB5.out⟩ | exact ⟨HX6.out.cell 6, HCX.out _ HB6.out⟩) (fun hHeld => ?_)
      clear hK K
      try simp only [Act.put, List.setIfInBounds_toArray, List.set_cons_zero, List.set_cons_succ]
      refine takeO 15 (some 3) (v := ?_) rfl rfl (by kernel_rfl) (by kernel_rfl) (by kernel_rfl) (fun _ _ _ h => h) (Or.inl ⟨by rfl, ?_⟩) (by assumption) ?_
      rotate_left 1
      · intro w hSw; (try dsimp only at hSw); go_simp; all_goals with_reducible rfl
      try simp only [Act.put, List.setIfInBounds_toArray, List.set_cons_zero, List.set_cons_succ]
      refine wpAnyH_done (by kernel_rfl) ?_ _
      go_wp2_with fail
      go_roundw
      case rel => exact ⟨i + 1, ao6, c6, by omega, by go_num, rfl, HR6.out, HX6.out, HB6.out⟩
      case measure => simp [intOf]; omega
    · obtain rfl : i = l.length := by omega
      have t7 : wr.cell? ⟨w.heap.size, 7, none⟩ = some (.bool en) := HX4.out.cell 7
      have HC := Lib.hid (rflag15_any ao c' (ln l.length) en wr HR4.out (by have := N4.out; omega))
      rw [E4.out] at HC
      go_wp2_with fail
      refine HC.out.mono ?_
      clear HC
      rintro e w5 ⟨ao5, c5, rfl, hr, hb⟩
      have HR5 := Lib.hid hr
      have HX5 := Lib.hid (HX4.out.below hb HX4.out.lt)
      have HB5 := Lib.hid (HB4.out.trans (hb.mono HB4.out.size))
      clear hr hb
      clear t6 t7
      go_wp2_with fail
      go_ret
      exact ⟨ao5, c5, rfl, HR5.out, HB5.out⟩
end Go.Proofs.Ytjhkdbcfkaaffaa
/- The document's body, Seal, Encode. -/
namespace Go.Proofs.Ytjhkdbcfkaaffaa
open Go.RowKit
set_option linter.unusedVariables false

set_option maxRecDepth 100000 in
set_option maxHeartbeats 8000000 in
theorem rbody_hello (p : P5) (w : World) (hf : p.fit w) (hm : MV.may (.hello p.hw p.hl) = true) : Calls Try.prog 41 #[.agg #[.int .i64 1, .int .i64 p.hw, .int .i64 p.hl, .int .i64 p.gw, .int .i64 p.gl, .int .i64 p.ge, .int .i64 p.ai, .int .i64 p.aq, .int .i64 p.ah, .int .i64 p.an, .int .i64 p.ae, .string p.ax, .int .i64 p.ak, .int .i64 p.ab, .bool p.af, .int .i64 p.ad, .string p.aw, .int .i64 p.rs, .int .i64 p.rq, .int .i64 p.rh, .int .i64 p.rn, .int .i64 p.rw, .int .i64 p.re, .slice p.ra p.rl.length p.rc, .bool p.rb, .int .i64 p.ss, .int .i64 p.sq]] w fun e w' => RdOut w (restL (.hello p.hw p.hl)) e w' := by
  have HIN := Lib.hid (hello_in hm)
  have HE := Lib.hid (show numsL [] [p.hw, p.hl] = restL (.hello p.hw p.hl) from by unfold restL; simp only [numsL_cons, numsL_nil, List.nil_append])
  clear hm hf
  have HB := Lib.hid ((Below.refl w.heap.size w).alloc (Nat.le_refl _) (.cells #[.int .i64 1, .int .i64 p.hw, .int .i64 p.hl, .int .i64 p.gw, .int .i64 p.gl, .int .i64 p.ge, .int .i64 p.ai, .int .i64 p.aq, .int .i64 p.ah, .int .i64 p.an, .int .i64 p.ae, .string p.ax, .int .i64 p.ak, .int .i64 p.ab, .bool p.af, .int .i64 p.ad, .string p.aw, .int .i64 p.rs, .int .i64 p.rq, .int .i64 p.rh, .int .i64 p.rn, .int .i64 p.rw, .int .i64 p.re, .slice p.ra p.rl.length p.rc, .bool p.rb, .int .i64 p.ss, .int .i64 p.sq] 46))
  have HX := Lib.hid (show Blk (w.alloc (.cells #[.int .i64 1, .int .i64 p.hw, .int .i64 p.hl, .int .i64 p.gw, .int .i64 p.gl, .int .i64 p.ge, .int .i64 p.ai, .int .i64 p.aq, .int .i64 p.ah, .int .i64 p.an, .int .i64 p.ae, .string p.ax, .int .i64 p.ak, .int .i64 p.ab, .bool p.af, .int .i64 p.ad, .string p.aw, .int .i64 p.rs, .int .i64 p.rq, .int .i64 p.rh, .int .i64 p.rn, .int .i64 p.rw, .int .i64 p.re, .slice p.ra p.rl.length p.rc, .bool p.rb, .int .i64 p.ss, .int .i64 p.sq] 46)) w.heap.size 46 [.int .i64 1, .int .i64 p.hw, .int .i64 p.hl, .int .i64 p.gw, .int .i64 p.gl, .int .i64 p.ge, .int .i64 p.ai, .int .i64 p.aq, .int .i64 p.ah, .int .i64 p.an, .int .i64 p.ae, .string p.ax, .int .i64 p.ak, .int .i64 p.ab, .bool p.af, .int .i64 p.ad, .string p.aw, .int .i64 p.rs, .int .i64 p.rq, .int .i64 p.rh, .int .i64 p.rn, .int .i64 p.rw, .int .i64 p.re, .slice p.ra p.rl.length p.rc, .bool p.rb, .int .i64 p.ss, .int .i64 p.sq] from heap_alloc_new w _)
  obtain ⟨W0, hW0⟩ : ∃ W0, w.alloc (.cells #[.int .i64 1, .int .i64 p.hw, .int .i64 p.hl, .int .i64 p.gw, .int .i64 p.gl, .int .i64 p.ge, .int .i64 p.ai, .int .i64 p.aq, .int .i64 p.ah, .int .i64 p.an, .int .i64 p.ae, .string p.ax, .int .i64 p.ak, .int .i64 p.ab, .bool p.af, .int .i64 p.ad, .string p.aw, .int .i64 p.rs, .int .i64 p.rq, .int .i64 p.rh, .int .i64 p.rn, .int .i64 p.rw, .int .i64 p.re, .slice p.ra p.rl.length p.rc, .bool p.rb, .int .i64 p.ss, .int .i64 p.sq] 46) = W0 := ⟨_, rfl⟩
  rw [hW0] at HB HX
  have HB1 := Lib.hid (HB.out.alloc HB.out.size (.cells (ints [p.hw, p.hl]).toArray 3))
  have HC := Lib.hid (fours_any none 0 [] (some ⟨W0.heap.size, 0, none⟩) 2 2 [p.hw, p.hl] (W0.alloc (.cells (ints [p.hw, p.hl]).toArray 3)) (rd_nil _ _ rfl) (by decide) (new_ints W0 [p.hw, p.hl] (by simp [maxLen])) (by simp) HIN.out)
  rw [HE.out] at HC
  generalize restL (.hello p.hw p.hl) = rl at *
  have t0 : W0.cell? ⟨w.heap.size, 0, none⟩ = some (.int .i64 1) := HX.out.cell 0
  have t1 : W0.cell? ⟨w.heap.size, 1, none⟩ = some (.int .i64 p.hw) := HX.out.cell 1
  have t2 : W0.cell? ⟨w.heap.size, 2, none⟩ = some (.int .i64 p.hl) := HX.out.cell 2
  have t3 : W0.cell? ⟨w.heap.size, 3, none⟩ = some (.int .i64 p.gw) := HX.out.cell 3
  have t4 : W0.cell? ⟨w.heap.size, 4, none⟩ = some (.int .i64 p.gl) := HX.out.cell 4
  have t5 : W0.cell? ⟨w.heap.size, 5, none⟩ = some (.int .i64 p.ge) := HX.out.cell 5
  have t6 : W0.cell? ⟨w.heap.size, 6, none⟩ = some (.int .i64 p.ai) := HX.out.cell 6
  have t7 : W0.cell? ⟨w.heap.size, 7, none⟩ = some (.int .i64 p.aq) := HX.out.cell 7
  have t8 : W0.cell? ⟨w.heap.size, 8, none⟩ = some (.int .i64 p.ah) := HX.out.cell 8
  have t9 : W0.cell? ⟨w.heap.size, 9, none⟩ = some (.int .i64 p.an) := HX.out.cell 9
  have t10 : W0.cell? ⟨w.heap.size, 10, none⟩ = some (.int .i64 p.ae) := HX.out.cell 10
  have t11 : W0.cell? ⟨w.heap.size, 11, none⟩ = some (.string p.ax) := HX.out.cell 11
  have t12 : W0.cell? ⟨w.heap.size, 12, none⟩ = some (.int .i64 p.ak) := HX.out.cell 12
  have t13 : W0.cell? ⟨w.heap.size, 13, none⟩ = some (.int .i64 p.ab) := HX.out.cell 13
  have t14 : W0.cell? ⟨w.heap.size, 14, none⟩ = some (.bool p.af) := HX.out.cell 14
  have t15 : W0.cell? ⟨w.heap.size, 15, none⟩ = some (.int .i64 p.ad) := HX.out.cell 15
  have t16 : W0.cell? ⟨w.heap.size, 16, none⟩ = some (.string p.aw) := HX.out.cell 16
  have t17 : W0.cell? ⟨w.heap.size, 17, none⟩ = some (.int .i64 p.rs) := HX.out.cell 17
  have t18 : W0.cell? ⟨w.heap.size, 18, none⟩ = some (.int .i64 p.rq) := HX.out.cell 18
  have t19 : W0.cell? ⟨w.heap.size, 19, none⟩ = some (.int .i64 p.rh) := HX.out.cell 19
  have t20 : W0.cell? ⟨w.heap.size, 20, none⟩ = some (.int .i64 p.rn) := HX.out.cell 20
  have t21 : W0.cell? ⟨w.heap.size, 21, none⟩ = some (.int .i64 p.rw) := HX.out.cell 21
  have t22 : W0.cell? ⟨w.heap.size, 22, none⟩ = some (.int .i64 p.re) := HX.out.cell 22
  have t23 : W0.cell? ⟨w.heap.size, 23, none⟩ = some (.slice p.ra p.rl.length p.rc) := HX.out.cell 23
  have t24 : W0.cell? ⟨w.heap.size, 24, none⟩ = some (.bool p.rb) := HX.out.cell 24
  have t25 : W0.cell? ⟨w.heap.size, 25, none⟩ = some (.int .i64 p.ss) := HX.out.cell 25
  have t26 : W0.cell? ⟨w.heap.size, 26, none⟩ = some (.int .i64 p.sq) := HX.out.cell 26
  go_enter Try.func41, Try.ntmps41
  go_wp2_with (rw [hW0])
  refine HC.out.mono ?_
  rintro e w2 ⟨ao, c, rfl, hr, hb⟩
  have HR := Lib.hid hr
  have HB2 := Lib.hid (HB1.out.trans (hb.mono HB1.out.size))
  clear hr hb hW0
  go_wp2_with fail
  go_ret
  exact ⟨ao, c, rfl, HR.out, HB2.out⟩
set_option maxRecDepth 100000 in
set_option maxHeartbeats 8000000 in
theorem rbody_grant (p : P5) (w : World) (hf : p.fit w) (hm : MV.may (.grant p.gw p.gl p.ge) = true) : Calls Try.prog 41 #[.agg #[.int .i64 2, .int .i64 p.hw, .int .i64 p.hl, .int .i64 p.gw, .int .i64 p.gl, .int .i64 p.ge, .int .i64 p.ai, .int .i64 p.aq, .int .i64 p.ah, .int .i64 p.an, .int .i64 p.ae, .string p.ax, .int .i64 p.ak, .int .i64 p.ab, .bool p.af, .int .i64 p.ad, .string p.aw, .int .i64 p.rs, .int .i64 p.rq, .int .i64 p.rh, .int .i64 p.rn, .int .i64 p.rw, .int .i64 p.re, .slice p.ra p.rl.length p.rc, .bool p.rb, .int .i64 p.ss, .int .i64 p.sq]] w fun e w' => RdOut w (restL (.grant p.gw p.gl p.ge)) e w' := by
  have HIN := Lib.hid (grant_in hm)
  have HE := Lib.hid (show numsL [] [p.gw, p.gl, p.ge] = restL (.grant p.gw p.gl p.ge) from by unfold restL; simp only [numsL_cons, numsL_nil, List.nil_append, List.append_assoc])
  clear hm hf
  have HB := Lib.hid ((Below.refl w.heap.size w).alloc (Nat.le_refl _) (.cells #[.int .i64 2, .int .i64 p.hw, .int .i64 p.hl, .int .i64 p.gw, .int .i64 p.gl, .int .i64 p.ge, .int .i64 p.ai, .int .i64 p.aq, .int .i64 p.ah, .int .i64 p.an, .int .i64 p.ae, .string p.ax, .int .i64 p.ak, .int .i64 p.ab, .bool p.af, .int .i64 p.ad, .string p.aw, .int .i64 p.rs, .int .i64 p.rq, .int .i64 p.rh, .int .i64 p.rn, .int .i64 p.rw, .int .i64 p.re, .slice p.ra p.rl.length p.rc, .bool p.rb, .int .i64 p.ss, .int .i64 p.sq] 46))
  have HX := Lib.hid (show Blk (w.alloc (.cells #[.int .i64 2, .int .i64 p.hw, .int .i64 p.hl, .int .i64 p.gw, .int .i64 p.gl, .int .i64 p.ge, .int .i64 p.ai, .int .i64 p.aq, .int .i64 p.ah, .int .i64 p.an, .int .i64 p.ae, .string p.ax, .int .i64 p.ak, .int .i64 p.ab, .bool p.af, .int .i64 p.ad, .string p.aw, .int .i64 p.rs, .int .i64 p.rq, .int .i64 p.rh, .int .i64 p.rn, .int .i64 p.rw, .int .i64 p.re, .slice p.ra p.rl.length p.rc, .bool p.rb, .int .i64 p.ss, .int .i64 p.sq] 46)) w.heap.size 46 [.int .i64 2, .int .i64 p.hw, .int .i64 p.hl, .int .i64 p.gw, .int .i64 p.gl, .int .i64 p.ge, .int .i64 p.ai, .int .i64 p.aq, .int .i64 p.ah, .int .i64 p.an, .int .i64 p.ae, .string p.ax, .int .i64 p.ak, .int .i64 p.ab, .bool p.af, .int .i64 p.ad, .string p.aw, .int .i64 p.rs, .int .i64 p.rq, .int .i64 p.rh, .int .i64 p.rn, .int .i64 p.rw, .int .i64 p.re, .slice p.ra p.rl.length p.rc, .bool p.rb, .int .i64 p.ss, .int .i64 p.sq] from heap_alloc_new w _)
  obtain ⟨W0, hW0⟩ : ∃ W0, w.alloc (.cells #[.int .i64 2, .int .i64 p.hw, .int .i64 p.hl, .int .i64 p.gw, .int .i64 p.gl, .int .i64 p.ge, .int .i64 p.ai, .int .i64 p.aq, .int .i64 p.ah, .int .i64 p.an, .int .i64 p.ae, .string p.ax, .int .i64 p.ak, .int .i64 p.ab, .bool p.af, .int .i64 p.ad, .string p.aw, .int .i64 p.rs, .int .i64 p.rq, .int .i64 p.rh, .int .i64 p.rn, .int .i64 p.rw, .int .i64 p.re, .slice p.ra p.rl.length p.rc, .bool p.rb, .int .i64 p.ss, .int .i64 p.sq] 46) = W0 := ⟨_, rfl⟩
  rw [hW0] at HB HX
  have HB1 := Lib.hid (HB.out.alloc HB.out.size (.cells (ints [p.gw, p.gl, p.ge]).toArray 3))
  have HC := Lib.hid (fours_any none 0 [] (some ⟨W0.heap.size, 0, none⟩) 3 3 [p.gw, p.gl, p.ge] (W0.alloc (.cells (ints [p.gw, p.gl, p.ge]).toArray 3)) (rd_nil _ _ rfl) (by decide) (new_ints W0 [p.gw, p.gl, p.ge] (by simp [maxLen])) (by simp) HIN.out)
  rw [HE.out] at HC
  generalize restL (.grant p.gw p.gl p.ge) = rl at *
  have t0 : W0.cell? ⟨w.heap.size, 0, none⟩ = some (.int .i64 2) := HX.out.cell 0
  have t1 : W0.cell? ⟨w.heap.size, 1, none⟩ = some (.int .i64 p.hw) := HX.out.cell 1
  have t2 : W0.cell? ⟨w.heap.size, 2, none⟩ = some (.int .i64 p.hl) := HX.out.cell 2
  have t3 : W0.cell? ⟨w.heap.size, 3, none⟩ = some (.int .i64 p.gw) := HX.out.cell 3
  have t4 : W0.cell? ⟨w.heap.size, 4, none⟩ = some (.int .i64 p.gl) := HX.out.cell 4
  have t5 : W0.cell? ⟨w.heap.size, 5, none⟩ = some (.int .i64 p.ge) := HX.out.cell 5
  have t6 : W0.cell? ⟨w.heap.size, 6, none⟩ = some (.int .i64 p.ai) := HX.out.cell 6
  have t7 : W0.cell? ⟨w.heap.size, 7, none⟩ = some (.int .i64 p.aq) := HX.out.cell 7
  have t8 : W0.cell? ⟨w.heap.size, 8, none⟩ = some (.int .i64 p.ah) := HX.out.cell 8
  have t9 : W0.cell? ⟨w.heap.size, 9, none⟩ = some (.int .i64 p.an) := HX.out.cell 9
  have t10 : W0.cell? ⟨w.heap.size, 10, none⟩ = some (.int .i64 p.ae) := HX.out.cell 10
  have t11 : W0.cell? ⟨w.heap.size, 11, none⟩ = some (.string p.ax) := HX.out.cell 11
  have t12 : W0.cell? ⟨w.heap.size, 12, none⟩ = some (.int .i64 p.ak) := HX.out.cell 12
  have t13 : W0.cell? ⟨w.heap.size, 13, none⟩ = some (.int .i64 p.ab) := HX.out.cell 13
  have t14 : W0.cell? ⟨w.heap.size, 14, none⟩ = some (.bool p.af) := HX.out.cell 14
  have t15 : W0.cell? ⟨w.heap.size, 15, none⟩ = some (.int .i64 p.ad) := HX.out.cell 15
  have t16 : W0.cell? ⟨w.heap.size, 16, none⟩ = some (.string p.aw) := HX.out.cell 16
  have t17 : W0.cell? ⟨w.heap.size, 17, none⟩ = some (.int .i64 p.rs) := HX.out.cell 17
  have t18 : W0.cell? ⟨w.heap.size, 18, none⟩ = some (.int .i64 p.rq) := HX.out.cell 18
  have t19 : W0.cell? ⟨w.heap.size, 19, none⟩ = some (.int .i64 p.rh) := HX.out.cell 19
  have t20 : W0.cell? ⟨w.heap.size, 20, none⟩ = some (.int .i64 p.rn) := HX.out.cell 20
  have t21 : W0.cell? ⟨w.heap.size, 21, none⟩ = some (.int .i64 p.rw) := HX.out.cell 21
  have t22 : W0.cell? ⟨w.heap.size, 22, none⟩ = some (.int .i64 p.re) := HX.out.cell 22
  have t23 : W0.cell? ⟨w.heap.size, 23, none⟩ = some (.slice p.ra p.rl.length p.rc) := HX.out.cell 23
  have t24 : W0.cell? ⟨w.heap.size, 24, none⟩ = some (.bool p.rb) := HX.out.cell 24
  have t25 : W0.cell? ⟨w.heap.size, 25, none⟩ = some (.int .i64 p.ss) := HX.out.cell 25
  have t26 : W0.cell? ⟨w.heap.size, 26, none⟩ = some (.int .i64 p.sq) := HX.out.cell 26
  go_enter Try.func41, Try.ntmps41
  go_wp2_with (rw [hW0])
  refine HC.out.mono ?_
  rintro e w2 ⟨ao, c, rfl, hr, hb⟩
  have HR := Lib.hid hr
  have HB2 := Lib.hid (HB1.out.trans (hb.mono HB1.out.size))
  clear hr hb hW0
  go_wp2_with fail
  go_ret
  exact ⟨ao, c, rfl, HR.out, HB2.out⟩
set_option maxRecDepth 100000 in
set_option maxHeartbeats 8000000 in
theorem rbody_stop (p : P5) (w : World) (hf : p.fit w) (hm : MV.may (.stop p.ss p.sq) = true) : Calls Try.prog 41 #[.agg #[.int .i64 5, .int .i64 p.hw, .int .i64 p.hl, .int .i64 p.gw, .int .i64 p.gl, .int .i64 p.ge, .int .i64 p.ai, .int .i64 p.aq, .int .i64 p.ah, .int .i64 p.an, .int .i64 p.ae, .string p.ax, .int .i64 p.ak, .int .i64 p.ab, .bool p.af, .int .i64 p.ad, .string p.aw, .int .i64 p.rs, .int .i64 p.rq, .int .i64 p.rh, .int .i64 p.rn, .int .i64 p.rw, .int .i64 p.re, .slice p.ra p.rl.length p.rc, .bool p.rb, .int .i64 p.ss, .int .i64 p.sq]] w fun e w' => RdOut w (restL (.stop p.ss p.sq)) e w' := by
  have HIN := Lib.hid (stop_in hm)
  have HE := Lib.hid (show numsL [] [p.ss, p.sq] = restL (.stop p.ss p.sq) from by unfold restL; simp only [numsL_cons, numsL_nil, List.nil_append])
  clear hm hf
  have HB := Lib.hid ((Below.refl w.heap.size w).alloc (Nat.le_refl _) (.cells #[.int .i64 5, .int .i64 p.hw, .int .i64 p.hl, .int .i64 p.gw, .int .i64 p.gl, .int .i64 p.ge, .int .i64 p.ai, .int .i64 p.aq, .int .i64 p.ah, .int .i64 p.an, .int .i64 p.ae, .string p.ax, .int .i64 p.ak, .int .i64 p.ab, .bool p.af, .int .i64 p.ad, .string p.aw, .int .i64 p.rs, .int .i64 p.rq, .int .i64 p.rh, .int .i64 p.rn, .int .i64 p.rw, .int .i64 p.re, .slice p.ra p.rl.length p.rc, .bool p.rb, .int .i64 p.ss, .int .i64 p.sq] 46))
  have HX := Lib.hid (show Blk (w.alloc (.cells #[.int .i64 5, .int .i64 p.hw, .int .i64 p.hl, .int .i64 p.gw, .int .i64 p.gl, .int .i64 p.ge, .int .i64 p.ai, .int .i64 p.aq, .int .i64 p.ah, .int .i64 p.an, .int .i64 p.ae, .string p.ax, .int .i64 p.ak, .int .i64 p.ab, .bool p.af, .int .i64 p.ad, .string p.aw, .int .i64 p.rs, .int .i64 p.rq, .int .i64 p.rh, .int .i64 p.rn, .int .i64 p.rw, .int .i64 p.re, .slice p.ra p.rl.length p.rc, .bool p.rb, .int .i64 p.ss, .int .i64 p.sq] 46)) w.heap.size 46 [.int .i64 5, .int .i64 p.hw, .int .i64 p.hl, .int .i64 p.gw, .int .i64 p.gl, .int .i64 p.ge, .int .i64 p.ai, .int .i64 p.aq, .int .i64 p.ah, .int .i64 p.an, .int .i64 p.ae, .string p.ax, .int .i64 p.ak, .int .i64 p.ab, .bool p.af, .int .i64 p.ad, .string p.aw, .int .i64 p.rs, .int .i64 p.rq, .int .i64 p.rh, .int .i64 p.rn, .int .i64 p.rw, .int .i64 p.re, .slice p.ra p.rl.length p.rc, .bool p.rb, .int .i64 p.ss, .int .i64 p.sq] from heap_alloc_new w _)
  obtain ⟨W0, hW0⟩ : ∃ W0, w.alloc (.cells #[.int .i64 5, .int .i64 p.hw, .int .i64 p.hl, .int .i64 p.gw, .int .i64 p.gl, .int .i64 p.ge, .int .i64 p.ai, .int .i64 p.aq, .int .i64 p.ah, .int .i64 p.an, .int .i64 p.ae, .string p.ax, .int .i64 p.ak, .int .i64 p.ab, .bool p.af, .int .i64 p.ad, .string p.aw, .int .i64 p.rs, .int .i64 p.rq, .int .i64 p.rh, .int .i64 p.rn, .int .i64 p.rw, .int .i64 p.re, .slice p.ra p.rl.length p.rc, .bool p.rb, .int .i64 p.ss, .int .i64 p.sq] 46) = W0 := ⟨_, rfl⟩
  rw [hW0] at HB HX
  have HB1 := Lib.hid (HB.out.alloc HB.out.size (.cells (ints [p.ss, p.sq]).toArray 3))
  have HC := Lib.hid (fours_any none 0 [] (some ⟨W0.heap.size, 0, none⟩) 2 2 [p.ss, p.sq] (W0.alloc (.cells (ints [p.ss, p.sq]).toArray 3)) (rd_nil _ _ rfl) (by decide) (new_ints W0 [p.ss, p.sq] (by simp [maxLen])) (by simp) HIN.out)
  rw [HE.out] at HC
  generalize restL (.stop p.ss p.sq) = rl at *
  have t0 : W0.cell? ⟨w.heap.size, 0, none⟩ = some (.int .i64 5) := HX.out.cell 0
  have t1 : W0.cell? ⟨w.heap.size, 1, none⟩ = some (.int .i64 p.hw) := HX.out.cell 1
  have t2 : W0.cell? ⟨w.heap.size, 2, none⟩ = some (.int .i64 p.hl) := HX.out.cell 2
  have t3 : W0.cell? ⟨w.heap.size, 3, none⟩ = some (.int .i64 p.gw) := HX.out.cell 3
  have t4 : W0.cell? ⟨w.heap.size, 4, none⟩ = some (.int .i64 p.gl) := HX.out.cell 4
  have t5 : W0.cell? ⟨w.heap.size, 5, none⟩ = some (.int .i64 p.ge) := HX.out.cell 5
  have t6 : W0.cell? ⟨w.heap.size, 6, none⟩ = some (.int .i64 p.ai) := HX.out.cell 6
  have t7 : W0.cell? ⟨w.heap.size, 7, none⟩ = some (.int .i64 p.aq) := HX.out.cell 7
  have t8 : W0.cell? ⟨w.heap.size, 8, none⟩ = some (.int .i64 p.ah) := HX.out.cell 8
  have t9 : W0.cell? ⟨w.heap.size, 9, none⟩ = some (.int .i64 p.an) := HX.out.cell 9
  have t10 : W0.cell? ⟨w.heap.size, 10, none⟩ = some (.int .i64 p.ae) := HX.out.cell 10
  have t11 : W0.cell? ⟨w.heap.size, 11, none⟩ = some (.string p.ax) := HX.out.cell 11
  have t12 : W0.cell? ⟨w.heap.size, 12, none⟩ = some (.int .i64 p.ak) := HX.out.cell 12
  have t13 : W0.cell? ⟨w.heap.size, 13, none⟩ = some (.int .i64 p.ab) := HX.out.cell 13
  have t14 : W0.cell? ⟨w.heap.size, 14, none⟩ = some (.bool p.af) := HX.out.cell 14
  have t15 : W0.cell? ⟨w.heap.size, 15, none⟩ = some (.int .i64 p.ad) := HX.out.cell 15
  have t16 : W0.cell? ⟨w.heap.size, 16, none⟩ = some (.string p.aw) := HX.out.cell 16
  have t17 : W0.cell? ⟨w.heap.size, 17, none⟩ = some (.int .i64 p.rs) := HX.out.cell 17
  have t18 : W0.cell? ⟨w.heap.size, 18, none⟩ = some (.int .i64 p.rq) := HX.out.cell 18
  have t19 : W0.cell? ⟨w.heap.size, 19, none⟩ = some (.int .i64 p.rh) := HX.out.cell 19
  have t20 : W0.cell? ⟨w.heap.size, 20, none⟩ = some (.int .i64 p.rn) := HX.out.cell 20
  have t21 : W0.cell? ⟨w.heap.size, 21, none⟩ = some (.int .i64 p.rw) := HX.out.cell 21
  have t22 : W0.cell? ⟨w.heap.size, 22, none⟩ = some (.int .i64 p.re) := HX.out.cell 22
  have t23 : W0.cell? ⟨w.heap.size, 23, none⟩ = some (.slice p.ra p.rl.length p.rc) := HX.out.cell 23
  have t24 : W0.cell? ⟨w.heap.size, 24, none⟩ = some (.bool p.rb) := HX.out.cell 24
  have t25 : W0.cell? ⟨w.heap.size, 25, none⟩ = some (.int .i64 p.ss) := HX.out.cell 25
  have t26 : W0.cell? ⟨w.heap.size, 26, none⟩ = some (.int .i64 p.sq) := HX.out.cell 26
  go_enter Try.func41, Try.ntmps41
  go_wp2_with (rw [hW0])
  refine HC.out.mono ?_
  rintro e w2 ⟨ao, c, rfl, hr, hb⟩
  have HR := Lib.hid hr
  have HB2 := Lib.hid (HB1.out.trans (hb.mono HB1.out.size))
  clear hr hb hW0
  go_wp2_with fail
  go_ret
  exact ⟨ao, c, rfl, HR.out, HB2.out⟩
set_option maxRecDepth 100000 in
set_option maxHeartbeats 8000000 in
theorem rbody_ask (p : P5) (w : World) (hf : p.fit w) (hm : MV.may (.ask p.ai p.aq p.ah p.an p.ae p.ax p.ak p.ab p.af p.ad p.aw) = true) : Calls Try.prog 41 #[.agg #[.int .i64 3, .int .i64 p.hw, .int .i64 p.hl, .int .i64 p.gw, .int .i64 p.gl, .int .i64 p.ge, .int .i64 p.ai, .int .i64 p.aq, .int .i64 p.ah, .int .i64 p.an, .int .i64 p.ae, .string p.ax, .int .i64 p.ak, .int .i64 p.ab, .bool p.af, .int .i64 p.ad, .string p.aw, .int .i64 p.rs, .int .i64 p.rq, .int .i64 p.rh, .int .i64 p.rn, .int .i64 p.rw, .int .i64 p.re, .slice p.ra p.rl.length p.rc, .bool p.rb, .int .i64 p.ss, .int .i64 p.sq]] w fun e w' => RdOut w (restL (.ask p.ai p.aq p.ah p.an p.ae p.ax p.ak p.ab p.af p.ad p.aw)) e w' := by
  have HB := Lib.hid ((Below.refl w.heap.size w).alloc (Nat.le_refl _) (.cells #[.int .i64 3, .int .i64 p.hw, .int .i64 p.hl, .int .i64 p.gw, .int .i64 p.gl, .int .i64 p.ge, .int .i64 p.ai, .int .i64 p.aq, .int .i64 p.ah, .int .i64 p.an, .int .i64 p.ae, .string p.ax, .int .i64 p.ak, .int .i64 p.ab, .bool p.af, .int .i64 p.ad, .string p.aw, .int .i64 p.rs, .int .i64 p.rq, .int .i64 p.rh, .int .i64 p.rn, .int .i64 p.rw, .int .i64 p.re, .slice p.ra p.rl.length p.rc, .bool p.rb, .int .i64 p.ss, .int .i64 p.sq] 46))
  have HX := Lib.hid (show Blk (w.alloc (.cells #[.int .i64 3, .int .i64 p.hw, .int .i64 p.hl, .int .i64 p.gw, .int .i64 p.gl, .int .i64 p.ge, .int .i64 p.ai, .int .i64 p.aq, .int .i64 p.ah, .int .i64 p.an, .int .i64 p.ae, .string p.ax, .int .i64 p.ak, .int .i64 p.ab, .bool p.af, .int .i64 p.ad, .string p.aw, .int .i64 p.rs, .int .i64 p.rq, .int .i64 p.rh, .int .i64 p.rn, .int .i64 p.rw, .int .i64 p.re, .slice p.ra p.rl.length p.rc, .bool p.rb, .int .i64 p.ss, .int .i64 p.sq] 46)) w.heap.size 46 [.int .i64 3, .int .i64 p.hw, .int .i64 p.hl, .int .i64 p.gw, .int .i64 p.gl, .int .i64 p.ge, .int .i64 p.ai, .int .i64 p.aq, .int .i64 p.ah, .int .i64 p.an, .int .i64 p.ae, .string p.ax, .int .i64 p.ak, .int .i64 p.ab, .bool p.af, .int .i64 p.ad, .string p.aw, .int .i64 p.rs, .int .i64 p.rq, .int .i64 p.rh, .int .i64 p.rn, .int .i64 p.rw, .int .i64 p.re, .slice p.ra p.rl.length p.rc, .bool p.rb, .int .i64 p.ss, .int .i64 p.sq] from heap_alloc_new w _)
  obtain ⟨W0, hW0⟩ : ∃ W0, w.alloc (.cells #[.int .i64 3, .int .i64 p.hw, .int .i64 p.hl, .int .i64 p.gw, .int .i64 p.gl, .int .i64 p.ge, .int .i64 p.ai, .int .i64 p.aq, .int .i64 p.ah, .int .i64 p.an, .int .i64 p.ae, .string p.ax, .int .i64 p.ak, .int .i64 p.ab, .bool p.af, .int .i64 p.ad, .string p.aw, .int .i64 p.rs, .int .i64 p.rq, .int .i64 p.rh, .int .i64 p.rn, .int .i64 p.rw, .int .i64 p.re, .slice p.ra p.rl.length p.rc, .bool p.rb, .int .i64 p.ss, .int .i64 p.sq] 46) = W0 := ⟨_, rfl⟩
  rw [hW0] at HB HX
  have HC := Lib.hid (asked15_any p.ai p.aq p.ah p.an p.ae p.ax p.ak p.ab p.af p.ad p.aw W0 hm hf.2.2.1 hf.2.2.2)
  clear hm hf
  generalize restL (.ask p.ai p.aq p.ah p.an p.ae p.ax p.ak p.ab p.af p.ad p.aw) = rl at *
  have t0 : W0.cell? ⟨w.heap.size, 0, none⟩ = some (.int .i64 3) := HX.out.cell 0
  have t1 : W0.cell? ⟨w.heap.size, 1, none⟩ = some (.int .i64 p.hw) := HX.out.cell 1
  have t2 : W0.cell? ⟨w.heap.size, 2, none⟩ = some (.int .i64 p.hl) := HX.out.cell 2
  have t3 : W0.cell? ⟨w.heap.size, 3, none⟩ = some (.int .i64 p.gw) := HX.out.cell 3
  have t4 : W0.cell? ⟨w.heap.size, 4, none⟩ = some (.int .i64 p.gl) := HX.out.cell 4
  have t5 : W0.cell? ⟨w.heap.size, 5, none⟩ = some (.int .i64 p.ge) := HX.out.cell 5
  have t6 : W0.cell? ⟨w.heap.size, 6, none⟩ = some (.int .i64 p.ai) := HX.out.cell 6
  have t7 : W0.cell? ⟨w.heap.size, 7, none⟩ = some (.int .i64 p.aq) := HX.out.cell 7
  have t8 : W0.cell? ⟨w.heap.size, 8, none⟩ = some (.int .i64 p.ah) := HX.out.cell 8
  have t9 : W0.cell? ⟨w.heap.size, 9, none⟩ = some (.int .i64 p.an) := HX.out.cell 9
  have t10 : W0.cell? ⟨w.heap.size, 10, none⟩ = some (.int .i64 p.ae) := HX.out.cell 10
  have t11 : W0.cell? ⟨w.heap.size, 11, none⟩ = some (.string p.ax) := HX.out.cell 11
  have t12 : W0.cell? ⟨w.heap.size, 12, none⟩ = some (.int .i64 p.ak) := HX.out.cell 12
  have t13 : W0.cell? ⟨w.heap.size, 13, none⟩ = some (.int .i64 p.ab) := HX.out.cell 13
  have t14 : W0.cell? ⟨w.heap.size, 14, none⟩ = some (.bool p.af) := HX.out.cell 14
  have t15 : W0.cell? ⟨w.heap.size, 15, none⟩ = some (.int .i64 p.ad) := HX.out.cell 15
  have t16 : W0.cell? ⟨w.heap.size, 16, none⟩ = some (.string p.aw) := HX.out.cell 16
  have t17 : W0.cell? ⟨w.heap.size, 17, none⟩ = some (.int .i64 p.rs) := HX.out.cell 17
  have t18 : W0.cell? ⟨w.heap.size, 18, none⟩ = some (.int .i64 p.rq) := HX.out.cell 18
  have t19 : W0.cell? ⟨w.heap.size, 19, none⟩ = some (.int .i64 p.rh) := HX.out.cell 19
  have t20 : W0.cell? ⟨w.heap.size, 20, none⟩ = some (.int .i64 p.rn) := HX.out.cell 20
  have t21 : W0.cell? ⟨w.heap.size, 21, none⟩ = some (.int .i64 p.rw) := HX.out.cell 21
  have t22 : W0.cell? ⟨w.heap.size, 22, none⟩ = some (.int .i64 p.re) := HX.out.cell 22
  have t23 : W0.cell? ⟨w.heap.size, 23, none⟩ = some (.slice p.ra p.rl.length p.rc) := HX.out.cell 23
  have t24 : W0.cell? ⟨w.heap.size, 24, none⟩ = some (.bool p.rb) := HX.out.cell 24
  have t25 : W0.cell? ⟨w.heap.size, 25, none⟩ = some (.int .i64 p.ss) := HX.out.cell 25
  have t26 : W0.cell? ⟨w.heap.size, 26, none⟩ = some (.int .i64 p.sq) := HX.out.cell 26
  go_enter Try.func41, Try.ntmps41
  go_wp2_with (rw [hW0])
  refine HC.out.mono ?_
  rintro e w2 ⟨ao, c, rfl, hr, hb⟩
  have HR := Lib.hid hr
  have HB2 := Lib.hid (HB.out.trans (hb.mono HB.out.size))
  clear hr hb hW0
  go_wp2_with fail
  go_ret
  exact ⟨ao, c, rfl, HR.out, HB2.out⟩
set_option maxRecDepth 100000 in
set_option maxHeartbeats 8000000 in
theorem rbody_reply (p : P5) (w : World) (hf : p.fit w) (hm : MV.may (.reply p.rs p.rq p.rh p.rn p.rw p.re p.rl p.rb) = true) : Calls Try.prog 41 #[.agg #[.int .i64 4, .int .i64 p.hw, .int .i64 p.hl, .int .i64 p.gw, .int .i64 p.gl, .int .i64 p.ge, .int .i64 p.ai, .int .i64 p.aq, .int .i64 p.ah, .int .i64 p.an, .int .i64 p.ae, .string p.ax, .int .i64 p.ak, .int .i64 p.ab, .bool p.af, .int .i64 p.ad, .string p.aw, .int .i64 p.rs, .int .i64 p.rq, .int .i64 p.rh, .int .i64 p.rn, .int .i64 p.rw, .int .i64 p.re, .slice p.ra p.rl.length p.rc, .bool p.rb, .int .i64 p.ss, .int .i64 p.sq]] w fun e w' => RdOut w (restL (.reply p.rs p.rq p.rh p.rn p.rw p.re p.rl p.rb)) e w' := by
  have HB := Lib.hid ((Below.refl w.heap.size w).alloc (Nat.le_refl _) (.cells #[.int .i64 4, .int .i64 p.hw, .int .i64 p.hl, .int .i64 p.gw, .int .i64 p.gl, .int .i64 p.ge, .int .i64 p.ai, .int .i64 p.aq, .int .i64 p.ah, .int .i64 p.an, .int .i64 p.ae, .string p.ax, .int .i64 p.ak, .int .i64 p.ab, .bool p.af, .int .i64 p.ad, .string p.aw, .int .i64 p.rs, .int .i64 p.rq, .int .i64 p.rh, .int .i64 p.rn, .int .i64 p.rw, .int .i64 p.re, .slice p.ra p.rl.length p.rc, .bool p.rb, .int .i64 p.ss, .int .i64 p.sq] 46))
  have HX := Lib.hid (show Blk (w.alloc (.cells #[.int .i64 4, .int .i64 p.hw, .int .i64 p.hl, .int .i64 p.gw, .int .i64 p.gl, .int .i64 p.ge, .int .i64 p.ai, .int .i64 p.aq, .int .i64 p.ah, .int .i64 p.an, .int .i64 p.ae, .string p.ax, .int .i64 p.ak, .int .i64 p.ab, .bool p.af, .int .i64 p.ad, .string p.aw, .int .i64 p.rs, .int .i64 p.rq, .int .i64 p.rh, .int .i64 p.rn, .int .i64 p.rw, .int .i64 p.re, .slice p.ra p.rl.length p.rc, .bool p.rb, .int .i64 p.ss, .int .i64 p.sq] 46)) w.heap.size 46 [.int .i64 4, .int .i64 p.hw, .int .i64 p.hl, .int .i64 p.gw, .int .i64 p.gl, .int .i64 p.ge, .int .i64 p.ai, .int .i64 p.aq, .int .i64 p.ah, .int .i64 p.an, .int .i64 p.ae, .string p.ax, .int .i64 p.ak, .int .i64 p.ab, .bool p.af, .int .i64 p.ad, .string p.aw, .int .i64 p.rs, .int .i64 p.rq, .int .i64 p.rh, .int .i64 p.rn, .int .i64 p.rw, .int .i64 p.re, .slice p.ra p.rl.length p.rc, .bool p.rb, .int .i64 p.ss, .int .i64 p.sq] from heap_alloc_new w _)
  obtain ⟨W0, hW0⟩ : ∃ W0, w.alloc (.cells #[.int .i64 4, .int .i64 p.hw, .int .i64 p.hl, .int .i64 p.gw, .int .i64 p.gl, .int .i64 p.ge, .int .i64 p.ai, .int .i64 p.aq, .int .i64 p.ah, .int .i64 p.an, .int .i64 p.ae, .string p.ax, .int .i64 p.ak, .int .i64 p.ab, .bool p.af, .int .i64 p.ad, .string p.aw, .int .i64 p.rs, .int .i64 p.rq, .int .i64 p.rh, .int .i64 p.rn, .int .i64 p.rw, .int .i64 p.re, .slice p.ra p.rl.length p.rc, .bool p.rb, .int .i64 p.ss, .int .i64 p.sq] 46) = W0 := ⟨_, rfl⟩
  rw [hW0] at HB HX
  have HC := Lib.hid (replied15_any p.rs p.rq p.rh p.rn p.rw p.re p.rl p.rb p.ra p.rc W0 (hf.1.below HB.out rfl) hm hf.2.1)
  clear hm hf
  generalize restL (.reply p.rs p.rq p.rh p.rn p.rw p.re p.rl p.rb) = rl at *
  have t0 : W0.cell? ⟨w.heap.size, 0, none⟩ = some (.int .i64 4) := HX.out.cell 0
  have t1 : W0.cell? ⟨w.heap.size, 1, none⟩ = some (.int .i64 p.hw) := HX.out.cell 1
  have t2 : W0.cell? ⟨w.heap.size, 2, none⟩ = some (.int .i64 p.hl) := HX.out.cell 2
  have t3 : W0.cell? ⟨w.heap.size, 3, none⟩ = some (.int .i64 p.gw) := HX.out.cell 3
  have t4 : W0.cell? ⟨w.heap.size, 4, none⟩ = some (.int .i64 p.gl) := HX.out.cell 4
  have t5 : W0.cell? ⟨w.heap.size, 5, none⟩ = some (.int .i64 p.ge) := HX.out.cell 5
  have t6 : W0.cell? ⟨w.heap.size, 6, none⟩ = some (.int .i64 p.ai) := HX.out.cell 6
  have t7 : W0.cell? ⟨w.heap.size, 7, none⟩ = some (.int .i64 p.aq) := HX.out.cell 7
  have t8 : W0.cell? ⟨w.heap.size, 8, none⟩ = some (.int .i64 p.ah) := HX.out.cell 8
  have t9 : W0.cell? ⟨w.heap.size, 9, none⟩ = some (.int .i64 p.an) := HX.out.cell 9
  have t10 : W0.cell? ⟨w.heap.size, 10, none⟩ = some (.int .i64 p.ae) := HX.out.cell 10
  have t11 : W0.cell? ⟨w.heap.size, 11, none⟩ = some (.string p.ax) := HX.out.cell 11
  have t12 : W0.cell? ⟨w.heap.size, 12, none⟩ = some (.int .i64 p.ak) := HX.out.cell 12
  have t13 : W0.cell? ⟨w.heap.size, 13, none⟩ = some (.int .i64 p.ab) := HX.out.cell 13
  have t14 : W0.cell? ⟨w.heap.size, 14, none⟩ = some (.bool p.af) := HX.out.cell 14
  have t15 : W0.cell? ⟨w.heap.size, 15, none⟩ = some (.int .i64 p.ad) := HX.out.cell 15
  have t16 : W0.cell? ⟨w.heap.size, 16, none⟩ = some (.string p.aw) := HX.out.cell 16
  have t17 : W0.cell? ⟨w.heap.size, 17, none⟩ = some (.int .i64 p.rs) := HX.out.cell 17
  have t18 : W0.cell? ⟨w.heap.size, 18, none⟩ = some (.int .i64 p.rq) := HX.out.cell 18
  have t19 : W0.cell? ⟨w.heap.size, 19, none⟩ = some (.int .i64 p.rh) := HX.out.cell 19
  have t20 : W0.cell? ⟨w.heap.size, 20, none⟩ = some (.int .i64 p.rn) := HX.out.cell 20
  have t21 : W0.cell? ⟨w.heap.size, 21, none⟩ = some (.int .i64 p.rw) := HX.out.cell 21
  have t22 : W0.cell? ⟨w.heap.size, 22, none⟩ = some (.int .i64 p.re) := HX.out.cell 22
  have t23 : W0.cell? ⟨w.heap.size, 23, none⟩ = some (.slice p.ra p.rl.length p.rc) := HX.out.cell 23
  have t24 : W0.cell? ⟨w.heap.size, 24, none⟩ = some (.bool p.rb) := HX.out.cell 24
  have t25 : W0.cell? ⟨w.heap.size, 25, none⟩ = some (.int .i64 p.ss) := HX.out.cell 25
  have t26 : W0.cell? ⟨w.heap.size, 26, none⟩ = some (.int .i64 p.sq) := HX.out.cell 26
  go_enter Try.func41, Try.ntmps41
  go_wp2_with (rw [hW0])
  refine HC.out.mono ?_
  rintro e w2 ⟨ao, c, rfl, hr, hb⟩
  have HR := Lib.hid hr
  have HB2 := Lib.hid (HB.out.trans (hb.mono HB.out.size))
  clear hr hb hW0
  go_wp2_with fail
  go_ret
  exact ⟨ao, c, rfl, HR.out, HB2.out⟩
set_option maxRecDepth 100000 in
theorem rbody_any (p : P5) (k : Int) (w : World) (hf : p.fit w) (hm : (p.kd k).may = true) : Calls Try.prog 41 #[p.msg k] w fun e w' => RdOut w (restL (p.kd k)) e w' := by
  by_cases h1 : k = 1
  · subst h1; exact rbody_hello p w hf hm
  by_cases h2 : k = 2
  · subst h2; exact rbody_grant p w hf hm
  by_cases h3 : k = 3
  · subst h3; exact rbody_ask p w hf hm
  by_cases h4 : k = 4
  · subst h4; exact rbody_reply p w hf hm
  by_cases h5 : k = 5
  · subst h5; exact rbody_stop p w hf hm
  have e : p.kd k = .nil := by unfold P5.kd; rw [if_neg h1, if_neg h2, if_neg h3, if_neg h4, if_neg h5]
  rw [e] at hm
  simp [MV.may] at hm
set_option maxRecDepth 100000 in
theorem isz_msg : (Try.prog.info? 46).map (·.size) = some 27 := by kernel_rfl
set_option maxRecDepth 100000 in
theorem kd_kind {p : P5} {k : Int} (hm : (p.kd k).may = true) : 1 ≤ k ∧ k ≤ 5 ∧ (p.kd k).kind = k := by
  by_cases h1 : k = 1
  · subst h1; exact ⟨by decide, by decide, rfl⟩
  by_cases h2 : k = 2
  · subst h2; exact ⟨by decide, by decide, rfl⟩
  by_cases h3 : k = 3
  · subst h3; exact ⟨by decide, by decide, rfl⟩
  by_cases h4 : k = 4
  · subst h4; exact ⟨by decide, by decide, rfl⟩
  by_cases h5 : k = 5
  · subst h5; exact ⟨by decide, by decide, rfl⟩
  have e : p.kd k = .nil := by unfold P5.kd; rw [if_neg h1, if_neg h2, if_neg h3, if_neg h4, if_neg h5]
  rw [e] at hm
  simp [MV.may] at hm
set_option maxRecDepth 100000 in
theorem head_eq {p : P5} {k : Int} (hm : (p.kd k).may = true) : putL (putL [] ((restL (p.kd k)).length + 7 : Int) 2) k 1 = headL (p.kd k) := by
  have hk := kd_kind hm
  have hb := bodyL_eq (p.kd k) (may_isMsg hm)
  have hl : (((bodyL (p.kd k)).length : Int) + 4) = ((restL (p.kd k)).length + 7 : Int) := by rw [hb]; simp; omega
  unfold headL
  rw [hl, hk.2.2, putL1]
  unfold putL b1
  rw [clamp2, List.nil_append]
  congr 1
  have h5 : k = 1 ∨ k = 2 ∨ k = 3 ∨ k = 4 ∨ k = 5 := by omega
  rcases h5 with rfl | rfl | rfl | rfl | rfl <;> rfl
set_option maxRecDepth 100000 in
theorem rest_len {m : MV} (hm : m.may = true) (hz : m.short) : (restL m).length ≤ 20000 := by
  cases m with
  | hello => unfold restL; simp only [List.length_append, b4_len]; omega
  | grant => unfold restL; simp only [List.length_append, b4_len]; omega
  | stop => unfold restL; simp only [List.length_append, b4_len]; omega
  | ask s q h sq ep tx k b f d wd =>
    have h1 := hz.1
    have h2 := hz.2
    unfold restL itmL
    simp only [List.length_append, b4_len, b1_len, txtL_len _ (show tx.size ≤ 65535 by omega), txtL_len _ (show wd.size ≤ 65535 by omega)]
    omega
  | reply s q h sq wk ep l en =>
    have h5 := (reply_in hm).2.2
    have hq := sum_le l 2000 hz
    unfold restL
    simp only [List.length_append, b4_len, b1_len, flatI_len l (fun x hx => by have := hz x hx; omega)]
    omega
  | other => simp [MV.may] at hm
  | nil => simp [MV.may] at hm
set_option maxRecDepth 100000 in
set_option maxHeartbeats 4000000 in
theorem seal_any (a : Option Addr) (c : Nat) (l : List Nat) (w : World) (hr : Rd w a l.length c (u8s l)) (hn : l.length ≤ 1000000) (hb : ∀ x ∈ l, x < 256) :
    Calls Try.prog 43 #[.slice a l.length c] w fun e w' => OwnR w w' (u8s (putL l (addN 0 l : Nat) 4)) e := by
  have HO := Lib.hid (refof_any a l.length c l w hb hr)
  have hs := addN_lt 0 l hb
  have HP := Lib.hid (refput_any a l.length c l (addN 0 l : Nat) 4 w hr (by omega) (by omega) (by omega))
  generalize putL l (addN 0 l : Nat) 4 = ml at *
  generalize addN 0 l = sm at *
  have kv : IntKind.i64.wrap (sm : Int) = sm := IntWalk.i64_in _ (by omega)
  clear hr hb
  go_enter Try.func43, Try.ntmps43
  go_wp2_with fail
  refine HO.out.mono ?_
  rintro e w' ⟨rfl, rfl⟩
  go_wp2_with fail
  refine HP.out.mono ?_
  rintro e w2 ⟨ao, c2, rfl, h1, h2⟩
  have H1 := Lib.hid h1
  have H2 := Lib.hid h2
  clear h1 h2
  go_wp2_with fail
  go_ret
  exact ⟨ao, c2, rfl, H1.out, H2.out⟩
set_option maxRecDepth 100000 in
set_option maxHeartbeats 8000000 in
theorem rencode_no (p : P5) (k : Int) (w : World) (hf : p.fit w) (hm : (p.kd k).may = false) : Calls Try.prog 15 #[p.msg k] w fun e w' => e = .returned (.tuple #[.slice none 0 0, .int .i64 2]) ∧ Below w.heap.size w w' := by
  have HM := Lib.hid (fun W (hb : Below w.heap.size w W) => rmay_any p k W (hf.below hb))
  rw [hm] at HM
  clear hm hf
  unfold P5.msg at *
  have HB := Lib.hid ((Below.refl w.heap.size w).alloc (Nat.le_refl _) (.cells #[.int .i64 k, .int .i64 p.hw, .int .i64 p.hl, .int .i64 p.gw, .int .i64 p.gl, .int .i64 p.ge, .int .i64 p.ai, .int .i64 p.aq, .int .i64 p.ah, .int .i64 p.an, .int .i64 p.ae, .string p.ax, .int .i64 p.ak, .int .i64 p.ab, .bool p.af, .int .i64 p.ad, .string p.aw, .int .i64 p.rs, .int .i64 p.rq, .int .i64 p.rh, .int .i64 p.rn, .int .i64 p.rw, .int .i64 p.re, .slice p.ra p.rl.length p.rc, .bool p.rb, .int .i64 p.ss, .int .i64 p.sq] 46))
  have HX := Lib.hid (show Blk (w.alloc (.cells #[.int .i64 k, .int .i64 p.hw, .int .i64 p.hl, .int .i64 p.gw, .int .i64 p.gl, .int .i64 p.ge, .int .i64 p.ai, .int .i64 p.aq, .int .i64 p.ah, .int .i64 p.an, .int .i64 p.ae, .string p.ax, .int .i64 p.ak, .int .i64 p.ab, .bool p.af, .int .i64 p.ad, .string p.aw, .int .i64 p.rs, .int .i64 p.rq, .int .i64 p.rh, .int .i64 p.rn, .int .i64 p.rw, .int .i64 p.re, .slice p.ra p.rl.length p.rc, .bool p.rb, .int .i64 p.ss, .int .i64 p.sq] 46)) w.heap.size 46 [.int .i64 k, .int .i64 p.hw, .int .i64 p.hl, .int .i64 p.gw, .int .i64 p.gl, .int .i64 p.ge, .int .i64 p.ai, .int .i64 p.aq, .int .i64 p.ah, .int .i64 p.an, .int .i64 p.ae, .string p.ax, .int .i64 p.ak, .int .i64 p.ab, .bool p.af, .int .i64 p.ad, .string p.aw, .int .i64 p.rs, .int .i64 p.rq, .int .i64 p.rh, .int .i64 p.rn, .int .i64 p.rw, .int .i64 p.re, .slice p.ra p.rl.length p.rc, .bool p.rb, .int .i64 p.ss, .int .i64 p.sq] from heap_alloc_new w _)
  obtain ⟨W0, hW0⟩ : ∃ W0, w.alloc (.cells #[.int .i64 k, .int .i64 p.hw, .int .i64 p.hl, .int .i64 p.gw, .int .i64 p.gl, .int .i64 p.ge, .int .i64 p.ai, .int .i64 p.aq, .int .i64 p.ah, .int .i64 p.an, .int .i64 p.ae, .string p.ax, .int .i64 p.ak, .int .i64 p.ab, .bool p.af, .int .i64 p.ad, .string p.aw, .int .i64 p.rs, .int .i64 p.rq, .int .i64 p.rh, .int .i64 p.rn, .int .i64 p.rw, .int .i64 p.re, .slice p.ra p.rl.length p.rc, .bool p.rb, .int .i64 p.ss, .int .i64 p.sq] 46) = W0 := ⟨_, rfl⟩
  rw [hW0] at HB HX
  go_enter Try.func15, Try.ntmps15
  go_wp2_with (first | (refine wpList_load_row rfl 46 _ rfl w.heap.size rfl _ #[.int .i64 k, .int .i64 p.hw, .int .i64 p.hl, .int .i64 p.gw, .int .i64 p.gl, .int .i64 p.ge, .int .i64 p.ai, .int .i64 p.aq, .int .i64 p.ah, .int .i64 p.an, .int .i64 p.ae, .string p.ax, .int .i64 p.ak, .int .i64 p.ab, .bool p.af, .int .i64 p.ad, .string p.aw, .int .i64 p.rs, .int .i64 p.rq, .int .i64 p.rh, .int .i64 p.rn, .int .i64 p.rw, .int .i64 p.re, .slice p.ra p.rl.length p.rc, .bool p.rb, .int .i64 p.ss, .int .i64 p.sq] (0, 0) _ HX.out Try.underlying46 rfl isz_msg ?_) | rw [hW0])
  refine (HM.out _ HB.out).mono ?_
  rintro e w1 ⟨rfl, hb⟩
  have HB2 := Lib.hid (HB.out.trans (hb.mono HB.out.size))
  clear hb hW0
  go_wp2_with fail
  go_ret2
  exact ⟨rfl, HB2.out⟩
set_option maxRecDepth 100000 in
set_option maxHeartbeats 8000000 in
theorem rencode_yes (p : P5) (k : Int) (w : World) (hf : p.fit w) (hm : (p.kd k).may = true) : Calls Try.prog 15 #[p.msg k] w fun e w' => EncE w (encL (p.kd k)) e w' := by
  obtain ⟨i0, hi, hz0, hz1, hz2⟩ := info_parts info5
  have HI := Lib.hid hi
  have HZ0 := Lib.hid hz0
  have HZ1 := Lib.hid hz1
  have HZ2 : RowKit.Hid (i0.bytes = 1) := hz2
  clear hi hz0 hz1 hz2
  have HM := Lib.hid (fun W (hb : Below w.heap.size w W) => rmay_any p k W (hf.below hb))
  have HBO := Lib.hid (fun W (hb : Below w.heap.size w W) => rbody_any p k W (hf.below hb) hm)
  have hk := kd_kind hm
  have hrl := rest_len hm (hf.short k)
  have HHD := Lib.hid (head_eq hm)
  have HCO := Lib.hid (show coreL (p.kd k) = headL (p.kd k) ++ restL (p.kd k) from rfl)
  have HFL := Lib.hid (show encL (p.kd k) = putL (coreL (p.kd k)) (addN 0 (coreL (p.kd k)) : Nat) 4 from by rw [encL_eq _ (may_isMsg hm), putL4])
  have HLT := Lib.hid (show ∀ x ∈ coreL (p.kd k), x < 256 from fun x hx => coreL_lt (p.kd k) (may_isMsg hm) x (by rw [encL_eq _ (may_isMsg hm)]; exact List.mem_append_left _ hx))
  have hhl := headL_len (p.kd k)
  rw [hm] at HM
  clear hm hf
  unfold P5.msg at *
  obtain ⟨fl, hfl⟩ : ∃ fl, encL (p.kd k) = fl := ⟨_, rfl⟩
  rw [hfl] at HFL ⊢
  clear hfl
  generalize coreL (p.kd k) = cl at *
  generalize restL (p.kd k) = rl at *
  generalize headL (p.kd k) = hd at *
  generalize p.kd k = mm at *
  have HB := Lib.hid ((Below.refl w.heap.size w).alloc (Nat.le_refl _) (.cells #[.int .i64 k, .int .i64 p.hw, .int .i64 p.hl, .int .i64 p.gw, .int .i64 p.gl, .int .i64 p.ge, .int .i64 p.ai, .int .i64 p.aq, .int .i64 p.ah, .int .i64 p.an, .int .i64 p.ae, .string p.ax, .int .i64 p.ak, .int .i64 p.ab, .bool p.af, .int .i64 p.ad, .string p.aw, .int .i64 p.rs, .int .i64 p.rq, .int .i64 p.rh, .int .i64 p.rn, .int .i64 p.rw, .int .i64 p.re, .slice p.ra p.rl.length p.rc, .bool p.rb, .int .i64 p.ss, .int .i64 p.sq] 46))
  have HX := Lib.hid (show Blk (w.alloc (.cells #[.int .i64 k, .int .i64 p.hw, .int .i64 p.hl, .int .i64 p.gw, .int .i64 p.gl, .int .i64 p.ge, .int .i64 p.ai, .int .i64 p.aq, .int .i64 p.ah, .int .i64 p.an, .int .i64 p.ae, .string p.ax, .int .i64 p.ak, .int .i64 p.ab, .bool p.af, .int .i64 p.ad, .string p.aw, .int .i64 p.rs, .int .i64 p.rq, .int .i64 p.rh, .int .i64 p.rn, .int .i64 p.rw, .int .i64 p.re, .slice p.ra p.rl.length p.rc, .bool p.rb, .int .i64 p.ss, .int .i64 p.sq] 46)) w.heap.size 46 [.int .i64 k, .int .i64 p.hw, .int .i64 p.hl, .int .i64 p.gw, .int .i64 p.gl, .int .i64 p.ge, .int .i64 p.ai, .int .i64 p.aq, .int .i64 p.ah, .int .i64 p.an, .int .i64 p.ae, .string p.ax, .int .i64 p.ak, .int .i64 p.ab, .bool p.af, .int .i64 p.ad, .string p.aw, .int .i64 p.rs, .int .i64 p.rq, .int .i64 p.rh, .int .i64 p.rn, .int .i64 p.rw, .int .i64 p.re, .slice p.ra p.rl.length p.rc, .bool p.rb, .int .i64 p.ss, .int .i64 p.sq] from heap_alloc_new w _)
  obtain ⟨W0, hW0⟩ : ∃ W0, w.alloc (.cells #[.int .i64 k, .int .i64 p.hw, .int .i64 p.hl, .int .i64 p.gw, .int .i64 p.gl, .int .i64 p.ge, .int .i64 p.ai, .int .i64 p.aq, .int .i64 p.ah, .int .i64 p.an, .int .i64 p.ae, .string p.ax, .int .i64 p.ak, .int .i64 p.ab, .bool p.af, .int .i64 p.ad, .string p.aw, .int .i64 p.rs, .int .i64 p.rq, .int .i64 p.rh, .int .i64 p.rn, .int .i64 p.rw, .int .i64 p.re, .slice p.ra p.rl.length p.rc, .bool p.rb, .int .i64 p.ss, .int .i64 p.sq] 46) = W0 := ⟨_, rfl⟩
  rw [hW0] at HB HX
  unfold EncE
  go_enter Try.func15, Try.ntmps15
  go_wp2_with (first | (refine wpList_load_row rfl 46 _ rfl w.heap.size rfl _ #[.int .i64 k, .int .i64 p.hw, .int .i64 p.hl, .int .i64 p.gw, .int .i64 p.gl, .int .i64 p.ge, .int .i64 p.ai, .int .i64 p.aq, .int .i64 p.ah, .int .i64 p.an, .int .i64 p.ae, .string p.ax, .int .i64 p.ak, .int .i64 p.ab, .bool p.af, .int .i64 p.ad, .string p.aw, .int .i64 p.rs, .int .i64 p.rq, .int .i64 p.rh, .int .i64 p.rn, .int .i64 p.rw, .int .i64 p.re, .slice p.ra p.rl.length p.rc, .bool p.rb, .int .i64 p.ss, .int .i64 p.sq] (0, 0) _ HX.out Try.underlying46 rfl isz_msg ?_) | rw [hW0])
  clear hW0
  refine (HM.out _ HB.out).mono ?_
  clear HM
  rintro e w1 ⟨rfl, hb⟩
  have HX1 := Lib.hid (HX.out.below hb HX.out.lt)
  have HB1 := Lib.hid (HB.out.trans (hb.mono HB.out.size))
  clear hb HX HB
  go_wp2_with (refine wpList_load_row rfl 46 _ rfl w.heap.size rfl _ #[.int .i64 k, .int .i64 p.hw, .int .i64 p.hl, .int .i64 p.gw, .int .i64 p.gl, .int .i64 p.ge, .int .i64 p.ai, .int .i64 p.aq, .int .i64 p.ah, .int .i64 p.an, .int .i64 p.ae, .string p.ax, .int .i64 p.ak, .int .i64 p.ab, .bool p.af, .int .i64 p.ad, .string p.aw, .int .i64 p.rs, .int .i64 p.rq, .int .i64 p.rh, .int .i64 p.rn, .int .i64 p.rw, .int .i64 p.re, .slice p.ra p.rl.length p.rc, .bool p.rb, .int .i64 p.ss, .int .i64 p.sq] (0, 0) _ HX1.out Try.underlying46 rfl isz_msg ?_)
  refine (HBO.out _ HB1.out).mono ?_
  clear HBO
  rintro e w2 ⟨a2, c2, rfl, hr, hb⟩
  have HR2 := Lib.hid hr
  have HX2 := Lib.hid (HX1.out.below hb HX1.out.lt)
  have HB2 := Lib.hid (HB1.out.trans (hb.mono HB1.out.size))
  clear hr hb HX1 HB1
  have t0 : w2.cell? ⟨w.heap.size, 0, none⟩ = some (.int .i64 k) := HX2.out.cell 0
  have kw : IntKind.i64.wrap ((rl.length : Int) + 7) = (rl.length : Int) + 7 := IntWalk.i64_in _ (by omega)
  go_wp2_with fail
  clear t0
  have HX2d := Lib.hid (show Blk w2.drew w.heap.size 46 [.int .i64 k, .int .i64 p.hw, .int .i64 p.hl, .int .i64 p.gw, .int .i64 p.gl, .int .i64 p.ge, .int .i64 p.ai, .int .i64 p.aq, .int .i64 p.ah, .int .i64 p.an, .int .i64 p.ae, .string p.ax, .int .i64 p.ak, .int .i64 p.ab, .bool p.af, .int .i64 p.ad, .string p.aw, .int .i64 p.rs, .int .i64 p.rq, .int .i64 p.rh, .int .i64 p.rn, .int .i64 p.rw, .int .i64 p.re, .slice p.ra p.rl.length p.rc, .bool p.rb, .int .i64 p.ss, .int .i64 p.sq] from HX2.out)
  have HB2d := Lib.hid HB2.out.drew
  have HR2d := Lib.hid (show Rd w2.drew a2 rl.length c2 (u8s rl) from HR2.out)
  obtain ⟨h2, e2⟩ : ∃ m, putL [] ((rl.length : Int) + 7) 2 = m := ⟨_, rfl⟩
  have hl2 : h2.length = 2 := by rw [← e2, putL_len2]; rfl
  rw [e2] at HHD
  have E2 := Lib.hid e2
  have HL2 := Lib.hid hl2
  clear e2 hl2 HX2 HB2 HR2
  refine wp_region_held_drew (S := (fun w' => w'.cell? ⟨w.heap.size, 0, none⟩ = some (.int .i64 k))) (by kernel_rfl) (by first | exact HX2d.out.cell 0 | exact HX3.out.cell 0 | exact HX4.out.cell 0) (fun hHeld => ?_)
  refine takeO 0 (some 11) (v := ?_) rfl rfl (by kernel_rfl) (by kernel_rfl) (by kernel_rfl) (fun _ _ _ h => h) (Or.inl ⟨by rfl, ?_⟩) (by assumption) ?_
  rotate_left 1
  · intro w hSw; (try dsimp only at hSw); go_simp; all_goals with_reducible rfl
  try simp only [Act.put, List.setIfInBounds_toArray, List.set_cons_zero, List.set_cons_succ]
  refine takeO 1 (some 12) (v := ?_) rfl rfl (by kernel_rfl) (by kernel_rfl) (by kernel_rfl) (fun _ _ _ h => h) (Or.inl ⟨by rfl, ?_⟩) (by assumption) ?_
  rotate_left 1
  · intro w hSw; (try dsimp only at hSw); go_simp; all_goals with_reducible rfl
  try simp only [Act.put, List.setIfInBounds_toArray, List.set_cons_zero, List.set_cons_succ]
  refine takeO 2 (some 13) (v := ?_) rfl rfl (by kernel_rfl) (by kernel_rfl) (by kernel_rfl) (fun _ _ _ h => h) (Or.inl ⟨by rfl, ?_⟩) (by assumption) ?_
  rotate_left 1
  · intro w hSw; (try dsimp only at hSw); go_simp; all_goals with_reducible rfl
  try simp only [Act.put, List.setIfInBounds_toArray, List.set_cons_zero, List.set_cons_succ]
  refine takeO 4 (some 15) (v := ?_) rfl rfl (by kernel_rfl) (by kernel_rfl) (by kernel_rfl) (fun _ _ _ h => h) (Or.inl ⟨by rfl, ?_⟩) (by assumption) ?_
  rotate_left 1
  · intro w hSw; (try dsimp only at hSw); go_simp; all_goals with_reducible rfl
  try simp only [Act.put, List.setIfInBounds_toArray, List.set_cons_zero, List.set_cons_succ]
  refine takeO 5 (some 16) (v := ?_) rfl rfl (by kernel_rfl) (by kernel_rfl) (by kernel_rfl) (fun _ _ _ h => h) (Or.inl ⟨by rfl, ?_⟩) (by assumption) ?_
  rotate_left 1
  · intro w hSw; (try dsimp only at hSw); go_simp; all_goals with_reducible rfl
  try simp only [Act.put, List.setIfInBounds_toArray, List.set_cons_zero, List.set_cons_succ]
  refine wpAnyH_ready (rs := [3]) (by kernel_rfl) (by simp) ?_
  refine AllReadyH.cons rfl (fun K hK => ?_) AllReadyH.nil
  go_simp
  have HC := Lib.hid (rput_out none 0 [] ((rl.length : Int) + 7) 2 w2.drew (rd_nil _ _ rfl) (by decide) (by omega) (by omega)); rw [E2.out] at HC; refine HC.out.mono ?_; clear HC; rintro e w3 ⟨ao3, c3, rfl, hr, hb⟩; have HR3 := Lib.hid hr; have HX3 := Lib.hid (HX2d.out.below hb HX2d.out.lt); have HB3 := Lib.hid (HB2d.out.trans (hb.mono HB2d.out.size)); have HQ3 := Lib.hid (HR2d.out.below hb rfl); clear hr hb
  go_wp2_with fail
  refine hK.out _ _ (by first | exact HX2d.out.cell 0 | exact HX3.out.cell 0 | exact HX4.out.cell 0) (fun hHeld => ?_)
  clear hK K
  try simp only [Act.put, List.setIfInBounds_toArray, List.set_cons_zero, List.set_cons_succ]
  refine wpAnyH_ready (rs := [6]) (by kernel_rfl) (by simp) ?_
  refine AllReadyH.cons rfl (fun K hK => ?_) AllReadyH.nil
  go_simp
  have HC := Lib.hid (refput_any ao3 h2.length c3 h2 k 1 w3 HR3.out (by have := HL2.out; omega) (by omega) (by omega)); rw [HHD.out] at HC; refine HC.out.mono ?_; clear HC; rintro e w4 ⟨ao4, c4, rfl, ho, hb⟩; rw [u8s_length, hhl] at ho ⊢; have HO4 := Lib.hid ho; have HG4 := Lib.hid hb; have HX4 := Lib.hid (HX3.out.below hb HX3.out.lt); have HB4 := Lib.hid (HB3.out.trans (hb.mono HB3.out.size)); have HQ4 := Lib.hid (HQ3.out.below hb rfl); clear ho hb
  go_wp2_with fail
  refine hK.out _ _ (by first | exact HX2d.out.cell 0 | exact HX3.out.cell 0 | exact HX4.out.cell 0) (fun hHeld => ?_)
  clear hK K
  try simp only [Act.put, List.setIfInBounds_toArray, List.set_cons_zero, List.set_cons_succ]
  refine takeO 7 (some 5) (v := ?_) rfl rfl (by kernel_rfl) (by kernel_rfl) (by kernel_rfl) (fun _ _ _ h => h) (Or.inl ⟨by rfl, ?_⟩) (by assumption) ?_
  rotate_left 1
  · intro w hSw; (try dsimp only at hSw); go_simp; all_goals with_reducible rfl
  try simp only [Act.put, List.setIfInBounds_toArray, List.set_cons_zero, List.set_cons_succ]
  refine wpAnyH_done (by kernel_rfl) ?_ _
  have HS4 := Lib.hid (Src.ofRd (P := Try.prog) Try.underlying39 HQ4.out (u8s_one rl))
  have hcl : cl.length = 3 + rl.length := by rw [HCO.out, List.length_append, hhl]
  go_wp2_with (at_builtin; refine wpList_app rfl _ _ 39 39 rfl w3.heap.size 5 i0 (.int .u8 0) 1 1 Try.underlying39 HI.out HZ0.out HZ1.out HZ2.out rfl (by decide) ao4 3 c4 (u8s hd) rfl HO4.out _ rl.length (u8s rl) rfl HS4.out (by unfold maxLen; omega) (by omega) HG4.out.size ?_; intro ao5 c5 w5 hown hg; rw [← u8s_append, ← HCO.out] at hown; have HO5 := Lib.hid hown; have HB5 := Lib.hid (HB4.out.grown hg HB4.out.size (fun k hk => Nat.le_trans HB3.out.size (HO4.out.lt k hk).1)); clear hown hg)
  have hr5 := ownsRow_rd HO5.out
  rw [show 3 + rl.length = cl.length from hcl.symm] at hr5 ⊢
  have HC := Lib.hid (seal_any ao5 c5 cl w5 hr5 (by omega) HLT.out)
  rw [← HFL.out] at HC
  refine HC.out.mono ?_
  clear HC
  rintro e w6 ⟨ao6, c6, rfl, ho, hb⟩
  rw [u8s_length] at ho ⊢
  have HO6 := Lib.hid ho
  have HB6 := Lib.hid (HB5.out.trans (hb.mono HB5.out.size))
  clear ho hb
  go_wp2_with fail
  go_ret2
  exact ⟨ao6, c6, rfl, own0 HO6.out HB5.out.size, HB6.out⟩
end Go.Proofs.Ytjhkdbcfkaaffaa
