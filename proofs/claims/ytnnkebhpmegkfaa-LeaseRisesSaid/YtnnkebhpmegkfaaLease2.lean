/- The walks of the table of leases: Live, Epoch, Life, New, and all of them at no table. -/
import Derived.Test.YtnnkebhpmegkfaaLease1
namespace Go.Proofs.Ytnnkebhpmegkfaa
open Go.RowKit
set_option linter.unusedVariables false

set_option maxHeartbeats 600000 in
theorem live_any (w : World) (g : Nat) (t : Tab) (v now : Int) (h : TB w g t) (ho : t.ok) :
    Calls Try.prog 20 #[.pointer (some ⟨g, 0, none⟩), .int .i64 v, .int .i64 now] w fun e w' => e = .returned (.bool (t.live v now)) ∧ w = w' := by
  have H := Lib.hid h
  clear h
  cases his : t.is v with
  | false =>
    have HG := Lib.hid (get_no w g t v H.out his)
    have HF : RowKit.Hid (t.live v now = false) := by unfold RowKit.Hid Tab.live; rw [his]; rfl
    clear his
    go_enter Try.func20, Try.ntmps20
    go_wp2_with fail
    refine (HG.out).mono ?_
    rintro e w' ⟨rfl, rfl⟩
    go_wp2_with fail
    go_ret
    exact ⟨by rw [HF.out]; rfl, rfl⟩
  | true =>
    have hk : ∃ k : Nat, v = k ∧ 1 ≤ k ∧ k ≤ 5 ∧ (k : Int) ≤ t.workers := by
      simp only [Tab.is, decide_eq_true_eq] at his
      have := ho.workers1
      exact ⟨v.toNat, by omega, by omega, by omega, by omega⟩
    obtain ⟨k, rfl, hk1, hk5, hkw⟩ := hk
    have HG := Lib.hid (get_yes w g t k H.out hk1 hkw hk5)
    have hce := H.out.epoch ho k (by omega)
    have hct := H.out.till ho k (by omega)
    have hcl := H.out.life ho k (by omega)
    by_cases h1 : 0 < (t.at (k : Int)).epoch
    · by_cases h2 : now ≤ (t.at (k : Int)).till
      · have HF : RowKit.Hid (t.live (k : Int) now = true) := by unfold RowKit.Hid Tab.live; rw [his, Bool.true_and, decide_eq_true_iff]; exact ⟨h1, h2⟩
        clear his ho
        generalize (t.at (k : Int)).epoch = E at *
        generalize (t.at (k : Int)).till = T at *
        have hd2 : decide (now ≤ T) = true := by simp; omega
        have hd1 : decide (0 < E) = true := by simp; omega
        go_enter Try.func20, Try.ntmps20
        go_wp2_with fail
        refine (HG.out).mono ?_
        rintro e w' ⟨rfl, rfl⟩
        go_wp2_with fail
        go_ret
        exact ⟨by rw [HF.out]; rfl, rfl⟩
      · have HF : RowKit.Hid (t.live (k : Int) now = false) := by unfold RowKit.Hid Tab.live; rw [his, Bool.true_and, decide_eq_false_iff_not]; exact fun hh => h2 hh.2
        clear his ho
        generalize (t.at (k : Int)).epoch = E at *
        generalize (t.at (k : Int)).till = T at *
        have hd2 : decide (now ≤ T) = false := by simp; omega
        have hd1 : decide (0 < E) = true := by simp; omega
        go_enter Try.func20, Try.ntmps20
        go_wp2_with fail
        refine (HG.out).mono ?_
        rintro e w' ⟨rfl, rfl⟩
        go_wp2_with fail
        go_ret
        exact ⟨by rw [HF.out]; rfl, rfl⟩
    · have HF : RowKit.Hid (t.live (k : Int) now = false) := by unfold RowKit.Hid Tab.live; rw [his, Bool.true_and, decide_eq_false_iff_not]; exact fun hh => h1 hh.1
      clear his ho
      generalize (t.at (k : Int)).epoch = E at *
      have hd1 : decide (0 < E) = false := by simp; omega
      go_enter Try.func20, Try.ntmps20
      go_wp2_with fail
      refine (HG.out).mono ?_
      rintro e w' ⟨rfl, rfl⟩
      go_wp2_with fail
      go_ret
      exact ⟨by rw [HF.out]; rfl, rfl⟩

set_option maxHeartbeats 400000 in
theorem epoch_any (w : World) (g : Nat) (t : Tab) (v : Int) (h : TB w g t) (ho : t.ok) :
    Calls Try.prog 18 #[.pointer (some ⟨g, 0, none⟩), .int .i64 v] w fun e w' => e = .returned (.int .i64 (t.epoch v)) ∧ w = w' := by
  have H := Lib.hid h
  clear h
  cases his : t.is v with
  | false =>
    have HG := Lib.hid (get_no w g t v H.out his)
    have HF : RowKit.Hid (t.epoch v = 0) := by unfold RowKit.Hid Tab.epoch; rw [his]; rfl
    clear his
    go_enter Try.func18, Try.ntmps18
    go_wp2_with fail
    refine (HG.out).mono ?_
    rintro e w' ⟨rfl, rfl⟩
    go_wp2_with fail
    go_ret
    exact ⟨by rw [HF.out]; rfl, rfl⟩
  | true =>
    have hk : ∃ k : Nat, v = k ∧ 1 ≤ k ∧ k ≤ 5 ∧ (k : Int) ≤ t.workers := by
      simp only [Tab.is, decide_eq_true_eq] at his
      have := ho.workers1
      exact ⟨v.toNat, by omega, by omega, by omega, by omega⟩
    obtain ⟨k, rfl, hk1, hk5, hkw⟩ := hk
    have HG := Lib.hid (get_yes w g t k H.out hk1 hkw hk5)
    have hce := H.out.epoch ho k (by omega)
    have hct := H.out.till ho k (by omega)
    have hcl := H.out.life ho k (by omega)
    have HF : RowKit.Hid (t.epoch (k : Int) = (t.at (k : Int)).epoch) := by unfold RowKit.Hid Tab.epoch; rw [if_pos his]
    clear his ho
    generalize (t.at (k : Int)).epoch = E at *
    go_enter Try.func18, Try.ntmps18
    go_wp2_with fail
    refine (HG.out).mono ?_
    rintro e w' ⟨rfl, rfl⟩
    go_wp2_with fail
    go_ret
    exact ⟨by rw [HF.out]; rfl, rfl⟩

set_option maxHeartbeats 400000 in
theorem life_any (w : World) (g : Nat) (t : Tab) (v : Int) (h : TB w g t) (ho : t.ok) :
    Calls Try.prog 19 #[.pointer (some ⟨g, 0, none⟩), .int .i64 v] w fun e w' => e = .returned (.int .i64 (t.life v)) ∧ w = w' := by
  have H := Lib.hid h
  clear h
  cases his : t.is v with
  | false =>
    have HG := Lib.hid (get_no w g t v H.out his)
    have HF : RowKit.Hid (t.life v = 0) := by unfold RowKit.Hid Tab.life; rw [his]; rfl
    clear his
    go_enter Try.func19, Try.ntmps19
    go_wp2_with fail
    refine (HG.out).mono ?_
    rintro e w' ⟨rfl, rfl⟩
    go_wp2_with fail
    go_ret
    exact ⟨by rw [HF.out]; rfl, rfl⟩
  | true =>
    have hk : ∃ k : Nat, v = k ∧ 1 ≤ k ∧ k ≤ 5 ∧ (k : Int) ≤ t.workers := by
      simp only [Tab.is, decide_eq_true_eq] at his
      have := ho.workers1
      exact ⟨v.toNat, by omega, by omega, by omega, by omega⟩
    obtain ⟨k, rfl, hk1, hk5, hkw⟩ := hk
    have HG := Lib.hid (get_yes w g t k H.out hk1 hkw hk5)
    have hce := H.out.epoch ho k (by omega)
    have hct := H.out.till ho k (by omega)
    have hcl := H.out.life ho k (by omega)
    have HF : RowKit.Hid (t.life (k : Int) = (t.at (k : Int)).life) := by unfold RowKit.Hid Tab.life; rw [if_pos his]
    clear his ho
    generalize (t.at (k : Int)).life = E at *
    go_enter Try.func19, Try.ntmps19
    go_wp2_with fail
    refine (HG.out).mono ?_
    rintro e w' ⟨rfl, rfl⟩
    go_wp2_with fail
    go_ret
    exact ⟨by rw [HF.out]; rfl, rfl⟩

set_option maxHeartbeats 400000 in
theorem hello_nil (w : World) (v a b : Int) :
    Calls Try.prog 17 #[.pointer none, .int .i64 v, .int .i64 a, .int .i64 b] w fun e w' => e = .returned (.tuple #[.int .i64 0, .int .i64 1]) ∧ w = w' := by
  go_enter Try.func17, Try.ntmps17
  go_wp2_with fail
  refine (get_nil w v).mono ?_
  rintro e w' ⟨rfl, rfl⟩
  go_wp2_with fail
  go_ret2
  exact ⟨rfl, rfl⟩

set_option maxHeartbeats 400000 in
theorem seen_nil (w : World) (v a b : Int) :
    Calls Try.prog 21 #[.pointer none, .int .i64 v, .int .i64 a, .int .i64 b] w fun e w' => e = .returned (.bool false) ∧ w = w' := by
  go_enter Try.func21, Try.ntmps21
  go_wp2_with fail
  refine (get_nil w v).mono ?_
  rintro e w' ⟨rfl, rfl⟩
  go_wp2_with fail
  go_ret
  exact ⟨rfl, rfl⟩

set_option maxHeartbeats 400000 in
theorem live_nil (w : World) (v a : Int) :
    Calls Try.prog 20 #[.pointer none, .int .i64 v, .int .i64 a] w fun e w' => e = .returned (.bool false) ∧ w = w' := by
  go_enter Try.func20, Try.ntmps20
  go_wp2_with fail
  refine (get_nil w v).mono ?_
  rintro e w' ⟨rfl, rfl⟩
  go_wp2_with fail
  go_ret
  exact ⟨rfl, rfl⟩

set_option maxHeartbeats 400000 in
theorem epoch_nil (w : World) (v : Int) :
    Calls Try.prog 18 #[.pointer none, .int .i64 v] w fun e w' => e = .returned (.int .i64 0) ∧ w = w' := by
  go_enter Try.func18, Try.ntmps18
  go_wp2_with fail
  refine (get_nil w v).mono ?_
  rintro e w' ⟨rfl, rfl⟩
  go_wp2_with fail
  go_ret
  exact ⟨rfl, rfl⟩

set_option maxHeartbeats 400000 in
theorem life_nil (w : World) (v : Int) :
    Calls Try.prog 19 #[.pointer none, .int .i64 v] w fun e w' => e = .returned (.int .i64 0) ∧ w = w' := by
  go_enter Try.func19, Try.ntmps19
  go_wp2_with fail
  refine (get_nil w v).mono ?_
  rintro e w' ⟨rfl, rfl⟩
  go_wp2_with fail
  go_ret
  exact ⟨rfl, rfl⟩

set_option maxHeartbeats 400000 in
theorem new_bad (w : World) (workers term : Int) (h : ¬ (1 ≤ workers ∧ workers ≤ 5 ∧ 1 ≤ term ∧ term ≤ 1000)) :
    Calls Try.prog 15 #[.int .i64 workers, .int .i64 term] w fun e w' => e = .returned (.tuple #[.pointer none, .int .i64 2]) ∧ w = w' := by
  by_cases h1 : workers < 1
  · clear h
    go_enter Try.func15, Try.ntmps15
    go_wp2_with fail
    go_ret2
    exact ⟨rfl, rfl⟩
  by_cases h2 : 5 < workers
  · clear h
    go_enter Try.func15, Try.ntmps15
    go_wp2_with fail
    go_ret2
    exact ⟨rfl, rfl⟩
  by_cases h3 : term < 1
  · clear h
    go_enter Try.func15, Try.ntmps15
    go_wp2_with fail
    go_ret2
    exact ⟨rfl, rfl⟩
  have h4 : 1000 < term := by omega
  clear h
  go_enter Try.func15, Try.ntmps15
  go_wp2_with fail
  go_ret2
  exact ⟨rfl, rfl⟩

set_option maxHeartbeats 400000 in
theorem new_good (w : World) (workers term : Int) (h1 : 1 ≤ workers) (h2 : workers ≤ 5) (h3 : 1 ≤ term) (h4 : term ≤ 1000) :
    Calls Try.prog 15 #[.int .i64 workers, .int .i64 term] w fun e w' => e = .returned (.tuple #[.pointer (some ⟨w.heap.size, 0, none⟩), .int .i64 0]) ∧ TB w' w.heap.size (Tab.new workers term) ∧ Below w.heap.size w w' := by
  go_enter Try.func15, Try.ntmps15
  go_wp2_with fail
  go_ret2
  trace_state
  exact ⟨rfl, by unfold TB Blk; rw [heap_alloc_new]; rfl, (Below.refl _ _).alloc (Nat.le_refl _) _⟩

end Go.Proofs.Ytnnkebhpmegkfaa
