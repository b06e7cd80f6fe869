/- The walks of the document's table of leases. -/
import Derived.Test.YtnnkebhpmegkfaaLease2
namespace Go.Proofs.Ytnnkebhpmegkfaa
open Go.RowKit
set_option linter.unusedVariables false

/-- block g holds the document's table t -/
def RB (w : World) (g : Nat) (t : Tab) : Prop := Blk w g 50 t.rcells
theorem RB.cell {w : World} {g : Nat} {t : Tab} (h : RB w g t) (ho : t.ok) (k j : Nat) (hk : k < 6) (hj : j < 3) : w.cell? ⟨g, k * 3 + j, none⟩ = (t.at k).rcells[j]? := by
  rw [Blk.cell h, Tab.rcell_at ho k j hk hj]
theorem RB.workers {w : World} {g : Nat} {t : Tab} (h : RB w g t) (ho : t.ok) : w.cell? ⟨g, 18, none⟩ = some (.int .i64 t.workers) := by rw [Blk.cell h]; exact (Tab.rcell_n ho).1
theorem RB.term {w : World} {g : Nat} {t : Tab} (h : RB w g t) (ho : t.ok) : w.cell? ⟨g, 19, none⟩ = some (.int .i64 t.term) := by rw [Blk.cell h]; exact (Tab.rcell_n ho).2
theorem RB.epoch {w : World} {g : Nat} {t : Tab} (h : RB w g t) (ho : t.ok) (k : Nat) (hk : k < 6) : w.cell? ⟨g, k * 3, none⟩ = some (.int .i64 (t.at k).epoch) := RB.cell h ho k 0 hk (by decide)
theorem RB.life {w : World} {g : Nat} {t : Tab} (h : RB w g t) (ho : t.ok) (k : Nat) (hk : k < 6) : w.cell? ⟨g, k * 3 + 1, none⟩ = some (.int .i64 (t.at k).life) := RB.cell h ho k 1 hk (by decide)
theorem RB.till {w : World} {g : Nat} {t : Tab} (h : RB w g t) (ho : t.ok) (k : Nat) (hk : k < 6) : w.cell? ⟨g, k * 3 + 2, none⟩ = some (.int .i64 (t.at k).till) := RB.cell h ho k 2 hk (by decide)
theorem RB.set {w : World} {g : Nat} {t : Tab} (h : RB w g t) (ho : t.ok) (k j : Nat) (v : Value) (x : L1) (hk : k < 6) (hj : j < 3) (hx : x.rcells = (t.at k).rcells.set j v) : RB (w.setCell ⟨g, k * 3 + j, none⟩ v) g (t.put k x) := by
  unfold RB; rw [← Tab.set_rcell ho k j v x hk hj hx]; exact Blk.set h _ _

set_option maxHeartbeats 400000 in
theorem is_any (w : World) (g : Nat) (t : Tab) (v : Int) (h : RB w g t) (ho : t.ok) :
    Calls Try.prog 50 #[.pointer (some ⟨g, 0, none⟩), .int .i64 v] w fun e w' => e = .returned (.bool (t.is v)) ∧ w = w' := by
  have hc := h.workers ho
  clear h ho
  by_cases h1 : 1 ≤ v
  · have hd1 : decide (1 ≤ v) = true := by simp; omega
    by_cases h2 : v ≤ t.workers
    · have HF : RowKit.Hid (t.is v = true) := by unfold RowKit.Hid Tab.is; rw [decide_eq_true_iff]; exact ⟨h1, h2⟩
      have hd2 : decide (v ≤ t.workers) = true := by simp; omega
      go_enter Try.func50, Try.ntmps50
      go_wp2_with fail
      go_ret
      exact ⟨by rw [HF.out]; rfl, rfl⟩
    · have HF : RowKit.Hid (t.is v = false) := by unfold RowKit.Hid Tab.is; rw [decide_eq_false_iff_not]; exact fun hh => h2 hh.2
      have hd2 : decide (v ≤ t.workers) = false := by simp; omega
      go_enter Try.func50, Try.ntmps50
      go_wp2_with fail
      go_ret
      exact ⟨by rw [HF.out]; rfl, rfl⟩
  · have HF : RowKit.Hid (t.is v = false) := by unfold RowKit.Hid Tab.is; rw [decide_eq_false_iff_not]; exact fun hh => h1 hh.1
    have hd1 : decide (1 ≤ v) = false := by simp; omega
    go_enter Try.func50, Try.ntmps50
    go_wp2_with fail
    go_ret
    exact ⟨by rw [HF.out]; rfl, rfl⟩

set_option maxHeartbeats 600000 in
theorem rhello_bad (w : World) (g : Nat) (t : Tab) (v life now : Int) (h : RB w g t) (ho : t.ok) (hb : okHello t v life now = false) :
    Calls Try.prog 25 #[.pointer (some ⟨g, 0, none⟩), .int .i64 v, .int .i64 life, .int .i64 now] w fun e w' => e = .returned (.tuple #[.int .i64 0, .int .i64 2]) ∧ w = w' := by
  have H := Lib.hid h
  clear h
  cases his : t.is v with
  | false =>
    have HI := Lib.hid (is_any w g t v H.out ho)
    rw [his] at HI
    clear hb his ho
    go_enter Try.func25, Try.ntmps25
    go_wp2_with fail
    refine (HI.out).mono ?_
    rintro e w' ⟨rfl, rfl⟩
    go_wp2_with fail
    go_ret2
    exact ⟨rfl, rfl⟩
  | true =>
    have HI := Lib.hid (is_any w g t v H.out ho)
    rw [his] at HI
    by_cases h1 : life < 1
    · clear hb ho his
      go_enter Try.func25, Try.ntmps25
      go_wp2_with fail
      refine (HI.out).mono ?_
      rintro e w' ⟨rfl, rfl⟩
      go_wp2_with fail
      go_ret2
      exact ⟨rfl, rfl⟩
    by_cases h2 : 2147483647 < life
    · clear hb ho his
      go_enter Try.func25, Try.ntmps25
      go_wp2_with fail
      refine (HI.out).mono ?_
      rintro e w' ⟨rfl, rfl⟩
      go_wp2_with fail
      go_ret2
      exact ⟨rfl, rfl⟩
    by_cases h3 : now < 0
    · clear hb ho his
      go_enter Try.func25, Try.ntmps25
      go_wp2_with fail
      refine (HI.out).mono ?_
      rintro e w' ⟨rfl, rfl⟩
      go_wp2_with fail
      go_ret2
      exact ⟨rfl, rfl⟩
    have h4 : 1099511627776 < now := by
      simp only [okHello, his, Bool.true_and, okTime] at hb
      rw [show decide (1 ≤ life ∧ life ≤ 2147483647) = true by rw [decide_eq_true_iff]; omega, Bool.true_and, decide_eq_false_iff_not] at hb
      omega
    clear hb ho his
    go_enter Try.func25, Try.ntmps25
    go_wp2_with fail
    refine (HI.out).mono ?_
    rintro e w' ⟨rfl, rfl⟩
    go_wp2_with fail
    go_ret2
    exact ⟨rfl, rfl⟩

set_option maxHeartbeats 600000 in
theorem rhello_old (w : World) (g : Nat) (t : Tab) (v life now : Int) (h : RB w g t) (ho : t.ok) (hb : okHello t v life now = true) (hold : life < (t.at v).life) :
    Calls Try.prog 25 #[.pointer (some ⟨g, 0, none⟩), .int .i64 v, .int .i64 life, .int .i64 now] w fun e w' => e = .returned (.tuple #[.int .i64 0, .int .i64 4]) ∧ w = w' := by
  have H := Lib.hid h
  clear h
  simp only [okHello, Bool.and_eq_true, decide_eq_true_eq, okTime] at hb
  obtain ⟨⟨his, hl1, hl2⟩, htm'⟩ := hb
  have hk : ∃ k : Nat, v = k ∧ 1 ≤ k ∧ k ≤ 5 ∧ (k : Int) ≤ t.workers := by
    simp only [Tab.is, decide_eq_true_eq] at his
    have := ho.workers1
    exact ⟨v.toNat, by omega, by omega, by omega, by omega⟩
  obtain ⟨k, rfl, hk1, hk5, hkw⟩ := hk
  have HI := Lib.hid (is_any w g t k H.out ho)
  rw [his] at HI
  have hc := H.out.life ho k (by omega)
  have hce := H.out.epoch ho k (by omega)
  have hct := H.out.till ho k (by omega)
  have hcm := H.out.term ho
  have hf0 := Blk.frozen H.out (k * 3)
  have hf1 := Blk.frozen H.out (k * 3 + 1)
  have hf2 := Blk.frozen H.out (k * 3 + 2)
  have hb1 := ho.term0
  have hb2 := ho.term1
  have hb3 := (ho.at (k : Int)).epoch0
  have hb4 := (ho.at (k : Int)).epoch1
  have hb5 := (ho.at (k : Int)).life1
  have hb6 := (ho.at (k : Int)).till0
  have hb7 := (ho.at (k : Int)).till1
  clear his ho
  generalize (t.at (k : Int)).life = L at *
  go_enter Try.func25, Try.ntmps25
  go_wp2_with fail
  refine (HI.out).mono ?_
  rintro e w' ⟨rfl, rfl⟩
  go_wp2_with fail
  go_ret2
  exact ⟨rfl, rfl⟩

set_option maxHeartbeats 800000 in
theorem rhello_same (w : World) (g : Nat) (t : Tab) (v life now : Int) (h : RB w g t) (ho : t.ok) (hb : okHello t v life now = true) (hsame : life = (t.at v).life) :
    Calls Try.prog 25 #[.pointer (some ⟨g, 0, none⟩), .int .i64 v, .int .i64 life, .int .i64 now] w fun e w' => e = .returned (.tuple #[.int .i64 (t.at v).epoch, .int .i64 0]) ∧ RB w' g (t.put v ((t.at v).on (now + t.term))) ∧ w.grownBy w' (some g) := by
  have H := Lib.hid h
  clear h
  simp only [okHello, Bool.and_eq_true, decide_eq_true_eq, okTime] at hb
  obtain ⟨⟨his, hl1, hl2⟩, htm'⟩ := hb
  have hk : ∃ k : Nat, v = k ∧ 1 ≤ k ∧ k ≤ 5 ∧ (k : Int) ≤ t.workers := by
    simp only [Tab.is, decide_eq_true_eq] at his
    have := ho.workers1
    exact ⟨v.toNat, by omega, by omega, by omega, by omega⟩
  obtain ⟨k, rfl, hk1, hk5, hkw⟩ := hk
  have HI := Lib.hid (is_any w g t k H.out ho)
  rw [his] at HI
  have hc := H.out.life ho k (by omega)
  have hce := H.out.epoch ho k (by omega)
  have hct := H.out.till ho k (by omega)
  have hcm := H.out.term ho
  have hf0 := Blk.frozen H.out (k * 3)
  have hf1 := Blk.frozen H.out (k * 3 + 1)
  have hf2 := Blk.frozen H.out (k * 3 + 2)
  have hb1 := ho.term0
  have hb2 := ho.term1
  have hb3 := (ho.at (k : Int)).epoch0
  have hb4 := (ho.at (k : Int)).epoch1
  have hb5 := (ho.at (k : Int)).life1
  have hb6 := (ho.at (k : Int)).till0
  have hb7 := (ho.at (k : Int)).till1
  have HS := Lib.hid (H.out.set ho k 2 (.int .i64 (max (t.at (k : Int)).till (now + t.term))) ((t.at (k : Int)).on (now + t.term)) (by omega) (by decide) rfl)
  have h0 : (t.at (k : Int)).life ≤ life := by omega
  have h9 : life ≤ (t.at (k : Int)).life := by omega
  clear hsame ho his
  generalize (t.at (k : Int)).on (now + t.term) = X at *
  generalize (t.at (k : Int)).life = L at *
  generalize (t.at (k : Int)).epoch = E at *
  generalize (t.at (k : Int)).till = T at *
  generalize t.term = M at *
  have hmax : (if T < now + M then now + M else T) = max T (now + M) := by split <;> omega
  go_enter Try.func25, Try.ntmps25
  go_wp2_with fail
  refine (HI.out).mono ?_
  rintro e w' ⟨rfl, rfl⟩
  go_wp2_with fail
  go_region
  all_goals go_wp2
  go_ret2
  exact ⟨rfl, HS.out, grownBy_drew (Blk.grown_self _ _)⟩

set_option maxHeartbeats 800000 in
theorem rhello_new (w : World) (g : Nat) (t : Tab) (v life now : Int) (h : RB w g t) (ho : t.ok) (hb : okHello t v life now = true) (hnew : (t.at v).life < life) :
    Calls Try.prog 25 #[.pointer (some ⟨g, 0, none⟩), .int .i64 v, .int .i64 life, .int .i64 now] w fun e w' => e = .returned (.tuple #[.int .i64 ((t.at v).epoch + 1), .int .i64 0]) ∧ RB w' g (t.put v (((t.at v).told life).on (now + t.term))) ∧ w.grownBy w' (some g) := by
  have H := Lib.hid h
  clear h
  simp only [okHello, Bool.and_eq_true, decide_eq_true_eq, okTime] at hb
  obtain ⟨⟨his, hl1, hl2⟩, htm'⟩ := hb
  have hk : ∃ k : Nat, v = k ∧ 1 ≤ k ∧ k ≤ 5 ∧ (k : Int) ≤ t.workers := by
    simp only [Tab.is, decide_eq_true_eq] at his
    have := ho.workers1
    exact ⟨v.toNat, by omega, by omega, by omega, by omega⟩
  obtain ⟨k, rfl, hk1, hk5, hkw⟩ := hk
  have HI := Lib.hid (is_any w g t k H.out ho)
  rw [his] at HI
  have hc := H.out.life ho k (by omega)
  have hce := H.out.epoch ho k (by omega)
  have hct := H.out.till ho k (by omega)
  have hcm := H.out.term ho
  have hf0 := Blk.frozen H.out (k * 3)
  have hf1 := Blk.frozen H.out (k * 3 + 1)
  have hf2 := Blk.frozen H.out (k * 3 + 2)
  have hb1 := ho.term0
  have hb2 := ho.term1
  have hb3 := (ho.at (k : Int)).epoch0
  have hb4 := (ho.at (k : Int)).epoch1
  have hb5 := (ho.at (k : Int)).life1
  have hb6 := (ho.at (k : Int)).till0
  have hb7 := (ho.at (k : Int)).till1
  have HIS : t.is (k : Int) = true := his
  have htold : (t.at (k : Int)).told life = ⟨life, (t.at (k : Int)).epoch + 1, (t.at (k : Int)).till⟩ := by unfold L1.told; rw [if_pos hnew]
  have H1 := Lib.hid (H.out.set ho k 1 (.int .i64 life) ⟨life, (t.at (k : Int)).epoch, (t.at (k : Int)).till⟩ (by omega) (by decide) rfl)
  have ho1 : (t.put (k : Int) ⟨life, (t.at (k : Int)).epoch, (t.at (k : Int)).till⟩).ok := ho.put _ ⟨by simp; omega, hl2, hb3, by simp; omega, (ho.at (k : Int)).till0, (ho.at (k : Int)).till1⟩
  have hat1 : (t.put (k : Int) ⟨life, (t.at (k : Int)).epoch, (t.at (k : Int)).till⟩).at (k : Int) = ⟨life, (t.at (k : Int)).epoch, (t.at (k : Int)).till⟩ := by rw [Tab.at_put ho (k : Int) k _ HIS, if_pos rfl]
  have H2 := Lib.hid (H1.out.set ho1 k 0 (.int .i64 ((t.at (k : Int)).epoch + 1)) ⟨life, (t.at (k : Int)).epoch + 1, (t.at (k : Int)).till⟩ (by omega) (by decide) (by rw [hat1]; rfl))
  have hpp : ∀ x y : L1, (t.put (k : Int) x).put (k : Int) y = t.put (k : Int) y := by intro x y; simp [Tab.put]
  rw [hpp, ← htold] at H2
  have ho2 : (t.put (k : Int) ((t.at (k : Int)).told life)).ok := ho.put _ ((ho.at (k : Int)).told hl1 hl2)
  have hat2 : (t.put (k : Int) ((t.at (k : Int)).told life)).at (k : Int) = (t.at (k : Int)).told life := by rw [Tab.at_put ho (k : Int) k _ HIS, if_pos rfl]
  have H3 := Lib.hid (H2.out.set ho2 k 2 (.int .i64 (max (t.at (k : Int)).till (now + t.term))) (((t.at (k : Int)).told life).on (now + t.term)) (by omega) (by decide) (by rw [hat2, htold]; rfl))
  rw [hpp] at H3
  clear HIS his ho htold H1 ho1 hat1 hpp H2 ho2 hat2
  generalize t.put (k : Int) (((t.at (k : Int)).told life).on (now + t.term)) = t2 at *
  generalize (t.at (k : Int)).life = L at *
  generalize (t.at (k : Int)).epoch = E at *
  generalize (t.at (k : Int)).till = T at *
  generalize t.term = M at *
  have hmax : (if T < now + M then now + M else T) = max T (now + M) := by split <;> omega
  go_enter Try.func25, Try.ntmps25
  go_wp2_with fail
  refine (HI.out).mono ?_
  rintro e w' ⟨rfl, rfl⟩
  go_wp2_with fail
  go_region
  all_goals go_wp2
  go_region
  all_goals go_wp2
  go_ret2
  exact ⟨rfl, H3.out, grownBy_drew (grownBy_drew (grownBy_trans (grownBy_trans (Blk.grown_self _ _) (Blk.grown_self _ _)) (Blk.grown_self _ _)))⟩

set_option maxHeartbeats 800000 in
theorem rseen_bad (w : World) (g : Nat) (t : Tab) (v ep now : Int) (h : RB w g t) (ho : t.ok) (hb : okSeen t v ep now = false) :
    Calls Try.prog 24 #[.pointer (some ⟨g, 0, none⟩), .int .i64 v, .int .i64 ep, .int .i64 now] w fun e w' => e = .returned (.bool false) ∧ w = w' := by
  have H := Lib.hid h
  clear h
  cases his : t.is v with
  | false =>
    have HI := Lib.hid (is_any w g t v H.out ho)
    rw [his] at HI
    clear hb his ho
    go_enter Try.func24, Try.ntmps24
    go_wp2_with fail
    refine (HI.out).mono ?_
    rintro e w' ⟨rfl, rfl⟩
    go_wp2_with fail
    go_ret
    exact ⟨rfl, rfl⟩
  | true =>
    have hk : ∃ k : Nat, v = k ∧ 1 ≤ k ∧ k ≤ 5 ∧ (k : Int) ≤ t.workers := by
      simp only [Tab.is, decide_eq_true_eq] at his
      have := ho.workers1
      exact ⟨v.toNat, by omega, by omega, by omega, by omega⟩
    obtain ⟨k, rfl, hk1, hk5, hkw⟩ := hk
    have HI := Lib.hid (is_any w g t k H.out ho)
    rw [his] at HI
    have hce := H.out.epoch ho k (by omega)
    have hct := H.out.till ho k (by omega)
    have hcm := H.out.term ho
    have hf2 := Blk.frozen H.out (k * 3 + 2)
    have hb1 := ho.term0
    have hb2 := ho.term1
    have hb3 := (ho.at (k : Int)).epoch0
    have hb6 := (ho.at (k : Int)).till0
    have hb7 := (ho.at (k : Int)).till1
    simp only [okSeen, his, Bool.true_and] at hb
    by_cases h1 : (t.at (k : Int)).epoch = 0
    · rw [h1] at hce
      clear hb h1 hct hcm ho his
      go_enter Try.func24, Try.ntmps24
      go_wp2_with fail
      refine (HI.out).mono ?_
      rintro e w' ⟨rfl, rfl⟩
      go_wp2_with fail
      go_ret
      exact ⟨rfl, rfl⟩
    have h1' : ((t.at (k : Int)).epoch == 0) = false := by simp; omega
    by_cases h2 : (t.at (k : Int)).epoch = ep
    · have h3 : okTime now = false := by
        rw [show decide ((t.at (k : Int)).epoch ≠ 0 ∧ (t.at (k : Int)).epoch = ep) = true by rw [decide_eq_true_iff]; exact ⟨h1, h2⟩, Bool.true_and] at hb
        exact hb
      simp only [okTime, decide_eq_false_iff_not] at h3
      subst h2
      clear hb h1 ho his hct hcm
      generalize (t.at (k : Int)).epoch = E at *
      by_cases h4 : now < 0
      · clear h3
        go_enter Try.func24, Try.ntmps24
        go_wp2_with fail
        refine (HI.out).mono ?_
        rintro e w' ⟨rfl, rfl⟩
        go_wp2_with fail
        go_ret
        exact ⟨rfl, rfl⟩
      have h5 : 1099511627776 < now := by omega
      clear h3
      go_enter Try.func24, Try.ntmps24
      go_wp2_with fail
      refine (HI.out).mono ?_
      rintro e w' ⟨rfl, rfl⟩
      go_wp2_with fail
      go_ret
      exact ⟨rfl, rfl⟩
    have h2' : ((t.at (k : Int)).epoch != ep) = true := by simp; exact h2
    clear hb h1 h2 ho his hct hcm
    generalize (t.at (k : Int)).epoch = E at *
    go_enter Try.func24, Try.ntmps24
    go_wp2_with fail
    refine (HI.out).mono ?_
    rintro e w' ⟨rfl, rfl⟩
    go_wp2_with fail
    go_ret
    exact ⟨rfl, rfl⟩

set_option maxHeartbeats 800000 in
theorem rseen_good (w : World) (g : Nat) (t : Tab) (v ep now : Int) (h : RB w g t) (ho : t.ok) (hb : okSeen t v ep now = true) :
    Calls Try.prog 24 #[.pointer (some ⟨g, 0, none⟩), .int .i64 v, .int .i64 ep, .int .i64 now] w fun e w' => e = .returned (.bool true) ∧ RB w' g (t.put v ((t.at v).on (now + t.term))) ∧ w.grownBy w' (some g) := by
  have H := Lib.hid h
  clear h
  simp only [okSeen, Bool.and_eq_true, decide_eq_true_eq, okTime] at hb
  obtain ⟨⟨his, hl1, hl2⟩, htm'⟩ := hb
  have hk : ∃ k : Nat, v = k ∧ 1 ≤ k ∧ k ≤ 5 ∧ (k : Int) ≤ t.workers := by
    simp only [Tab.is, decide_eq_true_eq] at his
    have := ho.workers1
    exact ⟨v.toNat, by omega, by omega, by omega, by omega⟩
  obtain ⟨k, rfl, hk1, hk5, hkw⟩ := hk
  have HI := Lib.hid (is_any w g t k H.out ho)
  rw [his] at HI
  have hce := H.out.epoch ho k (by omega)
  have hct := H.out.till ho k (by omega)
  have hcm := H.out.term ho
  have hf2 := Blk.frozen H.out (k * 3 + 2)
  have hb1 := ho.term0
  have hb2 := ho.term1
  have hb3 := (ho.at (k : Int)).epoch0
  have hb6 := (ho.at (k : Int)).till0
  have hb7 := (ho.at (k : Int)).till1
  have HS := Lib.hid (H.out.set ho k 2 (.int .i64 (max (t.at (k : Int)).till (now + t.term))) ((t.at (k : Int)).on (now + t.term)) (by omega) (by decide) rfl)
  have h1' : ((t.at (k : Int)).epoch == 0) = false := by simp; omega
  subst hl2
  clear ho his hl1
  generalize (t.at (k : Int)).on (now + t.term) = X at *
  generalize (t.at (k : Int)).epoch = E at *
  generalize (t.at (k : Int)).till = T at *
  generalize t.term = M at *
  have hmax : (if T < now + M then now + M else T) = max T (now + M) := by split <;> omega
  go_enter Try.func24, Try.ntmps24
  go_wp2_with fail
  refine (HI.out).mono ?_
  rintro e w' ⟨rfl, rfl⟩
  go_wp2_with fail
  go_region
  all_goals go_wp2
  go_ret
  exact ⟨rfl, HS.out, grownBy_drew (Blk.grown_self _ _)⟩

set_option maxHeartbeats 800000 in
theorem rlive_any (w : World) (g : Nat) (t : Tab) (v now : Int) (h : RB w g t) (ho : t.ok) :
    Calls Try.prog 26 #[.pointer (some ⟨g, 0, none⟩), .int .i64 v, .int .i64 now] w fun e w' => e = .returned (.bool (t.live v now)) ∧ w = w' := by
  have H := Lib.hid h
  clear h
  cases his : t.is v with
  | false =>
    have HI := Lib.hid (is_any w g t v H.out ho)
    rw [his] at HI
    have HF : RowKit.Hid (t.live v now = false) := by unfold RowKit.Hid Tab.live; rw [his]; rfl
    clear his ho
    go_enter Try.func26, Try.ntmps26
    go_wp2_with fail
    refine (HI.out).mono ?_
    rintro e w' ⟨rfl, rfl⟩
    go_wp2_with fail
    go_ret
    exact ⟨by rw [HF.out]; rfl, rfl⟩
  | true =>
    have hk : ∃ k : Nat, v = k ∧ 1 ≤ k ∧ k ≤ 5 ∧ (k : Int) ≤ t.workers := by
      simp only [Tab.is, decide_eq_true_eq] at his
      have := ho.workers1
      exact ⟨v.toNat, by omega, by omega, by omega, by omega⟩
    obtain ⟨k, rfl, hk1, hk5, hkw⟩ := hk
    have HI := Lib.hid (is_any w g t k H.out ho)
    rw [his] at HI
    have hce := H.out.epoch ho k (by omega)
    have hct := H.out.till ho k (by omega)
    by_cases h1 : 0 < (t.at (k : Int)).epoch
    · by_cases h2 : now ≤ (t.at (k : Int)).till
      · have HF : RowKit.Hid (t.live (k : Int) now = true) := by unfold RowKit.Hid Tab.live; rw [his, Bool.true_and, decide_eq_true_iff]; exact ⟨h1, h2⟩
        clear his ho
        generalize (t.at (k : Int)).epoch = E at *
        generalize (t.at (k : Int)).till = T at *
        have hd2 : decide (now ≤ T) = true := by simp; omega
        have hd1 : decide (0 < E) = true := by simp; omega
        go_enter Try.func26, Try.ntmps26
        go_wp2_with fail
        refine (HI.out).mono ?_
        rintro e w' ⟨rfl, rfl⟩
        go_wp2_with fail
        go_ret
        exact ⟨by rw [HF.out]; rfl, rfl⟩
      · have HF : RowKit.Hid (t.live (k : Int) now = false) := by unfold RowKit.Hid Tab.live; rw [his, Bool.true_and, decide_eq_false_iff_not]; exact fun hh => h2 hh.2
        clear his ho
        generalize (t.at (k : Int)).epoch = E at *
        generalize (t.at (k : Int)).till = T at *
        have hd2 : decide (now ≤ T) = false := by simp; omega
        have hd1 : decide (0 < E) = true := by simp; omega
        go_enter Try.func26, Try.ntmps26
        go_wp2_with fail
        refine (HI.out).mono ?_
        rintro e w' ⟨rfl, rfl⟩
        go_wp2_with fail
        go_ret
        exact ⟨by rw [HF.out]; rfl, rfl⟩
    · have HF : RowKit.Hid (t.live (k : Int) now = false) := by unfold RowKit.Hid Tab.live; rw [his, Bool.true_and, decide_eq_false_iff_not]; exact fun hh => h1 hh.1
      clear his ho
      generalize (t.at (k : Int)).epoch = E at *
      have hd1 : decide (0 < E) = false := by simp; omega
      go_enter Try.func26, Try.ntmps26
      go_wp2_with fail
      refine (HI.out).mono ?_
      rintro e w' ⟨rfl, rfl⟩
      go_wp2_with fail
      go_ret
      exact ⟨by rw [HF.out]; rfl, rfl⟩

set_option maxHeartbeats 400000 in
theorem rnew_bad (w : World) (workers term : Int) (h : ¬ (1 ≤ workers ∧ workers ≤ 5 ∧ 1 ≤ term ∧ term ≤ 1000)) :
    Calls Try.prog 22 #[.int .i64 workers, .int .i64 term] w fun e w' => e = .returned (.tuple #[.pointer none, .int .i64 2]) ∧ w = w' := by
  by_cases h1 : workers < 1
  · clear h
    go_enter Try.func22, Try.ntmps22
    go_wp2_with fail
    go_ret2
    exact ⟨rfl, rfl⟩
  by_cases h2 : 5 < workers
  · clear h
    go_enter Try.func22, Try.ntmps22
    go_wp2_with fail
    go_ret2
    exact ⟨rfl, rfl⟩
  by_cases h3 : term < 1
  · clear h
    go_enter Try.func22, Try.ntmps22
    go_wp2_with fail
    go_ret2
    exact ⟨rfl, rfl⟩
  have h4 : 1000 < term := by omega
  clear h
  go_enter Try.func22, Try.ntmps22
  go_wp2_with fail
  go_ret2
  exact ⟨rfl, rfl⟩

set_option maxHeartbeats 400000 in
theorem rnew_good (w : World) (workers term : Int) (h1 : 1 ≤ workers) (h2 : workers ≤ 5) (h3 : 1 ≤ term) (h4 : term ≤ 1000) :
    Calls Try.prog 22 #[.int .i64 workers, .int .i64 term] w fun e w' => e = .returned (.tuple #[.pointer (some ⟨w.heap.size, 0, none⟩), .int .i64 0]) ∧ RB w' w.heap.size (Tab.new workers term) ∧ Below w.heap.size w w' := by
  go_enter Try.func22, Try.ntmps22
  go_wp2_with fail
  go_ret2
  exact ⟨rfl, by unfold RB Blk; rw [heap_alloc_new]; rfl, (Below.refl _ _).alloc (Nat.le_refl _) _⟩

end Go.Proofs.Ytnnkebhpmegkfaa
