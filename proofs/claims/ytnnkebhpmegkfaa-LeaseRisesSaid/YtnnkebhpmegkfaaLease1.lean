/- The walks of the table of leases. -/
import Derived.Test.YtnnkebhpmegkfaaRows
import Derived.Test.YtnnkebhpmegkfaaLease0
namespace Go.Proofs.Ytnnkebhpmegkfaa
open Go.RowKit
set_option linter.unusedVariables false

/-- block g holds the table t -/
def TB (w : World) (g : Nat) (t : Tab) : Prop := Blk w g 86 t.cells
theorem TB.cell {w : World} {g : Nat} {t : Tab} (h : TB w g t) (ho : t.ok) (k j : Nat) (hk : k < 6) (hj : j < 3) : w.cell? ⟨g, 2 + k * 3 + j, none⟩ = (t.at k).cells[j]? := by
  rw [Blk.cell h, Tab.cell_at ho k j hk hj]
theorem TB.workers {w : World} {g : Nat} {t : Tab} (h : TB w g t) : w.cell? ⟨g, 0, none⟩ = some (.int .i64 t.workers) := Blk.cell h 0
theorem TB.term {w : World} {g : Nat} {t : Tab} (h : TB w g t) : w.cell? ⟨g, 1, none⟩ = some (.int .i64 t.term) := Blk.cell h 1
theorem TB.life {w : World} {g : Nat} {t : Tab} (h : TB w g t) (ho : t.ok) (k : Nat) (hk : k < 6) : w.cell? ⟨g, 2 + k * 3, none⟩ = some (.int .i64 (t.at k).life) := TB.cell h ho k 0 hk (by decide)
theorem TB.epoch {w : World} {g : Nat} {t : Tab} (h : TB w g t) (ho : t.ok) (k : Nat) (hk : k < 6) : w.cell? ⟨g, 2 + k * 3 + 1, none⟩ = some (.int .i64 (t.at k).epoch) := TB.cell h ho k 1 hk (by decide)
theorem TB.till {w : World} {g : Nat} {t : Tab} (h : TB w g t) (ho : t.ok) (k : Nat) (hk : k < 6) : w.cell? ⟨g, 2 + k * 3 + 2, none⟩ = some (.int .i64 (t.at k).till) := TB.cell h ho k 2 hk (by decide)
theorem TB.set {w : World} {g : Nat} {t : Tab} (h : TB w g t) (ho : t.ok) (k j : Nat) (v : Value) (x : L1) (hk : k < 6) (hj : j < 3) (hx : x.cells = (t.at k).cells.set j v) : TB (w.setCell ⟨g, 2 + k * 3 + j, none⟩ v) g (t.put k x) := by
  unfold TB; rw [← Tab.set_cell ho k j v x hk hj hx]; exact Blk.set h _ _
theorem Blk.grown_self {w : World} {g : Nat} (o : Nat) (v : Value) : w.grownBy (w.setCell ⟨g, o, none⟩ v) (some g) :=
  ⟨rfl, rfl, rfl, by simp, fun k _ hk => heap_setCell_other w ⟨g, o, none⟩ k v (fun e => hk (by simp [e]))⟩
theorem grownBy_drew {a b : World} {row : Option Nat} (h : a.grownBy b row) : a.grownBy b.drew row := ⟨h.os, h.tape, h.output, h.size, h.block⟩
theorem Blk.kept {w w' : World} {g : Nat} {e : TypeId} {cs : List Value} (h : Blk w g e cs) {row : Option Nat} (hg : w.grownBy w' row) (hne : some g ≠ row) : Blk w' g e cs := by
  unfold Blk at *; rw [hg.block g (Blk.lt h) hne]; exact h

set_option maxHeartbeats 400000 in
theorem get_yes (w : World) (g : Nat) (t : Tab) (k : Nat) (h : TB w g t) (h1 : 1 ≤ k) (h2 : (k : Int) ≤ t.workers) (h5 : k ≤ 5) :
    Calls Try.prog 47 #[.pointer (some ⟨g, 0, none⟩), .int .i64 k] w fun e w' => e = .returned (.pointer (some ⟨g, 2 + k * 3, none⟩)) ∧ w = w' := by
  have hc := h.workers
  clear h
  go_enter Try.func47, Try.ntmps47
  go_wp2
  go_ret
  exact ⟨rfl, rfl⟩

set_option maxHeartbeats 400000 in
theorem get_no (w : World) (g : Nat) (t : Tab) (v : Int) (h : TB w g t) (hv : t.is v = false) :
    Calls Try.prog 47 #[.pointer (some ⟨g, 0, none⟩), .int .i64 v] w fun e w' => e = .returned (.pointer none) ∧ w = w' := by
  have hc := h.workers
  have hv' : ¬ (1 ≤ v ∧ v ≤ t.workers) := by simpa [Tab.is] using hv
  clear h hv
  by_cases h1 : v < 1
  · clear hv'
    go_enter Try.func47, Try.ntmps47
    go_wp2
    go_ret
    exact ⟨rfl, rfl⟩
  have h2 : t.workers < v := by omega
  clear hv'
  go_enter Try.func47, Try.ntmps47
  go_wp2
  go_ret
  exact ⟨rfl, rfl⟩

set_option maxHeartbeats 400000 in
theorem get_nil (w : World) (v : Int) :
    Calls Try.prog 47 #[.pointer none, .int .i64 v] w fun e w' => e = .returned (.pointer none) ∧ w = w' := by
  go_enter Try.func47, Try.ntmps47
  go_wp2
  go_ret
  exact ⟨rfl, rfl⟩

set_option maxHeartbeats 400000 in
theorem time_any (w : World) (v : Int) :
    Calls Try.prog 48 #[.int .i64 v] w fun e w' => e = .returned (.bool (okTime v)) ∧ w = w' := by
  by_cases h1 : v < 0
  · have h2 : RowKit.Hid (okTime v = false) := by unfold RowKit.Hid okTime; rw [decide_eq_false_iff_not]; omega
    have h3 : decide (0 ≤ v) = false := by simp; omega
    go_enter Try.func48, Try.ntmps48
    go_wp2
    go_ret
    exact ⟨by rw [h2.out]; rfl, rfl⟩
  by_cases h1' : 1099511627776 < v
  · have h2 : RowKit.Hid (okTime v = false) := by unfold RowKit.Hid okTime; rw [decide_eq_false_iff_not]; omega
    have h3 : decide (v ≤ 1099511627776) = false := by simp; omega
    go_enter Try.func48, Try.ntmps48
    go_wp2
    go_ret
    exact ⟨by rw [h2.out]; rfl, rfl⟩
  have h2 : RowKit.Hid (okTime v = true) := by unfold RowKit.Hid okTime; rw [decide_eq_true_iff]; omega
  have h3 : decide (v ≤ 1099511627776) = true := by simp; omega
  have h4 : decide (0 ≤ v) = true := by simp; omega
  go_enter Try.func48, Try.ntmps48
  go_wp2
  go_ret
  exact ⟨by rw [h2.out]; rfl, rfl⟩

set_option maxHeartbeats 400000 in
theorem lives_any (w : World) (g : Nat) (t : Tab) (k : Nat) (now : Int) (h : TB w g t) (ho : t.ok) (hk : k < 6) (hn : 0 ≤ now ∧ now ≤ 1099511627776) :
    Calls Try.prog 49 #[.pointer (some ⟨g, 0, none⟩), .pointer (some ⟨g, 2 + k * 3, none⟩), .int .i64 now] w fun e w' => e = .returned (.tuple #[]) ∧ TB w' g (t.put k ((t.at k).on (now + t.term))) ∧ w.grownBy w' (some g) := by
  have hc := h.term
  have hc2 := h.till ho k hk
  have hf := Blk.frozen h (2 + k * 3 + 2)
  have HS := Lib.hid (h.set ho k 2 (.int .i64 (max (t.at k).till (now + t.term))) ((t.at k).on (now + t.term)) hk (by decide) rfl)
  have hb1 := ho.term0
  have hb2 := ho.term1
  have hb3 := (ho.at k).till0
  have hb4 := (ho.at k).till1
  generalize (t.at k).on (now + t.term) = X at *
  generalize (t.at k).till = T at *
  generalize t.term = M at *
  have hmax : (if T < now + M then now + M else T) = max T (now + M) := by split <;> omega
  clear h ho
  go_enter Try.func49, Try.ntmps49
  go_wp2
  go_region
  all_goals go_wp2
  go_end0
  exact ⟨rfl, HS.out, grownBy_drew (Blk.grown_self _ _)⟩

set_option maxHeartbeats 400000 in
theorem hello_bad (w : World) (g : Nat) (t : Tab) (v life now : Int) (h : TB w g t) (ho : t.ok) (hb : okHello t v life now = false) :
    Calls Try.prog 17 #[.pointer (some ⟨g, 0, none⟩), .int .i64 v, .int .i64 life, .int .i64 now] w fun e w' => e = .returned (.tuple #[.int .i64 0, .int .i64 2]) ∧ w = w' := by
  have H := Lib.hid h
  clear h
  cases his : t.is v with
  | false =>
    have HG := Lib.hid (get_no w g t v H.out his)
    clear hb his
    go_enter Try.func17, Try.ntmps17
    go_wp2_with fail
    refine (HG.out).mono ?_
    rintro e w' ⟨rfl, rfl⟩
    go_wp2_with fail
    go_ret2
    exact ⟨rfl, rfl⟩
  | true =>
    have hk : ∃ k : Nat, v = k ∧ 1 ≤ k ∧ k ≤ 5 ∧ (k : Int) ≤ t.workers := by
      simp only [Tab.is, decide_eq_true_eq] at his
      have := ho.workers1
      exact ⟨v.toNat, by omega, by omega, by omega, by omega⟩
    obtain ⟨k, rfl, hk1, hk5, hkw⟩ := hk
    have HG := Lib.hid (get_yes w g t k H.out hk1 hkw hk5)
    clear his
    by_cases h1 : life < 1
    · clear hb
      go_enter Try.func17, Try.ntmps17
      go_wp2_with fail
      refine (HG.out).mono ?_
      rintro e w' ⟨rfl, rfl⟩
      go_wp2_with fail
      go_ret2
      exact ⟨rfl, rfl⟩
    by_cases h2 : 2147483647 < life
    · clear hb
      go_enter Try.func17, Try.ntmps17
      go_wp2_with fail
      refine (HG.out).mono ?_
      rintro e w' ⟨rfl, rfl⟩
      go_wp2_with fail
      go_ret2
      exact ⟨rfl, rfl⟩
    have h3 : okTime now = false := by
      have his : t.is (k : Int) = true := by simp only [Tab.is, decide_eq_true_eq]; omega
      simp only [okHello, his, Bool.true_and] at hb
      rw [show decide (1 ≤ life ∧ life ≤ 2147483647) = true by rw [decide_eq_true_iff]; omega, Bool.true_and] at hb
      exact hb
    have HT := Lib.hid (time_any w now)
    rw [h3] at HT
    clear hb h3
    go_enter Try.func17, Try.ntmps17
    go_wp2_with fail
    refine (HG.out).mono ?_
    rintro e w' ⟨rfl, rfl⟩
    go_wp2_with fail
    refine (HT.out).mono ?_
    rintro e w' ⟨rfl, rfl⟩
    go_wp2_with fail
    go_ret2
    exact ⟨rfl, rfl⟩

set_option maxHeartbeats 400000 in
theorem hello_old (w : World) (g : Nat) (t : Tab) (v life now : Int) (h : TB w g t) (ho : t.ok) (hb : okHello t v life now = true) (hold : life < (t.at v).life) :
    Calls Try.prog 17 #[.pointer (some ⟨g, 0, none⟩), .int .i64 v, .int .i64 life, .int .i64 now] w fun e w' => e = .returned (.tuple #[.int .i64 0, .int .i64 4]) ∧ w = w' := by
  have H := Lib.hid h
  clear h
  simp only [okHello, Bool.and_eq_true, decide_eq_true_eq] at hb
  obtain ⟨⟨his, hl1, hl2⟩, htm⟩ := hb
  have hk : ∃ k : Nat, v = k ∧ 1 ≤ k ∧ k ≤ 5 ∧ (k : Int) ≤ t.workers := by
    simp only [Tab.is, decide_eq_true_eq] at his
    have := ho.workers1
    exact ⟨v.toNat, by omega, by omega, by omega, by omega⟩
  obtain ⟨k, rfl, hk1, hk5, hkw⟩ := hk
  have HG := Lib.hid (get_yes w g t k H.out hk1 hkw hk5)
  have HT := Lib.hid (time_any w now)
  rw [htm] at HT
  have htm' : 0 ≤ now ∧ now ≤ 1099511627776 := by simpa [okTime] using htm
  have hc := H.out.life ho k (by omega)
  have hce := H.out.epoch ho k (by omega)
  clear his htm
  generalize (t.at (k : Int)).life = L at *
  go_enter Try.func17, Try.ntmps17
  go_wp2_with fail
  refine (HG.out).mono ?_
  rintro e w' ⟨rfl, rfl⟩
  go_wp2_with fail
  refine (HT.out).mono ?_
  rintro e w' ⟨rfl, rfl⟩
  go_wp2_with fail
  go_ret2
  exact ⟨rfl, rfl⟩

set_option maxHeartbeats 600000 in
theorem hello_same (w : World) (g : Nat) (t : Tab) (v life now : Int) (h : TB w g t) (ho : t.ok) (hb : okHello t v life now = true) (hsame : life = (t.at v).life) :
    Calls Try.prog 17 #[.pointer (some ⟨g, 0, none⟩), .int .i64 v, .int .i64 life, .int .i64 now] w fun e w' => e = .returned (.tuple #[.int .i64 (t.at v).epoch, .int .i64 0]) ∧ TB w' g (t.put v ((t.at v).on (now + t.term))) ∧ w.grownBy w' (some g) := by
  have H := Lib.hid h
  clear h
  simp only [okHello, Bool.and_eq_true, decide_eq_true_eq] at hb
  obtain ⟨⟨his, hl1, hl2⟩, htm⟩ := hb
  have hk : ∃ k : Nat, v = k ∧ 1 ≤ k ∧ k ≤ 5 ∧ (k : Int) ≤ t.workers := by
    simp only [Tab.is, decide_eq_true_eq] at his
    have := ho.workers1
    exact ⟨v.toNat, by omega, by omega, by omega, by omega⟩
  obtain ⟨k, rfl, hk1, hk5, hkw⟩ := hk
  have HG := Lib.hid (get_yes w g t k H.out hk1 hkw hk5)
  have HT := Lib.hid (time_any w now)
  rw [htm] at HT
  have htm' : 0 ≤ now ∧ now ≤ 1099511627776 := by simpa [okTime] using htm
  have hc := H.out.life ho k (by omega)
  have hce := H.out.epoch ho k (by omega)
  clear his htm
  have HIS : t.is (k : Int) = true := by simp only [Tab.is, decide_eq_true_eq]; omega
  have HLV := Lib.hid (lives_any w g t k now H.out ho (by omega) htm')
  have HOK := Lib.hid ho
  have HOK2 : RowKit.Hid ((t.put (k : Int) ((t.at (k : Int)).on (now + t.term))).ok) := ho.put _ ((ho.at k).on (by have := ho.term1; omega))
  have HAT : RowKit.Hid (((t.put (k : Int) ((t.at (k : Int)).on (now + t.term))).at (k : Int)).epoch = (t.at (k : Int)).epoch) := by
    unfold RowKit.Hid; rw [Tab.at_put ho (k : Int) k _ HIS, if_pos rfl]; rfl
  have h0 : (t.at (k : Int)).life ≤ life := by omega
  have h9 : life ≤ (t.at (k : Int)).life := by omega
  clear hsame ho HIS
  generalize t.put (k : Int) ((t.at (k : Int)).on (now + t.term)) = t2 at *
  generalize (t.at (k : Int)).life = L at *
  generalize (t.at (k : Int)).epoch = E at *
  go_enter Try.func17, Try.ntmps17
  go_wp2_with fail
  refine (HG.out).mono ?_
  rintro e w' ⟨rfl, rfl⟩
  go_wp2_with fail
  refine (HT.out).mono ?_
  rintro e w' ⟨rfl, rfl⟩
  go_wp2_with fail
  refine (HLV.out).mono ?_
  rintro e w2 ⟨rfl, htb, hgr⟩
  have hce2 := htb.epoch HOK2.out k (by omega)
  rw [HAT.out] at hce2
  have HTB := Lib.hid htb
  have HGR := Lib.hid hgr
  clear htb hgr hc hce
  go_wp2_with fail
  go_ret2
  exact ⟨rfl, HTB.out, HGR.out⟩

set_option maxHeartbeats 600000 in
theorem hello_new (w : World) (g : Nat) (t : Tab) (v life now : Int) (h : TB w g t) (ho : t.ok) (hb : okHello t v life now = true) (hnew : (t.at v).life < life) :
    Calls Try.prog 17 #[.pointer (some ⟨g, 0, none⟩), .int .i64 v, .int .i64 life, .int .i64 now] w fun e w' => e = .returned (.tuple #[.int .i64 ((t.at v).epoch + 1), .int .i64 0]) ∧ TB w' g (t.put v (((t.at v).told life).on (now + t.term))) ∧ w.grownBy w' (some g) := by
  have H := Lib.hid h
  clear h
  simp only [okHello, Bool.and_eq_true, decide_eq_true_eq] at hb
  obtain ⟨⟨his, hl1, hl2⟩, htm⟩ := hb
  have hk : ∃ k : Nat, v = k ∧ 1 ≤ k ∧ k ≤ 5 ∧ (k : Int) ≤ t.workers := by
    simp only [Tab.is, decide_eq_true_eq] at his
    have := ho.workers1
    exact ⟨v.toNat, by omega, by omega, by omega, by omega⟩
  obtain ⟨k, rfl, hk1, hk5, hkw⟩ := hk
  have HG := Lib.hid (get_yes w g t k H.out hk1 hkw hk5)
  have HT := Lib.hid (time_any w now)
  rw [htm] at HT
  have htm' : 0 ≤ now ∧ now ≤ 1099511627776 := by simpa [okTime] using htm
  have hc := H.out.life ho k (by omega)
  have hce := H.out.epoch ho k (by omega)
  clear his htm
  have HIS : t.is (k : Int) = true := by simp only [Tab.is, decide_eq_true_eq]; omega
  have htold : (t.at (k : Int)).told life = ⟨life, (t.at (k : Int)).epoch + 1, (t.at (k : Int)).till⟩ := by unfold L1.told; rw [if_pos hnew]
  have hox := (ho.at (k : Int)).told hl1 hl2
  have hf0 := Blk.frozen H.out (2 + k * 3)
  have hf1 := Blk.frozen H.out (2 + k * 3 + 1)
  have hb3 := (ho.at (k : Int)).epoch0
  have hb4 := (ho.at (k : Int)).epoch1
  have hb5 := (ho.at (k : Int)).life1
  have H1 := Lib.hid (H.out.set ho k 0 (.int .i64 life) ⟨life, (t.at (k : Int)).epoch, (t.at (k : Int)).till⟩ (by omega) (by decide) rfl)
  have ho1 : (t.put (k : Int) ⟨life, (t.at (k : Int)).epoch, (t.at (k : Int)).till⟩).ok := ho.put _ ⟨by simp; omega, hl2, hb3, by simp; omega, (ho.at (k : Int)).till0, (ho.at (k : Int)).till1⟩
  have hat1 : (t.put (k : Int) ⟨life, (t.at (k : Int)).epoch, (t.at (k : Int)).till⟩).at (k : Int) = ⟨life, (t.at (k : Int)).epoch, (t.at (k : Int)).till⟩ := by rw [Tab.at_put ho (k : Int) k _ HIS, if_pos rfl]
  have H2 := Lib.hid (H1.out.set ho1 k 1 (.int .i64 ((t.at (k : Int)).epoch + 1)) ⟨life, (t.at (k : Int)).epoch + 1, (t.at (k : Int)).till⟩ (by omega) (by decide) (by rw [hat1]; rfl))
  have hpp : ∀ x y : L1, (t.put (k : Int) x).put (k : Int) y = t.put (k : Int) y := by intro x y; simp [Tab.put]
  rw [hpp, ← htold] at H2
  have ho2 : (t.put (k : Int) ((t.at (k : Int)).told life)).ok := ho.put _ hox
  have hat2 : (t.put (k : Int) ((t.at (k : Int)).told life)).at (k : Int) = (t.at (k : Int)).told life := by rw [Tab.at_put ho (k : Int) k _ HIS, if_pos rfl]
  have HLV := fun W hW => Lib.hid (lives_any W g (t.put (k : Int) ((t.at (k : Int)).told life)) k now hW ho2 (by omega) htm')
  have HLV' : RowKit.Hid (∀ W, TB W g (t.put (k : Int) ((t.at (k : Int)).told life)) → Calls Try.prog 49 #[.pointer (some ⟨g, 0, none⟩), .pointer (some ⟨g, 2 + k * 3, none⟩), .int .i64 now] W fun e w' => e = .returned (.tuple #[]) ∧ TB w' g (t.put (k : Int) (((t.at (k : Int)).told life).on (now + t.term))) ∧ W.grownBy w' (some g)) := by
    intro W hW
    have := (HLV W hW).out
    rw [hat2, hpp] at this
    exact this
  have HOK2 : RowKit.Hid ((t.put (k : Int) (((t.at (k : Int)).told life).on (now + t.term))).ok) := ho.put _ (hox.on (by have := ho.term1; omega))
  have HAT : RowKit.Hid (((t.put (k : Int) (((t.at (k : Int)).told life).on (now + t.term))).at (k : Int)).epoch = (t.at (k : Int)).epoch + 1) := by
    unfold RowKit.Hid; rw [Tab.at_put ho (k : Int) k _ HIS, if_pos rfl, htold]; rfl
  clear HLV ho HIS htold hox H1 ho1 hat1 hpp ho2 hat2
  generalize t.put (k : Int) (((t.at (k : Int)).told life).on (now + t.term)) = t2 at *
  generalize t.put (k : Int) ((t.at (k : Int)).told life) = t1 at *
  generalize (t.at (k : Int)).life = L at *
  generalize (t.at (k : Int)).epoch = E at *
  go_enter Try.func17, Try.ntmps17
  go_wp2_with fail
  refine (HG.out).mono ?_
  rintro e w' ⟨rfl, rfl⟩
  go_wp2_with fail
  refine (HT.out).mono ?_
  rintro e w' ⟨rfl, rfl⟩
  go_wp2_with fail
  refine (HLV'.out _ H2.out).mono ?_
  rintro e w2 ⟨rfl, htb, hgr⟩
  have hce2 := htb.epoch HOK2.out k (by omega)
  rw [HAT.out] at hce2
  have HTB := Lib.hid htb
  have HGR := Lib.hid (grownBy_trans (grownBy_trans (Blk.grown_self _ _) (Blk.grown_self _ _)) hgr)
  clear htb hgr hc hce
  go_wp2_with fail
  go_ret2
  exact ⟨rfl, HTB.out, HGR.out⟩

set_option maxHeartbeats 600000 in
theorem seen_bad (w : World) (g : Nat) (t : Tab) (v ep now : Int) (h : TB w g t) (ho : t.ok) (hb : okSeen t v ep now = false) :
    Calls Try.prog 21 #[.pointer (some ⟨g, 0, none⟩), .int .i64 v, .int .i64 ep, .int .i64 now] w fun e w' => e = .returned (.bool false) ∧ w = w' := by
  have H := Lib.hid h
  clear h
  cases his : t.is v with
  | false =>
    have HG := Lib.hid (get_no w g t v H.out his)
    clear hb his
    go_enter Try.func21, Try.ntmps21
    go_wp2_with fail
    refine (HG.out).mono ?_
    rintro e w' ⟨rfl, rfl⟩
    go_wp2_with fail
    go_ret
    exact ⟨rfl, rfl⟩
  | true =>
    have hk : ∃ k : Nat, v = k ∧ 1 ≤ k ∧ k ≤ 5 ∧ (k : Int) ≤ t.workers := by
      simp only [Tab.is, decide_eq_true_eq] at his
      have := ho.workers1
      exact ⟨v.toNat, by omega, by omega, by omega, by omega⟩
    obtain ⟨k, rfl, hk1, hk5, hkw⟩ := hk
    have HG := Lib.hid (get_yes w g t k H.out hk1 hkw hk5)
    have hce := H.out.epoch ho k (by omega)
    simp only [okSeen, his, Bool.true_and] at hb
    clear his
    by_cases h1 : (t.at (k : Int)).epoch = 0
    · rw [h1] at hce
      clear hb h1
      go_enter Try.func21, Try.ntmps21
      go_wp2_with fail
      refine (HG.out).mono ?_
      rintro e w' ⟨rfl, rfl⟩
      go_wp2_with fail
      go_ret
      exact ⟨rfl, rfl⟩
    have h1' : ((t.at (k : Int)).epoch == 0) = false := by simp; omega
    by_cases h2 : (t.at (k : Int)).epoch = ep
    · have h3 : okTime now = false := by
        rw [show decide ((t.at (k : Int)).epoch ≠ 0 ∧ (t.at (k : Int)).epoch = ep) = true by rw [decide_eq_true_iff]; exact ⟨h1, h2⟩, Bool.true_and] at hb
        exact hb
      have HT := Lib.hid (time_any w now)
      rw [h3] at HT
      subst h2
      clear hb h3 h1
      generalize (t.at (k : Int)).epoch = E at *
      go_enter Try.func21, Try.ntmps21
      go_wp2_with fail
      refine (HG.out).mono ?_
      rintro e w' ⟨rfl, rfl⟩
      go_wp2_with fail
      refine (HT.out).mono ?_
      rintro e w' ⟨rfl, rfl⟩
      go_wp2_with fail
      go_ret
      exact ⟨rfl, rfl⟩
    have h2' : ((t.at (k : Int)).epoch != ep) = true := by simp; exact h2
    clear hb h1 h2
    generalize (t.at (k : Int)).epoch = E at *
    go_enter Try.func21, Try.ntmps21
    go_wp2_with fail
    refine (HG.out).mono ?_
    rintro e w' ⟨rfl, rfl⟩
    go_wp2_with fail
    go_ret
    exact ⟨rfl, rfl⟩

set_option maxHeartbeats 600000 in
theorem seen_good (w : World) (g : Nat) (t : Tab) (v ep now : Int) (h : TB w g t) (ho : t.ok) (hb : okSeen t v ep now = true) :
    Calls Try.prog 21 #[.pointer (some ⟨g, 0, none⟩), .int .i64 v, .int .i64 ep, .int .i64 now] w fun e w' => e = .returned (.bool true) ∧ TB w' g (t.put v ((t.at v).on (now + t.term))) ∧ w.grownBy w' (some g) := by
  have H := Lib.hid h
  clear h
  simp only [okSeen, Bool.and_eq_true, decide_eq_true_eq] at hb
  obtain ⟨⟨his, hl1, hl2⟩, htm⟩ := hb
  have hk : ∃ k : Nat, v = k ∧ 1 ≤ k ∧ k ≤ 5 ∧ (k : Int) ≤ t.workers := by
    simp only [Tab.is, decide_eq_true_eq] at his
    have := ho.workers1
    exact ⟨v.toNat, by omega, by omega, by omega, by omega⟩
  obtain ⟨k, rfl, hk1, hk5, hkw⟩ := hk
  have HG := Lib.hid (get_yes w g t k H.out hk1 hkw hk5)
  have HT := Lib.hid (time_any w now)
  rw [htm] at HT
  have htm' : 0 ≤ now ∧ now ≤ 1099511627776 := by simpa [okTime] using htm
  have hce := H.out.epoch ho k (by omega)
  have HLV := Lib.hid (lives_any w g t k now H.out ho (by omega) htm')
  have h1' : ((t.at (k : Int)).epoch == 0) = false := by simp; omega
  subst hl2
  clear his htm ho hl1
  generalize t.put (k : Int) ((t.at (k : Int)).on (now + t.term)) = t2 at *
  generalize (t.at (k : Int)).epoch = E at *
  go_enter Try.func21, Try.ntmps21
  go_wp2_with fail
  refine (HG.out).mono ?_
  rintro e w' ⟨rfl, rfl⟩
  go_wp2_with fail
  refine (HT.out).mono ?_
  rintro e w' ⟨rfl, rfl⟩
  go_wp2_with fail
  refine (HLV.out).mono ?_
  rintro e w2 ⟨rfl, htb, hgr⟩
  have HTB := Lib.hid htb
  have HGR := Lib.hid hgr
  clear htb hgr
  go_wp2_with fail
  go_ret
  exact ⟨rfl, HTB.out, HGR.out⟩

end Go.Proofs.Ytnnkebhpmegkfaa
