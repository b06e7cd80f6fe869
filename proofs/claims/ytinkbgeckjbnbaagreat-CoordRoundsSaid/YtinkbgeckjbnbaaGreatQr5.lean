/- Lemmas for the law (part 5): Lease1, Lease2, Part6, Co5, Mm0, Mm1, Mm2, Co6, AppA -/
import Derived.Test.YtinkbgeckjbnbaaGreatRows
import Derived.Deep.Cut
import Derived.Deep.CutRange
import Derived.IntWalk
import Derived.Test.YtinkbgeckjbnbaaGreatQr4
namespace Go.Proofs.YtinkbgeckjbnbaaGreat
section
open Go.RowKit
set_option linter.unusedVariables false

/-- block g holds the table t -/
def TB (w : World) (g : Nat) (t : Tab) : Prop := Blk w g 217 t.cells
set_option maxRecDepth 100000 in
theorem TB.cell {w : World} {g : Nat} {t : Tab} (h : TB w g t) (ho : t.ok) (k j : Nat) (hk : k < 6) (hj : j < 3) : w.cell? ⟨g, 2 + k * 3 + j, none⟩ = (t.at k).cells[j]? := by
  rw [Blk.cell h, Tab.cell_at ho k j hk hj]
set_option maxRecDepth 100000 in
theorem TB.workers {w : World} {g : Nat} {t : Tab} (h : TB w g t) : w.cell? ⟨g, 0, none⟩ = some (.int .i64 t.workers) := Blk.cell h 0
set_option maxRecDepth 100000 in
theorem TB.term {w : World} {g : Nat} {t : Tab} (h : TB w g t) : w.cell? ⟨g, 1, none⟩ = some (.int .i64 t.term) := Blk.cell h 1
set_option maxRecDepth 100000 in
theorem TB.life {w : World} {g : Nat} {t : Tab} (h : TB w g t) (ho : t.ok) (k : Nat) (hk : k < 6) : w.cell? ⟨g, 2 + k * 3, none⟩ = some (.int .i64 (t.at k).life) := TB.cell h ho k 0 hk (by decide)
set_option maxRecDepth 100000 in
theorem TB.epoch {w : World} {g : Nat} {t : Tab} (h : TB w g t) (ho : t.ok) (k : Nat) (hk : k < 6) : w.cell? ⟨g, 2 + k * 3 + 1, none⟩ = some (.int .i64 (t.at k).epoch) := TB.cell h ho k 1 hk (by decide)
set_option maxRecDepth 100000 in
theorem TB.till {w : World} {g : Nat} {t : Tab} (h : TB w g t) (ho : t.ok) (k : Nat) (hk : k < 6) : w.cell? ⟨g, 2 + k * 3 + 2, none⟩ = some (.int .i64 (t.at k).till) := TB.cell h ho k 2 hk (by decide)
set_option maxRecDepth 100000 in
theorem TB.set {w : World} {g : Nat} {t : Tab} (h : TB w g t) (ho : t.ok) (k j : Nat) (v : Value) (x : L1) (hk : k < 6) (hj : j < 3) (hx : x.cells = (t.at k).cells.set j v) : TB (w.setCell ⟨g, 2 + k * 3 + j, none⟩ v) g (t.put k x) := by
  unfold TB; rw [← Tab.set_cell ho k j v x hk hj hx]; exact Blk.set h _ _
set_option maxRecDepth 100000 in
theorem Blk.grown_self {w : World} {g : Nat} (o : Nat) (v : Value) : w.grownBy (w.setCell ⟨g, o, none⟩ v) (some g) :=
  ⟨rfl, rfl, rfl, by simp, fun k _ hk => heap_setCell_other w ⟨g, o, none⟩ k v (fun e => hk (by simp [e]))⟩
set_option maxRecDepth 100000 in
theorem grownBy_drew {a b : World} {row : Option Nat} (h : a.grownBy b row) : a.grownBy b.drew row := ⟨h.os, h.tape, h.output, h.size, h.block⟩
set_option maxRecDepth 100000 in
theorem Blk.kept {w w' : World} {g : Nat} {e : TypeId} {cs : List Value} (h : Blk w g e cs) {row : Option Nat} (hg : w.grownBy w' row) (hne : some g ≠ row) : Blk w' g e cs := by
  unfold Blk at *; rw [hg.block g (Blk.lt h) hne]; exact h

set_option maxRecDepth 100000 in
set_option maxHeartbeats 400000 in
theorem get_yes (w : World) (g : Nat) (t : Tab) (k : Nat) (h : TB w g t) (h1 : 1 ≤ k) (h2 : (k : Int) ≤ t.workers) (h5 : k ≤ 5) :
    Calls Tryz.prog 125 #[.pointer (some ⟨g, 0, none⟩), .int .i64 k] w fun e w' => e = .returned (.pointer (some ⟨g, 2 + k * 3, none⟩)) ∧ w = w' := by
  have hc := h.workers
  clear h
  go_enter Tryz.func125, Tryz.ntmps125
  go_wp2
  go_ret
  exact ⟨rfl, rfl⟩

set_option maxRecDepth 100000 in
set_option maxHeartbeats 400000 in
theorem get_no (w : World) (g : Nat) (t : Tab) (v : Int) (h : TB w g t) (hv : t.is v = false) :
    Calls Tryz.prog 125 #[.pointer (some ⟨g, 0, none⟩), .int .i64 v] w fun e w' => e = .returned (.pointer none) ∧ w = w' := by
  have hc := h.workers
  have hv' : ¬ (1 ≤ v ∧ v ≤ t.workers) := by simpa [Tab.is] using hv
  clear h hv
  by_cases h1 : v < 1
  · clear hv'
    go_enter Tryz.func125, Tryz.ntmps125
    go_wp2
    go_ret
    exact ⟨rfl, rfl⟩
  have h2 : t.workers < v := by omega
  clear hv'
  go_enter Tryz.func125, Tryz.ntmps125
  go_wp2
  go_ret
  exact ⟨rfl, rfl⟩

set_option maxRecDepth 100000 in
set_option maxHeartbeats 400000 in
theorem time_any (w : World) (v : Int) :
    Calls Tryz.prog 159 #[.int .i64 v] w fun e w' => e = .returned (.bool (okTime v)) ∧ w = w' := by
  by_cases h1 : v < 0
  · have h2 : RowKit.Hid (okTime v = false) := by unfold RowKit.Hid okTime; rw [decide_eq_false_iff_not]; omega
    have h3 : decide (0 ≤ v) = false := by simp; omega
    go_enter Tryz.func159, Tryz.ntmps159
    go_wp2
    go_ret
    exact ⟨by rw [h2.out]; rfl, rfl⟩
  by_cases h1' : 1099511627776 < v
  · have h2 : RowKit.Hid (okTime v = false) := by unfold RowKit.Hid okTime; rw [decide_eq_false_iff_not]; omega
    have h3 : decide (v ≤ 1099511627776) = false := by simp; omega
    go_enter Tryz.func159, Tryz.ntmps159
    go_wp2
    go_ret
    exact ⟨by rw [h2.out]; rfl, rfl⟩
  have h2 : RowKit.Hid (okTime v = true) := by unfold RowKit.Hid okTime; rw [decide_eq_true_iff]; omega
  have h3 : decide (v ≤ 1099511627776) = true := by simp; omega
  have h4 : decide (0 ≤ v) = true := by simp; omega
  go_enter Tryz.func159, Tryz.ntmps159
  go_wp2
  go_ret
  exact ⟨by rw [h2.out]; rfl, rfl⟩

set_option maxRecDepth 100000 in
set_option maxHeartbeats 400000 in
theorem lives_any (w : World) (g : Nat) (t : Tab) (k : Nat) (now : Int) (h : TB w g t) (ho : t.ok) (hk : k < 6) (hn : 0 ≤ now ∧ now ≤ 1099511627776) :
    Calls Tryz.prog 160 #[.pointer (some ⟨g, 0, none⟩), .pointer (some ⟨g, 2 + k * 3, none⟩), .int .i64 now] w fun e w' => e = .returned (.tuple #[]) ∧ TB w' g (t.put k ((t.at k).on (now + t.term))) ∧ w.grownBy w' (some g) := by
  have hc := h.term
  have hc2 := h.till ho k hk
  have hf := Blk.frozen h (2 + k * 3 + 2)
  have HS := Lib.hid (h.set ho k 2 (.int .i64 (max (t.at k).till (now + t.term))) ((t.at k).on (now + t.term)) hk (by decide) rfl)
  have hb1 := ho.term0
  have hb2 := ho.term1
  have hb3 := (ho.at k).till0
  have hb4 := (ho.at k).till1
  generalize (t.at k).on (now + t.term) = X at *
  generalize (t.at k).till = T at *
  generalize t.term = M at *
  have hmax : (if T < now + M then now + M else T) = max T (now + M) := by split <;> omega
  clear h ho
  go_enter Tryz.func160, Tryz.ntmps160
  go_wp2
  go_region
  all_goals go_wp2
  go_end0
  exact ⟨rfl, HS.out, grownBy_drew (Blk.grown_self _ _)⟩

set_option maxRecDepth 100000 in
set_option maxHeartbeats 400000 in
theorem hello_bad (w : World) (g : Nat) (t : Tab) (v life now : Int) (h : TB w g t) (ho : t.ok) (hb : okHello t v life now = false) :
    Calls Tryz.prog 105 #[.pointer (some ⟨g, 0, none⟩), .int .i64 v, .int .i64 life, .int .i64 now] w fun e w' => e = .returned (.tuple #[.int .i64 0, .int .i64 2]) ∧ w = w' := by
  have H := Lib.hid h
  clear h
  cases his : t.is v with
  | false =>
    have HG := Lib.hid (get_no w g t v H.out his)
    clear hb his
    go_enter Tryz.func105, Tryz.ntmps105
    go_wp2_with fail
    refine (HG.out).mono ?_
    rintro e w' ⟨rfl, rfl⟩
    go_wp2_with fail
    go_ret2
    exact ⟨rfl, rfl⟩
  | true =>
    have hk : ∃ k : Nat, v = k ∧ 1 ≤ k ∧ k ≤ 5 ∧ (k : Int) ≤ t.workers := by
      simp only [Tab.is, decide_eq_true_eq] at his
      have := ho.workers1
      exact ⟨v.toNat, by omega, by omega, by omega, by omega⟩
    obtain ⟨k, rfl, hk1, hk5, hkw⟩ := hk
    have HG := Lib.hid (get_yes w g t k H.out hk1 hkw hk5)
    clear his
    by_cases h1 : life < 1
    · clear hb
      go_enter Tryz.func105, Tryz.ntmps105
      go_wp2_with fail
      refine (HG.out).mono ?_
      rintro e w' ⟨rfl, rfl⟩
      go_wp2_with fail
      go_ret2
      exact ⟨rfl, rfl⟩
    by_cases h2 : 2147483647 < life
    · clear hb
      go_enter Tryz.func105, Tryz.ntmps105
      go_wp2_with fail
      refine (HG.out).mono ?_
      rintro e w' ⟨rfl, rfl⟩
      go_wp2_with fail
      go_ret2
      exact ⟨rfl, rfl⟩
    have h3 : okTime now = false := by
      have his : t.is (k : Int) = true := by simp only [Tab.is, decide_eq_true_eq]; omega
      simp only [okHello, his, Bool.true_and] at hb
      rw [show decide (1 ≤ life ∧ life ≤ 2147483647) = true by rw [decide_eq_true_iff]; omega, Bool.true_and] at hb
      exact hb
    have HT := Lib.hid (time_any w now)
    rw [h3] at HT
    clear hb h3
    go_enter Tryz.func105, Tryz.ntmps105
    go_wp2_with fail
    refine (HG.out).mono ?_
    rintro e w' ⟨rfl, rfl⟩
    go_wp2_with fail
    refine (HT.out).mono ?_
    rintro e w' ⟨rfl, rfl⟩
    go_wp2_with fail
    go_ret2
    exact ⟨rfl, rfl⟩

set_option maxRecDepth 100000 in
set_option maxHeartbeats 400000 in
theorem hello_old (w : World) (g : Nat) (t : Tab) (v life now : Int) (h : TB w g t) (ho : t.ok) (hb : okHello t v life now = true) (hold : life < (t.at v).life) :
    Calls Tryz.prog 105 #[.pointer (some ⟨g, 0, none⟩), .int .i64 v, .int .i64 life, .int .i64 now] w fun e w' => e = .returned (.tuple #[.int .i64 0, .int .i64 4]) ∧ w = w' := by
  have H := Lib.hid h
  clear h
  simp only [okHello, Bool.and_eq_true, decide_eq_true_eq] at hb
  obtain ⟨⟨his, hl1, hl2⟩, htm⟩ := hb
  have hk : ∃ k : Nat, v = k ∧ 1 ≤ k ∧ k ≤ 5 ∧ (k : Int) ≤ t.workers := by
    simp only [Tab.is, decide_eq_true_eq] at his
    have := ho.workers1
    exact ⟨v.toNat, by omega, by omega, by omega, by omega⟩
  obtain ⟨k, rfl, hk1, hk5, hkw⟩ := hk
  have HG := Lib.hid (get_yes w g t k H.out hk1 hkw hk5)
  have HT := Lib.hid (time_any w now)
  rw [htm] at HT
  have htm' : 0 ≤ now ∧ now ≤ 1099511627776 := by simpa [okTime] using htm
  have hc := H.out.life ho k (by omega)
  have hce := H.out.epoch ho k (by omega)
  clear his htm
  generalize (t.at (k : Int)).life = L at *
  go_enter Tryz.func105, Tryz.ntmps105
  go_wp2_with fail
  refine (HG.out).mono ?_
  rintro e w' ⟨rfl, rfl⟩
  go_wp2_with fail
  refine (HT.out).mono ?_
  rintro e w' ⟨rfl, rfl⟩
  go_wp2_with fail
  go_ret2
  exact ⟨rfl, rfl⟩

set_option maxRecDepth 100000 in
set_option maxHeartbeats 600000 in
theorem hello_same (w : World) (g : Nat) (t : Tab) (v life now : Int) (h : TB w g t) (ho : t.ok) (hb : okHello t v life now = true) (hsame : life = (t.at v).life) :
    Calls Tryz.prog 105 #[.pointer (some ⟨g, 0, none⟩), .int .i64 v, .int .i64 life, .int .i64 now] w fun e w' => e = .returned (.tuple #[.int .i64 (t.at v).epoch, .int .i64 0]) ∧ TB w' g (t.put v ((t.at v).on (now + t.term))) ∧ w.grownBy w' (some g) := by
  have H := Lib.hid h
  clear h
  simp only [okHello, Bool.and_eq_true, decide_eq_true_eq] at hb
  obtain ⟨⟨his, hl1, hl2⟩, htm⟩ := hb
  have hk : ∃ k : Nat, v = k ∧ 1 ≤ k ∧ k ≤ 5 ∧ (k : Int) ≤ t.workers := by
    simp only [Tab.is, decide_eq_true_eq] at his
    have := ho.workers1
    exact ⟨v.toNat, by omega, by omega, by omega, by omega⟩
  obtain ⟨k, rfl, hk1, hk5, hkw⟩ := hk
  have HG := Lib.hid (get_yes w g t k H.out hk1 hkw hk5)
  have HT := Lib.hid (time_any w now)
  rw [htm] at HT
  have htm' : 0 ≤ now ∧ now ≤ 1099511627776 := by simpa [okTime] using htm
  have hc := H.out.life ho k (by omega)
  have hce := H.out.epoch ho k (by omega)
  clear his htm
  have HIS : t.is (k : Int) = true := by simp only [Tab.is, decide_eq_true_eq]; omega
  have HLV := Lib.hid (lives_any w g t k now H.out ho (by omega) htm')
  have HOK := Lib.hid ho
  have HOK2 : RowKit.Hid ((t.put (k : Int) ((t.at (k : Int)).on (now + t.term))).ok) := ho.put _ ((ho.at k).on (by have := ho.term1; omega))
  have HAT : RowKit.Hid (((t.put (k : Int) ((t.at (k : Int)).on (now + t.term))).at (k : Int)).epoch = (t.at (k : Int)).epoch) := by
    unfold RowKit.Hid; rw [Tab.at_put ho (k : Int) k _ HIS, if_pos rfl]; rfl
  have h0 : (t.at (k : Int)).life ≤ life := by omega
  have h9 : life ≤ (t.at (k : Int)).life := by omega
  clear hsame ho HIS
  generalize t.put (k : Int) ((t.at (k : Int)).on (now + t.term)) = t2 at *
  generalize (t.at (k : Int)).life = L at *
  generalize (t.at (k : Int)).epoch = E at *
  go_enter Tryz.func105, Tryz.ntmps105
  go_wp2_with fail
  refine (HG.out).mono ?_
  rintro e w' ⟨rfl, rfl⟩
  go_wp2_with fail
  refine (HT.out).mono ?_
  rintro e w' ⟨rfl, rfl⟩
  go_wp2_with fail
  refine (HLV.out).mono ?_
  rintro e w2 ⟨rfl, htb, hgr⟩
  have hce2 := htb.epoch HOK2.out k (by omega)
  rw [HAT.out] at hce2
  have HTB := Lib.hid htb
  have HGR := Lib.hid hgr
  clear htb hgr hc hce
  go_wp2_with fail
  go_ret2
  exact ⟨rfl, HTB.out, HGR.out⟩

set_option maxRecDepth 100000 in
set_option maxHeartbeats 600000 in
theorem hello_new (w : World) (g : Nat) (t : Tab) (v life now : Int) (h : TB w g t) (ho : t.ok) (hb : okHello t v life now = true) (hnew : (t.at v).life < life) :
    Calls Tryz.prog 105 #[.pointer (some ⟨g, 0, none⟩), .int .i64 v, .int .i64 life, .int .i64 now] w fun e w' => e = .returned (.tuple #[.int .i64 ((t.at v).epoch + 1), .int .i64 0]) ∧ TB w' g (t.put v (((t.at v).told life).on (now + t.term))) ∧ w.grownBy w' (some g) := by
  have H := Lib.hid h
  clear h
  simp only [okHello, Bool.and_eq_true, decide_eq_true_eq] at hb
  obtain ⟨⟨his, hl1, hl2⟩, htm⟩ := hb
  have hk : ∃ k : Nat, v = k ∧ 1 ≤ k ∧ k ≤ 5 ∧ (k : Int) ≤ t.workers := by
    simp only [Tab.is, decide_eq_true_eq] at his
    have := ho.workers1
    exact ⟨v.toNat, by omega, by omega, by omega, by omega⟩
  obtain ⟨k, rfl, hk1, hk5, hkw⟩ := hk
  have HG := Lib.hid (get_yes w g t k H.out hk1 hkw hk5)
  have HT := Lib.hid (time_any w now)
  rw [htm] at HT
  have htm' : 0 ≤ now ∧ now ≤ 1099511627776 := by simpa [okTime] using htm
  have hc := H.out.life ho k (by omega)
  have hce := H.out.epoch ho k (by omega)
  clear his htm
  have HIS : t.is (k : Int) = true := by simp only [Tab.is, decide_eq_true_eq]; omega
  have htold : (t.at (k : Int)).told life = ⟨life, (t.at (k : Int)).epoch + 1, (t.at (k : Int)).till⟩ := by unfold L1.told; rw [if_pos hnew]
  have hox := (ho.at (k : Int)).told hl1 hl2
  have hf0 := Blk.frozen H.out (2 + k * 3)
  have hf1 := Blk.frozen H.out (2 + k * 3 + 1)
  have hb3 := (ho.at (k : Int)).epoch0
  have hb4 := (ho.at (k : Int)).epoch1
  have hb5 := (ho.at (k : Int)).life1
  have H1 := Lib.hid (H.out.set ho k 0 (.int .i64 life) ⟨life, (t.at (k : Int)).epoch, (t.at (k : Int)).till⟩ (by omega) (by decide) rfl)
  have ho1 : (t.put (k : Int) ⟨life, (t.at (k : Int)).epoch, (t.at (k : Int)).till⟩).ok := ho.put _ ⟨by simp; omega, hl2, hb3, by simp; omega, (ho.at (k : Int)).till0, (ho.at (k : Int)).till1⟩
  have hat1 : (t.put (k : Int) ⟨life, (t.at (k : Int)).epoch, (t.at (k : Int)).till⟩).at (k : Int) = ⟨life, (t.at (k : Int)).epoch, (t.at (k : Int)).till⟩ := by rw [Tab.at_put ho (k : Int) k _ HIS, if_pos rfl]
  have H2 := Lib.hid (H1.out.set ho1 k 1 (.int .i64 ((t.at (k : Int)).epoch + 1)) ⟨life, (t.at (k : Int)).epoch + 1, (t.at (k : Int)).till⟩ (by omega) (by decide) (by rw [hat1]; rfl))
  have hpp : ∀ x y : L1, (t.put (k : Int) x).put (k : Int) y = t.put (k : Int) y := by intro x y; simp [Tab.put]
  rw [hpp, ← htold] at H2
  have ho2 : (t.put (k : Int) ((t.at (k : Int)).told life)).ok := ho.put _ hox
  have hat2 : (t.put (k : Int) ((t.at (k : Int)).told life)).at (k : Int) = (t.at (k : Int)).told life := by rw [Tab.at_put ho (k : Int) k _ HIS, if_pos rfl]
  have HLV := fun W hW => Lib.hid (lives_any W g (t.put (k : Int) ((t.at (k : Int)).told life)) k now hW ho2 (by omega) htm')
  have HLV' : RowKit.Hid (∀ W, TB W g (t.put (k : Int) ((t.at (k : Int)).told life)) → Calls Tryz.prog 160 #[.pointer (some ⟨g, 0, none⟩), .pointer (some ⟨g, 2 + k * 3, none⟩), .int .i64 now] W fun e w' => e = .returned (.tuple #[]) ∧ TB w' g (t.put (k : Int) (((t.at (k : Int)).told life).on (now + t.term))) ∧ W.grownBy w' (some g)) := by
    intro W hW
    have := (HLV W hW).out
    rw [hat2, hpp] at this
    exact this
  have HOK2 : RowKit.Hid ((t.put (k : Int) (((t.at (k : Int)).told life).on (now + t.term))).ok) := ho.put _ (hox.on (by have := ho.term1; omega))
  have HAT : RowKit.Hid (((t.put (k : Int) (((t.at (k : Int)).told life).on (now + t.term))).at (k : Int)).epoch = (t.at (k : Int)).epoch + 1) := by
    unfold RowKit.Hid; rw [Tab.at_put ho (k : Int) k _ HIS, if_pos rfl, htold]; rfl
  clear HLV ho HIS htold hox H1 ho1 hat1 hpp ho2 hat2
  generalize t.put (k : Int) (((t.at (k : Int)).told life).on (now + t.term)) = t2 at *
  generalize t.put (k : Int) ((t.at (k : Int)).told life) = t1 at *
  generalize (t.at (k : Int)).life = L at *
  generalize (t.at (k : Int)).epoch = E at *
  go_enter Tryz.func105, Tryz.ntmps105
  go_wp2_with fail
  refine (HG.out).mono ?_
  rintro e w' ⟨rfl, rfl⟩
  go_wp2_with fail
  refine (HT.out).mono ?_
  rintro e w' ⟨rfl, rfl⟩
  go_wp2_with fail
  refine (HLV'.out _ H2.out).mono ?_
  rintro e w2 ⟨rfl, htb, hgr⟩
  have hce2 := htb.epoch HOK2.out k (by omega)
  rw [HAT.out] at hce2
  have HTB := Lib.hid htb
  have HGR := Lib.hid (grownBy_trans (grownBy_trans (Blk.grown_self _ _) (Blk.grown_self _ _)) hgr)
  clear htb hgr hc hce
  go_wp2_with fail
  go_ret2
  exact ⟨rfl, HTB.out, HGR.out⟩

end
end Go.Proofs.YtinkbgeckjbnbaaGreat
namespace Go.Proofs.YtinkbgeckjbnbaaGreat
section
open Go.RowKit
set_option linter.unusedVariables false

set_option maxRecDepth 100000 in
set_option maxHeartbeats 600000 in
theorem live_any (w : World) (g : Nat) (t : Tab) (v now : Int) (h : TB w g t) (ho : t.ok) :
    Calls Tryz.prog 119 #[.pointer (some ⟨g, 0, none⟩), .int .i64 v, .int .i64 now] w fun e w' => e = .returned (.bool (t.live v now)) ∧ w = w' := by
  have H := Lib.hid h
  clear h
  cases his : t.is v with
  | false =>
    have HG := Lib.hid (get_no w g t v H.out his)
    have HF : RowKit.Hid (t.live v now = false) := by unfold RowKit.Hid Tab.live; rw [his]; rfl
    clear his
    go_enter Tryz.func119, Tryz.ntmps119
    go_wp2_with fail
    refine (HG.out).mono ?_
    rintro e w' ⟨rfl, rfl⟩
    go_wp2_with fail
    go_ret
    exact ⟨by rw [HF.out]; rfl, rfl⟩
  | true =>
    have hk : ∃ k : Nat, v = k ∧ 1 ≤ k ∧ k ≤ 5 ∧ (k : Int) ≤ t.workers := by
      simp only [Tab.is, decide_eq_true_eq] at his
      have := ho.workers1
      exact ⟨v.toNat, by omega, by omega, by omega, by omega⟩
    obtain ⟨k, rfl, hk1, hk5, hkw⟩ := hk
    have HG := Lib.hid (get_yes w g t k H.out hk1 hkw hk5)
    have hce := H.out.epoch ho k (by omega)
    have hct := H.out.till ho k (by omega)
    have hcl := H.out.life ho k (by omega)
    by_cases h1 : 0 < (t.at (k : Int)).epoch
    · by_cases h2 : now ≤ (t.at (k : Int)).till
      · have HF : RowKit.Hid (t.live (k : Int) now = true) := by unfold RowKit.Hid Tab.live; rw [his, Bool.true_and, decide_eq_true_iff]; exact ⟨h1, h2⟩
        clear his ho
        generalize (t.at (k : Int)).epoch = E at *
        generalize (t.at (k : Int)).till = T at *
        have hd2 : decide (now ≤ T) = true := by simp; omega
        have hd1 : decide (0 < E) = true := by simp; omega
        go_enter Tryz.func119, Tryz.ntmps119
        go_wp2_with fail
        refine (HG.out).mono ?_
        rintro e w' ⟨rfl, rfl⟩
        go_wp2_with fail
        go_ret
        exact ⟨by rw [HF.out]; rfl, rfl⟩
      · have HF : RowKit.Hid (t.live (k : Int) now = false) := by unfold RowKit.Hid Tab.live; rw [his, Bool.true_and, decide_eq_false_iff_not]; exact fun hh => h2 hh.2
        clear his ho
        generalize (t.at (k : Int)).epoch = E at *
        generalize (t.at (k : Int)).till = T at *
        have hd2 : decide (now ≤ T) = false := by simp; omega
        have hd1 : decide (0 < E) = true := by simp; omega
        go_enter Tryz.func119, Tryz.ntmps119
        go_wp2_with fail
        refine (HG.out).mono ?_
        rintro e w' ⟨rfl, rfl⟩
        go_wp2_with fail
        go_ret
        exact ⟨by rw [HF.out]; rfl, rfl⟩
    · have HF : RowKit.Hid (t.live (k : Int) now = false) := by unfold RowKit.Hid Tab.live; rw [his, Bool.true_and, decide_eq_false_iff_not]; exact fun hh => h1 hh.1
      clear his ho
      generalize (t.at (k : Int)).epoch = E at *
      have hd1 : decide (0 < E) = false := by simp; omega
      go_enter Tryz.func119, Tryz.ntmps119
      go_wp2_with fail
      refine (HG.out).mono ?_
      rintro e w' ⟨rfl, rfl⟩
      go_wp2_with fail
      go_ret
      exact ⟨by rw [HF.out]; rfl, rfl⟩

set_option maxRecDepth 100000 in
set_option maxHeartbeats 400000 in
theorem epoch_any (w : World) (g : Nat) (t : Tab) (v : Int) (h : TB w g t) (ho : t.ok) :
    Calls Tryz.prog 77 #[.pointer (some ⟨g, 0, none⟩), .int .i64 v] w fun e w' => e = .returned (.int .i64 (t.epoch v)) ∧ w = w' := by
  have H := Lib.hid h
  clear h
  cases his : t.is v with
  | false =>
    have HG := Lib.hid (get_no w g t v H.out his)
    have HF : RowKit.Hid (t.epoch v = 0) := by unfold RowKit.Hid Tab.epoch; rw [his]; rfl
    clear his
    go_enter Tryz.func77, Tryz.ntmps77
    go_wp2_with fail
    refine (HG.out).mono ?_
    rintro e w' ⟨rfl, rfl⟩
    go_wp2_with fail
    go_ret
    exact ⟨by rw [HF.out]; rfl, rfl⟩
  | true =>
    have hk : ∃ k : Nat, v = k ∧ 1 ≤ k ∧ k ≤ 5 ∧ (k : Int) ≤ t.workers := by
      simp only [Tab.is, decide_eq_true_eq] at his
      have := ho.workers1
      exact ⟨v.toNat, by omega, by omega, by omega, by omega⟩
    obtain ⟨k, rfl, hk1, hk5, hkw⟩ := hk
    have HG := Lib.hid (get_yes w g t k H.out hk1 hkw hk5)
    have hce := H.out.epoch ho k (by omega)
    have hct := H.out.till ho k (by omega)
    have hcl := H.out.life ho k (by omega)
    have HF : RowKit.Hid (t.epoch (k : Int) = (t.at (k : Int)).epoch) := by unfold RowKit.Hid Tab.epoch; rw [if_pos his]
    clear his ho
    generalize (t.at (k : Int)).epoch = E at *
    go_enter Tryz.func77, Tryz.ntmps77
    go_wp2_with fail
    refine (HG.out).mono ?_
    rintro e w' ⟨rfl, rfl⟩
    go_wp2_with fail
    go_ret
    exact ⟨by rw [HF.out]; rfl, rfl⟩

set_option maxRecDepth 100000 in
set_option maxHeartbeats 400000 in
theorem new_good (w : World) (workers term : Int) (h1 : 1 ≤ workers) (h2 : workers ≤ 5) (h3 : 1 ≤ term) (h4 : term ≤ 1000) :
    Calls Tryz.prog 58 #[.int .i64 workers, .int .i64 term] w fun e w' => e = .returned (.tuple #[.pointer (some ⟨w.heap.size, 0, none⟩), .int .i64 0]) ∧ TB w' w.heap.size (Tab.new workers term) ∧ Below w.heap.size w w' := by
  go_enter Tryz.func58, Tryz.ntmps58
  go_wp2_with fail
  go_ret2
  trace_state
  exact ⟨rfl, by unfold TB Blk; rw [heap_alloc_new]; rfl, (Below.refl _ _).alloc (Nat.le_refl _) _⟩

end
end Go.Proofs.YtinkbgeckjbnbaaGreat
namespace Go.Proofs.YtinkbgeckjbnbaaGreat
section
open Go.RowKit
set_option linter.unusedVariables false

/-- the least and the greatest length of a shard's words -/
def lenLo (l : List KeyL) (k : Int) : Int := if k < 0 ∨ l.length < k then 1 else if 0 < k then (keyAt l (k.toNat - 1)).1 else 1
def lenHi (l : List KeyL) (k : Int) : Int := if k < 0 ∨ l.length < k then 0 else if k < l.length then (if (keyAt l k.toNat).2.toList = [] then (keyAt l k.toNat).1 - 1 else (keyAt l k.toNat).1) else 12
set_option maxRecDepth 100000 in
set_option maxHeartbeats 2000000 in
theorem lens_any (a : Option Addr) (n cap : Nat) (l : List KeyL) (k : Int) (w : World) (hr : RdE KeyL.cells 2 w a n cap l) (hl : l.length ≤ 100) (hk : ∀ x ∈ l, -1000 ≤ x.1 ∧ x.1 ≤ 1000) :
    Calls Tryz.prog 73 #[.slice a n cap, .int .i64 k] w fun e w' => e = .returned (.tuple #[.int .i64 (lenLo l k), .int .i64 (lenHi l k)]) ∧ w = w' := by
  have hn := hr.1
  subst hn
  have HR := Lib.hid hr
  clear hr
  unfold lenLo lenHi
  by_cases h1 : k < 0 ∨ l.length < k
  · rw [if_pos h1, if_pos h1]
    have hcap := HR.out.2.1
    by_cases h2 : k < 0
    · clear h1
      go_enter Tryz.func73, Tryz.ntmps73
      go_wp2_with fail
      go_ret2
      exact ⟨rfl, rfl⟩
    · have h3 : l.length < k := by omega
      clear h1
      have d3 : decide ((l.length : Int) < k) = true := by simpa using h3
      go_enter Tryz.func73, Tryz.ntmps73
      go_wp2_with fail
      go_ret2
      exact ⟨rfl, rfl⟩
  · rw [if_neg h1, if_neg h1]
    obtain ⟨k, rfl⟩ : ∃ m : Nat, k = (m : Int) := ⟨k.toNat, by omega⟩
    have hkl : k ≤ l.length := by omega
    clear h1
    have hcap := HR.out.2.1
    have d1 : decide ((l.length : Int) < k) = false := by simp; omega
    have hlo : ∃ lo : Int, -1000 ≤ lo ∧ lo ≤ 1000 ∧ (if (0 : Int) < k then (keyAt l ((k : Int).toNat - 1)).1 else 1) = lo ∧ (0 < k → ∃ b off, a = some ⟨b, off, none⟩ ∧ w.cell? ⟨b, off + (k - 1) * 2, none⟩ = some (.int .i64 lo)) ∧ (k = 0 → lo = 1) := by
      by_cases hp : 0 < k
      · obtain ⟨b, off, he, hbl, hc⟩ := HR.out.2.2.2.2 (k - 1) _ (keyAt_some (by omega))
        have hb1 := hk (keyAt l (k - 1)) (List.mem_iff_getElem?.2 ⟨_, keyAt_some (by omega)⟩)
        refine ⟨_, hb1.1, hb1.2, ?_, fun _ => ⟨b, off, he, hc 0 (by decide)⟩, fun h => by omega⟩
        rw [if_pos (by omega), Int.toNat_natCast]
      · exact ⟨1, by omega, by omega, by rw [if_neg (by omega)], fun h => absurd h hp, fun _ => rfl⟩
    have hhi : ∃ (hi : Int) (th : ByteArray), -1000 ≤ hi ∧ hi ≤ 1000 ∧ (if (k : Int) < l.length then (if (keyAt l (k : Int).toNat).2.toList = [] then (keyAt l (k : Int).toNat).1 - 1 else (keyAt l (k : Int).toNat).1) else 12) = (if k < l.length then (if th.toList = [] then hi - 1 else hi) else 12) ∧
        (k < l.length → ∃ b off, a = some ⟨b, off, none⟩ ∧ w.cell? ⟨b, off + k * 2, none⟩ = some (.int .i64 hi) ∧ w.cell? ⟨b, off + k * 2 + 1, none⟩ = some (.string th)) := by
      by_cases hlt : k < l.length
      · obtain ⟨b, off, he, hbl, hc⟩ := HR.out.2.2.2.2 k _ (keyAt_some hlt)
        have hb1 := hk (keyAt l k) (List.mem_iff_getElem?.2 ⟨_, keyAt_some hlt⟩)
        refine ⟨(keyAt l k).1, (keyAt l k).2, hb1.1, hb1.2, ?_, fun _ => ⟨b, off, he, hc 0 (by decide), hc 1 (by decide)⟩⟩
        rw [if_pos (by omega), if_pos hlt, Int.toNat_natCast]
      · exact ⟨0, ⟨#[]⟩, by omega, by omega, by rw [if_neg (by omega), if_neg hlt], fun h => absurd h hlt⟩
    obtain ⟨lo, lo1, lo2, elo, flo, zlo⟩ := hlo
    obtain ⟨hi, th, hi1, hi2, ehi, fhi⟩ := hhi
    rw [elo, ehi]
    clear elo ehi hk
    by_cases hp : 0 < k
    · obtain ⟨b, off, rfl, c0⟩ := flo hp
      have d2 : decide ((0 : Int) < k) = true := by simp; omega
      clear zlo flo
      by_cases hlt : k < l.length
      · obtain ⟨b', off', he, c2, c3⟩ := fhi hlt
        simp only [Option.some.injEq, Addr.mk.injEq, and_true] at he
        obtain ⟨rfl, rfl⟩ := he
        clear fhi
        rw [if_pos hlt]
        by_cases ht : th.toList = []
        · rw [if_pos ht]
          go_enter Tryz.func73, Tryz.ntmps73
          go_wp2_with fail
          go_ret2
          exact ⟨rfl, rfl⟩
        · rw [if_neg ht]
          have ht2 : th.toList.isEmpty = false := by simpa using ht
          go_enter Tryz.func73, Tryz.ntmps73
          go_wp2_with fail
          go_ret2
          exact ⟨rfl, rfl⟩
      · obtain rfl : k = l.length := by omega
        rw [if_neg hlt]
        clear fhi
        go_enter Tryz.func73, Tryz.ntmps73
        go_wp2_with fail
        go_ret2
        exact ⟨rfl, rfl⟩
    · obtain rfl : k = 0 := by omega
      obtain rfl := zlo rfl
      clear zlo flo d1
      by_cases hlt : 0 < l.length
      · obtain ⟨b, off, rfl, c2, c3⟩ := fhi hlt
        clear fhi
        rw [if_pos hlt]
        have e0 : off + 0 * 2 = off := by omega
        rw [e0] at c2 c3
        clear e0
        by_cases ht : th.toList = []
        · rw [if_pos ht]
          go_enter Tryz.func73, Tryz.ntmps73
          go_wp2_with fail
          go_ret2
          exact ⟨rfl, rfl⟩
        · rw [if_neg ht]
          have ht2 : th.toList.isEmpty = false := by simpa using ht
          go_enter Tryz.func73, Tryz.ntmps73
          go_wp2_with fail
          go_ret2
          exact ⟨rfl, rfl⟩
      · have h0 : l.length = 0 := by omega
        rw [if_neg hlt]
        clear fhi
        rw [h0] at hcap ⊢
        go_enter Tryz.func73, Tryz.ntmps73
        go_wp2_with fail
        go_ret2
        exact ⟨rfl, rfl⟩

def leastN (l : List KeyL) (k n : Int) : Int := if lenHi l k < lenLo l k then -1 else if n < lenLo l k then lenLo l k - n else if lenHi l k < n then n - lenHi l k else 0
set_option maxRecDepth 100000 in
theorem lens_bd (l : List KeyL) (k : Int) (hk : ∀ x ∈ l, -1000 ≤ x.1 ∧ x.1 ≤ 1000) : (-1000 ≤ lenLo l k ∧ lenLo l k ≤ 1000) ∧ -1001 ≤ lenHi l k ∧ lenHi l k ≤ 1000 := by
  have hat : ∀ i, -1000 ≤ (keyAt l i).1 ∧ (keyAt l i).1 ≤ 1000 := by
    intro i
    by_cases h : i < l.length
    · exact hk _ (List.mem_iff_getElem?.2 ⟨i, keyAt_some h⟩)
    · unfold keyAt; rw [List.getD_eq_getElem?_getD, List.getElem?_eq_none (by omega)]; decide
  constructor
  · unfold lenLo
    have := hat (k.toNat - 1)
    split
    · omega
    · split <;> omega
  · unfold lenHi
    have := hat k.toNat
    split
    · omega
    · split
      · split <;> omega
      · omega
set_option maxRecDepth 100000 in
set_option maxHeartbeats 1000000 in
theorem least_any (a : Option Addr) (n cap : Nat) (l : List KeyL) (k m : Int) (w : World) (hr : RdE KeyL.cells 2 w a n cap l) (hl : l.length ≤ 100) (hk : ∀ x ∈ l, -1000 ≤ x.1 ∧ x.1 ≤ 1000) (hm : -1000 ≤ m ∧ m ≤ 1000) :
    Calls Tryz.prog 27 #[.slice a n cap, .int .i64 k, .int .i64 m] w fun e w' => e = .returned (.int .i64 (leastN l k m)) ∧ w = w' := by
  have HL := Lib.hid (lens_any a n cap l k w hr hl hk)
  obtain ⟨⟨b1, b2⟩, b3, b4⟩ := lens_bd l k hk
  obtain ⟨m1, m2⟩ := hm
  unfold leastN
  generalize lenLo l k = lo at *
  generalize lenHi l k = hi at *
  clear hr hk
  by_cases h1 : hi < lo
  · rw [if_pos h1]
    have d1 : decide (hi < lo) = true := by simpa using h1
    go_enter Tryz.func27, Tryz.ntmps27
    go_wp2_with fail
    refine (HL.out).mono ?_
    rintro e w1 ⟨rfl, rfl⟩
    go_wp2_with fail
    go_ret
    exact ⟨rfl, rfl⟩
  · rw [if_neg h1]
    have d1 : decide (hi < lo) = false := by simpa using h1
    by_cases h2 : m < lo
    · rw [if_pos h2]
      have d2 : decide (m < lo) = true := by simpa using h2
      go_enter Tryz.func27, Tryz.ntmps27
      go_wp2_with fail
      refine (HL.out).mono ?_
      rintro e w1 ⟨rfl, rfl⟩
      go_wp2_with fail
      go_ret
      exact ⟨rfl, rfl⟩
    · rw [if_neg h2]
      have d2 : decide (m < lo) = false := by simpa using h2
      by_cases h3 : hi < m
      · rw [if_pos h3]
        have d3 : decide (hi < m) = true := by simpa using h3
        go_enter Tryz.func27, Tryz.ntmps27
        go_wp2_with fail
        refine (HL.out).mono ?_
        rintro e w1 ⟨rfl, rfl⟩
        go_wp2_with fail
        go_ret
        exact ⟨rfl, rfl⟩
      · rw [if_neg h3]
        have d3 : decide (hi < m) = false := by simpa using h3
        go_enter Tryz.func27, Tryz.ntmps27
        go_wp2_with fail
        refine (HL.out).mono ?_
        rintro e w1 ⟨rfl, rfl⟩
        go_wp2_with fail
        go_ret
        exact ⟨rfl, rfl⟩

end
end Go.Proofs.YtinkbgeckjbnbaaGreat
namespace Go.Proofs.YtinkbgeckjbnbaaGreat
section
open Go.RowKit
set_option linter.unusedVariables false

def BlkO (O : Own) (t : Nat) (w : World) (g : Nat) (e : TypeId) (cs : List Value) : Prop := Blk w g e cs ∧ O g = t
def Row (O : Own) (t : Nat) (w : World) (e : TypeId) (size : Nat) (v : Value) (n : Nat) (xs : List Value) : Prop := w.ownsRow 0 e size v n xs ∧ ∀ k, v.ownBlock = some k → O k = t
def SlO (O : Own) (t : Nat) (w : World) (p gf ga : Nat) (L : List Nat) (last : Nat) : Prop := SlAt w p gf ga L last ∧ O p = t ∧ O gf = t ∧ O ga = t
def TLO (O : Own) (t : Nat) (w : World) (p : Nat) (L : List One) : Prop := ∃ go, TL w p go 24 L ∧ O p = t ∧ ∀ k, go = some k → O k = t
def MapO (O : Own) (t : Nat) (w : World) (b n c : Nat) (f : Int → Option Nat) : Prop := MapF rdP ltP w b n c (fun k => (f k).map some) ∧ O b = t
section
variable {O O' : Own} {t : Nat} {F : Nat → Prop} {w w' : World}
set_option maxRecDepth 100000 in
theorem BlkO.frm {g : Nat} {e : TypeId} {cs : List Value} (h : BlkO O t w g e cs) (hf : Frm F w w') (hF : ∀ b, b < w.heap.size → O b = t → ¬ F b) (ha : AgO w.heap.size O O') : BlkO O' t w' g e cs :=
  ⟨h.1.frm hf (hF g h.1.lt h.2), (ha g h.1.lt).trans h.2⟩
set_option maxRecDepth 100000 in
theorem Row.frm {e : TypeId} {size n : Nat} {v : Value} {xs : List Value} (h : Row O t w e size v n xs) (hf : Frm F w w') (hF : ∀ b, b < w.heap.size → O b = t → ¬ F b) (ha : AgO w.heap.size O O') : Row O' t w' e size v n xs :=
  ⟨ownsRow_frm h.1 hf (fun k hk => hF k (own_lt h.1 k hk) (h.2 k hk)), own_ag h.1 ha h.2⟩
set_option maxRecDepth 100000 in
theorem SlO.frm {p gf ga : Nat} {L : List Nat} {last : Nat} (h : SlO O t w p gf ga L last) (hf : Frm F w w') (hF : ∀ b, b < w.heap.size → O b = t → ¬ F b) (ha : AgO w.heap.size O O') : SlO O' t w' p gf ga L last :=
  ⟨h.1.frm hf (hF p h.1.blk.lt h.2.1) (hF gf h.1.of.lt' h.2.2.1) (hF ga h.1.at_.lt' h.2.2.2), (ha p h.1.blk.lt).trans h.2.1, (ha gf h.1.of.lt').trans h.2.2.1, (ha ga h.1.at_.lt').trans h.2.2.2⟩
set_option maxRecDepth 100000 in
theorem TLO.frm {p : Nat} {L : List One} (h : TLO O t w p L) (hf : Frm F w w') (hF : ∀ b, b < w.heap.size → O b = t → ¬ F b) (ha : AgO w.heap.size O O') : TLO O' t w' p L := by
  obtain ⟨go, h1, h2, h3⟩ := h
  exact ⟨go, h1.frm hf (hF p h1.lt.1 h2) (fun k hk => hF k (h1.lt.2 k hk) (h3 k hk)), (ha p h1.lt.1).trans h2, fun k hk => (ha k (h1.lt.2 k hk)).trans (h3 k hk)⟩
set_option maxRecDepth 100000 in
theorem MapO.frm {b n c : Nat} {f : Int → Option Nat} (h : MapO O t w b n c f) (hf : Frm F w w') (hF : ∀ b, b < w.heap.size → O b = t → ¬ F b) (ha : AgO w.heap.size O O') : MapO O' t w' b n c f :=
  ⟨h.1.frm hf (hF b h.1.lt' h.2), (ha b h.1.lt').trans h.2⟩
end
structure SH where
  turn : Int
  try_ : Int
  first : Int
  hedged : Bool
def SH.zero : SH := ⟨0, 0, 0, false⟩
def SH.cells (s : SH) : List Value := [.int .i64 s.turn, .int .i64 s.try_, .int .i64 s.first, .bool s.hedged]
/-- a query under way -/
structure QS where
  slot : Nat
  q : ByteArray
  k : Int
  n : Int
  S : List PS
  T : List KeyL
  sh : List SH
def QS.cells (y : QS) (id m : Nat) : List Value := [.int .i64 (id : Nat), .int .i64 (y.slot : Nat), .string y.q, .int .i64 y.k, .int .i64 y.n, .pointer (some ⟨m, 0, none⟩)] ++ y.sh.flatMap SH.cells
/-- what one was told -/
structure TS where
  q : ByteArray
  k : Int
  n : Int
  items : List KeyL
  done : Bool
  canc : Bool
def TS.zero : TS := ⟨⟨#[]⟩, 0, 0, [], false, false⟩
def TS.cells (t : TS) (id : Int) (a : Option Addr × Nat) : List Value := [.int .i64 id, .string t.q, .int .i64 t.k, .int .i64 t.n, .slice a.1 t.items.length a.2, .bool t.done, .bool t.canc]
/-- the coordinator -/
structure CS where
  c : CfgM
  now : Int
  t : Tab
  L : List Nat
  tm : List One
  Q : Nat → QS
  told : List TS
/-- where its parts lie -/
structure CA where
  cpa : Option Addr
  cpc : Nat
  cps : List (Option Addr × Nat)
  le : Nat
  sl : Nat
  sf : Nat
  sa : Nat
  ti : Nat
  qm : Nat
  ta : Option Addr
  tc : Nat
  q : Nat → Nat
  m : Nat → Nat
  it : Nat → Option Addr × Nat
def CS.cells (S : CS) (A : CA) : List Value := [.slice S.c.aw S.c.nw S.c.cw, .slice S.c.ac S.c.nc S.c.cc, .int .i64 S.c.wk, .int .i64 S.c.cp, .int .i64 S.c.sl, .int .i64 S.c.ba, .int .i64 S.c.le, .int .i64 S.c.he, .int .i64 S.c.fi, .int .i64 S.c.ca, .int .i64 S.c.ji, .int .i64 S.c.ne,
  .slice A.cpa A.cps.length A.cpc, .int .i64 S.now, .pointer (some ⟨A.le, 0, none⟩), .pointer (some ⟨A.sl, 0, none⟩), .pointer (some ⟨A.ti, 0, none⟩), .map (some A.qm), .slice A.ta S.told.length A.tc]
def copN (c : CfgM) (s : Nat) : List Int := (List.range c.cp.toNat).map (fun j : Nat => 1 + ((s : Int) + (j : Int)) % c.wk)
structure Imm (O : Own) (w : World) (A : CA) (c : CfgM) : Prop where
  cuts : Row O (ct 1) w 107 2 (.slice c.ac c.nc c.cc) c.nc (c.cuts.flatMap KeyL.cells)
  row : Row O (ct 1) w 26 1 (.slice A.cpa A.cps.length A.cpc) A.cps.length (A.cps.map (fun x => .slice x.1 c.cp.toNat x.2))
  each : ∀ (s : Nat) x, A.cps[s]? = some x → Row O (ct 1) w 3 1 (.slice x.1 c.cp.toNat x.2) c.cp.toNat (ints (copN c s))
set_option maxRecDepth 100000 in
theorem Imm.frm {O O' : Own} {F : Nat → Prop} {w w' : World} {A : CA} {c : CfgM} (h : Imm O w A c) (hf : Frm F w w') (hF : ∀ b, b < w.heap.size → O b = ct 1 → ¬ F b) (ha : AgO w.heap.size O O') : Imm O' w' A c :=
  ⟨h.cuts.frm hf hF ha, h.row.frm hf hF ha, fun s x hx => (h.each s x hx).frm hf hF ha⟩
def toldF (it : Nat → Option Addr × Nat) (l : List TS) (i : Nat) : List Value := (l.getD i TS.zero).cells ((i : Int) + 1) (it i)
set_option maxRecDepth 100000 in
theorem toldF_len (it : Nat → Option Addr × Nat) (l : List TS) (i : Nat) : (toldF it l i).length = 7 := rfl
def qF (q : Nat → Nat) (L : List Nat) (k : Int) : Option Nat := if 0 < k ∧ k.toNat ∈ L then some (q k.toNat) else none
/-- what lies so, but for the parts of X -/
structure CWx (X : Nat → Prop) (w : World) (O : Own) (A : CA) (p : Nat) (S : CS) : Prop where
  blk : ¬ X (ct 0) → BlkO O (ct 0) w p 120 (S.cells A)
  imm : ¬ X (ct 1) → Imm O w A S.c
  le : ¬ X (ct 2) → BlkO O (ct 2) w A.le 217 S.t.cells
  sl : ¬ X (ct 3) → SlO O (ct 3) w A.sl A.sf A.sa S.L S.told.length
  ti : ¬ X (ct 4) → TLO O (ct 4) w A.ti S.tm
  qm : ¬ X (ct 5) → MapO O (ct 5) w A.qm S.told.length (cntS S.L) (qF A.q S.L)
  told : ¬ X (ct 6) → Row O (ct 6) w 58 7 (.slice A.ta S.told.length A.tc) S.told.length (rowF (toldF A.it S.told) S.told.length)
  qb : ∀ id ∈ S.L, id ≠ 0 → ¬ X (ct (7 + 3 * id)) → BlkO O (ct (7 + 3 * id)) w (A.q id) 141 ((S.Q id).cells id (A.m id))
  mg : ∀ id ∈ S.L, id ≠ 0 → ¬ X (ct (8 + 3 * id)) → MGo O (ct (8 + 3 * id)) w (A.m id) (S.Q id).n (S.Q id).S (S.Q id).T
  it : ∀ (i : Nat) t, S.told[i]? = some t → ¬ X (ct (9 + 3 * i)) → Row O (ct (9 + 3 * i)) w 46 2 (.slice (A.it i).1 t.items.length (A.it i).2) t.items.length (t.items.flatMap KeyL.cells)
def CW (w : World) (O : Own) (A : CA) (p : Nat) (S : CS) : Prop := CWx (fun _ => False) w O A p S
set_option maxRecDepth 100000 in
theorem CWx.frm {X Y : Nat → Prop} {F : Nat → Prop} {w w' : World} {O O' : Own} {A : CA} {p : Nat} {S : CS} (h : CWx X w O A p S) (hf : Frm F w w') (ha : AgO w.heap.size O O') (hXY : ∀ t, X t → Y t) (hF : ∀ b, b < w.heap.size → F b → Y (O b) ∨ O b % 8 ≠ 1) : CWx Y w' O' A p S := by
  have key : ∀ i, ¬ Y (ct i) → ∀ b, b < w.heap.size → O b = ct i → ¬ F b := fun i hY b hb ho hfb => by
    rcases hF b hb hfb with h1 | h1
    · rw [ho] at h1; exact hY h1
    · rw [ho] at h1; exact h1 (ct_mod i)
  exact ⟨fun hY => (h.blk (fun q => hY (hXY _ q))).frm hf (key 0 hY) ha, fun hY => (h.imm (fun q => hY (hXY _ q))).frm hf (key 1 hY) ha, fun hY => (h.le (fun q => hY (hXY _ q))).frm hf (key 2 hY) ha, fun hY => (h.sl (fun q => hY (hXY _ q))).frm hf (key 3 hY) ha,
    fun hY => (h.ti (fun q => hY (hXY _ q))).frm hf (key 4 hY) ha, fun hY => (h.qm (fun q => hY (hXY _ q))).frm hf (key 5 hY) ha, fun hY => (h.told (fun q => hY (hXY _ q))).frm hf (key 6 hY) ha,
    fun id h1 h2 hY => (h.qb id h1 h2 (fun q => hY (hXY _ q))).frm hf (key _ hY) ha, fun id h1 h2 hY => (h.mg id h1 h2 (fun q => hY (hXY _ q))).frm hf (key _ hY) ha, fun i t h1 hY => (h.it i t h1 (fun q => hY (hXY _ q))).frm hf (key _ hY) ha⟩
set_option maxRecDepth 100000 in
/-- new blocks alone -/
theorem CWx.below {X : Nat → Prop} {w w' : World} {O O' : Own} {A : CA} {p : Nat} {S : CS} (h : CWx X w O A p S) (hb : Below w.heap.size w w') (ha : AgO w.heap.size O O') : CWx X w' O' A p S :=
  h.frm (F := fun _ => False) (Frm.below hb) ha (fun _ q => q) (fun _ _ q => q.elim)
set_option maxRecDepth 100000 in
theorem CW.below {w w' : World} {O O' : Own} {A : CA} {p : Nat} {S : CS} (h : CW w O A p S) (hb : Below w.heap.size w w') (ha : AgO w.heap.size O O') : CW w' O' A p S := CWx.below h hb ha
set_option maxRecDepth 100000 in
theorem CW.only {w w' : World} {O O' : Own} {A : CA} {p : Nat} {S : CS} (h : CW w O A p S) (i : Nat) (hf : OFrm O (ct i) w w') (ha : AgO w.heap.size O O') : CWx (fun t => t = ct i) w' O' A p S :=
  CWx.frm h hf ha (fun _ q => q.elim) (fun _ _ q => .inl q)
set_option maxRecDepth 100000 in
/-- others' blocks may change -/
theorem CW.apart {F : Nat → Prop} {w w' : World} {O O' : Own} {A : CA} {p : Nat} {S : CS} (h : CW w O A p S) (hf : Frm F w w') (ha : AgO w.heap.size O O') (hF : ∀ b, b < w.heap.size → F b → O b % 8 ≠ 1) : CW w' O' A p S :=
  CWx.frm h hf ha (fun _ q => q) (fun b hb q => .inr (hF b hb q))
section
variable {w : World} {O : Own} {A : CA} {p : Nat} {S : CS}
set_option maxRecDepth 100000 in
theorem CW.blk (h : CW w O A p S) : Blk w p 120 (S.cells A) := (CWx.blk h id).1
set_option maxRecDepth 100000 in
theorem CW.with_le (h : CWx (fun t => t = ct 2) w O A p S) (t' : Tab) (hn : BlkO O (ct 2) w A.le 217 t'.cells) : CW w O A p { S with t := t' } :=
  ⟨fun _ => h.blk (ct_ne (by omega)), fun _ => h.imm (ct_ne (by omega)), fun _ => hn, fun _ => h.sl (ct_ne (by omega)), fun _ => h.ti (ct_ne (by omega)), fun _ => h.qm (ct_ne (by omega)), fun _ => h.told (ct_ne (by omega)), fun id h1 h2 _ => h.qb id h1 h2 (ct_ne (by omega)), fun id h1 h2 _ => h.mg id h1 h2 (ct_ne (by omega)), fun i t h1 _ => h.it i t h1 (ct_ne (by omega))⟩
set_option maxRecDepth 100000 in
theorem CW.with_ti (h : CWx (fun t => t = ct 4) w O A p S) (L : List One) (hn : TLO O (ct 4) w A.ti L) : CW w O A p { S with tm := L } :=
  ⟨fun _ => h.blk (ct_ne (by omega)), fun _ => h.imm (ct_ne (by omega)), fun _ => h.le (ct_ne (by omega)), fun _ => h.sl (ct_ne (by omega)), fun _ => hn, fun _ => h.qm (ct_ne (by omega)), fun _ => h.told (ct_ne (by omega)), fun id h1 h2 _ => h.qb id h1 h2 (ct_ne (by omega)), fun id h1 h2 _ => h.mg id h1 h2 (ct_ne (by omega)), fun i t h1 _ => h.it i t h1 (ct_ne (by omega))⟩
set_option maxRecDepth 100000 in
theorem CW.with_now (h : CWx (fun t => t = ct 0) w O A p S) (now : Int) (hn : BlkO O (ct 0) w p 120 (CS.cells { S with now := now } A)) : CW w O A p { S with now := now } :=
  ⟨fun _ => hn, fun _ => h.imm (ct_ne (by omega)), fun _ => h.le (ct_ne (by omega)), fun _ => h.sl (ct_ne (by omega)), fun _ => h.ti (ct_ne (by omega)), fun _ => h.qm (ct_ne (by omega)), fun _ => h.told (ct_ne (by omega)), fun id h1 h2 _ => h.qb id h1 h2 (ct_ne (by omega)), fun id h1 h2 _ => h.mg id h1 h2 (ct_ne (by omega)), fun i t h1 _ => h.it i t h1 (ct_ne (by omega))⟩
/-- a query is another one -/
def CS.setQ (S : CS) (id : Nat) (y : QS) : CS := { S with Q := fun j => if j = id then y else S.Q j }
set_option maxRecDepth 100000 in
theorem CW.with_qb {id : Nat} (h : CWx (fun t => t = ct (7 + 3 * id)) w O A p S) (sh : List SH) (hn : BlkO O (ct (7 + 3 * id)) w (A.q id) 141 (QS.cells { S.Q id with sh := sh } id (A.m id))) : CW w O A p (S.setQ id { S.Q id with sh := sh }) :=
  ⟨fun _ => h.blk (ct_ne (by omega)), fun _ => h.imm (ct_ne (by omega)), fun _ => h.le (ct_ne (by omega)), fun _ => h.sl (ct_ne (by omega)), fun _ => h.ti (ct_ne (by omega)), fun _ => h.qm (ct_ne (by omega)), fun _ => h.told (ct_ne (by omega)),
    fun j h1 h2 _ => by
      show BlkO O _ w (A.q j) _ (QS.cells (if j = id then _ else S.Q j) j (A.m j))
      by_cases e : j = id
      · subst e; rw [if_pos rfl]; exact hn
      · rw [if_neg e]; exact h.qb j h1 h2 (ct_ne (by omega)),
    fun j h1 h2 _ => by
      show MGo O _ w (A.m j) (if j = id then _ else S.Q j).n (if j = id then _ else S.Q j).S (if j = id then _ else S.Q j).T
      by_cases e : j = id
      · subst e; rw [if_pos rfl]; exact h.mg j h1 h2 (ct_ne (by omega))
      · rw [if_neg e]; exact h.mg j h1 h2 (ct_ne (by omega)),
    fun i t h1 _ => h.it i t h1 (ct_ne (by omega))⟩
set_option maxRecDepth 100000 in
theorem CW.with_mg {id : Nat} (h : CWx (fun t => t = ct (8 + 3 * id)) w O A p S) (S' : List PS) (T' : List KeyL) (hn : MGo O (ct (8 + 3 * id)) w (A.m id) (S.Q id).n S' T') : CW w O A p (S.setQ id { S.Q id with S := S', T := T' }) :=
  ⟨fun _ => h.blk (ct_ne (by omega)), fun _ => h.imm (ct_ne (by omega)), fun _ => h.le (ct_ne (by omega)), fun _ => h.sl (ct_ne (by omega)), fun _ => h.ti (ct_ne (by omega)), fun _ => h.qm (ct_ne (by omega)), fun _ => h.told (ct_ne (by omega)),
    fun j h1 h2 _ => by
      show BlkO O _ w (A.q j) _ (QS.cells (if j = id then _ else S.Q j) j (A.m j))
      by_cases e : j = id
      · subst e; rw [if_pos rfl]; exact h.qb j h1 h2 (ct_ne (by omega))
      · rw [if_neg e]; exact h.qb j h1 h2 (ct_ne (by omega)),
    fun j h1 h2 _ => by
      show MGo O _ w (A.m j) (if j = id then _ else S.Q j).n (if j = id then _ else S.Q j).S (if j = id then _ else S.Q j).T
      by_cases e : j = id
      · subst e; rw [if_pos rfl]; exact hn
      · rw [if_neg e]; exact h.mg j h1 h2 (ct_ne (by omega)),
    fun i t h1 _ => h.it i t h1 (ct_ne (by omega))⟩
end
end
end Go.Proofs.YtinkbgeckjbnbaaGreat
namespace Go.Proofs.YtinkbgeckjbnbaaGreat
section
open Go.RowKit
set_option linter.unusedVariables false

def inR (n : Int) : Bool := decide (0 ≤ n) && decide (n ≤ 2147483647)
def withinL (l : List Int) : Bool := l.all inR
def workerB (n : Int) : Bool := decide (1 ≤ n) && decide (n ≤ 5)
def placeB (s h : Int) : Bool := decide (0 ≤ s) && decide (s < 4) && decide (0 ≤ h) && decide (h < 6)
def itemB (x : KeyL) : Bool := decide (0 ≤ x.1) && decide (x.1 ≤ 4) && isWord x.2
end
end Go.Proofs.YtinkbgeckjbnbaaGreat
namespace Go.Proofs.YtinkbgeckjbnbaaGreat
section
open Go.RowKit
set_option linter.unusedVariables false

def afterB (f : Bool) (d : Int) (wd : ByteArray) : Bool := if f = true then decide ((d, wd) = ((0 : Int), (⟨#[]⟩ : ByteArray))) else itemB (d, wd)
def askB (s q h sq ep : Int) (tx : ByteArray) (k b : Int) (f : Bool) (d : Int) (wd : ByteArray) : Bool := afterB f d wd && placeB s h && withinL [q, sq, ep] && askedB tx && decide (0 ≤ k) && decide (k ≤ 4) && decide (1 ≤ b) && decide (b ≤ 5)
/-- the first items may stand in a Reply -/
def itOK (l : List KeyL) : Nat → Bool
  | 0 => true
  | n + 1 => itOK l n && (match l[n]? with
    | some x => itemB x && (match n with
      | 0 => true
      | m + 1 => match l[m]? with
        | some y => kless y x
        | none => true)
    | none => true)
def replyB (s q h sq wk ep : Int) (l : List KeyL) : Bool := itOK l l.length && decide (l.length ≤ 5) && placeB s h && withinL [q, sq, ep] && workerB wk
end
end Go.Proofs.YtinkbgeckjbnbaaGreat
namespace Go.Proofs.YtinkbgeckjbnbaaGreat
section
open Go.RowKit
set_option linter.unusedVariables false

inductive MV where
  | hello (w0 l0 : Int)
  | grant (w0 l0 e0 : Int)
  | ask (s q h sq ep : Int) (tx : ByteArray) (k b : Int) (f : Bool) (d : Int) (wd : ByteArray)
  | reply (s q h sq wk ep : Int) (l : List KeyL) (en : Bool)
  | stop (s q : Int)
  | other (t : TypeId) (v : Value)
  | nil
/-- the message lies so in the world (a Reply's items in a row) -/
def MV.At (w : World) (u : Value) : MV → Prop
  | .hello w0 l0 => u = .iface 36 (.agg #[.int .i64 w0, .int .i64 l0])
  | .grant w0 l0 e0 => u = .iface 99 (.agg #[.int .i64 w0, .int .i64 l0, .int .i64 e0])
  | .ask s q h sq ep tx k b f d wd => u = .iface 48 (.agg #[.int .i64 s, .int .i64 q, .int .i64 h, .int .i64 sq, .int .i64 ep, .string tx, .int .i64 k, .int .i64 b, .bool f, .int .i64 d, .string wd])
  | .stop s q => u = .iface 87 (.agg #[.int .i64 s, .int .i64 q])
  | .reply s q h sq wk ep l en => ∃ a c, u = .iface 65 (.agg #[.int .i64 s, .int .i64 q, .int .i64 h, .int .i64 sq, .int .i64 wk, .int .i64 ep, .slice a l.length c, .bool en]) ∧ RdE KeyL.cells 2 w a l.length c l
  | .other t v => u = .iface t v ∧ t ≠ 36 ∧ t ≠ 99 ∧ t ≠ 48 ∧ t ≠ 65 ∧ t ≠ 87
  | .nil => u = .nilIface
/-- its texts are no greater than can be -/
def MV.small : MV → Prop
  | .ask s q h sq ep tx k b f d wd => tx.size ≤ maxLen ∧ wd.size ≤ maxLen
  | .reply s q h sq wk ep l en => ∀ x ∈ l, x.2.size ≤ maxLen
  | _ => True
def MV.may : MV → Bool
  | .hello w0 l0 => workerB w0 && withinL [l0]
  | .grant w0 l0 e0 => workerB w0 && withinL [l0, e0]
  | .ask s q h sq ep tx k b f d wd => askB s q h sq ep tx k b f d wd
  | .reply s q h sq wk ep l en => replyB s q h sq wk ep l
  | .stop s q => placeB s 0 && withinL [q]
  | _ => false
def MV.kind : MV → Int
  | .hello .. => 1
  | .grant .. => 2
  | .ask .. => 3
  | .reply .. => 4
  | .stop .. => 5
  | _ => 0
set_option maxRecDepth 100000 in
theorem MV.At.below {w w' : World} {u : Value} {m : MV} (h : m.At w u) (hb : Below w.heap.size w w') : m.At w' u := by
  cases m with
  | reply s q h0 sq wk ep l en =>
    obtain ⟨a, c, e, hr⟩ := h
    exact ⟨a, c, e, hr.below hb rfl⟩
  | _ => exact h
set_option maxRecDepth 100000 in
theorem ta_hello_hello (v : Value) (X : TypeId) (w : World) : (Instr.typeAssert (.iface 36 v) X 36 true).run Tryz.prog w = .ok (.tuple #[v, .bool true]) w := by kernel_rfl
set_option maxRecDepth 100000 in
theorem ta_hello_grant (v : Value) (X : TypeId) (w : World) : (Instr.typeAssert (.iface 99 v) X 36 true).run Tryz.prog w = .ok (.tuple #[.agg #[.int .i64 0, .int .i64 0], .bool false]) w := by kernel_rfl
set_option maxRecDepth 100000 in
theorem ta_hello_ask (v : Value) (X : TypeId) (w : World) : (Instr.typeAssert (.iface 48 v) X 36 true).run Tryz.prog w = .ok (.tuple #[.agg #[.int .i64 0, .int .i64 0], .bool false]) w := by kernel_rfl
set_option maxRecDepth 100000 in
theorem ta_hello_reply (v : Value) (X : TypeId) (w : World) : (Instr.typeAssert (.iface 65 v) X 36 true).run Tryz.prog w = .ok (.tuple #[.agg #[.int .i64 0, .int .i64 0], .bool false]) w := by kernel_rfl
set_option maxRecDepth 100000 in
theorem ta_hello_stop (v : Value) (X : TypeId) (w : World) : (Instr.typeAssert (.iface 87 v) X 36 true).run Tryz.prog w = .ok (.tuple #[.agg #[.int .i64 0, .int .i64 0], .bool false]) w := by kernel_rfl
set_option maxRecDepth 100000 in
theorem ta_hello_nil (X : TypeId) (w : World) : (Instr.typeAssert .nilIface X 36 true).run Tryz.prog w = .ok (.tuple #[.agg #[.int .i64 0, .int .i64 0], .bool false]) w := by kernel_rfl
set_option maxRecDepth 100000 in
theorem ta_hello_other (t : TypeId) (v : Value) (X : TypeId) (w : World) (h : t ≠ 36) : (Instr.typeAssert (.iface t v) X 36 true).run Tryz.prog w = .ok (.tuple #[.agg #[.int .i64 0, .int .i64 0], .bool false]) w := by
  have e : Nat.decEq t 36 = .isFalse h := Subsingleton.elim _ _
  have : (Instr.typeAssert (.iface t v) X 36 true).run Tryz.prog w = (fun d : Decidable (t = 36) => (@ite (Sem Value) (t = 36) d (pure (.tuple #[v, .bool true])) (do let z ← zeroValue 36; pure (.tuple #[z, .bool false]))).run Tryz.prog w) (Nat.decEq t 36) := by kernel_rfl
  rw [this, e]
  show _ = _
  kernel_rfl
set_option maxRecDepth 100000 in
theorem ta_grant_hello (v : Value) (X : TypeId) (w : World) : (Instr.typeAssert (.iface 36 v) X 99 true).run Tryz.prog w = .ok (.tuple #[.agg #[.int .i64 0, .int .i64 0, .int .i64 0], .bool false]) w := by kernel_rfl
set_option maxRecDepth 100000 in
theorem ta_grant_grant (v : Value) (X : TypeId) (w : World) : (Instr.typeAssert (.iface 99 v) X 99 true).run Tryz.prog w = .ok (.tuple #[v, .bool true]) w := by kernel_rfl
set_option maxRecDepth 100000 in
theorem ta_grant_ask (v : Value) (X : TypeId) (w : World) : (Instr.typeAssert (.iface 48 v) X 99 true).run Tryz.prog w = .ok (.tuple #[.agg #[.int .i64 0, .int .i64 0, .int .i64 0], .bool false]) w := by kernel_rfl
set_option maxRecDepth 100000 in
theorem ta_grant_reply (v : Value) (X : TypeId) (w : World) : (Instr.typeAssert (.iface 65 v) X 99 true).run Tryz.prog w = .ok (.tuple #[.agg #[.int .i64 0, .int .i64 0, .int .i64 0], .bool false]) w := by kernel_rfl
set_option maxRecDepth 100000 in
theorem ta_grant_stop (v : Value) (X : TypeId) (w : World) : (Instr.typeAssert (.iface 87 v) X 99 true).run Tryz.prog w = .ok (.tuple #[.agg #[.int .i64 0, .int .i64 0, .int .i64 0], .bool false]) w := by kernel_rfl
set_option maxRecDepth 100000 in
theorem ta_grant_nil (X : TypeId) (w : World) : (Instr.typeAssert .nilIface X 99 true).run Tryz.prog w = .ok (.tuple #[.agg #[.int .i64 0, .int .i64 0, .int .i64 0], .bool false]) w := by kernel_rfl
set_option maxRecDepth 100000 in
theorem ta_grant_other (t : TypeId) (v : Value) (X : TypeId) (w : World) (h : t ≠ 99) : (Instr.typeAssert (.iface t v) X 99 true).run Tryz.prog w = .ok (.tuple #[.agg #[.int .i64 0, .int .i64 0, .int .i64 0], .bool false]) w := by
  have e : Nat.decEq t 99 = .isFalse h := Subsingleton.elim _ _
  have : (Instr.typeAssert (.iface t v) X 99 true).run Tryz.prog w = (fun d : Decidable (t = 99) => (@ite (Sem Value) (t = 99) d (pure (.tuple #[v, .bool true])) (do let z ← zeroValue 99; pure (.tuple #[z, .bool false]))).run Tryz.prog w) (Nat.decEq t 99) := by kernel_rfl
  rw [this, e]
  show _ = _
  kernel_rfl
set_option maxRecDepth 100000 in
theorem ta_ask_hello (v : Value) (X : TypeId) (w : World) : (Instr.typeAssert (.iface 36 v) X 48 true).run Tryz.prog w = .ok (.tuple #[.agg #[.int .i64 0, .int .i64 0, .int .i64 0, .int .i64 0, .int .i64 0, .string ByteArray.empty, .int .i64 0, .int .i64 0, .bool false, .int .i64 0, .string ByteArray.empty], .bool false]) w := by kernel_rfl
set_option maxRecDepth 100000 in
theorem ta_ask_grant (v : Value) (X : TypeId) (w : World) : (Instr.typeAssert (.iface 99 v) X 48 true).run Tryz.prog w = .ok (.tuple #[.agg #[.int .i64 0, .int .i64 0, .int .i64 0, .int .i64 0, .int .i64 0, .string ByteArray.empty, .int .i64 0, .int .i64 0, .bool false, .int .i64 0, .string ByteArray.empty], .bool false]) w := by kernel_rfl
set_option maxRecDepth 100000 in
theorem ta_ask_ask (v : Value) (X : TypeId) (w : World) : (Instr.typeAssert (.iface 48 v) X 48 true).run Tryz.prog w = .ok (.tuple #[v, .bool true]) w := by kernel_rfl
set_option maxRecDepth 100000 in
theorem ta_ask_reply (v : Value) (X : TypeId) (w : World) : (Instr.typeAssert (.iface 65 v) X 48 true).run Tryz.prog w = .ok (.tuple #[.agg #[.int .i64 0, .int .i64 0, .int .i64 0, .int .i64 0, .int .i64 0, .string ByteArray.empty, .int .i64 0, .int .i64 0, .bool false, .int .i64 0, .string ByteArray.empty], .bool false]) w := by kernel_rfl
set_option maxRecDepth 100000 in
theorem ta_ask_stop (v : Value) (X : TypeId) (w : World) : (Instr.typeAssert (.iface 87 v) X 48 true).run Tryz.prog w = .ok (.tuple #[.agg #[.int .i64 0, .int .i64 0, .int .i64 0, .int .i64 0, .int .i64 0, .string ByteArray.empty, .int .i64 0, .int .i64 0, .bool false, .int .i64 0, .string ByteArray.empty], .bool false]) w := by kernel_rfl
set_option maxRecDepth 100000 in
theorem ta_ask_nil (X : TypeId) (w : World) : (Instr.typeAssert .nilIface X 48 true).run Tryz.prog w = .ok (.tuple #[.agg #[.int .i64 0, .int .i64 0, .int .i64 0, .int .i64 0, .int .i64 0, .string ByteArray.empty, .int .i64 0, .int .i64 0, .bool false, .int .i64 0, .string ByteArray.empty], .bool false]) w := by kernel_rfl
set_option maxRecDepth 100000 in
theorem ta_ask_other (t : TypeId) (v : Value) (X : TypeId) (w : World) (h : t ≠ 48) : (Instr.typeAssert (.iface t v) X 48 true).run Tryz.prog w = .ok (.tuple #[.agg #[.int .i64 0, .int .i64 0, .int .i64 0, .int .i64 0, .int .i64 0, .string ByteArray.empty, .int .i64 0, .int .i64 0, .bool false, .int .i64 0, .string ByteArray.empty], .bool false]) w := by
  have e : Nat.decEq t 48 = .isFalse h := Subsingleton.elim _ _
  have : (Instr.typeAssert (.iface t v) X 48 true).run Tryz.prog w = (fun d : Decidable (t = 48) => (@ite (Sem Value) (t = 48) d (pure (.tuple #[v, .bool true])) (do let z ← zeroValue 48; pure (.tuple #[z, .bool false]))).run Tryz.prog w) (Nat.decEq t 48) := by kernel_rfl
  rw [this, e]
  show _ = _
  kernel_rfl
set_option maxRecDepth 100000 in
theorem ta_reply_hello (v : Value) (X : TypeId) (w : World) : (Instr.typeAssert (.iface 36 v) X 65 true).run Tryz.prog w = .ok (.tuple #[.agg #[.int .i64 0, .int .i64 0, .int .i64 0, .int .i64 0, .int .i64 0, .int .i64 0, .slice none 0 0, .bool false], .bool false]) w := by kernel_rfl
set_option maxRecDepth 100000 in
theorem ta_reply_grant (v : Value) (X : TypeId) (w : World) : (Instr.typeAssert (.iface 99 v) X 65 true).run Tryz.prog w = .ok (.tuple #[.agg #[.int .i64 0, .int .i64 0, .int .i64 0, .int .i64 0, .int .i64 0, .int .i64 0, .slice none 0 0, .bool false], .bool false]) w := by kernel_rfl
set_option maxRecDepth 100000 in
theorem ta_reply_ask (v : Value) (X : TypeId) (w : World) : (Instr.typeAssert (.iface 48 v) X 65 true).run Tryz.prog w = .ok (.tuple #[.agg #[.int .i64 0, .int .i64 0, .int .i64 0, .int .i64 0, .int .i64 0, .int .i64 0, .slice none 0 0, .bool false], .bool false]) w := by kernel_rfl
set_option maxRecDepth 100000 in
theorem ta_reply_reply (v : Value) (X : TypeId) (w : World) : (Instr.typeAssert (.iface 65 v) X 65 true).run Tryz.prog w = .ok (.tuple #[v, .bool true]) w := by kernel_rfl
set_option maxRecDepth 100000 in
theorem ta_reply_stop (v : Value) (X : TypeId) (w : World) : (Instr.typeAssert (.iface 87 v) X 65 true).run Tryz.prog w = .ok (.tuple #[.agg #[.int .i64 0, .int .i64 0, .int .i64 0, .int .i64 0, .int .i64 0, .int .i64 0, .slice none 0 0, .bool false], .bool false]) w := by kernel_rfl
set_option maxRecDepth 100000 in
theorem ta_reply_nil (X : TypeId) (w : World) : (Instr.typeAssert .nilIface X 65 true).run Tryz.prog w = .ok (.tuple #[.agg #[.int .i64 0, .int .i64 0, .int .i64 0, .int .i64 0, .int .i64 0, .int .i64 0, .slice none 0 0, .bool false], .bool false]) w := by kernel_rfl
set_option maxRecDepth 100000 in
theorem ta_reply_other (t : TypeId) (v : Value) (X : TypeId) (w : World) (h : t ≠ 65) : (Instr.typeAssert (.iface t v) X 65 true).run Tryz.prog w = .ok (.tuple #[.agg #[.int .i64 0, .int .i64 0, .int .i64 0, .int .i64 0, .int .i64 0, .int .i64 0, .slice none 0 0, .bool false], .bool false]) w := by
  have e : Nat.decEq t 65 = .isFalse h := Subsingleton.elim _ _
  have : (Instr.typeAssert (.iface t v) X 65 true).run Tryz.prog w = (fun d : Decidable (t = 65) => (@ite (Sem Value) (t = 65) d (pure (.tuple #[v, .bool true])) (do let z ← zeroValue 65; pure (.tuple #[z, .bool false]))).run Tryz.prog w) (Nat.decEq t 65) := by kernel_rfl
  rw [this, e]
  show _ = _
  kernel_rfl
set_option maxRecDepth 100000 in
theorem ta_stop_hello (v : Value) (X : TypeId) (w : World) : (Instr.typeAssert (.iface 36 v) X 87 true).run Tryz.prog w = .ok (.tuple #[.agg #[.int .i64 0, .int .i64 0], .bool false]) w := by kernel_rfl
set_option maxRecDepth 100000 in
theorem ta_stop_grant (v : Value) (X : TypeId) (w : World) : (Instr.typeAssert (.iface 99 v) X 87 true).run Tryz.prog w = .ok (.tuple #[.agg #[.int .i64 0, .int .i64 0], .bool false]) w := by kernel_rfl
set_option maxRecDepth 100000 in
theorem ta_stop_ask (v : Value) (X : TypeId) (w : World) : (Instr.typeAssert (.iface 48 v) X 87 true).run Tryz.prog w = .ok (.tuple #[.agg #[.int .i64 0, .int .i64 0], .bool false]) w := by kernel_rfl
set_option maxRecDepth 100000 in
theorem ta_stop_reply (v : Value) (X : TypeId) (w : World) : (Instr.typeAssert (.iface 65 v) X 87 true).run Tryz.prog w = .ok (.tuple #[.agg #[.int .i64 0, .int .i64 0], .bool false]) w := by kernel_rfl
set_option maxRecDepth 100000 in
theorem ta_stop_stop (v : Value) (X : TypeId) (w : World) : (Instr.typeAssert (.iface 87 v) X 87 true).run Tryz.prog w = .ok (.tuple #[v, .bool true]) w := by kernel_rfl
set_option maxRecDepth 100000 in
theorem ta_stop_nil (X : TypeId) (w : World) : (Instr.typeAssert .nilIface X 87 true).run Tryz.prog w = .ok (.tuple #[.agg #[.int .i64 0, .int .i64 0], .bool false]) w := by kernel_rfl
set_option maxRecDepth 100000 in
theorem ta_stop_other (t : TypeId) (v : Value) (X : TypeId) (w : World) (h : t ≠ 87) : (Instr.typeAssert (.iface t v) X 87 true).run Tryz.prog w = .ok (.tuple #[.agg #[.int .i64 0, .int .i64 0], .bool false]) w := by
  have e : Nat.decEq t 87 = .isFalse h := Subsingleton.elim _ _
  have : (Instr.typeAssert (.iface t v) X 87 true).run Tryz.prog w = (fun d : Decidable (t = 87) => (@ite (Sem Value) (t = 87) d (pure (.tuple #[v, .bool true])) (do let z ← zeroValue 87; pure (.tuple #[z, .bool false]))).run Tryz.prog w) (Nat.decEq t 87) := by kernel_rfl
  rw [this, e]
  show _ = _
  kernel_rfl
end
end Go.Proofs.YtinkbgeckjbnbaaGreat
namespace Go.Proofs.YtinkbgeckjbnbaaGreat
section
open Go.RowKit
set_option linter.unusedVariables false

/-- a message that lies nowhere -/
def MV.val : MV → Value
  | .hello w0 l0 => .iface 36 (.agg #[.int .i64 w0, .int .i64 l0])
  | .grant w0 l0 e0 => .iface 99 (.agg #[.int .i64 w0, .int .i64 l0, .int .i64 e0])
  | .ask s q h sq ep tx k b f d wd => .iface 48 (.agg #[.int .i64 s, .int .i64 q, .int .i64 h, .int .i64 sq, .int .i64 ep, .string tx, .int .i64 k, .int .i64 b, .bool f, .int .i64 d, .string wd])
  | .stop s q => .iface 87 (.agg #[.int .i64 s, .int .i64 q])
  | _ => .nilIface
/-- a letter -/
abbrev LV := Int × MV
def LV.cells (l : LV) : List Value := [.int .i64 l.1, l.2.val]
set_option maxRecDepth 100000 in
theorem LV.len (l : LV) : (LV.cells l).length = 2 := rfl
/-- letters in a row of nobody's -/
def LetAt (O : Own) (w : World) (base : Nat) (v : Value) (l : List LV) : Prop := ∃ ao c, v = .slice ao l.length c ∧ w.ownsRow base 51 2 (.slice ao l.length c) l.length (l.flatMap LV.cells) ∧ ∀ k, (Value.slice ao l.length c).ownBlock = some k → O k = 0
set_option maxRecDepth 100000 in
theorem LetAt.nil (O : Own) (w : World) (base : Nat) : LetAt O w base (.slice none 0 0) [] := ⟨none, 0, rfl, World.ownsRow_nil _ _ _ _, fun k hk => by simp [Value.ownBlock] at hk⟩
set_option maxRecDepth 100000 in
theorem info_let : (Tryz.prog.info? 51).map (fun i => (i.zero, i.size, i.bytes)) = some (some (.agg #[.int .i64 0, .nilIface]), 2, 24) := by kernel_rfl
set_option maxRecDepth 100000 in
theorem cptr_ne (p o : Nat) (W : World) : (binOp .eql 29 (.pointer (some ⟨p, o, none⟩)) (.pointer none)).run Tryz.prog W = .ok (.bool false) W := by kernel_rfl
/-- what a call of the coordinator leaves: its own blocks alone, or new ones -/
def COut (O : Own) (w w' : World) : Prop := Frm (fun b => O b % 8 = 1) w w'
set_option maxRecDepth 100000 in
theorem COut.of {O : Own} {i : Nat} {w w' : World} (h : OFrm O (ct i) w w') : COut O w w' := h.mono (fun b hb _ => by rw [hb]; exact ct_mod i)
set_option maxRecDepth 100000 in
theorem COut.trans {O O' : Own} {a b c : World} (h : COut O a b) (k : COut O' b c) (ha : AgO a.heap.size O O') : COut O a c := Frm.trans h k (fun i hi hl => by rw [← ha i hl]; exact hi)
set_option maxRecDepth 100000 in
theorem COut.below {O : Own} {w w' : World} (h : Below w.heap.size w w') : COut O w w' := Frm.below h
set_option maxRecDepth 100000 in
theorem cw_cancel {w : World} {O : Own} {A : CA} {p : Nat} {S : CS} (h : CW w O A p S) (id : Int) :
    Calls Tryz.prog 111 #[.pointer (some ⟨A.ti, 0, none⟩), .int .i64 id] w fun e w' => e = .returned (.bool (hasL id S.tm)) ∧ CW w' O A p { S with tm := cancelL id S.tm } ∧ COut O w w' := by
  obtain ⟨go, h1, h2, h3⟩ := CWx.ti h (fun q => q)
  refine (t_cancel A.ti id w go 24 S.tm h1).mono ?_
  rintro e w' ⟨rfl, hT, hf⟩
  have hO : OFrm O (ct 4) w w' := OFrm.of hf (fun b hb _ => by rcases hb with rfl | hb; exact h2; exact h3 b hb)
  exact ⟨rfl, CW.with_ti (CW.only h 4 hO (AgO.refl _ _)) _ ⟨go, hT, h2, h3⟩, COut.of hO⟩
set_option maxRecDepth 100000 in
theorem CW.with_L {w : World} {O : Own} {A : CA} {p : Nat} {S : CS} (h : CWx (fun t => t = ct 3 ∨ t = ct 5) w O A p S) (L : List Nat) (hs : SlO O (ct 3) w A.sl A.sf A.sa L S.told.length) (hq : MapO O (ct 5) w A.qm S.told.length (cntS L) (qF A.q L)) (hL : ∀ id ∈ L, id ≠ 0 → id ∈ S.L) : CW w O A p { S with L := L } :=
  have n : ∀ i, i ≠ 3 → i ≠ 5 → ¬ (ct i = ct 3 ∨ ct i = ct 5) := fun i h1 h2 h => h.elim (ct_ne h1) (ct_ne h2)
  ⟨fun _ => h.blk (n _ (by omega) (by omega)), fun _ => h.imm (n _ (by omega) (by omega)), fun _ => h.le (n _ (by omega) (by omega)), fun _ => hs, fun _ => h.ti (n _ (by omega) (by omega)), fun _ => hq, fun _ => h.told (n _ (by omega) (by omega)),
    fun id h1 h2 _ => h.qb id (hL id h1 h2) h2 (n _ (by omega) (by omega)), fun id h1 h2 _ => h.mg id (hL id h1 h2) h2 (n _ (by omega) (by omega)), fun i t h1 _ => h.it i t h1 (n _ (by omega) (by omega))⟩
set_option maxRecDepth 100000 in
theorem mem_freeL {L : List Nat} {last : Nat} (ho : SlOK L last) {id : Nat} (hm : id ∈ L) (h0 : id ≠ 0) (x : Nat) (hx : x ≠ 0) : x ∈ freeL L (id : Int) ↔ x ∈ L ∧ x ≠ id := by
  obtain ⟨s, hs⟩ := List.getElem?_of_mem hm
  have hof : ofF L (id : Int) = some (s : Int) := by rw [ofF_some ho]; exact ⟨by omega, by omega, by rw [Int.toNat_natCast, Int.toNat_natCast]; exact hs⟩
  unfold freeL
  rw [hof]
  simp only [Int.toNat_natCast]
  have hl : s < L.length := (List.getElem?_eq_some_iff.1 hs).1
  constructor
  · intro h
    obtain ⟨j, hj⟩ := List.getElem?_of_mem h
    by_cases e : s = j
    · subst e; rw [List.getElem?_set_self hl] at hj; cases hj; exact absurd rfl hx
    · rw [List.getElem?_set_ne e] at hj
      exact ⟨List.mem_of_getElem? hj, fun e2 => by subst e2; exact e (ho.one s j x hs hj hx)⟩
  · rintro ⟨h1, h2⟩
    obtain ⟨j, hj⟩ := List.getElem?_of_mem h1
    have e : s ≠ j := fun e => by subst e; rw [hs] at hj; cases hj; exact h2 rfl
    exact List.mem_of_getElem? (by rw [List.getElem?_set_ne e]; exact hj)
set_option maxRecDepth 100000 in
theorem cnt_freeL {L : List Nat} {last : Nat} (ho : SlOK L last) {id : Nat} (hm : id ∈ L) (h0 : id ≠ 0) : cntS (freeL L (id : Int)) = cntS L - 1 := by
  obtain ⟨s, hs⟩ := List.getElem?_of_mem hm
  have hof : ofF L (id : Int) = some (s : Int) := by rw [ofF_some ho]; exact ⟨by omega, by omega, by rw [Int.toNat_natCast, Int.toNat_natCast]; exact hs⟩
  unfold freeL
  rw [hof]
  have := cntS_set (y := 0) hs
  rw [if_pos h0, if_neg (by decide)] at this
  show cntS (L.set s 0) = _
  omega
set_option maxRecDepth 100000 in
theorem qF_free {q : Nat → Nat} {L : List Nat} {last : Nat} (ho : SlOK L last) {id : Nat} (hm : id ∈ L) (h0 : id ≠ 0) (k : Int) : (qF q (freeL L (id : Int)) k).map some = mputF (fun k => (qF q L k).map some) (id : Int) none k := by
  unfold mputF qF
  show _ = if k = (id : Int) then none else Option.map some (if 0 < k ∧ k.toNat ∈ L then some (q k.toNat) else none)
  by_cases hk : 0 < k
  · by_cases e : k = (id : Int)
    · subst e
      rw [if_pos rfl, if_neg (fun h => ((mem_freeL ho hm h0 id h0).1 (by simpa using h.2)).2 rfl)]
      rfl
    · rw [if_neg e]
      have hx : k.toNat ≠ 0 := by omega
      have := mem_freeL ho hm h0 k.toNat hx
      by_cases hin : k.toNat ∈ L
      · rw [if_pos ⟨hk, this.2 ⟨hin, by omega⟩⟩, if_pos ⟨hk, hin⟩]
      · rw [if_neg (fun h => hin (this.1 h.2).1), if_neg (fun h => hin h.2)]
  · by_cases e : k = (id : Int)
    · omega
    · rw [if_neg e, if_neg (fun h => hk h.1), if_neg (fun h => hk h.1)]
/-- the timers of a slot's first n shards are cancelled -/
def cancelS (tm : List One) (slot : Nat) (n : Nat) : List One := (List.range n).foldl (fun tm s => cancelL (6 * (slot : Int) + (s : Nat)) tm) tm
set_option maxRecDepth 100000 in
theorem cancelS_succ (tm : List One) (slot n : Nat) : cancelS tm slot (n + 1) = cancelL (6 * (slot : Int) + (n : Nat)) (cancelS tm slot n) := by
  unfold cancelS; rw [List.range_succ, List.foldl_append]; rfl
def stopsL (slot id n : Nat) : List LV := (List.range n).map (fun w : Nat => ((w : Int) + 1, .stop (slot : Nat) (id : Nat)))
set_option maxRecDepth 100000 in
theorem stopsL_len (slot id n : Nat) : (stopsL slot id n).length = n := by unfold stopsL; simp
set_option maxRecDepth 100000 in
theorem stopsL_succ (slot id n : Nat) : (stopsL slot id (n + 1)).flatMap LV.cells = (stopsL slot id n).flatMap LV.cells ++ [.int .i64 ((n : Int) + 1), .iface 87 (.agg #[.int .i64 (slot : Nat), .int .i64 (id : Nat)])] := by
  unfold stopsL; rw [List.range_succ, List.map_append, List.flatMap_append]; rfl
/-- a query is over -/
def CS.over (S : CS) (id n : Nat) : CS := { S with tm := cancelS S.tm (S.Q id).slot n, L := freeL S.L (id : Int) }
def OvE (O : Own) (A : CA) (p : Nat) (S : CS) (id : Nat) (wk : Nat) (w : World) (e : Ending) (w' : World) : Prop := ∃ v O', e = .returned v ∧ CW w' O' A p (S.over id A.cps.length) ∧ LetAt O' w' w.heap.size v (stopsL (S.Q id).slot id wk) ∧ AgO w.heap.size O O' ∧ COut O w w'
set_option linter.unusedSimpArgs false in
set_option maxRecDepth 100000 in
set_option maxHeartbeats 8000000 in
theorem over_any (O : Own) (A : CA) (p : Nat) (S : CS) (id wk : Nat) (w : World) (h : CW w O A p S) (hm : id ∈ S.L) (h0 : id ≠ 0) (hsh : A.cps.length ≤ 6) (hwk : S.c.wk = (wk : Int)) (hwk5 : wk ≤ 5) (hslot : (S.Q id).slot ≤ 4) (hid : id ≤ 1000000) :
    Calls Tryz.prog 74 #[.pointer (some ⟨p, 0, none⟩), .pointer (some ⟨A.q id, 0, none⟩)] w (OvE O A p S id wk w) := by
  obtain ⟨i0, hi, hz0, hz1, hz2⟩ := info_parts info_let
  have HI := Lib.hid hi
  have HZ0 := Lib.hid hz0
  have HZ1 := Lib.hid hz1
  have HZ2 := Lib.hid hz2
  clear hi hz0 hz1 hz2
  have HCW := Lib.hid h
  have t12 : w.cell? ⟨p, 12, none⟩ = some (.slice A.cpa A.cps.length A.cpc) := h.blk.cell 12
  have HSL := Lib.hid ((CWx.sl h (fun q => q)).1.ok)
  obtain ⟨sn, hsn⟩ : ∃ n, A.cps.length = n := ⟨_, rfl⟩
  have HSN := Lib.hid hsn
  obtain ⟨slot, hsl⟩ : ∃ n, (S.Q id).slot = n := ⟨_, rfl⟩
  have HST := Lib.hid hsl
  have HWK := Lib.hid hwk
  rw [hsn] at t12 hsh
  rw [hsl] at hslot
  have HM := Lib.hid hm
  clear h hsn hsl hwk hm
  go_enter Tryz.func74, Tryz.ntmps74
  go_wp2_with fail
  go_loopw [5, 13] (fun v5 v13 wr => ∃ k : Nat, k ≤ sn ∧ v13 = .int .i64 k ∧ RowKit.Hid (CW wr O A p { S with tm := cancelS S.tm slot k }) ∧ RowKit.Hid (COut O w wr)) (fun _ v _ => sn - (intOf v).toNat)
  case atStart => exact ⟨0, Nat.zero_le _, rfl, HCW.out, Frm.refl _ _⟩
  case round =>
    clear HCW t12
    obtain ⟨k, hk, rfl, HC, HF⟩ := hrel
    by_cases hlt : k < sn
    · have e1 : (k : Int) < (sn : Int) := by omega
      have HCB := Lib.hid (show Blk wr.drew p 120 _ from HC.out.blk)
      have HQB := Lib.hid (show Blk wr.drew (A.q id) 141 _ from (CWx.qb HC.out id HM.out h0 (fun h => h)).1)
      have HC' := Lib.hid (show CW wr.drew O A p { S with tm := cancelS S.tm slot k } from HC.out.below (below_drewN (Below.refl _ wr) 1) (AgO.refl _ _))
      have k16 : wr.drew.cell? ⟨p, 16, none⟩ = some (.pointer (some ⟨A.ti, 0, none⟩)) := HCB.out.cell 16
      have k1 : wr.drew.cell? ⟨A.q id, 1, none⟩ = some (.int .i64 (slot : Nat)) := by have q := HQB.out.cell 1; rw [← HST.out]; exact q
      have HK16 := Lib.hid k16
      have HK1 := Lib.hid k1
      clear k16 k1 HC
      go_upto_region 4 with fail
      refine wp_region_held_drew (S := (fun w' => w'.cell? ⟨p, 16, none⟩ = some (.pointer (some ⟨A.ti, 0, none⟩)) ∧ w'.cell? ⟨A.q id, 1, none⟩ = some (.int .i64 (slot : Nat)))) (by kernel_rfl) (by first | exact ⟨HK16.out, HK1.out⟩ | exact ⟨HK16b.out, HK1b.out⟩) (fun hHeld => ?_)
      refine takeO 0 (some 16) (v := ?_) rfl rfl (by kernel_rfl) (by kernel_rfl) (by kernel_rfl) (fun _ _ _ h => h) (Or.inl ⟨by rfl, ?_⟩) (by assumption) ?_
      rotate_left 1
      · intro w hSw; (try dsimp only at hSw); go_simp; all_goals with_reducible rfl
      try simp only [Act.put, List.setIfInBounds_toArray, List.set_cons_zero, List.set_cons_succ]
      refine takeO 1 (some 17) (v := ?_) rfl rfl (by kernel_rfl) (by kernel_rfl) (by kernel_rfl) (fun _ _ _ h => h) (Or.inl ⟨by rfl, ?_⟩) (by assumption) ?_
      rotate_left 1
      · intro w hSw; (try dsimp only at hSw); go_simp; all_goals with_reducible rfl
      try simp only [Act.put, List.setIfInBounds_toArray, List.set_cons_zero, List.set_cons_succ]
      refine takeO 2 (some 18) (v := ?_) rfl rfl (by kernel_rfl) (by kernel_rfl) (by kernel_rfl) (fun _ _ _ h => h) (Or.inl ⟨by rfl, ?_⟩) (by assumption) ?_
      rotate_left 1
      · intro w hSw; (try dsimp only at hSw); go_simp; all_goals with_reducible rfl
      try simp only [Act.put, List.setIfInBounds_toArray, List.set_cons_zero, List.set_cons_succ]
      refine takeO 3 (some 19) (v := ?_) rfl rfl (by kernel_rfl) (by kernel_rfl) (by kernel_rfl) (fun _ _ _ h => h) (Or.inl ⟨by rfl, ?_⟩) (by assumption) ?_
      rotate_left 1
      · intro w hSw; (try dsimp only at hSw); go_simp; all_goals with_reducible rfl
      try simp only [Act.put, List.setIfInBounds_toArray, List.set_cons_zero, List.set_cons_succ]
      refine takeO 4 (some 20) (v := ?_) rfl rfl (by kernel_rfl) (by kernel_rfl) (by kernel_rfl) (fun _ _ _ h => h) (Or.inl ⟨by rfl, ?_⟩) (by assumption) ?_
      rotate_left 1
      · intro w hSw; (try dsimp only at hSw); go_simp; all_goals with_reducible rfl
      try simp only [Act.put, List.setIfInBounds_toArray, List.set_cons_zero, List.set_cons_succ]
      refine takeO 5 (some 21) (v := ?_) rfl rfl (by kernel_rfl) (by kernel_rfl) (by kernel_rfl) (fun _ _ _ h => h) (Or.inl ⟨by rfl, ?_⟩) (by assumption) ?_
      rotate_left 1
      · intro w hSw; (try dsimp only at hSw); go_simp; all_goals with_reducible rfl
      try simp only [Act.put, List.setIfInBounds_toArray, List.set_cons_zero, List.set_cons_succ]
      refine takeO 6 (some 22) (v := ?_) rfl rfl (by kernel_rfl) (by kernel_rfl) (by kernel_rfl) (fun _ _ _ h => h) (Or.inl ⟨by rfl, ?_⟩) (by assumption) ?_
      rotate_left 1
      · intro w hSw; (try dsimp only at hSw); go_simp; all_goals with_reducible rfl
      try simp only [Act.put, List.setIfInBounds_toArray, List.set_cons_zero, List.set_cons_succ]
      refine takeO 7 (some 23) (v := ?_) rfl rfl (by kernel_rfl) (by kernel_rfl) (by kernel_rfl) (fun _ _ _ h => h) (Or.inl ⟨by rfl, ?_⟩) (by assumption) ?_
      rotate_left 1
      · intro w hSw; (try dsimp only at hSw); go_simp; all_goals with_reducible rfl
      try simp only [Act.put, List.setIfInBounds_toArray, List.set_cons_zero, List.set_cons_succ]
      refine takeO 8 (some 24) (v := ?_) rfl rfl (by kernel_rfl) (by kernel_rfl) (by kernel_rfl) (fun _ _ _ h => h) (Or.inl ⟨by rfl, ?_⟩) (by assumption) ?_
      rotate_left 1
      · intro w hSw; (try dsimp only at hSw); go_simp; all_goals with_reducible rfl
      try simp only [Act.put, List.setIfInBounds_toArray, List.set_cons_zero, List.set_cons_succ]
      refine wpAnyH_ready (rs := [9]) (by kernel_rfl) (by simp) ?_
      refine AllReadyH.cons rfl (fun K hK => ?_) AllReadyH.nil
      go_simp
      refine (timerID_any (slot : Nat) (k : Nat) wr.drew (by omega) (by omega) (by omega) (by omega)).mono ?_; rintro e w' ⟨rfl, rfl⟩
      go_wp2_with fail
      refine hK.out _ _ (by first | exact ⟨HK16.out, HK1.out⟩ | exact ⟨HK16b.out, HK1b.out⟩) (fun hHeld => ?_)
      clear hK K
      try simp only [Act.put, List.setIfInBounds_toArray, List.set_cons_zero, List.set_cons_succ]
      refine wpAnyH_ready (rs := [10]) (by kernel_rfl) (by simp) ?_
      refine AllReadyH.cons rfl (fun K hK => ?_) AllReadyH.nil
      go_simp
      refine (cw_cancel HC'.out (6 * ((slot : Nat) : Int) + (k : Nat))).mono ?_; rintro e w2 ⟨rfl, hc2, hf2⟩; have HK16b := Lib.hid (show w2.cell? ⟨p, 16, none⟩ = some (.pointer (some ⟨A.ti, 0, none⟩)) from hc2.blk.cell 16); have HK1b := Lib.hid (show w2.cell? ⟨A.q id, 1, none⟩ = some (.int .i64 (slot : Nat)) from by have q := (CWx.qb hc2 id HM.out h0 (fun h => h)).1.cell 1; rw [← HST.out]; exact q); have HC2 := Lib.hid hc2; have HF2 := Lib.hid hf2; clear hc2 hf2
      go_wp2_with fail
      refine hK.out _ _ (by first | exact ⟨HK16.out, HK1.out⟩ | exact ⟨HK16b.out, HK1b.out⟩) (fun hHeld => ?_)
      clear hK K
      try simp only [Act.put, List.setIfInBounds_toArray, List.set_cons_zero, List.set_cons_succ]
      refine wpAnyH_done (by kernel_rfl) ?_ _
      go_wp2_with fail
      go_roundw
      case rel => exact ⟨k + 1, by omega, by go_num, (by unfold RowKit.Hid; rw [cancelS_succ]; exact HC2.out), (by unfold RowKit.Hid; exact COut.trans (show COut O w wr.drew from HF.out.drew) HF2.out (AgO.refl _ _))⟩
      case measure => simp [intOf]; omega
    · obtain rfl : k = sn := by omega
      clear hlt hk
      have HC' := Lib.hid (show CW wr.drew O A p { S with tm := cancelS S.tm slot k } from HC.out.below (below_drewN (Below.refl _ wr) 1) (AgO.refl _ _))
      have HF' := Lib.hid (show COut O w wr.drew from HF.out.drew)
      clear HC HF
      have HK15 := Lib.hid (show wr.drew.cell? ⟨p, 15, none⟩ = some (.pointer (some ⟨A.sl, 0, none⟩)) from HC'.out.blk.cell 15)
      have HK0 := Lib.hid (show wr.drew.cell? ⟨A.q id, 0, none⟩ = some (.int .i64 (id : Nat)) from (CWx.qb HC'.out id HM.out h0 (fun h => h)).1.cell 0)
      have hkid : wf64 (id : Int) := wf64_of (by omega) (by omega)
      have HFR := Lib.hid (s_free A.sl A.sf A.sa S.L S.told.length (id : Int) wr.drew (CWx.sl HC'.out (fun h => h)).1 hkid)
      have HKID := Lib.hid hkid
      clear hkid
      have hof : ∃ x, (ofF S.L (id : Int)).isSome = x := ⟨_, rfl⟩
      obtain ⟨fb, hfb⟩ := hof
      rw [hfb] at HFR
      clear hfb
      go_upto_region 6 with fail
      refine wp_region_held_drew (S := (fun w' => w'.cell? ⟨p, 15, none⟩ = some (.pointer (some ⟨A.sl, 0, none⟩)) ∧ w'.cell? ⟨A.q id, 0, none⟩ = some (.int .i64 (id : Nat)))) (by kernel_rfl) (by first | exact ⟨HK15.out, HK0.out⟩ | exact ⟨HK15b.out, HK0b.out⟩) (fun hHeld => ?_)
      refine takeO 0 (some 28) (v := ?_) rfl rfl (by kernel_rfl) (by kernel_rfl) (by kernel_rfl) (fun _ _ _ h => h) (Or.inl ⟨by rfl, ?_⟩) (by assumption) ?_
      rotate_left 1
      · intro w hSw; (try dsimp only at hSw); go_simp; all_goals with_reducible rfl
      try simp only [Act.put, List.setIfInBounds_toArray, List.set_cons_zero, List.set_cons_succ]
      refine takeO 1 (some 29) (v := ?_) rfl rfl (by kernel_rfl) (by kernel_rfl) (by kernel_rfl) (fun _ _ _ h => h) (Or.inl ⟨by rfl, ?_⟩) (by assumption) ?_
      rotate_left 1
      · intro w hSw; (try dsimp only at hSw); go_simp; all_goals with_reducible rfl
      try simp only [Act.put, List.setIfInBounds_toArray, List.set_cons_zero, List.set_cons_succ]
      refine takeO 2 (some 30) (v := ?_) rfl rfl (by kernel_rfl) (by kernel_rfl) (by kernel_rfl) (fun _ _ _ h => h) (Or.inl ⟨by rfl, ?_⟩) (by assumption) ?_
      rotate_left 1
      · intro w hSw; (try dsimp only at hSw); go_simp; all_goals with_reducible rfl
      try simp only [Act.put, List.setIfInBounds_toArray, List.set_cons_zero, List.set_cons_succ]
      refine takeO 3 (some 31) (v := ?_) rfl rfl (by kernel_rfl) (by kernel_rfl) (by kernel_rfl) (fun _ _ _ h => h) (Or.inl ⟨by rfl, ?_⟩) (by assumption) ?_
      rotate_left 1
      · intro w hSw; (try dsimp only at hSw); go_simp; all_goals with_reducible rfl
      try simp only [Act.put, List.setIfInBounds_toArray, List.set_cons_zero, List.set_cons_succ]
      refine takeO 4 (some 32) (v := ?_) rfl rfl (by kernel_rfl) (by kernel_rfl) (by kernel_rfl) (fun _ _ _ h => h) (Or.inl ⟨by rfl, ?_⟩) (by assumption) ?_
      rotate_left 1
      · intro w hSw; (try dsimp only at hSw); go_simp; all_goals with_reducible rfl
      try simp only [Act.put, List.setIfInBounds_toArray, List.set_cons_zero, List.set_cons_succ]
      refine takeO 5 (some 33) (v := ?_) rfl rfl (by kernel_rfl) (by kernel_rfl) (by kernel_rfl) (fun _ _ _ h => h) (Or.inl ⟨by rfl, ?_⟩) (by assumption) ?_
      rotate_left 1
      · intro w hSw; (try dsimp only at hSw); go_simp; all_goals with_reducible rfl
      try simp only [Act.put, List.setIfInBounds_toArray, List.set_cons_zero, List.set_cons_succ]
      refine takeO 6 (some 34) (v := ?_) rfl rfl (by kernel_rfl) (by kernel_rfl) (by kernel_rfl) (fun _ _ _ h => h) (Or.inl ⟨by rfl, ?_⟩) (by assumption) ?_
      rotate_left 1
      · intro w hSw; (try dsimp only at hSw); go_simp; all_goals with_reducible rfl
      try simp only [Act.put, List.setIfInBounds_toArray, List.set_cons_zero, List.set_cons_succ]
      refine takeO 7 (some 35) (v := ?_) rfl rfl (by kernel_rfl) (by kernel_rfl) (by kernel_rfl) (fun _ _ _ h => h) (Or.inl ⟨by rfl, ?_⟩) (by assumption) ?_
      rotate_left 1
      · intro w hSw; (try dsimp only at hSw); go_simp; all_goals with_reducible rfl
      try simp only [Act.put, List.setIfInBounds_toArray, List.set_cons_zero, List.set_cons_succ]
      refine wpAnyH_ready (rs := [8]) (by kernel_rfl) (by simp) ?_
      refine AllReadyH.cons rfl (fun K hK => ?_) AllReadyH.nil
      go_simp
      refine HFR.out.mono ?_; rintro e w2 ⟨rfl, hs2, hf2⟩; clear HFR; have hof2 : OFrm O (ct 3) wr.drew w2 := OFrm.of hf2 (fun b hb _ => by obtain ⟨_, o1, o2, o3⟩ := CWx.sl HC'.out (fun h => h); rcases hb with rfl | rfl | rfl; exact o1; exact o2; exact o3); have hc2 := CW.only HC'.out 3 hof2 (AgO.refl _ _); have HS2 := Lib.hid (show SlO O (ct 3) w2 A.sl A.sf A.sa (freeL S.L (id : Int)) S.told.length from ⟨hs2, (CWx.sl HC'.out (fun h => h)).2⟩); have HC2 := Lib.hid hc2; have HF2 := Lib.hid (COut.of hof2); have HK15b := Lib.hid (show w2.cell? ⟨p, 15, none⟩ = some (.pointer (some ⟨A.sl, 0, none⟩)) from (hc2.blk (ct_ne (by omega))).1.cell 15); have HK0b := Lib.hid (show w2.cell? ⟨A.q id, 0, none⟩ = some (.int .i64 (id : Nat)) from (hc2.qb id HM.out h0 (ct_ne (by omega))).1.cell 0); clear hs2 hf2 hof2 hc2
      go_wp2_with fail
      refine hK.out _ _ (by first | exact ⟨HK15.out, HK0.out⟩ | exact ⟨HK15b.out, HK0b.out⟩) (fun hHeld => ?_)
      clear hK K
      try simp only [Act.put, List.setIfInBounds_toArray, List.set_cons_zero, List.set_cons_succ]
      refine wpAnyH_done (by kernel_rfl) ?_ _
      have HF3 := Lib.hid (show COut O w w2 from HF'.out.trans HF2.out (AgO.refl _ _))
      clear HF' HF2 HC' HK15 HK0 HK15b
      have HC3 := Lib.hid (show CWx (fun t => t = ct 3) w2.drew O A p { S with tm := cancelS S.tm slot k } from CWx.below HC2.out (below_drewN (Below.refl _ w2) 1) (AgO.refl _ _))
      have HS3 := Lib.hid (show SlO O (ct 3) w2.drew A.sl A.sf A.sa (freeL S.L (id : Int)) S.told.length from SlO.frm HS2.out (Frm.below (S := fun _ => False) (below_drewN (Below.refl _ w2) 1)) (fun _ _ _ q => q) (AgO.refl _ _))
      clear HC2 HS2
      have HK17 := Lib.hid (show w2.drew.cell? ⟨p, 17, none⟩ = some (.map (some A.qm)) from (HC3.out.blk (ct_ne (by omega))).1.cell 17)
      have HQ3 := Lib.hid (HC3.out.qb id HM.out h0 (ct_ne (by omega)))
      have HK0 := Lib.hid (show w2.drew.cell? ⟨A.q id, 0, none⟩ = some (.int .i64 (id : Nat)) from HQ3.out.1.cell 0)
      clear HK0b
      have hmp := HC3.out.qm (ct_ne (by omega))
      obtain ⟨w3, hr3, hm3, hf3⟩ := MapF.drop hmp.1 Tryz.underlying114 HKID.out 0
      have HC4 := Lib.hid (show CWx (fun t => t = ct 3 ∨ t = ct 5) w3 O A p { S with tm := cancelS S.tm slot k } from CWx.frm HC3.out hf3 (AgO.refl _ _) (fun _ q => .inl q) (fun b _ e => .inl (.inr (by subst e; exact hmp.2))))
      have HS4 := Lib.hid (show SlO O (ct 3) w3 A.sl A.sf A.sa (freeL S.L (id : Int)) S.told.length from SlO.frm HS3.out hf3 (fun b _ ho e => by subst e; rw [hmp.2] at ho; exact ct_ne (by omega) ho) (AgO.refl _ _))
      have HQ4 := Lib.hid (show BlkO O (ct (7 + 3 * id)) w3 (A.q id) 141 ((S.Q id).cells id (A.m id)) from BlkO.frm HQ3.out hf3 (fun b _ ho e => by subst e; rw [hmp.2] at ho; exact ct_ne (by omega) ho) (AgO.refl _ _))
      have hsome : (Option.map some (qF A.q S.L (id : Int))).isSome = true := by unfold qF; rw [if_pos ⟨by omega, by rw [Int.toNat_natCast]; exact HM.out⟩]; rfl
      have hm4 : MapO O (ct 5) w3 A.qm S.told.length (cntS (freeL S.L (id : Int))) (qF A.q (freeL S.L (id : Int))) := by
        refine ⟨?_, hmp.2⟩
        rw [show (Option.map some (qF A.q (CS.L { S with tm := cancelS S.tm slot k }) (id : Int))).isSome = true from hsome, if_pos rfl] at hm3
        rw [cnt_freeL HSL.out HM.out h0]
        exact hm3.cong (fun j => (qF_free HSL.out HM.out h0 j).symm)
      have HC5 := Lib.hid (show CW w3 O A p (S.over id A.cps.length) from by have q := CW.with_L HC4.out _ HS4.out hm4 (fun x h1 h2 => ((mem_freeL HSL.out HM.out h0 x h2).1 h1).1); unfold CS.over; rw [HST.out, HSN.out]; exact q)
      have HF5 := Lib.hid (show COut O w w3 from COut.trans (show COut O w w2.drew from HF3.out.drew) (COut.of (i := 5) (OFrm.of hf3 (fun b e _ => by subst e; exact hmp.2))) (AgO.refl _ _))
      have HK17b := Lib.hid (show w3.cell? ⟨p, 17, none⟩ = some (.map (some A.qm)) from HC5.out.blk.cell 17)
      have HK0b := Lib.hid (show w3.cell? ⟨A.q id, 0, none⟩ = some (.int .i64 (id : Nat)) from HQ4.out.1.cell 0)
      have HR3 := Lib.hid hr3
      clear hr3 hm3 hf3 hmp hsome hm4 HC3 HS3 HQ3 HC4 HS4 HF3
      go_upto_region 7 with fail
      refine wp_region_held_drew (S := (fun w' => w'.cell? ⟨p, 17, none⟩ = some (.map (some A.qm)) ∧ w'.cell? ⟨A.q id, 0, none⟩ = some (.int .i64 (id : Nat)))) (by kernel_rfl) (by first | exact ⟨HK17.out, HK0.out⟩ | exact ⟨HK17b.out, HK0b.out⟩) (fun hHeld => ?_)
      refine takeO 0 (some 37) (v := ?_) rfl rfl (by kernel_rfl) (by kernel_rfl) (by kernel_rfl) (fun _ _ _ h => h) (Or.inl ⟨by rfl, ?_⟩) (by assumption) ?_
      rotate_left 1
      · intro w hSw; (try dsimp only at hSw); go_simp; all_goals with_reducible rfl
      try simp only [Act.put, List.setIfInBounds_toArray, List.set_cons_zero, List.set_cons_succ]
      refine takeO 1 (some 38) (v := ?_) rfl rfl (by kernel_rfl) (by kernel_rfl) (by kernel_rfl) (fun _ _ _ h => h) (Or.inl ⟨by rfl, ?_⟩) (by assumption) ?_
      rotate_left 1
      · intro w hSw; (try dsimp only at hSw); go_simp; all_goals with_reducible rfl
      try simp only [Act.put, List.setIfInBounds_toArray, List.set_cons_zero, List.set_cons_succ]
      refine takeO 2 (some 39) (v := ?_) rfl rfl (by kernel_rfl) (by kernel_rfl) (by kernel_rfl) (fun _ _ _ h => h) (Or.inl ⟨by rfl, ?_⟩) (by assumption) ?_
      rotate_left 1
      · intro w hSw; (try dsimp only at hSw); go_simp; all_goals with_reducible rfl
      try simp only [Act.put, List.setIfInBounds_toArray, List.set_cons_zero, List.set_cons_succ]
      refine takeO 3 (some 40) (v := ?_) rfl rfl (by kernel_rfl) (by kernel_rfl) (by kernel_rfl) (fun _ _ _ h => h) (Or.inl ⟨by rfl, ?_⟩) (by assumption) ?_
      rotate_left 1
      · intro w hSw; (try dsimp only at hSw); go_simp; all_goals with_reducible rfl
      try simp only [Act.put, List.setIfInBounds_toArray, List.set_cons_zero, List.set_cons_succ]
      refine takeO 4 (some 41) (v := ?_) rfl rfl (by kernel_rfl) (by kernel_rfl) (by kernel_rfl) (fun _ _ _ h => h) (Or.inl ⟨by rfl, ?_⟩) (by assumption) ?_
      rotate_left 1
      · intro w hSw; (try dsimp only at hSw); go_simp; all_goals with_reducible rfl
      try simp only [Act.put, List.setIfInBounds_toArray, List.set_cons_zero, List.set_cons_succ]
      refine takeO 5 (some 42) (v := ?_) rfl rfl (by kernel_rfl) (by kernel_rfl) (by kernel_rfl) (fun _ _ _ h => h) (Or.inl ⟨by rfl, ?_⟩) (by assumption) ?_
      rotate_left 1
      · intro w hSw; (try dsimp only at hSw); go_simp; all_goals with_reducible rfl
      try simp only [Act.put, List.setIfInBounds_toArray, List.set_cons_zero, List.set_cons_succ]
      refine takeO 6 (some 43) (v := ?_) rfl rfl (by kernel_rfl) (by kernel_rfl) (by kernel_rfl) (fun _ _ _ h => h) (Or.inl ⟨by rfl, ?_⟩) (by assumption) ?_
      rotate_left 1
      · intro w hSw; (try dsimp only at hSw); go_simp; all_goals with_reducible rfl
      try simp only [Act.put, List.setIfInBounds_toArray, List.set_cons_zero, List.set_cons_succ]
      refine takeO 7 (some 44) (v := ?_) rfl rfl (by kernel_rfl) (by kernel_rfl) (by kernel_rfl) (fun _ _ _ h => h) (Or.inl ⟨by rfl, ?_⟩) (by assumption) ?_
      rotate_left 1
      · intro w hSw; (try dsimp only at hSw); go_simp; all_goals with_reducible rfl
      try simp only [Act.put, List.setIfInBounds_toArray, List.set_cons_zero, List.set_cons_succ]
      refine wpAnyH_ready (rs := [8]) (by kernel_rfl) (by simp) ?_
      refine AllReadyH.cons rfl (fun K hK => ?_) AllReadyH.nil
      have hrr := HR3.out
      go_simp
      clear hrr
      refine hK.out _ _ (by first | exact ⟨HK17.out, HK0.out⟩ | exact ⟨HK17b.out, HK0b.out⟩) (fun hHeld => ?_)
      clear hK K
      try simp only [Act.put, List.setIfInBounds_toArray, List.set_cons_zero, List.set_cons_succ]
      refine wpAnyH_done (by kernel_rfl) ?_ _
      clear HR3 HK17 HK0 HK17b
      have t2 : w3.cell? ⟨p, 2, none⟩ = some (.int .i64 (wk : Nat)) := by have q : w3.cell? ⟨p, 2, none⟩ = some (.int .i64 S.c.wk) := HC5.out.blk.cell 2; rw [HWK.out] at q; exact q
      go_wp2_with fail
      clear t2
      go_loopw [6, 50] (fun v6 v50 wr => ∃ (j : Nat) (ao : Option Addr) (c2 : Nat), j ≤ wk ∧ v50 = .int .i64 j ∧ v6 = .slice ao j c2 ∧ RowKit.Hid (wr.ownsRow w3.heap.size 51 2 (.slice ao j c2) j ((stopsL slot id j).flatMap LV.cells)) ∧ RowKit.Hid (Below w3.heap.size w3 wr)) (fun _ v _ => wk - (intOf v).toNat)
      case atStart => exact ⟨0, none, 0, Nat.zero_le _, rfl, rfl, World.ownsRow_nil _ _ _ _, Below.refl _ _⟩
      case round =>
        clear HK0b hHeld
        obtain ⟨j, ao, c2, hj, rfl, rfl, HO, HB⟩ := hrel
        by_cases hlt : j < wk
        · have e1 : (j : Int) < (wk : Int) := by omega
          have HO1 := Lib.hid (show (wr.alloc (.cells #[.int .i64 (IntKind.i64.wrap ((j : Int) + 1)), .iface 87 (.agg #[.int .i64 (slot : Nat), .int .i64 (id : Nat)])] 51)).drew.ownsRow w3.heap.size 51 2 (.slice ao j c2) j ((stopsL slot id j).flatMap LV.cells) from HO.out.alloc _)
          have HQ5 := Lib.hid (HQ4.out.1.below HB.out HQ4.out.1.lt)
          have HK1 := Lib.hid (show wr.drew.cell? ⟨A.q id, 1, none⟩ = some (.int .i64 (slot : Nat)) from by have q := HQ5.out.cell 1; rw [← HST.out]; exact q)
          have HK0 := Lib.hid (show wr.drew.cell? ⟨A.q id, 0, none⟩ = some (.int .i64 (id : Nat)) from HQ5.out.cell 0)
          have HQ6 := Lib.hid (show Blk (wr.alloc (.cells #[.int .i64 (IntKind.i64.wrap ((j : Int) + 1)), .iface 87 (.agg #[.int .i64 (slot : Nat), .int .i64 (id : Nat)])] 51)).drew (A.q id) 141 _ from Blk.alloc HQ5.out _)
          have HK1b := Lib.hid (show (wr.alloc (.cells #[.int .i64 (IntKind.i64.wrap ((j : Int) + 1)), .iface 87 (.agg #[.int .i64 (slot : Nat), .int .i64 (id : Nat)])] 51)).drew.cell? ⟨A.q id, 1, none⟩ = some (.int .i64 (slot : Nat)) from by have q := HQ6.out.cell 1; rw [show ((S.Q id).cells id (A.m id))[1]? = some (.int .i64 ((S.Q id).slot : Nat)) from rfl, HST.out] at q; exact q)
          have HK0b := Lib.hid (show (wr.alloc (.cells #[.int .i64 (IntKind.i64.wrap ((j : Int) + 1)), .iface 87 (.agg #[.int .i64 (slot : Nat), .int .i64 (id : Nat)])] 51)).drew.cell? ⟨A.q id, 0, none⟩ = some (.int .i64 (id : Nat)) from HQ6.out.cell 0)
          have A1 : j + 1 ≤ maxLen := by unfold maxLen; omega
          have A2 : (j + 1) * 24 ≤ 140737488355328 := by omega
          have A3 : w3.heap.size ≤ wr.heap.size := HB.out.size
          have HBA := Lib.hid (show Below w3.heap.size w3 (wr.alloc (.cells #[.int .i64 (IntKind.i64.wrap ((j : Int) + 1)), .iface 87 (.agg #[.int .i64 (slot : Nat), .int .i64 (id : Nat)])] 51)).drew from (HB.out.alloc A3 _).drew)
          go_upto_region 12 with fail
          refine wp_region_held_drew (S := (fun w' => w'.cell? ⟨A.q id, 1, none⟩ = some (.int .i64 (slot : Nat)) ∧ w'.cell? ⟨A.q id, 0, none⟩ = some (.int .i64 (id : Nat)))) (by kernel_rfl) (by first | exact ⟨HK1.out, HK0.out⟩ | exact ⟨HK1b.out, HK0b.out⟩ | exact ⟨HK1c.out, HK0c.out⟩) (fun hHeld => ?_)
          refine takeO 0 (some 53) (v := ?_) rfl rfl (by kernel_rfl) (by kernel_rfl) (by kernel_rfl) (fun _ _ _ h => h) (Or.inl ⟨by rfl, ?_⟩) (by assumption) ?_
          rotate_left 1
          · intro w hSw; (try dsimp only at hSw); go_simp; all_goals with_reducible rfl
          try simp only [Act.put, List.setIfInBounds_toArray, List.set_cons_zero, List.set_cons_succ]
          refine takeO 1 (some 54) (v := ?_) rfl rfl (by kernel_rfl) (by kernel_rfl) (by kernel_rfl) (fun _ _ _ h => h) (Or.inl ⟨by rfl, ?_⟩) (by assumption) ?_
          rotate_left 1
          · intro w hSw; (try dsimp only at hSw); go_simp; all_goals with_reducible rfl
          try simp only [Act.put, List.setIfInBounds_toArray, List.set_cons_zero, List.set_cons_succ]
          refine takeO 2 (some 55) (v := ?_) rfl rfl (by kernel_rfl) (by kernel_rfl) (by kernel_rfl) (fun _ _ _ h => h) (Or.inl ⟨by rfl, ?_⟩) (by assumption) ?_
          rotate_left 1
          · intro w hSw; (try dsimp only at hSw); go_simp; all_goals with_reducible rfl
          try simp only [Act.put, List.setIfInBounds_toArray, List.set_cons_zero, List.set_cons_succ]
          refine takeO 3 (some 56) (v := ?_) rfl rfl (by kernel_rfl) (by kernel_rfl) (by kernel_rfl) (fun _ _ _ h => h) (Or.inl ⟨by rfl, ?_⟩) (by assumption) ?_
          rotate_left 1
          · intro w hSw; (try dsimp only at hSw); go_simp; all_goals with_reducible rfl
          try simp only [Act.put, List.setIfInBounds_toArray, List.set_cons_zero, List.set_cons_succ]
          refine takeO 4 (some 57) (v := ?_) rfl rfl (by kernel_rfl) (by kernel_rfl) (by kernel_rfl) (fun _ _ _ h => h) (Or.inl ⟨by rfl, ?_⟩) (by assumption) ?_
          rotate_left 1
          · intro w hSw; (try dsimp only at hSw); go_simp; all_goals with_reducible rfl
          try simp only [Act.put, List.setIfInBounds_toArray, List.set_cons_zero, List.set_cons_succ]
          refine takeO 5 (some 58) (v := ?_) rfl rfl (by kernel_rfl) (by kernel_rfl) (by kernel_rfl) (fun _ _ _ h => h) (Or.inl ⟨by rfl, ?_⟩) (by assumption) ?_
          rotate_left 1
          · intro w hSw; (try dsimp only at hSw); go_simp; all_goals with_reducible rfl
          try simp only [Act.put, List.setIfInBounds_toArray, List.set_cons_zero, List.set_cons_succ]
          refine takeO 6 (some 59) (v := ?_) rfl rfl (by kernel_rfl) (by kernel_rfl) (by kernel_rfl) (fun _ _ _ h => h) (Or.inl ⟨by rfl, ?_⟩) (by assumption) ?_
          rotate_left 1
          · intro w hSw; (try dsimp only at hSw); go_simp; all_goals with_reducible rfl
          try simp only [Act.put, List.setIfInBounds_toArray, List.set_cons_zero, List.set_cons_succ]
          refine takeO 7 (some 60) (v := ?_) rfl rfl (by kernel_rfl) (by kernel_rfl) (by kernel_rfl) (fun _ _ _ h => h) (Or.inl ⟨by rfl, ?_⟩) (by assumption) ?_
          rotate_left 1
          · intro w hSw; (try dsimp only at hSw); go_simp; all_goals with_reducible rfl
          try simp only [Act.put, List.setIfInBounds_toArray, List.set_cons_zero, List.set_cons_succ]
          refine takeO 8 (some 61) (v := ?_) rfl rfl (by kernel_rfl) (by kernel_rfl) (by kernel_rfl) (fun _ _ _ h => h) (Or.inl ⟨by rfl, ?_⟩) (by assumption) ?_
          rotate_left 1
          · intro w hSw; (try dsimp only at hSw); go_simp; all_goals with_reducible rfl
          try simp only [Act.put, List.setIfInBounds_toArray, List.set_cons_zero, List.set_cons_succ]
          refine takeO 9 (some 62) (v := ?_) rfl rfl (by kernel_rfl) (by kernel_rfl) (by kernel_rfl) (fun _ _ _ h => h) (Or.inl ⟨by rfl, ?_⟩) (by assumption) ?_
          rotate_left 1
          · intro w hSw; (try dsimp only at hSw); go_simp; all_goals with_reducible rfl
          try simp only [Act.put, List.setIfInBounds_toArray, List.set_cons_zero, List.set_cons_succ]
          refine takeO 10 (some 63) (v := ?_) rfl rfl (by kernel_rfl) (by kernel_rfl) (by kernel_rfl) (fun _ _ _ h => h) (Or.inl ⟨by rfl, ?_⟩) (by assumption) ?_
          rotate_left 1
          · intro w hSw; (try dsimp only at hSw); go_simp; all_goals with_reducible rfl
          try simp only [Act.put, List.setIfInBounds_toArray, List.set_cons_zero, List.set_cons_succ]
          refine takeO 11 (some 64) (v := ?_) rfl rfl (by kernel_rfl) (by kernel_rfl) (by kernel_rfl) (fun _ _ _ h => h) (Or.inl ⟨by rfl, ?_⟩) (by assumption) ?_
          rotate_left 1
          · intro w hSw; (try dsimp only at hSw); go_simp; all_goals with_reducible rfl
          try simp only [Act.put, List.setIfInBounds_toArray, List.set_cons_zero, List.set_cons_succ]
          refine takeO 12 (some 65) (v := ?_) rfl rfl (by kernel_rfl) (by kernel_rfl) (by kernel_rfl) (fun _ _ _ h => h) (Or.inl ⟨by rfl, ?_⟩) (by assumption) ?_
          rotate_left 1
          · intro w hSw; (try dsimp only at hSw); go_simp; all_goals with_reducible rfl
          try simp only [Act.put, List.setIfInBounds_toArray, List.set_cons_zero, List.set_cons_succ]
          refine takeO 13 (some 66) (v := ?_) rfl rfl (by kernel_rfl) (by kernel_rfl) (by kernel_rfl) (fun _ _ _ h => h) (Or.inl ⟨by rfl, ?_⟩) (by assumption) ?_
          rotate_left 1
          · intro w hSw; (try dsimp only at hSw); go_simp; all_goals with_reducible rfl
          try simp only [Act.put, List.setIfInBounds_toArray, List.set_cons_zero, List.set_cons_succ]
          refine wpAnyH_ready (rs := [14]) (by kernel_rfl) (by simp) ?_
          refine AllReadyH.cons rfl (fun K hK => ?_) AllReadyH.nil
          go_simp
          go_wp2_with fail
          refine hK.out _ _ (by first | exact ⟨HK1.out, HK0.out⟩ | exact ⟨HK1b.out, HK0b.out⟩ | exact ⟨HK1c.out, HK0c.out⟩) (fun hHeld => ?_)
          clear hK K
          try simp only [Act.put, List.setIfInBounds_toArray, List.set_cons_zero, List.set_cons_succ]
          refine wpAnyH_ready (rs := [15]) (by kernel_rfl) (by simp) ?_
          refine AllReadyH.cons rfl (fun K hK => ?_) AllReadyH.nil
          refine step_app rfl (.tmp 53) (.tmp 67) 33 33 rfl w3.heap.size 51 i0 (.agg #[.int .i64 0, .nilIface]) 2 24 Tryz.underlying33 HI.out HZ0.out HZ1.out HZ2.out rfl (by decide) ao j c2 ((stopsL slot id j).flatMap LV.cells) (by kernel_rfl) HO1.out (.slice (some ⟨wr.heap.size, 0, none⟩) 1 1) 1 [.int .i64 (IntKind.i64.wrap ((j : Int) + 1)), .iface 87 (.agg #[.int .i64 (slot : Nat), .int .i64 (id : Nat)])] (by kernel_rfl) (Src.two Tryz.underlying33 wr.drew (.int .i64 (IntKind.i64.wrap ((j : Int) + 1))) (.iface 87 (.agg #[.int .i64 (slot : Nat), .int .i64 (id : Nat)])) 51 rfl rfl) A1 A2 (by simp; omega) ?_; intro ao3 c3 w5 hown5 hg5; have hqa := HQ6.out.kept hg5 (fun e => by cases ao with | none => simp [Value.ownBlock] at e | some a => exact ownsRow_ne HO1.out HQ6.out (by decide) (A.q id) (e.symm) rfl); have HQ7 := Lib.hid hqa; have HO6 := Lib.hid hown5; have HB6 := Lib.hid (HBA.out.grown hg5 (by simp; omega) (fun b hb => (HO1.out.lt b hb).1)); have HK1c := Lib.hid (show w5.cell? ⟨A.q id, 1, none⟩ = some (.int .i64 (slot : Nat)) from by have q := HQ7.out.cell 1; rw [← HST.out]; exact q); have HK0c := Lib.hid (show w5.cell? ⟨A.q id, 0, none⟩ = some (.int .i64 (id : Nat)) from HQ7.out.cell 0); clear hown5 hg5 hqa
          refine hK.out _ _ (by first | exact ⟨HK1.out, HK0.out⟩ | exact ⟨HK1b.out, HK0b.out⟩ | exact ⟨HK1c.out, HK0c.out⟩) (fun hHeld => ?_)
          clear hK K
          try simp only [Act.put, List.setIfInBounds_toArray, List.set_cons_zero, List.set_cons_succ]
          refine takeO 16 (some 6) (v := ?_) rfl rfl (by kernel_rfl) (by kernel_rfl) (by kernel_rfl) (fun _ _ _ h => h) (Or.inl ⟨by rfl, ?_⟩) (by assumption) ?_
          rotate_left 1
          · intro w hSw; (try dsimp only at hSw); go_simp; all_goals with_reducible rfl
          try simp only [Act.put, List.setIfInBounds_toArray, List.set_cons_zero, List.set_cons_succ]
          refine wpAnyH_done (by kernel_rfl) ?_ _
          go_wp2_with fail
          go_roundw
          case rel => exact ⟨j + 1, ao3, c3, by omega, by go_num, rfl, (by unfold RowKit.Hid; rw [stopsL_succ]; have q := HO6.out; rw [wr_in _ (by omega) (by omega)] at q; exact q), HB6.out⟩
          case measure => simp [intOf]; omega
        · obtain rfl : j = wk := by omega
          clear hlt hj
          go_wp2_with fail
          go_ret
          have ha := AgO.upd' HF5.out.size 0 O
          refine ⟨.slice ao j c2, O.upd w3.heap.size 0, rfl, HC5.out.below (HB.out.mono (Nat.le_refl _)) (AgO.upd _ _ _), ⟨ao, c2, by rw [stopsL_len], ?_, ?_⟩, ha, COut.trans HF5.out (COut.below HB.out) (AgO.refl _ _)⟩
          · rw [stopsL_len, HST.out]; exact own0 HO.out HF5.out.size
          · intro q hq; rw [stopsL_len] at hq; exact Own.upd_ge (own_ge HO.out q hq)
end
end Go.Proofs.YtinkbgeckjbnbaaGreat
namespace Go.Proofs.YtinkbgeckjbnbaaGreat
section
open Go.RowKit
set_option linter.unusedVariables false

set_option maxRecDepth 100000 in
theorem run_append_own_src_at {P : Program} (w : World) (base : Nat) (t tx ty e : TypeId) (i : TypeInfo) (z : Value) (size bytes : Nat) (ht : P.underlying t = some (.slice e)) (hi : P.info? e = some i) (hz : i.zero = some z)
    (hsize : i.size = size) (hby : i.bytes = bytes) (hzs : z.cells.size = size) (hsz : 0 < size)
    (v : Value) (n : Nat) (xs : List Value) (hown : w.ownsRow base e size v n xs)
    (x : Value) (m : Nat) (news : List Value) (hs : Src P size tx x m news w)
    (h63 : n + m ≤ maxLen) (hbytes : (n + m) * bytes ≤ 140737488355328) (hbase : base ≤ w.heap.size) :
    ∃ v' w', (Builtin.append_ #[t, tx] ty #[v, x]).run P w = .ok v' w' ∧ w'.ownsRow base e size v' (n + m) (xs ++ news) ∧ w.grownBy w' v.ownBlock ∧ (v'.ownBlock = v.ownBlock ∨ v'.ownBlock = some w.heap.size) := by
  subst hsize
  subst hby
  have hl := hs.newsLen
  have hsmall : n + m ≤ 9223372036854775807 := by simp only [maxLen] at h63; omega
  have hlen : (xs ++ news).length = (n + m) * i.size := by rw [List.length_append, hown.1, hl, Nat.add_mul]
  have grown : ∀ (old : Nat), old < n + m → ∀ (row : Option Nat),
      (w.drew.alloc (.cells ((xs ++ news).toArray ++ Builtin.zeroCells z.cells (grownCap w (n + m) old e - (n + m))) e)).ownsRow base e i.size
        (.slice (some ⟨w.heap.size, 0, none⟩) (n + m) (grownCap w (n + m) old e)) (n + m) (xs ++ news) ∧
      w.grownBy (w.drew.alloc (.cells ((xs ++ news).toArray ++ Builtin.zeroCells z.cells (grownCap w (n + m) old e - (n + m))) e)) row := by
    intro old ho row
    have hge := grownCap_ge w (n + m) old e
    have hcm : grownCap w (n + m) old e ≤ maxLen := grownCap_le_maxLen w (n + m) old e h63
    refine ⟨⟨hlen, .inr ⟨w.heap.size, _, _, rfl, hbase, heap_alloc_new w.drew _, hge, hcm, ?_, ?_⟩⟩, ⟨rfl, rfl, rfl, by simp, fun k hk _ => heap_alloc_old w.drew _ hk⟩⟩
    · rw [Array.size_append, List.size_toArray, size_zeroCells, hzs, hlen, ← Nat.add_mul]
      congr 1
      omega
    · rw [Array.toList_append, ← hlen]
      exact List.take_left
  rcases hown.2 with ⟨rfl, rfl⟩ | ⟨g, cap, cur, rfl, hbg, hg, hnc, hcm, hcs, htake⟩
  · obtain rfl : xs = [] := List.eq_nil_of_length_eq_zero (by simpa using hown.1)
    by_cases hm : m = 0
    · subst hm
      obtain rfl : news = [] := List.eq_nil_of_length_eq_zero (by simpa using hl)
      refine ⟨.slice none 0 0, w, ?_, World.ownsRow_nil w base e i.size, World.grownBy.refl _ _, Or.inl rfl⟩
      have hc := hs.cells
      rcases hs.kind with ⟨e', hk⟩ | hk <;> simp [Builtin.append_, run_underlying ht, run_underlying hk, sizeOf, typeInfo, hi, hs.len, hc]
    · have hr := run_append_grow_src (P := P) w t tx ty e i z ht hi hz none 0 0 [] (run_firstCells_none w.drew i.size 0 0 0) x m news hs (by omega) (by omega) (growslice_fits (by omega) hbytes)
      have hgr := grown 0 (by omega) (Value.ownBlock (.slice none 0 0))
      exact ⟨_, _, hr, hgr.1, hgr.2, Or.inr rfl⟩
  · by_cases hroom : n + m ≤ cap
    · have hfit : n * i.size + news.length ≤ cur.size := by rw [hl, hcs, ← Nat.add_mul]; exact Nat.mul_le_mul_right _ hroom
      have hblk : Blk w g e cur.toList := by unfold Blk; simpa using hg
      have hr := run_append_room_src (P := P) w t tx ty e i ht hi g 0 n cap x m news hs hroom (by
          intro j hj; rw [hblk.cell]; simp; omega) (by intro j _; exact hblk.frozen _)
      rw [Nat.zero_add] at hr
      have hb2 := hblk.setCells news (n * i.size) (by simpa using hfit)
      refine ⟨_, _, hr, ⟨hlen, .inr ⟨g, cap, _, rfl, hbg, hb2, hroom, hcm, ?_, ?_⟩⟩, ⟨(setCells_rest g news _ w).1, (setCells_rest g news _ w).2.1, (setCells_rest g news _ w).2.2.1, Nat.le_of_eq (setCells_rest g news _ w).2.2.2.symm, fun k hk1 hk => World.heap_setCells_other w g _ news hk1 (fun e => hk (by simp [Value.ownBlock, e]))⟩, Or.inl rfl⟩
      · simp only [List.size_toArray, List.length_append, List.length_take, List.length_drop, Array.length_toList]
        omega
      · rw [htake, ← hlen, List.toList_toArray, ← List.append_assoc]
        exact List.take_left
    · have holds : ∀ j u, xs[j]? = some u → w.cell? ((⟨g, 0, none⟩ : Addr).add j) = some u := hown.cells (g := g) rfl
      have hr := run_append_grow_src (P := P) w t tx ty e i z ht hi hz (some ⟨g, 0, none⟩) n cap xs (run_firstCells_some w.drew i.size n ⟨g, 0, none⟩ n cap xs hown.1 (by simpa using holds)) x m news hs (by omega) (by omega) (growslice_fits (by omega) hbytes)
      have hgr := grown cap (by omega) (Value.ownBlock (.slice (some ⟨g, 0, none⟩) n cap))
      exact ⟨_, _, hr, hgr.1, hgr.2, Or.inr rfl⟩
set_option maxRecDepth 100000 in
theorem wpList_appA {P : Program} {w : World} {ops : Array Oper} {rest : List Oper} {o : Oper} {a : Act} {Q : Exit → Act → World → Prop} (hgd : o.guard = none) (s x : Operand) (t tx : TypeId)
    (ho : o.op = .call { callee := .builtin .append, args := #[s, x], argTypes := #[t, tx] })
    (base : Nat) (e : TypeId) (i : TypeInfo) (z : Value) (size bytes : Nat) (ht : P.underlying t = some (.slice e)) (hi : P.info? e = some i) (hz : i.zero = some z)
    (hsize : i.size = size) (hby : i.bytes = bytes) (hzs : z.cells.size = size) (hsz : 0 < size)
    (so : Option Addr) (n sc : Nat) (xs : List Value) (hs : a.eval s = .slice so n sc) (hown : w.ownsRow base e size (.slice so n sc) n xs)
    (xv : Value) (m : Nat) (news : List Value) (hx : a.eval x = xv) (hsrc : Src P size tx xv m news w)
    (h63 : n + m ≤ maxLen) (hbytes : (n + m) * bytes ≤ 140737488355328) (hbase : base ≤ w.heap.size)
    (h : ∀ ao' cap' w', w'.ownsRow base e size (.slice ao' (n + m) cap') (n + m) (xs ++ news) → w.grownBy w' (Value.ownBlock (.slice so n sc)) → (Value.ownBlock (.slice ao' (n + m) cap') = Value.ownBlock (.slice so n sc) ∨ Value.ownBlock (.slice ao' (n + m) cap') = some w.heap.size) → wpList P ops Q rest (a.put o.dst (.slice ao' (n + m) cap')) w') : wpList P ops Q (o :: rest) a w := by
  refine wpList_plain hgd fun K hK => ?_
  obtain ⟨v', w', hr, h2, h3, h4⟩ := run_append_own_src_at (P := P) w base t tx o.type e i z size bytes ht hi hz hsize hby hzs hsz _ n xs hown xv m news hsrc h63 hbytes hbase
  obtain ⟨ao', cap', rfl⟩ := ownsRow_shape h2
  unfold Oper.wp execOp
  simp only [ho, resolve, invoke, builtin, Sem.run_bind, Sem.run_pure, Result.andThen_ok, List.map_toArray, List.map_cons, List.map_nil, hs, hx, hr]
  exact hK _ _ (h ao' cap' w' h2 h3 h4)
set_option maxRecDepth 100000 in
theorem step_appA {P : Program} {w : World} {ops : Array Oper} {o : Oper} {a : Act} {K : Act → World → Prop} {Q : Exit → Act → World → Prop} {E : Prop} (hgd : o.guard = none) (s x : Operand) (t tx : TypeId)
    (ho : o.op = .call { callee := .builtin .append, args := #[s, x], argTypes := #[t, tx] })
    (base : Nat) (e : TypeId) (i : TypeInfo) (z : Value) (size bytes : Nat) (ht : P.underlying t = some (.slice e)) (hi : P.info? e = some i) (hz : i.zero = some z)
    (hsize : i.size = size) (hby : i.bytes = bytes) (hzs : z.cells.size = size) (hsz : 0 < size)
    (so : Option Addr) (n sc : Nat) (xs : List Value) (hs : a.eval s = .slice so n sc) (hown : w.ownsRow base e size (.slice so n sc) n xs)
    (xv : Value) (m : Nat) (news : List Value) (hx : a.eval x = xv) (hsrc : Src P size tx xv m news w)
    (h63 : n + m ≤ maxLen) (hbytes : (n + m) * bytes ≤ 140737488355328) (hbase : base ≤ w.heap.size)
    (h : ∀ ao' cap' w', w'.ownsRow base e size (.slice ao' (n + m) cap') (n + m) (xs ++ news) → w.grownBy w' (Value.ownBlock (.slice so n sc)) → (Value.ownBlock (.slice ao' (n + m) cap') = Value.ownBlock (.slice so n sc) ∨ Value.ownBlock (.slice ao' (n + m) cap') = some w.heap.size) → K (a.put o.dst (.slice ao' (n + m) cap')) w') :
    if Region.wanted o (yielded ops a.tmps) = true then Oper.wp P o a w K Q else E := by
  have hw : Region.wanted o (yielded ops a.tmps) = true := by simp [Region.wanted, hgd]
  rw [if_pos hw]
  obtain ⟨v', w', hr, h2, h3, h4⟩ := run_append_own_src_at (P := P) w base t tx o.type e i z size bytes ht hi hz hsize hby hzs hsz _ n xs hown xv m news hsrc h63 hbytes hbase
  obtain ⟨ao', cap', rfl⟩ := ownsRow_shape h2
  unfold Oper.wp execOp
  simp only [ho, resolve, invoke, builtin, Sem.run_bind, Sem.run_pure, Result.andThen_ok, List.map_toArray, List.map_cons, List.map_nil, hs, hx, hr]
  exact h ao' cap' w' h2 h3 h4
end
end Go.Proofs.YtinkbgeckjbnbaaGreat
