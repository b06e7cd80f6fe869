/- The walk of LeaseApart. -/
import Derived.Test.YtnnkebhpmegkfaaAct19
namespace Go.Proofs.Ytnnkebhpmegkfaa
open Go.RowKit
set_option linter.unusedVariables false

def AInv (a b : Tab) : Prop := a.ok ∧ b.ok ∧ a.workers = 3 ∧ b.workers = 3 ∧ a.term = 6 ∧ b.term = 6 ∧ a.at 2 = b.at 2 ∧ b.at 1 = L1.zero ∧ b.at 3 = L1.zero
theorem put_at_ne {t : Tab} (ho : t.ok) (v u : Int) (x : L1) (his : t.is v = true) (hne : u.toNat ≠ v.toNat) : (t.put v x).at u = t.at u := by rw [Tab.at_put ho v u x his, if_neg hne]
theorem hello_ne {t : Tab} (ho : t.ok) (v n tt u : Int) (hu : 0 ≤ u) (hne : u ≠ v) : (t.hello v n tt).1.at u = t.at u := by
  have hx : ∀ x, okHello t v n tt = true → (t.put v x).at u = t.at u := by
    intro x hk
    simp only [okHello, Bool.and_eq_true] at hk
    refine put_at_ne ho v u x hk.1.1 ?_
    have := hk.1.1
    simp only [Tab.is, decide_eq_true_eq] at this
    omega
  rcases hello_cases t v n tt with ⟨h1', e⟩ | ⟨h1', h2, e⟩ | ⟨h1', h2, e⟩ | ⟨h1', h2, e⟩ <;> rw [e]
  · exact hx _ h1'
  · exact hx _ h1'
theorem seen_ne {t : Tab} (ho : t.ok) (v n tt u : Int) (hu : 0 ≤ u) (hne : u ≠ v) : (t.seen v n tt).1.at u = t.at u := by
  rcases seen_cases t v n tt with ⟨h1', e⟩ | ⟨h1', e⟩ <;> rw [e]
  simp only [okSeen, Bool.and_eq_true] at h1'
  refine put_at_ne ho v u _ h1'.1.1 ?_
  have := h1'.1.1
  simp only [Tab.is, decide_eq_true_eq] at this
  omega
theorem hello_shape (t : Tab) (v n tt : Int) : (t.hello v n tt).1.workers = t.workers ∧ (t.hello v n tt).1.term = t.term := by
  rcases hello_cases t v n tt with ⟨h1', e⟩ | ⟨h1', h2, e⟩ | ⟨h1', h2, e⟩ | ⟨h1', h2, e⟩ <;> rw [e] <;> exact ⟨rfl, rfl⟩
theorem seen_shape (t : Tab) (v n tt : Int) : (t.seen v n tt).1.workers = t.workers ∧ (t.seen v n tt).1.term = t.term := by
  rcases seen_cases t v n tt with ⟨h1', e⟩ | ⟨h1', e⟩ <;> rw [e] <;> exact ⟨rfl, rfl⟩
theorem hello_eq {a b : Tab} (ha : a.ok) (hb : b.ok) (hw : a.workers = b.workers) (ht : a.term = b.term) (v n tt : Int) (h : a.at v = b.at v) : (a.hello v n tt).1.at v = (b.hello v n tt).1.at v := by
  have hok : okHello a v n tt = okHello b v n tt := by unfold okHello Tab.is; rw [hw]
  unfold Tab.hello
  rw [hok, h, ht]
  cases hk : okHello b v n tt with
  | false => simpa using h
  | true =>
    have h1 : a.is v = true := by rw [← hok] at hk; simp only [okHello, Bool.and_eq_true] at hk; exact hk.1.1
    have h2 : b.is v = true := by simp only [okHello, Bool.and_eq_true] at hk; exact hk.1.1
    by_cases hl : n < (b.at v).life
    · simpa [hl] using h
    · simp only [hl, if_true, if_false]
      rw [Tab.at_put ha v v _ h1, Tab.at_put hb v v _ h2, if_pos rfl, if_pos rfl]
theorem seen_eq {a b : Tab} (ha : a.ok) (hb : b.ok) (hw : a.workers = b.workers) (ht : a.term = b.term) (v n tt : Int) (h : a.at v = b.at v) : (a.seen v n tt).1.at v = (b.seen v n tt).1.at v := by
  have hok : okSeen a v n tt = okSeen b v n tt := by unfold okSeen Tab.is; rw [hw, h]
  unfold Tab.seen
  rw [hok, h, ht]
  cases hk : okSeen b v n tt with
  | false => simpa using h
  | true =>
    have h1 : a.is v = true := by rw [← hok] at hk; simp only [okSeen, Bool.and_eq_true] at hk; exact hk.1.1
    have h2 : b.is v = true := by simp only [okSeen, Bool.and_eq_true] at hk; exact hk.1.1
    simp only [if_true]
    rw [Tab.at_put ha v v _ h1, Tab.at_put hb v v _ h2, if_pos rfl, if_pos rfl]
theorem AInv.h2 {a b : Tab} (h : AInv a b) (n tt : Int) : AInv (a.hello 2 n tt).1 (b.hello 2 n tt).1 := by
  obtain ⟨ha, hb, w1, w2, t1, t2, h2, h1, h3⟩ := h
  exact ⟨ha.hello _ _ _, hb.hello _ _ _, by rw [(hello_shape a 2 n tt).1, w1], by rw [(hello_shape b 2 n tt).1, w2], by rw [(hello_shape a 2 n tt).2, t1], by rw [(hello_shape b 2 n tt).2, t2],
    hello_eq ha hb (by omega) (by omega) 2 n tt h2, by rw [hello_ne hb 2 n tt 1 (by decide) (by decide), h1], by rw [hello_ne hb 2 n tt 3 (by decide) (by decide), h3]⟩
theorem AInv.s2 {a b : Tab} (h : AInv a b) (n tt : Int) : AInv (a.seen 2 n tt).1 (b.seen 2 n tt).1 := by
  obtain ⟨ha, hb, w1, w2, t1, t2, h2, h1, h3⟩ := h
  exact ⟨ha.seen _ _ _, hb.seen _ _ _, by rw [(seen_shape a 2 n tt).1, w1], by rw [(seen_shape b 2 n tt).1, w2], by rw [(seen_shape a 2 n tt).2, t1], by rw [(seen_shape b 2 n tt).2, t2],
    seen_eq ha hb (by omega) (by omega) 2 n tt h2, by rw [seen_ne hb 2 n tt 1 (by decide) (by decide), h1], by rw [seen_ne hb 2 n tt 3 (by decide) (by decide), h3]⟩
theorem AInv.ho {a b : Tab} (h : AInv a b) (v n tt : Int) (hv : 2 ≠ v) : AInv (a.hello v n tt).1 b := by
  obtain ⟨ha, hb, w1, w2, t1, t2, h2, h1, h3⟩ := h
  exact ⟨ha.hello _ _ _, hb, by rw [(hello_shape a v n tt).1, w1], w2, by rw [(hello_shape a v n tt).2, t1], t2, by rw [hello_ne ha v n tt 2 (by decide) hv, h2], h1, h3⟩
theorem AInv.so {a b : Tab} (h : AInv a b) (v n tt : Int) (hv : 2 ≠ v) : AInv (a.seen v n tt).1 b := by
  obtain ⟨ha, hb, w1, w2, t1, t2, h2, h1, h3⟩ := h
  exact ⟨ha.seen _ _ _, hb, by rw [(seen_shape a v n tt).1, w1], w2, by rw [(seen_shape a v n tt).2, t1], t2, by rw [seen_ne ha v n tt 2 (by decide) hv, h2], h1, h3⟩
theorem AInv.new : AInv (Tab.new 3 6) (Tab.new 3 6) := by
  have := Tab.new_ok 3 6 (by decide) (by decide) (by decide) (by decide)
  exact ⟨this, this, rfl, rfl, rfl, rfl, rfl, rfl, rfl⟩
theorem AInv.fin {a b : Tab} (h : AInv a b) (look : Int) : a.epoch 2 = b.epoch 2 ∧ a.life 2 = b.life 2 ∧ a.live 2 look = b.live 2 look ∧ b.live 1 look = false ∧ b.epoch 3 = 0 := by
  obtain ⟨ha, hb, w1, w2, t1, t2, h2, h1, h3⟩ := h
  unfold Tab.epoch Tab.life Tab.live Tab.is
  rw [w1, w2, h2, h1, h3]
  refine ⟨rfl, rfl, rfl, ?_, ?_⟩
  · simp [L1.zero]
  · simp [L1.zero]
theorem TB.alloc {w : World} {g : Nat} {t : Tab} (h : TB w g t) (o : Obj) : TB (w.alloc o) g t := Blk.alloc h o
theorem TB.kept {w w' : World} {g g' : Nat} {t : Tab} (h : TB w g t) (hg : w.grownBy w' (some g')) (hne : g ≠ g') : TB w' g t := Blk.kept h hg (by simp [hne])
theorem cell_kept {w w' : World} {g X j : Nat} {v : Value} (hg : w.grownBy w' (some g)) (h : w.cell? ⟨X, j, none⟩ = some v) (hne : X ≠ g) : w'.cell? ⟨X, j, none⟩ = some v := hg.cell h (by simp [hne])

set_option maxHeartbeats 2000000 in
theorem apart_walk (a : Option Addr) (n cap : Nat) (l : List ActL) (look : Int) (w : World) (hr : RdE ActL.cells 4 w a n cap l) (hg : ∀ x ∈ l, x.good) :
    Calls Try.prog 8 #[.slice a n cap, .int .i64 look] w fun e w' => e = .returned (.bool true) ∧ Below w.heap.size w w' := by
  have hn := hr.1
  subst hn
  have hcap := hr.2.1
  have hm := hr.2.2.1
  unfold maxLen at hm
  have HR := Lib.hid hr
  have HG := Lib.hid hg
  clear hr hg
  by_cases h6 : 60 < l.length
  · have hd : decide (60 < (l.length : Int)) = true := by simp; omega
    go_enter Try.func8, Try.ntmps8
    go_wp2_with fail
    refine (awake_any _).mono ?_
    rintro e w' ⟨rfl, hb1⟩
    have HB1 := Lib.hid hb1
    clear hb1
    go_wp2_with fail
    go_ret
    exact ⟨rfl, HB1.out⟩
  have hd : decide (60 < (l.length : Int)) = false := by simp; omega
  go_enter Try.func8, Try.ntmps8
  go_wp2_with fail
  refine (new_good w 3 6 (by decide) (by decide) (by decide) (by decide)).mono ?_
  rintro e w1 ⟨rfl, htb, hb⟩
  have HT1 := Lib.hid htb
  have HB1 := Lib.hid hb
  have hl1 := Blk.lt htb
  clear htb hb
  go_wp2_with fail
  refine (new_good w1 3 6 (by decide) (by decide) (by decide) (by decide)).mono ?_
  rintro e w2 ⟨rfl, htb, hb⟩
  have HTB2 := Lib.hid htb
  have HTA2 := Lib.hid (Blk.below HT1.out hb hl1)
  have HB2 := Lib.hid (HB1.out.trans (hb.mono HB1.out.size))
  have hl2 := Blk.lt htb
  clear htb hb
  obtain ⟨gb, hgb⟩ : ∃ gb, w1.heap.size = gb := ⟨_, rfl⟩
  have HGB := Lib.hid hgb
  rw [hgb] at HTB2 hl1 hl2 ⊢
  clear hgb
  go_wp2_with fail
  go_loopw [9, 10] (fun i _ wr => ∃ k : Nat, k ≤ l.length ∧ i = .int .i64 k ∧ ∃ ta tb, RowKit.Hid (AInv ta tb) ∧ RowKit.Hid (TB wr w.heap.size ta) ∧ RowKit.Hid (TB wr gb tb) ∧ RowKit.Hid (Below w.heap.size w wr)) (fun i _ _ => l.length - (intOf i).toNat)
  case atStart => exact ⟨0, by omega, rfl, _, _, AInv.new, HTA2.out, HTB2.out, HB2.out⟩
  case round =>
    obtain ⟨k, hk, rfl, ta, tb, HI, HTA, HTB, HB⟩ := hrel
    have hga := Blk.lt HTA.out
    have hgb := Blk.lt HTB.out
    by_cases hlt : k < l.length
    · obtain ⟨x, hx⟩ : ∃ x, l[k]? = some x := ⟨l[k], List.getElem?_eq_getElem hlt⟩
      obtain ⟨b, off, rfl, hbl, hc⟩ := (HR.out.below HB.out rfl).2.2.2.2 k x hx
      obtain ⟨xs, xv, xn, xt⟩ := x
      have c0 : wr.cell? ⟨b, off + k * 4, none⟩ = some (.bool xs) := hc 0 (by decide)
      have c1 : wr.cell? ⟨b, off + k * 4 + 1, none⟩ = some (.int .i64 xv) := hc 1 (by decide)
      have c2 : wr.cell? ⟨b, off + k * 4 + 2, none⟩ = some (.int .i64 xn) := hc 2 (by decide)
      have c3 : wr.cell? ⟨b, off + k * 4 + 3, none⟩ = some (.int .i64 xt) := hc 3 (by decide)
      clear hc hx
      by_cases h2 : xv = 2
      · subst h2
        cases xs with
        | true =>
          go_wp2_with fail
          refine (seen_any _ w.heap.size ta 2 xn xt (HTA.out.alloc _) HI.out.1).mono ?_
          rintro e w2 ⟨rfl, hta, hgr⟩
          have x0 : w2.cell? ⟨wr.heap.size, 0, none⟩ = some (.bool true) := cell_kept hgr (by rw [cell_of_row _ _ _ _ _ (0, 0) (heap_alloc_new wr _)]; rfl) (by omega)
          have x1 : w2.cell? ⟨wr.heap.size, 1, none⟩ = some (.int .i64 2) := cell_kept hgr (by rw [cell_of_row _ _ _ _ _ (0, 0) (heap_alloc_new wr _)]; rfl) (by omega)
          have x2 : w2.cell? ⟨wr.heap.size, 2, none⟩ = some (.int .i64 xn) := cell_kept hgr (by rw [cell_of_row _ _ _ _ _ (0, 0) (heap_alloc_new wr _)]; rfl) (by omega)
          have x3 : w2.cell? ⟨wr.heap.size, 3, none⟩ = some (.int .i64 xt) := cell_kept hgr (by rw [cell_of_row _ _ _ _ _ (0, 0) (heap_alloc_new wr _)]; rfl) (by omega)
          have HTA2 := Lib.hid hta
          have HTB2 := Lib.hid ((HTB.out.alloc _).kept hgr (by omega))
          have HB2 := Lib.hid ((HB.out.alloc HB.out.size _).grown hgr (by have := HB.out.size; simp; omega) (fun k hk => by cases hk; exact Nat.le_refl _))
          have hsz2 := hgr.size
          clear hta hgr
          go_wp2_with fail
          refine (seen_any w2 gb tb 2 xn xt HTB2.out HI.out.2.1).mono ?_
          rintro e w3 ⟨rfl, htb, hgr⟩
          have HTB3 := Lib.hid htb
          have HTA3 := Lib.hid (HTA2.out.kept hgr (by omega))
          have HB3 := Lib.hid (HB2.out.grown hgr HB2.out.size (fun k hk => by cases hk; omega))
          clear htb hgr x0 x1 x2 x3
          go_wp2_with fail
          go_roundw
          case rel => exact ⟨k + 1, by omega, by go_num, _, _, HI.out.s2 xn xt, HTA3.out, HTB3.out, HB3.out⟩
          case measure => simp [intOf]; omega
        | false =>
          go_wp2_with fail
          refine (hello_any _ w.heap.size ta 2 xn xt (HTA.out.alloc _) HI.out.1).mono ?_
          rintro e w2 ⟨rfl, hta, hgr⟩
          have x0 : w2.cell? ⟨wr.heap.size, 0, none⟩ = some (.bool false) := cell_kept hgr (by rw [cell_of_row _ _ _ _ _ (0, 0) (heap_alloc_new wr _)]; rfl) (by omega)
          have x1 : w2.cell? ⟨wr.heap.size, 1, none⟩ = some (.int .i64 2) := cell_kept hgr (by rw [cell_of_row _ _ _ _ _ (0, 0) (heap_alloc_new wr _)]; rfl) (by omega)
          have x2 : w2.cell? ⟨wr.heap.size, 2, none⟩ = some (.int .i64 xn) := cell_kept hgr (by rw [cell_of_row _ _ _ _ _ (0, 0) (heap_alloc_new wr _)]; rfl) (by omega)
          have x3 : w2.cell? ⟨wr.heap.size, 3, none⟩ = some (.int .i64 xt) := cell_kept hgr (by rw [cell_of_row _ _ _ _ _ (0, 0) (heap_alloc_new wr _)]; rfl) (by omega)
          have HTA2 := Lib.hid hta
          have HTB2 := Lib.hid ((HTB.out.alloc _).kept hgr (by omega))
          have HB2 := Lib.hid ((HB.out.alloc HB.out.size _).grown hgr (by have := HB.out.size; simp; omega) (fun k hk => by cases hk; exact Nat.le_refl _))
          have hsz2 := hgr.size
          clear hta hgr
          generalize (ta.hello 2 xn xt).2.1 = z1
          generalize (ta.hello 2 xn xt).2.2 = z2
          go_wp2_with fail
          refine (hello_any w2 gb tb 2 xn xt HTB2.out HI.out.2.1).mono ?_
          rintro e w3 ⟨rfl, htb, hgr⟩
          have HTB3 := Lib.hid htb
          have HTA3 := Lib.hid (HTA2.out.kept hgr (by omega))
          have HB3 := Lib.hid (HB2.out.grown hgr HB2.out.size (fun k hk => by cases hk; omega))
          clear htb hgr x0 x1 x2 x3
          generalize (tb.hello 2 xn xt).2.1 = z3
          generalize (tb.hello 2 xn xt).2.2 = z4
          go_wp2_with fail
          go_roundw
          case rel => exact ⟨k + 1, by omega, by go_num, _, _, HI.out.h2 xn xt, HTA3.out, HTB3.out, HB3.out⟩
          case measure => simp [intOf]; omega
      · have h2' : (xv == 2) = false := by simp; omega
        cases xs with
        | true =>
          go_wp2_with fail
          refine (seen_any _ w.heap.size ta xv xn xt (HTA.out.alloc _) HI.out.1).mono ?_
          rintro e w2 ⟨rfl, hta, hgr⟩
          have x0 : w2.cell? ⟨wr.heap.size, 0, none⟩ = some (.bool true) := cell_kept hgr (by rw [cell_of_row _ _ _ _ _ (0, 0) (heap_alloc_new wr _)]; rfl) (by omega)
          have x1 : w2.cell? ⟨wr.heap.size, 1, none⟩ = some (.int .i64 xv) := cell_kept hgr (by rw [cell_of_row _ _ _ _ _ (0, 0) (heap_alloc_new wr _)]; rfl) (by omega)
          have x2 : w2.cell? ⟨wr.heap.size, 2, none⟩ = some (.int .i64 xn) := cell_kept hgr (by rw [cell_of_row _ _ _ _ _ (0, 0) (heap_alloc_new wr _)]; rfl) (by omega)
          have x3 : w2.cell? ⟨wr.heap.size, 3, none⟩ = some (.int .i64 xt) := cell_kept hgr (by rw [cell_of_row _ _ _ _ _ (0, 0) (heap_alloc_new wr _)]; rfl) (by omega)
          have HTA2 := Lib.hid hta
          have HTB2 := Lib.hid ((HTB.out.alloc _).kept hgr (by omega))
          have HB2 := Lib.hid ((HB.out.alloc HB.out.size _).grown hgr (by have := HB.out.size; simp; omega) (fun k hk => by cases hk; exact Nat.le_refl _))
          have hsz2 := hgr.size
          clear hta hgr
          go_wp2_with fail
          go_roundw
          case rel => exact ⟨k + 1, by omega, by go_num, _, _, HI.out.so xv xn xt (by omega), HTA2.out, HTB2.out, HB2.out⟩
          case measure => simp [intOf]; omega
        | false =>
          go_wp2_with fail
          refine (hello_any _ w.heap.size ta xv xn xt (HTA.out.alloc _) HI.out.1).mono ?_
          rintro e w2 ⟨rfl, hta, hgr⟩
          have x0 : w2.cell? ⟨wr.heap.size, 0, none⟩ = some (.bool false) := cell_kept hgr (by rw [cell_of_row _ _ _ _ _ (0, 0) (heap_alloc_new wr _)]; rfl) (by omega)
          have x1 : w2.cell? ⟨wr.heap.size, 1, none⟩ = some (.int .i64 xv) := cell_kept hgr (by rw [cell_of_row _ _ _ _ _ (0, 0) (heap_alloc_new wr _)]; rfl) (by omega)
          have x2 : w2.cell? ⟨wr.heap.size, 2, none⟩ = some (.int .i64 xn) := cell_kept hgr (by rw [cell_of_row _ _ _ _ _ (0, 0) (heap_alloc_new wr _)]; rfl) (by omega)
          have x3 : w2.cell? ⟨wr.heap.size, 3, none⟩ = some (.int .i64 xt) := cell_kept hgr (by rw [cell_of_row _ _ _ _ _ (0, 0) (heap_alloc_new wr _)]; rfl) (by omega)
          have HTA2 := Lib.hid hta
          have HTB2 := Lib.hid ((HTB.out.alloc _).kept hgr (by omega))
          have HB2 := Lib.hid ((HB.out.alloc HB.out.size _).grown hgr (by have := HB.out.size; simp; omega) (fun k hk => by cases hk; exact Nat.le_refl _))
          have hsz2 := hgr.size
          clear hta hgr
          generalize (ta.hello xv xn xt).2.1 = z1
          generalize (ta.hello xv xn xt).2.2 = z2
          go_wp2_with fail
          go_roundw
          case rel => exact ⟨k + 1, by omega, by go_num, _, _, HI.out.ho xv xn xt (by omega), HTA2.out, HTB2.out, HB2.out⟩
          case measure => simp [intOf]; omega
    · obtain rfl : k = l.length := by omega
      obtain ⟨f1, f2, f3, f4, f5⟩ := HI.out.fin look
      have E1 := Lib.hid (epoch_any wr w.heap.size ta 2 HTA.out HI.out.1)
      have E2 := Lib.hid (epoch_any wr gb tb 2 HTB.out HI.out.2.1)
      have E3 := Lib.hid (life_any wr w.heap.size ta 2 HTA.out HI.out.1)
      have E4 := Lib.hid (life_any wr gb tb 2 HTB.out HI.out.2.1)
      have E5 := Lib.hid (live_any wr w.heap.size ta 2 look HTA.out HI.out.1)
      have E6 := Lib.hid (live_any wr gb tb 2 look HTB.out HI.out.2.1)
      have E7 := Lib.hid (live_any wr gb tb 1 look HTB.out HI.out.2.1)
      have E8 := Lib.hid (epoch_any wr gb tb 3 HTB.out HI.out.2.1)
      rw [f1] at E1
      rw [f2] at E3
      rw [f3] at E5
      rw [f4] at E7
      rw [f5] at E8
      clear f1 f2 f3 f4 f5
      go_wp2_with fail
      refine (E1.out).mono ?_
      rintro e w' ⟨rfl, rfl⟩
      go_wp2_with fail
      refine (E2.out).mono ?_
      rintro e w' ⟨rfl, rfl⟩
      go_wp2_with fail
      refine (E3.out).mono ?_
      rintro e w' ⟨rfl, rfl⟩
      go_wp2_with fail
      refine (E4.out).mono ?_
      rintro e w' ⟨rfl, rfl⟩
      go_wp2_with fail
      refine (E5.out).mono ?_
      rintro e w' ⟨rfl, rfl⟩
      go_wp2_with fail
      refine (E6.out).mono ?_
      rintro e w' ⟨rfl, rfl⟩
      go_wp2_with fail
      refine (E7.out).mono ?_
      rintro e w' ⟨rfl, rfl⟩
      go_wp2_with fail
      refine (E8.out).mono ?_
      rintro e w' ⟨rfl, rfl⟩
      go_wp2_with fail
      refine (awake_any _).mono ?_
      rintro e w3 ⟨rfl, hb3⟩
      have HB3 := Lib.hid (HB.out.trans (hb3.mono HB.out.size))
      clear hb3
      go_wp2_with fail
      go_ret
      exact ⟨rfl, HB3.out⟩
end Go.Proofs.Ytnnkebhpmegkfaa
