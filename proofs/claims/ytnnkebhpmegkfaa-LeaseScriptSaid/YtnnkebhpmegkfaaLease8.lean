/- The walk of LeaseScript. -/
import Derived.Test.YtnnkebhpmegkfaaLease7
import Derived.Deep.RegionHeld3
namespace Go.Proofs.Ytnnkebhpmegkfaa
open Go.RowKit
set_option linter.unusedVariables false

theorem quiet_more {P : Program} {f : FuncId} {args : Array Value} {w : World} {a n : Nat} {v : Value}
    (h : Calls P f args (w.drewN (a + n)) fun e w' => e = .returned v ∧ w' = w.drewN (a + n)) :
    Calls P f args (w.drewN (a + n)) fun e w'' => e = .returned v ∧ ∃ m, w'' = w.drewN (a + m) :=
  h.mono fun _ _ hh => ⟨hh.1, n, hh.2⟩
theorem num_any (v : Int) (w : World) : Calls Try.prog 23 #[.int .i64 v] w fun e w' => e = .returned (.int .i64 v) ∧ w = w' := by
  go_enter Try.func23, Try.ntmps23
  go_wp2
  go_ret
  exact ⟨rfl, rfl⟩
theorem RB.alloc {w : World} {g : Nat} {t : Tab} (h : RB w g t) (o : Obj) : RB (w.alloc o) g t := Blk.alloc h o
theorem RB.kept {w w' : World} {g g' : Nat} {t : Tab} (h : RB w g t) (hg : w.grownBy w' (some g')) (hne : g ≠ g') : RB w' g t := Blk.kept h hg (by simp [hne])
theorem flip {P : Program} {f : Nat} {args : Array Value} {w : World} {v : Value} (h : Calls P f args w fun e w' => e = .returned v ∧ w = w') : Calls P f args w fun e w' => e = .returned v ∧ w' = w :=
  h.mono fun e w' hh => ⟨hh.1, hh.2.symm⟩

theorem grownBy_of {a a' b : World} {row : Option Nat} (h : a'.grownBy b row) (h1 : a.os = a'.os) (h2 : a.tape = a'.tape) (h3 : a.output = a'.output) (h4 : a.heap = a'.heap) : a.grownBy b row :=
  ⟨h.os.trans h1.symm, h.tape.trans h2.symm, h.output.trans h3.symm, by rw [h4]; exact h.size, fun k hk hne => by rw [h4] at hk ⊢; exact h.block k hk hne⟩
set_option maxRecDepth 100000 in
set_option maxHeartbeats 4000000 in
theorem script_walk (workers term now : Int) (a : Option Addr) (n cap : Nat) (l : List ActL) (w : World) (hr : RdE ActL.cells 4 w a n cap l) :
    Calls Try.prog 5 #[.int .i64 workers, .int .i64 term, .slice a n cap, .int .i64 now] w fun e w' => e = .returned (.bool true) ∧ Below w.heap.size w w' := by
  have hn := hr.1
  subst hn
  have hcap := hr.2.1
  have hm := hr.2.2.1
  unfold maxLen at hm
  have HR := Lib.hid hr
  clear hr
  by_cases h6 : 100 < l.length
  · have hd : decide (100 < (l.length : Int)) = true := by simp; omega
    go_enter Try.func5, Try.ntmps5
    go_wp2_with fail
    refine (awake_any _).mono ?_
    rintro e w9 ⟨rfl, hb1⟩
    have HB1 := Lib.hid (hb1)
    clear hb1
    go_wp2_with fail
    go_ret
    exact ⟨rfl, HB1.out⟩
  have hd : decide (100 < (l.length : Int)) = false := by simp; omega
  by_cases hbad : ¬ (1 ≤ workers ∧ workers ≤ 5 ∧ 1 ≤ term ∧ term ≤ 1000)
  · have HN1 := Lib.hid (new_bad w workers term hbad)
    have HN2 := Lib.hid (rnew_bad w workers term hbad)
    clear hbad
    go_enter Try.func5, Try.ntmps5
    go_wp2_with fail
    refine (HN1.out).mono ?_
    rintro e w' ⟨rfl, rfl⟩
    go_wp2_with fail
    refine (HN2.out).mono ?_
    rintro e w' ⟨rfl, rfl⟩
    go_wp2_with fail
    refine (num_any 2 _).mono ?_
    rintro e w' ⟨rfl, rfl⟩
    go_wp2_with fail
    refine (awake_any _).mono ?_
    rintro e w9 ⟨rfl, hb1⟩
    have HB1 := Lib.hid (hb1)
    clear hb1
    go_wp2_with fail
    go_ret
    exact ⟨rfl, HB1.out⟩
  have hgood : 1 ≤ workers ∧ workers ≤ 5 ∧ 1 ≤ term ∧ term ≤ 1000 := Classical.not_not.1 hbad
  clear hbad
  have HOK0 := Lib.hid (Tab.new_ok workers term hgood.1 hgood.2.1 hgood.2.2.1 hgood.2.2.2)
  go_enter Try.func5, Try.ntmps5
  go_wp2_with fail
  refine (new_good w workers term hgood.1 hgood.2.1 hgood.2.2.1 hgood.2.2.2).mono ?_
  rintro e w1 ⟨rfl, htb, hb⟩
  have HT1 := Lib.hid htb
  have HB1 := Lib.hid hb
  have hl1 := Blk.lt htb
  clear htb hb
  go_wp2_with fail
  refine (rnew_good w1 workers term hgood.1 hgood.2.1 hgood.2.2.1 hgood.2.2.2).mono ?_
  rintro e w2 ⟨rfl, htb, hb⟩
  have HR2 := Lib.hid htb
  have HT2 := Lib.hid (Blk.below HT1.out hb hl1)
  have HB2 := Lib.hid (HB1.out.trans (hb.mono HB1.out.size))
  have hl2 := Blk.lt htb
  clear htb hb
  obtain ⟨gr, hgr0⟩ : ∃ gr, w1.heap.size = gr := ⟨_, rfl⟩
  rw [hgr0] at HR2 hl1 hl2 ⊢
  clear hgr0
  go_wp2_with fail
  refine (num_any 0 _).mono ?_
  rintro e w' ⟨rfl, rfl⟩
  go_wp2_with fail
  go_loopw [8, 13] (fun r i wr => ∃ k : Nat, k ≤ l.length ∧ i = .int .i64 k ∧ r = .bool false ∧ ∃ t, RowKit.Hid t.ok ∧ RowKit.Hid (TB wr w.heap.size t) ∧ RowKit.Hid (RB wr gr t) ∧ RowKit.Hid (Below w.heap.size w wr)) (fun _ i _ => l.length - (intOf i).toNat)
  case atStart => exact ⟨0, by omega, rfl, rfl, _, HOK0.out, HT2.out, HR2.out, HB2.out⟩
  case round =>
    obtain ⟨k, hk, rfl, rfl, t, HI, HT, HRr, HB⟩ := hrel
    have hga := Blk.lt HT.out
    have hgb := Blk.lt HRr.out
    by_cases hlt : k < l.length
    · obtain ⟨x, hx⟩ : ∃ x, l[k]? = some x := ⟨l[k], List.getElem?_eq_getElem hlt⟩
      obtain ⟨b, off, rfl, hbl, hc⟩ := (HR.out.below HB.out rfl).2.2.2.2 k x hx
      obtain ⟨xs, xv, xn, xt⟩ := x
      have c0 : wr.cell? ⟨b, off + k * 4, none⟩ = some (.bool xs) := hc 0 (by decide)
      have c1 : wr.cell? ⟨b, off + k * 4 + 1, none⟩ = some (.int .i64 xv) := hc 1 (by decide)
      have c2 : wr.cell? ⟨b, off + k * 4 + 2, none⟩ = some (.int .i64 xn) := hc 2 (by decide)
      have c3 : wr.cell? ⟨b, off + k * 4 + 3, none⟩ = some (.int .i64 xt) := hc 3 (by decide)
      clear hc hx
      have x1 : (wr.alloc (.cells #[.bool xs, .int .i64 xv, .int .i64 xn, .int .i64 xt] 43)).cell? ⟨wr.heap.size, 1, none⟩ = some (.int .i64 xv) := by rw [cell_of_row _ _ _ _ _ (0, 0) (heap_alloc_new wr _)]; rfl
      have x2 : (wr.alloc (.cells #[.bool xs, .int .i64 xv, .int .i64 xn, .int .i64 xt] 43)).cell? ⟨wr.heap.size, 2, none⟩ = some (.int .i64 xn) := by rw [cell_of_row _ _ _ _ _ (0, 0) (heap_alloc_new wr _)]; rfl
      have x3 : (wr.alloc (.cells #[.bool xs, .int .i64 xv, .int .i64 xn, .int .i64 xt] 43)).cell? ⟨wr.heap.size, 3, none⟩ = some (.int .i64 xt) := by rw [cell_of_row _ _ _ _ _ (0, 0) (heap_alloc_new wr _)]; rfl
      have HT0 := Lib.hid (HT.out.alloc (.cells #[.bool xs, .int .i64 xv, .int .i64 xn, .int .i64 xt] 43))
      have HR0 := Lib.hid (HRr.out.alloc (.cells #[.bool xs, .int .i64 xv, .int .i64 xn, .int .i64 xt] 43))
      have HB0 := Lib.hid (HB.out.alloc HB.out.size (.cells #[.bool xs, .int .i64 xv, .int .i64 xn, .int .i64 xt] 43))
      have hbsz := HB.out.size
      have X1 := Lib.hid x1
      have X2 := Lib.hid x2
      have X3 := Lib.hid x3
      clear x1 x2 x3
      cases xs with
      | true =>
        obtain ⟨t1, bb, hs⟩ : ∃ t1 bb, t.seen xv xn xt = (t1, bb) := ⟨_, _, rfl⟩
        have HI1 : RowKit.Hid t1.ok := by have := HI.out.seen xv xn xt; rw [hs] at this; exact this
        have HS1 : RowKit.Hid (∀ W, TB W w.heap.size t → Calls Try.prog 21 #[.pointer (some ⟨w.heap.size, 0, none⟩), .int .i64 xv, .int .i64 xn, .int .i64 xt] W fun e w' => e = .returned (.bool bb) ∧ TB w' w.heap.size t1 ∧ W.grownBy w' (some w.heap.size)) := by
          intro W hW; have := seen_any W w.heap.size t xv xn xt hW HI.out; rw [hs] at this; exact this
        have HS2 : RowKit.Hid (∀ W, RB W gr t → Calls Try.prog 24 #[.pointer (some ⟨gr, 0, none⟩), .int .i64 xv, .int .i64 xn, .int .i64 xt] W fun e w' => e = .returned (.bool bb) ∧ RB w' gr t1 ∧ W.grownBy w' (some gr)) := by
          intro W hW; have := rseen_any W gr t xv xn xt hW HI.out; rw [hs] at this; exact this
        clear hs
        go_wp2_with fail
        go_region_held3 (fun w' => w'.cell? ⟨wr.heap.size, 1, none⟩ = some (.int .i64 xv) ∧ w'.cell? ⟨wr.heap.size, 2, none⟩ = some (.int .i64 xn) ∧ w'.cell? ⟨wr.heap.size, 3, none⟩ = some (.int .i64 xt)) (first | exact ⟨X1.out, X2.out, X3.out⟩ | exact ⟨Y1.out, Y2.out, Y3.out⟩ | exact ⟨Z1.out, Z2.out, Z3.out⟩) (first | (go_at_call 21; refine (HS1.out _ ?_).mono ?_; (exact HT0.out); rintro e w2 ⟨rfl, hta, hgr'⟩; have hgr : (wr.alloc (.cells #[.bool true, .int .i64 xv, .int .i64 xn, .int .i64 xt] 43)).grownBy w2 (some w.heap.size) := grownBy_of hgr' rfl rfl rfl rfl; clear hgr'; have HT2 := Lib.hid hta; have HR2 := Lib.hid (HR0.out.kept hgr (by omega)); have HB2 := Lib.hid (HB0.out.grown hgr (by simp; omega) (fun k hk => by cases hk; exact Nat.le_refl _)); have Y1 := Lib.hid (cell_kept hgr X1.out (by omega)); have Y2 := Lib.hid (cell_kept hgr X2.out (by omega)); have Y3 := Lib.hid (cell_kept hgr X3.out (by omega)); have hsz2 := hgr.size; clear hta hgr) | (go_at_call 24; refine (HS2.out _ ?_).mono ?_; (exact HR2.out); rintro e w3 ⟨rfl, hra, hgr'⟩; have hgr : w2.grownBy w3 (some gr) := grownBy_of hgr' rfl rfl rfl rfl; clear hgr'; have HR3 := Lib.hid hra; have HT3 := Lib.hid (HT2.out.kept hgr (by omega)); have HB3 := Lib.hid (HB2.out.grown hgr HB2.out.size (fun k hk => by cases hk; omega)); have Z1 := Lib.hid (cell_kept hgr Y1.out (by omega)); have Z2 := Lib.hid (cell_kept hgr Y2.out (by omega)); have Z3 := Lib.hid (cell_kept hgr Y3.out (by omega)); have hsz3 := hgr.size; clear hra hgr))
        have z1 := Z1.out
        have z2 := Z2.out
        have z3 := Z3.out
        clear X1 X2 X3 Y1 Y2 Y3 Z1 Z2 Z3 c0 c1 c2 c3
        go_wp2_with fail
        cases his : t1.is xv with
        | true =>
          have hk' : ∃ kk : Nat, xv = kk ∧ 1 ≤ kk ∧ kk ≤ 5 ∧ (kk : Int) ≤ t1.workers := by
            simp only [Tab.is, decide_eq_true_eq] at his
            have := HI1.out.workers1
            exact ⟨xv.toNat, by omega, by omega, by omega, by omega⟩
          obtain ⟨kk, rfl, hk1, hk5, hkw⟩ := hk'
          have cn := HR3.out.workers HI1.out
          have ce := HR3.out.epoch HI1.out kk (by omega)
          have cl := HR3.out.life HI1.out kk (by omega)
          have hd1 : decide ((1 : Int) ≤ (kk : Int)) = true := by simp; omega
          have hd2 : decide ((kk : Int) ≤ t1.workers) = true := by simp; omega
          obtain ⟨E, hE⟩ : ∃ E, (t1.at (kk : Int)).epoch = E := ⟨_, rfl⟩
          obtain ⟨Lf, hLf⟩ : ∃ Lf, (t1.at (kk : Int)).life = Lf := ⟨_, rfl⟩
          obtain ⟨b1, HB1'⟩ : ∃ b, t1.live (kk : Int) now = b := ⟨_, rfl⟩
          obtain ⟨b2, HB2'⟩ : ∃ b, t1.live (kk : Int) xt = b := ⟨_, rfl⟩
          have HEP : t1.epoch (kk : Int) = E := by unfold Tab.epoch; rw [if_pos his, hE]
          have HLP : t1.life (kk : Int) = Lf := by unfold Tab.life; rw [if_pos his, hLf]
          rw [hE] at ce
          rw [hLf] at cl
          have HE : RowKit.Hid (∀ W, TB W w.heap.size t1 → Calls Try.prog 18 #[.pointer (some ⟨w.heap.size, 0, none⟩), .int .i64 (kk : Int)] W fun e w' => e = .returned (.int .i64 E) ∧ w' = W) := by
            intro W hW; have := flip (epoch_any W _ t1 (kk : Int) hW HI1.out); rw [HEP] at this; exact this
          have HL : RowKit.Hid (∀ W, TB W w.heap.size t1 → Calls Try.prog 19 #[.pointer (some ⟨w.heap.size, 0, none⟩), .int .i64 (kk : Int)] W fun e w' => e = .returned (.int .i64 Lf) ∧ w' = W) := by
            intro W hW; have := flip (life_any W _ t1 (kk : Int) hW HI1.out); rw [HLP] at this; exact this
          have HV1 : RowKit.Hid (∀ W, TB W w.heap.size t1 → Calls Try.prog 20 #[.pointer (some ⟨w.heap.size, 0, none⟩), .int .i64 (kk : Int), .int .i64 now] W fun e w' => e = .returned (.bool b1) ∧ w' = W) := by
            intro W hW; have := flip (live_any W _ t1 (kk : Int) now hW HI1.out); rw [HB1'] at this; exact this
          have HV2 : RowKit.Hid (∀ W, RB W gr t1 → Calls Try.prog 26 #[.pointer (some ⟨gr, 0, none⟩), .int .i64 (kk : Int), .int .i64 now] W fun e w' => e = .returned (.bool b1) ∧ w' = W) := by
            intro W hW; have := flip (rlive_any W _ t1 (kk : Int) now hW HI1.out); rw [HB1'] at this; exact this
          have HV3 : RowKit.Hid (∀ W, TB W w.heap.size t1 → Calls Try.prog 20 #[.pointer (some ⟨w.heap.size, 0, none⟩), .int .i64 (kk : Int), .int .i64 xt] W fun e w' => e = .returned (.bool b2) ∧ w' = W) := by
            intro W hW; have := flip (live_any W _ t1 (kk : Int) xt hW HI1.out); rw [HB2'] at this; exact this
          have HV4 : RowKit.Hid (∀ W, RB W gr t1 → Calls Try.prog 26 #[.pointer (some ⟨gr, 0, none⟩), .int .i64 (kk : Int), .int .i64 xt] W fun e w' => e = .returned (.bool b2) ∧ w' = W) := by
            intro W hW; have := flip (rlive_any W _ t1 (kk : Int) xt hW HI1.out); rw [HB2'] at this; exact this
          clear HEP HLP HB1' HB2' hE hLf his
          generalize t1.workers = M at *
          go_wp2_with fail
          go_quiet (fail)
          go_wp2_with fail
          go_quiet (fail)
          go_wp2_with fail
          go_quiet (first | (go_at_call 18; exact quiet_more (HE.out _ (by exact HT3.out))) | (go_at_call 19; exact quiet_more (HL.out _ (by exact HT3.out))) | (go_at_call_of 20 (Value.int .i64 now); exact quiet_more (HV1.out _ (by exact HT3.out))) | (go_at_call_of 26 (Value.int .i64 now); exact quiet_more (HV2.out _ (by exact HR3.out))) | (go_at_call_of 20 (Value.int .i64 xt); exact quiet_more (HV3.out _ (by exact HT3.out))) | (go_at_call_of 26 (Value.int .i64 xt); exact quiet_more (HV4.out _ (by exact HR3.out))))
          go_wp2_with fail
          go_roundw
          case rel => exact ⟨k + 1, by omega, by go_num, rfl, t1, HI1.out, HT3.out, HR3.out, ⟨HB3.out.os, HB3.out.tape, HB3.out.output, HB3.out.size, HB3.out.block⟩⟩
          case measure => simp [intOf]; omega
        | false =>
          have cn := HR3.out.workers HI1.out
          obtain ⟨b1, HB1'⟩ : ∃ b, t1.live xv now = b := ⟨_, rfl⟩
          obtain ⟨b2, HB2'⟩ : ∃ b, t1.live xv xt = b := ⟨_, rfl⟩
          have HEP : t1.epoch xv = 0 := by unfold Tab.epoch; rw [if_neg (by rw [his]; simp)]
          have HLP : t1.life xv = 0 := by unfold Tab.life; rw [if_neg (by rw [his]; simp)]
          have hnis : ¬ (1 ≤ xv ∧ xv ≤ t1.workers) := by simpa [Tab.is] using his
          have HE : RowKit.Hid (∀ W, TB W w.heap.size t1 → Calls Try.prog 18 #[.pointer (some ⟨w.heap.size, 0, none⟩), .int .i64 xv] W fun e w' => e = .returned (.int .i64 0) ∧ w' = W) := by
            intro W hW; have := flip (epoch_any W _ t1 xv hW HI1.out); rw [HEP] at this; exact this
          have HL : RowKit.Hid (∀ W, TB W w.heap.size t1 → Calls Try.prog 19 #[.pointer (some ⟨w.heap.size, 0, none⟩), .int .i64 xv] W fun e w' => e = .returned (.int .i64 0) ∧ w' = W) := by
            intro W hW; have := flip (life_any W _ t1 xv hW HI1.out); rw [HLP] at this; exact this
          have HV1 : RowKit.Hid (∀ W, TB W w.heap.size t1 → Calls Try.prog 20 #[.pointer (some ⟨w.heap.size, 0, none⟩), .int .i64 xv, .int .i64 now] W fun e w' => e = .returned (.bool b1) ∧ w' = W) := by
            intro W hW; have := flip (live_any W _ t1 xv now hW HI1.out); rw [HB1'] at this; exact this
          have HV2 : RowKit.Hid (∀ W, RB W gr t1 → Calls Try.prog 26 #[.pointer (some ⟨gr, 0, none⟩), .int .i64 xv, .int .i64 now] W fun e w' => e = .returned (.bool b1) ∧ w' = W) := by
            intro W hW; have := flip (rlive_any W _ t1 xv now hW HI1.out); rw [HB1'] at this; exact this
          have HV3 : RowKit.Hid (∀ W, TB W w.heap.size t1 → Calls Try.prog 20 #[.pointer (some ⟨w.heap.size, 0, none⟩), .int .i64 xv, .int .i64 xt] W fun e w' => e = .returned (.bool b2) ∧ w' = W) := by
            intro W hW; have := flip (live_any W _ t1 xv xt hW HI1.out); rw [HB2'] at this; exact this
          have HV4 : RowKit.Hid (∀ W, RB W gr t1 → Calls Try.prog 26 #[.pointer (some ⟨gr, 0, none⟩), .int .i64 xv, .int .i64 xt] W fun e w' => e = .returned (.bool b2) ∧ w' = W) := by
            intro W hW; have := flip (rlive_any W _ t1 xv xt hW HI1.out); rw [HB2'] at this; exact this
          clear HEP HLP HB1' HB2' his
          generalize t1.workers = M at *
          by_cases h1 : 1 ≤ xv
          · have hd1 : decide (1 ≤ xv) = true := by simp; omega
            have hd2 : decide (xv ≤ M) = false := by simp; omega
            clear hnis
            go_wp2_with fail
            go_quiet (fail)
            go_wp2_with fail
            go_quiet (first | (go_at_call 18; exact quiet_more (HE.out _ (by exact HT3.out))) | (go_at_call 19; exact quiet_more (HL.out _ (by exact HT3.out))) | (go_at_call_of 20 (Value.int .i64 now); exact quiet_more (HV1.out _ (by exact HT3.out))) | (go_at_call_of 26 (Value.int .i64 now); exact quiet_more (HV2.out _ (by exact HR3.out))) | (go_at_call_of 20 (Value.int .i64 xt); exact quiet_more (HV3.out _ (by exact HT3.out))) | (go_at_call_of 26 (Value.int .i64 xt); exact quiet_more (HV4.out _ (by exact HR3.out))))
            go_wp2_with fail
            go_roundw
            case rel => exact ⟨k + 1, by omega, by go_num, rfl, t1, HI1.out, HT3.out, HR3.out, ⟨HB3.out.os, HB3.out.tape, HB3.out.output, HB3.out.size, HB3.out.block⟩⟩
            case measure => simp [intOf]; omega
          · have hd1 : decide (1 ≤ xv) = false := by simp; omega
            clear hnis
            go_wp2_with fail
            go_quiet (fail)
            go_wp2_with fail
            go_quiet (first | (go_at_call 18; exact quiet_more (HE.out _ (by exact HT3.out))) | (go_at_call 19; exact quiet_more (HL.out _ (by exact HT3.out))) | (go_at_call_of 20 (Value.int .i64 now); exact quiet_more (HV1.out _ (by exact HT3.out))) | (go_at_call_of 26 (Value.int .i64 now); exact quiet_more (HV2.out _ (by exact HR3.out))) | (go_at_call_of 20 (Value.int .i64 xt); exact quiet_more (HV3.out _ (by exact HT3.out))) | (go_at_call_of 26 (Value.int .i64 xt); exact quiet_more (HV4.out _ (by exact HR3.out))))
            go_wp2_with fail
            go_roundw
            case rel => exact ⟨k + 1, by omega, by go_num, rfl, t1, HI1.out, HT3.out, HR3.out, ⟨HB3.out.os, HB3.out.tape, HB3.out.output, HB3.out.size, HB3.out.block⟩⟩
            case measure => simp [intOf]; omega
      | false =>
        obtain ⟨t1, ep0, er, hs⟩ : ∃ t1 ep0 er, t.hello xv xn xt = (t1, ep0, er) := ⟨_, _, _, rfl⟩
        have HI1 : RowKit.Hid t1.ok := by have := HI.out.hello xv xn xt; rw [hs] at this; exact this
        have HS1 : RowKit.Hid (∀ W, TB W w.heap.size t → Calls Try.prog 17 #[.pointer (some ⟨w.heap.size, 0, none⟩), .int .i64 xv, .int .i64 xn, .int .i64 xt] W fun e w' => e = .returned (.tuple #[.int .i64 ep0, .int .i64 er]) ∧ TB w' w.heap.size t1 ∧ W.grownBy w' (some w.heap.size)) := by
          intro W hW; have := hello_any W w.heap.size t xv xn xt hW HI.out; rw [hs] at this; exact this
        have HS2 : RowKit.Hid (∀ W, RB W gr t → Calls Try.prog 25 #[.pointer (some ⟨gr, 0, none⟩), .int .i64 xv, .int .i64 xn, .int .i64 xt] W fun e w' => e = .returned (.tuple #[.int .i64 ep0, .int .i64 er]) ∧ RB w' gr t1 ∧ W.grownBy w' (some gr)) := by
          intro W hW; have := rhello_any W gr t xv xn xt hW HI.out; rw [hs] at this; exact this
        clear hs
        go_wp2_with fail
        refine (HS1.out _ HT0.out).mono ?_
        rintro e w2 ⟨rfl, hta, hgr⟩
        have HT2 := Lib.hid hta
        have HR2 := Lib.hid (HR0.out.kept hgr (by omega))
        have HB2 := Lib.hid (HB0.out.grown hgr (by simp; omega) (fun k hk => by cases hk; exact Nat.le_refl _))
        have y1 := cell_kept hgr X1.out (by omega)
        have y2 := cell_kept hgr X2.out (by omega)
        have y3 := cell_kept hgr X3.out (by omega)
        have hsz2 := hgr.size
        clear hta hgr
        go_wp2_with fail
        refine (HS2.out _ HR2.out).mono ?_
        rintro e w3 ⟨rfl, hra, hgr⟩
        have HR3 := Lib.hid hra
        have HT3 := Lib.hid (HT2.out.kept hgr (by omega))
        have HB3 := Lib.hid (HB2.out.grown hgr HB2.out.size (fun k hk => by cases hk; omega))
        have z1 := cell_kept hgr y1 (by omega)
        have z2 := cell_kept hgr y2 (by omega)
        have z3 := cell_kept hgr y3 (by omega)
        have hsz3 := hgr.size
        clear hra hgr y1 y2 y3
        go_wp2_with fail
        refine (num_any er _).mono ?_
        rintro e w' ⟨rfl, rfl⟩
        clear X1 X2 X3 c0 c1 c2 c3
        go_wp2_with fail
        cases his : t1.is xv with
        | true =>
          have hk' : ∃ kk : Nat, xv = kk ∧ 1 ≤ kk ∧ kk ≤ 5 ∧ (kk : Int) ≤ t1.workers := by
            simp only [Tab.is, decide_eq_true_eq] at his
            have := HI1.out.workers1
            exact ⟨xv.toNat, by omega, by omega, by omega, by omega⟩
          obtain ⟨kk, rfl, hk1, hk5, hkw⟩ := hk'
          have cn := HR3.out.workers HI1.out
          have ce := HR3.out.epoch HI1.out kk (by omega)
          have cl := HR3.out.life HI1.out kk (by omega)
          have hd1 : decide ((1 : Int) ≤ (kk : Int)) = true := by simp; omega
          have hd2 : decide ((kk : Int) ≤ t1.workers) = true := by simp; omega
          obtain ⟨E, hE⟩ : ∃ E, (t1.at (kk : Int)).epoch = E := ⟨_, rfl⟩
          obtain ⟨Lf, hLf⟩ : ∃ Lf, (t1.at (kk : Int)).life = Lf := ⟨_, rfl⟩
          obtain ⟨b1, HB1'⟩ : ∃ b, t1.live (kk : Int) now = b := ⟨_, rfl⟩
          obtain ⟨b2, HB2'⟩ : ∃ b, t1.live (kk : Int) xt = b := ⟨_, rfl⟩
          have HEP : t1.epoch (kk : Int) = E := by unfold Tab.epoch; rw [if_pos his, hE]
          have HLP : t1.life (kk : Int) = Lf := by unfold Tab.life; rw [if_pos his, hLf]
          rw [hE] at ce
          rw [hLf] at cl
          have HE : RowKit.Hid (∀ W, TB W w.heap.size t1 → Calls Try.prog 18 #[.pointer (some ⟨w.heap.size, 0, none⟩), .int .i64 (kk : Int)] W fun e w' => e = .returned (.int .i64 E) ∧ w' = W) := by
            intro W hW; have := flip (epoch_any W _ t1 (kk : Int) hW HI1.out); rw [HEP] at this; exact this
          have HL : RowKit.Hid (∀ W, TB W w.heap.size t1 → Calls Try.prog 19 #[.pointer (some ⟨w.heap.size, 0, none⟩), .int .i64 (kk : Int)] W fun e w' => e = .returned (.int .i64 Lf) ∧ w' = W) := by
            intro W hW; have := flip (life_any W _ t1 (kk : Int) hW HI1.out); rw [HLP] at this; exact this
          have HV1 : RowKit.Hid (∀ W, TB W w.heap.size t1 → Calls Try.prog 20 #[.pointer (some ⟨w.heap.size, 0, none⟩), .int .i64 (kk : Int), .int .i64 now] W fun e w' => e = .returned (.bool b1) ∧ w' = W) := by
            intro W hW; have := flip (live_any W _ t1 (kk : Int) now hW HI1.out); rw [HB1'] at this; exact this
          have HV2 : RowKit.Hid (∀ W, RB W gr t1 → Calls Try.prog 26 #[.pointer (some ⟨gr, 0, none⟩), .int .i64 (kk : Int), .int .i64 now] W fun e w' => e = .returned (.bool b1) ∧ w' = W) := by
            intro W hW; have := flip (rlive_any W _ t1 (kk : Int) now hW HI1.out); rw [HB1'] at this; exact this
          have HV3 : RowKit.Hid (∀ W, TB W w.heap.size t1 → Calls Try.prog 20 #[.pointer (some ⟨w.heap.size, 0, none⟩), .int .i64 (kk : Int), .int .i64 xt] W fun e w' => e = .returned (.bool b2) ∧ w' = W) := by
            intro W hW; have := flip (live_any W _ t1 (kk : Int) xt hW HI1.out); rw [HB2'] at this; exact this
          have HV4 : RowKit.Hid (∀ W, RB W gr t1 → Calls Try.prog 26 #[.pointer (some ⟨gr, 0, none⟩), .int .i64 (kk : Int), .int .i64 xt] W fun e w' => e = .returned (.bool b2) ∧ w' = W) := by
            intro W hW; have := flip (rlive_any W _ t1 (kk : Int) xt hW HI1.out); rw [HB2'] at this; exact this
          clear HEP HLP HB1' HB2' hE hLf his
          generalize t1.workers = M at *
          go_wp2_with fail
          go_quiet (fail)
          go_wp2_with fail
          go_quiet (fail)
          go_wp2_with fail
          go_quiet (first | (go_at_call 18; exact quiet_more (HE.out _ (by exact HT3.out))) | (go_at_call 19; exact quiet_more (HL.out _ (by exact HT3.out))) | (go_at_call_of 20 (Value.int .i64 now); exact quiet_more (HV1.out _ (by exact HT3.out))) | (go_at_call_of 26 (Value.int .i64 now); exact quiet_more (HV2.out _ (by exact HR3.out))) | (go_at_call_of 20 (Value.int .i64 xt); exact quiet_more (HV3.out _ (by exact HT3.out))) | (go_at_call_of 26 (Value.int .i64 xt); exact quiet_more (HV4.out _ (by exact HR3.out))))
          go_wp2_with fail
          go_roundw
          case rel => exact ⟨k + 1, by omega, by go_num, rfl, t1, HI1.out, HT3.out, HR3.out, ⟨HB3.out.os, HB3.out.tape, HB3.out.output, HB3.out.size, HB3.out.block⟩⟩
          case measure => simp [intOf]; omega
        | false =>
          have cn := HR3.out.workers HI1.out
          obtain ⟨b1, HB1'⟩ : ∃ b, t1.live xv now = b := ⟨_, rfl⟩
          obtain ⟨b2, HB2'⟩ : ∃ b, t1.live xv xt = b := ⟨_, rfl⟩
          have HEP : t1.epoch xv = 0 := by unfold Tab.epoch; rw [if_neg (by rw [his]; simp)]
          have HLP : t1.life xv = 0 := by unfold Tab.life; rw [if_neg (by rw [his]; simp)]
          have hnis : ¬ (1 ≤ xv ∧ xv ≤ t1.workers) := by simpa [Tab.is] using his
          have HE : RowKit.Hid (∀ W, TB W w.heap.size t1 → Calls Try.prog 18 #[.pointer (some ⟨w.heap.size, 0, none⟩), .int .i64 xv] W fun e w' => e = .returned (.int .i64 0) ∧ w' = W) := by
            intro W hW; have := flip (epoch_any W _ t1 xv hW HI1.out); rw [HEP] at this; exact this
          have HL : RowKit.Hid (∀ W, TB W w.heap.size t1 → Calls Try.prog 19 #[.pointer (some ⟨w.heap.size, 0, none⟩), .int .i64 xv] W fun e w' => e = .returned (.int .i64 0) ∧ w' = W) := by
            intro W hW; have := flip (life_any W _ t1 xv hW HI1.out); rw [HLP] at this; exact this
          have HV1 : RowKit.Hid (∀ W, TB W w.heap.size t1 → Calls Try.prog 20 #[.pointer (some ⟨w.heap.size, 0, none⟩), .int .i64 xv, .int .i64 now] W fun e w' => e = .returned (.bool b1) ∧ w' = W) := by
            intro W hW; have := flip (live_any W _ t1 xv now hW HI1.out); rw [HB1'] at this; exact this
          have HV2 : RowKit.Hid (∀ W, RB W gr t1 → Calls Try.prog 26 #[.pointer (some ⟨gr, 0, none⟩), .int .i64 xv, .int .i64 now] W fun e w' => e = .returned (.bool b1) ∧ w' = W) := by
            intro W hW; have := flip (rlive_any W _ t1 xv now hW HI1.out); rw [HB1'] at this; exact this
          have HV3 : RowKit.Hid (∀ W, TB W w.heap.size t1 → Calls Try.prog 20 #[.pointer (some ⟨w.heap.size, 0, none⟩), .int .i64 xv, .int .i64 xt] W fun e w' => e = .returned (.bool b2) ∧ w' = W) := by
            intro W hW; have := flip (live_any W _ t1 xv xt hW HI1.out); rw [HB2'] at this; exact this
          have HV4 : RowKit.Hid (∀ W, RB W gr t1 → Calls Try.prog 26 #[.pointer (some ⟨gr, 0, none⟩), .int .i64 xv, .int .i64 xt] W fun e w' => e = .returned (.bool b2) ∧ w' = W) := by
            intro W hW; have := flip (rlive_any W _ t1 xv xt hW HI1.out); rw [HB2'] at this; exact this
          clear HEP HLP HB1' HB2' his
          generalize t1.workers = M at *
          by_cases h1 : 1 ≤ xv
          · have hd1 : decide (1 ≤ xv) = true := by simp; omega
            have hd2 : decide (xv ≤ M) = false := by simp; omega
            clear hnis
            go_wp2_with fail
            go_quiet (fail)
            go_wp2_with fail
            go_quiet (first | (go_at_call 18; exact quiet_more (HE.out _ (by exact HT3.out))) | (go_at_call 19; exact quiet_more (HL.out _ (by exact HT3.out))) | (go_at_call_of 20 (Value.int .i64 now); exact quiet_more (HV1.out _ (by exact HT3.out))) | (go_at_call_of 26 (Value.int .i64 now); exact quiet_more (HV2.out _ (by exact HR3.out))) | (go_at_call_of 20 (Value.int .i64 xt); exact quiet_more (HV3.out _ (by exact HT3.out))) | (go_at_call_of 26 (Value.int .i64 xt); exact quiet_more (HV4.out _ (by exact HR3.out))))
            go_wp2_with fail
            go_roundw
            case rel => exact ⟨k + 1, by omega, by go_num, rfl, t1, HI1.out, HT3.out, HR3.out, ⟨HB3.out.os, HB3.out.tape, HB3.out.output, HB3.out.size, HB3.out.block⟩⟩
            case measure => simp [intOf]; omega
          · have hd1 : decide (1 ≤ xv) = false := by simp; omega
            clear hnis
            go_wp2_with fail
            go_quiet (fail)
            go_wp2_with fail
            go_quiet (first | (go_at_call 18; exact quiet_more (HE.out _ (by exact HT3.out))) | (go_at_call 19; exact quiet_more (HL.out _ (by exact HT3.out))) | (go_at_call_of 20 (Value.int .i64 now); exact quiet_more (HV1.out _ (by exact HT3.out))) | (go_at_call_of 26 (Value.int .i64 now); exact quiet_more (HV2.out _ (by exact HR3.out))) | (go_at_call_of 20 (Value.int .i64 xt); exact quiet_more (HV3.out _ (by exact HT3.out))) | (go_at_call_of 26 (Value.int .i64 xt); exact quiet_more (HV4.out _ (by exact HR3.out))))
            go_wp2_with fail
            go_roundw
            case rel => exact ⟨k + 1, by omega, by go_num, rfl, t1, HI1.out, HT3.out, HR3.out, ⟨HB3.out.os, HB3.out.tape, HB3.out.output, HB3.out.size, HB3.out.block⟩⟩
            case measure => simp [intOf]; omega
    · go_wp2_with fail
      go_wp2_with fail
      refine (awake_any _).mono ?_
      rintro e w9 ⟨rfl, hb1⟩
      have HB1 := Lib.hid (HB.out.trans (hb1.mono HB.out.size))
      clear hb1
      go_wp2_with fail
      go_ret
      exact ⟨rfl, HB1.out⟩
end Go.Proofs.Ytnnkebhpmegkfaa
