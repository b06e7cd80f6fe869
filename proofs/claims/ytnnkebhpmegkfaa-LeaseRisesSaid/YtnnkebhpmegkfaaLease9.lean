/- The walk of LeaseRises. -/
import Derived.Test.YtnnkebhpmegkfaaLease7
import Derived.Deep.RegionHeld3
namespace Go.Proofs.Ytnnkebhpmegkfaa
open Go.RowKit
set_option linter.unusedVariables false

def Tab.act (t : Tab) (s : Bool) (v n tt : Int) : Tab := if s then (t.seen v n tt).1 else (t.hello v n tt).1
theorem Tab.ok.act {t : Tab} (h : t.ok) (s : Bool) (v n tt : Int) : (t.act s v n tt).ok := by
  unfold Tab.act; split
  · exact h.seen v n tt
  · exact h.hello v n tt
theorem act_shape (t : Tab) (s : Bool) (v n tt : Int) : (t.act s v n tt).workers = t.workers := by
  unfold Tab.act; split
  · exact (seen_shape t v n tt).1
  · exact (hello_shape t v n tt).1
/-- what an act does to one worker -/
theorem rises_at {t : Tab} (ho : t.ok) (s : Bool) (v n tt k : Int) (hk : 0 ≤ k) :
    (((t.act s v n tt).at k).life = (t.at k).life ∧ ((t.act s v n tt).at k).epoch = (t.at k).epoch) ∨
    (s = false ∧ k = v ∧ ((t.act s v n tt).at k).life = n ∧ (t.at k).life < n ∧ ((t.act s v n tt).at k).epoch = (t.at k).epoch + 1) := by
  by_cases hkv : k = v
  · subst hkv
    unfold Tab.act
    cases s with
    | true =>
      rw [if_pos rfl]
      rcases seen_cases t k n tt with ⟨h1', e⟩ | ⟨h1', e⟩ <;> rw [e]
      · exact .inl ⟨rfl, rfl⟩
      · have his : t.is k = true := by simp only [okSeen, Bool.and_eq_true] at h1'; exact h1'.1.1
        left; show ((t.put k _).at k).life = _ ∧ ((t.put k _).at k).epoch = _
        rw [Tab.at_put ho k k _ his, if_pos rfl]; exact ⟨rfl, rfl⟩
    | false =>
      rw [if_neg (by simp)]
      rcases hello_cases t k n tt with ⟨h1', e⟩ | ⟨h1', h2, e⟩ | ⟨h1', h2, e⟩ | ⟨h1', h2, e⟩ <;> rw [e]
      · exact .inl ⟨rfl, rfl⟩
      · exact .inl ⟨rfl, rfl⟩
      · have his : t.is k = true := by simp only [okHello, Bool.and_eq_true] at h1'; exact h1'.1.1
        left; show ((t.put k _).at k).life = _ ∧ ((t.put k _).at k).epoch = _
        rw [Tab.at_put ho k k _ his, if_pos rfl]; exact ⟨rfl, rfl⟩
      · have his : t.is k = true := by simp only [okHello, Bool.and_eq_true] at h1'; exact h1'.1.1
        right
        have htold : (t.at k).told n = ⟨n, (t.at k).epoch + 1, (t.at k).till⟩ := by unfold L1.told; rw [if_pos h2]
        refine ⟨rfl, rfl, ?_, h2, ?_⟩
        · show ((t.put k _).at k).life = _
          rw [Tab.at_put ho k k _ his, if_pos rfl, htold]; rfl
        · show ((t.put k _).at k).epoch = _
          rw [Tab.at_put ho k k _ his, if_pos rfl, htold]; rfl
  · left
    unfold Tab.act
    cases s with
    | true => rw [if_pos rfl, seen_ne ho v n tt k hk hkv]; exact ⟨rfl, rfl⟩
    | false => rw [if_neg (by simp), hello_ne ho v n tt k hk hkv]; exact ⟨rfl, rfl⟩
theorem rises_law {t : Tab} (ho : t.ok) (hw : t.workers = 3) (s : Bool) (v n tt : Int) (k : Nat) (h1 : 1 ≤ k) (h3 : k ≤ 3) :
    ((t.act s v n tt).life k = t.life k ∧ (t.act s v n tt).epoch k = t.epoch k) ∨
    (s = false ∧ (k : Int) = v ∧ (t.act s v n tt).life k = n ∧ t.life k < n ∧ (t.act s v n tt).epoch k = t.epoch k + 1) := by
  have i1 : t.is (k : Int) = true := by simp only [Tab.is, hw, decide_eq_true_eq]; omega
  have i2 : (t.act s v n tt).is (k : Int) = true := by simp only [Tab.is, act_shape, hw, decide_eq_true_eq]; omega
  unfold Tab.life Tab.epoch
  rw [if_pos i1, if_pos i2, if_pos i1, if_pos i2]
  exact rises_at ho s v n tt k (by omega)
theorem Tab.ok.bds {t : Tab} (h : t.ok) (k : Int) : 0 ≤ t.life k ∧ t.life k ≤ 2147483647 ∧ 0 ≤ t.epoch k ∧ t.epoch k ≤ 2147483647 := by
  have := h.at k
  have h1 := this.life0
  have h2 := this.life1
  have h3 := this.epoch0
  have h4 := this.epoch1
  unfold Tab.life Tab.epoch
  split <;> omega

theorem quiet_more9 {P : Program} {f : FuncId} {args : Array Value} {w : World} {a n : Nat} {v : Value}
    (h : Calls P f args (w.drewN (a + n)) fun e w' => e = .returned v ∧ w' = w.drewN (a + n)) :
    Calls P f args (w.drewN (a + n)) fun e w'' => e = .returned v ∧ ∃ m, w'' = w.drewN (a + m) :=
  h.mono fun _ _ hh => ⟨hh.1, n, hh.2⟩
theorem flip9 {P : Program} {f : Nat} {args : Array Value} {w : World} {v : Value} (h : Calls P f args w fun e w' => e = .returned v ∧ w = w') : Calls P f args w fun e w' => e = .returned v ∧ w' = w :=
  h.mono fun e w' hh => ⟨hh.1, hh.2.symm⟩
/-- an array of four while it is filled from 1 on -/
def arr (f : Int → Int) (m : Nat) : List Value := (List.range 4).map fun i => if 1 ≤ i ∧ i < m then .int .i64 (f i) else .int .i64 0
theorem arr_at (f : Int → Int) (m : Nat) (hm : m < 4) : (arr f m)[m]? = some (.int .i64 0) := by
  unfold arr
  rw [List.getElem?_map, List.getElem?_range hm]
  simp
theorem arr_set (f : Int → Int) (m : Nat) (h1 : 1 ≤ m) (hm : m < 4) : (arr f m).set m (.int .i64 (f m)) = arr f (m + 1) := by
  unfold arr
  apply List.ext_getElem?
  intro i
  rw [List.getElem?_set]
  by_cases hi : m = i
  · subst hi
    simp [hm, h1]
  · rw [if_neg hi]
    by_cases hi4 : i < 4
    · rw [List.getElem?_map, List.getElem?_map, List.getElem?_range hi4]
      simp only [Option.map_some]
      by_cases h2 : 1 ≤ i ∧ i < m
      · rw [if_pos h2, if_pos (by omega)]
      · rw [if_neg h2, if_neg (by omega)]
    · rw [List.getElem?_eq_none (by simp; omega), List.getElem?_eq_none (by simp; omega)]
theorem arr_get (f : Int → Int) (m : Nat) (h1 : 1 ≤ m) (hm : m < 4) : (arr f 4)[m]? = some (.int .i64 (f m)) := by
  unfold arr
  rw [List.getElem?_map, List.getElem?_range hm]
  simp only [Option.map_some]
  rw [if_pos (by omega)]
set_option maxRecDepth 100000 in
set_option maxHeartbeats 4000000 in
theorem rises_walk (a : Option Addr) (n cap : Nat) (l : List ActL) (w : World) (hr : RdE ActL.cells 4 w a n cap l) :
    Calls Try.prog 6 #[.slice a n cap] w fun e w' => e = .returned (.bool true) ∧ Below w.heap.size w w' := by
  have hn := hr.1
  subst hn
  have hcap := hr.2.1
  have hm := hr.2.2.1
  unfold maxLen at hm
  have HR := Lib.hid hr
  clear hr
  by_cases h6 : 100 < l.length
  · have hd : decide (100 < (l.length : Int)) = true := by simp; omega
    go_enter Try.func6, Try.ntmps6
    go_wp2_with fail
    refine (awake_any _).mono ?_
    rintro e w9 ⟨rfl, hb1⟩
    have HB1 := Lib.hid (hb1)
    clear hb1
    go_wp2_with fail
    go_ret
    exact ⟨rfl, HB1.out⟩
  have hd : decide (100 < (l.length : Int)) = false := by simp; omega
  have HOK0 := Lib.hid (Tab.new_ok 3 4 (by decide) (by decide) (by decide) (by decide))
  go_enter Try.func6, Try.ntmps6
  go_wp2_with fail
  refine (new_good w 3 4 (by decide) (by decide) (by decide) (by decide)).mono ?_
  rintro e w1 ⟨rfl, htb, hb⟩
  have HT1 := Lib.hid htb
  have HB1 := Lib.hid hb
  have hl1 := Blk.lt htb
  clear htb hb
  go_wp2_with fail
  go_loopw [2, 5] (fun r i wr => ∃ k : Nat, k ≤ l.length ∧ i = .int .i64 k ∧ r = .bool false ∧ ∃ t, RowKit.Hid t.ok ∧ RowKit.Hid (t.workers = 3) ∧ RowKit.Hid (TB wr w.heap.size t) ∧ RowKit.Hid (Below w.heap.size w wr)) (fun _ i _ => l.length - (intOf i).toNat)
  case atStart => exact ⟨0, by omega, rfl, rfl, _, HOK0.out, rfl, HT1.out, HB1.out⟩
  case round =>
    obtain ⟨k, hk, rfl, rfl, t, HI, HW, HT, HB⟩ := hrel
    have hga := Blk.lt HT.out
    by_cases hlt : k < l.length
    · obtain ⟨x, hx⟩ : ∃ x, l[k]? = some x := ⟨l[k], List.getElem?_eq_getElem hlt⟩
      obtain ⟨b, off, rfl, hbl, hc⟩ := (HR.out.below HB.out rfl).2.2.2.2 k x hx
      obtain ⟨xs, xv, xn, xt⟩ := x
      have c0 : wr.cell? ⟨b, off + k * 4, none⟩ = some (.bool xs) := hc 0 (by decide)
      have c1 : wr.cell? ⟨b, off + k * 4 + 1, none⟩ = some (.int .i64 xv) := hc 1 (by decide)
      have c2 : wr.cell? ⟨b, off + k * 4 + 2, none⟩ = some (.int .i64 xn) := hc 2 (by decide)
      have c3 : wr.cell? ⟨b, off + k * 4 + 3, none⟩ = some (.int .i64 xt) := hc 3 (by decide)
      clear hc hx
      have hbsz := HB.out.size
      go_wp2_with fail
      obtain ⟨wi, hwi⟩ : ∃ wi, ((wr.alloc (.cells #[.bool xs, .int .i64 xv, .int .i64 xn, .int .i64 xt] 43)).alloc (.cells #[.int .i64 0, .int .i64 0, .int .i64 0, .int .i64 0] 52)).alloc (.cells #[.int .i64 0, .int .i64 0, .int .i64 0, .int .i64 0] 52) = wi := ⟨_, rfl⟩
      have HX0 : RowKit.Hid (Blk wi wr.heap.size 43 [.bool xs, .int .i64 xv, .int .i64 xn, .int .i64 xt]) := by
        subst hwi; exact Blk.alloc (Blk.alloc (show Blk (wr.alloc _) _ _ _ by unfold Blk; rw [heap_alloc_new]) _) _
      have HE0 : RowKit.Hid (Blk wi (wr.heap.size + 1) 52 [.int .i64 0, .int .i64 0, .int .i64 0, .int .i64 0]) := by
        subst hwi
        have h1 : Blk ((wr.alloc (.cells #[.bool xs, .int .i64 xv, .int .i64 xn, .int .i64 xt] 43)).alloc (.cells #[.int .i64 0, .int .i64 0, .int .i64 0, .int .i64 0] 52)) (wr.alloc (.cells #[.bool xs, .int .i64 xv, .int .i64 xn, .int .i64 xt] 43)).heap.size 52 [.int .i64 0, .int .i64 0, .int .i64 0, .int .i64 0] := by unfold Blk; rw [heap_alloc_new]
        have := Blk.alloc h1 (.cells #[.int .i64 0, .int .i64 0, .int .i64 0, .int .i64 0] 52)
        show Blk _ _ _ _
        simpa using this
      have HL0 : RowKit.Hid (Blk wi (wr.heap.size + 1 + 1) 52 [.int .i64 0, .int .i64 0, .int .i64 0, .int .i64 0]) := by
        subst hwi
        have h1 : Blk (((wr.alloc (.cells #[.bool xs, .int .i64 xv, .int .i64 xn, .int .i64 xt] 43)).alloc (.cells #[.int .i64 0, .int .i64 0, .int .i64 0, .int .i64 0] 52)).alloc (.cells #[.int .i64 0, .int .i64 0, .int .i64 0, .int .i64 0] 52)) ((wr.alloc (.cells #[.bool xs, .int .i64 xv, .int .i64 xn, .int .i64 xt] 43)).alloc (.cells #[.int .i64 0, .int .i64 0, .int .i64 0, .int .i64 0] 52)).heap.size 52 [.int .i64 0, .int .i64 0, .int .i64 0, .int .i64 0] := by unfold Blk; rw [heap_alloc_new]
        show Blk _ _ _ _
        simpa using h1
      have HTi : RowKit.Hid (TB wi w.heap.size t) := by subst hwi; exact ((HT.out.alloc _).alloc _).alloc _
      have HBi : RowKit.Hid (Below w.heap.size w wi) := by subst hwi; exact (((HB.out.alloc hbsz _).alloc (by simp; omega) _).alloc (by simp; omega) _)
      rw [hwi]
      clear hwi
      obtain ⟨X, hX⟩ : ∃ X, wr.heap.size = X := ⟨_, rfl⟩
      rw [hX] at HX0 HE0 HL0 hga hbsz ⊢
      clear hX c0 c1 c2 c3

      go_loopw [9] (fun q wj => ∃ m : Nat, 1 ≤ m ∧ m ≤ 4 ∧ q = .int .i64 m ∧ RowKit.Hid (Blk wj X 43 [.bool xs, .int .i64 xv, .int .i64 xn, .int .i64 xt]) ∧ RowKit.Hid (Blk wj (X + 1) 52 (arr t.epoch m)) ∧ RowKit.Hid (Blk wj (X + 1 + 1) 52 (arr t.life m)) ∧ RowKit.Hid (TB wj w.heap.size t) ∧ RowKit.Hid (Below w.heap.size w wj)) (fun q _ => 4 - (intOf q).toNat)
      case atStart => exact ⟨1, by omega, by omega, rfl, HX0.out, HE0.out, HL0.out, HTi.out, HBi.out⟩
      case round =>
        obtain ⟨m, hm1, hm4, rfl, HX, HEa, HLa, HTm, HBm⟩ := hrel
        by_cases hm3 : m < 4
        · have he0 := HEa.out.cell m
          have hl0 := HLa.out.cell m
          rw [arr_at t.epoch m (by omega)] at he0
          rw [arr_at t.life m (by omega)] at hl0
          have hfe := HEa.out.frozen m
          have hfl := HLa.out.frozen m
          have HC1 : RowKit.Hid (∀ W, TB W w.heap.size t → Calls Try.prog 18 #[.pointer (some ⟨w.heap.size, 0, none⟩), .int .i64 m] W fun e w' => e = .returned (.int .i64 (t.epoch m)) ∧ W = w') := fun W hW => epoch_any W _ t m hW HI.out
          have HC2 : RowKit.Hid (∀ W, TB W w.heap.size t → Calls Try.prog 19 #[.pointer (some ⟨w.heap.size, 0, none⟩), .int .i64 m] W fun e w' => e = .returned (.int .i64 (t.life m)) ∧ W = w') := fun W hW => life_any W _ t m hW HI.out
          go_wp2_with fail
          go_region_with (first | (go_at_call 18; refine (HC1.out _ ?_).mono ?_; exact HTm.out; rintro e w' ⟨rfl, rfl⟩) | (go_at_call 19; refine (HC2.out _ ?_).mono ?_; exact HTm.out; rintro e w' ⟨rfl, rfl⟩))
          all_goals go_wp2_with fail
          all_goals go_ways
          all_goals
            (have G1 := Blk.grown_self (w := wr) (g := X + 1) m (.int .i64 (t.epoch m))
             have G2 := Blk.grown_self (w := wr.setCell ⟨X + 1, m, none⟩ (.int .i64 (t.epoch m))) (g := X + 1 + 1) m (.int .i64 (t.life m))
             have A1 := (HX.out.kept G1 (by simp)).kept G2 (by simp; omega)
             have A2 := (HEa.out.set m (.int .i64 (t.epoch m))).kept G2 (by simp)
             have A3 := (HLa.out.kept G1 (by simp)).set m (.int .i64 (t.life m))
             rw [arr_set t.epoch m hm1 hm3] at A2
             rw [arr_set t.life m hm1 hm3] at A3
             have A4 := (HTm.out.kept G1 (by omega)).kept G2 (by omega)
             have A5 := (HBm.out.grown G1 HBm.out.size (fun k hk => by cases hk; omega)).grown G2 (by have := HBm.out.size; have := G1.size; omega) (fun k hk => by cases hk; omega)
             exact ⟨⟨m + 1, by omega, by omega, by go_num, A1, A2, A3, A4, ⟨A5.os, A5.tape, A5.output, A5.size, A5.block⟩⟩, by simp [intOf]; omega⟩)
        · obtain rfl : m = 4 := by omega
          have x0 : wr.cell? ⟨X, 0, none⟩ = some (.bool xs) := HX.out.cell 0
          have x1 : wr.cell? ⟨X, 1, none⟩ = some (.int .i64 xv) := HX.out.cell 1
          have x2 : wr.cell? ⟨X, 2, none⟩ = some (.int .i64 xn) := HX.out.cell 2
          have x3 : wr.cell? ⟨X, 3, none⟩ = some (.int .i64 xt) := HX.out.cell 3
          cases xs with
          | true =>
            obtain ⟨t1, bb, hs⟩ : ∃ t1 bb, t.seen xv xn xt = (t1, bb) := ⟨_, _, rfl⟩
            have ha : t.act true xv xn xt = t1 := by show (t.seen xv xn xt).1 = t1; rw [hs]
            have HS1 : RowKit.Hid (∀ W, TB W w.heap.size t → Calls Try.prog 21 #[.pointer (some ⟨w.heap.size, 0, none⟩), .int .i64 xv, .int .i64 xn, .int .i64 xt] W fun e w' => e = .returned (.bool bb) ∧ TB w' w.heap.size t1 ∧ W.grownBy w' (some w.heap.size)) := by
              intro W hW; have := seen_any W w.heap.size t xv xn xt hW HI.out; rw [hs] at this; exact this
            have HI1 : RowKit.Hid t1.ok := by have := HI.out.act true xv xn xt; rw [ha] at this; exact this
            have HW1 : RowKit.Hid (t1.workers = 3) := by have := act_shape t true xv xn xt; rw [ha] at this; exact this.trans HW.out
            have HRL : RowKit.Hid (∀ k : Nat, 1 ≤ k → k ≤ 3 → (t1.life k = t.life k ∧ t1.epoch k = t.epoch k) ∨ (true = false ∧ (k : Int) = xv ∧ t1.life k = xn ∧ t.life k < xn ∧ t1.epoch k = t.epoch k + 1)) := by
              intro k h1 h3; have := rises_law HI.out HW.out true xv xn xt k h1 h3; rw [ha] at this; exact this
            clear hs ha
            go_wp2_with fail
            refine (HS1.out _ HTm.out).mono ?_
            rintro e w2 ⟨rfl, hta, hgr⟩
            have HXb := Lib.hid (HX.out.kept hgr (by simp; omega))
            have HEb := Lib.hid (HEa.out.kept hgr (by simp; omega))
            have HLb := Lib.hid (HLa.out.kept hgr (by simp; omega))
            have HTb := Lib.hid hta
            have HB2 := Lib.hid (HBm.out.grown hgr HBm.out.size (fun k hk => by cases hk; exact Nat.le_refl _))
            clear hta hgr x0 x1 x2 x3
            go_wp2_with fail
            go_loopw [2, 10, 11] (fun r q u wj => ∃ m : Nat, 1 ≤ m ∧ m ≤ 4 ∧ q = .int .i64 m ∧ r = .bool false ∧ RowKit.Hid (Blk wj X 43 [.bool true, .int .i64 xv, .int .i64 xn, .int .i64 xt]) ∧ RowKit.Hid (Blk wj (X + 1) 52 (arr t.epoch 4)) ∧ RowKit.Hid (Blk wj (X + 1 + 1) 52 (arr t.life 4)) ∧ RowKit.Hid (TB wj w.heap.size t1) ∧ RowKit.Hid (Below w.heap.size w wj)) (fun _ q _ _ => 4 - (intOf q).toNat)
            case atStart => exact ⟨1, by omega, by omega, rfl, rfl, HXb.out, HEb.out, HLb.out, HTb.out, HB2.out⟩
            case round =>
              obtain ⟨m, hm1, hm4, rfl, rfl, HXc, HEc, HLc, HTc, HBc⟩ := hrel
              by_cases hm3 : m < 4
              · have he0 := HEc.out.cell m
                have hl0 := HLc.out.cell m
                rw [arr_get t.epoch m (by omega) (by omega)] at he0
                rw [arr_get t.life m (by omega) (by omega)] at hl0
                have x0 : wr.cell? ⟨X, 0, none⟩ = some (.bool true) := HXc.out.cell 0
                have x1 : wr.cell? ⟨X, 1, none⟩ = some (.int .i64 xv) := HXc.out.cell 1
                have x2 : wr.cell? ⟨X, 2, none⟩ = some (.int .i64 xn) := HXc.out.cell 2
                obtain ⟨bd1, bd2, bd3, bd4⟩ := HI.out.bds (m : Int)
                have HCL : RowKit.Hid (∀ W, TB W w.heap.size t1 → Calls Try.prog 19 #[.pointer (some ⟨w.heap.size, 0, none⟩), .int .i64 m] W fun e w' => e = .returned (.int .i64 (t1.life m)) ∧ w' = W) := fun W hW => flip9 (life_any W _ t1 m hW HI1.out)
                have HCE : RowKit.Hid (∀ W, TB W w.heap.size t1 → Calls Try.prog 18 #[.pointer (some ⟨w.heap.size, 0, none⟩), .int .i64 m] W fun e w' => e = .returned (.int .i64 (t1.epoch m)) ∧ w' = W) := fun W hW => flip9 (epoch_any W _ t1 m hW HI1.out)
                obtain ⟨L0, hL0⟩ : ∃ z, t.life (m : Int) = z := ⟨_, rfl⟩
                obtain ⟨E0, hE0⟩ : ∃ z, t.epoch (m : Int) = z := ⟨_, rfl⟩
                have hcase := HRL.out m hm1 (by omega)
                rw [hL0] at hcase hl0 bd1 bd2
                rw [hE0] at hcase he0 bd3 bd4
                clear hL0 hE0
                rcases hcase with ⟨e1, e2⟩ | ⟨es, ev, e1, e3, e2⟩
                · rw [e1] at HCL
                  rw [e2] at HCE
                  clear e1 e2
                  go_wp2_with fail
                  go_quiet (first | (go_at_call 19; first | exact quiet_more9 (HCL.out _ (by exact HTc.out)) | exact Calls.quiet_of_same (HCL.out _ (by exact HTc.out))) | (go_at_call 18; first | exact quiet_more9 (HCE.out _ (by exact HTc.out)) | exact Calls.quiet_of_same (HCE.out _ (by exact HTc.out))))
                  go_wp2_with fail
                  go_quiet (first | (go_at_call 19; first | exact quiet_more9 (HCL.out _ (by exact HTc.out)) | exact Calls.quiet_of_same (HCL.out _ (by exact HTc.out))) | (go_at_call 18; first | exact quiet_more9 (HCE.out _ (by exact HTc.out)) | exact Calls.quiet_of_same (HCE.out _ (by exact HTc.out))))
                  go_wp2_with fail
                  go_roundw
                  case rel => exact ⟨m + 1, by omega, by omega, by go_num, rfl, HXc.out, HEc.out, HLc.out, HTc.out, ⟨HBc.out.os, HBc.out.tape, HBc.out.output, HBc.out.size, HBc.out.block⟩⟩
                  case measure => simp [intOf]; omega
                · exact absurd es (by simp)
              · obtain rfl : m = 4 := by omega
                go_wp2_with fail
                go_roundw
                case rel => exact ⟨k + 1, by omega, by go_num, rfl, t1, HI1.out, HW1.out, HTc.out, HBc.out⟩
                case measure => simp [intOf]; omega
          | false =>
            obtain ⟨t1, ep0, er, hs⟩ : ∃ t1 ep0 er, t.hello xv xn xt = (t1, ep0, er) := ⟨_, _, _, rfl⟩
            have ha : t.act false xv xn xt = t1 := by show (t.hello xv xn xt).1 = t1; rw [hs]
            have HS1 : RowKit.Hid (∀ W, TB W w.heap.size t → Calls Try.prog 17 #[.pointer (some ⟨w.heap.size, 0, none⟩), .int .i64 xv, .int .i64 xn, .int .i64 xt] W fun e w' => e = .returned (.tuple #[.int .i64 ep0, .int .i64 er]) ∧ TB w' w.heap.size t1 ∧ W.grownBy w' (some w.heap.size)) := by
              intro W hW; have := hello_any W w.heap.size t xv xn xt hW HI.out; rw [hs] at this; exact this
            have HI1 : RowKit.Hid t1.ok := by have := HI.out.act false xv xn xt; rw [ha] at this; exact this
            have HW1 : RowKit.Hid (t1.workers = 3) := by have := act_shape t false xv xn xt; rw [ha] at this; exact this.trans HW.out
            have HRL : RowKit.Hid (∀ k : Nat, 1 ≤ k → k ≤ 3 → (t1.life k = t.life k ∧ t1.epoch k = t.epoch k) ∨ (false = false ∧ (k : Int) = xv ∧ t1.life k = xn ∧ t.life k < xn ∧ t1.epoch k = t.epoch k + 1)) := by
              intro k h1 h3; have := rises_law HI.out HW.out false xv xn xt k h1 h3; rw [ha] at this; exact this
            clear hs ha
            go_wp2_with fail
            refine (HS1.out _ HTm.out).mono ?_
            rintro e w2 ⟨rfl, hta, hgr⟩
            have HXb := Lib.hid (HX.out.kept hgr (by simp; omega))
            have HEb := Lib.hid (HEa.out.kept hgr (by simp; omega))
            have HLb := Lib.hid (HLa.out.kept hgr (by simp; omega))
            have HTb := Lib.hid hta
            have HB2 := Lib.hid (HBm.out.grown hgr HBm.out.size (fun k hk => by cases hk; exact Nat.le_refl _))
            clear hta hgr x0 x1 x2 x3
            go_wp2_with fail
            go_loopw [2, 10, 11] (fun r q u wj => ∃ m : Nat, 1 ≤ m ∧ m ≤ 4 ∧ q = .int .i64 m ∧ r = .bool false ∧ RowKit.Hid (Blk wj X 43 [.bool false, .int .i64 xv, .int .i64 xn, .int .i64 xt]) ∧ RowKit.Hid (Blk wj (X + 1) 52 (arr t.epoch 4)) ∧ RowKit.Hid (Blk wj (X + 1 + 1) 52 (arr t.life 4)) ∧ RowKit.Hid (TB wj w.heap.size t1) ∧ RowKit.Hid (Below w.heap.size w wj)) (fun _ q _ _ => 4 - (intOf q).toNat)
            case atStart => exact ⟨1, by omega, by omega, rfl, rfl, HXb.out, HEb.out, HLb.out, HTb.out, HB2.out⟩
            case round =>
              obtain ⟨m, hm1, hm4, rfl, rfl, HXc, HEc, HLc, HTc, HBc⟩ := hrel
              by_cases hm3 : m < 4
              · have he0 := HEc.out.cell m
                have hl0 := HLc.out.cell m
                rw [arr_get t.epoch m (by omega) (by omega)] at he0
                rw [arr_get t.life m (by omega) (by omega)] at hl0
                have x0 : wr.cell? ⟨X, 0, none⟩ = some (.bool false) := HXc.out.cell 0
                have x1 : wr.cell? ⟨X, 1, none⟩ = some (.int .i64 xv) := HXc.out.cell 1
                have x2 : wr.cell? ⟨X, 2, none⟩ = some (.int .i64 xn) := HXc.out.cell 2
                obtain ⟨bd1, bd2, bd3, bd4⟩ := HI.out.bds (m : Int)
                have HCL : RowKit.Hid (∀ W, TB W w.heap.size t1 → Calls Try.prog 19 #[.pointer (some ⟨w.heap.size, 0, none⟩), .int .i64 m] W fun e w' => e = .returned (.int .i64 (t1.life m)) ∧ w' = W) := fun W hW => flip9 (life_any W _ t1 m hW HI1.out)
                have HCE : RowKit.Hid (∀ W, TB W w.heap.size t1 → Calls Try.prog 18 #[.pointer (some ⟨w.heap.size, 0, none⟩), .int .i64 m] W fun e w' => e = .returned (.int .i64 (t1.epoch m)) ∧ w' = W) := fun W hW => flip9 (epoch_any W _ t1 m hW HI1.out)
                obtain ⟨L0, hL0⟩ : ∃ z, t.life (m : Int) = z := ⟨_, rfl⟩
                obtain ⟨E0, hE0⟩ : ∃ z, t.epoch (m : Int) = z := ⟨_, rfl⟩
                have hcase := HRL.out m hm1 (by omega)
                rw [hL0] at hcase hl0 bd1 bd2
                rw [hE0] at hcase he0 bd3 bd4
                clear hL0 hE0
                rcases hcase with ⟨e1, e2⟩ | ⟨es, ev, e1, e3, e2⟩
                · rw [e1] at HCL
                  rw [e2] at HCE
                  clear e1 e2
                  go_wp2_with fail
                  go_quiet (first | (go_at_call 19; first | exact quiet_more9 (HCL.out _ (by exact HTc.out)) | exact Calls.quiet_of_same (HCL.out _ (by exact HTc.out))) | (go_at_call 18; first | exact quiet_more9 (HCE.out _ (by exact HTc.out)) | exact Calls.quiet_of_same (HCE.out _ (by exact HTc.out))))
                  go_wp2_with fail
                  go_quiet (first | (go_at_call 19; first | exact quiet_more9 (HCL.out _ (by exact HTc.out)) | exact Calls.quiet_of_same (HCL.out _ (by exact HTc.out))) | (go_at_call 18; first | exact quiet_more9 (HCE.out _ (by exact HTc.out)) | exact Calls.quiet_of_same (HCE.out _ (by exact HTc.out))))
                  go_wp2_with fail
                  go_roundw
                  case rel => exact ⟨m + 1, by omega, by omega, by go_num, rfl, HXc.out, HEc.out, HLc.out, HTc.out, ⟨HBc.out.os, HBc.out.tape, HBc.out.output, HBc.out.size, HBc.out.block⟩⟩
                  case measure => simp [intOf]; omega
                · clear es
                  subst ev
                  rw [e1] at HCL
                  rw [e2] at HCE
                  clear e1 e2
                  have hg1 : decide (xn < L0) = false := by simp; omega
                  have hg2 : decide (L0 < xn) = true := by simp; omega
                  go_wp2_with fail
                  go_quiet (first | (go_at_call 19; first | exact quiet_more9 (HCL.out _ (by exact HTc.out)) | exact Calls.quiet_of_same (HCL.out _ (by exact HTc.out))) | (go_at_call 18; first | exact quiet_more9 (HCE.out _ (by exact HTc.out)) | exact Calls.quiet_of_same (HCE.out _ (by exact HTc.out))))
                  go_wp2_with fail
                  go_quiet (first | (go_at_call 19; first | exact quiet_more9 (HCL.out _ (by exact HTc.out)) | exact Calls.quiet_of_same (HCL.out _ (by exact HTc.out))) | (go_at_call 18; first | exact quiet_more9 (HCE.out _ (by exact HTc.out)) | exact Calls.quiet_of_same (HCE.out _ (by exact HTc.out))))
                  go_wp2_with fail
                  go_roundw
                  case rel => exact ⟨m + 1, by omega, by omega, by go_num, rfl, HXc.out, HEc.out, HLc.out, HTc.out, ⟨HBc.out.os, HBc.out.tape, HBc.out.output, HBc.out.size, HBc.out.block⟩⟩
                  case measure => simp [intOf]; omega
              · obtain rfl : m = 4 := by omega
                go_wp2_with fail
                go_roundw
                case rel => exact ⟨k + 1, by omega, by go_num, rfl, t1, HI1.out, HW1.out, HTc.out, HBc.out⟩
                case measure => simp [intOf]; omega
    · go_wp2_with fail
      go_wp2_with fail
      refine (awake_any _).mono ?_
      rintro e w9 ⟨rfl, hb1⟩
      have HB1 := Lib.hid (HB.out.trans (hb1.mono HB.out.size))
      clear hb1
      go_wp2_with fail
      go_ret
      exact ⟨rfl, HB1.out⟩
end Go.Proofs.Ytnnkebhpmegkfaa
