/- Lemmas for the law (part 11): CoN, Open1, OpenG, OpenV, OpenR -/
import Derived.Lib.SmallJoins
import Derived.Test.YtinkbgeckjbnbaaGreatQf10
namespace Go.Proofs.YtinkbgeckjbnbaaGreat
section
open Go.RowKit
set_option linter.unusedVariables false
set_option linter.unusedSimpArgs false

/-- workers are marked as never heard -/
def FaR (w0 : World) (O : Own) (A : CA) (p : Nat) (S : CS) (lb wk : Nat) (bx : List (Nat × TypeId × List Value)) (v : Value) (wr : World) : Prop := ∃ (m : Nat) (l : List Int), 1 ≤ m ∧ m ≤ wk + 1 ∧ v = .int .i64 m ∧ RowKit.Hid (FrS w0 wr O A p S ((lb, 41, ints l) :: bx)) ∧ RowKit.Hid (l.length = 6 ∧ ∀ j : Nat, 1 ≤ j → j < m → lastF l j = -1)
set_option maxRecDepth 100000 in
theorem flat_succ {α : Type} (f : Nat → List α) (m : Nat) : (List.range (m + 1)).flatMap f = (List.range m).flatMap f ++ f m := by rw [List.range_succ, List.flatMap_append]; simp
set_option maxRecDepth 100000 in
theorem flat_at {α : Type} {f : Nat → List α} {m n : Nat} {x : α} (hmn : m < n) (hx : f m = [x]) : ((List.range n).flatMap f)[((List.range m).flatMap f).length]? = some x := by
  obtain ⟨d, rfl⟩ : ∃ d, n = m + 1 + d := ⟨n - (m + 1), by omega⟩
  have e : List.range (m + 1 + d) = List.range (m + 1) ++ (List.range d).map (fun i => m + 1 + i) := List.range_add
  rw [e, List.flatMap_append, flat_succ, hx, List.append_assoc, List.getElem?_append_right (Nat.le_refl _), Nat.sub_self]
  rfl
/-- the shards, one behind the other -/
def FsR (wB : World) (F : Nat → List LV) (ns : Nat) (v22 v23 : Value) (wr : World) : Prop := ∃ s : Nat, s ≤ ns ∧ v23 = .int .i64 s ∧ v22 = .int .i64 (((List.range s).flatMap F).length : Nat) ∧ RowKit.Hid (Below wB.heap.size wB wr)
def FjR (wB : World) (P : Nat → Bool) (cop : Nat → Nat) (cp : Nat) (v26 v27 : Value) (wr : World) : Prop := ∃ j : Nat, j ≤ cp ∧ v27 = .int .i64 ((j : Int) - 1) ∧ v26 = .int .i64 (cop (fromJ P cp j) : Nat) ∧ RowKit.Hid (Below wB.heap.size wB wr)
/-- workers are heard -/
def FhR (w0 : World) (A : CA) (p : Nat) (C : CfgM) (lb sl n : Nat) (bx : List (Nat × TypeId × List Value)) (v : Value) (wr : World) : Prop := ∃ (i : Nat) (S : CS) (l : List Int) (O : Own), i ≤ n ∧ v = .int .i64 i ∧ RowKit.Hid (FrS w0 wr O A p S ((lb, 41, ints l) :: bx)) ∧ RowKit.Hid (l.length = 6 ∧ Heard S (lastF l) ∧ Fresh S sl ∧ S.now = (i : Int) ∧ S.c = C)
/-- time goes on -/
def FtR (w0 : World) (A : CA) (p : Nat) (C : CfgM) (lb sl n : Nat) (n0 : Int) (l : List Int) (bx : List (Nat × TypeId × List Value)) (v : Value) (wr : World) : Prop := ∃ (i : Nat) (S : CS) (O : Own), i ≤ n ∧ v = .int .i64 i ∧ RowKit.Hid (FrS w0 wr O A p S ((lb, 41, ints l) :: bx)) ∧ RowKit.Hid (Heard S (lastF l) ∧ Fresh S sl ∧ S.now = n0 + (i : Int) ∧ S.c = C)
set_option maxRecDepth 100000 in
set_option maxHeartbeats 16000000 in
theorem first24_law (c : CfgM) (q : ByteArray) (k n : Int) (ha : Option Addr) (hn hc : Nat) (hd : List Int) (wait : Int) (w : World) (hcfg : CfgOK w c) (hq : q.size ≤ maxLen) (hr : Rd w ha hn hc (ints hd)) :
    Calls Tryz.prog 4 #[c.val, .agg #[.string q, .int .i64 k, .int .i64 n], .slice ha hn hc, .int .i64 wait] w fun e w' => e = .returned (.bool true) ∧ Below w.heap.size w w' := by
  obtain ⟨W1, hW1⟩ : ∃ V, w.alloc (.cells #[.slice c.aw c.nw c.cw, .slice c.ac c.nc c.cc, .int .i64 c.wk, .int .i64 c.cp, .int .i64 c.sl, .int .i64 c.ba, .int .i64 c.le, .int .i64 c.he, .int .i64 c.fi, .int .i64 c.ca, .int .i64 c.ji, .int .i64 c.ne] 25) = V := ⟨_, rfl⟩
  obtain ⟨W2, hW2⟩ : ∃ V, W1.alloc (.cells #[.string q, .int .i64 k, .int .i64 n] 40) = V := ⟨_, rfl⟩
  have hs1 : W1.heap.size = w.heap.size + 1 := by rw [← hW1]; simp
  have hb1 : Below w.heap.size w W1 := by rw [← hW1]; exact (Below.refl _ w).alloc (Nat.le_refl _) _
  have hb2 : Below W1.heap.size W1 W2 := by rw [← hW2]; exact (Below.refl _ W1).alloc (Nat.le_refl _) _
  have hbl := hb1.trans (hb2.mono hb1.size)
  have hx := (show Blk W1 w.heap.size 25 [.slice c.aw c.nw c.cw, .slice c.ac c.nc c.cc, .int .i64 c.wk, .int .i64 c.cp, .int .i64 c.sl, .int .i64 c.ba, .int .i64 c.le, .int .i64 c.he, .int .i64 c.fi, .int .i64 c.ca, .int .i64 c.ji, .int .i64 c.ne] from by rw [← hW1]; exact heap_alloc_new w _).below hb2 (by rw [hs1]; omega)
  have hy : Blk W2 (w.heap.size + 1) 40 [.string q, .int .i64 k, .int .i64 n] := by rw [← hW2, ← hs1]; exact heap_alloc_new W1 _
  have HB := Lib.hid hbl
  have HX := Lib.hid hx
  have HY := Lib.hid hy
  have HCF := Lib.hid hcfg
  have HR := Lib.hid hr
  have HQS := Lib.hid hq
  have hgc := greatC_any c W2 (hcfg.below hbl rfl)
  obtain ⟨g, hg⟩ : ∃ g, greatC c = g := ⟨_, rfl⟩
  rw [hg] at hgc
  unfold CfgM.val at hgc ⊢
  have HGC := Lib.hid hgc
  have HG := Lib.hid hg
  have x0 : W2.cell? ⟨w.heap.size, 0, none⟩ = some (.slice c.aw c.nw c.cw) := hx.cell 0
  have x1 : W2.cell? ⟨w.heap.size, 1, none⟩ = some (.slice c.ac c.nc c.cc) := hx.cell 1
  have x2 : W2.cell? ⟨w.heap.size, 2, none⟩ = some (.int .i64 c.wk) := hx.cell 2
  have x3 : W2.cell? ⟨w.heap.size, 3, none⟩ = some (.int .i64 c.cp) := hx.cell 3
  have x4 : W2.cell? ⟨w.heap.size, 4, none⟩ = some (.int .i64 c.sl) := hx.cell 4
  have x5 : W2.cell? ⟨w.heap.size, 5, none⟩ = some (.int .i64 c.ba) := hx.cell 5
  have x6 : W2.cell? ⟨w.heap.size, 6, none⟩ = some (.int .i64 c.le) := hx.cell 6
  have x7 : W2.cell? ⟨w.heap.size, 7, none⟩ = some (.int .i64 c.he) := hx.cell 7
  have x8 : W2.cell? ⟨w.heap.size, 8, none⟩ = some (.int .i64 c.fi) := hx.cell 8
  have x9 : W2.cell? ⟨w.heap.size, 9, none⟩ = some (.int .i64 c.ca) := hx.cell 9
  have x10 : W2.cell? ⟨w.heap.size, 10, none⟩ = some (.int .i64 c.ji) := hx.cell 10
  have x11 : W2.cell? ⟨w.heap.size, 11, none⟩ = some (.int .i64 c.ne) := hx.cell 11
  rw [← hW1] at hW2
  have hln : hd.length = hn := by have := hr.1; unfold ints at this; simpa using this
  clear hs1 hb1 hb2 hbl hx hy hcfg hr hq hgc hg hW1
  go_enter Tryz.func4, Tryz.ntmps4
  go_wp2_with (rw [hW2])
  clear hW2 x0 x1 x2 x3 x4 x5 x6 x7 x8 x9 x10 x11
  refine HGC.out.mono ?_
  clear HGC
  rintro e w3 ⟨rfl, hb⟩
  have HB3 := Lib.hid (HB.out.trans (hb.mono HB.out.size))
  have HX3 := Lib.hid (HX.out.below hb HX.out.lt)
  have HY3 := Lib.hid (HY.out.below hb HY.out.lt)
  have x0 : w3.cell? ⟨w.heap.size, 0, none⟩ = some (.slice c.aw c.nw c.cw) := HX3.out.cell 0
  have x1 : w3.cell? ⟨w.heap.size, 1, none⟩ = some (.slice c.ac c.nc c.cc) := HX3.out.cell 1
  have x2 : w3.cell? ⟨w.heap.size, 2, none⟩ = some (.int .i64 c.wk) := HX3.out.cell 2
  have x3 : w3.cell? ⟨w.heap.size, 3, none⟩ = some (.int .i64 c.cp) := HX3.out.cell 3
  have x4 : w3.cell? ⟨w.heap.size, 4, none⟩ = some (.int .i64 c.sl) := HX3.out.cell 4
  have x5 : w3.cell? ⟨w.heap.size, 5, none⟩ = some (.int .i64 c.ba) := HX3.out.cell 5
  have x6 : w3.cell? ⟨w.heap.size, 6, none⟩ = some (.int .i64 c.le) := HX3.out.cell 6
  have x7 : w3.cell? ⟨w.heap.size, 7, none⟩ = some (.int .i64 c.he) := HX3.out.cell 7
  have x8 : w3.cell? ⟨w.heap.size, 8, none⟩ = some (.int .i64 c.fi) := HX3.out.cell 8
  have x9 : w3.cell? ⟨w.heap.size, 9, none⟩ = some (.int .i64 c.ca) := HX3.out.cell 9
  have x10 : w3.cell? ⟨w.heap.size, 10, none⟩ = some (.int .i64 c.ji) := HX3.out.cell 10
  have x11 : w3.cell? ⟨w.heap.size, 11, none⟩ = some (.int .i64 c.ne) := HX3.out.cell 11
  have y0 : w3.cell? ⟨w.heap.size + 1, 0, none⟩ = some (.string q) := HY3.out.cell 0
  have y1 : w3.cell? ⟨w.heap.size + 1, 1, none⟩ = some (.int .i64 k) := HY3.out.cell 1
  have y2 : w3.cell? ⟨w.heap.size + 1, 2, none⟩ = some (.int .i64 n) := HY3.out.cell 2
  clear hb HB HX HY
  cases g
  rotate_left 1
  · go_wp2_with fail
    refine (awake24_any _).mono ?_
    rintro e wa ⟨rfl, hb⟩
    have HBA := Lib.hid (HB3.out.trans (hb.mono HB3.out.size))
    clear hb
    go_wp2_with fail
    go_ret
    exact ⟨rfl, HBA.out⟩
  by_cases hq1 : (100 : Int) < (q.size : Int)
  · go_wp2_with fail
    refine (awake24_any _).mono ?_
    rintro e wa ⟨rfl, hb⟩
    have HBA := Lib.hid (HB3.out.trans (hb.mono HB3.out.size))
    clear hb
    go_wp2_with fail
    go_ret
    exact ⟨rfl, HBA.out⟩
  by_cases hh1 : (20 : Int) < (hn : Int)
  · go_wp2_with fail
    refine (awake24_any _).mono ?_
    rintro e wa ⟨rfl, hb⟩
    have HBA := Lib.hid (HB3.out.trans (hb.mono HB3.out.size))
    clear hb
    go_wp2_with fail
    go_ret
    exact ⟨rfl, HBA.out⟩
  have hmy := may_any c w3 (HCF.out.below HB3.out rfl)
  obtain ⟨m, hm⟩ : ∃ m, mayC c = m := ⟨_, rfl⟩
  rw [hm] at hmy
  unfold CfgM.val at hmy
  have HMY := Lib.hid hmy
  have HM := Lib.hid hm
  clear hmy hm
  go_wp2_with fail
  clear x0 x1 x2 x3 x4 x5 x6 x7 x8 x9 x10 x11 y0 y1 y2
  refine HMY.out.mono ?_
  clear HMY
  rintro e w4 ⟨rfl, hb⟩
  have HB4 := Lib.hid (HB3.out.trans (hb.mono HB3.out.size))
  have HX4 := Lib.hid (HX3.out.below hb HX3.out.lt)
  have HY4 := Lib.hid (HY3.out.below hb HY3.out.lt)
  have x0 : w4.cell? ⟨w.heap.size, 0, none⟩ = some (.slice c.aw c.nw c.cw) := HX4.out.cell 0
  have x1 : w4.cell? ⟨w.heap.size, 1, none⟩ = some (.slice c.ac c.nc c.cc) := HX4.out.cell 1
  have x2 : w4.cell? ⟨w.heap.size, 2, none⟩ = some (.int .i64 c.wk) := HX4.out.cell 2
  have x3 : w4.cell? ⟨w.heap.size, 3, none⟩ = some (.int .i64 c.cp) := HX4.out.cell 3
  have x4 : w4.cell? ⟨w.heap.size, 4, none⟩ = some (.int .i64 c.sl) := HX4.out.cell 4
  have x5 : w4.cell? ⟨w.heap.size, 5, none⟩ = some (.int .i64 c.ba) := HX4.out.cell 5
  have x6 : w4.cell? ⟨w.heap.size, 6, none⟩ = some (.int .i64 c.le) := HX4.out.cell 6
  have x7 : w4.cell? ⟨w.heap.size, 7, none⟩ = some (.int .i64 c.he) := HX4.out.cell 7
  have x8 : w4.cell? ⟨w.heap.size, 8, none⟩ = some (.int .i64 c.fi) := HX4.out.cell 8
  have x9 : w4.cell? ⟨w.heap.size, 9, none⟩ = some (.int .i64 c.ca) := HX4.out.cell 9
  have x10 : w4.cell? ⟨w.heap.size, 10, none⟩ = some (.int .i64 c.ji) := HX4.out.cell 10
  have x11 : w4.cell? ⟨w.heap.size, 11, none⟩ = some (.int .i64 c.ne) := HX4.out.cell 11
  have y0 : w4.cell? ⟨w.heap.size + 1, 0, none⟩ = some (.string q) := HY4.out.cell 0
  have y1 : w4.cell? ⟨w.heap.size + 1, 1, none⟩ = some (.int .i64 k) := HY4.out.cell 1
  have y2 : w4.cell? ⟨w.heap.size + 1, 2, none⟩ = some (.int .i64 n) := HY4.out.cell 2
  clear hb HB3 HX3 HY3
  cases m
  · go_wp2_with fail
    refine (awake24_any _).mono ?_
    rintro e wa ⟨rfl, hb⟩
    have HBA := Lib.hid (HB4.out.trans (hb.mono HB4.out.size))
    clear hb
    go_wp2_with fail
    go_ret
    exact ⟨rfl, HBA.out⟩
  have hmy := rmay_any q k n w4 HQS.out
  obtain ⟨mq, hm⟩ : ∃ m, mayQ q k n = m := ⟨_, rfl⟩
  rw [hm] at hmy
  have HMY := Lib.hid hmy
  have HMQ := Lib.hid hm
  clear hmy hm
  go_wp2_with fail
  clear x0 x1 x2 x3 x4 x5 x6 x7 x8 x9 x10 x11 y0 y1 y2
  refine HMY.out.mono ?_
  clear HMY
  rintro e w5 ⟨rfl, hb⟩
  have HB5 := Lib.hid (HB4.out.trans (hb.mono HB4.out.size))
  have HX5 := Lib.hid (HX4.out.below hb HX4.out.lt)
  have HY5 := Lib.hid (HY4.out.below hb HY4.out.lt)
  have x0 : w5.cell? ⟨w.heap.size, 0, none⟩ = some (.slice c.aw c.nw c.cw) := HX5.out.cell 0
  have x1 : w5.cell? ⟨w.heap.size, 1, none⟩ = some (.slice c.ac c.nc c.cc) := HX5.out.cell 1
  have x2 : w5.cell? ⟨w.heap.size, 2, none⟩ = some (.int .i64 c.wk) := HX5.out.cell 2
  have x3 : w5.cell? ⟨w.heap.size, 3, none⟩ = some (.int .i64 c.cp) := HX5.out.cell 3
  have x4 : w5.cell? ⟨w.heap.size, 4, none⟩ = some (.int .i64 c.sl) := HX5.out.cell 4
  have x5 : w5.cell? ⟨w.heap.size, 5, none⟩ = some (.int .i64 c.ba) := HX5.out.cell 5
  have x6 : w5.cell? ⟨w.heap.size, 6, none⟩ = some (.int .i64 c.le) := HX5.out.cell 6
  have x7 : w5.cell? ⟨w.heap.size, 7, none⟩ = some (.int .i64 c.he) := HX5.out.cell 7
  have x8 : w5.cell? ⟨w.heap.size, 8, none⟩ = some (.int .i64 c.fi) := HX5.out.cell 8
  have x9 : w5.cell? ⟨w.heap.size, 9, none⟩ = some (.int .i64 c.ca) := HX5.out.cell 9
  have x10 : w5.cell? ⟨w.heap.size, 10, none⟩ = some (.int .i64 c.ji) := HX5.out.cell 10
  have x11 : w5.cell? ⟨w.heap.size, 11, none⟩ = some (.int .i64 c.ne) := HX5.out.cell 11
  have y0 : w5.cell? ⟨w.heap.size + 1, 0, none⟩ = some (.string q) := HY5.out.cell 0
  have y1 : w5.cell? ⟨w.heap.size + 1, 1, none⟩ = some (.int .i64 k) := HY5.out.cell 1
  have y2 : w5.cell? ⟨w.heap.size + 1, 2, none⟩ = some (.int .i64 n) := HY5.out.cell 2
  clear hb HB4 HX4 HY4
  cases mq
  · go_wp2_with fail
    refine (awake24_any _).mono ?_
    rintro e wa ⟨rfl, hb⟩
    have HBA := Lib.hid (HB5.out.trans (hb.mono HB5.out.size))
    clear hb
    go_wp2_with fail
    go_ret
    exact ⟨rfl, HBA.out⟩
  have hnw := cnew_yes (fun _ => 0) c w5 (HCF.out.below HB5.out rfl) HM.out
  unfold CfgM.val at hnw
  have HNW := Lib.hid hnw
  clear hnw
  go_wp2_with fail
  clear x0 x1 x2 x3 x4 x5 x6 x7 x8 x9 x10 x11 y0 y1 y2
  refine HNW.out.mono ?_
  clear HNW
  rintro e w6 ⟨p, ac, cc, A, O6, rfl, hcw, hcl, ha6, hb⟩
  obtain ⟨wk, hwk⟩ : ∃ wk : Nat, c.wk = (wk : Int) := ⟨c.wk.toNat, by have := may_of HM.out; omega⟩
  have hwk5 : 1 ≤ wk ∧ wk ≤ 5 := by have := may_of HM.out; omega
  obtain ⟨ns, hns⟩ : ∃ n, A.cps.length = n := ⟨_, rfl⟩
  have HNS := Lib.hid hns
  have HSH := Lib.hid (show ((ns : Nat) : Int) = shardsC c from by rw [← hns]; exact hcl)
  have HWK := Lib.hid hwk
  obtain ⟨C, hC⟩ : ∃ C, c.own ac cc = C := ⟨_, rfl⟩
  rw [hC] at hcw
  have HCC := Lib.hid hC
  have HF6 := Lib.hid (show FrS w w6 O6 A p (CS.init C) [(w.heap.size + 1, 40, [.string q, .int .i64 k, .int .i64 n]), (w.heap.size, 25, [.slice c.aw c.nw c.cw, .slice c.ac c.nc c.cc, .int .i64 c.wk, .int .i64 c.cp, .int .i64 c.sl, .int .i64 c.ba, .int .i64 c.le, .int .i64 c.he, .int .i64 c.fi, .int .i64 c.ca, .int .i64 c.ji, .int .i64 c.ne])] from ⟨hcw, fun x hx => by
    have hx5 := HX5.out.lt
    have hy5 := HY5.out.lt
    simp only [List.mem_cons, List.not_mem_nil, or_false] at hx
    rcases hx with rfl | rfl
    · exact ⟨HY5.out.below hb HY5.out.lt, by rw [ha6 _ hy5]; show (0 : Nat) % 8 ≠ 1; decide⟩
    · exact ⟨HX5.out.below hb HX5.out.lt, by rw [ha6 _ hx5]; show (0 : Nat) % 8 ≠ 1; decide⟩,
    fun b hb' => by rw [ha6 b (Nat.lt_of_lt_of_le hb' HB5.out.size)]; show (0 : Nat) % 8 ≠ 1; decide, HB5.out.trans (hb.mono HB5.out.size)⟩)
  have hqc := fun V => cptr_ne p 0 V
  clear hcw hcl ha6 hb hns hwk hC HX5 HY5 HB5
  go_wp2_with fail
  skip
  skip
  obtain ⟨lb, hlb⟩ : ∃ n, w6.heap.size = n := ⟨_, rfl⟩
  obtain ⟨O7, hO7⟩ : ∃ o, O6.upd w6.heap.size 0 = o := ⟨_, rfl⟩
  obtain ⟨w7, hw7⟩ : ∃ V, w6.alloc (.cells #[.int .i64 0, .int .i64 0, .int .i64 0, .int .i64 0, .int .i64 0, .int .i64 0] 41) = V := ⟨_, rfl⟩
  have hf7 := HF6.out.alloc 41 (ints [0, 0, 0, 0, 0, 0])
  rw [hO7] at hf7
  have hlb1 : w.heap.size + 1 < lb := by have := (HF6.out.box (w.heap.size + 1, 40, [.string q, .int .i64 k, .int .i64 n]) (by simp)).1.lt; omega
  have HF7 := Lib.hid (show FrS w w7 O7 A p (CS.init C) ((lb, 41, ints [0, 0, 0, 0, 0, 0]) :: [(w.heap.size + 1, 40, [.string q, .int .i64 k, .int .i64 n]), (w.heap.size, 25, [.slice c.aw c.nw c.cw, .slice c.ac c.nc c.cc, .int .i64 c.wk, .int .i64 c.cp, .int .i64 c.sl, .int .i64 c.ba, .int .i64 c.le, .int .i64 c.he, .int .i64 c.fi, .int .i64 c.ca, .int .i64 c.ji, .int .i64 c.ne])]) from by rw [← hw7, ← hlb]; exact hf7)
  rw [hlb, hw7]
  have HLB := Lib.hid hlb1
  clear hf7 hlb1 hlb hO7 hw7 HF6
  go_loopw [12] (fun v wr => FaR w O7 A p (CS.init C) lb wk [(w.heap.size + 1, 40, [.string q, .int .i64 k, .int .i64 n]), (w.heap.size, 25, [.slice c.aw c.nw c.cw, .slice c.ac c.nc c.cc, .int .i64 c.wk, .int .i64 c.cp, .int .i64 c.sl, .int .i64 c.ba, .int .i64 c.le, .int .i64 c.he, .int .i64 c.fi, .int .i64 c.ca, .int .i64 c.ji, .int .i64 c.ne])] v wr) (fun v _ => wk + 1 - (intOf v).toNat)
  case atStart => exact ⟨1, [0, 0, 0, 0, 0, 0], by omega, by omega, rfl, HF7.out, ⟨rfl, fun j h1 h2 => by omega⟩⟩
  case round =>
    clear HF7
    obtain ⟨m, l, hm1, hm2, rfl, HF, HL⟩ := hrel
    have x2 : wr.cell? ⟨w.heap.size, 2, none⟩ = some (.int .i64 (wk : Nat)) := by have e := HF.out.cell (e := 25) (cs := [.slice c.aw c.nw c.cw, .slice c.ac c.nc c.cc, .int .i64 c.wk, .int .i64 c.cp, .int .i64 c.sl, .int .i64 c.ba, .int .i64 c.le, .int .i64 c.he, .int .i64 c.fi, .int .i64 c.ca, .int .i64 c.ji, .int .i64 c.ne]) (b := w.heap.size) (by simp) 2; rw [show ([.slice c.aw c.nw c.cw, .slice c.ac c.nc c.cc, .int .i64 c.wk, .int .i64 c.cp, .int .i64 c.sl, .int .i64 c.ba, .int .i64 c.le, .int .i64 c.he, .int .i64 c.fi, .int .i64 c.ca, .int .i64 c.ji, .int .i64 c.ne] : List Value)[2]? = some (.int .i64 c.wk) from rfl, HWK.out] at e; exact e
    by_cases hlt : m ≤ wk
    · have e1 : (m : Int) ≤ (wk : Int) := by omega
      have e2 : (m : Int) < 6 := by omega
      have e3 : (0 : Int) ≤ (m : Int) := by omega
      have cm : wr.cell? ⟨lb, m, none⟩ = some (.int .i64 (lastF l m)) := by have e := HF.out.cell (e := 41) (cs := ints l) (b := lb) (by simp) m; rw [e]; unfold ints lastF; rw [List.getElem?_map, List.getD_eq_getElem?_getD, List.getElem?_eq_getElem (by rw [HL.out.1]; omega)]; rfl
      have fz : wr.frozen? ⟨lb, m, none⟩ = false := HF.out.fz (e := 41) (cs := ints l) (by simp) m
      have hf2 := HF.out.set (by have := HLB.out; omega) (by intro x hx; have := HLB.out; simp only [List.mem_cons, List.not_mem_nil, or_false] at hx; rcases hx with rfl | rfl <;> simp <;> omega) m (.int .i64 (-1))
      have HF2 := Lib.hid (show FrS w (wr.setCell ⟨lb, m, none⟩ (.int .i64 (-1))) O7 A p (CS.init C) ((lb, 41, ints (l.set m (-1))) :: [(w.heap.size + 1, 40, [.string q, .int .i64 k, .int .i64 n]), (w.heap.size, 25, [.slice c.aw c.nw c.cw, .slice c.ac c.nc c.cc, .int .i64 c.wk, .int .i64 c.cp, .int .i64 c.sl, .int .i64 c.ba, .int .i64 c.le, .int .i64 c.he, .int .i64 c.fi, .int .i64 c.ca, .int .i64 c.ji, .int .i64 c.ne])]) from by unfold ints at hf2 ⊢; rw [List.map_set]; exact hf2)
      have HL2 := Lib.hid (show (l.set m (-1)).length = 6 ∧ ∀ j : Nat, 1 ≤ j → j < m + 1 → lastF (l.set m (-1)) j = -1 from ⟨by rw [List.length_set]; exact HL.out.1, fun j h1 h2 => by rw [lastF_set (by rw [HL.out.1]; omega)]; show (if j = m then (-1 : Int) else lastF l j) = -1; by_cases e : j = m; (rw [if_pos e]); (rw [if_neg e]; exact HL.out.2 j h1 (by omega))⟩)
      clear hf2
      go_wp2_with fail
      go_roundw
      case rel => exact ⟨m + 1, l.set m (-1), by omega, by omega, by go_num, HF2.out, HL2.out⟩
      case measure => simp [intOf]; omega
    have hmw : m = wk + 1 := by omega
    subst hmw
    clear hlt hm1 hm2
    go_wp2_with fail
    clear x2
    skip
    obtain ⟨sl, hsl⟩ : ∃ sl : Nat, c.sl = (sl : Int) := ⟨c.sl.toNat, by have := may_of HM.out; omega⟩
    have hsl4 : 1 ≤ sl ∧ sl ≤ 4 := by have := may_of HM.out; omega
    have HSL := Lib.hid hsl
    have hwc : C.wk = (wk : Int) := by rw [← HCC.out]; exact HWK.out
    have HWC := Lib.hid hwc
    have h0 := heard_init (c := C) (by rw [← HCC.out]; exact own_may HM.out) (by rw [← HCC.out]; exact le_of (own_may (ac := ac) (cc := cc) HM.out))
    have h1 : Heard (CS.init C) (lastF l) := h0.cong (fun v h1 h2 => HL.out.2 v h1 (by have h3 : (v : Int) ≤ C.wk := h2; rw [hwc] at h3; omega))
    have HH := Lib.hid (show Heard (CS.init C) (lastF l) ∧ Fresh (CS.init C) sl ∧ (CS.init C).c = C from ⟨h1, ⟨by show List.replicate C.sl.toNat 0 = _; rw [← HCC.out]; show List.replicate c.sl.toNat 0 = _; rw [HSL.out, Int.toNat_natCast], rfl, rfl⟩, rfl⟩)
    clear hsl hwc h0 h1
    go_loopw [13] (fun v wr => FhR w A p C lb sl hn [(w.heap.size + 1, 40, [.string q, .int .i64 k, .int .i64 n]), (w.heap.size, 25, [.slice c.aw c.nw c.cw, .slice c.ac c.nc c.cc, .int .i64 c.wk, .int .i64 c.cp, .int .i64 c.sl, .int .i64 c.ba, .int .i64 c.le, .int .i64 c.he, .int .i64 c.fi, .int .i64 c.ca, .int .i64 c.ji, .int .i64 c.ne])] v wr) (fun v _ => hn - (intOf v).toNat)
    case atStart => exact ⟨0, CS.init C, l, O7, Nat.zero_le _, rfl, HF.out, ⟨HL.out.1, HH.out.1, HH.out.2.1, rfl, HH.out.2.2⟩⟩
    case round =>
      clear HF HL HH
      obtain ⟨i, S, l, O, hi, rfl, HF, HL⟩ := hrel
      by_cases hlt : i < hn
      · have e1 : (i : Int) < (hn : Int) := by omega
        have e2 : (0 : Int) ≤ (i : Int) := by omega
        obtain ⟨hv, hhv⟩ : ∃ x, hd[i]? = some x := ⟨hd[i]'(by omega), List.getElem?_eq_getElem _⟩
        have hrd := HR.out.below HF.out.bel rfl
        obtain ⟨hb0, ho0, hae, hbl0, hcl0⟩ := hrd.2.2.2.2 i hlt
        have hcl : wr.drew.cell? ⟨hb0, ho0 + i, none⟩ = some (.int .i64 hv) := by have e := hcl0; rw [show (ints hd)[i]? = some (.int .i64 hv) from by unfold ints; rw [List.getElem?_map, hhv]; rfl] at e; exact e
        have x2 : wr.drew.cell? ⟨w.heap.size, 2, none⟩ = some (.int .i64 (wk : Nat)) := by have e := HF.out.cell (e := 25) (cs := [.slice c.aw c.nw c.cw, .slice c.ac c.nc c.cc, .int .i64 c.wk, .int .i64 c.cp, .int .i64 c.sl, .int .i64 c.ba, .int .i64 c.le, .int .i64 c.he, .int .i64 c.fi, .int .i64 c.ca, .int .i64 c.ji, .int .i64 c.ne]) (b := w.heap.size) (by simp) 2; rw [show ([.slice c.aw c.nw c.cw, .slice c.ac c.nc c.cc, .int .i64 c.wk, .int .i64 c.cp, .int .i64 c.sl, .int .i64 c.ba, .int .i64 c.le, .int .i64 c.he, .int .i64 c.fi, .int .i64 c.ca, .int .i64 c.ji, .int .i64 c.ne] : List Value)[2]? = some (.int .i64 c.wk) from rfl, HWK.out] at e; exact e
        have HH2 := Lib.hid (And.intro hcl x2)
        have HF0 := Lib.hid HF.out.drew
        subst hae
        have ewk : IntKind.i64.wrap ((wk : Int) + 1) = (wk : Int) + 1 := wr_in _ (by omega) (by omega)
        have hlw : 0 ≤ lowI hv ((wk : Int) + 1) ∧ lowI hv ((wk : Int) + 1) ≤ (wk : Int) := by unfold lowI; have h1 := Int.emod_nonneg (IntKind.u64.wrap hv) (show (wk : Int) + 1 ≠ 0 by omega); have h2 := Int.emod_lt_of_pos (IntKind.u64.wrap hv) (show 0 < (wk : Int) + 1 by omega); omega
        have HLW := Lib.hid (low_any hv ((wk : Int) + 1) wr.drew (by omega) (by omega))
        obtain ⟨m, hm⟩ : ∃ m : Nat, lowI hv ((wk : Int) + 1) = (m : Int) := ⟨(lowI hv ((wk : Int) + 1)).toNat, by omega⟩
        rw [hm] at HLW hlw
        have hmk : m ≤ wk := by omega
        clear hrd hbl0 hcl0 hcl x2 hhv hm hlw HF
        go_upto_region 14 with fail
        refine wp_region_held_drew (S := (fun w' => w'.cell? ⟨hb0, ho0 + i, none⟩ = some (.int .i64 hv) ∧ w'.cell? ⟨w.heap.size, 2, none⟩ = some (.int .i64 (wk : Nat)))) (by kernel_rfl) (by exact HH2.out) (fun hHeld => ?_)
        refine takeO 0 (some 77) (v := ?_) rfl rfl (by kernel_rfl) (by kernel_rfl) (by kernel_rfl) (fun _ _ _ h => h) (Or.inl ⟨by rfl, ?_⟩) (by assumption) ?_
        rotate_left 1
        · intro w hSw; (try dsimp only at hSw); go_simp; all_goals with_reducible rfl
        try simp only [Act.put, List.setIfInBounds_toArray, List.set_cons_zero, List.set_cons_succ]
        refine takeO 1 (some 78) (v := ?_) rfl rfl (by kernel_rfl) (by kernel_rfl) (by kernel_rfl) (fun _ _ _ h => h) (Or.inl ⟨by rfl, ?_⟩) (by assumption) ?_
        rotate_left 1
        · intro w hSw; (try dsimp only at hSw); go_simp; all_goals with_reducible rfl
        try simp only [Act.put, List.setIfInBounds_toArray, List.set_cons_zero, List.set_cons_succ]
        refine takeO 2 (some 79) (v := ?_) rfl rfl (by kernel_rfl) (by kernel_rfl) (by kernel_rfl) (fun _ _ _ h => h) (Or.inl ⟨by rfl, ?_⟩) (by assumption) ?_
        rotate_left 1
        · intro w hSw; (try dsimp only at hSw); go_simp; all_goals with_reducible rfl
        try simp only [Act.put, List.setIfInBounds_toArray, List.set_cons_zero, List.set_cons_succ]
        refine takeO 3 (some 80) (v := ?_) rfl rfl (by kernel_rfl) (by kernel_rfl) (by kernel_rfl) (fun _ _ _ h => h) (Or.inl ⟨by rfl, ?_⟩) (by assumption) ?_
        rotate_left 1
        · intro w hSw; (try dsimp only at hSw); go_simp; all_goals with_reducible rfl
        try simp only [Act.put, List.setIfInBounds_toArray, List.set_cons_zero, List.set_cons_succ]
        refine takeO 4 (some 81) (v := ?_) rfl rfl (by kernel_rfl) (by kernel_rfl) (by kernel_rfl) (fun _ _ _ h => h) (Or.inl ⟨by rfl, ?_⟩) (by assumption) ?_
        rotate_left 1
        · intro w hSw; (try dsimp only at hSw); go_simp; all_goals with_reducible rfl
        try simp only [Act.put, List.setIfInBounds_toArray, List.set_cons_zero, List.set_cons_succ]
        refine takeO 5 (some 82) (v := ?_) rfl rfl (by kernel_rfl) (by kernel_rfl) (by kernel_rfl) (fun _ _ _ h => h) (Or.inl ⟨by rfl, ?_⟩) (by assumption) ?_
        rotate_left 1
        · intro w hSw; (try dsimp only at hSw); go_simp; all_goals with_reducible rfl
        try simp only [Act.put, List.setIfInBounds_toArray, List.set_cons_zero, List.set_cons_succ]
        refine takeO 6 (some 83) (v := ?_) rfl rfl (by kernel_rfl) (by kernel_rfl) (by kernel_rfl) (fun _ _ _ h => h) (Or.inl ⟨by rfl, ?_⟩) (by assumption) ?_
        rotate_left 1
        · intro w hSw; (try dsimp only at hSw); go_simp; all_goals with_reducible rfl
        try simp only [Act.put, List.setIfInBounds_toArray, List.set_cons_zero, List.set_cons_succ]
        refine wpAnyH_ready (rs := [7]) (by kernel_rfl) (by simp) ?_
        refine AllReadyH.cons rfl (fun K hK => ?_) AllReadyH.nil
        go_simp
        refine HLW.out.mono ?_; rintro e w' ⟨rfl, rfl⟩
        go_wp2_with fail
        refine hK.out _ _ (by exact HH2.out) (fun hHeld => ?_)
        clear hK K
        try simp only [Act.put, List.setIfInBounds_toArray, List.set_cons_zero, List.set_cons_succ]
        refine takeO 8 (some 14) (v := ?_) rfl rfl (by kernel_rfl) (by kernel_rfl) (by kernel_rfl) (fun _ _ _ h => h) (Or.inl ⟨by rfl, ?_⟩) (by assumption) ?_
        rotate_left 1
        · intro w hSw; (try dsimp only at hSw); go_simp; all_goals with_reducible rfl
        try simp only [Act.put, List.setIfInBounds_toArray, List.set_cons_zero, List.set_cons_succ]
        refine wpAnyH_done (by kernel_rfl) ?_ _
        clear hHeld HH2 HLW ewk
        skip
        by_cases hm0 : m = 0
        · subst hm0
          have htk := tick_any _ HF0.out.cw (by have := HL.out.2.1.now; omega) (by have := HL.out.2.1.now; omega)
          have HTK := Lib.hid htk
          clear htk
          go_wp2_with fail
          refine HTK.out.mono ?_
          clear HTK
          rintro e w9 ⟨rfl, hc9, hf9⟩
          have HF9 := Lib.hid (HF0.out.step hc9 (AgO.refl _ _) hf9)
          have HL9 := Lib.hid (show l.length = 6 ∧ Heard S.tick (lastF l) ∧ Fresh S.tick sl ∧ S.tick.now = ((i + 1 : Nat) : Int) ∧ S.tick.c = C from ⟨HL.out.1, heard_tick HL.out.2.1 (by have := HL.out.2.2.2.1; omega), fresh_tick HL.out.2.2.1, by have := HL.out.2.2.2.1; show min (S.now + 1) _ = _; omega, HL.out.2.2.2.2⟩)
          clear hc9 hf9
          go_wp2_with fail
          go_roundw
          case rel => (repeat apply Exists.intro); exact ⟨⟨i + 1, S.tick, l, O, by omega, by go_num, HF9.out, HL9.out⟩, rfl⟩
          case measure => simp [intOf]; omega
        have e3 : (0 : Int) < (m : Int) := by omega
        have HTA := Lib.hid (ctake_hello O A p S (m : Int) 1 wr.drew HF0.out.cw HL.out.2.1.ok)
        go_wp2_with fail
        refine HTA.out.mono ?_
        clear HTA
        rintro e w5' ⟨u5, O5, rfl, hc5, hl5, ha5, hf5⟩
        have HF5 := Lib.hid (HF0.out.step hc5 ha5 hf5)
        clear hc5 hl5 ha5 hf5 HF0
        have hnw := now_any w5' HF5.out.cw
        rw [show (S.hello (m : Int) 1).now = S.now from rfl, HL.out.2.2.2.1] at hnw
        have HNW := Lib.hid hnw
        clear hnw
        have e4 : (m : Int) < 6 := by omega
        have e5 : (0 : Int) ≤ (m : Int) := by omega
        have cm : w5'.cell? ⟨lb, m, none⟩ = some (.int .i64 (lastF l m)) := by have e := HF5.out.cell (e := 41) (cs := ints l) (b := lb) (by simp) m; rw [e]; unfold ints lastF; rw [List.getElem?_map, List.getD_eq_getElem?_getD, List.getElem?_eq_getElem (by rw [HL.out.1]; omega)]; rfl
        have fz : w5'.frozen? ⟨lb, m, none⟩ = false := HF5.out.fz (e := 41) (cs := ints l) (by simp) m
        have hf2 := HF5.out.set (by have := HLB.out; omega) (by intro x hx; have := HLB.out; simp only [List.mem_cons, List.not_mem_nil, or_false] at hx; rcases hx with rfl | rfl <;> simp <;> omega) m (.int .i64 (i : Nat))
        have HF6 := Lib.hid (show FrS w (w5'.setCell ⟨lb, m, none⟩ (.int .i64 (i : Nat))) O5 A p (S.hello (m : Int) 1) ((lb, 41, ints (l.set m (i : Nat))) :: [(w.heap.size + 1, 40, [.string q, .int .i64 k, .int .i64 n]), (w.heap.size, 25, [.slice c.aw c.nw c.cw, .slice c.ac c.nc c.cc, .int .i64 c.wk, .int .i64 c.cp, .int .i64 c.sl, .int .i64 c.ba, .int .i64 c.le, .int .i64 c.he, .int .i64 c.fi, .int .i64 c.ca, .int .i64 c.ji, .int .i64 c.ne])]) from by unfold ints at hf2 ⊢; rw [List.map_set]; exact hf2)
        have hqh := heard_hello HL.out.2.1 (w := m) (by omega) (by rw [HL.out.2.2.2.2, HWC.out]; omega)
        rw [HL.out.2.2.2.1, ← lastF_set (by rw [HL.out.1]; omega)] at hqh
        have HL6 := Lib.hid (show (l.set m (i : Nat)).length = 6 ∧ Heard (S.hello (m : Int) 1) (lastF (l.set m (i : Nat))) ∧ Fresh (S.hello (m : Int) 1) sl ∧ (S.hello (m : Int) 1).now = (i : Int) ∧ (S.hello (m : Int) 1).c = C from ⟨by rw [List.length_set]; exact HL.out.1, hqh, fresh_hello HL.out.2.2.1 _ _, HL.out.2.2.2.1, HL.out.2.2.2.2⟩)
        clear hf2 hqh
        go_wp2_with fail
        refine HNW.out.mono ?_
        clear HNW
        rintro e w' ⟨rfl, rfl⟩
        obtain ⟨w6', hw6⟩ : ∃ V, w5'.setCell ⟨lb, m, none⟩ (.int .i64 (i : Nat)) = V := ⟨_, rfl⟩
        rw [hw6] at HF6
        go_wp2_with (rw [hw6])
        clear hw6 cm fz HF5
        skip
        have htk := tick_any _ HF6.out.cw (by have := HL6.out.2.1.now; omega) (by have := HL6.out.2.1.now; omega)
        have HTK := Lib.hid htk
        clear htk
        go_wp2_with fail
        refine HTK.out.mono ?_
        clear HTK
        rintro e w9 ⟨rfl, hc9, hf9⟩
        have HF9 := Lib.hid (HF6.out.step hc9 (AgO.refl _ _) hf9)
        have HL9 := Lib.hid (show (l.set m (i : Nat)).length = 6 ∧ Heard (S.hello (m : Int) 1).tick (lastF (l.set m (i : Nat))) ∧ Fresh (S.hello (m : Int) 1).tick sl ∧ (S.hello (m : Int) 1).tick.now = ((i + 1 : Nat) : Int) ∧ (S.hello (m : Int) 1).tick.c = C from ⟨HL6.out.1, heard_tick HL6.out.2.1 (by have := HL6.out.2.2.2.1; omega), fresh_tick HL6.out.2.2.1, by have := HL6.out.2.2.2.1; show min ((S.hello (m : Int) 1).now + 1) _ = _; omega, HL6.out.2.2.2.2⟩)
        clear hc9 hf9
        go_wp2_with fail
        go_roundw
        case rel => (repeat apply Exists.intro); exact ⟨⟨i + 1, (S.hello (m : Int) 1).tick, l.set m (i : Nat), O5, by omega, by go_num, HF9.out, HL9.out⟩, rfl⟩
        case measure => simp [intOf]; omega
      · have hih : i = hn := by omega
        subst hih
        clear hlt hi
        go_wp2_with fail
        obtain ⟨nw, hnw⟩ : ∃ n : Nat, lowI wait 30 = (n : Int) := ⟨(lowI wait 30).toNat, by have := lowI_bd wait 30 (by omega); omega⟩
        have hnw30 : nw ≤ 29 := by have := lowI_bd wait 30 (by omega); omega
        have HLW := Lib.hid (fun V => low_any wait 30 V (by omega) (by omega))
        rw [hnw] at HLW
        clear hnw
        go_loopw [15] (fun v wr => FtR w A p C lb sl nw (i : Nat) l [(w.heap.size + 1, 40, [.string q, .int .i64 k, .int .i64 n]), (w.heap.size, 25, [.slice c.aw c.nw c.cw, .slice c.ac c.nc c.cc, .int .i64 c.wk, .int .i64 c.cp, .int .i64 c.sl, .int .i64 c.ba, .int .i64 c.le, .int .i64 c.he, .int .i64 c.fi, .int .i64 c.ca, .int .i64 c.ji, .int .i64 c.ne])] v wr) (fun v _ => nw - (intOf v).toNat)
        case atStart => exact ⟨0, S, O, Nat.zero_le _, rfl, HF.out, ⟨HL.out.2.1, HL.out.2.2.1, by have := HL.out.2.2.2.1; omega, HL.out.2.2.2.2⟩⟩
        case round =>
          have HL0 := Lib.hid HL.out.1
          clear HF HL
          obtain ⟨j, S, O, hj, rfl, HF, HL⟩ := hrel
          go_wp2_with fail
          refine (HLW.out _).mono ?_
          rintro e w' ⟨rfl, rfl⟩
          by_cases hlt : j < nw
          · have e1 : (j : Int) < (nw : Int) := by omega
            go_wp2_with fail
            have htk := tick_any _ HF.out.cw (by have := HL.out.1.now; omega) (by have := HL.out.1.now; omega)
            have HTK := Lib.hid htk
            clear htk
            skip
            refine HTK.out.mono ?_
            clear HTK
            rintro e w9 ⟨rfl, hc9, hf9⟩
            have HF9 := Lib.hid (HF.out.step hc9 (AgO.refl _ _) hf9)
            have HL9 := Lib.hid (show Heard S.tick (lastF l) ∧ Fresh S.tick sl ∧ S.tick.now = ((i : Nat) : Int) + ((j + 1 : Nat) : Int) ∧ S.tick.c = C from ⟨heard_tick HL.out.1 (by have := HL.out.2.2.1; omega), fresh_tick HL.out.2.1, by have := HL.out.2.2.1; show min (S.now + 1) _ = _; omega, HL.out.2.2.2⟩)
            clear hc9 hf9
            go_wp2_with fail
            go_roundw
            case rel => (repeat apply Exists.intro); exact ⟨⟨j + 1, S.tick, O, by omega, by go_num, HF9.out, HL9.out⟩, rfl⟩
            case measure => simp [intOf]; omega
          have hjn : j = nw := by omega
          subst hjn
          clear hlt hj HLW
          have y0 : wr.cell? ⟨w.heap.size + 1, 0, none⟩ = some (.string q) := HF.out.cell (e := 40) (cs := [.string q, .int .i64 k, .int .i64 n]) (by simp) 0
          have y1 : wr.cell? ⟨w.heap.size + 1, 1, none⟩ = some (.int .i64 k) := HF.out.cell (e := 40) (cs := [.string q, .int .i64 k, .int .i64 n]) (by simp) 1
          have y2 : wr.cell? ⟨w.heap.size + 1, 2, none⟩ = some (.int .i64 n) := HF.out.cell (e := 40) (cs := [.string q, .int .i64 k, .int .i64 n]) (by simp) 2
          have hcw : S.c.wk = (wk : Int) := by rw [HL.out.2.2.2]; exact HWC.out
          have hcs : S.c.sl = (sl : Int) := by rw [HL.out.2.2.2, ← HCC.out]; exact HSL.out
          have hcu : S.c.cuts = c.cuts := by rw [HL.out.2.2.2, ← HCC.out]; rfl
          have hcp : S.c.cp = c.cp := by rw [HL.out.2.2.2, ← HCC.out]; rfl
          have hce : S.c.le = c.le := by rw [HL.out.2.2.2, ← HCC.out]; rfl
          have hmo := may_of HM.out
          have hns6 : 1 ≤ ns ∧ ns ≤ 6 := by have h1 := HSH.out; rw [shardsC_may HM.out] at h1; omega
          have hsb := csubmit_any O A p S q k n wk wr HF.out.cw HQS.out (by rw [HNS.out]; omega) (by rw [HNS.out]; omega) hcw (by omega) (by rw [HL.out.2.1.told]; exact Nat.zero_le _) (by rw [hcu]; omega) (by rw [hcu]; exact cuts_bd HM.out)
          unfold SuE at hsb
          rw [subV_eq HL.out.2.1 hsl4.1 HMQ.out, HNS.out] at hsb
          have HSB := Lib.hid hsb
          have HCW := Lib.hid hcw
          have HCS := Lib.hid hcs
          have HCU := Lib.hid hcu
          have HCP := Lib.hid hcp
          have HCE := Lib.hid hce
          have HMO := Lib.hid hmo
          clear hsb hcw hcs hcu hcp hce hmo
          go_wp2_with fail
          clear y0 y1 y2
          refine HSB.out.mono ?_
          clear HSB
          rintro e w10 ⟨v10, O10, A10, rfl, hc10, hcp10, hl10, ha10, hf10⟩
          have HF10 := Lib.hid (HF.out.step hc10 ha10 hf10)
          have HNS2 := Lib.hid (show A10.cps.length = ns from by rw [hcp10]; exact HNS.out)
          clear hc10 hcp10 hl10 ha10 hf10 HF
          have hok := sub_ok (fresh_ok HL.out.2.1 HL.out.1 hsl4.1 hsl4.2 ns) (by decide) q k n
          have hsc := sub_c (ns := ns) HL.out.2.1 hsl4.1 HMQ.out
          obtain ⟨S3, hS3⟩ : ∃ x, S.sub q k n ns = x := ⟨_, rfl⟩
          rw [hS3] at hok hsc HF10
          have HS3 := Lib.hid hS3
          have HSC := Lib.hid hsc
          have hwk := cwake_any O10 A10 p S3 0 1001 sl w10 HF10.out.cw (by rw [HNS2.out]; exact hok) (by decide) (by decide) (by rw [HNS2.out]; omega) (by rw [hsc.1, HCP.out]; exact HMO.out.2.2.2.1) (by rw [hsc.1, HCP.out]; exact HMO.out.2.2.2.2.1) (by rw [hsc.1]; exact HCS.out) hsl4.2
          have HWA := Lib.hid hwk
          have hlk := wakeN_lk S3 0 S3.c.sl.toNat
          have HLK := Lib.hid (show Lk S3 (S3.wake 0).1 from hlk)
          clear hwk hok hsc hS3 hlk
          go_wp2_with fail
          refine HWA.out.mono ?_
          clear HWA
          rintro e w11 ⟨v11, O11, rfl, hc11, hl11, ha11, hf11⟩
          have HF11 := Lib.hid (HF10.out.step hc11 ha11 hf11)
          obtain ⟨S4, hS4⟩ : ∃ x, (S3.wake 0).1 = x := ⟨_, rfl⟩
          obtain ⟨LL, hLL⟩ : ∃ x, (S3.wake 0).2 = x := ⟨_, rfl⟩
          rw [hS4] at HF11 HLK
          rw [hLL] at hl11
          have HLL := Lib.hid hLL
          have HL11 := Lib.hid hl11
          clear hc11 hl11 ha11 hf11 hS4 hLL HF10
          obtain ⟨d, hd⟩ : ∃ d, ((S.add q k n 0 ns).tell 1).isDone 1 = d := ⟨_, rfl⟩
          have ht0 := sub_told (ns := ns) HL.out.2.1 hsl4.1 HMQ.out hd
          rw [HS3.out, ← HLK.out.told] at ht0
          have HD := Lib.hid hd
          have htd := ctold_yes 0 ⟨q, k, n, [], d, false⟩ w11 HF11.out.cw (by rw [ht0]; rfl) (Nat.zero_le _) (by rw [ht0]; show (1 : Nat) ≤ 1000000; decide)
          rw [show ((0 : Nat) : Int) + 1 = 1 from rfl] at htd
          unfold ToE at htd
          have HTD := Lib.hid htd
          clear ht0 htd hd
          go_wp2_with fail
          refine HTD.out.mono ?_
          clear HTD
          rintro e w12 ⟨a12, c12, rfl, hown12, hb12⟩
          have HF12 := Lib.hid (HF11.out.below hb12)
          have HL12 := Lib.hid (HL11.out.below hb12)
          clear hown12 hb12 HF11 HL11
          skip
          obtain ⟨ao, co, hv11, hro⟩ := HL12.out.rde
          subst hv11
          have HRO := Lib.hid hro
          have t5 : (w12.alloc (.cells #[.int .i64 1, .string q, .int .i64 k, .int .i64 n, .slice a12 0 c12, .bool d, .bool false] 58)).cell? ⟨w12.heap.size, 5, none⟩ = some (.bool d) := (show Blk _ w12.heap.size 58 [.int .i64 1, .string q, .int .i64 k, .int .i64 n, .slice a12 0 c12, .bool d, .bool false] from heap_alloc_new w12 _).cell 5
          obtain ⟨w13, hw13⟩ : ∃ V, w12.alloc (.cells #[.int .i64 1, .string q, .int .i64 k, .int .i64 n, .slice a12 0 c12, .bool d, .bool false] 58) = V := ⟨_, rfl⟩
          have hb13 : Below w12.heap.size w12 w13 := by rw [← hw13]; exact (Below.refl _ w12).alloc (Nat.le_refl _) _
          rw [hw13] at t5
          have HF13 := Lib.hid (HF12.out.below hb13)
          have HRO13 := Lib.hid (HRO.out.below hb13 rfl)
          have HW13 := Lib.hid hw13
          obtain ⟨nl, hnl⟩ : ∃ n, LL.length = n := ⟨_, rfl⟩
          have HNL := Lib.hid hnl
          rw [hnl]
          clear hb13 hw13 hro HF12 HL12 HRO hnl
          cases d
          rotate_left 1
          · have hov := sub_over (ns := ns) HL.out.2.1 hsl4.1 HMQ.out HD.out
            rw [HS3.out] at hov
            have hwn : (S3.wake 0).2 = [] := by unfold CS.wake; rw [wake_none hov]
            have hnl0 : nl = 0 := by rw [← HNL.out, ← HLL.out, hwn]; rfl
            subst hnl0
            clear hov hwn
            go_wp2_with (rw [HW13.out])
            clear t5
            refine (awake24_any _).mono ?_
            rintro e wa ⟨rfl, hb⟩
            have HBA := Lib.hid (HF13.out.bel.trans (hb.mono HF13.out.bel.size))
            clear hb
            go_wp2_with fail
            go_ret
            exact ⟨rfl, HBA.out⟩
          obtain ⟨m0, hm0⟩ : ∃ m, sl = m + 1 := ⟨sl - 1, by omega⟩
          have hfw := first_wake (ns := ns) HL.out.2.1 hsl4.1 HMQ.out 0 m0 HD.out
          rw [HS3.out] at hfw
          have hll : LL = (List.range ns).flatMap (fstL S3 q k) := by rw [← HLL.out]; unfold CS.wake; rw [HSC.out.1, HCS.out, Int.toNat_natCast, hm0, hfw.2, ← hfw.1]
          have HLE := Lib.hid hll
          clear hm0 hfw hll
          go_wp2_with (rw [HW13.out])
          clear t5
          skip
          go_loopw [22, 23] (fun v22 v23 wr => FsR w13 (fstL S3 q k) ns v22 v23 wr) (fun _ v _ => ns - (intOf v).toNat)
          case atStart => exact ⟨0, Nat.zero_le _, rfl, rfl, Below.refl _ _⟩
          case round =>
            obtain ⟨s, hs, rfl, rfl, HBW⟩ := hrel
            have HFW := Lib.hid (HF13.out.below HBW.out)
            have x0 : wr.cell? ⟨w.heap.size, 0, none⟩ = some (.slice c.aw c.nw c.cw) := HFW.out.cell (e := 25) (cs := [.slice c.aw c.nw c.cw, .slice c.ac c.nc c.cc, .int .i64 c.wk, .int .i64 c.cp, .int .i64 c.sl, .int .i64 c.ba, .int .i64 c.le, .int .i64 c.he, .int .i64 c.fi, .int .i64 c.ca, .int .i64 c.ji, .int .i64 c.ne]) (by simp) 0
            have x1 : wr.cell? ⟨w.heap.size, 1, none⟩ = some (.slice c.ac c.nc c.cc) := HFW.out.cell (e := 25) (cs := [.slice c.aw c.nw c.cw, .slice c.ac c.nc c.cc, .int .i64 c.wk, .int .i64 c.cp, .int .i64 c.sl, .int .i64 c.ba, .int .i64 c.le, .int .i64 c.he, .int .i64 c.fi, .int .i64 c.ca, .int .i64 c.ji, .int .i64 c.ne]) (by simp) 1
            have x2 : wr.cell? ⟨w.heap.size, 2, none⟩ = some (.int .i64 c.wk) := HFW.out.cell (e := 25) (cs := [.slice c.aw c.nw c.cw, .slice c.ac c.nc c.cc, .int .i64 c.wk, .int .i64 c.cp, .int .i64 c.sl, .int .i64 c.ba, .int .i64 c.le, .int .i64 c.he, .int .i64 c.fi, .int .i64 c.ca, .int .i64 c.ji, .int .i64 c.ne]) (by simp) 2
            have x3 : wr.cell? ⟨w.heap.size, 3, none⟩ = some (.int .i64 c.cp) := HFW.out.cell (e := 25) (cs := [.slice c.aw c.nw c.cw, .slice c.ac c.nc c.cc, .int .i64 c.wk, .int .i64 c.cp, .int .i64 c.sl, .int .i64 c.ba, .int .i64 c.le, .int .i64 c.he, .int .i64 c.fi, .int .i64 c.ca, .int .i64 c.ji, .int .i64 c.ne]) (by simp) 3
            have x4 : wr.cell? ⟨w.heap.size, 4, none⟩ = some (.int .i64 c.sl) := HFW.out.cell (e := 25) (cs := [.slice c.aw c.nw c.cw, .slice c.ac c.nc c.cc, .int .i64 c.wk, .int .i64 c.cp, .int .i64 c.sl, .int .i64 c.ba, .int .i64 c.le, .int .i64 c.he, .int .i64 c.fi, .int .i64 c.ca, .int .i64 c.ji, .int .i64 c.ne]) (by simp) 4
            have x5 : wr.cell? ⟨w.heap.size, 5, none⟩ = some (.int .i64 c.ba) := HFW.out.cell (e := 25) (cs := [.slice c.aw c.nw c.cw, .slice c.ac c.nc c.cc, .int .i64 c.wk, .int .i64 c.cp, .int .i64 c.sl, .int .i64 c.ba, .int .i64 c.le, .int .i64 c.he, .int .i64 c.fi, .int .i64 c.ca, .int .i64 c.ji, .int .i64 c.ne]) (by simp) 5
            have x6 : wr.cell? ⟨w.heap.size, 6, none⟩ = some (.int .i64 c.le) := HFW.out.cell (e := 25) (cs := [.slice c.aw c.nw c.cw, .slice c.ac c.nc c.cc, .int .i64 c.wk, .int .i64 c.cp, .int .i64 c.sl, .int .i64 c.ba, .int .i64 c.le, .int .i64 c.he, .int .i64 c.fi, .int .i64 c.ca, .int .i64 c.ji, .int .i64 c.ne]) (by simp) 6
            have x7 : wr.cell? ⟨w.heap.size, 7, none⟩ = some (.int .i64 c.he) := HFW.out.cell (e := 25) (cs := [.slice c.aw c.nw c.cw, .slice c.ac c.nc c.cc, .int .i64 c.wk, .int .i64 c.cp, .int .i64 c.sl, .int .i64 c.ba, .int .i64 c.le, .int .i64 c.he, .int .i64 c.fi, .int .i64 c.ca, .int .i64 c.ji, .int .i64 c.ne]) (by simp) 7
            have x8 : wr.cell? ⟨w.heap.size, 8, none⟩ = some (.int .i64 c.fi) := HFW.out.cell (e := 25) (cs := [.slice c.aw c.nw c.cw, .slice c.ac c.nc c.cc, .int .i64 c.wk, .int .i64 c.cp, .int .i64 c.sl, .int .i64 c.ba, .int .i64 c.le, .int .i64 c.he, .int .i64 c.fi, .int .i64 c.ca, .int .i64 c.ji, .int .i64 c.ne]) (by simp) 8
            have x9 : wr.cell? ⟨w.heap.size, 9, none⟩ = some (.int .i64 c.ca) := HFW.out.cell (e := 25) (cs := [.slice c.aw c.nw c.cw, .slice c.ac c.nc c.cc, .int .i64 c.wk, .int .i64 c.cp, .int .i64 c.sl, .int .i64 c.ba, .int .i64 c.le, .int .i64 c.he, .int .i64 c.fi, .int .i64 c.ca, .int .i64 c.ji, .int .i64 c.ne]) (by simp) 9
            have x10 : wr.cell? ⟨w.heap.size, 10, none⟩ = some (.int .i64 c.ji) := HFW.out.cell (e := 25) (cs := [.slice c.aw c.nw c.cw, .slice c.ac c.nc c.cc, .int .i64 c.wk, .int .i64 c.cp, .int .i64 c.sl, .int .i64 c.ba, .int .i64 c.le, .int .i64 c.he, .int .i64 c.fi, .int .i64 c.ca, .int .i64 c.ji, .int .i64 c.ne]) (by simp) 10
            have x11 : wr.cell? ⟨w.heap.size, 11, none⟩ = some (.int .i64 c.ne) := HFW.out.cell (e := 25) (cs := [.slice c.aw c.nw c.cw, .slice c.ac c.nc c.cc, .int .i64 c.wk, .int .i64 c.cp, .int .i64 c.sl, .int .i64 c.ba, .int .i64 c.le, .int .i64 c.he, .int .i64 c.fi, .int .i64 c.ca, .int .i64 c.ji, .int .i64 c.ne]) (by simp) 11
            have hsh := shards_any c wr (HCF.out.below HFW.out.bel rfl)
            rw [← HSH.out] at hsh
            unfold CfgM.val at hsh
            have HSA := Lib.hid hsh
            clear hsh
            obtain ⟨at_, hat⟩ : ∃ n, ((List.range s).flatMap (fstL S3 q k)).length = n := ⟨_, rfl⟩
            have HAT := Lib.hid hat
            rw [hat]
            clear hat
            go_wp2_with fail
            clear x0 x1 x2 x3 x4 x5 x6 x7 x8 x9 x10 x11
            refine HSA.out.mono ?_
            clear HSA
            rintro e v1 ⟨rfl, hb⟩
            have HB1 := Lib.hid (HBW.out.trans (hb.mono HBW.out.size))
            clear hb HBW HFW
            by_cases hlt : s < ns
            · have e1 : (s : Int) < (ns : Int) := by omega
              have e1b : s ≤ 5 := by have := HSH.out; rw [shardsC_may HM.out] at this; have := HMO.out.1; omega
              have HF1 := Lib.hid (HF13.out.below HB1.out)
              have HFD := Lib.hid HF1.out.drew
              have x1 : v1.drew.cell? ⟨w.heap.size, 1, none⟩ = some (.slice c.ac c.nc c.cc) := HFD.out.cell (e := 25) (cs := [.slice c.aw c.nw c.cw, .slice c.ac c.nc c.cc, .int .i64 c.wk, .int .i64 c.cp, .int .i64 c.sl, .int .i64 c.ba, .int .i64 c.le, .int .i64 c.he, .int .i64 c.fi, .int .i64 c.ca, .int .i64 c.ji, .int .i64 c.ne]) (by simp) 1
              have y0 : v1.drew.cell? ⟨w.heap.size + 1, 0, none⟩ = some (.string q) := HFD.out.cell (e := 40) (cs := [.string q, .int .i64 k, .int .i64 n]) (by simp) 0
              have HXY := Lib.hid (And.intro x1 y0)
              have hlen := len_any q v1.drew HQS.out
              have hmq := mayQ_of HMQ.out
              obtain ⟨tl, htl⟩ : ∃ x, tLen q = x := ⟨_, rfl⟩
              rw [htl] at hlen hmq
              have HLEN := Lib.hid hlen
              have HTL := Lib.hid htl
              have HLEA := Lib.hid (fun (V : World) (hV : Below w.heap.size w V) => least_any c.ac c.nc c.cc c.cuts (s : Nat) tl V (HCF.out.below hV rfl).rk (by have := HMO.out.1; omega) (cuts_bd HM.out) (by omega))
              obtain ⟨ls, hls⟩ : ∃ x, leastN c.cuts (s : Nat) tl = x := ⟨_, rfl⟩
              rw [hls] at HLEA
              have HLS := Lib.hid hls
              clear x1 y0 hlen hls htl
              go_upto_region 32 with fail
              refine wp_region_held_drew (S := (fun w' => w'.cell? ⟨w.heap.size, 1, none⟩ = some (.slice c.ac c.nc c.cc) ∧ w'.cell? ⟨w.heap.size + 1, 0, none⟩ = some (.string q))) (by kernel_rfl) (by first | exact HXY.out | exact HXY2.out) (fun hHeld => ?_)
              refine takeO 0 (some 142) (v := ?_) rfl rfl (by kernel_rfl) (by kernel_rfl) (by kernel_rfl) (fun _ _ _ h => h) (Or.inl ⟨by rfl, ?_⟩) (by assumption) ?_
              rotate_left 1
              · intro w hSw; (try dsimp only at hSw); go_simp; all_goals with_reducible rfl
              try simp only [Act.put, List.setIfInBounds_toArray, List.set_cons_zero, List.set_cons_succ]
              refine takeO 1 (some 143) (v := ?_) rfl rfl (by kernel_rfl) (by kernel_rfl) (by kernel_rfl) (fun _ _ _ h => h) (Or.inl ⟨by rfl, ?_⟩) (by assumption) ?_
              rotate_left 1
              · intro w hSw; (try dsimp only at hSw); go_simp; all_goals with_reducible rfl
              try simp only [Act.put, List.setIfInBounds_toArray, List.set_cons_zero, List.set_cons_succ]
              refine takeO 2 (some 144) (v := ?_) rfl rfl (by kernel_rfl) (by kernel_rfl) (by kernel_rfl) (fun _ _ _ h => h) (Or.inl ⟨by rfl, ?_⟩) (by assumption) ?_
              rotate_left 1
              · intro w hSw; (try dsimp only at hSw); go_simp; all_goals with_reducible rfl
              try simp only [Act.put, List.setIfInBounds_toArray, List.set_cons_zero, List.set_cons_succ]
              refine takeO 3 (some 145) (v := ?_) rfl rfl (by kernel_rfl) (by kernel_rfl) (by kernel_rfl) (fun _ _ _ h => h) (Or.inl ⟨by rfl, ?_⟩) (by assumption) ?_
              rotate_left 1
              · intro w hSw; (try dsimp only at hSw); go_simp; all_goals with_reducible rfl
              try simp only [Act.put, List.setIfInBounds_toArray, List.set_cons_zero, List.set_cons_succ]
              refine takeO 4 (some 146) (v := ?_) rfl rfl (by kernel_rfl) (by kernel_rfl) (by kernel_rfl) (fun _ _ _ h => h) (Or.inl ⟨by rfl, ?_⟩) (by assumption) ?_
              rotate_left 1
              · intro w hSw; (try dsimp only at hSw); go_simp; all_goals with_reducible rfl
              try simp only [Act.put, List.setIfInBounds_toArray, List.set_cons_zero, List.set_cons_succ]
              refine wpAnyH_ready (rs := [5]) (by kernel_rfl) (by simp) ?_
              refine AllReadyH.cons rfl (fun K hK => ?_) AllReadyH.nil
              go_simp
              refine HLEN.out.mono ?_; rintro e v2 ⟨rfl, hb⟩; clear HLEN; have HF2 := Lib.hid (HFD.out.below hb); have HXY2 := Lib.hid (And.intro ((hb.cell (p := ⟨w.heap.size, 1, none⟩) (cell?_lt HXY.out.1)).trans HXY.out.1) ((hb.cell (p := ⟨w.heap.size + 1, 0, none⟩) (cell?_lt HXY.out.2)).trans HXY.out.2)); have HB2 := Lib.hid (HB1.out.drew.trans (hb.mono HB1.out.size)); clear hb
              go_wp2_with fail
              refine hK.out _ _ (by first | exact HXY.out | exact HXY2.out) (fun hHeld => ?_)
              clear hK K
              try simp only [Act.put, List.setIfInBounds_toArray, List.set_cons_zero, List.set_cons_succ]
              refine wpAnyH_ready (rs := [6]) (by kernel_rfl) (by simp) ?_
              refine AllReadyH.cons rfl (fun K hK => ?_) AllReadyH.nil
              go_simp
              refine (HLEA.out v2 HF2.out.bel).mono ?_; rintro e w' ⟨rfl, rfl⟩; clear HLEA
              go_wp2_with fail
              refine hK.out _ _ (by first | exact HXY.out | exact HXY2.out) (fun hHeld => ?_)
              clear hK K
              try simp only [Act.put, List.setIfInBounds_toArray, List.set_cons_zero, List.set_cons_succ]
              refine takeO 7 (some 24) (v := ?_) rfl rfl (by kernel_rfl) (by kernel_rfl) (by kernel_rfl) (fun _ _ _ h => h) (Or.inl ⟨by rfl, ?_⟩) (by assumption) ?_
              rotate_left 1
              · intro w hSw; (try dsimp only at hSw); go_simp; all_goals with_reducible rfl
              try simp only [Act.put, List.setIfInBounds_toArray, List.set_cons_zero, List.set_cons_succ]
              refine wpAnyH_done (by kernel_rfl) ?_ _
              clear hHeld HXY HXY2 HFD HF1 HB1
              skip
              have HLQ := Lib.hid (show leastQ S3.c q k (s : Nat) = if k < ls then -1 else ls from by unfold leastQ; rw [HSC.out.1, HCU.out, HTL.out, HLS.out])
              have y1 : v2.cell? ⟨w.heap.size + 1, 1, none⟩ = some (.int .i64 k) := HF2.out.cell (e := 40) (cs := [.string q, .int .i64 k, .int .i64 n]) (by simp) 1
              by_cases hA : ls < 0
              · skip
                have hnil : fstL S3 q k s = [] := by unfold fstL; rw [if_neg (by rw [HLQ.out]; split <;> omega)]
                have HN := Lib.hid (show ((List.range (s + 1)).flatMap (fstL S3 q k)).length = at_ from by rw [flat_succ, hnil, List.append_nil]; exact HAT.out)
                clear hnil
                go_wp2_with fail
                go_roundw
                case rel => first | exact ⟨s + 1, by omega, by go_num, by rw [HN.out], HB2.out⟩ | ((repeat apply Exists.intro); exact ⟨⟨s + 1, by omega, by go_num, by rw [HN.out], HB2.out⟩, rfl⟩)
                case measure => simp [intOf]; omega
              by_cases hB : k < ls
              · skip
                have hnil : fstL S3 q k s = [] := by unfold fstL; rw [if_neg (by rw [HLQ.out, if_pos hB]; omega)]
                have HN := Lib.hid (show ((List.range (s + 1)).flatMap (fstL S3 q k)).length = at_ from by rw [flat_succ, hnil, List.append_nil]; exact HAT.out)
                clear hnil
                go_wp2_with fail
                go_roundw
                case rel => first | exact ⟨s + 1, by omega, by go_num, by rw [HN.out], HB2.out⟩ | ((repeat apply Exists.intro); exact ⟨⟨s + 1, by omega, by go_num, by rw [HN.out], HB2.out⟩, rfl⟩)
                case measure => simp [intOf]; omega
              have HFST := Lib.hid (show fstL S3 q k s = S3.askL 1 s (max (S3.firstL s) 0) from by unfold fstL; rw [if_pos (by rw [HLQ.out, if_neg hB]; omega)])
              have x0 : v2.cell? ⟨w.heap.size, 0, none⟩ = some (.slice c.aw c.nw c.cw) := HF2.out.cell (e := 25) (cs := [.slice c.aw c.nw c.cw, .slice c.ac c.nc c.cc, .int .i64 c.wk, .int .i64 c.cp, .int .i64 c.sl, .int .i64 c.ba, .int .i64 c.le, .int .i64 c.he, .int .i64 c.fi, .int .i64 c.ca, .int .i64 c.ji, .int .i64 c.ne]) (by simp) 0
              have x1 : v2.cell? ⟨w.heap.size, 1, none⟩ = some (.slice c.ac c.nc c.cc) := HF2.out.cell (e := 25) (cs := [.slice c.aw c.nw c.cw, .slice c.ac c.nc c.cc, .int .i64 c.wk, .int .i64 c.cp, .int .i64 c.sl, .int .i64 c.ba, .int .i64 c.le, .int .i64 c.he, .int .i64 c.fi, .int .i64 c.ca, .int .i64 c.ji, .int .i64 c.ne]) (by simp) 1
              have x2 : v2.cell? ⟨w.heap.size, 2, none⟩ = some (.int .i64 c.wk) := HF2.out.cell (e := 25) (cs := [.slice c.aw c.nw c.cw, .slice c.ac c.nc c.cc, .int .i64 c.wk, .int .i64 c.cp, .int .i64 c.sl, .int .i64 c.ba, .int .i64 c.le, .int .i64 c.he, .int .i64 c.fi, .int .i64 c.ca, .int .i64 c.ji, .int .i64 c.ne]) (by simp) 2
              have x3 : v2.cell? ⟨w.heap.size, 3, none⟩ = some (.int .i64 c.cp) := HF2.out.cell (e := 25) (cs := [.slice c.aw c.nw c.cw, .slice c.ac c.nc c.cc, .int .i64 c.wk, .int .i64 c.cp, .int .i64 c.sl, .int .i64 c.ba, .int .i64 c.le, .int .i64 c.he, .int .i64 c.fi, .int .i64 c.ca, .int .i64 c.ji, .int .i64 c.ne]) (by simp) 3
              have x4 : v2.cell? ⟨w.heap.size, 4, none⟩ = some (.int .i64 c.sl) := HF2.out.cell (e := 25) (cs := [.slice c.aw c.nw c.cw, .slice c.ac c.nc c.cc, .int .i64 c.wk, .int .i64 c.cp, .int .i64 c.sl, .int .i64 c.ba, .int .i64 c.le, .int .i64 c.he, .int .i64 c.fi, .int .i64 c.ca, .int .i64 c.ji, .int .i64 c.ne]) (by simp) 4
              have x5 : v2.cell? ⟨w.heap.size, 5, none⟩ = some (.int .i64 c.ba) := HF2.out.cell (e := 25) (cs := [.slice c.aw c.nw c.cw, .slice c.ac c.nc c.cc, .int .i64 c.wk, .int .i64 c.cp, .int .i64 c.sl, .int .i64 c.ba, .int .i64 c.le, .int .i64 c.he, .int .i64 c.fi, .int .i64 c.ca, .int .i64 c.ji, .int .i64 c.ne]) (by simp) 5
              have x6 : v2.cell? ⟨w.heap.size, 6, none⟩ = some (.int .i64 c.le) := HF2.out.cell (e := 25) (cs := [.slice c.aw c.nw c.cw, .slice c.ac c.nc c.cc, .int .i64 c.wk, .int .i64 c.cp, .int .i64 c.sl, .int .i64 c.ba, .int .i64 c.le, .int .i64 c.he, .int .i64 c.fi, .int .i64 c.ca, .int .i64 c.ji, .int .i64 c.ne]) (by simp) 6
              have x7 : v2.cell? ⟨w.heap.size, 7, none⟩ = some (.int .i64 c.he) := HF2.out.cell (e := 25) (cs := [.slice c.aw c.nw c.cw, .slice c.ac c.nc c.cc, .int .i64 c.wk, .int .i64 c.cp, .int .i64 c.sl, .int .i64 c.ba, .int .i64 c.le, .int .i64 c.he, .int .i64 c.fi, .int .i64 c.ca, .int .i64 c.ji, .int .i64 c.ne]) (by simp) 7
              have x8 : v2.cell? ⟨w.heap.size, 8, none⟩ = some (.int .i64 c.fi) := HF2.out.cell (e := 25) (cs := [.slice c.aw c.nw c.cw, .slice c.ac c.nc c.cc, .int .i64 c.wk, .int .i64 c.cp, .int .i64 c.sl, .int .i64 c.ba, .int .i64 c.le, .int .i64 c.he, .int .i64 c.fi, .int .i64 c.ca, .int .i64 c.ji, .int .i64 c.ne]) (by simp) 8
              have x9 : v2.cell? ⟨w.heap.size, 9, none⟩ = some (.int .i64 c.ca) := HF2.out.cell (e := 25) (cs := [.slice c.aw c.nw c.cw, .slice c.ac c.nc c.cc, .int .i64 c.wk, .int .i64 c.cp, .int .i64 c.sl, .int .i64 c.ba, .int .i64 c.le, .int .i64 c.he, .int .i64 c.fi, .int .i64 c.ca, .int .i64 c.ji, .int .i64 c.ne]) (by simp) 9
              have x10 : v2.cell? ⟨w.heap.size, 10, none⟩ = some (.int .i64 c.ji) := HF2.out.cell (e := 25) (cs := [.slice c.aw c.nw c.cw, .slice c.ac c.nc c.cc, .int .i64 c.wk, .int .i64 c.cp, .int .i64 c.sl, .int .i64 c.ba, .int .i64 c.le, .int .i64 c.he, .int .i64 c.fi, .int .i64 c.ca, .int .i64 c.ji, .int .i64 c.ne]) (by simp) 10
              have x11 : v2.cell? ⟨w.heap.size, 11, none⟩ = some (.int .i64 c.ne) := HF2.out.cell (e := 25) (cs := [.slice c.aw c.nw c.cw, .slice c.ac c.nc c.cc, .int .i64 c.wk, .int .i64 c.cp, .int .i64 c.sl, .int .i64 c.ba, .int .i64 c.le, .int .i64 c.he, .int .i64 c.fi, .int .i64 c.ca, .int .i64 c.ji, .int .i64 c.ne]) (by simp) 11
              obtain ⟨cp, hcpn⟩ : ∃ cp : Nat, c.cp = (cp : Int) := ⟨c.cp.toNat, by have := HMO.out.2.2.2.1; omega⟩
              have hcp3 : 1 ≤ cp ∧ cp ≤ 3 := by have := HMO.out; omega
              have HCPN := Lib.hid hcpn
              have hcc : copiesC c (s : Nat) = copN c s := by rw [copiesC_yes (by unfold inB; rw [← HSH.out]; simp; omega)]; rfl
              have hcy := copies_any c (s : Nat) v2 (HCF.out.below HF2.out.bel rfl)
              rw [hcc] at hcy
              unfold CfgM.val at hcy
              have HCY := Lib.hid hcy
              clear hcy hcc hcpn
              go_wp2_with fail
              clear y1 x0 x1 x2 x3 x4 x5 x6 x7 x8 x9 x10 x11
              refine HCY.out.mono ?_
              clear HCY
              rintro e v3 ⟨ka, kn, kc, rfl, hrd, hb3⟩
              have HF3 := Lib.hid (HF2.out.below hb3)
              have HB3' := Lib.hid (HB2.out.trans (hb3.mono HB2.out.size))
              have hkn : kn = cp := by have := hrd.1; unfold ints copN at this; rw [List.length_map, List.length_map, List.length_range, HCPN.out, Int.toNat_natCast] at this; omega
              subst hkn
              have hcw : S.c.wk = c.wk := by rw [HCW.out, HWK.out]
              have hget : ∀ j, j < kn → (ints (copN c s))[j]? = some (.int .i64 ((copW S.c s j : Nat) : Int)) := fun j hj => by unfold ints; rw [List.getElem?_map, copN_at (by rw [HCPN.out]; omega), copW_eq (by rw [HCW.out]; omega), hcw]; rfl
              obtain ⟨kb, ko, hka, hkb, hk0⟩ := hrd.2.2.2.2 0 (by omega)
              subst hka
              have HGET := Lib.hid (show ∀ (j : Nat) (V : World), j < kn → Below v3.heap.size v3 V → V.cell? ⟨kb, ko + j, none⟩ = some (.int .i64 ((copW S.c s j : Nat) : Int)) from fun j V hj hV => by
                obtain ⟨b', o', e', hb', hc'⟩ := hrd.2.2.2.2 j hj
                cases e'
                rw [hget j hj] at hc'
                exact (hV.cell (p := ⟨kb, ko + j, none⟩) hb').trans hc')
              have k0 : v3.cell? ⟨kb, ko, none⟩ = some (.int .i64 ((copW S.c s 0 : Nat) : Int)) := HGET.out 0 v3 (by omega) (Below.refl _ _)
              have HCB := Lib.hid (show ∀ j, 1 ≤ copW S.c s j ∧ copW S.c s j ≤ wk from fun j => by have h1 := cop_bd (c := S.c) (by rw [HCW.out]; omega) s j; have h2 := copW_eq (c := S.c) (by rw [HCW.out]; omega) s j; have h3 := HCW.out; omega)
              obtain ⟨cw, hcwf⟩ : ∃ f : Nat → Nat, copW S.c s = f := ⟨_, rfl⟩
              rw [hcwf] at HGET k0 HCB
              have HCWF := Lib.hid hcwf
              have HLV := Lib.hid (show ∀ j, j < kn → S.liveJ s j = decide (0 ≤ lastF l (cw j) ∧ S.now ≤ lastF l (cw j) + S.c.le) from fun j hj => by rw [liveJ_eq HL.out.1 (by rw [HCW.out]; omega) (by rw [HCP.out, HCPN.out]; omega), hcwf])
              clear hrd hb3 hkb hk0 hget hcw hcwf
              go_wp2_with fail
              clear k0
              go_loopw [26, 27] (fun v26 v27 wr => FjR v3 (S.liveJ s) cw kn v26 v27 wr) (fun _ v _ => (intOf v + 1).toNat)
              case atStart => exact ⟨kn, Nat.le_refl _, rfl, by rw [fromJ_end], Below.refl _ _⟩
              case round =>
                obtain ⟨j, hj, rfl, rfl, HBJ⟩ := hrel
                skip
                by_cases hj0 : j = 0
                rotate_left 1
                · obtain ⟨i, rfl⟩ : ∃ i, j = i + 1 := ⟨j - 1, by omega⟩
                  have eji : ((i + 1 : Nat) : Int) - 1 = (i : Int) := by omega
                  rw [eji]
                  have e2 : (0 : Int) ≤ (i : Int) := by omega
                  have e3 : (i : Int) < (kn : Int) := by omega
                  have HBD := Lib.hid HBJ.out.drew
                  have HFJ := Lib.hid (HF3.out.below HBD.out)
                  obtain ⟨ci, hci⟩ : ∃ n, cw i = n := ⟨_, rfl⟩
                  have hcb := HCB.out i
                  rw [hci] at hcb
                  have kc' := HGET.out i wr.drew (by omega) HBD.out
                  rw [hci] at kc'
                  obtain ⟨lv, hlv⟩ : ∃ x, lastF l ci = x := ⟨_, rfl⟩
                  have cl : wr.drew.cell? ⟨lb, ci, none⟩ = some (.int .i64 lv) := by have e := HFJ.out.cell (e := 41) (cs := ints l) (b := lb) (by simp) ci; rw [e, ← hlv]; unfold ints lastF; rw [List.getElem?_map, List.getD_eq_getElem?_getD, List.getElem?_eq_getElem (by rw [HL0.out]; omega)]; rfl
                  have x6 : wr.drew.cell? ⟨w.heap.size, 6, none⟩ = some (.int .i64 c.le) := HFJ.out.cell (e := 25) (cs := [.slice c.aw c.nw c.cw, .slice c.ac c.nc c.cc, .int .i64 c.wk, .int .i64 c.cp, .int .i64 c.sl, .int .i64 c.ba, .int .i64 c.le, .int .i64 c.he, .int .i64 c.fi, .int .i64 c.ca, .int .i64 c.ji, .int .i64 c.ne]) (by simp) 6
                  have HKC := Lib.hid (And.intro kc' (And.intro cl x6))
                  have hnw := now_any wr.drew HFJ.out.cw
                  have hnow : S4.now = S.now := by rw [HLK.out.now, HSC.out.2.1]
                  rw [hnow] at hnw
                  obtain ⟨nw, hnwv⟩ : ∃ x, S.now = x := ⟨_, rfl⟩
                  rw [hnwv] at hnw
                  have HNW := Lib.hid hnw
                  have hpi := HLV.out i (by omega)
                  rw [hci, hlv, hnwv, HCE.out] at hpi
                  have hstep := fromJ_step (P := S.liveJ s) (n := kn) (j := i) (by omega)
                  have HPI := Lib.hid hpi
                  have HSTEP := Lib.hid hstep
                  have HCI := Lib.hid hci
                  have hlb := le_of HM.out
                  have hlvb : lv ≤ 1000 := by have h1 := HL.out.1.each ci (by omega) (by rw [HCW.out]; omega); have h2 := HL.out.1.now; rw [hlv] at h1; rcases h1 with h1 | h1 <;> omega
                  have hlvb2 : -1 ≤ lv := by have h1 := HL.out.1.each ci (by omega) (by rw [HCW.out]; omega); rw [hlv] at h1; rcases h1 with h1 | h1 <;> omega
                  have ewl : IntKind.i64.wrap (lv + c.le) = lv + c.le := wr_in _ (by omega) (by omega)
                  have e4 : (ci : Int) < 6 := by omega
                  have e5 : (0 : Int) ≤ (ci : Int) := by omega
                  clear kc' cl x6 hnw hnow hpi hstep hci hlv hnwv hlb hlvb hlvb2 hcb eji
                  go_upto_region 39 with fail
                  by_cases hl0 : 0 ≤ lv
                  · skip
                    refine wp_region_held_drew (S := (fun w' => w'.cell? ⟨kb, ko + i, none⟩ = some (.int .i64 (ci : Nat)) ∧ w'.cell? ⟨lb, ci, none⟩ = some (.int .i64 lv) ∧ w'.cell? ⟨w.heap.size, 6, none⟩ = some (.int .i64 c.le))) (by kernel_rfl) (by exact HKC.out) (fun hHeld => ?_)
                    refine takeO 0 (some 170) (v := ?_) rfl rfl (by kernel_rfl) (by kernel_rfl) (by kernel_rfl) (fun _ _ _ h => h) (Or.inl ⟨by rfl, ?_⟩) (by assumption) ?_
                    rotate_left 1
                    · intro w hSw; (try dsimp only at hSw); go_simp; all_goals with_reducible rfl
                    try simp only [Act.put, List.setIfInBounds_toArray, List.set_cons_zero, List.set_cons_succ]
                    refine takeO 1 (some 171) (v := ?_) rfl rfl (by kernel_rfl) (by kernel_rfl) (by kernel_rfl) (fun _ _ _ h => h) (Or.inl ⟨by rfl, ?_⟩) (by assumption) ?_
                    rotate_left 1
                    · intro w hSw; (try dsimp only at hSw); go_simp; all_goals with_reducible rfl
                    try simp only [Act.put, List.setIfInBounds_toArray, List.set_cons_zero, List.set_cons_succ]
                    refine takeO 2 (some 172) (v := ?_) rfl rfl (by kernel_rfl) (by kernel_rfl) (by kernel_rfl) (fun _ _ _ h => h) (Or.inl ⟨by rfl, ?_⟩) (by assumption) ?_
                    rotate_left 1
                    · intro w hSw; (try dsimp only at hSw); go_simp; all_goals with_reducible rfl
                    try simp only [Act.put, List.setIfInBounds_toArray, List.set_cons_zero, List.set_cons_succ]
                    refine takeO 3 (some 173) (v := ?_) rfl rfl (by kernel_rfl) (by kernel_rfl) (by kernel_rfl) (fun _ _ _ h => h) (Or.inl ⟨by rfl, ?_⟩) (by assumption) ?_
                    rotate_left 1
                    · intro w hSw; (try dsimp only at hSw); go_simp; all_goals with_reducible rfl
                    try simp only [Act.put, List.setIfInBounds_toArray, List.set_cons_zero, List.set_cons_succ]
                    refine takeO 4 (some 174) (v := ?_) rfl rfl (by kernel_rfl) (by kernel_rfl) (by kernel_rfl) (fun _ _ _ h => h) (Or.inl ⟨by rfl, ?_⟩) (by assumption) ?_
                    rotate_left 1
                    · intro w hSw; (try dsimp only at hSw); go_simp; all_goals with_reducible rfl
                    try simp only [Act.put, List.setIfInBounds_toArray, List.set_cons_zero, List.set_cons_succ]
                    refine takeO 5 (some 175) (v := ?_) rfl rfl (by kernel_rfl) (by kernel_rfl) (by kernel_rfl) (fun _ _ _ h => h) (Or.inl ⟨by rfl, ?_⟩) (by assumption) ?_
                    rotate_left 1
                    · intro w hSw; (try dsimp only at hSw); go_simp; all_goals with_reducible rfl
                    try simp only [Act.put, List.setIfInBounds_toArray, List.set_cons_zero, List.set_cons_succ]
                    refine takeO 6 (some 176) (v := ?_) rfl rfl (by kernel_rfl) (by kernel_rfl) (by kernel_rfl) (fun _ _ _ h => h) (Or.inl ⟨by rfl, ?_⟩) (by assumption) ?_
                    rotate_left 1
                    · intro w hSw; (try dsimp only at hSw); go_simp; all_goals with_reducible rfl
                    try simp only [Act.put, List.setIfInBounds_toArray, List.set_cons_zero, List.set_cons_succ]
                    refine takeO 7 (some 177) (v := ?_) rfl rfl (by kernel_rfl) (by kernel_rfl) (by kernel_rfl) (fun _ _ _ h => h) (Or.inl ⟨by rfl, ?_⟩) (by assumption) ?_
                    rotate_left 1
                    · intro w hSw; (try dsimp only at hSw); go_simp; all_goals with_reducible rfl
                    try simp only [Act.put, List.setIfInBounds_toArray, List.set_cons_zero, List.set_cons_succ]
                    refine takeO 8 (some 178) (v := ?_) rfl rfl (by kernel_rfl) (by kernel_rfl) (by kernel_rfl) (fun _ _ _ h => h) (Or.inl ⟨by rfl, ?_⟩) (by assumption) ?_
                    rotate_left 1
                    · intro w hSw; (try dsimp only at hSw); go_simp; all_goals with_reducible rfl
                    try simp only [Act.put, List.setIfInBounds_toArray, List.set_cons_zero, List.set_cons_succ]
                    refine takeO 10 (some 180) (v := ?_) rfl rfl (by kernel_rfl) (by kernel_rfl) (by kernel_rfl) (fun _ _ _ h => h) (Or.inl ⟨by rfl, ?_⟩) (by assumption) ?_
                    rotate_left 1
                    · intro w hSw; (try dsimp only at hSw); go_simp; all_goals with_reducible rfl
                    try simp only [Act.put, List.setIfInBounds_toArray, List.set_cons_zero, List.set_cons_succ]
                    refine takeO 11 (some 181) (v := ?_) rfl rfl (by kernel_rfl) (by kernel_rfl) (by kernel_rfl) (fun _ _ _ h => h) (Or.inl ⟨by rfl, ?_⟩) (by assumption) ?_
                    rotate_left 1
                    · intro w hSw; (try dsimp only at hSw); go_simp; all_goals with_reducible rfl
                    try simp only [Act.put, List.setIfInBounds_toArray, List.set_cons_zero, List.set_cons_succ]
                    refine takeO 12 (some 182) (v := ?_) rfl rfl (by kernel_rfl) (by kernel_rfl) (by kernel_rfl) (fun _ _ _ h => h) (Or.inl ⟨by rfl, ?_⟩) (by assumption) ?_
                    rotate_left 1
                    · intro w hSw; (try dsimp only at hSw); go_simp; all_goals with_reducible rfl
                    try simp only [Act.put, List.setIfInBounds_toArray, List.set_cons_zero, List.set_cons_succ]
                    refine takeO 13 (some 183) (v := ?_) rfl rfl (by kernel_rfl) (by kernel_rfl) (by kernel_rfl) (fun _ _ _ h => h) (Or.inl ⟨by rfl, ?_⟩) (by assumption) ?_
                    rotate_left 1
                    · intro w hSw; (try dsimp only at hSw); go_simp; all_goals with_reducible rfl
                    try simp only [Act.put, List.setIfInBounds_toArray, List.set_cons_zero, List.set_cons_succ]
                    refine takeO 14 (some 184) (v := ?_) rfl rfl (by kernel_rfl) (by kernel_rfl) (by kernel_rfl) (fun _ _ _ h => h) (Or.inl ⟨by rfl, ?_⟩) (by assumption) ?_
                    rotate_left 1
                    · intro w hSw; (try dsimp only at hSw); go_simp; all_goals with_reducible rfl
                    try simp only [Act.put, List.setIfInBounds_toArray, List.set_cons_zero, List.set_cons_succ]
                    refine takeO 15 (some 185) (v := ?_) rfl rfl (by kernel_rfl) (by kernel_rfl) (by kernel_rfl) (fun _ _ _ h => h) (Or.inl ⟨by rfl, ?_⟩) (by assumption) ?_
                    rotate_left 1
                    · intro w hSw; (try dsimp only at hSw); go_simp; all_goals with_reducible rfl
                    try simp only [Act.put, List.setIfInBounds_toArray, List.set_cons_zero, List.set_cons_succ]
                    refine takeO 16 (some 186) (v := ?_) rfl rfl (by kernel_rfl) (by kernel_rfl) (by kernel_rfl) (fun _ _ _ h => h) (Or.inl ⟨by rfl, ?_⟩) (by assumption) ?_
                    rotate_left 1
                    · intro w hSw; (try dsimp only at hSw); go_simp; all_goals with_reducible rfl
                    try simp only [Act.put, List.setIfInBounds_toArray, List.set_cons_zero, List.set_cons_succ]
                    refine takeO 17 (some 187) (v := ?_) rfl rfl (by kernel_rfl) (by kernel_rfl) (by kernel_rfl) (fun _ _ _ h => h) (Or.inl ⟨by rfl, ?_⟩) (by assumption) ?_
                    rotate_left 1
                    · intro w hSw; (try dsimp only at hSw); go_simp; all_goals with_reducible rfl
                    try simp only [Act.put, List.setIfInBounds_toArray, List.set_cons_zero, List.set_cons_succ]
                    refine takeO 18 (some 188) (v := ?_) rfl rfl (by kernel_rfl) (by kernel_rfl) (by kernel_rfl) (fun _ _ _ h => h) (Or.inl ⟨by rfl, ?_⟩) (by assumption) ?_
                    rotate_left 1
                    · intro w hSw; (try dsimp only at hSw); go_simp; all_goals with_reducible rfl
                    try simp only [Act.put, List.setIfInBounds_toArray, List.set_cons_zero, List.set_cons_succ]
                    refine wpAnyH_ready (rs := [9]) (by kernel_rfl) (by simp) ?_
                    refine AllReadyH.cons rfl (fun K hK => ?_) AllReadyH.nil
                    go_simp
                    refine HNW.out.mono ?_; rintro e w' ⟨rfl, rfl⟩
                    go_wp2_with fail
                    refine hK.out _ _ (by exact HKC.out) (fun hHeld => ?_)
                    clear hK K
                    try simp only [Act.put, List.setIfInBounds_toArray, List.set_cons_zero, List.set_cons_succ]
                    refine takeO 19 (some 189) (v := ?_) rfl rfl (by kernel_rfl) (by kernel_rfl) (by kernel_rfl) (fun _ _ _ h => h) (Or.inl ⟨by rfl, ?_⟩) (by assumption) ?_
                    rotate_left 1
                    · intro w hSw; (try dsimp only at hSw); go_simp; all_goals with_reducible rfl
                    try simp only [Act.put, List.setIfInBounds_toArray, List.set_cons_zero, List.set_cons_succ]
                    refine takeO 20 (some 190) (v := ?_) rfl rfl (by kernel_rfl) (by kernel_rfl) (by kernel_rfl) (fun _ _ _ h => h) (Or.inl ⟨by rfl, ?_⟩) (by assumption) ?_
                    rotate_left 1
                    · intro w hSw; (try dsimp only at hSw); go_simp; all_goals with_reducible rfl
                    try simp only [Act.put, List.setIfInBounds_toArray, List.set_cons_zero, List.set_cons_succ]
                    refine wpAnyH_done (by kernel_rfl) ?_ _
                    clear hHeld
                    by_cases hlv2 : nw ≤ lv + c.le
                    · have kc2 := HKC.out.1
                      have HQ := Lib.hid (show fromJ (S.liveJ s) kn i = i from by rw [HSTEP.out, if_pos (by rw [HPI.out]; simp [hl0, hlv2])])
                      go_wp2_with fail
                      go_roundw
                      case rel => first | exact ⟨i, by omega, by go_num, by rw [HQ.out, HCI.out], HBD.out⟩ | ((repeat apply Exists.intro); exact ⟨⟨i, by omega, by go_num, by rw [HQ.out, HCI.out], HBD.out⟩, rfl⟩)
                      case measure => first | (simp [intOf]; done) | (simp [intOf]; omega)
                    · have HQ := Lib.hid (show fromJ (S.liveJ s) kn i = fromJ (S.liveJ s) kn (i + 1) from by rw [HSTEP.out, if_neg (by rw [HPI.out]; simp; omega)])
                      go_wp2_with fail
                      go_roundw
                      case rel => first | exact ⟨i, by omega, by go_num, by rw [HQ.out], HBD.out⟩ | ((repeat apply Exists.intro); exact ⟨⟨i, by omega, by go_num, by rw [HQ.out], HBD.out⟩, rfl⟩)
                      case measure => first | (simp [intOf]; done) | (simp [intOf]; omega)
                  · skip
                    refine wp_region_held_drew (S := (fun w' => w'.cell? ⟨kb, ko + i, none⟩ = some (.int .i64 (ci : Nat)) ∧ w'.cell? ⟨lb, ci, none⟩ = some (.int .i64 lv) ∧ w'.cell? ⟨w.heap.size, 6, none⟩ = some (.int .i64 c.le))) (by kernel_rfl) (by exact HKC.out) (fun hHeld => ?_)
                    refine takeO 0 (some 170) (v := ?_) rfl rfl (by kernel_rfl) (by kernel_rfl) (by kernel_rfl) (fun _ _ _ h => h) (Or.inl ⟨by rfl, ?_⟩) (by assumption) ?_
                    rotate_left 1
                    · intro w hSw; (try dsimp only at hSw); go_simp; all_goals with_reducible rfl
                    try simp only [Act.put, List.setIfInBounds_toArray, List.set_cons_zero, List.set_cons_succ]
                    refine takeO 1 (some 171) (v := ?_) rfl rfl (by kernel_rfl) (by kernel_rfl) (by kernel_rfl) (fun _ _ _ h => h) (Or.inl ⟨by rfl, ?_⟩) (by assumption) ?_
                    rotate_left 1
                    · intro w hSw; (try dsimp only at hSw); go_simp; all_goals with_reducible rfl
                    try simp only [Act.put, List.setIfInBounds_toArray, List.set_cons_zero, List.set_cons_succ]
                    refine takeO 2 (some 172) (v := ?_) rfl rfl (by kernel_rfl) (by kernel_rfl) (by kernel_rfl) (fun _ _ _ h => h) (Or.inl ⟨by rfl, ?_⟩) (by assumption) ?_
                    rotate_left 1
                    · intro w hSw; (try dsimp only at hSw); go_simp; all_goals with_reducible rfl
                    try simp only [Act.put, List.setIfInBounds_toArray, List.set_cons_zero, List.set_cons_succ]
                    refine takeO 3 (some 173) (v := ?_) rfl rfl (by kernel_rfl) (by kernel_rfl) (by kernel_rfl) (fun _ _ _ h => h) (Or.inl ⟨by rfl, ?_⟩) (by assumption) ?_
                    rotate_left 1
                    · intro w hSw; (try dsimp only at hSw); go_simp; all_goals with_reducible rfl
                    try simp only [Act.put, List.setIfInBounds_toArray, List.set_cons_zero, List.set_cons_succ]
                    refine takeO 4 (some 174) (v := ?_) rfl rfl (by kernel_rfl) (by kernel_rfl) (by kernel_rfl) (fun _ _ _ h => h) (Or.inl ⟨by rfl, ?_⟩) (by assumption) ?_
                    rotate_left 1
                    · intro w hSw; (try dsimp only at hSw); go_simp; all_goals with_reducible rfl
                    try simp only [Act.put, List.setIfInBounds_toArray, List.set_cons_zero, List.set_cons_succ]
                    refine takeO 5 (some 175) (v := ?_) rfl rfl (by kernel_rfl) (by kernel_rfl) (by kernel_rfl) (fun _ _ _ h => h) (Or.inl ⟨by rfl, ?_⟩) (by assumption) ?_
                    rotate_left 1
                    · intro w hSw; (try dsimp only at hSw); go_simp; all_goals with_reducible rfl
                    try simp only [Act.put, List.setIfInBounds_toArray, List.set_cons_zero, List.set_cons_succ]
                    refine takeO 6 (some 176) (v := ?_) rfl rfl (by kernel_rfl) (by kernel_rfl) (by kernel_rfl) (fun _ _ _ h => h) (Or.inl ⟨by rfl, ?_⟩) (by assumption) ?_
                    rotate_left 1
                    · intro w hSw; (try dsimp only at hSw); go_simp; all_goals with_reducible rfl
                    try simp only [Act.put, List.setIfInBounds_toArray, List.set_cons_zero, List.set_cons_succ]
                    refine takeO 7 (some 177) (v := ?_) rfl rfl (by kernel_rfl) (by kernel_rfl) (by kernel_rfl) (fun _ _ _ h => h) (Or.inl ⟨by rfl, ?_⟩) (by assumption) ?_
                    rotate_left 1
                    · intro w hSw; (try dsimp only at hSw); go_simp; all_goals with_reducible rfl
                    try simp only [Act.put, List.setIfInBounds_toArray, List.set_cons_zero, List.set_cons_succ]
                    refine takeO 8 (some 178) (v := undef) rfl rfl (by kernel_rfl) (by kernel_rfl) (by kernel_rfl) (fun _ _ _ h => h) (Or.inr ⟨by rfl, rfl⟩) (by assumption) ?_
                    try simp only [Act.put, List.setIfInBounds_toArray, List.set_cons_zero, List.set_cons_succ]
                    refine takeO 9 (some 179) (v := undef) rfl rfl (by kernel_rfl) (by kernel_rfl) (by kernel_rfl) (fun _ _ _ h => h) (Or.inr ⟨by rfl, rfl⟩) (by assumption) ?_
                    try simp only [Act.put, List.setIfInBounds_toArray, List.set_cons_zero, List.set_cons_succ]
                    refine takeO 10 (some 180) (v := undef) rfl rfl (by kernel_rfl) (by kernel_rfl) (by kernel_rfl) (fun _ _ _ h => h) (Or.inr ⟨by rfl, rfl⟩) (by assumption) ?_
                    try simp only [Act.put, List.setIfInBounds_toArray, List.set_cons_zero, List.set_cons_succ]
                    refine takeO 11 (some 181) (v := undef) rfl rfl (by kernel_rfl) (by kernel_rfl) (by kernel_rfl) (fun _ _ _ h => h) (Or.inr ⟨by rfl, rfl⟩) (by assumption) ?_
                    try simp only [Act.put, List.setIfInBounds_toArray, List.set_cons_zero, List.set_cons_succ]
                    refine takeO 12 (some 182) (v := undef) rfl rfl (by kernel_rfl) (by kernel_rfl) (by kernel_rfl) (fun _ _ _ h => h) (Or.inr ⟨by rfl, rfl⟩) (by assumption) ?_
                    try simp only [Act.put, List.setIfInBounds_toArray, List.set_cons_zero, List.set_cons_succ]
                    refine takeO 13 (some 183) (v := undef) rfl rfl (by kernel_rfl) (by kernel_rfl) (by kernel_rfl) (fun _ _ _ h => h) (Or.inr ⟨by rfl, rfl⟩) (by assumption) ?_
                    try simp only [Act.put, List.setIfInBounds_toArray, List.set_cons_zero, List.set_cons_succ]
                    refine takeO 14 (some 184) (v := undef) rfl rfl (by kernel_rfl) (by kernel_rfl) (by kernel_rfl) (fun _ _ _ h => h) (Or.inr ⟨by rfl, rfl⟩) (by assumption) ?_
                    try simp only [Act.put, List.setIfInBounds_toArray, List.set_cons_zero, List.set_cons_succ]
                    refine takeO 15 (some 185) (v := undef) rfl rfl (by kernel_rfl) (by kernel_rfl) (by kernel_rfl) (fun _ _ _ h => h) (Or.inr ⟨by rfl, rfl⟩) (by assumption) ?_
                    try simp only [Act.put, List.setIfInBounds_toArray, List.set_cons_zero, List.set_cons_succ]
                    refine takeO 16 (some 186) (v := undef) rfl rfl (by kernel_rfl) (by kernel_rfl) (by kernel_rfl) (fun _ _ _ h => h) (Or.inr ⟨by rfl, rfl⟩) (by assumption) ?_
                    try simp only [Act.put, List.setIfInBounds_toArray, List.set_cons_zero, List.set_cons_succ]
                    refine takeO 17 (some 187) (v := undef) rfl rfl (by kernel_rfl) (by kernel_rfl) (by kernel_rfl) (fun _ _ _ h => h) (Or.inr ⟨by rfl, rfl⟩) (by assumption) ?_
                    try simp only [Act.put, List.setIfInBounds_toArray, List.set_cons_zero, List.set_cons_succ]
                    refine takeO 18 (some 188) (v := undef) rfl rfl (by kernel_rfl) (by kernel_rfl) (by kernel_rfl) (fun _ _ _ h => h) (Or.inr ⟨by rfl, rfl⟩) (by assumption) ?_
                    try simp only [Act.put, List.setIfInBounds_toArray, List.set_cons_zero, List.set_cons_succ]
                    refine takeO 19 (some 189) (v := undef) rfl rfl (by kernel_rfl) (by kernel_rfl) (by kernel_rfl) (fun _ _ _ h => h) (Or.inr ⟨by rfl, rfl⟩) (by assumption) ?_
                    try simp only [Act.put, List.setIfInBounds_toArray, List.set_cons_zero, List.set_cons_succ]
                    refine takeO 20 (some 190) (v := ?_) rfl rfl (by kernel_rfl) (by kernel_rfl) (by kernel_rfl) (fun _ _ _ h => h) (Or.inl ⟨by rfl, ?_⟩) (by assumption) ?_
                    rotate_left 1
                    · intro w hSw; (try dsimp only at hSw); go_simp; all_goals with_reducible rfl
                    try simp only [Act.put, List.setIfInBounds_toArray, List.set_cons_zero, List.set_cons_succ]
                    refine wpAnyH_done (by kernel_rfl) ?_ _
                    clear hHeld
                    have HQ := Lib.hid (show fromJ (S.liveJ s) kn i = fromJ (S.liveJ s) kn (i + 1) from by rw [HSTEP.out, if_neg (by rw [HPI.out]; simp; omega)])
                    go_wp2_with fail
                    go_roundw
                    case rel => first | exact ⟨i, by omega, by go_num, by rw [HQ.out], HBD.out⟩ | ((repeat apply Exists.intro); exact ⟨⟨i, by omega, by go_num, by rw [HQ.out], HBD.out⟩, rfl⟩)
                    case measure => first | (simp [intOf]; done) | (simp [intOf]; omega)
                subst hj0
                skip
                have HFJ := Lib.hid (HF3.out.below HBJ.out)
                have HBT := Lib.hid (HB3'.out.trans (HBJ.out.mono HB3'.out.size))
                have hask := ask_to (S2 := S3) HL.out.1 (by rw [HCW.out]; omega) (by rw [HCP.out, HCPN.out]; omega) HSC.out.1 HSC.out.2.1 HSC.out.2.2 1 s
                have htw : toW S s = cw (fromJ (S.liveJ s) kn 0) := by unfold toW; rw [HCWF.out, HCP.out, HCPN.out, Int.toNat_natCast]
                rw [htw, ← HFST.out] at hask
                obtain ⟨tw, htwv⟩ : ∃ n, cw (fromJ (S.liveJ s) kn 0) = n := ⟨_, rfl⟩
                have hcb := HCB.out (fromJ (S.liveJ s) kn 0)
                rw [htwv] at hask hcb ⊢
                have HASK := Lib.hid hask
                obtain ⟨lv, hlv⟩ : ∃ x, lastF l tw = x := ⟨_, rfl⟩
                rw [hlv] at HASK
                have cl : wr.cell? ⟨lb, tw, none⟩ = some (.int .i64 lv) := by have e := HFJ.out.cell (e := 41) (cs := ints l) (b := lb) (by simp) tw; rw [e, ← hlv]; unfold ints lastF; rw [List.getElem?_map, List.getD_eq_getElem?_getD, List.getElem?_eq_getElem (by rw [HL0.out]; omega)]; rfl
                have e4 : (tw : Int) < 6 := by omega
                have e5 : (0 : Int) ≤ (tw : Int) := by omega
                clear hask htw htwv hcb hlv
                by_cases hl0 : lv < 0
                · have hnil : fstL S3 q k s = [] := HASK.out.1 hl0
                  have HN := Lib.hid (show ((List.range (s + 1)).flatMap (fstL S3 q k)).length = at_ from by rw [flat_succ, hnil, List.append_nil]; exact HAT.out)
                  clear hnil
                  go_wp2_with fail
                  go_roundw
                  case rel => first | exact ⟨s + 1, by omega, by go_num, by rw [HN.out], HBT.out⟩ | ((repeat apply Exists.intro); exact ⟨⟨s + 1, by omega, by go_num, by rw [HN.out], HBT.out⟩, rfl⟩)
                  case measure => simp [intOf]; omega
                obtain ⟨m9, hone⟩ := HASK.out.2 hl0
                have hat9 := flat_at hlt hone
                rw [HAT.out, ← HLE.out] at hat9
                have hln9 : at_ < nl := by have := (List.getElem?_eq_some_iff.1 hat9).1; rw [HNL.out] at this; exact this
                have HN := Lib.hid (show ((List.range (s + 1)).flatMap (fstL S3 q k)).length = at_ + 1 from by rw [flat_succ, hone, List.length_append, HAT.out]; rfl)
                have hro := HRO13.out.below HBT.out rfl
                obtain ⟨lbk, lof, hao, hlb9, hcel⟩ := hro.2.2.2.2 at_ _ hat9
                subst hao
                have ct : wr.cell? ⟨lbk, lof + at_ * 2, none⟩ = some (.int .i64 (tw : Nat)) := hcel 0 (by decide)
                have e10 : at_ + 1 ≤ 9223372036854775807 := by have h1 := HRO13.out.2.1; have h2 := HRO13.out.2.2.1; rw [HNL.out] at h1; unfold maxLen at h2; omega
                have e6 : (at_ : Int) < (nl : Int) := by omega
                have e7 : (0 : Int) ≤ (at_ : Int) := by omega
                have e8 : decide ((nl : Int) ≤ (at_ : Int)) = false := by simp; omega
                have e9 : decide (nl ≤ at_) = false := by simp; omega
                clear hone hat9 hro hlb9 hcel
                go_wp2_with fail
                go_roundw
                case rel => first | exact ⟨s + 1, by omega, by go_num, (by rw [HN.out]; first | go_num | rfl), HBT.out⟩ | ((repeat apply Exists.intro); exact ⟨⟨s + 1, by omega, by go_num, (by rw [HN.out]; first | go_num | rfl), HBT.out⟩, rfl⟩) | trace_state
                case measure => simp [intOf]; omega
            have hsn : s = ns := by omega
            have hatn : at_ = nl := by rw [← HAT.out, hsn, ← HLE.out, HNL.out]
            subst hatn
            go_wp2_with fail
            refine (awake24_any _).mono ?_
            rintro e wa ⟨rfl, hb⟩
            have HFE := Lib.hid (HF13.out.below (HB1.out.trans (hb.mono HB1.out.size)))
            clear hb
            go_wp2_with fail
            go_ret
            exact ⟨rfl, HFE.out.bel⟩
end
end Go.Proofs.YtinkbgeckjbnbaaGreat
namespace Go.Proofs.YtinkbgeckjbnbaaGreat
section
open Go.RowKit Go.ChangeShapes Go.WideShapes Go.Deep
set_option linter.unusedVariables false
section
variable {H : Type} {enc : TypeId × Value → H} {P : Program} {w : World} {base : Nat} {spare : Nat → Bool} {held : Bool}
set_option maxRecDepth 100000 in
theorem open_rd1 {α : Type} (en : α → Value) (good : α → Prop) (hinh : Nonempty α) {t e : TypeId} {d : DataW H} {p : List MemPlace} (ht : P.underlying t = some (.slice e)) (hc : P.cellsOf e = 1) {a : Option Addr} {len cap : Nat}
    (dec : ∀ v (n : Nat) (y : DataW H × List MemPlace), DataW.trod enc P w base spare held n e [v] = some y → ∃ x : α, good x ∧ v = en x)
    (h : DataW.Trod enc P w base spare held t (.slice a len cap) d p) : ∃ l : List α, Rd w a len cap (l.map en) ∧ ∀ x ∈ l, good x := by
  obtain ⟨fuel, hf⟩ := h
  rcases open_slice1 ht hc hf with ⟨hcs, _⟩ | ⟨ad, len', cap', m, n, V, D, Pl, hcs, _, hl, hm, hmm, _, hi⟩
  · simp [Value.cells] at hcs
    obtain ⟨rfl, rfl, rfl⟩ := hcs
    exact ⟨[], rd_nil _ _ rfl, by simp⟩
  · simp [Value.cells] at hcs
    obtain ⟨rfl, rfl, rfl⟩ := hcs
    have hlm : len ≤ m := by rw [hmm]; split <;> omega
    have hex' : ∀ i, ∃ x : α, i < len → good x ∧ w.cell? (ad.add i) = some (en x) := by
      intro i
      by_cases hil : i < len
      · obtain ⟨h1, h2⟩ := hi i (by omega)
        obtain ⟨x, hg, hx⟩ := dec _ _ _ h2
        exact ⟨x, fun _ => ⟨hg, by rw [h1, hx]⟩⟩
      · obtain ⟨x⟩ := hinh; exact ⟨x, fun h => absurd h hil⟩
    obtain ⟨g, hg⟩ := Classical.axiomOfChoice hex'
    refine ⟨(List.range len).map g, ⟨by simp, hl, hm, by simp, fun i hil => ?_⟩, fun x hx => ?_⟩
    · obtain ⟨b, off, spot⟩ := ad
      have hcell := (hg i hil).2
      have hc0 := (hg 0 (by omega)).2
      have hspot : spot = none := by simpa [Addr.add] using World.cell?_spot hc0
      subst hspot
      have hlt := cell?_lt hc0
      rw [Addr.add_lit] at hlt
      refine ⟨b, off, rfl, hlt, ?_⟩
      rw [Addr.add_lit] at hcell
      rw [hcell]; simp [hil]
    · simp only [List.mem_map, List.mem_range] at hx
      obtain ⟨i, hi', rfl⟩ := hx
      exact (hg i hi').1
set_option maxRecDepth 100000 in
theorem open_ints64 {t e : TypeId} {d : DataW H} {p : List MemPlace} (ht : P.underlying t = some (.slice e)) (he : P.underlying e = some (.int .i64)) (hc : P.cellsOf e = 1) {a : Option Addr} {len cap : Nat}
    (h : DataW.Trod enc P w base spare held t (.slice a len cap) d p) : ∃ l : List Int, Rd w a len cap (l.map (Value.int .i64)) ∧ ∀ n ∈ l, -9223372036854775808 ≤ n ∧ n ≤ 9223372036854775807 :=
  open_rd1 (Value.int .i64) _ ⟨0⟩ ht hc (fun v n y h => by
    obtain ⟨b, e0, _, g⟩ := DataW.trod_int he h
    simp at e0
    exact ⟨b, bounds_i64 g, e0⟩) h
set_option maxRecDepth 100000 in
theorem open_texts {t e : TypeId} {d : DataW H} {p : List MemPlace} (ht : P.underlying t = some (.slice e)) (he : P.underlying e = some .string) (hc : P.cellsOf e = 1) {a : Option Addr} {len cap : Nat}
    (h : DataW.Trod enc P w base spare held t (.slice a len cap) d p) : ∃ l : List ByteArray, Rd w a len cap (l.map Value.string) ∧ ∀ s ∈ l, s.size ≤ maxLen :=
  open_rd1 Value.string _ ⟨ByteArray.empty⟩ ht hc (fun v n y h => by
    obtain ⟨b, e0, _, g⟩ := DataW.trod_string he h
    simp at e0
    exact ⟨b, g, e0⟩) h
end
end
end Go.Proofs.YtinkbgeckjbnbaaGreat
namespace Go.Proofs.YtinkbgeckjbnbaaGreat
section
open Go.RowKit Go.ChangeShapes Go.WideShapes Go.Deep Go.Joins
set_option linter.unusedVariables false
section
variable {H : Type} {enc : TypeId × Value → H} {P : Program} {w : World} {base : Nat} {spare : Nat → Bool} {held : Bool}
set_option maxRecDepth 100000 in
/-- a struct of one-cell fields, by value -/
theorem open_aggn {b0 : Nat} {r : Reach} {t : TypeId} {fs : Array Field} {v : Value} {d : DataW H} {p : List MemPlace} (hs : P.underlying t = some (.struct fs)) (hone : oneCellFields P fs = true) (hC : P.cellsOf t = fs.size)
    (hv : Value.okWide P w r b0 t v) (h : DataW.Trod enc P w base spare held t v d p) :
    ∃ cs : Array Value, v = .agg cs ∧ cs.size = fs.size ∧ ∀ (j : Nat) (f : Field), fs[j]? = some f → ∃ (u : Value) (n : Nat) (y : DataW H × List MemPlace), cs[j]? = some u ∧ DataW.trod enc P w base spare held n f.type [u] = some y := by
  obtain ⟨cs, rfl, hsz⟩ := okWide_struct hs hv
  obtain ⟨fuel, hf⟩ := h
  obtain ⟨xs, n, _, _, hl, hlen, hff⟩ := DataW.trod_struct hs hf
  refine ⟨cs, rfl, hsz.trans hC, fun j f hj => ?_⟩
  have hjs : j < fs.size := (Array.getElem?_eq_some_iff.1 hj).1
  have hjc : j < cs.size := by rw [hsz.trans hC]; exact hjs
  obtain ⟨o0, k0⟩ := hone_of hone j f hj
  have h1 := hff j f hj
  obtain ⟨y, hy⟩ : ∃ y, xs[j]? = some y := ⟨_, List.getElem?_eq_getElem (show j < xs.length by rw [hlen]; simpa using hjs)⟩
  have e : ((Value.agg cs).cells.toList.drop f.offset).take (P.cellsOf f.type) = [cs[j]] := by
    rw [o0, k0]
    simp only [Value.cells]
    rw [List.drop_eq_getElem_cons (by simpa using hjc)]
    simp
  rw [e] at h1
  exact ⟨cs[j], n, y, Array.getElem?_eq_getElem hjc, h1.trans hy⟩
set_option maxRecDepth 100000 in
theorem arr12 {α : Type} {cs : Array α} (h : cs.size = 12) : ∃ c0 c1 c2 c3 c4 c5 c6 c7 c8 c9 c10 c11, cs = #[c0, c1, c2, c3, c4, c5, c6, c7, c8, c9, c10, c11] := by
  obtain ⟨l⟩ := cs
  match l, h with
  | [c0, c1, c2, c3, c4, c5, c6, c7, c8, c9, c10, c11], _ => exact ⟨c0, c1, c2, c3, c4, c5, c6, c7, c8, c9, c10, c11, rfl⟩
end
end
end Go.Proofs.YtinkbgeckjbnbaaGreat
namespace Go.Proofs.YtinkbgeckjbnbaaGreat
section
open Go.RowKit Go.ChangeShapes Go.WideShapes Go.Deep Go.Joins
set_option linter.unusedVariables false
section
variable {H : Type} {enc : TypeId × Value → H} {w : World} {base : Nat} {spare : Nat → Bool} {held : Bool}
set_option maxRecDepth 100000 in
theorem open_keys {d : DataW H} {p : List MemPlace} {a : Option Addr} {len cap : Nat}
    (h : DataW.Trod enc Tryz.prog w base spare held 23 (.slice a len cap) d p) : ∃ l : List KeyL, RdE KeyL.cells 2 w a len cap l ∧ ∀ x ∈ l, x.2.size ≤ maxLen := by
  refine open_rdE KeyL.cells ⟨(0, ⟨#[]⟩)⟩ Tryz.underlying23 Tryz.underlying107 (by kernel_rfl) (by kernel_rfl) (fun x => x.2.size ≤ maxLen) ?_ h (by decide)
  intro vs hv
  obtain ⟨n0, y0, h0⟩ := hv 0 _ rfl
  obtain ⟨n1, y1, h1⟩ := hv 1 _ rfl
  obtain ⟨b0, e0, _, g0⟩ := DataW.trod_int Tryz.underlying3 h0
  obtain ⟨b1, e1, _, g1⟩ := DataW.trod_string Tryz.underlying9 h1
  simp at e0 e1
  refine ⟨(b0, b1), g1, fun j hj => ?_⟩
  have hj4 : j < 2 := hj
  match j, hj4 with
  | 0, _ => simp [KeyL.cells, e0]
  | 1, _ => simp [KeyL.cells, e1]
set_option maxRecDepth 100000 in
theorem open_cfg {b0 : Nat} {r : Reach} {v : Value} {d : DataW H} {p : List MemPlace} (hv : Value.okWide Tryz.prog w r b0 25 v) (h : DataW.Trod enc Tryz.prog w base spare held 25 v d p) :
    ∃ c : CfgM, v = c.val ∧ CfgOK w c := by
  obtain ⟨cs, rfl, hsz, hf⟩ := open_aggn Tryz.underlying25 (by kernel_rfl) (by kernel_rfl) hv h
  obtain ⟨c0, c1, c2, c3, c4, c5, c6, c7, c8, c9, c10, c11, rfl⟩ := arr12 hsz
  obtain ⟨u0, n0, y0, g0, h0⟩ := hf 0 _ rfl
  obtain ⟨u1, n1, y1, g1, h1⟩ := hf 1 _ rfl
  obtain ⟨u2, n2, y2, g2, h2⟩ := hf 2 _ rfl
  obtain ⟨u3, n3, y3, g3, h3⟩ := hf 3 _ rfl
  obtain ⟨u4, n4, y4, g4, h4⟩ := hf 4 _ rfl
  obtain ⟨u5, n5, y5, g5, h5⟩ := hf 5 _ rfl
  obtain ⟨u6, n6, y6, g6, h6⟩ := hf 6 _ rfl
  obtain ⟨u7, n7, y7, g7, h7⟩ := hf 7 _ rfl
  obtain ⟨u8, n8, y8, g8, h8⟩ := hf 8 _ rfl
  obtain ⟨u9, n9, y9, g9, h9⟩ := hf 9 _ rfl
  obtain ⟨u10, n10, y10, g10, h10⟩ := hf 10 _ rfl
  obtain ⟨u11, n11, y11, g11, h11⟩ := hf 11 _ rfl
  simp at g0 g1 g2 g3 g4 g5 g6 g7 g8 g9 g10 g11
  subst g0 g1 g2 g3 g4 g5 g6 g7 g8 g9 g10 g11
  obtain ⟨b2, e2, _, _⟩ := DataW.trod_int Tryz.underlying3 h2
  obtain ⟨b3, e3, _, _⟩ := DataW.trod_int Tryz.underlying3 h3
  obtain ⟨b4, e4, _, _⟩ := DataW.trod_int Tryz.underlying3 h4
  obtain ⟨b5, e5, _, _⟩ := DataW.trod_int Tryz.underlying3 h5
  obtain ⟨b6, e6, _, _⟩ := DataW.trod_int Tryz.underlying3 h6
  obtain ⟨b7, e7, _, _⟩ := DataW.trod_int Tryz.underlying3 h7
  obtain ⟨b8, e8, _, _⟩ := DataW.trod_int Tryz.underlying3 h8
  obtain ⟨b9, e9, _, _⟩ := DataW.trod_int Tryz.underlying3 h9
  obtain ⟨b10, e10, _, _⟩ := DataW.trod_int Tryz.underlying3 h10
  obtain ⟨b11, e11, _, _⟩ := DataW.trod_int Tryz.underlying3 h11
  simp at e2 e3 e4 e5 e6 e7 e8 e9 e10 e11
  subst e2 e3 e4 e5 e6 e7 e8 e9 e10 e11
  obtain ⟨aw, nw, cw, e0⟩ := slice_form Tryz.underlying22 h0
  obtain ⟨ac, nc, cc, e1⟩ := slice_form Tryz.underlying23 h1
  simp at e0 e1
  subst e0 e1
  obtain ⟨lw, hw1, hw2⟩ := open_texts (d := y0.1) (p := y0.2) Tryz.underlying22 Tryz.underlying9 (by kernel_rfl) ⟨n0, by simpa [Value.cells] using h0⟩
  obtain ⟨lk, hk1, hk2⟩ := open_keys (d := y1.1) (p := y1.2) ⟨n1, by simpa [Value.cells] using h1⟩
  exact ⟨⟨aw, nw, cw, ac, nc, cc, lw, lk, b2, b3, b4, b5, b6, b7, b8, b9, b10, b11⟩, rfl, hw1, hk1, hw2, hk2⟩
end
end
end Go.Proofs.YtinkbgeckjbnbaaGreat
namespace Go.Proofs.YtinkbgeckjbnbaaGreat
section
open Go.RowKit Go.ChangeShapes Go.WideShapes Go.Deep Go.Joins
set_option linter.unusedVariables false
section
variable {H : Type} {enc : TypeId × Value → H} {w : World} {base : Nat} {spare : Nat → Bool} {held : Bool}
set_option maxRecDepth 100000 in
theorem arr3 {α : Type} {cs : Array α} (h : cs.size = 3) : ∃ c0 c1 c2, cs = #[c0, c1, c2] := by
  obtain ⟨l⟩ := cs
  match l, h with
  | [c0, c1, c2], _ => exact ⟨c0, c1, c2, rfl⟩
set_option maxRecDepth 100000 in
theorem open_query {b0 : Nat} {r : Reach} {v : Value} {d : DataW H} {p : List MemPlace} (hv : Value.okWide Tryz.prog w r b0 40 v) (h : DataW.Trod enc Tryz.prog w base spare held 40 v d p) :
    ∃ (q : ByteArray) (k n : Int), v = .agg #[.string q, .int .i64 k, .int .i64 n] ∧ q.size ≤ maxLen ∧ (Lit.int .i64 k).wf = true ∧ (Lit.int .i64 n).wf = true := by
  obtain ⟨cs, rfl, hsz, hf⟩ := open_aggn Tryz.underlying40 (by kernel_rfl) (by kernel_rfl) hv h
  obtain ⟨c0, c1, c2, rfl⟩ := arr3 hsz
  obtain ⟨u0, n0, y0, g0, h0⟩ := hf 0 _ rfl
  obtain ⟨u1, n1, y1, g1, h1⟩ := hf 1 _ rfl
  obtain ⟨u2, n2, y2, g2, h2⟩ := hf 2 _ rfl
  simp at g0 g1 g2
  subst g0 g1 g2
  obtain ⟨b0, e0, _, g0⟩ := DataW.trod_string Tryz.underlying9 h0
  obtain ⟨b1, e1, _, g1⟩ := DataW.trod_int Tryz.underlying3 h1
  obtain ⟨b2, e2, _, g2⟩ := DataW.trod_int Tryz.underlying3 h2
  simp at e0 e1 e2
  subst e0 e1 e2
  exact ⟨b0, b1, b2, rfl, g0, g1, g2⟩
end
end
end Go.Proofs.YtinkbgeckjbnbaaGreat
