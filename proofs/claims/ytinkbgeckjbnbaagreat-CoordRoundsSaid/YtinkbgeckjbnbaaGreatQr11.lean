/- Lemmas for the law (part 11): CoQ -/
import Derived.Test.YtinkbgeckjbnbaaGreatQr10
namespace Go.Proofs.YtinkbgeckjbnbaaGreat
section
open Go.RowKit
set_option linter.unusedVariables false
set_option linter.unusedSimpArgs false

/-- never hedged -/
def CfgM.he1 (c : CfgM) : CfgM := { c with he := 1000 }
set_option maxRecDepth 100000 in
theorem he1_may {c : CfgM} (h : mayC c = true) : mayC c.he1 = true := by
  unfold mayC timesC at h ⊢
  simp only [Bool.and_eq_true] at h ⊢
  exact ⟨h.1, h.2.1, ⟨⟨⟨h.2.2.1.1.1.1, by show inB 1000 1 1000 = true; decide⟩, h.2.2.1.1.2⟩, h.2.2.1.2⟩, h.2.2.2⟩
set_option maxRecDepth 100000 in
theorem first_zero {S : CS} {last : Nat → Int} (h : Heard S last) (hw : 1 ≤ S.c.wk) (hcp : 1 ≤ S.c.cp) (hle : 1 ≤ S.c.le) (hl : ∀ w : Nat, 1 ≤ w → (w : Int) ≤ S.c.wk → last w = 0) (hn : S.now = 0) (s : Nat) : S.firstL s = 0 := by
  have hb := cop_bd hw s 0
  have he := copW_eq hw s 0
  refine firstL_at (k := 0) (by omega) ?_ (fun j hj => by omega)
  rw [liveJ_eq h hw (by omega), hl _ (by omega) (by omega), hn]
  simp
  omega
set_option maxRecDepth 100000 in
theorem abc_may : mayQ ⟨#[97, 98, 99]⟩ 4 3 = true := by kernel_rfl
/-- all workers say hello -/
def RhR (w0 : World) (A : CA) (p : Nat) (C : CfgM) (sl wk : Nat) (bx : List (Nat × TypeId × List Value)) (v : Value) (wr : World) : Prop := ∃ (m : Nat) (S : CS) (O : Own) (last : Nat → Int), 1 ≤ m ∧ m ≤ wk + 1 ∧ v = .int .i64 m ∧ RowKit.Hid (FrS w0 wr O A p S bx) ∧ RowKit.Hid (Heard S last ∧ Fresh S sl ∧ S.now = 0 ∧ S.c = C ∧ ∀ j : Nat, 1 ≤ j → j < m → last j = 0)
/-- draws -/
def RndR (w0 : World) (p : Nat) (C : CfgM) (ns sl lb hn : Nat) (bx : List (Nat × TypeId × List Value)) (v11 v13 : Value) (wr : World) : Prop := ∃ (i n : Nat) (W : List Nat) (S : CS) (O : Own) (A : CA) (l : List Int), i ≤ hn ∧ v13 = .int .i64 i ∧ v11 = .int .i64 n ∧ RowKit.Hid (FrS w0 wr O A p S ((lb, 41, ints l) :: bx)) ∧ RowKit.Hid (RndI C ns sl i n W S A l)
/-- letters -/
def RnkR (w0 : World) (p : Nat) (cp : Int) (lb i nl base : Nat) (ao : Option Addr) (cc : Nat) (L : List LV) (W : List Nat) (S : CS) (O : Own) (A : CA) (bx : List (Nat × TypeId × List Value)) (v : Value) (wr : World) : Prop := ∃ (k : Nat) (l : List Int), k ≤ nl ∧ v = .int .i64 k ∧ RowKit.Hid (FrS w0 wr O A p S ((lb, 41, ints l) :: bx)) ∧ RowKit.Hid (wr.ownsRow base 51 2 (.slice ao nl cc) nl (L.flatMap LV.cells)) ∧ RowKit.Hid (RkI cp i k W l)
def RnaR (wB : World) (tt : Nat) (v : Value) (wr : World) : Prop := ∃ j : Nat, j ≤ tt ∧ v = .int .i64 j ∧ RowKit.Hid (Below wB.heap.size wB wr)
/-- ticks -/
def RntR (w0 : World) (p : Nat) (C : CfgM) (ns sl lb mo : Nat) (n0 b : Int) (i : Nat) (W : List Nat) (A : CA) (l : List Int) (bx : List (Nat × TypeId × List Value)) (v : Value) (wr : World) : Prop := ∃ (t : Nat) (S : CS) (O : Own), t ≤ mo ∧ v = .int .i64 t ∧ RowKit.Hid (FrS w0 wr O A p S ((lb, 41, ints l) :: bx)) ∧ RowKit.Hid (S.c = C ∧ Heard S (fun _ => 0) ∧ S.OK ns b ∧ RcC S ns sl i W (n0 + mo) ∧ S.now = n0 + t)
set_option maxRecDepth 100000 in
set_option maxHeartbeats 16000000 in
theorem rounds24_law (c : CfgM) (ha : Option Addr) (hn hc : Nat) (hd : List Int) (w : World) (hcfg : CfgOK w c) (hr : Rd w ha hn hc (ints hd)) :
    Calls Tryz.prog 3 #[c.val, .slice ha hn hc] w fun e w' => e = .returned (.bool true) ∧ Below w.heap.size w w' := by
  obtain ⟨W1, hW1⟩ : ∃ V, w.alloc (.cells #[.slice c.aw c.nw c.cw, .slice c.ac c.nc c.cc, .int .i64 c.wk, .int .i64 c.cp, .int .i64 c.sl, .int .i64 c.ba, .int .i64 c.le, .int .i64 c.he, .int .i64 c.fi, .int .i64 c.ca, .int .i64 c.ji, .int .i64 c.ne] 25) = V := ⟨_, rfl⟩
  have hb1 : Below w.heap.size w W1 := by rw [← hW1]; exact (Below.refl _ w).alloc (Nat.le_refl _) _
  have hx : Blk W1 w.heap.size 25 [.slice c.aw c.nw c.cw, .slice c.ac c.nc c.cc, .int .i64 c.wk, .int .i64 c.cp, .int .i64 c.sl, .int .i64 c.ba, .int .i64 c.le, .int .i64 c.he, .int .i64 c.fi, .int .i64 c.ca, .int .i64 c.ji, .int .i64 c.ne] := by rw [← hW1]; exact heap_alloc_new w _
  have HB := Lib.hid hb1
  have HX := Lib.hid hx
  have HCF := Lib.hid hcfg
  have HR := Lib.hid hr
  have hgc := greatC_any c W1 (hcfg.below hb1 rfl)
  obtain ⟨g, hg⟩ : ∃ g, greatC c = g := ⟨_, rfl⟩
  rw [hg] at hgc
  unfold CfgM.val at hgc ⊢
  have HGC := Lib.hid hgc
  have x0 : W1.cell? ⟨w.heap.size, 0, none⟩ = some (.slice c.aw c.nw c.cw) := hx.cell 0
  have x1 : W1.cell? ⟨w.heap.size, 1, none⟩ = some (.slice c.ac c.nc c.cc) := hx.cell 1
  have x2 : W1.cell? ⟨w.heap.size, 2, none⟩ = some (.int .i64 c.wk) := hx.cell 2
  have x3 : W1.cell? ⟨w.heap.size, 3, none⟩ = some (.int .i64 c.cp) := hx.cell 3
  have x4 : W1.cell? ⟨w.heap.size, 4, none⟩ = some (.int .i64 c.sl) := hx.cell 4
  have x5 : W1.cell? ⟨w.heap.size, 5, none⟩ = some (.int .i64 c.ba) := hx.cell 5
  have x6 : W1.cell? ⟨w.heap.size, 6, none⟩ = some (.int .i64 c.le) := hx.cell 6
  have x7 : W1.cell? ⟨w.heap.size, 7, none⟩ = some (.int .i64 c.he) := hx.cell 7
  have x8 : W1.cell? ⟨w.heap.size, 8, none⟩ = some (.int .i64 c.fi) := hx.cell 8
  have x9 : W1.cell? ⟨w.heap.size, 9, none⟩ = some (.int .i64 c.ca) := hx.cell 9
  have x10 : W1.cell? ⟨w.heap.size, 10, none⟩ = some (.int .i64 c.ji) := hx.cell 10
  have x11 : W1.cell? ⟨w.heap.size, 11, none⟩ = some (.int .i64 c.ne) := hx.cell 11
  have hln : hd.length = hn := by have := hr.1; unfold ints at this; simpa using this
  clear hb1 hx hcfg hr hgc hg
  go_enter Tryz.func3, Tryz.ntmps3
  go_wp2_with (rw [hW1])
  clear hW1 x0 x1 x2 x3 x4 x5 x6 x7 x8 x9 x10 x11
  refine HGC.out.mono ?_
  clear HGC
  rintro e w3 ⟨rfl, hb⟩
  have HB3 := Lib.hid (HB.out.trans (hb.mono HB.out.size))
  have HX3 := Lib.hid (HX.out.below hb HX.out.lt)
  have x0 : w3.cell? ⟨w.heap.size, 0, none⟩ = some (.slice c.aw c.nw c.cw) := HX3.out.cell 0
  have x1 : w3.cell? ⟨w.heap.size, 1, none⟩ = some (.slice c.ac c.nc c.cc) := HX3.out.cell 1
  have x2 : w3.cell? ⟨w.heap.size, 2, none⟩ = some (.int .i64 c.wk) := HX3.out.cell 2
  have x3 : w3.cell? ⟨w.heap.size, 3, none⟩ = some (.int .i64 c.cp) := HX3.out.cell 3
  have x4 : w3.cell? ⟨w.heap.size, 4, none⟩ = some (.int .i64 c.sl) := HX3.out.cell 4
  have x5 : w3.cell? ⟨w.heap.size, 5, none⟩ = some (.int .i64 c.ba) := HX3.out.cell 5
  have x6 : w3.cell? ⟨w.heap.size, 6, none⟩ = some (.int .i64 c.le) := HX3.out.cell 6
  have x7 : w3.cell? ⟨w.heap.size, 7, none⟩ = some (.int .i64 c.he) := HX3.out.cell 7
  have x8 : w3.cell? ⟨w.heap.size, 8, none⟩ = some (.int .i64 c.fi) := HX3.out.cell 8
  have x9 : w3.cell? ⟨w.heap.size, 9, none⟩ = some (.int .i64 c.ca) := HX3.out.cell 9
  have x10 : w3.cell? ⟨w.heap.size, 10, none⟩ = some (.int .i64 c.ji) := HX3.out.cell 10
  have x11 : w3.cell? ⟨w.heap.size, 11, none⟩ = some (.int .i64 c.ne) := HX3.out.cell 11
  clear hb HB HX
  cases g
  rotate_left 1
  · go_wp2_with fail
    refine (awake24_any _).mono ?_
    rintro e wa ⟨rfl, hb⟩
    have HBA := Lib.hid (HB3.out.trans (hb.mono HB3.out.size))
    clear hb
    go_wp2_with fail
    go_ret
    exact ⟨rfl, HBA.out⟩
  by_cases hh1 : (20 : Int) < (hn : Int)
  · go_wp2_with fail
    refine (awake24_any _).mono ?_
    rintro e wa ⟨rfl, hb⟩
    have HBA := Lib.hid (HB3.out.trans (hb.mono HB3.out.size))
    clear hb
    go_wp2_with fail
    go_ret
    exact ⟨rfl, HBA.out⟩
  have hmy := may_any c w3 (HCF.out.below HB3.out rfl)
  obtain ⟨m, hm⟩ : ∃ m, mayC c = m := ⟨_, rfl⟩
  rw [hm] at hmy
  unfold CfgM.val at hmy
  have HMY := Lib.hid hmy
  have HM := Lib.hid hm
  clear hmy hm
  go_wp2_with fail
  clear x0 x1 x2 x3 x4 x5 x6 x7 x8 x9 x10 x11
  refine HMY.out.mono ?_
  clear HMY
  rintro e w4 ⟨rfl, hb⟩
  have HB4 := Lib.hid (HB3.out.trans (hb.mono HB3.out.size))
  have HX4 := Lib.hid (HX3.out.below hb HX3.out.lt)
  have x0 : w4.cell? ⟨w.heap.size, 0, none⟩ = some (.slice c.aw c.nw c.cw) := HX4.out.cell 0
  have x1 : w4.cell? ⟨w.heap.size, 1, none⟩ = some (.slice c.ac c.nc c.cc) := HX4.out.cell 1
  have x2 : w4.cell? ⟨w.heap.size, 2, none⟩ = some (.int .i64 c.wk) := HX4.out.cell 2
  have x3 : w4.cell? ⟨w.heap.size, 3, none⟩ = some (.int .i64 c.cp) := HX4.out.cell 3
  have x4 : w4.cell? ⟨w.heap.size, 4, none⟩ = some (.int .i64 c.sl) := HX4.out.cell 4
  have x5 : w4.cell? ⟨w.heap.size, 5, none⟩ = some (.int .i64 c.ba) := HX4.out.cell 5
  have x6 : w4.cell? ⟨w.heap.size, 6, none⟩ = some (.int .i64 c.le) := HX4.out.cell 6
  have x7 : w4.cell? ⟨w.heap.size, 7, none⟩ = some (.int .i64 c.he) := HX4.out.cell 7
  have x8 : w4.cell? ⟨w.heap.size, 8, none⟩ = some (.int .i64 c.fi) := HX4.out.cell 8
  have x9 : w4.cell? ⟨w.heap.size, 9, none⟩ = some (.int .i64 c.ca) := HX4.out.cell 9
  have x10 : w4.cell? ⟨w.heap.size, 10, none⟩ = some (.int .i64 c.ji) := HX4.out.cell 10
  have x11 : w4.cell? ⟨w.heap.size, 11, none⟩ = some (.int .i64 c.ne) := HX4.out.cell 11
  clear hb HB3 HX3
  cases m
  · go_wp2_with fail
    refine (awake24_any _).mono ?_
    rintro e wa ⟨rfl, hb⟩
    have HBA := Lib.hid (HB4.out.trans (hb.mono HB4.out.size))
    clear hb
    go_wp2_with fail
    go_ret
    exact ⟨rfl, HBA.out⟩
  have fz : w4.frozen? ⟨w.heap.size, 7, none⟩ = false := fz_of (o := 7) HX4.out
  obtain ⟨w5, hw5⟩ : ∃ V, w4.setCell ⟨w.heap.size, 7, none⟩ (.int .i64 1000) = V := ⟨_, rfl⟩
  have hf5 : Frm (fun b => b = w.heap.size) w4 w5 := by rw [← hw5]; exact (Frm.refl (fun b => b = w.heap.size) w4).setCell ⟨w.heap.size, 7, none⟩ _ (.inl rfl)
  have hx5 : Blk w5 w.heap.size 25 [.slice c.aw c.nw c.cw, .slice c.ac c.nc c.cc, .int .i64 c.wk, .int .i64 c.cp, .int .i64 c.sl, .int .i64 c.ba, .int .i64 c.le, .int .i64 1000, .int .i64 c.fi, .int .i64 c.ca, .int .i64 c.ji, .int .i64 c.ne] := by rw [← hw5]; exact HX4.out.set 7 _
  have hb5 : Below w.heap.size w w5 := ⟨hf5.os.trans HB4.out.os, hf5.tape.trans HB4.out.tape, hf5.output.trans HB4.out.output, Nat.le_trans HB4.out.size hf5.size, fun q hq => (hf5.block q (Nat.lt_of_lt_of_le hq HB4.out.size) (by show ¬ q = w.heap.size; omega)).trans (HB4.out.block q hq)⟩
  have HX5 := Lib.hid hx5
  have HB5 := Lib.hid hb5
  have hcf1 : CfgOK w5 c.he1 := by have q := HCF.out.below hb5 rfl; exact ⟨q.rw, q.rk, q.hw, q.hk⟩
  have HCF1 := Lib.hid hcf1
  have HM1 := Lib.hid (he1_may HM.out)
  have z0 : w5.cell? ⟨w.heap.size, 0, none⟩ = some (.slice c.aw c.nw c.cw) := hx5.cell 0
  have z1 : w5.cell? ⟨w.heap.size, 1, none⟩ = some (.slice c.ac c.nc c.cc) := hx5.cell 1
  have z2 : w5.cell? ⟨w.heap.size, 2, none⟩ = some (.int .i64 c.wk) := hx5.cell 2
  have z3 : w5.cell? ⟨w.heap.size, 3, none⟩ = some (.int .i64 c.cp) := hx5.cell 3
  have z4 : w5.cell? ⟨w.heap.size, 4, none⟩ = some (.int .i64 c.sl) := hx5.cell 4
  have z5 : w5.cell? ⟨w.heap.size, 5, none⟩ = some (.int .i64 c.ba) := hx5.cell 5
  have z6 : w5.cell? ⟨w.heap.size, 6, none⟩ = some (.int .i64 c.le) := hx5.cell 6
  have z7 : w5.cell? ⟨w.heap.size, 7, none⟩ = some (.int .i64 1000) := hx5.cell 7
  have z8 : w5.cell? ⟨w.heap.size, 8, none⟩ = some (.int .i64 c.fi) := hx5.cell 8
  have z9 : w5.cell? ⟨w.heap.size, 9, none⟩ = some (.int .i64 c.ca) := hx5.cell 9
  have z10 : w5.cell? ⟨w.heap.size, 10, none⟩ = some (.int .i64 c.ji) := hx5.cell 10
  have z11 : w5.cell? ⟨w.heap.size, 11, none⟩ = some (.int .i64 c.ne) := hx5.cell 11
  have hnw := cnew_yes (fun _ => 0) c.he1 w5 hcf1 HM1.out
  rw [show c.he1.val = .agg #[.slice c.aw c.nw c.cw, .slice c.ac c.nc c.cc, .int .i64 c.wk, .int .i64 c.cp, .int .i64 c.sl, .int .i64 c.ba, .int .i64 c.le, .int .i64 1000, .int .i64 c.fi, .int .i64 c.ca, .int .i64 c.ji, .int .i64 c.ne] from rfl] at hnw
  have HNW := Lib.hid hnw
  clear hf5 hx5 hb5 hcf1 hnw HX4 HB4
  go_wp2_with (rw [hw5])
  clear hw5 fz x0 x1 x2 x3 x4 x5 x6 x7 x8 x9 x10 x11 z0 z1 z2 z3 z4 z5 z6 z7 z8 z9 z10 z11
  refine HNW.out.mono ?_
  clear HNW
  rintro e w6 ⟨p, ac, cc, A, O6, rfl, hcw, hcl, ha6, hb⟩
  skip
  obtain ⟨wk, hwk⟩ : ∃ wk : Nat, c.wk = (wk : Int) := ⟨c.wk.toNat, by have := may_of HM.out; omega⟩
  have hwk5 : 1 ≤ wk ∧ wk ≤ 5 := by have := may_of HM.out; omega
  obtain ⟨sl, hsl⟩ : ∃ sl : Nat, c.sl = (sl : Int) := ⟨c.sl.toNat, by have := may_of HM.out; omega⟩
  have hsl4 : 1 ≤ sl ∧ sl ≤ 4 := by have := may_of HM.out; omega
  obtain ⟨ns, hns⟩ : ∃ n, A.cps.length = n := ⟨_, rfl⟩
  have HNS := Lib.hid hns
  have HSH := Lib.hid (show ((ns : Nat) : Int) = shardsC c.he1 from by rw [← hns]; exact hcl)
  have HWK := Lib.hid hwk
  have HSL := Lib.hid hsl
  obtain ⟨C, hC⟩ : ∃ C, c.he1.own ac cc = C := ⟨_, rfl⟩
  rw [hC] at hcw
  have HCC := Lib.hid hC
  have HF6 := Lib.hid (show FrS w w6 O6 A p (CS.init C) [(w.heap.size, 25, [.slice c.aw c.nw c.cw, .slice c.ac c.nc c.cc, .int .i64 c.wk, .int .i64 c.cp, .int .i64 c.sl, .int .i64 c.ba, .int .i64 c.le, .int .i64 1000, .int .i64 c.fi, .int .i64 c.ca, .int .i64 c.ji, .int .i64 c.ne])] from ⟨hcw, fun x hx => by
    have hx5 := HX5.out.lt
    simp only [List.mem_cons, List.not_mem_nil, or_false] at hx
    subst hx
    exact ⟨HX5.out.below hb HX5.out.lt, by rw [ha6 _ hx5]; show (0 : Nat) % 8 ≠ 1; decide⟩,
    fun b hb' => by rw [ha6 b (Nat.lt_of_lt_of_le hb' HB5.out.size)]; show (0 : Nat) % 8 ≠ 1; decide, HB5.out.trans (hb.mono HB5.out.size)⟩)
  have hqc := fun V => cptr_ne p 0 V
  have hwc : C.wk = (wk : Int) := by rw [← HCC.out]; exact HWK.out
  have HWC := Lib.hid hwc
  have h0 := heard_init (c := C) (by rw [← HCC.out]; exact own_may HM1.out) (by rw [← HCC.out]; exact le_of (own_may (ac := ac) (cc := cc) HM1.out))
  have HH := Lib.hid (show Heard (CS.init C) (fun _ => -1) ∧ Fresh (CS.init C) sl ∧ (CS.init C).now = 0 ∧ (CS.init C).c = C ∧ ∀ j : Nat, 1 ≤ j → j < 1 → (fun _ : Nat => (-1 : Int)) j = 0 from ⟨h0, ⟨by show List.replicate C.sl.toNat 0 = _; rw [← HCC.out]; show List.replicate c.sl.toNat 0 = _; rw [HSL.out, Int.toNat_natCast], rfl, rfl⟩, rfl, rfl, fun j h1 h2 => by omega⟩)
  clear hcw hcl ha6 hb hns hwk hsl hC HX5 HB5 hwc h0
  go_wp2_with fail
  go_loopw [7] (fun v wr => RhR w A p C sl wk [(w.heap.size, 25, [.slice c.aw c.nw c.cw, .slice c.ac c.nc c.cc, .int .i64 c.wk, .int .i64 c.cp, .int .i64 c.sl, .int .i64 c.ba, .int .i64 c.le, .int .i64 1000, .int .i64 c.fi, .int .i64 c.ca, .int .i64 c.ji, .int .i64 c.ne])] v wr) (fun v _ => wk + 1 - (intOf v).toNat)
  case atStart => exact ⟨1, CS.init C, O6, fun _ => -1, by omega, by omega, rfl, HF6.out, HH.out⟩
  case round =>
    clear HF6 HH
    obtain ⟨m, S, O, last, hm1, hm2, rfl, HF, HL⟩ := hrel
    have x2 : wr.cell? ⟨w.heap.size, 2, none⟩ = some (.int .i64 (wk : Nat)) := by have e := HF.out.cell (e := 25) (cs := [.slice c.aw c.nw c.cw, .slice c.ac c.nc c.cc, .int .i64 c.wk, .int .i64 c.cp, .int .i64 c.sl, .int .i64 c.ba, .int .i64 c.le, .int .i64 1000, .int .i64 c.fi, .int .i64 c.ca, .int .i64 c.ji, .int .i64 c.ne]) (b := w.heap.size) (by simp) 2; rw [show ([.slice c.aw c.nw c.cw, .slice c.ac c.nc c.cc, .int .i64 c.wk, .int .i64 c.cp, .int .i64 c.sl, .int .i64 c.ba, .int .i64 c.le, .int .i64 1000, .int .i64 c.fi, .int .i64 c.ca, .int .i64 c.ji, .int .i64 c.ne] : List Value)[2]? = some (.int .i64 c.wk) from rfl, HWK.out] at e; exact e
    by_cases hlt : m ≤ wk
    · have e1 : (m : Int) ≤ (wk : Int) := by omega
      have HTA := Lib.hid (ctake_hello O A p S (m : Int) 1 wr HF.out.cw HL.out.1.ok)
      go_wp2_with fail
      clear x2
      refine HTA.out.mono ?_
      clear HTA
      rintro e w5' ⟨u5, O5, rfl, hc5, hl5, ha5, hf5⟩
      have HF5 := Lib.hid (HF.out.step hc5 ha5 hf5)
      have hqh := heard_hello HL.out.1 (w := m) (by omega) (by rw [HL.out.2.2.2.1, HWC.out]; omega)
      rw [HL.out.2.2.1] at hqh
      have HL5 := Lib.hid (show Heard (S.hello (m : Int) 1) (fun v => if v = m then (0 : Int) else last v) ∧ Fresh (S.hello (m : Int) 1) sl ∧ (S.hello (m : Int) 1).now = 0 ∧ (S.hello (m : Int) 1).c = C ∧ ∀ j : Nat, 1 ≤ j → j < m + 1 → (if j = m then (0 : Int) else last j) = 0 from ⟨hqh, fresh_hello HL.out.2.1 _ _, HL.out.2.2.1, HL.out.2.2.2.1, fun j h1 h2 => by by_cases e : j = m; (rw [if_pos e]); (rw [if_neg e]; exact HL.out.2.2.2.2 j h1 (by omega))⟩)
      clear hc5 hl5 ha5 hf5 hqh
      go_wp2_with fail
      go_roundw
      case rel => first | exact ⟨m + 1, S.hello (m : Int) 1, O5, _, by omega, by omega, by go_num, HF5.out, HL5.out⟩ | ((repeat apply Exists.intro); exact ⟨⟨m + 1, S.hello (m : Int) 1, O5, _, by omega, by omega, by go_num, HF5.out, HL5.out⟩, rfl⟩)
      case measure => simp [intOf]; omega
    have hmw : m = wk + 1 := by omega
    subst hmw
    clear hlt hm1 hm2
    skip
    have hmo := may_of HM.out
    have hns6 : 1 ≤ ns ∧ ns ≤ 6 := by have h1 := HSH.out; rw [shardsC_may HM1.out] at h1; have h2 : c.he1.cuts.length = c.cuts.length := rfl; omega
    have hcw : S.c.wk = (wk : Int) := by rw [HL.out.2.2.2.1]; exact HWC.out
    have hcs : S.c.sl = (sl : Int) := by rw [HL.out.2.2.2.1, ← HCC.out]; exact HSL.out
    have hcu : S.c.cuts = c.cuts := by rw [HL.out.2.2.2.1, ← HCC.out]; rfl
    have hcp : S.c.cp = c.cp := by rw [HL.out.2.2.2.1, ← HCC.out]; rfl
    have hce : S.c.le = c.le := by rw [HL.out.2.2.2.1, ← HCC.out]; rfl
    have hsb := csubmit_any O A p S ⟨#[97, 98, 99]⟩ 4 3 wk wr HF.out.cw (by unfold maxLen; decide) (by rw [HNS.out]; omega) (by rw [HNS.out]; omega) hcw (by omega) (by rw [HL.out.2.1.told]; exact Nat.zero_le _) (by rw [hcu]; omega) (by rw [hcu]; exact cuts_bd HM.out)
    unfold SuE at hsb
    rw [subV_eq HL.out.2.1 hsl4.1 abc_may, HNS.out] at hsb
    have HSB := Lib.hid hsb
    have HCW := Lib.hid hcw
    have HCS := Lib.hid hcs
    have HCP := Lib.hid hcp
    have HCE := Lib.hid hce
    have HMO := Lib.hid hmo
    have hlast : ∀ w : Nat, 1 ≤ w → (w : Int) ≤ S.c.wk → last w = 0 := fun w h1 h2 => HL.out.2.2.2.2 w h1 (by rw [hcw] at h2; omega)
    have HFZ := Lib.hid (first_zero HL.out.1 (by rw [hcw]; omega) (by rw [hcp]; omega) (by rw [hce]; exact (le_of HM.out).1) hlast HL.out.2.2.1)
    have HLA := Lib.hid hlast
    clear hsb hcw hcs hcu hcp hce hmo hlast
    go_wp2_with fail
    clear x2
    refine HSB.out.mono ?_
    clear HSB
    rintro e w10 ⟨v10, O10, A10, rfl, hc10, hcp10, hl10, ha10, hf10⟩
    have HF10 := Lib.hid (HF.out.step hc10 ha10 hf10)
    have HNS2 := Lib.hid (show A10.cps.length = ns from by rw [hcp10]; exact HNS.out)
    have HOK := Lib.hid (sub_ok (fresh_ok HL.out.2.1 HL.out.1 hsl4.1 hsl4.2 ns) (by decide) ⟨#[97, 98, 99]⟩ 4 3)
    have HSC := Lib.hid (sub_c (ns := ns) HL.out.2.1 hsl4.1 abc_may)
    clear hc10 hcp10 hl10 ha10 hf10 HF
    skip
    have hfs : FsC (S.sub ⟨#[97, 98, 99]⟩ 4 3 ns) ns sl := by
      cases hd : ((S.add ⟨#[97, 98, 99]⟩ 4 3 0 ns).tell 1).isDone 1 with
      | true => exact .inl (sub_over HL.out.2.1 hsl4.1 abc_may hd)
      | false => exact .inr ⟨S, _, 4, 3, HL.out.2.1, abc_may, hd, HFZ.out, rfl, by rw [HL.out.2.2.1]; exact Int.le_refl _, by rw [HL.out.2.2.1]; decide⟩
    have hh3 : Heard (S.sub ⟨#[97, 98, 99]⟩ 4 3 ns) (fun _ => 0) := (HL.out.1.cong (fun v h1 h2 => (HLA.out v h1 h2).symm)).same HSC.out.1 HSC.out.2.1 HSC.out.2.2
    have hc3 : (S.sub ⟨#[97, 98, 99]⟩ 4 3 ns).c = C := by rw [HSC.out.1]; exact HL.out.2.2.2.1
    have hok3 : (S.sub ⟨#[97, 98, 99]⟩ 4 3 ns).OK ns (2000 + 24 * ((0 : Nat) : Int)) := HOK.out.mono (by decide)
    obtain ⟨S3, hS3⟩ : ∃ x, S.sub ⟨#[97, 98, 99]⟩ 4 3 ns = x := ⟨_, rfl⟩
    rw [hS3] at hfs hh3 hc3 hok3 HF10
    obtain ⟨cp, hcp⟩ : ∃ cp : Nat, c.cp = (cp : Int) := ⟨c.cp.toNat, by have := HMO.out.2.2.2.1; omega⟩
    have hcp3 : 1 ≤ cp ∧ cp ≤ 3 ∧ cp ≤ wk := by have h1 := HMO.out; have h2 := HWK.out; omega
    have hccp : C.cp = (cp : Int) := by rw [← HCC.out]; exact hcp
    obtain ⟨mo, hmo⟩ : ∃ mo : Nat, mostC c.he1 = (mo : Int) := ⟨(mostC c.he1).toNat, by have h : 0 ≤ mostC c.he1 := (by unfold mostC clipI; omega); omega⟩
    have hmo2 : clipI C.ca + clipI C.ji = (mo : Int) := by rw [← HCC.out]; exact hmo
    have hmo60 : mo ≤ 60 := by have h1 := HMO.out; have h2 : mostC c.he1 = clipI c.ca + clipI c.ji := rfl; unfold clipI at h2; omega
    have HRI := Lib.hid (show RndI C ns sl 0 0 [] S3 A10 [0, 0, 0, 0, 0, 0] from ⟨HNS2.out, rfl, hc3, hh3, hok3, .inl ⟨rfl, hfs⟩, fun h => absurd h (by decide)⟩)
    have hcsl : C.sl = (sl : Int) := by rw [← HCC.out]; exact HSL.out
    have HK := Lib.hid (show C.cp = (cp : Int) ∧ clipI C.ca + clipI C.ji = (mo : Int) ∧ C.sl = (sl : Int) ∧ C.wk = (wk : Int) ∧ C.cp ≤ C.wk from ⟨hccp, hmo2, hcsl, HWC.out, by rw [hccp, HWC.out]; omega⟩)
    have HMOST := Lib.hid (fun V => most_any c.he1 V)
    rw [hmo] at HMOST
    rw [show c.he1.val = .agg #[.slice c.aw c.nw c.cw, .slice c.ac c.nc c.cc, .int .i64 c.wk, .int .i64 c.cp, .int .i64 c.sl, .int .i64 c.ba, .int .i64 c.le, .int .i64 1000, .int .i64 c.fi, .int .i64 c.ca, .int .i64 c.ji, .int .i64 c.ne] from rfl] at HMOST
    have HCPN := Lib.hid hcp
    clear hfs hh3 hc3 hok3 hS3 HLA HFZ HCE HCP HCS HCW HOK HSC HNS2 HL hccp hmo2 hcsl hcp hmo
    go_wp2_with fail
    have hcfg1 : ∀ {V : World}, Below w.heap.size w V → CfgOK V c.he1 := fun hV => by have q := HCF.out.below hV rfl; exact ⟨q.rw, q.rk, q.hw, q.hk⟩
    obtain ⟨lb, hlb⟩ : ∃ n, w10.heap.size = n := ⟨_, rfl⟩
    obtain ⟨O11, hO11⟩ : ∃ o, O10.upd w10.heap.size 0 = o := ⟨_, rfl⟩
    obtain ⟨w11, hw11⟩ : ∃ V, w10.alloc (.cells #[.int .i64 0, .int .i64 0, .int .i64 0, .int .i64 0, .int .i64 0, .int .i64 0] 41) = V := ⟨_, rfl⟩
    have hf11 := HF10.out.alloc 41 (ints [0, 0, 0, 0, 0, 0])
    rw [hO11] at hf11
    have hlb1 : w.heap.size < lb := by have := (HF10.out.box (w.heap.size, 25, [.slice c.aw c.nw c.cw, .slice c.ac c.nc c.cc, .int .i64 c.wk, .int .i64 c.cp, .int .i64 c.sl, .int .i64 c.ba, .int .i64 c.le, .int .i64 1000, .int .i64 c.fi, .int .i64 c.ca, .int .i64 c.ji, .int .i64 c.ne]) (by simp)).1.lt; omega
    have HF11 := Lib.hid (show FrS w w11 O11 A10 p S3 ((lb, 41, ints [0, 0, 0, 0, 0, 0]) :: [(w.heap.size, 25, [.slice c.aw c.nw c.cw, .slice c.ac c.nc c.cc, .int .i64 c.wk, .int .i64 c.cp, .int .i64 c.sl, .int .i64 c.ba, .int .i64 c.le, .int .i64 1000, .int .i64 c.fi, .int .i64 c.ca, .int .i64 c.ji, .int .i64 c.ne])]) from by rw [← hw11, ← hlb]; exact hf11)
    rw [hlb, hw11]
    have HLB := Lib.hid hlb1
    clear hf11 hlb1 hlb hO11 hw11 HF10
    go_loopw [11, 13] (fun v11 v13 wr => RndR w p C ns sl lb hn [(w.heap.size, 25, [.slice c.aw c.nw c.cw, .slice c.ac c.nc c.cc, .int .i64 c.wk, .int .i64 c.cp, .int .i64 c.sl, .int .i64 c.ba, .int .i64 c.le, .int .i64 1000, .int .i64 c.fi, .int .i64 c.ca, .int .i64 c.ji, .int .i64 c.ne])] v11 v13 wr) (fun _ v _ => hn - (intOf v).toNat)
    case atStart => exact ⟨0, 0, [], S3, O11, A10, [0, 0, 0, 0, 0, 0], Nat.zero_le _, rfl, rfl, HF11.out, HRI.out⟩
    case round =>
      clear HF11 HRI
      obtain ⟨i, n, W, S, O, A, l, hi, rfl, rfl, HF, HI⟩ := hrel
      have HFE := Lib.hid (show FrS w wr O A p S ((lb, 41, ints l) :: [(w.heap.size, 25, [.slice c.aw c.nw c.cw, .slice c.ac c.nc c.cc, .int .i64 c.wk, .int .i64 c.cp, .int .i64 c.sl, .int .i64 c.ba, .int .i64 c.le, .int .i64 1000, .int .i64 c.fi, .int .i64 c.ca, .int .i64 c.ji, .int .i64 c.ne])]) from HF.out)
      by_cases hlt : i < hn
      rotate_left 1
      · have hih : i = hn := by omega
        subst hih
        go_wp2_with fail
        refine (awake24_any _).mono ?_
        rintro e wa ⟨rfl, hb⟩
        have HFE2 := Lib.hid (HFE.out.below hb)
        clear hb
        go_wp2_with fail
        go_ret
        exact ⟨rfl, HFE2.out.bel⟩
      clear HFE
      have e1 : (i : Int) < (hn : Int) := by omega
      have e2 : (0 : Int) ≤ (i : Int) := by omega
      skip
      have HFD := Lib.hid HF.out.drew
      have z0 : wr.drew.cell? ⟨w.heap.size, 0, none⟩ = some (.slice c.aw c.nw c.cw) := HFD.out.cell (e := 25) (cs := [.slice c.aw c.nw c.cw, .slice c.ac c.nc c.cc, .int .i64 c.wk, .int .i64 c.cp, .int .i64 c.sl, .int .i64 c.ba, .int .i64 c.le, .int .i64 1000, .int .i64 c.fi, .int .i64 c.ca, .int .i64 c.ji, .int .i64 c.ne]) (b := w.heap.size) (by simp) 0
      have z1 : wr.drew.cell? ⟨w.heap.size, 1, none⟩ = some (.slice c.ac c.nc c.cc) := HFD.out.cell (e := 25) (cs := [.slice c.aw c.nw c.cw, .slice c.ac c.nc c.cc, .int .i64 c.wk, .int .i64 c.cp, .int .i64 c.sl, .int .i64 c.ba, .int .i64 c.le, .int .i64 1000, .int .i64 c.fi, .int .i64 c.ca, .int .i64 c.ji, .int .i64 c.ne]) (b := w.heap.size) (by simp) 1
      have z2 : wr.drew.cell? ⟨w.heap.size, 2, none⟩ = some (.int .i64 c.wk) := HFD.out.cell (e := 25) (cs := [.slice c.aw c.nw c.cw, .slice c.ac c.nc c.cc, .int .i64 c.wk, .int .i64 c.cp, .int .i64 c.sl, .int .i64 c.ba, .int .i64 c.le, .int .i64 1000, .int .i64 c.fi, .int .i64 c.ca, .int .i64 c.ji, .int .i64 c.ne]) (b := w.heap.size) (by simp) 2
      have z3 : wr.drew.cell? ⟨w.heap.size, 3, none⟩ = some (.int .i64 c.cp) := HFD.out.cell (e := 25) (cs := [.slice c.aw c.nw c.cw, .slice c.ac c.nc c.cc, .int .i64 c.wk, .int .i64 c.cp, .int .i64 c.sl, .int .i64 c.ba, .int .i64 c.le, .int .i64 1000, .int .i64 c.fi, .int .i64 c.ca, .int .i64 c.ji, .int .i64 c.ne]) (b := w.heap.size) (by simp) 3
      have z4 : wr.drew.cell? ⟨w.heap.size, 4, none⟩ = some (.int .i64 c.sl) := HFD.out.cell (e := 25) (cs := [.slice c.aw c.nw c.cw, .slice c.ac c.nc c.cc, .int .i64 c.wk, .int .i64 c.cp, .int .i64 c.sl, .int .i64 c.ba, .int .i64 c.le, .int .i64 1000, .int .i64 c.fi, .int .i64 c.ca, .int .i64 c.ji, .int .i64 c.ne]) (b := w.heap.size) (by simp) 4
      have z5 : wr.drew.cell? ⟨w.heap.size, 5, none⟩ = some (.int .i64 c.ba) := HFD.out.cell (e := 25) (cs := [.slice c.aw c.nw c.cw, .slice c.ac c.nc c.cc, .int .i64 c.wk, .int .i64 c.cp, .int .i64 c.sl, .int .i64 c.ba, .int .i64 c.le, .int .i64 1000, .int .i64 c.fi, .int .i64 c.ca, .int .i64 c.ji, .int .i64 c.ne]) (b := w.heap.size) (by simp) 5
      have z6 : wr.drew.cell? ⟨w.heap.size, 6, none⟩ = some (.int .i64 c.le) := HFD.out.cell (e := 25) (cs := [.slice c.aw c.nw c.cw, .slice c.ac c.nc c.cc, .int .i64 c.wk, .int .i64 c.cp, .int .i64 c.sl, .int .i64 c.ba, .int .i64 c.le, .int .i64 1000, .int .i64 c.fi, .int .i64 c.ca, .int .i64 c.ji, .int .i64 c.ne]) (b := w.heap.size) (by simp) 6
      have z7 : wr.drew.cell? ⟨w.heap.size, 7, none⟩ = some (.int .i64 1000) := HFD.out.cell (e := 25) (cs := [.slice c.aw c.nw c.cw, .slice c.ac c.nc c.cc, .int .i64 c.wk, .int .i64 c.cp, .int .i64 c.sl, .int .i64 c.ba, .int .i64 c.le, .int .i64 1000, .int .i64 c.fi, .int .i64 c.ca, .int .i64 c.ji, .int .i64 c.ne]) (b := w.heap.size) (by simp) 7
      have z8 : wr.drew.cell? ⟨w.heap.size, 8, none⟩ = some (.int .i64 c.fi) := HFD.out.cell (e := 25) (cs := [.slice c.aw c.nw c.cw, .slice c.ac c.nc c.cc, .int .i64 c.wk, .int .i64 c.cp, .int .i64 c.sl, .int .i64 c.ba, .int .i64 c.le, .int .i64 1000, .int .i64 c.fi, .int .i64 c.ca, .int .i64 c.ji, .int .i64 c.ne]) (b := w.heap.size) (by simp) 8
      have z9 : wr.drew.cell? ⟨w.heap.size, 9, none⟩ = some (.int .i64 c.ca) := HFD.out.cell (e := 25) (cs := [.slice c.aw c.nw c.cw, .slice c.ac c.nc c.cc, .int .i64 c.wk, .int .i64 c.cp, .int .i64 c.sl, .int .i64 c.ba, .int .i64 c.le, .int .i64 1000, .int .i64 c.fi, .int .i64 c.ca, .int .i64 c.ji, .int .i64 c.ne]) (b := w.heap.size) (by simp) 9
      have z10 : wr.drew.cell? ⟨w.heap.size, 10, none⟩ = some (.int .i64 c.ji) := HFD.out.cell (e := 25) (cs := [.slice c.aw c.nw c.cw, .slice c.ac c.nc c.cc, .int .i64 c.wk, .int .i64 c.cp, .int .i64 c.sl, .int .i64 c.ba, .int .i64 c.le, .int .i64 1000, .int .i64 c.fi, .int .i64 c.ca, .int .i64 c.ji, .int .i64 c.ne]) (b := w.heap.size) (by simp) 10
      have z11 : wr.drew.cell? ⟨w.heap.size, 11, none⟩ = some (.int .i64 c.ne) := HFD.out.cell (e := 25) (cs := [.slice c.aw c.nw c.cw, .slice c.ac c.nc c.cc, .int .i64 c.wk, .int .i64 c.cp, .int .i64 c.sl, .int .i64 c.ba, .int .i64 c.le, .int .i64 1000, .int .i64 c.fi, .int .i64 c.ca, .int .i64 c.ji, .int .i64 c.ne]) (b := w.heap.size) (by simp) 11
      have HXY := Lib.hid (show wr.drew.cell? ⟨w.heap.size, 0, none⟩ = some (.slice c.aw c.nw c.cw) ∧ wr.drew.cell? ⟨w.heap.size, 1, none⟩ = some (.slice c.ac c.nc c.cc) ∧ wr.drew.cell? ⟨w.heap.size, 2, none⟩ = some (.int .i64 c.wk) ∧ wr.drew.cell? ⟨w.heap.size, 3, none⟩ = some (.int .i64 c.cp) ∧ wr.drew.cell? ⟨w.heap.size, 4, none⟩ = some (.int .i64 c.sl) ∧ wr.drew.cell? ⟨w.heap.size, 5, none⟩ = some (.int .i64 c.ba) ∧ wr.drew.cell? ⟨w.heap.size, 6, none⟩ = some (.int .i64 c.le) ∧ wr.drew.cell? ⟨w.heap.size, 7, none⟩ = some (.int .i64 1000) ∧ wr.drew.cell? ⟨w.heap.size, 8, none⟩ = some (.int .i64 c.fi) ∧ wr.drew.cell? ⟨w.heap.size, 9, none⟩ = some (.int .i64 c.ca) ∧ wr.drew.cell? ⟨w.heap.size, 10, none⟩ = some (.int .i64 c.ji) ∧ wr.drew.cell? ⟨w.heap.size, 11, none⟩ = some (.int .i64 c.ne) from ⟨z0, z1, z2, z3, z4, z5, z6, z7, z8, z9, z10, z11⟩)
      clear z0 z1 z2 z3 z4 z5 z6 z7 z8 z9 z10 z11
      have hnw := now_any wr.drew HFD.out.cw
      obtain ⟨nw, hnwv⟩ : ∃ x, S.now = x := ⟨_, rfl⟩
      rw [hnwv] at hnw
      have HNW := Lib.hid hnw
      have hnb := HI.out.hd.now
      rw [hnwv] at hnb
      have HNV := Lib.hid hnwv
      have ewm : IntKind.i64.wrap (nw + (mo : Int)) = nw + (mo : Int) := wr_in _ (by omega) (by omega)
      clear hnw hnwv
      go_upto_region 72 with fail
      refine wp_region_held_drew (S := (fun w' => w'.cell? ⟨w.heap.size, 0, none⟩ = some (.slice c.aw c.nw c.cw) ∧ w'.cell? ⟨w.heap.size, 1, none⟩ = some (.slice c.ac c.nc c.cc) ∧ w'.cell? ⟨w.heap.size, 2, none⟩ = some (.int .i64 c.wk) ∧ w'.cell? ⟨w.heap.size, 3, none⟩ = some (.int .i64 c.cp) ∧ w'.cell? ⟨w.heap.size, 4, none⟩ = some (.int .i64 c.sl) ∧ w'.cell? ⟨w.heap.size, 5, none⟩ = some (.int .i64 c.ba) ∧ w'.cell? ⟨w.heap.size, 6, none⟩ = some (.int .i64 c.le) ∧ w'.cell? ⟨w.heap.size, 7, none⟩ = some (.int .i64 1000) ∧ w'.cell? ⟨w.heap.size, 8, none⟩ = some (.int .i64 c.fi) ∧ w'.cell? ⟨w.heap.size, 9, none⟩ = some (.int .i64 c.ca) ∧ w'.cell? ⟨w.heap.size, 10, none⟩ = some (.int .i64 c.ji) ∧ w'.cell? ⟨w.heap.size, 11, none⟩ = some (.int .i64 c.ne))) (by kernel_rfl) (by first | exact HXY.out | exact HXY2.out) (fun hHeld => ?_)
      refine takeO 0 (some 72) (v := ?_) rfl rfl (by kernel_rfl) (by kernel_rfl) (by kernel_rfl) (fun _ _ _ h => h) (Or.inl ⟨by rfl, ?_⟩) (by assumption) ?_
      rotate_left 1
      · intro w hSw; (try dsimp only at hSw); go_simp; all_goals with_reducible rfl
      try simp only [Act.put, List.setIfInBounds_toArray, List.set_cons_zero, List.set_cons_succ]
      refine takeO 2 (some 74) (v := ?_) rfl rfl (by kernel_rfl) (by kernel_rfl) (by kernel_rfl) (fun _ _ _ h => h) (Or.inl ⟨by rfl, ?_⟩) (by assumption) ?_
      rotate_left 1
      · intro w hSw; (try dsimp only at hSw); go_simp; all_goals with_reducible rfl
      try simp only [Act.put, List.setIfInBounds_toArray, List.set_cons_zero, List.set_cons_succ]
      refine wpAnyH_ready (rs := [1]) (by kernel_rfl) (by simp) ?_
      refine AllReadyH.cons rfl (fun K hK => ?_) AllReadyH.nil
      go_simp
      refine HNW.out.mono ?_; rintro e w' ⟨rfl, rfl⟩; clear HNW
      go_wp2_with fail
      refine hK.out _ _ (by first | exact HXY.out | exact HXY2.out) (fun hHeld => ?_)
      clear hK K
      try simp only [Act.put, List.setIfInBounds_toArray, List.set_cons_zero, List.set_cons_succ]
      refine wpAnyH_ready (rs := [3]) (by kernel_rfl) (by simp) ?_
      refine AllReadyH.cons rfl (fun K hK => ?_) AllReadyH.nil
      go_simp
      refine (HMOST.out _).mono ?_; rintro e v1 ⟨rfl, hb⟩; have HF1 := Lib.hid (HFD.out.below hb); have HXY2 := Lib.hid (show v1.cell? ⟨w.heap.size, 0, none⟩ = some (.slice c.aw c.nw c.cw) ∧ v1.cell? ⟨w.heap.size, 1, none⟩ = some (.slice c.ac c.nc c.cc) ∧ v1.cell? ⟨w.heap.size, 2, none⟩ = some (.int .i64 c.wk) ∧ v1.cell? ⟨w.heap.size, 3, none⟩ = some (.int .i64 c.cp) ∧ v1.cell? ⟨w.heap.size, 4, none⟩ = some (.int .i64 c.sl) ∧ v1.cell? ⟨w.heap.size, 5, none⟩ = some (.int .i64 c.ba) ∧ v1.cell? ⟨w.heap.size, 6, none⟩ = some (.int .i64 c.le) ∧ v1.cell? ⟨w.heap.size, 7, none⟩ = some (.int .i64 1000) ∧ v1.cell? ⟨w.heap.size, 8, none⟩ = some (.int .i64 c.fi) ∧ v1.cell? ⟨w.heap.size, 9, none⟩ = some (.int .i64 c.ca) ∧ v1.cell? ⟨w.heap.size, 10, none⟩ = some (.int .i64 c.ji) ∧ v1.cell? ⟨w.heap.size, 11, none⟩ = some (.int .i64 c.ne) from ⟨HF1.out.cell (e := 25) (cs := [.slice c.aw c.nw c.cw, .slice c.ac c.nc c.cc, .int .i64 c.wk, .int .i64 c.cp, .int .i64 c.sl, .int .i64 c.ba, .int .i64 c.le, .int .i64 1000, .int .i64 c.fi, .int .i64 c.ca, .int .i64 c.ji, .int .i64 c.ne]) (b := w.heap.size) (by simp) 0, HF1.out.cell (e := 25) (cs := [.slice c.aw c.nw c.cw, .slice c.ac c.nc c.cc, .int .i64 c.wk, .int .i64 c.cp, .int .i64 c.sl, .int .i64 c.ba, .int .i64 c.le, .int .i64 1000, .int .i64 c.fi, .int .i64 c.ca, .int .i64 c.ji, .int .i64 c.ne]) (b := w.heap.size) (by simp) 1, HF1.out.cell (e := 25) (cs := [.slice c.aw c.nw c.cw, .slice c.ac c.nc c.cc, .int .i64 c.wk, .int .i64 c.cp, .int .i64 c.sl, .int .i64 c.ba, .int .i64 c.le, .int .i64 1000, .int .i64 c.fi, .int .i64 c.ca, .int .i64 c.ji, .int .i64 c.ne]) (b := w.heap.size) (by simp) 2, HF1.out.cell (e := 25) (cs := [.slice c.aw c.nw c.cw, .slice c.ac c.nc c.cc, .int .i64 c.wk, .int .i64 c.cp, .int .i64 c.sl, .int .i64 c.ba, .int .i64 c.le, .int .i64 1000, .int .i64 c.fi, .int .i64 c.ca, .int .i64 c.ji, .int .i64 c.ne]) (b := w.heap.size) (by simp) 3, HF1.out.cell (e := 25) (cs := [.slice c.aw c.nw c.cw, .slice c.ac c.nc c.cc, .int .i64 c.wk, .int .i64 c.cp, .int .i64 c.sl, .int .i64 c.ba, .int .i64 c.le, .int .i64 1000, .int .i64 c.fi, .int .i64 c.ca, .int .i64 c.ji, .int .i64 c.ne]) (b := w.heap.size) (by simp) 4, HF1.out.cell (e := 25) (cs := [.slice c.aw c.nw c.cw, .slice c.ac c.nc c.cc, .int .i64 c.wk, .int .i64 c.cp, .int .i64 c.sl, .int .i64 c.ba, .int .i64 c.le, .int .i64 1000, .int .i64 c.fi, .int .i64 c.ca, .int .i64 c.ji, .int .i64 c.ne]) (b := w.heap.size) (by simp) 5, HF1.out.cell (e := 25) (cs := [.slice c.aw c.nw c.cw, .slice c.ac c.nc c.cc, .int .i64 c.wk, .int .i64 c.cp, .int .i64 c.sl, .int .i64 c.ba, .int .i64 c.le, .int .i64 1000, .int .i64 c.fi, .int .i64 c.ca, .int .i64 c.ji, .int .i64 c.ne]) (b := w.heap.size) (by simp) 6, HF1.out.cell (e := 25) (cs := [.slice c.aw c.nw c.cw, .slice c.ac c.nc c.cc, .int .i64 c.wk, .int .i64 c.cp, .int .i64 c.sl, .int .i64 c.ba, .int .i64 c.le, .int .i64 1000, .int .i64 c.fi, .int .i64 c.ca, .int .i64 c.ji, .int .i64 c.ne]) (b := w.heap.size) (by simp) 7, HF1.out.cell (e := 25) (cs := [.slice c.aw c.nw c.cw, .slice c.ac c.nc c.cc, .int .i64 c.wk, .int .i64 c.cp, .int .i64 c.sl, .int .i64 c.ba, .int .i64 c.le, .int .i64 1000, .int .i64 c.fi, .int .i64 c.ca, .int .i64 c.ji, .int .i64 c.ne]) (b := w.heap.size) (by simp) 8, HF1.out.cell (e := 25) (cs := [.slice c.aw c.nw c.cw, .slice c.ac c.nc c.cc, .int .i64 c.wk, .int .i64 c.cp, .int .i64 c.sl, .int .i64 c.ba, .int .i64 c.le, .int .i64 1000, .int .i64 c.fi, .int .i64 c.ca, .int .i64 c.ji, .int .i64 c.ne]) (b := w.heap.size) (by simp) 9, HF1.out.cell (e := 25) (cs := [.slice c.aw c.nw c.cw, .slice c.ac c.nc c.cc, .int .i64 c.wk, .int .i64 c.cp, .int .i64 c.sl, .int .i64 c.ba, .int .i64 c.le, .int .i64 1000, .int .i64 c.fi, .int .i64 c.ca, .int .i64 c.ji, .int .i64 c.ne]) (b := w.heap.size) (by simp) 10, HF1.out.cell (e := 25) (cs := [.slice c.aw c.nw c.cw, .slice c.ac c.nc c.cc, .int .i64 c.wk, .int .i64 c.cp, .int .i64 c.sl, .int .i64 c.ba, .int .i64 c.le, .int .i64 1000, .int .i64 c.fi, .int .i64 c.ca, .int .i64 c.ji, .int .i64 c.ne]) (b := w.heap.size) (by simp) 11⟩); clear hb
      go_wp2_with fail
      refine hK.out _ _ (by first | exact HXY.out | exact HXY2.out) (fun hHeld => ?_)
      clear hK K
      try simp only [Act.put, List.setIfInBounds_toArray, List.set_cons_zero, List.set_cons_succ]
      refine takeO 4 (some 76) (v := ?_) rfl rfl (by kernel_rfl) (by kernel_rfl) (by kernel_rfl) (fun _ _ _ h => h) (Or.inl ⟨by rfl, ?_⟩) (by assumption) ?_
      rotate_left 1
      · intro w hSw; (try dsimp only at hSw); go_simp; all_goals with_reducible rfl
      try simp only [Act.put, List.setIfInBounds_toArray, List.set_cons_zero, List.set_cons_succ]
      refine takeO 5 (some 77) (v := ?_) rfl rfl (by kernel_rfl) (by kernel_rfl) (by kernel_rfl) (fun _ _ _ h => h) (Or.inl ⟨by rfl, ?_⟩) (by assumption) ?_
      rotate_left 1
      · intro w hSw; (try dsimp only at hSw); go_simp; all_goals with_reducible rfl
      try simp only [Act.put, List.setIfInBounds_toArray, List.set_cons_zero, List.set_cons_succ]
      refine wpAnyH_done (by kernel_rfl) ?_ _
      clear hHeld HXY HXY2 HFD HF
      skip
      by_cases hbr : 1000 ≤ nw + (mo : Int)
      · go_wp2_with fail
        refine (awake24_any _).mono ?_
        rintro e wa ⟨rfl, hb⟩
        have HFE2 := Lib.hid (HF1.out.below hb)
        clear hb
        go_wp2_with fail
        go_ret
        exact ⟨rfl, HFE2.out.bel⟩
      have hbr2 : nw + (mo : Int) < 1000 := by omega
      clear hbr
      obtain ⟨hv, hhv⟩ : ∃ x, hd[i]? = some x := ⟨hd[i]'(by omega), List.getElem?_eq_getElem _⟩
      have hrd := HR.out.below HF1.out.bel rfl
      obtain ⟨hb0, ho0, hae, hbl0, hcl0⟩ := hrd.2.2.2.2 i hlt
      have hcl : v1.cell? ⟨hb0, ho0 + i, none⟩ = some (.int .i64 hv) := by have e := hcl0; rw [show (ints hd)[i]? = some (.int .i64 hv) from by unfold ints; rw [List.getElem?_map, hhv]; rfl] at e; exact e
      subst hae
      have hwk := cwake_any O A p S hv (2000 + 24 * (i : Int)) sl v1 HF1.out.cw (by rw [HI.out.cps]; exact HI.out.ok) (by omega) (by omega) (by rw [HI.out.cps]; omega) (by rw [HI.out.c, HK.out.1]; omega) (by rw [HI.out.c, HK.out.1]; omega) (by rw [HI.out.c]; exact HK.out.2.2.1) hsl4.2
      have HWA := Lib.hid hwk
      have hwkn := wakeN_ok (S := S) (ns := ns) HI.out.ok hv (by rw [HI.out.c, HK.out.1]; omega) (by omega) (by omega) S.c.sl.toNat
      have hlk : Lk S (S.wake hv).1 := wakeN_lk S hv S.c.sl.toNat
      have hnow : 0 ≤ S.now ∧ S.now ≤ 1000 := by rw [HNV.out]; omega
      obtain ⟨W2, hW2, hlet, hrc⟩ := round_wake HI.out.rb (by omega) hsl4.1 hnow (by rw [HI.out.c]; exact HK.out.2.2.1) hv
      have hrl := round_let HI.out.hd (by rw [HI.out.c, HK.out.2.2.2.1]; omega) (by rw [HI.out.c, HK.out.1]; omega) (fun _ _ _ => rfl) (i : Nat) W2
      rw [hrl] at hlet
      rw [HI.out.c, HK.out.2.1, HNV.out] at hrc
      have hok4 : (S.wake hv).1.OK ns (2000 + 24 * ((i + 1 : Nat) : Int)) := by have h1 := hwkn.1; rw [HI.out.c, HK.out.2.2.1, Int.toNat_natCast] at h1; unfold CS.wake; rw [HI.out.c, HK.out.2.2.1, Int.toNat_natCast]; exact h1.mono (by omega)
      have hi4 : (S.wake hv).1.c = C ∧ Heard (S.wake hv).1 (fun _ => 0) ∧ (S.wake hv).1.now = nw := ⟨hlk.c.trans HI.out.c, HI.out.hd.lk hlk, hlk.now.trans HNV.out⟩
      obtain ⟨S4, hS4⟩ : ∃ x, (S.wake hv).1 = x := ⟨_, rfl⟩
      obtain ⟨LL, hLL⟩ : ∃ x, (S.wake hv).2 = x := ⟨_, rfl⟩
      rw [hS4] at hrc hok4 hi4
      rw [hLL] at hlet
      have HW2 := Lib.hid hW2
      have HLET := Lib.hid hlet
      have HRC := Lib.hid hrc
      have HOK4 := Lib.hid hok4
      have HI4 := Lib.hid hi4
      have HWS := Lib.hid (And.intro hS4 hLL)
      have HNB := Lib.hid hnb
      clear hhv hrd hbl0 hcl0 hwk hwkn hlk hnow hW2 hlet hrc hrl hok4 hi4 hS4 hLL hnb
      go_wp2_with fail
      clear hcl
      refine HWA.out.mono ?_
      clear HWA
      rintro e w11 ⟨v11, O12, rfl, hc12, hl12, ha12, hf12⟩
      rw [HWS.out.1] at hc12
      rw [HWS.out.2] at hl12
      have HF12 := Lib.hid (HF1.out.step hc12 ha12 hf12)
      obtain ⟨ao, cl, rfl, hrow, _⟩ := hl12
      have HROW := Lib.hid hrow
      have HLTB := Lib.hid (show lb < v1.heap.size from (HF1.out.box (lb, 41, ints l) (by simp)).1.lt)
      obtain ⟨nl, hnl⟩ : ∃ n, LL.length = n := ⟨_, rfl⟩
      rw [hnl] at HROW ⊢
      have HNL := Lib.hid hnl
      have HSC0 := Lib.hid HI.out.c
      obtain ⟨bs, hbs⟩ : ∃ n, v1.heap.size = n := ⟨_, rfl⟩
      rw [hbs] at HROW HLTB
      have hnw2 : nl = W2.length := by rw [← hnl, HLET.out, List.length_map]
      have HNW2 := Lib.hid hnw2
      have hcond : 1 ≤ i → n = nl := fun h => by rw [hnw2, HW2.out h]; exact (HI.out.last h).1
      clear hc12 ha12 hf12 hrow HF1 hbs hnl
      skip
      have hguard : ((nl : Int) != (n : Int)) = false ∨ i = 0 := by by_cases h : i = 0; (exact .inr h); (left; rw [bne_eq_false_iff_eq, hcond (by omega)])
      have HRK := Lib.hid (show RkI C.cp i 0 W2 l from ⟨HI.out.len, fun j s h => by omega, fun j s _ hs h1 => (HI.out.last h1).2 s (by rw [← HW2.out h1]; exact List.mem_of_getElem? hs)⟩)
      have HGU := Lib.hid hguard
      clear hguard hcond hnw2
      skip
      by_cases h0 : i = 0
      · subst h0
        have n0 : (nl : Int) ≥ 0 := by omega
        go_wp2_with fail
        skip
        clear HGU
        go_loopw [15] (fun v wr => RnkR w p C.cp lb 0 nl bs ao cl LL W2 S4 O12 A [(w.heap.size, 25, [.slice c.aw c.nw c.cw, .slice c.ac c.nc c.cc, .int .i64 c.wk, .int .i64 c.cp, .int .i64 c.sl, .int .i64 c.ba, .int .i64 c.le, .int .i64 1000, .int .i64 c.fi, .int .i64 c.ca, .int .i64 c.ji, .int .i64 c.ne])] v wr) (fun v _ => nl - (intOf v).toNat)
        case atStart => exact ⟨0, l, Nat.zero_le _, rfl, HF12.out, HROW.out, HRK.out⟩
        case round =>
          have HRDI := Lib.hid HI.out.cps
          clear HF12 HROW HRK HI
          obtain ⟨k, l, hk, rfl, HF, HROW, HK2⟩ := hrel
          by_cases hlk : k < nl
          rotate_left 1
          · have hkn : k = nl := by omega
            subst hkn
            skip
            have HRT := Lib.hid (show S4.c = C ∧ Heard S4 (fun _ => 0) ∧ S4.OK ns (2000 + 24 * ((0 + 1 : Nat) : Int)) ∧ RcC S4 ns sl 0 W2 (nw + mo) ∧ S4.now = nw + ((0 : Nat) : Int) from ⟨HI4.out.1, HI4.out.2.1, HOK4.out, HRC.out, by rw [HI4.out.2.2]; omega⟩)
            go_wp2_with fail
            go_loopw [20] (fun v wr => RntR w p C ns sl lb mo nw (2000 + 24 * ((0 + 1 : Nat) : Int)) 0 W2 A l [(w.heap.size, 25, [.slice c.aw c.nw c.cw, .slice c.ac c.nc c.cc, .int .i64 c.wk, .int .i64 c.cp, .int .i64 c.sl, .int .i64 c.ba, .int .i64 c.le, .int .i64 1000, .int .i64 c.fi, .int .i64 c.ca, .int .i64 c.ji, .int .i64 c.ne])] v wr) (fun v _ => mo - (intOf v).toNat)
            case atStart => exact ⟨0, S4, O12, Nat.zero_le _, rfl, HF.out, HRT.out⟩
            case round =>
              have HKE := Lib.hid (show RkI C.cp 0 k W2 l from HK2.out)
              clear HF HRT HK2
              obtain ⟨t, S5, O5, ht, rfl, HF, HT⟩ := hrel
              have z0 : wr.cell? ⟨w.heap.size, 0, none⟩ = some (.slice c.aw c.nw c.cw) := HF.out.cell (e := 25) (cs := [.slice c.aw c.nw c.cw, .slice c.ac c.nc c.cc, .int .i64 c.wk, .int .i64 c.cp, .int .i64 c.sl, .int .i64 c.ba, .int .i64 c.le, .int .i64 1000, .int .i64 c.fi, .int .i64 c.ca, .int .i64 c.ji, .int .i64 c.ne]) (b := w.heap.size) (by simp) 0
              have z1 : wr.cell? ⟨w.heap.size, 1, none⟩ = some (.slice c.ac c.nc c.cc) := HF.out.cell (e := 25) (cs := [.slice c.aw c.nw c.cw, .slice c.ac c.nc c.cc, .int .i64 c.wk, .int .i64 c.cp, .int .i64 c.sl, .int .i64 c.ba, .int .i64 c.le, .int .i64 1000, .int .i64 c.fi, .int .i64 c.ca, .int .i64 c.ji, .int .i64 c.ne]) (b := w.heap.size) (by simp) 1
              have z2 : wr.cell? ⟨w.heap.size, 2, none⟩ = some (.int .i64 c.wk) := HF.out.cell (e := 25) (cs := [.slice c.aw c.nw c.cw, .slice c.ac c.nc c.cc, .int .i64 c.wk, .int .i64 c.cp, .int .i64 c.sl, .int .i64 c.ba, .int .i64 c.le, .int .i64 1000, .int .i64 c.fi, .int .i64 c.ca, .int .i64 c.ji, .int .i64 c.ne]) (b := w.heap.size) (by simp) 2
              have z3 : wr.cell? ⟨w.heap.size, 3, none⟩ = some (.int .i64 c.cp) := HF.out.cell (e := 25) (cs := [.slice c.aw c.nw c.cw, .slice c.ac c.nc c.cc, .int .i64 c.wk, .int .i64 c.cp, .int .i64 c.sl, .int .i64 c.ba, .int .i64 c.le, .int .i64 1000, .int .i64 c.fi, .int .i64 c.ca, .int .i64 c.ji, .int .i64 c.ne]) (b := w.heap.size) (by simp) 3
              have z4 : wr.cell? ⟨w.heap.size, 4, none⟩ = some (.int .i64 c.sl) := HF.out.cell (e := 25) (cs := [.slice c.aw c.nw c.cw, .slice c.ac c.nc c.cc, .int .i64 c.wk, .int .i64 c.cp, .int .i64 c.sl, .int .i64 c.ba, .int .i64 c.le, .int .i64 1000, .int .i64 c.fi, .int .i64 c.ca, .int .i64 c.ji, .int .i64 c.ne]) (b := w.heap.size) (by simp) 4
              have z5 : wr.cell? ⟨w.heap.size, 5, none⟩ = some (.int .i64 c.ba) := HF.out.cell (e := 25) (cs := [.slice c.aw c.nw c.cw, .slice c.ac c.nc c.cc, .int .i64 c.wk, .int .i64 c.cp, .int .i64 c.sl, .int .i64 c.ba, .int .i64 c.le, .int .i64 1000, .int .i64 c.fi, .int .i64 c.ca, .int .i64 c.ji, .int .i64 c.ne]) (b := w.heap.size) (by simp) 5
              have z6 : wr.cell? ⟨w.heap.size, 6, none⟩ = some (.int .i64 c.le) := HF.out.cell (e := 25) (cs := [.slice c.aw c.nw c.cw, .slice c.ac c.nc c.cc, .int .i64 c.wk, .int .i64 c.cp, .int .i64 c.sl, .int .i64 c.ba, .int .i64 c.le, .int .i64 1000, .int .i64 c.fi, .int .i64 c.ca, .int .i64 c.ji, .int .i64 c.ne]) (b := w.heap.size) (by simp) 6
              have z7 : wr.cell? ⟨w.heap.size, 7, none⟩ = some (.int .i64 1000) := HF.out.cell (e := 25) (cs := [.slice c.aw c.nw c.cw, .slice c.ac c.nc c.cc, .int .i64 c.wk, .int .i64 c.cp, .int .i64 c.sl, .int .i64 c.ba, .int .i64 c.le, .int .i64 1000, .int .i64 c.fi, .int .i64 c.ca, .int .i64 c.ji, .int .i64 c.ne]) (b := w.heap.size) (by simp) 7
              have z8 : wr.cell? ⟨w.heap.size, 8, none⟩ = some (.int .i64 c.fi) := HF.out.cell (e := 25) (cs := [.slice c.aw c.nw c.cw, .slice c.ac c.nc c.cc, .int .i64 c.wk, .int .i64 c.cp, .int .i64 c.sl, .int .i64 c.ba, .int .i64 c.le, .int .i64 1000, .int .i64 c.fi, .int .i64 c.ca, .int .i64 c.ji, .int .i64 c.ne]) (b := w.heap.size) (by simp) 8
              have z9 : wr.cell? ⟨w.heap.size, 9, none⟩ = some (.int .i64 c.ca) := HF.out.cell (e := 25) (cs := [.slice c.aw c.nw c.cw, .slice c.ac c.nc c.cc, .int .i64 c.wk, .int .i64 c.cp, .int .i64 c.sl, .int .i64 c.ba, .int .i64 c.le, .int .i64 1000, .int .i64 c.fi, .int .i64 c.ca, .int .i64 c.ji, .int .i64 c.ne]) (b := w.heap.size) (by simp) 9
              have z10 : wr.cell? ⟨w.heap.size, 10, none⟩ = some (.int .i64 c.ji) := HF.out.cell (e := 25) (cs := [.slice c.aw c.nw c.cw, .slice c.ac c.nc c.cc, .int .i64 c.wk, .int .i64 c.cp, .int .i64 c.sl, .int .i64 c.ba, .int .i64 c.le, .int .i64 1000, .int .i64 c.fi, .int .i64 c.ca, .int .i64 c.ji, .int .i64 c.ne]) (b := w.heap.size) (by simp) 10
              have z11 : wr.cell? ⟨w.heap.size, 11, none⟩ = some (.int .i64 c.ne) := HF.out.cell (e := 25) (cs := [.slice c.aw c.nw c.cw, .slice c.ac c.nc c.cc, .int .i64 c.wk, .int .i64 c.cp, .int .i64 c.sl, .int .i64 c.ba, .int .i64 c.le, .int .i64 1000, .int .i64 c.fi, .int .i64 c.ca, .int .i64 c.ji, .int .i64 c.ne]) (b := w.heap.size) (by simp) 11
              go_wp2_with fail
              clear z0 z1 z2 z3 z4 z5 z6 z7 z8 z9 z10 z11
              refine (HMOST.out _).mono ?_
              rintro e w' ⟨rfl, hb⟩
              have HF2 := Lib.hid (HF.out.below hb)
              clear hb HF
              by_cases hlt2 : t < mo
              · have e5 : (t : Int) < (mo : Int) := by omega
                have hnn := HT.out.2.2.2.2
                have htk := tick_any _ HF2.out.cw (by have h := HNB.out; omega) (by have h := HNB.out; omega)
                have HTK := Lib.hid htk
                clear htk
                go_wp2_with fail
                refine HTK.out.mono ?_
                clear HTK
                rintro e w9 ⟨rfl, hc9, hf9⟩
                have HF9 := Lib.hid (HF2.out.step hc9 (AgO.refl _ _) hf9)
                have HT9 := Lib.hid (show S5.tick.c = C ∧ Heard S5.tick (fun _ => 0) ∧ S5.tick.OK ns (2000 + 24 * ((0 + 1 : Nat) : Int)) ∧ RcC S5.tick ns sl 0 W2 (nw + mo) ∧ S5.tick.now = nw + ((t + 1 : Nat) : Int) from ⟨HT.out.1, heard_tick HT.out.2.1 (by have h := HNB.out; omega), tick_ok2 HT.out.2.2.1 (by have h := HNB.out; omega), rc_tick HT.out.2.2.2.1, by have h := HNB.out; show min (S5.now + 1) _ = _; omega⟩)
                clear hc9 hf9 hnn
                go_wp2_with fail
                go_roundw
                case rel => first | exact ⟨t + 1, S5.tick, O5, by omega, by go_num, HF9.out, HT9.out⟩ | ((repeat apply Exists.intro); exact ⟨⟨t + 1, S5.tick, O5, by omega, by go_num, HF9.out, HT9.out⟩, rfl⟩)
                case measure => simp [intOf]; omega
              have htm : t = mo := by omega
              subst htm
              have hnn := HT.out.2.2.2.2
              have HNI := Lib.hid (show RndI C ns sl (0 + 1) k W2 S5 A l from ⟨HRDI.out, HKE.out.len, HT.out.1, HT.out.2.1, HT.out.2.2.1, rc_rb HT.out.2.2.2.1 (by omega), fun _ => ⟨HNW2.out, fun s hs => by
                obtain ⟨j, hj, e⟩ := List.mem_iff_getElem.1 hs
                have q := HKE.out.new j s (by rw [HNW2.out]; exact hj) (by rw [← e]; exact List.getElem?_eq_getElem hj)
                rw [q, show ((0 + 1 : Nat) : Int) - 1 = ((0 : Nat) : Int) by omega]⟩⟩)
              clear hnn
              go_wp2_with fail
              go_roundw
              case rel => first | exact ⟨0 + 1, k, W2, S5, O5, A, l, by omega, by go_num, rfl, HF2.out, HNI.out⟩ | ((repeat apply Exists.intro); exact ⟨⟨0 + 1, k, W2, S5, O5, A, l, by omega, by go_num, rfl, HF2.out, HNI.out⟩, rfl⟩)
              case measure => simp [intOf]; omega
          obtain ⟨s, hs⟩ : ∃ s, W2[k]? = some s := ⟨W2[k]'(by rw [← HNW2.out]; exact hlk), List.getElem?_eq_getElem _⟩
          have hnl6 : nl ≤ 6 := by rw [HNW2.out]; rcases HRC.out.2.2 with h | h; (rw [h.1]; decide); exact h.len6
          have hsn : s < ns := HRC.out.1 s (List.mem_of_getElem? hs)
          have hs5 : s ≤ 5 := by omega
          obtain ⟨tt, htt⟩ : ∃ tt : Nat, ((0 : Nat) : Int) % C.cp = (tt : Int) := ⟨(((0 : Nat) : Int) % C.cp).toNat, by have := Int.emod_nonneg ((0 : Nat) : Int) (show C.cp ≠ 0 by rw [HK.out.1]; omega); omega⟩
          have htc : tt < cp := by have := Int.emod_lt_of_pos ((0 : Nat) : Int) (show 0 < C.cp by rw [HK.out.1]; omega); rw [htt, HK.out.1] at this; omega
          obtain ⟨a0, a1, a3, a4, ax, a6, a7, a8, a9, ay, hlx⟩ : ∃ a0 a1 a3 a4 ax a6 a7 a8 a9 ay, LL[k]? = some (((copW C s tt : Nat) : Int), .ask a0 a1 (s : Nat) a3 a4 ax a6 a7 a8 a9 ay) := ⟨_, _, _, _, _, _, _, _, _, _, by rw [HLET.out, List.getElem?_map, hs]; show some (rlet S (0 : Nat) s) = _; unfold rlet; rw [HSC0.out, htt, Int.toNat_natCast]⟩
          obtain ⟨lbk, lof, hao, hlb9, hcel⟩ := (ownsRow_rdE (enc := LV.cells) (size := 2) (fun x => rfl) HNL.out HROW.out).2.2.2.2 k _ hlx
          subst hao
          have HLC := Lib.hid (show ∀ V : World, Below wr.heap.size wr V → V.cell? ⟨lbk, lof + k * 2, none⟩ = some (.int .i64 ((copW C s tt : Nat) : Int)) from fun V hV => (hV.cell (p := ⟨lbk, lof + k * 2, none⟩) hlb9).trans (hcel 0 (by decide)))
          have cm : wr.cell? ⟨lbk, lof + k * 2 + 1, none⟩ = some (.iface 48 (.agg #[.int .i64 a0, .int .i64 a1, .int .i64 (s : Nat), .int .i64 a3, .int .i64 a4, .string ax, .int .i64 a6, .int .i64 a7, .bool a8, .int .i64 a9, .string ay])) := hcel 1 (by decide)
          obtain ⟨ab, hab⟩ : ∃ n, wr.heap.size = n := ⟨_, rfl⟩
          obtain ⟨wq, hwq⟩ : ∃ V, wr.alloc (.cells #[.int .i64 a0, .int .i64 a1, .int .i64 (s : Nat), .int .i64 a3, .int .i64 a4, .string ax, .int .i64 a6, .int .i64 a7, .bool a8, .int .i64 a9, .string ay] 48) = V := ⟨_, rfl⟩
          have hbq : Below wr.heap.size wr wq := by rw [← hwq]; exact (Below.refl _ wr).alloc (Nat.le_refl _) _
          have y2 : wq.cell? ⟨ab, 2, none⟩ = some (.int .i64 (s : Nat)) := by rw [← hwq, ← hab]; exact (show Blk _ wr.heap.size 48 [.int .i64 a0, .int .i64 a1, .int .i64 (s : Nat), .int .i64 a3, .int .i64 a4, .string ax, .int .i64 a6, .int .i64 a7, .bool a8, .int .i64 a9, .string ay] from heap_alloc_new wr _).cell 2
          have HFQ := Lib.hid (HF.out.below hbq)
          have HBQ := Lib.hid hbq
          have HY2 := Lib.hid y2
          have HTT := Lib.hid htt
          have HS := Lib.hid hs
          have k1 : (0 : Int) ≤ (k : Int) := by omega
          have k2 : (k : Int) < (nl : Int) := by omega
          clear hlx hlb9 hcel htt hs hbq y2
          go_wp2_with (first | rw [ta_ask_ask] | (rw [hwq]; rw [hab]))
          clear cm
          skip
          have HFQD := Lib.hid HFQ.out.drew
          have z0 : wq.drew.cell? ⟨w.heap.size, 0, none⟩ = some (.slice c.aw c.nw c.cw) := HFQD.out.cell (e := 25) (cs := [.slice c.aw c.nw c.cw, .slice c.ac c.nc c.cc, .int .i64 c.wk, .int .i64 c.cp, .int .i64 c.sl, .int .i64 c.ba, .int .i64 c.le, .int .i64 1000, .int .i64 c.fi, .int .i64 c.ca, .int .i64 c.ji, .int .i64 c.ne]) (b := w.heap.size) (by simp) 0
          have z1 : wq.drew.cell? ⟨w.heap.size, 1, none⟩ = some (.slice c.ac c.nc c.cc) := HFQD.out.cell (e := 25) (cs := [.slice c.aw c.nw c.cw, .slice c.ac c.nc c.cc, .int .i64 c.wk, .int .i64 c.cp, .int .i64 c.sl, .int .i64 c.ba, .int .i64 c.le, .int .i64 1000, .int .i64 c.fi, .int .i64 c.ca, .int .i64 c.ji, .int .i64 c.ne]) (b := w.heap.size) (by simp) 1
          have z2 : wq.drew.cell? ⟨w.heap.size, 2, none⟩ = some (.int .i64 c.wk) := HFQD.out.cell (e := 25) (cs := [.slice c.aw c.nw c.cw, .slice c.ac c.nc c.cc, .int .i64 c.wk, .int .i64 c.cp, .int .i64 c.sl, .int .i64 c.ba, .int .i64 c.le, .int .i64 1000, .int .i64 c.fi, .int .i64 c.ca, .int .i64 c.ji, .int .i64 c.ne]) (b := w.heap.size) (by simp) 2
          have z3 : wq.drew.cell? ⟨w.heap.size, 3, none⟩ = some (.int .i64 c.cp) := HFQD.out.cell (e := 25) (cs := [.slice c.aw c.nw c.cw, .slice c.ac c.nc c.cc, .int .i64 c.wk, .int .i64 c.cp, .int .i64 c.sl, .int .i64 c.ba, .int .i64 c.le, .int .i64 1000, .int .i64 c.fi, .int .i64 c.ca, .int .i64 c.ji, .int .i64 c.ne]) (b := w.heap.size) (by simp) 3
          have z4 : wq.drew.cell? ⟨w.heap.size, 4, none⟩ = some (.int .i64 c.sl) := HFQD.out.cell (e := 25) (cs := [.slice c.aw c.nw c.cw, .slice c.ac c.nc c.cc, .int .i64 c.wk, .int .i64 c.cp, .int .i64 c.sl, .int .i64 c.ba, .int .i64 c.le, .int .i64 1000, .int .i64 c.fi, .int .i64 c.ca, .int .i64 c.ji, .int .i64 c.ne]) (b := w.heap.size) (by simp) 4
          have z5 : wq.drew.cell? ⟨w.heap.size, 5, none⟩ = some (.int .i64 c.ba) := HFQD.out.cell (e := 25) (cs := [.slice c.aw c.nw c.cw, .slice c.ac c.nc c.cc, .int .i64 c.wk, .int .i64 c.cp, .int .i64 c.sl, .int .i64 c.ba, .int .i64 c.le, .int .i64 1000, .int .i64 c.fi, .int .i64 c.ca, .int .i64 c.ji, .int .i64 c.ne]) (b := w.heap.size) (by simp) 5
          have z6 : wq.drew.cell? ⟨w.heap.size, 6, none⟩ = some (.int .i64 c.le) := HFQD.out.cell (e := 25) (cs := [.slice c.aw c.nw c.cw, .slice c.ac c.nc c.cc, .int .i64 c.wk, .int .i64 c.cp, .int .i64 c.sl, .int .i64 c.ba, .int .i64 c.le, .int .i64 1000, .int .i64 c.fi, .int .i64 c.ca, .int .i64 c.ji, .int .i64 c.ne]) (b := w.heap.size) (by simp) 6
          have z7 : wq.drew.cell? ⟨w.heap.size, 7, none⟩ = some (.int .i64 1000) := HFQD.out.cell (e := 25) (cs := [.slice c.aw c.nw c.cw, .slice c.ac c.nc c.cc, .int .i64 c.wk, .int .i64 c.cp, .int .i64 c.sl, .int .i64 c.ba, .int .i64 c.le, .int .i64 1000, .int .i64 c.fi, .int .i64 c.ca, .int .i64 c.ji, .int .i64 c.ne]) (b := w.heap.size) (by simp) 7
          have z8 : wq.drew.cell? ⟨w.heap.size, 8, none⟩ = some (.int .i64 c.fi) := HFQD.out.cell (e := 25) (cs := [.slice c.aw c.nw c.cw, .slice c.ac c.nc c.cc, .int .i64 c.wk, .int .i64 c.cp, .int .i64 c.sl, .int .i64 c.ba, .int .i64 c.le, .int .i64 1000, .int .i64 c.fi, .int .i64 c.ca, .int .i64 c.ji, .int .i64 c.ne]) (b := w.heap.size) (by simp) 8
          have z9 : wq.drew.cell? ⟨w.heap.size, 9, none⟩ = some (.int .i64 c.ca) := HFQD.out.cell (e := 25) (cs := [.slice c.aw c.nw c.cw, .slice c.ac c.nc c.cc, .int .i64 c.wk, .int .i64 c.cp, .int .i64 c.sl, .int .i64 c.ba, .int .i64 c.le, .int .i64 1000, .int .i64 c.fi, .int .i64 c.ca, .int .i64 c.ji, .int .i64 c.ne]) (b := w.heap.size) (by simp) 9
          have z10 : wq.drew.cell? ⟨w.heap.size, 10, none⟩ = some (.int .i64 c.ji) := HFQD.out.cell (e := 25) (cs := [.slice c.aw c.nw c.cw, .slice c.ac c.nc c.cc, .int .i64 c.wk, .int .i64 c.cp, .int .i64 c.sl, .int .i64 c.ba, .int .i64 c.le, .int .i64 1000, .int .i64 c.fi, .int .i64 c.ca, .int .i64 c.ji, .int .i64 c.ne]) (b := w.heap.size) (by simp) 10
          have z11 : wq.drew.cell? ⟨w.heap.size, 11, none⟩ = some (.int .i64 c.ne) := HFQD.out.cell (e := 25) (cs := [.slice c.aw c.nw c.cw, .slice c.ac c.nc c.cc, .int .i64 c.wk, .int .i64 c.cp, .int .i64 c.sl, .int .i64 c.ba, .int .i64 c.le, .int .i64 1000, .int .i64 c.fi, .int .i64 c.ca, .int .i64 c.ji, .int .i64 c.ne]) (b := w.heap.size) (by simp) 11
          have y2 : wq.drew.cell? ⟨ab, 2, none⟩ = some (.int .i64 (s : Nat)) := HY2.out
          have HXY := Lib.hid (show wq.drew.cell? ⟨w.heap.size, 0, none⟩ = some (.slice c.aw c.nw c.cw) ∧ wq.drew.cell? ⟨w.heap.size, 1, none⟩ = some (.slice c.ac c.nc c.cc) ∧ wq.drew.cell? ⟨w.heap.size, 2, none⟩ = some (.int .i64 c.wk) ∧ wq.drew.cell? ⟨w.heap.size, 3, none⟩ = some (.int .i64 c.cp) ∧ wq.drew.cell? ⟨w.heap.size, 4, none⟩ = some (.int .i64 c.sl) ∧ wq.drew.cell? ⟨w.heap.size, 5, none⟩ = some (.int .i64 c.ba) ∧ wq.drew.cell? ⟨w.heap.size, 6, none⟩ = some (.int .i64 c.le) ∧ wq.drew.cell? ⟨w.heap.size, 7, none⟩ = some (.int .i64 1000) ∧ wq.drew.cell? ⟨w.heap.size, 8, none⟩ = some (.int .i64 c.fi) ∧ wq.drew.cell? ⟨w.heap.size, 9, none⟩ = some (.int .i64 c.ca) ∧ wq.drew.cell? ⟨w.heap.size, 10, none⟩ = some (.int .i64 c.ji) ∧ wq.drew.cell? ⟨w.heap.size, 11, none⟩ = some (.int .i64 c.ne) ∧ wq.drew.cell? ⟨ab, 2, none⟩ = some (.int .i64 (s : Nat)) from ⟨z0, z1, z2, z3, z4, z5, z6, z7, z8, z9, z10, z11, y2⟩)
          clear y2 z0 z1 z2 z3 z4 z5 z6 z7 z8 z9 z10 z11
          have hsh := shards_any c.he1 wq.drew (hcfg1 HFQD.out.bel)
          rw [← HSH.out, show c.he1.val = .agg #[.slice c.aw c.nw c.cw, .slice c.ac c.nc c.cc, .int .i64 c.wk, .int .i64 c.cp, .int .i64 c.sl, .int .i64 c.ba, .int .i64 c.le, .int .i64 1000, .int .i64 c.fi, .int .i64 c.ca, .int .i64 c.ji, .int .i64 c.ne] from rfl] at hsh
          have HSA := Lib.hid hsh
          have g0 : ¬ ((s : Int) < 0) := by omega
          have g1 : ¬ ((ns : Int) ≤ (s : Int)) := by omega
          have g2 : decide ((ns : Int) ≤ (s : Int)) = false := by simp; omega
          have g3 : decide ((s : Int) < 0) = false := by simp
          clear hsh
          go_upto_region 109 with fail
          refine wp_region_held_drew (S := (fun w' => w'.cell? ⟨w.heap.size, 0, none⟩ = some (.slice c.aw c.nw c.cw) ∧ w'.cell? ⟨w.heap.size, 1, none⟩ = some (.slice c.ac c.nc c.cc) ∧ w'.cell? ⟨w.heap.size, 2, none⟩ = some (.int .i64 c.wk) ∧ w'.cell? ⟨w.heap.size, 3, none⟩ = some (.int .i64 c.cp) ∧ w'.cell? ⟨w.heap.size, 4, none⟩ = some (.int .i64 c.sl) ∧ w'.cell? ⟨w.heap.size, 5, none⟩ = some (.int .i64 c.ba) ∧ w'.cell? ⟨w.heap.size, 6, none⟩ = some (.int .i64 c.le) ∧ w'.cell? ⟨w.heap.size, 7, none⟩ = some (.int .i64 1000) ∧ w'.cell? ⟨w.heap.size, 8, none⟩ = some (.int .i64 c.fi) ∧ w'.cell? ⟨w.heap.size, 9, none⟩ = some (.int .i64 c.ca) ∧ w'.cell? ⟨w.heap.size, 10, none⟩ = some (.int .i64 c.ji) ∧ w'.cell? ⟨w.heap.size, 11, none⟩ = some (.int .i64 c.ne) ∧ w'.cell? ⟨ab, 2, none⟩ = some (.int .i64 (s : Nat)))) (by kernel_rfl) (by first | exact HXY.out | exact HXY2.out) (fun hHeld => ?_)
          refine takeO 0 (some 109) (v := ?_) rfl rfl (by kernel_rfl) (by kernel_rfl) (by kernel_rfl) (fun _ _ _ h => h) (Or.inl ⟨by rfl, ?_⟩) (by assumption) ?_
          rotate_left 1
          · intro w hSw; (try dsimp only at hSw); go_simp; all_goals with_reducible rfl
          try simp only [Act.put, List.setIfInBounds_toArray, List.set_cons_zero, List.set_cons_succ]
          refine takeO 1 (some 110) (v := ?_) rfl rfl (by kernel_rfl) (by kernel_rfl) (by kernel_rfl) (fun _ _ _ h => h) (Or.inl ⟨by rfl, ?_⟩) (by assumption) ?_
          rotate_left 1
          · intro w hSw; (try dsimp only at hSw); go_simp; all_goals with_reducible rfl
          try simp only [Act.put, List.setIfInBounds_toArray, List.set_cons_zero, List.set_cons_succ]
          refine takeO 2 (some 111) (v := ?_) rfl rfl (by kernel_rfl) (by kernel_rfl) (by kernel_rfl) (fun _ _ _ h => h) (Or.inl ⟨by rfl, ?_⟩) (by assumption) ?_
          rotate_left 1
          · intro w hSw; (try dsimp only at hSw); go_simp; all_goals with_reducible rfl
          try simp only [Act.put, List.setIfInBounds_toArray, List.set_cons_zero, List.set_cons_succ]
          refine takeO 3 (some 112) (v := ?_) rfl rfl (by kernel_rfl) (by kernel_rfl) (by kernel_rfl) (fun _ _ _ h => h) (Or.inl ⟨by rfl, ?_⟩) (by assumption) ?_
          rotate_left 1
          · intro w hSw; (try dsimp only at hSw); go_simp; all_goals with_reducible rfl
          try simp only [Act.put, List.setIfInBounds_toArray, List.set_cons_zero, List.set_cons_succ]
          refine takeO 4 (some 113) (v := ?_) rfl rfl (by kernel_rfl) (by kernel_rfl) (by kernel_rfl) (fun _ _ _ h => h) (Or.inl ⟨by rfl, ?_⟩) (by assumption) ?_
          rotate_left 1
          · intro w hSw; (try dsimp only at hSw); go_simp; all_goals with_reducible rfl
          try simp only [Act.put, List.setIfInBounds_toArray, List.set_cons_zero, List.set_cons_succ]
          refine takeO 5 (some 114) (v := ?_) rfl rfl (by kernel_rfl) (by kernel_rfl) (by kernel_rfl) (fun _ _ _ h => h) (Or.inl ⟨by rfl, ?_⟩) (by assumption) ?_
          rotate_left 1
          · intro w hSw; (try dsimp only at hSw); go_simp; all_goals with_reducible rfl
          try simp only [Act.put, List.setIfInBounds_toArray, List.set_cons_zero, List.set_cons_succ]
          refine takeO 6 (some 115) (v := ?_) rfl rfl (by kernel_rfl) (by kernel_rfl) (by kernel_rfl) (fun _ _ _ h => h) (Or.inl ⟨by rfl, ?_⟩) (by assumption) ?_
          rotate_left 1
          · intro w hSw; (try dsimp only at hSw); go_simp; all_goals with_reducible rfl
          try simp only [Act.put, List.setIfInBounds_toArray, List.set_cons_zero, List.set_cons_succ]
          refine takeO 7 (some 116) (v := ?_) rfl rfl (by kernel_rfl) (by kernel_rfl) (by kernel_rfl) (fun _ _ _ h => h) (Or.inl ⟨by rfl, ?_⟩) (by assumption) ?_
          rotate_left 1
          · intro w hSw; (try dsimp only at hSw); go_simp; all_goals with_reducible rfl
          try simp only [Act.put, List.setIfInBounds_toArray, List.set_cons_zero, List.set_cons_succ]
          refine takeO 8 (some 117) (v := ?_) rfl rfl (by kernel_rfl) (by kernel_rfl) (by kernel_rfl) (fun _ _ _ h => h) (Or.inl ⟨by rfl, ?_⟩) (by assumption) ?_
          rotate_left 1
          · intro w hSw; (try dsimp only at hSw); go_simp; all_goals with_reducible rfl
          try simp only [Act.put, List.setIfInBounds_toArray, List.set_cons_zero, List.set_cons_succ]
          refine takeO 9 (some 118) (v := ?_) rfl rfl (by kernel_rfl) (by kernel_rfl) (by kernel_rfl) (fun _ _ _ h => h) (Or.inl ⟨by rfl, ?_⟩) (by assumption) ?_
          rotate_left 1
          · intro w hSw; (try dsimp only at hSw); go_simp; all_goals with_reducible rfl
          try simp only [Act.put, List.setIfInBounds_toArray, List.set_cons_zero, List.set_cons_succ]
          refine takeO 10 (some 119) (v := ?_) rfl rfl (by kernel_rfl) (by kernel_rfl) (by kernel_rfl) (fun _ _ _ h => h) (Or.inl ⟨by rfl, ?_⟩) (by assumption) ?_
          rotate_left 1
          · intro w hSw; (try dsimp only at hSw); go_simp; all_goals with_reducible rfl
          try simp only [Act.put, List.setIfInBounds_toArray, List.set_cons_zero, List.set_cons_succ]
          refine wpAnyH_ready (rs := [11]) (by kernel_rfl) (by simp) ?_
          refine AllReadyH.cons rfl (fun K hK => ?_) AllReadyH.nil
          go_simp
          refine HSA.out.mono ?_; rintro e v2 ⟨rfl, hb⟩; clear HSA; have HF2 := Lib.hid (HFQD.out.below hb); have HXY2 := Lib.hid (show v2.cell? ⟨w.heap.size, 0, none⟩ = some (.slice c.aw c.nw c.cw) ∧ v2.cell? ⟨w.heap.size, 1, none⟩ = some (.slice c.ac c.nc c.cc) ∧ v2.cell? ⟨w.heap.size, 2, none⟩ = some (.int .i64 c.wk) ∧ v2.cell? ⟨w.heap.size, 3, none⟩ = some (.int .i64 c.cp) ∧ v2.cell? ⟨w.heap.size, 4, none⟩ = some (.int .i64 c.sl) ∧ v2.cell? ⟨w.heap.size, 5, none⟩ = some (.int .i64 c.ba) ∧ v2.cell? ⟨w.heap.size, 6, none⟩ = some (.int .i64 c.le) ∧ v2.cell? ⟨w.heap.size, 7, none⟩ = some (.int .i64 1000) ∧ v2.cell? ⟨w.heap.size, 8, none⟩ = some (.int .i64 c.fi) ∧ v2.cell? ⟨w.heap.size, 9, none⟩ = some (.int .i64 c.ca) ∧ v2.cell? ⟨w.heap.size, 10, none⟩ = some (.int .i64 c.ji) ∧ v2.cell? ⟨w.heap.size, 11, none⟩ = some (.int .i64 c.ne) ∧ v2.cell? ⟨ab, 2, none⟩ = some (.int .i64 (s : Nat)) from ⟨HF2.out.cell (e := 25) (cs := [.slice c.aw c.nw c.cw, .slice c.ac c.nc c.cc, .int .i64 c.wk, .int .i64 c.cp, .int .i64 c.sl, .int .i64 c.ba, .int .i64 c.le, .int .i64 1000, .int .i64 c.fi, .int .i64 c.ca, .int .i64 c.ji, .int .i64 c.ne]) (b := w.heap.size) (by simp) 0, HF2.out.cell (e := 25) (cs := [.slice c.aw c.nw c.cw, .slice c.ac c.nc c.cc, .int .i64 c.wk, .int .i64 c.cp, .int .i64 c.sl, .int .i64 c.ba, .int .i64 c.le, .int .i64 1000, .int .i64 c.fi, .int .i64 c.ca, .int .i64 c.ji, .int .i64 c.ne]) (b := w.heap.size) (by simp) 1, HF2.out.cell (e := 25) (cs := [.slice c.aw c.nw c.cw, .slice c.ac c.nc c.cc, .int .i64 c.wk, .int .i64 c.cp, .int .i64 c.sl, .int .i64 c.ba, .int .i64 c.le, .int .i64 1000, .int .i64 c.fi, .int .i64 c.ca, .int .i64 c.ji, .int .i64 c.ne]) (b := w.heap.size) (by simp) 2, HF2.out.cell (e := 25) (cs := [.slice c.aw c.nw c.cw, .slice c.ac c.nc c.cc, .int .i64 c.wk, .int .i64 c.cp, .int .i64 c.sl, .int .i64 c.ba, .int .i64 c.le, .int .i64 1000, .int .i64 c.fi, .int .i64 c.ca, .int .i64 c.ji, .int .i64 c.ne]) (b := w.heap.size) (by simp) 3, HF2.out.cell (e := 25) (cs := [.slice c.aw c.nw c.cw, .slice c.ac c.nc c.cc, .int .i64 c.wk, .int .i64 c.cp, .int .i64 c.sl, .int .i64 c.ba, .int .i64 c.le, .int .i64 1000, .int .i64 c.fi, .int .i64 c.ca, .int .i64 c.ji, .int .i64 c.ne]) (b := w.heap.size) (by simp) 4, HF2.out.cell (e := 25) (cs := [.slice c.aw c.nw c.cw, .slice c.ac c.nc c.cc, .int .i64 c.wk, .int .i64 c.cp, .int .i64 c.sl, .int .i64 c.ba, .int .i64 c.le, .int .i64 1000, .int .i64 c.fi, .int .i64 c.ca, .int .i64 c.ji, .int .i64 c.ne]) (b := w.heap.size) (by simp) 5, HF2.out.cell (e := 25) (cs := [.slice c.aw c.nw c.cw, .slice c.ac c.nc c.cc, .int .i64 c.wk, .int .i64 c.cp, .int .i64 c.sl, .int .i64 c.ba, .int .i64 c.le, .int .i64 1000, .int .i64 c.fi, .int .i64 c.ca, .int .i64 c.ji, .int .i64 c.ne]) (b := w.heap.size) (by simp) 6, HF2.out.cell (e := 25) (cs := [.slice c.aw c.nw c.cw, .slice c.ac c.nc c.cc, .int .i64 c.wk, .int .i64 c.cp, .int .i64 c.sl, .int .i64 c.ba, .int .i64 c.le, .int .i64 1000, .int .i64 c.fi, .int .i64 c.ca, .int .i64 c.ji, .int .i64 c.ne]) (b := w.heap.size) (by simp) 7, HF2.out.cell (e := 25) (cs := [.slice c.aw c.nw c.cw, .slice c.ac c.nc c.cc, .int .i64 c.wk, .int .i64 c.cp, .int .i64 c.sl, .int .i64 c.ba, .int .i64 c.le, .int .i64 1000, .int .i64 c.fi, .int .i64 c.ca, .int .i64 c.ji, .int .i64 c.ne]) (b := w.heap.size) (by simp) 8, HF2.out.cell (e := 25) (cs := [.slice c.aw c.nw c.cw, .slice c.ac c.nc c.cc, .int .i64 c.wk, .int .i64 c.cp, .int .i64 c.sl, .int .i64 c.ba, .int .i64 c.le, .int .i64 1000, .int .i64 c.fi, .int .i64 c.ca, .int .i64 c.ji, .int .i64 c.ne]) (b := w.heap.size) (by simp) 9, HF2.out.cell (e := 25) (cs := [.slice c.aw c.nw c.cw, .slice c.ac c.nc c.cc, .int .i64 c.wk, .int .i64 c.cp, .int .i64 c.sl, .int .i64 c.ba, .int .i64 c.le, .int .i64 1000, .int .i64 c.fi, .int .i64 c.ca, .int .i64 c.ji, .int .i64 c.ne]) (b := w.heap.size) (by simp) 10, HF2.out.cell (e := 25) (cs := [.slice c.aw c.nw c.cw, .slice c.ac c.nc c.cc, .int .i64 c.wk, .int .i64 c.cp, .int .i64 c.sl, .int .i64 c.ba, .int .i64 c.le, .int .i64 1000, .int .i64 c.fi, .int .i64 c.ca, .int .i64 c.ji, .int .i64 c.ne]) (b := w.heap.size) (by simp) 11, (hb.cell (p := ⟨ab, 2, none⟩) (cell?_lt HXY.out.2.2.2.2.2.2.2.2.2.2.2.2)).trans HXY.out.2.2.2.2.2.2.2.2.2.2.2.2⟩); have HB2 := Lib.hid (show Below wr.heap.size wr v2 from ((HBQ.out.drew).trans (hb.mono (HBQ.out.drew).size))); clear hb
          go_wp2_with fail
          refine hK.out _ _ (by first | exact HXY.out | exact HXY2.out) (fun hHeld => ?_)
          clear hK K
          try simp only [Act.put, List.setIfInBounds_toArray, List.set_cons_zero, List.set_cons_succ]
          refine takeO 12 (some 121) (v := ?_) rfl rfl (by kernel_rfl) (by kernel_rfl) (by kernel_rfl) (fun _ _ _ h => h) (Or.inl ⟨by rfl, ?_⟩) (by assumption) ?_
          rotate_left 1
          · intro w hSw; (try dsimp only at hSw); go_simp; all_goals with_reducible rfl
          try simp only [Act.put, List.setIfInBounds_toArray, List.set_cons_zero, List.set_cons_succ]
          refine takeO 13 (some 122) (v := ?_) rfl rfl (by kernel_rfl) (by kernel_rfl) (by kernel_rfl) (fun _ _ _ h => h) (Or.inl ⟨by rfl, ?_⟩) (by assumption) ?_
          rotate_left 1
          · intro w hSw; (try dsimp only at hSw); go_simp; all_goals with_reducible rfl
          try simp only [Act.put, List.setIfInBounds_toArray, List.set_cons_zero, List.set_cons_succ]
          refine wpAnyH_done (by kernel_rfl) ?_ _
          have y2 : v2.cell? ⟨ab, 2, none⟩ = some (.int .i64 (s : Nat)) := HXY2.out.2.2.2.2.2.2.2.2.2.2.2.2
          have HAB := Lib.hid (show ab < v2.heap.size from cell?_lt y2)
          clear hHeld HXY HXY2 HFQD HFQ HBQ HY2 g0 g1 g2 g3
          skip
          have z0 : v2.cell? ⟨w.heap.size, 0, none⟩ = some (.slice c.aw c.nw c.cw) := HF2.out.cell (e := 25) (cs := [.slice c.aw c.nw c.cw, .slice c.ac c.nc c.cc, .int .i64 c.wk, .int .i64 c.cp, .int .i64 c.sl, .int .i64 c.ba, .int .i64 c.le, .int .i64 1000, .int .i64 c.fi, .int .i64 c.ca, .int .i64 c.ji, .int .i64 c.ne]) (b := w.heap.size) (by simp) 0
          have z1 : v2.cell? ⟨w.heap.size, 1, none⟩ = some (.slice c.ac c.nc c.cc) := HF2.out.cell (e := 25) (cs := [.slice c.aw c.nw c.cw, .slice c.ac c.nc c.cc, .int .i64 c.wk, .int .i64 c.cp, .int .i64 c.sl, .int .i64 c.ba, .int .i64 c.le, .int .i64 1000, .int .i64 c.fi, .int .i64 c.ca, .int .i64 c.ji, .int .i64 c.ne]) (b := w.heap.size) (by simp) 1
          have z2 : v2.cell? ⟨w.heap.size, 2, none⟩ = some (.int .i64 c.wk) := HF2.out.cell (e := 25) (cs := [.slice c.aw c.nw c.cw, .slice c.ac c.nc c.cc, .int .i64 c.wk, .int .i64 c.cp, .int .i64 c.sl, .int .i64 c.ba, .int .i64 c.le, .int .i64 1000, .int .i64 c.fi, .int .i64 c.ca, .int .i64 c.ji, .int .i64 c.ne]) (b := w.heap.size) (by simp) 2
          have z3 : v2.cell? ⟨w.heap.size, 3, none⟩ = some (.int .i64 c.cp) := HF2.out.cell (e := 25) (cs := [.slice c.aw c.nw c.cw, .slice c.ac c.nc c.cc, .int .i64 c.wk, .int .i64 c.cp, .int .i64 c.sl, .int .i64 c.ba, .int .i64 c.le, .int .i64 1000, .int .i64 c.fi, .int .i64 c.ca, .int .i64 c.ji, .int .i64 c.ne]) (b := w.heap.size) (by simp) 3
          have z4 : v2.cell? ⟨w.heap.size, 4, none⟩ = some (.int .i64 c.sl) := HF2.out.cell (e := 25) (cs := [.slice c.aw c.nw c.cw, .slice c.ac c.nc c.cc, .int .i64 c.wk, .int .i64 c.cp, .int .i64 c.sl, .int .i64 c.ba, .int .i64 c.le, .int .i64 1000, .int .i64 c.fi, .int .i64 c.ca, .int .i64 c.ji, .int .i64 c.ne]) (b := w.heap.size) (by simp) 4
          have z5 : v2.cell? ⟨w.heap.size, 5, none⟩ = some (.int .i64 c.ba) := HF2.out.cell (e := 25) (cs := [.slice c.aw c.nw c.cw, .slice c.ac c.nc c.cc, .int .i64 c.wk, .int .i64 c.cp, .int .i64 c.sl, .int .i64 c.ba, .int .i64 c.le, .int .i64 1000, .int .i64 c.fi, .int .i64 c.ca, .int .i64 c.ji, .int .i64 c.ne]) (b := w.heap.size) (by simp) 5
          have z6 : v2.cell? ⟨w.heap.size, 6, none⟩ = some (.int .i64 c.le) := HF2.out.cell (e := 25) (cs := [.slice c.aw c.nw c.cw, .slice c.ac c.nc c.cc, .int .i64 c.wk, .int .i64 c.cp, .int .i64 c.sl, .int .i64 c.ba, .int .i64 c.le, .int .i64 1000, .int .i64 c.fi, .int .i64 c.ca, .int .i64 c.ji, .int .i64 c.ne]) (b := w.heap.size) (by simp) 6
          have z7 : v2.cell? ⟨w.heap.size, 7, none⟩ = some (.int .i64 1000) := HF2.out.cell (e := 25) (cs := [.slice c.aw c.nw c.cw, .slice c.ac c.nc c.cc, .int .i64 c.wk, .int .i64 c.cp, .int .i64 c.sl, .int .i64 c.ba, .int .i64 c.le, .int .i64 1000, .int .i64 c.fi, .int .i64 c.ca, .int .i64 c.ji, .int .i64 c.ne]) (b := w.heap.size) (by simp) 7
          have z8 : v2.cell? ⟨w.heap.size, 8, none⟩ = some (.int .i64 c.fi) := HF2.out.cell (e := 25) (cs := [.slice c.aw c.nw c.cw, .slice c.ac c.nc c.cc, .int .i64 c.wk, .int .i64 c.cp, .int .i64 c.sl, .int .i64 c.ba, .int .i64 c.le, .int .i64 1000, .int .i64 c.fi, .int .i64 c.ca, .int .i64 c.ji, .int .i64 c.ne]) (b := w.heap.size) (by simp) 8
          have z9 : v2.cell? ⟨w.heap.size, 9, none⟩ = some (.int .i64 c.ca) := HF2.out.cell (e := 25) (cs := [.slice c.aw c.nw c.cw, .slice c.ac c.nc c.cc, .int .i64 c.wk, .int .i64 c.cp, .int .i64 c.sl, .int .i64 c.ba, .int .i64 c.le, .int .i64 1000, .int .i64 c.fi, .int .i64 c.ca, .int .i64 c.ji, .int .i64 c.ne]) (b := w.heap.size) (by simp) 9
          have z10 : v2.cell? ⟨w.heap.size, 10, none⟩ = some (.int .i64 c.ji) := HF2.out.cell (e := 25) (cs := [.slice c.aw c.nw c.cw, .slice c.ac c.nc c.cc, .int .i64 c.wk, .int .i64 c.cp, .int .i64 c.sl, .int .i64 c.ba, .int .i64 c.le, .int .i64 1000, .int .i64 c.fi, .int .i64 c.ca, .int .i64 c.ji, .int .i64 c.ne]) (b := w.heap.size) (by simp) 10
          have z11 : v2.cell? ⟨w.heap.size, 11, none⟩ = some (.int .i64 c.ne) := HF2.out.cell (e := 25) (cs := [.slice c.aw c.nw c.cw, .slice c.ac c.nc c.cc, .int .i64 c.wk, .int .i64 c.cp, .int .i64 c.sl, .int .i64 c.ba, .int .i64 c.le, .int .i64 1000, .int .i64 c.fi, .int .i64 c.ca, .int .i64 c.ji, .int .i64 c.ne]) (b := w.heap.size) (by simp) 11
          have hcc : copiesC c.he1 (s : Nat) = copN C s := by rw [copiesC_yes (by unfold inB; rw [← HSH.out]; simp; omega), ← HCC.out]; rfl
          have hcy := copies_any c.he1 (s : Nat) v2 (hcfg1 HF2.out.bel)
          rw [hcc, show c.he1.val = .agg #[.slice c.aw c.nw c.cw, .slice c.ac c.nc c.cc, .int .i64 c.wk, .int .i64 c.cp, .int .i64 c.sl, .int .i64 c.ba, .int .i64 c.le, .int .i64 1000, .int .i64 c.fi, .int .i64 c.ca, .int .i64 c.ji, .int .i64 c.ne] from rfl] at hcy
          have HCY := Lib.hid hcy
          clear hcy hcc
          go_wp2_with fail
          have HY9 := Lib.hid y2
          clear y2 z0 z1 z2 z3 z4 z5 z6 z7 z8 z9 z10 z11
          refine HCY.out.mono ?_
          clear HCY
          rintro e v3 ⟨ka, kn, kc, rfl, hrd, hb3⟩
          have HB23 := Lib.hid hb3
          have HF3 := Lib.hid (HF2.out.below hb3)
          have HB3 := Lib.hid (HB2.out.trans (hb3.mono HB2.out.size))
          skip
          have hkn : kn = cp := by have := hrd.1; unfold ints copN at this; rw [List.length_map, List.length_map, List.length_range, HK.out.1, Int.toNat_natCast] at this; omega
          subst hkn
          have hget : ∀ j, j < kn → (ints (copN C s))[j]? = some (.int .i64 ((copW C s j : Nat) : Int)) := fun j hj => by unfold ints; rw [List.getElem?_map, copN_at (by rw [HK.out.1]; omega), copW_eq (by rw [HK.out.2.2.2.1]; omega)]; rfl
          obtain ⟨kb, ko, hka, hkb, hk0⟩ := hrd.2.2.2.2 0 (by omega)
          subst hka
          have HGET := Lib.hid (show ∀ (j : Nat) (V : World), j < kn → Below v3.heap.size v3 V → V.cell? ⟨kb, ko + j, none⟩ = some (.int .i64 ((copW C s j : Nat) : Int)) from fun j V hj hV => by
            obtain ⟨b', o', e', hb', hc'⟩ := hrd.2.2.2.2 j hj
            cases e'
            rw [hget j hj] at hc'
            exact (hV.cell (p := ⟨kb, ko + j, none⟩) hb').trans hc')
          have HNE := Lib.hid (show ∀ j, j < tt → copW C s j ≠ copW C s tt from fun j hj e => by have := cop_inj (c := C) (by rw [HK.out.2.2.2.1]; omega) (by rw [HK.out.2.2.2.1]; omega) HK.out.2.2.2.2 (by rw [HK.out.1]; omega) (by rw [HK.out.1]; omega) e; omega)
          clear hrd hkb hk0 hget hb3
          go_wp2_with fail
          go_loopw [19] (fun v wr => RnaR v3 tt v wr) (fun v _ => tt + 1 - (intOf v).toNat)
          case atStart => exact ⟨0, Nat.zero_le _, rfl, Below.refl _ _⟩
          case round =>
            skip
            obtain ⟨j, hj, rfl, HBJ⟩ := hrel
            skip
            skip
            have HBD := Lib.hid HBJ.out.drew
            have j1 : (0 : Int) ≤ (j : Int) := by omega
            have j2 : (j : Int) < (kn : Int) := by omega
            have kc' := HGET.out j wr.drew (by omega) HBD.out
            have lc' := HLC.out wr.drew (HB3.out.trans (HBD.out.mono HB3.out.size))
            have hne := HNE.out j
            obtain ⟨tw, htw⟩ : ∃ n, copW C s tt = n := ⟨_, rfl⟩
            rw [htw] at lc' hne
            have HTW := Lib.hid htw
            clear htw
            obtain ⟨cj, hcj⟩ : ∃ n, copW C s j = n := ⟨_, rfl⟩
            rw [hcj] at kc' hne
            have HKC := Lib.hid (And.intro kc' lc')
            have HCJ := Lib.hid hcj
            clear kc' lc' hcj
            by_cases hjt : j < tt
            · have hne2 : ((cj : Int) != (tw : Int)) = true := by have := hne hjt; rw [bne_iff_ne]; omega
              clear hne
              go_upto_region 127 with fail
              refine wp_region_held_drew (S := (fun w' => w'.cell? ⟨kb, ko + j, none⟩ = some (.int .i64 (cj : Nat)) ∧ w'.cell? ⟨lbk, lof + k * 2, none⟩ = some (.int .i64 (tw : Nat)))) (by kernel_rfl) (by exact HKC.out) (fun hHeld => ?_)
              refine takeO 0 (some 127) (v := ?_) rfl rfl (by kernel_rfl) (by kernel_rfl) (by kernel_rfl) (fun _ _ _ h => h) (Or.inl ⟨by rfl, ?_⟩) (by assumption) ?_
              rotate_left 1
              · intro w hSw; (try dsimp only at hSw); go_simp; all_goals with_reducible rfl
              try simp only [Act.put, List.setIfInBounds_toArray, List.set_cons_zero, List.set_cons_succ]
              refine takeO 1 (some 128) (v := ?_) rfl rfl (by kernel_rfl) (by kernel_rfl) (by kernel_rfl) (fun _ _ _ h => h) (Or.inl ⟨by rfl, ?_⟩) (by assumption) ?_
              rotate_left 1
              · intro w hSw; (try dsimp only at hSw); go_simp; all_goals with_reducible rfl
              try simp only [Act.put, List.setIfInBounds_toArray, List.set_cons_zero, List.set_cons_succ]
              refine takeO 2 (some 129) (v := ?_) rfl rfl (by kernel_rfl) (by kernel_rfl) (by kernel_rfl) (fun _ _ _ h => h) (Or.inl ⟨by rfl, ?_⟩) (by assumption) ?_
              rotate_left 1
              · intro w hSw; (try dsimp only at hSw); go_simp; all_goals with_reducible rfl
              try simp only [Act.put, List.setIfInBounds_toArray, List.set_cons_zero, List.set_cons_succ]
              refine takeO 3 (some 130) (v := ?_) rfl rfl (by kernel_rfl) (by kernel_rfl) (by kernel_rfl) (fun _ _ _ h => h) (Or.inl ⟨by rfl, ?_⟩) (by assumption) ?_
              rotate_left 1
              · intro w hSw; (try dsimp only at hSw); go_simp; all_goals with_reducible rfl
              try simp only [Act.put, List.setIfInBounds_toArray, List.set_cons_zero, List.set_cons_succ]
              refine takeO 4 (some 131) (v := ?_) rfl rfl (by kernel_rfl) (by kernel_rfl) (by kernel_rfl) (fun _ _ _ h => h) (Or.inl ⟨by rfl, ?_⟩) (by assumption) ?_
              rotate_left 1
              · intro w hSw; (try dsimp only at hSw); go_simp; all_goals with_reducible rfl
              try simp only [Act.put, List.setIfInBounds_toArray, List.set_cons_zero, List.set_cons_succ]
              refine takeO 5 (some 132) (v := ?_) rfl rfl (by kernel_rfl) (by kernel_rfl) (by kernel_rfl) (fun _ _ _ h => h) (Or.inl ⟨by rfl, ?_⟩) (by assumption) ?_
              rotate_left 1
              · intro w hSw; (try dsimp only at hSw); go_simp; all_goals with_reducible rfl
              try simp only [Act.put, List.setIfInBounds_toArray, List.set_cons_zero, List.set_cons_succ]
              refine takeO 6 (some 133) (v := ?_) rfl rfl (by kernel_rfl) (by kernel_rfl) (by kernel_rfl) (fun _ _ _ h => h) (Or.inl ⟨by rfl, ?_⟩) (by assumption) ?_
              rotate_left 1
              · intro w hSw; (try dsimp only at hSw); go_simp; all_goals with_reducible rfl
              try simp only [Act.put, List.setIfInBounds_toArray, List.set_cons_zero, List.set_cons_succ]
              refine takeO 7 (some 134) (v := ?_) rfl rfl (by kernel_rfl) (by kernel_rfl) (by kernel_rfl) (fun _ _ _ h => h) (Or.inl ⟨by rfl, ?_⟩) (by assumption) ?_
              rotate_left 1
              · intro w hSw; (try dsimp only at hSw); go_simp; all_goals with_reducible rfl
              try simp only [Act.put, List.setIfInBounds_toArray, List.set_cons_zero, List.set_cons_succ]
              refine takeO 8 (some 135) (v := ?_) rfl rfl (by kernel_rfl) (by kernel_rfl) (by kernel_rfl) (fun _ _ _ h => h) (Or.inl ⟨by rfl, ?_⟩) (by assumption) ?_
              rotate_left 1
              · intro w hSw; (try dsimp only at hSw); go_simp; all_goals with_reducible rfl
              try simp only [Act.put, List.setIfInBounds_toArray, List.set_cons_zero, List.set_cons_succ]
              refine takeO 9 (some 136) (v := ?_) rfl rfl (by kernel_rfl) (by kernel_rfl) (by kernel_rfl) (fun _ _ _ h => h) (Or.inl ⟨by rfl, ?_⟩) (by assumption) ?_
              rotate_left 1
              · intro w hSw; (try dsimp only at hSw); go_simp; all_goals with_reducible rfl
              try simp only [Act.put, List.setIfInBounds_toArray, List.set_cons_zero, List.set_cons_succ]
              refine takeO 10 (some 137) (v := ?_) rfl rfl (by kernel_rfl) (by kernel_rfl) (by kernel_rfl) (fun _ _ _ h => h) (Or.inl ⟨by rfl, ?_⟩) (by assumption) ?_
              rotate_left 1
              · intro w hSw; (try dsimp only at hSw); go_simp; all_goals with_reducible rfl
              try simp only [Act.put, List.setIfInBounds_toArray, List.set_cons_zero, List.set_cons_succ]
              refine takeO 11 (some 138) (v := ?_) rfl rfl (by kernel_rfl) (by kernel_rfl) (by kernel_rfl) (fun _ _ _ h => h) (Or.inl ⟨by rfl, ?_⟩) (by assumption) ?_
              rotate_left 1
              · intro w hSw; (try dsimp only at hSw); go_simp; all_goals with_reducible rfl
              try simp only [Act.put, List.setIfInBounds_toArray, List.set_cons_zero, List.set_cons_succ]
              refine takeO 12 (some 139) (v := ?_) rfl rfl (by kernel_rfl) (by kernel_rfl) (by kernel_rfl) (fun _ _ _ h => h) (Or.inl ⟨by rfl, ?_⟩) (by assumption) ?_
              rotate_left 1
              · intro w hSw; (try dsimp only at hSw); go_simp; all_goals with_reducible rfl
              try simp only [Act.put, List.setIfInBounds_toArray, List.set_cons_zero, List.set_cons_succ]
              refine takeO 13 (some 140) (v := ?_) rfl rfl (by kernel_rfl) (by kernel_rfl) (by kernel_rfl) (fun _ _ _ h => h) (Or.inl ⟨by rfl, ?_⟩) (by assumption) ?_
              rotate_left 1
              · intro w hSw; (try dsimp only at hSw); go_simp; all_goals with_reducible rfl
              try simp only [Act.put, List.setIfInBounds_toArray, List.set_cons_zero, List.set_cons_succ]
              refine takeO 14 (some 141) (v := ?_) rfl rfl (by kernel_rfl) (by kernel_rfl) (by kernel_rfl) (fun _ _ _ h => h) (Or.inl ⟨by rfl, ?_⟩) (by assumption) ?_
              rotate_left 1
              · intro w hSw; (try dsimp only at hSw); go_simp; all_goals with_reducible rfl
              try simp only [Act.put, List.setIfInBounds_toArray, List.set_cons_zero, List.set_cons_succ]
              refine takeO 15 (some 142) (v := ?_) rfl rfl (by kernel_rfl) (by kernel_rfl) (by kernel_rfl) (fun _ _ _ h => h) (Or.inl ⟨by rfl, ?_⟩) (by assumption) ?_
              rotate_left 1
              · intro w hSw; (try dsimp only at hSw); go_simp; all_goals with_reducible rfl
              try simp only [Act.put, List.setIfInBounds_toArray, List.set_cons_zero, List.set_cons_succ]
              refine wpAnyH_done (by kernel_rfl) ?_ _
              clear hHeld
              go_wp2_with fail
              go_roundw
              case rel => first | exact ⟨j + 1, by omega, by go_num, HBD.out⟩ | ((repeat apply Exists.intro); exact ⟨⟨j + 1, by omega, by go_num, HBD.out⟩, rfl⟩)
              case measure => simp [intOf]; omega
            have hjt2 : j = tt := by omega
            subst hjt2
            have hcj2 : cj = tw := by rw [← HCJ.out, ← HTW.out]
            subst hcj2
            have hne2 : ((cj : Int) != (cj : Int)) = false := by simp
            clear hne hjt
            go_upto_region 127 with fail
            refine wp_region_held_drew (S := (fun w' => w'.cell? ⟨kb, ko + j, none⟩ = some (.int .i64 (cj : Nat)) ∧ w'.cell? ⟨lbk, lof + k * 2, none⟩ = some (.int .i64 (cj : Nat)))) (by kernel_rfl) (by exact HKC.out) (fun hHeld => ?_)
            refine takeO 0 (some 127) (v := ?_) rfl rfl (by kernel_rfl) (by kernel_rfl) (by kernel_rfl) (fun _ _ _ h => h) (Or.inl ⟨by rfl, ?_⟩) (by assumption) ?_
            rotate_left 1
            · intro w hSw; (try dsimp only at hSw); go_simp; all_goals with_reducible rfl
            try simp only [Act.put, List.setIfInBounds_toArray, List.set_cons_zero, List.set_cons_succ]
            refine takeO 1 (some 128) (v := ?_) rfl rfl (by kernel_rfl) (by kernel_rfl) (by kernel_rfl) (fun _ _ _ h => h) (Or.inl ⟨by rfl, ?_⟩) (by assumption) ?_
            rotate_left 1
            · intro w hSw; (try dsimp only at hSw); go_simp; all_goals with_reducible rfl
            try simp only [Act.put, List.setIfInBounds_toArray, List.set_cons_zero, List.set_cons_succ]
            refine takeO 2 (some 129) (v := ?_) rfl rfl (by kernel_rfl) (by kernel_rfl) (by kernel_rfl) (fun _ _ _ h => h) (Or.inl ⟨by rfl, ?_⟩) (by assumption) ?_
            rotate_left 1
            · intro w hSw; (try dsimp only at hSw); go_simp; all_goals with_reducible rfl
            try simp only [Act.put, List.setIfInBounds_toArray, List.set_cons_zero, List.set_cons_succ]
            refine takeO 3 (some 130) (v := ?_) rfl rfl (by kernel_rfl) (by kernel_rfl) (by kernel_rfl) (fun _ _ _ h => h) (Or.inl ⟨by rfl, ?_⟩) (by assumption) ?_
            rotate_left 1
            · intro w hSw; (try dsimp only at hSw); go_simp; all_goals with_reducible rfl
            try simp only [Act.put, List.setIfInBounds_toArray, List.set_cons_zero, List.set_cons_succ]
            refine takeO 4 (some 131) (v := ?_) rfl rfl (by kernel_rfl) (by kernel_rfl) (by kernel_rfl) (fun _ _ _ h => h) (Or.inl ⟨by rfl, ?_⟩) (by assumption) ?_
            rotate_left 1
            · intro w hSw; (try dsimp only at hSw); go_simp; all_goals with_reducible rfl
            try simp only [Act.put, List.setIfInBounds_toArray, List.set_cons_zero, List.set_cons_succ]
            refine takeO 5 (some 132) (v := ?_) rfl rfl (by kernel_rfl) (by kernel_rfl) (by kernel_rfl) (fun _ _ _ h => h) (Or.inl ⟨by rfl, ?_⟩) (by assumption) ?_
            rotate_left 1
            · intro w hSw; (try dsimp only at hSw); go_simp; all_goals with_reducible rfl
            try simp only [Act.put, List.setIfInBounds_toArray, List.set_cons_zero, List.set_cons_succ]
            refine takeO 6 (some 133) (v := ?_) rfl rfl (by kernel_rfl) (by kernel_rfl) (by kernel_rfl) (fun _ _ _ h => h) (Or.inl ⟨by rfl, ?_⟩) (by assumption) ?_
            rotate_left 1
            · intro w hSw; (try dsimp only at hSw); go_simp; all_goals with_reducible rfl
            try simp only [Act.put, List.setIfInBounds_toArray, List.set_cons_zero, List.set_cons_succ]
            refine takeO 7 (some 134) (v := ?_) rfl rfl (by kernel_rfl) (by kernel_rfl) (by kernel_rfl) (fun _ _ _ h => h) (Or.inl ⟨by rfl, ?_⟩) (by assumption) ?_
            rotate_left 1
            · intro w hSw; (try dsimp only at hSw); go_simp; all_goals with_reducible rfl
            try simp only [Act.put, List.setIfInBounds_toArray, List.set_cons_zero, List.set_cons_succ]
            refine takeO 8 (some 135) (v := ?_) rfl rfl (by kernel_rfl) (by kernel_rfl) (by kernel_rfl) (fun _ _ _ h => h) (Or.inl ⟨by rfl, ?_⟩) (by assumption) ?_
            rotate_left 1
            · intro w hSw; (try dsimp only at hSw); go_simp; all_goals with_reducible rfl
            try simp only [Act.put, List.setIfInBounds_toArray, List.set_cons_zero, List.set_cons_succ]
            refine takeO 9 (some 136) (v := ?_) rfl rfl (by kernel_rfl) (by kernel_rfl) (by kernel_rfl) (fun _ _ _ h => h) (Or.inl ⟨by rfl, ?_⟩) (by assumption) ?_
            rotate_left 1
            · intro w hSw; (try dsimp only at hSw); go_simp; all_goals with_reducible rfl
            try simp only [Act.put, List.setIfInBounds_toArray, List.set_cons_zero, List.set_cons_succ]
            refine takeO 10 (some 137) (v := ?_) rfl rfl (by kernel_rfl) (by kernel_rfl) (by kernel_rfl) (fun _ _ _ h => h) (Or.inl ⟨by rfl, ?_⟩) (by assumption) ?_
            rotate_left 1
            · intro w hSw; (try dsimp only at hSw); go_simp; all_goals with_reducible rfl
            try simp only [Act.put, List.setIfInBounds_toArray, List.set_cons_zero, List.set_cons_succ]
            refine takeO 11 (some 138) (v := ?_) rfl rfl (by kernel_rfl) (by kernel_rfl) (by kernel_rfl) (fun _ _ _ h => h) (Or.inl ⟨by rfl, ?_⟩) (by assumption) ?_
            rotate_left 1
            · intro w hSw; (try dsimp only at hSw); go_simp; all_goals with_reducible rfl
            try simp only [Act.put, List.setIfInBounds_toArray, List.set_cons_zero, List.set_cons_succ]
            refine takeO 12 (some 139) (v := ?_) rfl rfl (by kernel_rfl) (by kernel_rfl) (by kernel_rfl) (fun _ _ _ h => h) (Or.inl ⟨by rfl, ?_⟩) (by assumption) ?_
            rotate_left 1
            · intro w hSw; (try dsimp only at hSw); go_simp; all_goals with_reducible rfl
            try simp only [Act.put, List.setIfInBounds_toArray, List.set_cons_zero, List.set_cons_succ]
            refine takeO 13 (some 140) (v := ?_) rfl rfl (by kernel_rfl) (by kernel_rfl) (by kernel_rfl) (fun _ _ _ h => h) (Or.inl ⟨by rfl, ?_⟩) (by assumption) ?_
            rotate_left 1
            · intro w hSw; (try dsimp only at hSw); go_simp; all_goals with_reducible rfl
            try simp only [Act.put, List.setIfInBounds_toArray, List.set_cons_zero, List.set_cons_succ]
            refine takeO 14 (some 141) (v := ?_) rfl rfl (by kernel_rfl) (by kernel_rfl) (by kernel_rfl) (fun _ _ _ h => h) (Or.inl ⟨by rfl, ?_⟩) (by assumption) ?_
            rotate_left 1
            · intro w hSw; (try dsimp only at hSw); go_simp; all_goals with_reducible rfl
            try simp only [Act.put, List.setIfInBounds_toArray, List.set_cons_zero, List.set_cons_succ]
            refine takeO 15 (some 142) (v := ?_) rfl rfl (by kernel_rfl) (by kernel_rfl) (by kernel_rfl) (fun _ _ _ h => h) (Or.inl ⟨by rfl, ?_⟩) (by assumption) ?_
            rotate_left 1
            · intro w hSw; (try dsimp only at hSw); go_simp; all_goals with_reducible rfl
            try simp only [Act.put, List.setIfInBounds_toArray, List.set_cons_zero, List.set_cons_succ]
            refine wpAnyH_done (by kernel_rfl) ?_ _
            clear hHeld HKC
            have HFJ := Lib.hid (HF3.out.below HBD.out)
            have y2 : wr.drew.cell? ⟨ab, 2, none⟩ = some (.int .i64 (s : Nat)) := (HBD.out.cell (p := ⟨ab, 2, none⟩) (Nat.lt_of_lt_of_le HAB.out HB23.out.size)).trans ((HB23.out.cell (p := ⟨ab, 2, none⟩) HAB.out).trans HY9.out)
            generalize hV : wr.drew = V at HFJ HBD y2 ⊢
            clear hV
            have t1 : ((j : Int) == (kn : Int)) = false := by rw [beq_eq_false_iff_ne]; omega
            have s1 : (0 : Int) ≤ (s : Int) := by omega
            have s2 : (s : Int) < 6 := by omega
            have cl : V.cell? ⟨lb, s, none⟩ = some (.int .i64 (lastF l s)) := by have e := HFJ.out.cell (e := 41) (cs := ints l) (b := lb) (by simp) s; rw [e]; unfold ints lastF; rw [List.getElem?_map, List.getD_eq_getElem?_getD, List.getElem?_eq_getElem (by rw [HK2.out.len]; omega)]; rfl
            have fz : V.frozen? ⟨lb, s, none⟩ = false := HFJ.out.fz (e := 41) (cs := ints l) (by simp) s
            have hf2 := HFJ.out.set (by have := HLB.out; omega) (by intro x hx; have := HLB.out; simp only [List.mem_cons, List.not_mem_nil, or_false] at hx; subst hx; show w.heap.size ≠ lb; omega) s (.int .i64 (j : Nat))
            have hro := ownsRow_below HROW.out (HB3.out.trans (HBD.out.mono HB3.out.size))
            have hro2 := ownsRow_frm hro ((Frm.refl (fun z => z = lb) V).setCell ⟨lb, s, none⟩ (.int .i64 (j : Nat)) (.inl rfl)) (fun z hz e => by have h1 := own_ge hro z hz; have h2 := HLTB.out; omega)
            obtain ⟨V2, hV2⟩ : ∃ X, V.setCell ⟨lb, s, none⟩ (.int .i64 (j : Nat)) = X := ⟨_, rfl⟩
            rw [hV2] at hf2 hro2
            have HF9 := Lib.hid (show FrS w V2 O12 A p S4 ((lb, 41, ints (l.set s (j : Nat))) :: [(w.heap.size, 25, [.slice c.aw c.nw c.cw, .slice c.ac c.nc c.cc, .int .i64 c.wk, .int .i64 c.cp, .int .i64 c.sl, .int .i64 c.ba, .int .i64 c.le, .int .i64 1000, .int .i64 c.fi, .int .i64 c.ca, .int .i64 c.ji, .int .i64 c.ne])]) from by unfold ints at hf2 ⊢; rw [List.map_set]; exact hf2)
            have HRO9 := Lib.hid hro2
            have HK9 := Lib.hid (show RkI C.cp 0 (k + 1) W2 (l.set s (j : Nat)) from HK2.out.step HRC.out.2.1 HS.out (by omega) HTT.out.symm)
            clear hf2 hro hro2
            clear HTT
            skip
            go_wp2_with (rw [hV2])
            clear hV2 cl fz y2
            go_roundw
            case rel => first | exact ⟨k + 1, l.set s (j : Nat), by omega, by go_num, HF9.out, HRO9.out, HK9.out⟩ | ((repeat apply Exists.intro); exact ⟨⟨k + 1, l.set s (j : Nat), by omega, by go_num, HF9.out, HRO9.out, HK9.out⟩, rfl⟩)
            case measure => simp [intOf]; omega
      have hg2 : ((nl : Int) != (n : Int)) = false := by rcases HGU.out with h | h; exact h; exact absurd h h0
      have hgi : (0 : Int) < (i : Int) := by omega
      have hge : (nl : Int) = (n : Int) := by simpa using hg2
      have hge2 : nl = n := by omega
      subst hge2
      clear hge hg2
      go_wp2_with fail
      clear HGU
      go_loopw [15] (fun v wr => RnkR w p C.cp lb i nl bs ao cl LL W2 S4 O12 A [(w.heap.size, 25, [.slice c.aw c.nw c.cw, .slice c.ac c.nc c.cc, .int .i64 c.wk, .int .i64 c.cp, .int .i64 c.sl, .int .i64 c.ba, .int .i64 c.le, .int .i64 1000, .int .i64 c.fi, .int .i64 c.ca, .int .i64 c.ji, .int .i64 c.ne])] v wr) (fun v _ => nl - (intOf v).toNat)
      case atStart => exact ⟨0, l, Nat.zero_le _, rfl, HF12.out, HROW.out, HRK.out⟩
      case round =>
        have HRDI := Lib.hid HI.out.cps
        clear HF12 HROW HRK HI
        obtain ⟨k, l, hk, rfl, HF, HROW, HK2⟩ := hrel
        by_cases hlk : k < nl
        rotate_left 1
        · have hkn : k = nl := by omega
          subst hkn
          skip
          have HRT := Lib.hid (show S4.c = C ∧ Heard S4 (fun _ => 0) ∧ S4.OK ns (2000 + 24 * ((i + 1 : Nat) : Int)) ∧ RcC S4 ns sl i W2 (nw + mo) ∧ S4.now = nw + ((0 : Nat) : Int) from ⟨HI4.out.1, HI4.out.2.1, HOK4.out, HRC.out, by rw [HI4.out.2.2]; omega⟩)
          go_wp2_with fail
          go_loopw [20] (fun v wr => RntR w p C ns sl lb mo nw (2000 + 24 * ((i + 1 : Nat) : Int)) i W2 A l [(w.heap.size, 25, [.slice c.aw c.nw c.cw, .slice c.ac c.nc c.cc, .int .i64 c.wk, .int .i64 c.cp, .int .i64 c.sl, .int .i64 c.ba, .int .i64 c.le, .int .i64 1000, .int .i64 c.fi, .int .i64 c.ca, .int .i64 c.ji, .int .i64 c.ne])] v wr) (fun v _ => mo - (intOf v).toNat)
          case atStart => exact ⟨0, S4, O12, Nat.zero_le _, rfl, HF.out, HRT.out⟩
          case round =>
            have HKE := Lib.hid (show RkI C.cp i k W2 l from HK2.out)
            clear HF HRT HK2
            obtain ⟨t, S5, O5, ht, rfl, HF, HT⟩ := hrel
            have z0 : wr.cell? ⟨w.heap.size, 0, none⟩ = some (.slice c.aw c.nw c.cw) := HF.out.cell (e := 25) (cs := [.slice c.aw c.nw c.cw, .slice c.ac c.nc c.cc, .int .i64 c.wk, .int .i64 c.cp, .int .i64 c.sl, .int .i64 c.ba, .int .i64 c.le, .int .i64 1000, .int .i64 c.fi, .int .i64 c.ca, .int .i64 c.ji, .int .i64 c.ne]) (b := w.heap.size) (by simp) 0
            have z1 : wr.cell? ⟨w.heap.size, 1, none⟩ = some (.slice c.ac c.nc c.cc) := HF.out.cell (e := 25) (cs := [.slice c.aw c.nw c.cw, .slice c.ac c.nc c.cc, .int .i64 c.wk, .int .i64 c.cp, .int .i64 c.sl, .int .i64 c.ba, .int .i64 c.le, .int .i64 1000, .int .i64 c.fi, .int .i64 c.ca, .int .i64 c.ji, .int .i64 c.ne]) (b := w.heap.size) (by simp) 1
            have z2 : wr.cell? ⟨w.heap.size, 2, none⟩ = some (.int .i64 c.wk) := HF.out.cell (e := 25) (cs := [.slice c.aw c.nw c.cw, .slice c.ac c.nc c.cc, .int .i64 c.wk, .int .i64 c.cp, .int .i64 c.sl, .int .i64 c.ba, .int .i64 c.le, .int .i64 1000, .int .i64 c.fi, .int .i64 c.ca, .int .i64 c.ji, .int .i64 c.ne]) (b := w.heap.size) (by simp) 2
            have z3 : wr.cell? ⟨w.heap.size, 3, none⟩ = some (.int .i64 c.cp) := HF.out.cell (e := 25) (cs := [.slice c.aw c.nw c.cw, .slice c.ac c.nc c.cc, .int .i64 c.wk, .int .i64 c.cp, .int .i64 c.sl, .int .i64 c.ba, .int .i64 c.le, .int .i64 1000, .int .i64 c.fi, .int .i64 c.ca, .int .i64 c.ji, .int .i64 c.ne]) (b := w.heap.size) (by simp) 3
            have z4 : wr.cell? ⟨w.heap.size, 4, none⟩ = some (.int .i64 c.sl) := HF.out.cell (e := 25) (cs := [.slice c.aw c.nw c.cw, .slice c.ac c.nc c.cc, .int .i64 c.wk, .int .i64 c.cp, .int .i64 c.sl, .int .i64 c.ba, .int .i64 c.le, .int .i64 1000, .int .i64 c.fi, .int .i64 c.ca, .int .i64 c.ji, .int .i64 c.ne]) (b := w.heap.size) (by simp) 4
            have z5 : wr.cell? ⟨w.heap.size, 5, none⟩ = some (.int .i64 c.ba) := HF.out.cell (e := 25) (cs := [.slice c.aw c.nw c.cw, .slice c.ac c.nc c.cc, .int .i64 c.wk, .int .i64 c.cp, .int .i64 c.sl, .int .i64 c.ba, .int .i64 c.le, .int .i64 1000, .int .i64 c.fi, .int .i64 c.ca, .int .i64 c.ji, .int .i64 c.ne]) (b := w.heap.size) (by simp) 5
            have z6 : wr.cell? ⟨w.heap.size, 6, none⟩ = some (.int .i64 c.le) := HF.out.cell (e := 25) (cs := [.slice c.aw c.nw c.cw, .slice c.ac c.nc c.cc, .int .i64 c.wk, .int .i64 c.cp, .int .i64 c.sl, .int .i64 c.ba, .int .i64 c.le, .int .i64 1000, .int .i64 c.fi, .int .i64 c.ca, .int .i64 c.ji, .int .i64 c.ne]) (b := w.heap.size) (by simp) 6
            have z7 : wr.cell? ⟨w.heap.size, 7, none⟩ = some (.int .i64 1000) := HF.out.cell (e := 25) (cs := [.slice c.aw c.nw c.cw, .slice c.ac c.nc c.cc, .int .i64 c.wk, .int .i64 c.cp, .int .i64 c.sl, .int .i64 c.ba, .int .i64 c.le, .int .i64 1000, .int .i64 c.fi, .int .i64 c.ca, .int .i64 c.ji, .int .i64 c.ne]) (b := w.heap.size) (by simp) 7
            have z8 : wr.cell? ⟨w.heap.size, 8, none⟩ = some (.int .i64 c.fi) := HF.out.cell (e := 25) (cs := [.slice c.aw c.nw c.cw, .slice c.ac c.nc c.cc, .int .i64 c.wk, .int .i64 c.cp, .int .i64 c.sl, .int .i64 c.ba, .int .i64 c.le, .int .i64 1000, .int .i64 c.fi, .int .i64 c.ca, .int .i64 c.ji, .int .i64 c.ne]) (b := w.heap.size) (by simp) 8
            have z9 : wr.cell? ⟨w.heap.size, 9, none⟩ = some (.int .i64 c.ca) := HF.out.cell (e := 25) (cs := [.slice c.aw c.nw c.cw, .slice c.ac c.nc c.cc, .int .i64 c.wk, .int .i64 c.cp, .int .i64 c.sl, .int .i64 c.ba, .int .i64 c.le, .int .i64 1000, .int .i64 c.fi, .int .i64 c.ca, .int .i64 c.ji, .int .i64 c.ne]) (b := w.heap.size) (by simp) 9
            have z10 : wr.cell? ⟨w.heap.size, 10, none⟩ = some (.int .i64 c.ji) := HF.out.cell (e := 25) (cs := [.slice c.aw c.nw c.cw, .slice c.ac c.nc c.cc, .int .i64 c.wk, .int .i64 c.cp, .int .i64 c.sl, .int .i64 c.ba, .int .i64 c.le, .int .i64 1000, .int .i64 c.fi, .int .i64 c.ca, .int .i64 c.ji, .int .i64 c.ne]) (b := w.heap.size) (by simp) 10
            have z11 : wr.cell? ⟨w.heap.size, 11, none⟩ = some (.int .i64 c.ne) := HF.out.cell (e := 25) (cs := [.slice c.aw c.nw c.cw, .slice c.ac c.nc c.cc, .int .i64 c.wk, .int .i64 c.cp, .int .i64 c.sl, .int .i64 c.ba, .int .i64 c.le, .int .i64 1000, .int .i64 c.fi, .int .i64 c.ca, .int .i64 c.ji, .int .i64 c.ne]) (b := w.heap.size) (by simp) 11
            go_wp2_with fail
            clear z0 z1 z2 z3 z4 z5 z6 z7 z8 z9 z10 z11
            refine (HMOST.out _).mono ?_
            rintro e w' ⟨rfl, hb⟩
            have HF2 := Lib.hid (HF.out.below hb)
            clear hb HF
            by_cases hlt2 : t < mo
            · have e5 : (t : Int) < (mo : Int) := by omega
              have hnn := HT.out.2.2.2.2
              have htk := tick_any _ HF2.out.cw (by have h := HNB.out; omega) (by have h := HNB.out; omega)
              have HTK := Lib.hid htk
              clear htk
              go_wp2_with fail
              refine HTK.out.mono ?_
              clear HTK
              rintro e w9 ⟨rfl, hc9, hf9⟩
              have HF9 := Lib.hid (HF2.out.step hc9 (AgO.refl _ _) hf9)
              have HT9 := Lib.hid (show S5.tick.c = C ∧ Heard S5.tick (fun _ => 0) ∧ S5.tick.OK ns (2000 + 24 * ((i + 1 : Nat) : Int)) ∧ RcC S5.tick ns sl i W2 (nw + mo) ∧ S5.tick.now = nw + ((t + 1 : Nat) : Int) from ⟨HT.out.1, heard_tick HT.out.2.1 (by have h := HNB.out; omega), tick_ok2 HT.out.2.2.1 (by have h := HNB.out; omega), rc_tick HT.out.2.2.2.1, by have h := HNB.out; show min (S5.now + 1) _ = _; omega⟩)
              clear hc9 hf9 hnn
              go_wp2_with fail
              go_roundw
              case rel => first | exact ⟨t + 1, S5.tick, O5, by omega, by go_num, HF9.out, HT9.out⟩ | ((repeat apply Exists.intro); exact ⟨⟨t + 1, S5.tick, O5, by omega, by go_num, HF9.out, HT9.out⟩, rfl⟩)
              case measure => simp [intOf]; omega
            have htm : t = mo := by omega
            subst htm
            have hnn := HT.out.2.2.2.2
            have HNI := Lib.hid (show RndI C ns sl (i + 1) k W2 S5 A l from ⟨HRDI.out, HKE.out.len, HT.out.1, HT.out.2.1, HT.out.2.2.1, rc_rb HT.out.2.2.2.1 (by omega), fun _ => ⟨HNW2.out, fun s hs => by
              obtain ⟨j, hj, e⟩ := List.mem_iff_getElem.1 hs
              have q := HKE.out.new j s (by rw [HNW2.out]; exact hj) (by rw [← e]; exact List.getElem?_eq_getElem hj)
              rw [q, show ((i + 1 : Nat) : Int) - 1 = ((i : Nat) : Int) by omega]⟩⟩)
            clear hnn
            go_wp2_with fail
            go_roundw
            case rel => first | exact ⟨i + 1, k, W2, S5, O5, A, l, by omega, by go_num, rfl, HF2.out, HNI.out⟩ | ((repeat apply Exists.intro); exact ⟨⟨i + 1, k, W2, S5, O5, A, l, by omega, by go_num, rfl, HF2.out, HNI.out⟩, rfl⟩)
            case measure => simp [intOf]; omega
        obtain ⟨s, hs⟩ : ∃ s, W2[k]? = some s := ⟨W2[k]'(by rw [← HNW2.out]; exact hlk), List.getElem?_eq_getElem _⟩
        have hnl6 : nl ≤ 6 := by rw [HNW2.out]; rcases HRC.out.2.2 with h | h; (rw [h.1]; decide); exact h.len6
        have hsn : s < ns := HRC.out.1 s (List.mem_of_getElem? hs)
        have hs5 : s ≤ 5 := by omega
        obtain ⟨tt, htt⟩ : ∃ tt : Nat, ((i : Nat) : Int) % C.cp = (tt : Int) := ⟨(((i : Nat) : Int) % C.cp).toNat, by have := Int.emod_nonneg ((i : Nat) : Int) (show C.cp ≠ 0 by rw [HK.out.1]; omega); omega⟩
        have htc : tt < cp := by have := Int.emod_lt_of_pos ((i : Nat) : Int) (show 0 < C.cp by rw [HK.out.1]; omega); rw [htt, HK.out.1] at this; omega
        obtain ⟨a0, a1, a3, a4, ax, a6, a7, a8, a9, ay, hlx⟩ : ∃ a0 a1 a3 a4 ax a6 a7 a8 a9 ay, LL[k]? = some (((copW C s tt : Nat) : Int), .ask a0 a1 (s : Nat) a3 a4 ax a6 a7 a8 a9 ay) := ⟨_, _, _, _, _, _, _, _, _, _, by rw [HLET.out, List.getElem?_map, hs]; show some (rlet S (i : Nat) s) = _; unfold rlet; rw [HSC0.out, htt, Int.toNat_natCast]⟩
        obtain ⟨lbk, lof, hao, hlb9, hcel⟩ := (ownsRow_rdE (enc := LV.cells) (size := 2) (fun x => rfl) HNL.out HROW.out).2.2.2.2 k _ hlx
        subst hao
        have HLC := Lib.hid (show ∀ V : World, Below wr.heap.size wr V → V.cell? ⟨lbk, lof + k * 2, none⟩ = some (.int .i64 ((copW C s tt : Nat) : Int)) from fun V hV => (hV.cell (p := ⟨lbk, lof + k * 2, none⟩) hlb9).trans (hcel 0 (by decide)))
        have cm : wr.cell? ⟨lbk, lof + k * 2 + 1, none⟩ = some (.iface 48 (.agg #[.int .i64 a0, .int .i64 a1, .int .i64 (s : Nat), .int .i64 a3, .int .i64 a4, .string ax, .int .i64 a6, .int .i64 a7, .bool a8, .int .i64 a9, .string ay])) := hcel 1 (by decide)
        obtain ⟨ab, hab⟩ : ∃ n, wr.heap.size = n := ⟨_, rfl⟩
        obtain ⟨wq, hwq⟩ : ∃ V, wr.alloc (.cells #[.int .i64 a0, .int .i64 a1, .int .i64 (s : Nat), .int .i64 a3, .int .i64 a4, .string ax, .int .i64 a6, .int .i64 a7, .bool a8, .int .i64 a9, .string ay] 48) = V := ⟨_, rfl⟩
        have hbq : Below wr.heap.size wr wq := by rw [← hwq]; exact (Below.refl _ wr).alloc (Nat.le_refl _) _
        have y2 : wq.cell? ⟨ab, 2, none⟩ = some (.int .i64 (s : Nat)) := by rw [← hwq, ← hab]; exact (show Blk _ wr.heap.size 48 [.int .i64 a0, .int .i64 a1, .int .i64 (s : Nat), .int .i64 a3, .int .i64 a4, .string ax, .int .i64 a6, .int .i64 a7, .bool a8, .int .i64 a9, .string ay] from heap_alloc_new wr _).cell 2
        have HFQ := Lib.hid (HF.out.below hbq)
        have HBQ := Lib.hid hbq
        have HY2 := Lib.hid y2
        have HTT := Lib.hid htt
        have HS := Lib.hid hs
        have k1 : (0 : Int) ≤ (k : Int) := by omega
        have k2 : (k : Int) < (nl : Int) := by omega
        clear hlx hlb9 hcel htt hs hbq y2
        go_wp2_with (first | rw [ta_ask_ask] | (rw [hwq]; rw [hab]))
        clear cm
        skip
        have HFQD := Lib.hid HFQ.out.drew
        have z0 : wq.drew.cell? ⟨w.heap.size, 0, none⟩ = some (.slice c.aw c.nw c.cw) := HFQD.out.cell (e := 25) (cs := [.slice c.aw c.nw c.cw, .slice c.ac c.nc c.cc, .int .i64 c.wk, .int .i64 c.cp, .int .i64 c.sl, .int .i64 c.ba, .int .i64 c.le, .int .i64 1000, .int .i64 c.fi, .int .i64 c.ca, .int .i64 c.ji, .int .i64 c.ne]) (b := w.heap.size) (by simp) 0
        have z1 : wq.drew.cell? ⟨w.heap.size, 1, none⟩ = some (.slice c.ac c.nc c.cc) := HFQD.out.cell (e := 25) (cs := [.slice c.aw c.nw c.cw, .slice c.ac c.nc c.cc, .int .i64 c.wk, .int .i64 c.cp, .int .i64 c.sl, .int .i64 c.ba, .int .i64 c.le, .int .i64 1000, .int .i64 c.fi, .int .i64 c.ca, .int .i64 c.ji, .int .i64 c.ne]) (b := w.heap.size) (by simp) 1
        have z2 : wq.drew.cell? ⟨w.heap.size, 2, none⟩ = some (.int .i64 c.wk) := HFQD.out.cell (e := 25) (cs := [.slice c.aw c.nw c.cw, .slice c.ac c.nc c.cc, .int .i64 c.wk, .int .i64 c.cp, .int .i64 c.sl, .int .i64 c.ba, .int .i64 c.le, .int .i64 1000, .int .i64 c.fi, .int .i64 c.ca, .int .i64 c.ji, .int .i64 c.ne]) (b := w.heap.size) (by simp) 2
        have z3 : wq.drew.cell? ⟨w.heap.size, 3, none⟩ = some (.int .i64 c.cp) := HFQD.out.cell (e := 25) (cs := [.slice c.aw c.nw c.cw, .slice c.ac c.nc c.cc, .int .i64 c.wk, .int .i64 c.cp, .int .i64 c.sl, .int .i64 c.ba, .int .i64 c.le, .int .i64 1000, .int .i64 c.fi, .int .i64 c.ca, .int .i64 c.ji, .int .i64 c.ne]) (b := w.heap.size) (by simp) 3
        have z4 : wq.drew.cell? ⟨w.heap.size, 4, none⟩ = some (.int .i64 c.sl) := HFQD.out.cell (e := 25) (cs := [.slice c.aw c.nw c.cw, .slice c.ac c.nc c.cc, .int .i64 c.wk, .int .i64 c.cp, .int .i64 c.sl, .int .i64 c.ba, .int .i64 c.le, .int .i64 1000, .int .i64 c.fi, .int .i64 c.ca, .int .i64 c.ji, .int .i64 c.ne]) (b := w.heap.size) (by simp) 4
        have z5 : wq.drew.cell? ⟨w.heap.size, 5, none⟩ = some (.int .i64 c.ba) := HFQD.out.cell (e := 25) (cs := [.slice c.aw c.nw c.cw, .slice c.ac c.nc c.cc, .int .i64 c.wk, .int .i64 c.cp, .int .i64 c.sl, .int .i64 c.ba, .int .i64 c.le, .int .i64 1000, .int .i64 c.fi, .int .i64 c.ca, .int .i64 c.ji, .int .i64 c.ne]) (b := w.heap.size) (by simp) 5
        have z6 : wq.drew.cell? ⟨w.heap.size, 6, none⟩ = some (.int .i64 c.le) := HFQD.out.cell (e := 25) (cs := [.slice c.aw c.nw c.cw, .slice c.ac c.nc c.cc, .int .i64 c.wk, .int .i64 c.cp, .int .i64 c.sl, .int .i64 c.ba, .int .i64 c.le, .int .i64 1000, .int .i64 c.fi, .int .i64 c.ca, .int .i64 c.ji, .int .i64 c.ne]) (b := w.heap.size) (by simp) 6
        have z7 : wq.drew.cell? ⟨w.heap.size, 7, none⟩ = some (.int .i64 1000) := HFQD.out.cell (e := 25) (cs := [.slice c.aw c.nw c.cw, .slice c.ac c.nc c.cc, .int .i64 c.wk, .int .i64 c.cp, .int .i64 c.sl, .int .i64 c.ba, .int .i64 c.le, .int .i64 1000, .int .i64 c.fi, .int .i64 c.ca, .int .i64 c.ji, .int .i64 c.ne]) (b := w.heap.size) (by simp) 7
        have z8 : wq.drew.cell? ⟨w.heap.size, 8, none⟩ = some (.int .i64 c.fi) := HFQD.out.cell (e := 25) (cs := [.slice c.aw c.nw c.cw, .slice c.ac c.nc c.cc, .int .i64 c.wk, .int .i64 c.cp, .int .i64 c.sl, .int .i64 c.ba, .int .i64 c.le, .int .i64 1000, .int .i64 c.fi, .int .i64 c.ca, .int .i64 c.ji, .int .i64 c.ne]) (b := w.heap.size) (by simp) 8
        have z9 : wq.drew.cell? ⟨w.heap.size, 9, none⟩ = some (.int .i64 c.ca) := HFQD.out.cell (e := 25) (cs := [.slice c.aw c.nw c.cw, .slice c.ac c.nc c.cc, .int .i64 c.wk, .int .i64 c.cp, .int .i64 c.sl, .int .i64 c.ba, .int .i64 c.le, .int .i64 1000, .int .i64 c.fi, .int .i64 c.ca, .int .i64 c.ji, .int .i64 c.ne]) (b := w.heap.size) (by simp) 9
        have z10 : wq.drew.cell? ⟨w.heap.size, 10, none⟩ = some (.int .i64 c.ji) := HFQD.out.cell (e := 25) (cs := [.slice c.aw c.nw c.cw, .slice c.ac c.nc c.cc, .int .i64 c.wk, .int .i64 c.cp, .int .i64 c.sl, .int .i64 c.ba, .int .i64 c.le, .int .i64 1000, .int .i64 c.fi, .int .i64 c.ca, .int .i64 c.ji, .int .i64 c.ne]) (b := w.heap.size) (by simp) 10
        have z11 : wq.drew.cell? ⟨w.heap.size, 11, none⟩ = some (.int .i64 c.ne) := HFQD.out.cell (e := 25) (cs := [.slice c.aw c.nw c.cw, .slice c.ac c.nc c.cc, .int .i64 c.wk, .int .i64 c.cp, .int .i64 c.sl, .int .i64 c.ba, .int .i64 c.le, .int .i64 1000, .int .i64 c.fi, .int .i64 c.ca, .int .i64 c.ji, .int .i64 c.ne]) (b := w.heap.size) (by simp) 11
        have y2 : wq.drew.cell? ⟨ab, 2, none⟩ = some (.int .i64 (s : Nat)) := HY2.out
        have HXY := Lib.hid (show wq.drew.cell? ⟨w.heap.size, 0, none⟩ = some (.slice c.aw c.nw c.cw) ∧ wq.drew.cell? ⟨w.heap.size, 1, none⟩ = some (.slice c.ac c.nc c.cc) ∧ wq.drew.cell? ⟨w.heap.size, 2, none⟩ = some (.int .i64 c.wk) ∧ wq.drew.cell? ⟨w.heap.size, 3, none⟩ = some (.int .i64 c.cp) ∧ wq.drew.cell? ⟨w.heap.size, 4, none⟩ = some (.int .i64 c.sl) ∧ wq.drew.cell? ⟨w.heap.size, 5, none⟩ = some (.int .i64 c.ba) ∧ wq.drew.cell? ⟨w.heap.size, 6, none⟩ = some (.int .i64 c.le) ∧ wq.drew.cell? ⟨w.heap.size, 7, none⟩ = some (.int .i64 1000) ∧ wq.drew.cell? ⟨w.heap.size, 8, none⟩ = some (.int .i64 c.fi) ∧ wq.drew.cell? ⟨w.heap.size, 9, none⟩ = some (.int .i64 c.ca) ∧ wq.drew.cell? ⟨w.heap.size, 10, none⟩ = some (.int .i64 c.ji) ∧ wq.drew.cell? ⟨w.heap.size, 11, none⟩ = some (.int .i64 c.ne) ∧ wq.drew.cell? ⟨ab, 2, none⟩ = some (.int .i64 (s : Nat)) from ⟨z0, z1, z2, z3, z4, z5, z6, z7, z8, z9, z10, z11, y2⟩)
        clear y2 z0 z1 z2 z3 z4 z5 z6 z7 z8 z9 z10 z11
        have hsh := shards_any c.he1 wq.drew (hcfg1 HFQD.out.bel)
        rw [← HSH.out, show c.he1.val = .agg #[.slice c.aw c.nw c.cw, .slice c.ac c.nc c.cc, .int .i64 c.wk, .int .i64 c.cp, .int .i64 c.sl, .int .i64 c.ba, .int .i64 c.le, .int .i64 1000, .int .i64 c.fi, .int .i64 c.ca, .int .i64 c.ji, .int .i64 c.ne] from rfl] at hsh
        have HSA := Lib.hid hsh
        have g0 : ¬ ((s : Int) < 0) := by omega
        have g1 : ¬ ((ns : Int) ≤ (s : Int)) := by omega
        have g2 : decide ((ns : Int) ≤ (s : Int)) = false := by simp; omega
        have g3 : decide ((s : Int) < 0) = false := by simp
        clear hsh
        go_upto_region 109 with fail
        refine wp_region_held_drew (S := (fun w' => w'.cell? ⟨w.heap.size, 0, none⟩ = some (.slice c.aw c.nw c.cw) ∧ w'.cell? ⟨w.heap.size, 1, none⟩ = some (.slice c.ac c.nc c.cc) ∧ w'.cell? ⟨w.heap.size, 2, none⟩ = some (.int .i64 c.wk) ∧ w'.cell? ⟨w.heap.size, 3, none⟩ = some (.int .i64 c.cp) ∧ w'.cell? ⟨w.heap.size, 4, none⟩ = some (.int .i64 c.sl) ∧ w'.cell? ⟨w.heap.size, 5, none⟩ = some (.int .i64 c.ba) ∧ w'.cell? ⟨w.heap.size, 6, none⟩ = some (.int .i64 c.le) ∧ w'.cell? ⟨w.heap.size, 7, none⟩ = some (.int .i64 1000) ∧ w'.cell? ⟨w.heap.size, 8, none⟩ = some (.int .i64 c.fi) ∧ w'.cell? ⟨w.heap.size, 9, none⟩ = some (.int .i64 c.ca) ∧ w'.cell? ⟨w.heap.size, 10, none⟩ = some (.int .i64 c.ji) ∧ w'.cell? ⟨w.heap.size, 11, none⟩ = some (.int .i64 c.ne) ∧ w'.cell? ⟨ab, 2, none⟩ = some (.int .i64 (s : Nat)))) (by kernel_rfl) (by first | exact HXY.out | exact HXY2.out) (fun hHeld => ?_)
        refine takeO 0 (some 109) (v := ?_) rfl rfl (by kernel_rfl) (by kernel_rfl) (by kernel_rfl) (fun _ _ _ h => h) (Or.inl ⟨by rfl, ?_⟩) (by assumption) ?_
        rotate_left 1
        · intro w hSw; (try dsimp only at hSw); go_simp; all_goals with_reducible rfl
        try simp only [Act.put, List.setIfInBounds_toArray, List.set_cons_zero, List.set_cons_succ]
        refine takeO 1 (some 110) (v := ?_) rfl rfl (by kernel_rfl) (by kernel_rfl) (by kernel_rfl) (fun _ _ _ h => h) (Or.inl ⟨by rfl, ?_⟩) (by assumption) ?_
        rotate_left 1
        · intro w hSw; (try dsimp only at hSw); go_simp; all_goals with_reducible rfl
        try simp only [Act.put, List.setIfInBounds_toArray, List.set_cons_zero, List.set_cons_succ]
        refine takeO 2 (some 111) (v := ?_) rfl rfl (by kernel_rfl) (by kernel_rfl) (by kernel_rfl) (fun _ _ _ h => h) (Or.inl ⟨by rfl, ?_⟩) (by assumption) ?_
        rotate_left 1
        · intro w hSw; (try dsimp only at hSw); go_simp; all_goals with_reducible rfl
        try simp only [Act.put, List.setIfInBounds_toArray, List.set_cons_zero, List.set_cons_succ]
        refine takeO 3 (some 112) (v := ?_) rfl rfl (by kernel_rfl) (by kernel_rfl) (by kernel_rfl) (fun _ _ _ h => h) (Or.inl ⟨by rfl, ?_⟩) (by assumption) ?_
        rotate_left 1
        · intro w hSw; (try dsimp only at hSw); go_simp; all_goals with_reducible rfl
        try simp only [Act.put, List.setIfInBounds_toArray, List.set_cons_zero, List.set_cons_succ]
        refine takeO 4 (some 113) (v := ?_) rfl rfl (by kernel_rfl) (by kernel_rfl) (by kernel_rfl) (fun _ _ _ h => h) (Or.inl ⟨by rfl, ?_⟩) (by assumption) ?_
        rotate_left 1
        · intro w hSw; (try dsimp only at hSw); go_simp; all_goals with_reducible rfl
        try simp only [Act.put, List.setIfInBounds_toArray, List.set_cons_zero, List.set_cons_succ]
        refine takeO 5 (some 114) (v := ?_) rfl rfl (by kernel_rfl) (by kernel_rfl) (by kernel_rfl) (fun _ _ _ h => h) (Or.inl ⟨by rfl, ?_⟩) (by assumption) ?_
        rotate_left 1
        · intro w hSw; (try dsimp only at hSw); go_simp; all_goals with_reducible rfl
        try simp only [Act.put, List.setIfInBounds_toArray, List.set_cons_zero, List.set_cons_succ]
        refine takeO 6 (some 115) (v := ?_) rfl rfl (by kernel_rfl) (by kernel_rfl) (by kernel_rfl) (fun _ _ _ h => h) (Or.inl ⟨by rfl, ?_⟩) (by assumption) ?_
        rotate_left 1
        · intro w hSw; (try dsimp only at hSw); go_simp; all_goals with_reducible rfl
        try simp only [Act.put, List.setIfInBounds_toArray, List.set_cons_zero, List.set_cons_succ]
        refine takeO 7 (some 116) (v := ?_) rfl rfl (by kernel_rfl) (by kernel_rfl) (by kernel_rfl) (fun _ _ _ h => h) (Or.inl ⟨by rfl, ?_⟩) (by assumption) ?_
        rotate_left 1
        · intro w hSw; (try dsimp only at hSw); go_simp; all_goals with_reducible rfl
        try simp only [Act.put, List.setIfInBounds_toArray, List.set_cons_zero, List.set_cons_succ]
        refine takeO 8 (some 117) (v := ?_) rfl rfl (by kernel_rfl) (by kernel_rfl) (by kernel_rfl) (fun _ _ _ h => h) (Or.inl ⟨by rfl, ?_⟩) (by assumption) ?_
        rotate_left 1
        · intro w hSw; (try dsimp only at hSw); go_simp; all_goals with_reducible rfl
        try simp only [Act.put, List.setIfInBounds_toArray, List.set_cons_zero, List.set_cons_succ]
        refine takeO 9 (some 118) (v := ?_) rfl rfl (by kernel_rfl) (by kernel_rfl) (by kernel_rfl) (fun _ _ _ h => h) (Or.inl ⟨by rfl, ?_⟩) (by assumption) ?_
        rotate_left 1
        · intro w hSw; (try dsimp only at hSw); go_simp; all_goals with_reducible rfl
        try simp only [Act.put, List.setIfInBounds_toArray, List.set_cons_zero, List.set_cons_succ]
        refine takeO 10 (some 119) (v := ?_) rfl rfl (by kernel_rfl) (by kernel_rfl) (by kernel_rfl) (fun _ _ _ h => h) (Or.inl ⟨by rfl, ?_⟩) (by assumption) ?_
        rotate_left 1
        · intro w hSw; (try dsimp only at hSw); go_simp; all_goals with_reducible rfl
        try simp only [Act.put, List.setIfInBounds_toArray, List.set_cons_zero, List.set_cons_succ]
        refine wpAnyH_ready (rs := [11]) (by kernel_rfl) (by simp) ?_
        refine AllReadyH.cons rfl (fun K hK => ?_) AllReadyH.nil
        go_simp
        refine HSA.out.mono ?_; rintro e v2 ⟨rfl, hb⟩; clear HSA; have HF2 := Lib.hid (HFQD.out.below hb); have HXY2 := Lib.hid (show v2.cell? ⟨w.heap.size, 0, none⟩ = some (.slice c.aw c.nw c.cw) ∧ v2.cell? ⟨w.heap.size, 1, none⟩ = some (.slice c.ac c.nc c.cc) ∧ v2.cell? ⟨w.heap.size, 2, none⟩ = some (.int .i64 c.wk) ∧ v2.cell? ⟨w.heap.size, 3, none⟩ = some (.int .i64 c.cp) ∧ v2.cell? ⟨w.heap.size, 4, none⟩ = some (.int .i64 c.sl) ∧ v2.cell? ⟨w.heap.size, 5, none⟩ = some (.int .i64 c.ba) ∧ v2.cell? ⟨w.heap.size, 6, none⟩ = some (.int .i64 c.le) ∧ v2.cell? ⟨w.heap.size, 7, none⟩ = some (.int .i64 1000) ∧ v2.cell? ⟨w.heap.size, 8, none⟩ = some (.int .i64 c.fi) ∧ v2.cell? ⟨w.heap.size, 9, none⟩ = some (.int .i64 c.ca) ∧ v2.cell? ⟨w.heap.size, 10, none⟩ = some (.int .i64 c.ji) ∧ v2.cell? ⟨w.heap.size, 11, none⟩ = some (.int .i64 c.ne) ∧ v2.cell? ⟨ab, 2, none⟩ = some (.int .i64 (s : Nat)) from ⟨HF2.out.cell (e := 25) (cs := [.slice c.aw c.nw c.cw, .slice c.ac c.nc c.cc, .int .i64 c.wk, .int .i64 c.cp, .int .i64 c.sl, .int .i64 c.ba, .int .i64 c.le, .int .i64 1000, .int .i64 c.fi, .int .i64 c.ca, .int .i64 c.ji, .int .i64 c.ne]) (b := w.heap.size) (by simp) 0, HF2.out.cell (e := 25) (cs := [.slice c.aw c.nw c.cw, .slice c.ac c.nc c.cc, .int .i64 c.wk, .int .i64 c.cp, .int .i64 c.sl, .int .i64 c.ba, .int .i64 c.le, .int .i64 1000, .int .i64 c.fi, .int .i64 c.ca, .int .i64 c.ji, .int .i64 c.ne]) (b := w.heap.size) (by simp) 1, HF2.out.cell (e := 25) (cs := [.slice c.aw c.nw c.cw, .slice c.ac c.nc c.cc, .int .i64 c.wk, .int .i64 c.cp, .int .i64 c.sl, .int .i64 c.ba, .int .i64 c.le, .int .i64 1000, .int .i64 c.fi, .int .i64 c.ca, .int .i64 c.ji, .int .i64 c.ne]) (b := w.heap.size) (by simp) 2, HF2.out.cell (e := 25) (cs := [.slice c.aw c.nw c.cw, .slice c.ac c.nc c.cc, .int .i64 c.wk, .int .i64 c.cp, .int .i64 c.sl, .int .i64 c.ba, .int .i64 c.le, .int .i64 1000, .int .i64 c.fi, .int .i64 c.ca, .int .i64 c.ji, .int .i64 c.ne]) (b := w.heap.size) (by simp) 3, HF2.out.cell (e := 25) (cs := [.slice c.aw c.nw c.cw, .slice c.ac c.nc c.cc, .int .i64 c.wk, .int .i64 c.cp, .int .i64 c.sl, .int .i64 c.ba, .int .i64 c.le, .int .i64 1000, .int .i64 c.fi, .int .i64 c.ca, .int .i64 c.ji, .int .i64 c.ne]) (b := w.heap.size) (by simp) 4, HF2.out.cell (e := 25) (cs := [.slice c.aw c.nw c.cw, .slice c.ac c.nc c.cc, .int .i64 c.wk, .int .i64 c.cp, .int .i64 c.sl, .int .i64 c.ba, .int .i64 c.le, .int .i64 1000, .int .i64 c.fi, .int .i64 c.ca, .int .i64 c.ji, .int .i64 c.ne]) (b := w.heap.size) (by simp) 5, HF2.out.cell (e := 25) (cs := [.slice c.aw c.nw c.cw, .slice c.ac c.nc c.cc, .int .i64 c.wk, .int .i64 c.cp, .int .i64 c.sl, .int .i64 c.ba, .int .i64 c.le, .int .i64 1000, .int .i64 c.fi, .int .i64 c.ca, .int .i64 c.ji, .int .i64 c.ne]) (b := w.heap.size) (by simp) 6, HF2.out.cell (e := 25) (cs := [.slice c.aw c.nw c.cw, .slice c.ac c.nc c.cc, .int .i64 c.wk, .int .i64 c.cp, .int .i64 c.sl, .int .i64 c.ba, .int .i64 c.le, .int .i64 1000, .int .i64 c.fi, .int .i64 c.ca, .int .i64 c.ji, .int .i64 c.ne]) (b := w.heap.size) (by simp) 7, HF2.out.cell (e := 25) (cs := [.slice c.aw c.nw c.cw, .slice c.ac c.nc c.cc, .int .i64 c.wk, .int .i64 c.cp, .int .i64 c.sl, .int .i64 c.ba, .int .i64 c.le, .int .i64 1000, .int .i64 c.fi, .int .i64 c.ca, .int .i64 c.ji, .int .i64 c.ne]) (b := w.heap.size) (by simp) 8, HF2.out.cell (e := 25) (cs := [.slice c.aw c.nw c.cw, .slice c.ac c.nc c.cc, .int .i64 c.wk, .int .i64 c.cp, .int .i64 c.sl, .int .i64 c.ba, .int .i64 c.le, .int .i64 1000, .int .i64 c.fi, .int .i64 c.ca, .int .i64 c.ji, .int .i64 c.ne]) (b := w.heap.size) (by simp) 9, HF2.out.cell (e := 25) (cs := [.slice c.aw c.nw c.cw, .slice c.ac c.nc c.cc, .int .i64 c.wk, .int .i64 c.cp, .int .i64 c.sl, .int .i64 c.ba, .int .i64 c.le, .int .i64 1000, .int .i64 c.fi, .int .i64 c.ca, .int .i64 c.ji, .int .i64 c.ne]) (b := w.heap.size) (by simp) 10, HF2.out.cell (e := 25) (cs := [.slice c.aw c.nw c.cw, .slice c.ac c.nc c.cc, .int .i64 c.wk, .int .i64 c.cp, .int .i64 c.sl, .int .i64 c.ba, .int .i64 c.le, .int .i64 1000, .int .i64 c.fi, .int .i64 c.ca, .int .i64 c.ji, .int .i64 c.ne]) (b := w.heap.size) (by simp) 11, (hb.cell (p := ⟨ab, 2, none⟩) (cell?_lt HXY.out.2.2.2.2.2.2.2.2.2.2.2.2)).trans HXY.out.2.2.2.2.2.2.2.2.2.2.2.2⟩); have HB2 := Lib.hid (show Below wr.heap.size wr v2 from ((HBQ.out.drew).trans (hb.mono (HBQ.out.drew).size))); clear hb
        go_wp2_with fail
        refine hK.out _ _ (by first | exact HXY.out | exact HXY2.out) (fun hHeld => ?_)
        clear hK K
        try simp only [Act.put, List.setIfInBounds_toArray, List.set_cons_zero, List.set_cons_succ]
        refine takeO 12 (some 121) (v := ?_) rfl rfl (by kernel_rfl) (by kernel_rfl) (by kernel_rfl) (fun _ _ _ h => h) (Or.inl ⟨by rfl, ?_⟩) (by assumption) ?_
        rotate_left 1
        · intro w hSw; (try dsimp only at hSw); go_simp; all_goals with_reducible rfl
        try simp only [Act.put, List.setIfInBounds_toArray, List.set_cons_zero, List.set_cons_succ]
        refine takeO 13 (some 122) (v := ?_) rfl rfl (by kernel_rfl) (by kernel_rfl) (by kernel_rfl) (fun _ _ _ h => h) (Or.inl ⟨by rfl, ?_⟩) (by assumption) ?_
        rotate_left 1
        · intro w hSw; (try dsimp only at hSw); go_simp; all_goals with_reducible rfl
        try simp only [Act.put, List.setIfInBounds_toArray, List.set_cons_zero, List.set_cons_succ]
        refine wpAnyH_done (by kernel_rfl) ?_ _
        have y2 : v2.cell? ⟨ab, 2, none⟩ = some (.int .i64 (s : Nat)) := HXY2.out.2.2.2.2.2.2.2.2.2.2.2.2
        have HAB := Lib.hid (show ab < v2.heap.size from cell?_lt y2)
        clear hHeld HXY HXY2 HFQD HFQ HBQ HY2 g0 g1 g2 g3
        skip
        have z0 : v2.cell? ⟨w.heap.size, 0, none⟩ = some (.slice c.aw c.nw c.cw) := HF2.out.cell (e := 25) (cs := [.slice c.aw c.nw c.cw, .slice c.ac c.nc c.cc, .int .i64 c.wk, .int .i64 c.cp, .int .i64 c.sl, .int .i64 c.ba, .int .i64 c.le, .int .i64 1000, .int .i64 c.fi, .int .i64 c.ca, .int .i64 c.ji, .int .i64 c.ne]) (b := w.heap.size) (by simp) 0
        have z1 : v2.cell? ⟨w.heap.size, 1, none⟩ = some (.slice c.ac c.nc c.cc) := HF2.out.cell (e := 25) (cs := [.slice c.aw c.nw c.cw, .slice c.ac c.nc c.cc, .int .i64 c.wk, .int .i64 c.cp, .int .i64 c.sl, .int .i64 c.ba, .int .i64 c.le, .int .i64 1000, .int .i64 c.fi, .int .i64 c.ca, .int .i64 c.ji, .int .i64 c.ne]) (b := w.heap.size) (by simp) 1
        have z2 : v2.cell? ⟨w.heap.size, 2, none⟩ = some (.int .i64 c.wk) := HF2.out.cell (e := 25) (cs := [.slice c.aw c.nw c.cw, .slice c.ac c.nc c.cc, .int .i64 c.wk, .int .i64 c.cp, .int .i64 c.sl, .int .i64 c.ba, .int .i64 c.le, .int .i64 1000, .int .i64 c.fi, .int .i64 c.ca, .int .i64 c.ji, .int .i64 c.ne]) (b := w.heap.size) (by simp) 2
        have z3 : v2.cell? ⟨w.heap.size, 3, none⟩ = some (.int .i64 c.cp) := HF2.out.cell (e := 25) (cs := [.slice c.aw c.nw c.cw, .slice c.ac c.nc c.cc, .int .i64 c.wk, .int .i64 c.cp, .int .i64 c.sl, .int .i64 c.ba, .int .i64 c.le, .int .i64 1000, .int .i64 c.fi, .int .i64 c.ca, .int .i64 c.ji, .int .i64 c.ne]) (b := w.heap.size) (by simp) 3
        have z4 : v2.cell? ⟨w.heap.size, 4, none⟩ = some (.int .i64 c.sl) := HF2.out.cell (e := 25) (cs := [.slice c.aw c.nw c.cw, .slice c.ac c.nc c.cc, .int .i64 c.wk, .int .i64 c.cp, .int .i64 c.sl, .int .i64 c.ba, .int .i64 c.le, .int .i64 1000, .int .i64 c.fi, .int .i64 c.ca, .int .i64 c.ji, .int .i64 c.ne]) (b := w.heap.size) (by simp) 4
        have z5 : v2.cell? ⟨w.heap.size, 5, none⟩ = some (.int .i64 c.ba) := HF2.out.cell (e := 25) (cs := [.slice c.aw c.nw c.cw, .slice c.ac c.nc c.cc, .int .i64 c.wk, .int .i64 c.cp, .int .i64 c.sl, .int .i64 c.ba, .int .i64 c.le, .int .i64 1000, .int .i64 c.fi, .int .i64 c.ca, .int .i64 c.ji, .int .i64 c.ne]) (b := w.heap.size) (by simp) 5
        have z6 : v2.cell? ⟨w.heap.size, 6, none⟩ = some (.int .i64 c.le) := HF2.out.cell (e := 25) (cs := [.slice c.aw c.nw c.cw, .slice c.ac c.nc c.cc, .int .i64 c.wk, .int .i64 c.cp, .int .i64 c.sl, .int .i64 c.ba, .int .i64 c.le, .int .i64 1000, .int .i64 c.fi, .int .i64 c.ca, .int .i64 c.ji, .int .i64 c.ne]) (b := w.heap.size) (by simp) 6
        have z7 : v2.cell? ⟨w.heap.size, 7, none⟩ = some (.int .i64 1000) := HF2.out.cell (e := 25) (cs := [.slice c.aw c.nw c.cw, .slice c.ac c.nc c.cc, .int .i64 c.wk, .int .i64 c.cp, .int .i64 c.sl, .int .i64 c.ba, .int .i64 c.le, .int .i64 1000, .int .i64 c.fi, .int .i64 c.ca, .int .i64 c.ji, .int .i64 c.ne]) (b := w.heap.size) (by simp) 7
        have z8 : v2.cell? ⟨w.heap.size, 8, none⟩ = some (.int .i64 c.fi) := HF2.out.cell (e := 25) (cs := [.slice c.aw c.nw c.cw, .slice c.ac c.nc c.cc, .int .i64 c.wk, .int .i64 c.cp, .int .i64 c.sl, .int .i64 c.ba, .int .i64 c.le, .int .i64 1000, .int .i64 c.fi, .int .i64 c.ca, .int .i64 c.ji, .int .i64 c.ne]) (b := w.heap.size) (by simp) 8
        have z9 : v2.cell? ⟨w.heap.size, 9, none⟩ = some (.int .i64 c.ca) := HF2.out.cell (e := 25) (cs := [.slice c.aw c.nw c.cw, .slice c.ac c.nc c.cc, .int .i64 c.wk, .int .i64 c.cp, .int .i64 c.sl, .int .i64 c.ba, .int .i64 c.le, .int .i64 1000, .int .i64 c.fi, .int .i64 c.ca, .int .i64 c.ji, .int .i64 c.ne]) (b := w.heap.size) (by simp) 9
        have z10 : v2.cell? ⟨w.heap.size, 10, none⟩ = some (.int .i64 c.ji) := HF2.out.cell (e := 25) (cs := [.slice c.aw c.nw c.cw, .slice c.ac c.nc c.cc, .int .i64 c.wk, .int .i64 c.cp, .int .i64 c.sl, .int .i64 c.ba, .int .i64 c.le, .int .i64 1000, .int .i64 c.fi, .int .i64 c.ca, .int .i64 c.ji, .int .i64 c.ne]) (b := w.heap.size) (by simp) 10
        have z11 : v2.cell? ⟨w.heap.size, 11, none⟩ = some (.int .i64 c.ne) := HF2.out.cell (e := 25) (cs := [.slice c.aw c.nw c.cw, .slice c.ac c.nc c.cc, .int .i64 c.wk, .int .i64 c.cp, .int .i64 c.sl, .int .i64 c.ba, .int .i64 c.le, .int .i64 1000, .int .i64 c.fi, .int .i64 c.ca, .int .i64 c.ji, .int .i64 c.ne]) (b := w.heap.size) (by simp) 11
        have hcc : copiesC c.he1 (s : Nat) = copN C s := by rw [copiesC_yes (by unfold inB; rw [← HSH.out]; simp; omega), ← HCC.out]; rfl
        have hcy := copies_any c.he1 (s : Nat) v2 (hcfg1 HF2.out.bel)
        rw [hcc, show c.he1.val = .agg #[.slice c.aw c.nw c.cw, .slice c.ac c.nc c.cc, .int .i64 c.wk, .int .i64 c.cp, .int .i64 c.sl, .int .i64 c.ba, .int .i64 c.le, .int .i64 1000, .int .i64 c.fi, .int .i64 c.ca, .int .i64 c.ji, .int .i64 c.ne] from rfl] at hcy
        have HCY := Lib.hid hcy
        clear hcy hcc
        go_wp2_with fail
        have HY9 := Lib.hid y2
        clear y2 z0 z1 z2 z3 z4 z5 z6 z7 z8 z9 z10 z11
        refine HCY.out.mono ?_
        clear HCY
        rintro e v3 ⟨ka, kn, kc, rfl, hrd, hb3⟩
        have HB23 := Lib.hid hb3
        have HF3 := Lib.hid (HF2.out.below hb3)
        have HB3 := Lib.hid (HB2.out.trans (hb3.mono HB2.out.size))
        skip
        have hkn : kn = cp := by have := hrd.1; unfold ints copN at this; rw [List.length_map, List.length_map, List.length_range, HK.out.1, Int.toNat_natCast] at this; omega
        subst hkn
        have hget : ∀ j, j < kn → (ints (copN C s))[j]? = some (.int .i64 ((copW C s j : Nat) : Int)) := fun j hj => by unfold ints; rw [List.getElem?_map, copN_at (by rw [HK.out.1]; omega), copW_eq (by rw [HK.out.2.2.2.1]; omega)]; rfl
        obtain ⟨kb, ko, hka, hkb, hk0⟩ := hrd.2.2.2.2 0 (by omega)
        subst hka
        have HGET := Lib.hid (show ∀ (j : Nat) (V : World), j < kn → Below v3.heap.size v3 V → V.cell? ⟨kb, ko + j, none⟩ = some (.int .i64 ((copW C s j : Nat) : Int)) from fun j V hj hV => by
          obtain ⟨b', o', e', hb', hc'⟩ := hrd.2.2.2.2 j hj
          cases e'
          rw [hget j hj] at hc'
          exact (hV.cell (p := ⟨kb, ko + j, none⟩) hb').trans hc')
        have HNE := Lib.hid (show ∀ j, j < tt → copW C s j ≠ copW C s tt from fun j hj e => by have := cop_inj (c := C) (by rw [HK.out.2.2.2.1]; omega) (by rw [HK.out.2.2.2.1]; omega) HK.out.2.2.2.2 (by rw [HK.out.1]; omega) (by rw [HK.out.1]; omega) e; omega)
        clear hrd hkb hk0 hget hb3
        go_wp2_with fail
        go_loopw [19] (fun v wr => RnaR v3 tt v wr) (fun v _ => tt + 1 - (intOf v).toNat)
        case atStart => exact ⟨0, Nat.zero_le _, rfl, Below.refl _ _⟩
        case round =>
          skip
          obtain ⟨j, hj, rfl, HBJ⟩ := hrel
          skip
          skip
          have HBD := Lib.hid HBJ.out.drew
          have j1 : (0 : Int) ≤ (j : Int) := by omega
          have j2 : (j : Int) < (kn : Int) := by omega
          have kc' := HGET.out j wr.drew (by omega) HBD.out
          have lc' := HLC.out wr.drew (HB3.out.trans (HBD.out.mono HB3.out.size))
          have hne := HNE.out j
          obtain ⟨tw, htw⟩ : ∃ n, copW C s tt = n := ⟨_, rfl⟩
          rw [htw] at lc' hne
          have HTW := Lib.hid htw
          clear htw
          obtain ⟨cj, hcj⟩ : ∃ n, copW C s j = n := ⟨_, rfl⟩
          rw [hcj] at kc' hne
          have HKC := Lib.hid (And.intro kc' lc')
          have HCJ := Lib.hid hcj
          clear kc' lc' hcj
          by_cases hjt : j < tt
          · have hne2 : ((cj : Int) != (tw : Int)) = true := by have := hne hjt; rw [bne_iff_ne]; omega
            clear hne
            go_upto_region 127 with fail
            refine wp_region_held_drew (S := (fun w' => w'.cell? ⟨kb, ko + j, none⟩ = some (.int .i64 (cj : Nat)) ∧ w'.cell? ⟨lbk, lof + k * 2, none⟩ = some (.int .i64 (tw : Nat)))) (by kernel_rfl) (by exact HKC.out) (fun hHeld => ?_)
            refine takeO 0 (some 127) (v := ?_) rfl rfl (by kernel_rfl) (by kernel_rfl) (by kernel_rfl) (fun _ _ _ h => h) (Or.inl ⟨by rfl, ?_⟩) (by assumption) ?_
            rotate_left 1
            · intro w hSw; (try dsimp only at hSw); go_simp; all_goals with_reducible rfl
            try simp only [Act.put, List.setIfInBounds_toArray, List.set_cons_zero, List.set_cons_succ]
            refine takeO 1 (some 128) (v := ?_) rfl rfl (by kernel_rfl) (by kernel_rfl) (by kernel_rfl) (fun _ _ _ h => h) (Or.inl ⟨by rfl, ?_⟩) (by assumption) ?_
            rotate_left 1
            · intro w hSw; (try dsimp only at hSw); go_simp; all_goals with_reducible rfl
            try simp only [Act.put, List.setIfInBounds_toArray, List.set_cons_zero, List.set_cons_succ]
            refine takeO 2 (some 129) (v := ?_) rfl rfl (by kernel_rfl) (by kernel_rfl) (by kernel_rfl) (fun _ _ _ h => h) (Or.inl ⟨by rfl, ?_⟩) (by assumption) ?_
            rotate_left 1
            · intro w hSw; (try dsimp only at hSw); go_simp; all_goals with_reducible rfl
            try simp only [Act.put, List.setIfInBounds_toArray, List.set_cons_zero, List.set_cons_succ]
            refine takeO 3 (some 130) (v := ?_) rfl rfl (by kernel_rfl) (by kernel_rfl) (by kernel_rfl) (fun _ _ _ h => h) (Or.inl ⟨by rfl, ?_⟩) (by assumption) ?_
            rotate_left 1
            · intro w hSw; (try dsimp only at hSw); go_simp; all_goals with_reducible rfl
            try simp only [Act.put, List.setIfInBounds_toArray, List.set_cons_zero, List.set_cons_succ]
            refine takeO 4 (some 131) (v := ?_) rfl rfl (by kernel_rfl) (by kernel_rfl) (by kernel_rfl) (fun _ _ _ h => h) (Or.inl ⟨by rfl, ?_⟩) (by assumption) ?_
            rotate_left 1
            · intro w hSw; (try dsimp only at hSw); go_simp; all_goals with_reducible rfl
            try simp only [Act.put, List.setIfInBounds_toArray, List.set_cons_zero, List.set_cons_succ]
            refine takeO 5 (some 132) (v := ?_) rfl rfl (by kernel_rfl) (by kernel_rfl) (by kernel_rfl) (fun _ _ _ h => h) (Or.inl ⟨by rfl, ?_⟩) (by assumption) ?_
            rotate_left 1
            · intro w hSw; (try dsimp only at hSw); go_simp; all_goals with_reducible rfl
            try simp only [Act.put, List.setIfInBounds_toArray, List.set_cons_zero, List.set_cons_succ]
            refine takeO 6 (some 133) (v := ?_) rfl rfl (by kernel_rfl) (by kernel_rfl) (by kernel_rfl) (fun _ _ _ h => h) (Or.inl ⟨by rfl, ?_⟩) (by assumption) ?_
            rotate_left 1
            · intro w hSw; (try dsimp only at hSw); go_simp; all_goals with_reducible rfl
            try simp only [Act.put, List.setIfInBounds_toArray, List.set_cons_zero, List.set_cons_succ]
            refine takeO 7 (some 134) (v := ?_) rfl rfl (by kernel_rfl) (by kernel_rfl) (by kernel_rfl) (fun _ _ _ h => h) (Or.inl ⟨by rfl, ?_⟩) (by assumption) ?_
            rotate_left 1
            · intro w hSw; (try dsimp only at hSw); go_simp; all_goals with_reducible rfl
            try simp only [Act.put, List.setIfInBounds_toArray, List.set_cons_zero, List.set_cons_succ]
            refine takeO 8 (some 135) (v := ?_) rfl rfl (by kernel_rfl) (by kernel_rfl) (by kernel_rfl) (fun _ _ _ h => h) (Or.inl ⟨by rfl, ?_⟩) (by assumption) ?_
            rotate_left 1
            · intro w hSw; (try dsimp only at hSw); go_simp; all_goals with_reducible rfl
            try simp only [Act.put, List.setIfInBounds_toArray, List.set_cons_zero, List.set_cons_succ]
            refine takeO 9 (some 136) (v := ?_) rfl rfl (by kernel_rfl) (by kernel_rfl) (by kernel_rfl) (fun _ _ _ h => h) (Or.inl ⟨by rfl, ?_⟩) (by assumption) ?_
            rotate_left 1
            · intro w hSw; (try dsimp only at hSw); go_simp; all_goals with_reducible rfl
            try simp only [Act.put, List.setIfInBounds_toArray, List.set_cons_zero, List.set_cons_succ]
            refine takeO 10 (some 137) (v := ?_) rfl rfl (by kernel_rfl) (by kernel_rfl) (by kernel_rfl) (fun _ _ _ h => h) (Or.inl ⟨by rfl, ?_⟩) (by assumption) ?_
            rotate_left 1
            · intro w hSw; (try dsimp only at hSw); go_simp; all_goals with_reducible rfl
            try simp only [Act.put, List.setIfInBounds_toArray, List.set_cons_zero, List.set_cons_succ]
            refine takeO 11 (some 138) (v := ?_) rfl rfl (by kernel_rfl) (by kernel_rfl) (by kernel_rfl) (fun _ _ _ h => h) (Or.inl ⟨by rfl, ?_⟩) (by assumption) ?_
            rotate_left 1
            · intro w hSw; (try dsimp only at hSw); go_simp; all_goals with_reducible rfl
            try simp only [Act.put, List.setIfInBounds_toArray, List.set_cons_zero, List.set_cons_succ]
            refine takeO 12 (some 139) (v := ?_) rfl rfl (by kernel_rfl) (by kernel_rfl) (by kernel_rfl) (fun _ _ _ h => h) (Or.inl ⟨by rfl, ?_⟩) (by assumption) ?_
            rotate_left 1
            · intro w hSw; (try dsimp only at hSw); go_simp; all_goals with_reducible rfl
            try simp only [Act.put, List.setIfInBounds_toArray, List.set_cons_zero, List.set_cons_succ]
            refine takeO 13 (some 140) (v := ?_) rfl rfl (by kernel_rfl) (by kernel_rfl) (by kernel_rfl) (fun _ _ _ h => h) (Or.inl ⟨by rfl, ?_⟩) (by assumption) ?_
            rotate_left 1
            · intro w hSw; (try dsimp only at hSw); go_simp; all_goals with_reducible rfl
            try simp only [Act.put, List.setIfInBounds_toArray, List.set_cons_zero, List.set_cons_succ]
            refine takeO 14 (some 141) (v := ?_) rfl rfl (by kernel_rfl) (by kernel_rfl) (by kernel_rfl) (fun _ _ _ h => h) (Or.inl ⟨by rfl, ?_⟩) (by assumption) ?_
            rotate_left 1
            · intro w hSw; (try dsimp only at hSw); go_simp; all_goals with_reducible rfl
            try simp only [Act.put, List.setIfInBounds_toArray, List.set_cons_zero, List.set_cons_succ]
            refine takeO 15 (some 142) (v := ?_) rfl rfl (by kernel_rfl) (by kernel_rfl) (by kernel_rfl) (fun _ _ _ h => h) (Or.inl ⟨by rfl, ?_⟩) (by assumption) ?_
            rotate_left 1
            · intro w hSw; (try dsimp only at hSw); go_simp; all_goals with_reducible rfl
            try simp only [Act.put, List.setIfInBounds_toArray, List.set_cons_zero, List.set_cons_succ]
            refine wpAnyH_done (by kernel_rfl) ?_ _
            clear hHeld
            go_wp2_with fail
            go_roundw
            case rel => first | exact ⟨j + 1, by omega, by go_num, HBD.out⟩ | ((repeat apply Exists.intro); exact ⟨⟨j + 1, by omega, by go_num, HBD.out⟩, rfl⟩)
            case measure => simp [intOf]; omega
          have hjt2 : j = tt := by omega
          subst hjt2
          have hcj2 : cj = tw := by rw [← HCJ.out, ← HTW.out]
          subst hcj2
          have hne2 : ((cj : Int) != (cj : Int)) = false := by simp
          clear hne hjt
          go_upto_region 127 with fail
          refine wp_region_held_drew (S := (fun w' => w'.cell? ⟨kb, ko + j, none⟩ = some (.int .i64 (cj : Nat)) ∧ w'.cell? ⟨lbk, lof + k * 2, none⟩ = some (.int .i64 (cj : Nat)))) (by kernel_rfl) (by exact HKC.out) (fun hHeld => ?_)
          refine takeO 0 (some 127) (v := ?_) rfl rfl (by kernel_rfl) (by kernel_rfl) (by kernel_rfl) (fun _ _ _ h => h) (Or.inl ⟨by rfl, ?_⟩) (by assumption) ?_
          rotate_left 1
          · intro w hSw; (try dsimp only at hSw); go_simp; all_goals with_reducible rfl
          try simp only [Act.put, List.setIfInBounds_toArray, List.set_cons_zero, List.set_cons_succ]
          refine takeO 1 (some 128) (v := ?_) rfl rfl (by kernel_rfl) (by kernel_rfl) (by kernel_rfl) (fun _ _ _ h => h) (Or.inl ⟨by rfl, ?_⟩) (by assumption) ?_
          rotate_left 1
          · intro w hSw; (try dsimp only at hSw); go_simp; all_goals with_reducible rfl
          try simp only [Act.put, List.setIfInBounds_toArray, List.set_cons_zero, List.set_cons_succ]
          refine takeO 2 (some 129) (v := ?_) rfl rfl (by kernel_rfl) (by kernel_rfl) (by kernel_rfl) (fun _ _ _ h => h) (Or.inl ⟨by rfl, ?_⟩) (by assumption) ?_
          rotate_left 1
          · intro w hSw; (try dsimp only at hSw); go_simp; all_goals with_reducible rfl
          try simp only [Act.put, List.setIfInBounds_toArray, List.set_cons_zero, List.set_cons_succ]
          refine takeO 3 (some 130) (v := ?_) rfl rfl (by kernel_rfl) (by kernel_rfl) (by kernel_rfl) (fun _ _ _ h => h) (Or.inl ⟨by rfl, ?_⟩) (by assumption) ?_
          rotate_left 1
          · intro w hSw; (try dsimp only at hSw); go_simp; all_goals with_reducible rfl
          try simp only [Act.put, List.setIfInBounds_toArray, List.set_cons_zero, List.set_cons_succ]
          refine takeO 4 (some 131) (v := ?_) rfl rfl (by kernel_rfl) (by kernel_rfl) (by kernel_rfl) (fun _ _ _ h => h) (Or.inl ⟨by rfl, ?_⟩) (by assumption) ?_
          rotate_left 1
          · intro w hSw; (try dsimp only at hSw); go_simp; all_goals with_reducible rfl
          try simp only [Act.put, List.setIfInBounds_toArray, List.set_cons_zero, List.set_cons_succ]
          refine takeO 5 (some 132) (v := ?_) rfl rfl (by kernel_rfl) (by kernel_rfl) (by kernel_rfl) (fun _ _ _ h => h) (Or.inl ⟨by rfl, ?_⟩) (by assumption) ?_
          rotate_left 1
          · intro w hSw; (try dsimp only at hSw); go_simp; all_goals with_reducible rfl
          try simp only [Act.put, List.setIfInBounds_toArray, List.set_cons_zero, List.set_cons_succ]
          refine takeO 6 (some 133) (v := ?_) rfl rfl (by kernel_rfl) (by kernel_rfl) (by kernel_rfl) (fun _ _ _ h => h) (Or.inl ⟨by rfl, ?_⟩) (by assumption) ?_
          rotate_left 1
          · intro w hSw; (try dsimp only at hSw); go_simp; all_goals with_reducible rfl
          try simp only [Act.put, List.setIfInBounds_toArray, List.set_cons_zero, List.set_cons_succ]
          refine takeO 7 (some 134) (v := ?_) rfl rfl (by kernel_rfl) (by kernel_rfl) (by kernel_rfl) (fun _ _ _ h => h) (Or.inl ⟨by rfl, ?_⟩) (by assumption) ?_
          rotate_left 1
          · intro w hSw; (try dsimp only at hSw); go_simp; all_goals with_reducible rfl
          try simp only [Act.put, List.setIfInBounds_toArray, List.set_cons_zero, List.set_cons_succ]
          refine takeO 8 (some 135) (v := ?_) rfl rfl (by kernel_rfl) (by kernel_rfl) (by kernel_rfl) (fun _ _ _ h => h) (Or.inl ⟨by rfl, ?_⟩) (by assumption) ?_
          rotate_left 1
          · intro w hSw; (try dsimp only at hSw); go_simp; all_goals with_reducible rfl
          try simp only [Act.put, List.setIfInBounds_toArray, List.set_cons_zero, List.set_cons_succ]
          refine takeO 9 (some 136) (v := ?_) rfl rfl (by kernel_rfl) (by kernel_rfl) (by kernel_rfl) (fun _ _ _ h => h) (Or.inl ⟨by rfl, ?_⟩) (by assumption) ?_
          rotate_left 1
          · intro w hSw; (try dsimp only at hSw); go_simp; all_goals with_reducible rfl
          try simp only [Act.put, List.setIfInBounds_toArray, List.set_cons_zero, List.set_cons_succ]
          refine takeO 10 (some 137) (v := ?_) rfl rfl (by kernel_rfl) (by kernel_rfl) (by kernel_rfl) (fun _ _ _ h => h) (Or.inl ⟨by rfl, ?_⟩) (by assumption) ?_
          rotate_left 1
          · intro w hSw; (try dsimp only at hSw); go_simp; all_goals with_reducible rfl
          try simp only [Act.put, List.setIfInBounds_toArray, List.set_cons_zero, List.set_cons_succ]
          refine takeO 11 (some 138) (v := ?_) rfl rfl (by kernel_rfl) (by kernel_rfl) (by kernel_rfl) (fun _ _ _ h => h) (Or.inl ⟨by rfl, ?_⟩) (by assumption) ?_
          rotate_left 1
          · intro w hSw; (try dsimp only at hSw); go_simp; all_goals with_reducible rfl
          try simp only [Act.put, List.setIfInBounds_toArray, List.set_cons_zero, List.set_cons_succ]
          refine takeO 12 (some 139) (v := ?_) rfl rfl (by kernel_rfl) (by kernel_rfl) (by kernel_rfl) (fun _ _ _ h => h) (Or.inl ⟨by rfl, ?_⟩) (by assumption) ?_
          rotate_left 1
          · intro w hSw; (try dsimp only at hSw); go_simp; all_goals with_reducible rfl
          try simp only [Act.put, List.setIfInBounds_toArray, List.set_cons_zero, List.set_cons_succ]
          refine takeO 13 (some 140) (v := ?_) rfl rfl (by kernel_rfl) (by kernel_rfl) (by kernel_rfl) (fun _ _ _ h => h) (Or.inl ⟨by rfl, ?_⟩) (by assumption) ?_
          rotate_left 1
          · intro w hSw; (try dsimp only at hSw); go_simp; all_goals with_reducible rfl
          try simp only [Act.put, List.setIfInBounds_toArray, List.set_cons_zero, List.set_cons_succ]
          refine takeO 14 (some 141) (v := ?_) rfl rfl (by kernel_rfl) (by kernel_rfl) (by kernel_rfl) (fun _ _ _ h => h) (Or.inl ⟨by rfl, ?_⟩) (by assumption) ?_
          rotate_left 1
          · intro w hSw; (try dsimp only at hSw); go_simp; all_goals with_reducible rfl
          try simp only [Act.put, List.setIfInBounds_toArray, List.set_cons_zero, List.set_cons_succ]
          refine takeO 15 (some 142) (v := ?_) rfl rfl (by kernel_rfl) (by kernel_rfl) (by kernel_rfl) (fun _ _ _ h => h) (Or.inl ⟨by rfl, ?_⟩) (by assumption) ?_
          rotate_left 1
          · intro w hSw; (try dsimp only at hSw); go_simp; all_goals with_reducible rfl
          try simp only [Act.put, List.setIfInBounds_toArray, List.set_cons_zero, List.set_cons_succ]
          refine wpAnyH_done (by kernel_rfl) ?_ _
          clear hHeld HKC
          have HFJ := Lib.hid (HF3.out.below HBD.out)
          have y2 : wr.drew.cell? ⟨ab, 2, none⟩ = some (.int .i64 (s : Nat)) := (HBD.out.cell (p := ⟨ab, 2, none⟩) (Nat.lt_of_lt_of_le HAB.out HB23.out.size)).trans ((HB23.out.cell (p := ⟨ab, 2, none⟩) HAB.out).trans HY9.out)
          generalize hV : wr.drew = V at HFJ HBD y2 ⊢
          clear hV
          have t1 : ((j : Int) == (kn : Int)) = false := by rw [beq_eq_false_iff_ne]; omega
          have s1 : (0 : Int) ≤ (s : Int) := by omega
          have s2 : (s : Int) < 6 := by omega
          have cl : V.cell? ⟨lb, s, none⟩ = some (.int .i64 (lastF l s)) := by have e := HFJ.out.cell (e := 41) (cs := ints l) (b := lb) (by simp) s; rw [e]; unfold ints lastF; rw [List.getElem?_map, List.getD_eq_getElem?_getD, List.getElem?_eq_getElem (by rw [HK2.out.len]; omega)]; rfl
          have fz : V.frozen? ⟨lb, s, none⟩ = false := HFJ.out.fz (e := 41) (cs := ints l) (by simp) s
          have hf2 := HFJ.out.set (by have := HLB.out; omega) (by intro x hx; have := HLB.out; simp only [List.mem_cons, List.not_mem_nil, or_false] at hx; subst hx; show w.heap.size ≠ lb; omega) s (.int .i64 (j : Nat))
          have hro := ownsRow_below HROW.out (HB3.out.trans (HBD.out.mono HB3.out.size))
          have hro2 := ownsRow_frm hro ((Frm.refl (fun z => z = lb) V).setCell ⟨lb, s, none⟩ (.int .i64 (j : Nat)) (.inl rfl)) (fun z hz e => by have h1 := own_ge hro z hz; have h2 := HLTB.out; omega)
          obtain ⟨V2, hV2⟩ : ∃ X, V.setCell ⟨lb, s, none⟩ (.int .i64 (j : Nat)) = X := ⟨_, rfl⟩
          rw [hV2] at hf2 hro2
          have HF9 := Lib.hid (show FrS w V2 O12 A p S4 ((lb, 41, ints (l.set s (j : Nat))) :: [(w.heap.size, 25, [.slice c.aw c.nw c.cw, .slice c.ac c.nc c.cc, .int .i64 c.wk, .int .i64 c.cp, .int .i64 c.sl, .int .i64 c.ba, .int .i64 c.le, .int .i64 1000, .int .i64 c.fi, .int .i64 c.ca, .int .i64 c.ji, .int .i64 c.ne])]) from by unfold ints at hf2 ⊢; rw [List.map_set]; exact hf2)
          have HRO9 := Lib.hid hro2
          have HK9 := Lib.hid (show RkI C.cp i (k + 1) W2 (l.set s (j : Nat)) from HK2.out.step HRC.out.2.1 HS.out (by omega) HTT.out.symm)
          clear hf2 hro hro2
          obtain ⟨lv, hlv⟩ : ∃ x, lastF l s = x := ⟨_, rfl⟩
          have ho := HK2.out.old k s (Nat.le_refl _) HS.out (by omega)
          rw [hlv] at cl ho
          have hlb2 : 0 ≤ lv ∧ lv < (kn : Int) := by rw [ho, HK.out.1]; exact ⟨Int.emod_nonneg _ (by omega), Int.emod_lt_of_pos _ (by omega)⟩
          have hnt := next_turn (cp := C.cp) (by rw [HK.out.1]; omega) (by rw [HK.out.1]; omega) i (by omega)
          rw [← ho, HTT.out, HK.out.1] at hnt
          have w9 : IntKind.i64.wrap (lv + 1) = lv + 1 := wr_in _ (by omega) (by omega)
          have htm : (lv + 1).tmod (kn : Int) = (j : Int) := by rw [Int.tmod_eq_emod_of_nonneg (by omega)]; exact hnt
          have t2 : ((j : Int) != (j : Int)) = false := by simp
          have g9 : (0 : Int) < (i : Int) := by omega
          have g8 : decide ((0 : Int) < (i : Int)) = true := by simp; omega
          have k9 : (kn : Int) ≠ 0 := by omega
          clear hlv ho hlb2 hnt
          clear HTT
          skip
          go_wp2_with (rw [hV2])
          clear hV2 cl fz y2
          go_roundw
          case rel => first | exact ⟨k + 1, l.set s (j : Nat), by omega, by go_num, HF9.out, HRO9.out, HK9.out⟩ | ((repeat apply Exists.intro); exact ⟨⟨k + 1, l.set s (j : Nat), by omega, by go_num, HF9.out, HRO9.out, HK9.out⟩, rfl⟩)
          case measure => simp [intOf]; omega
end
end Go.Proofs.YtinkbgeckjbnbaaGreat
