/- CheckTells. -/
import Derived.Test.YtiohngcmojkheaaCk2
namespace Go.Proofs.Ytiohngcmojkheaa
open Go.RowKit
set_option linter.unusedVariables false

set_option maxRecDepth 100000 in
set_option maxHeartbeats 8000000 in
theorem tells_law (w : World) (ao : Option Addr) (n c : Nat) (words : List ByteArray) (id : Int) (q : ByteArray) (k m : Int) (b : Option Addr) (bc : Nat) (its : List KeyL) (d cc : Bool) (id2 : Int) (q2 : ByteArray) (k2 m2 : Int) (b2 : Option Addr) (bc2 : Nat) (its2 : List KeyL) (d2 cc2 : Bool)
    (h : RdT w ao n c words) (hw : ∀ s ∈ words, s.size ≤ maxLen) (hi : RdE KeyL.cells 2 w b its.length bc its) (hi2 : RdE KeyL.cells 2 w b2 its2.length bc2 its2) (hz : ∀ x ∈ its, x.2.size ≤ maxLen) (hz2 : ∀ x ∈ its2, x.2.size ≤ maxLen) (hq : q.size ≤ maxLen) (hq2 : q2.size ≤ maxLen) :
    Calls Try.prog 8 #[.slice ao n c, .agg #[.int .i64 id, .string q, .int .i64 k, .int .i64 m, .slice b its.length bc, .bool d, .bool cc], .agg #[.int .i64 id2, .string q2, .int .i64 k2, .int .i64 m2, .slice b2 its2.length bc2, .bool d2, .bool cc2]] w fun e w' => e = .returned (.bool true) ∧ Below w.heap.size w w' := by
  have hnl := h.len
  subst hnl
  have HB := Lib.hid ((Below.refl _ w).alloc (Nat.le_refl _) (.cells #[.int .i64 id, .string q, .int .i64 k, .int .i64 m, .slice b its.length bc, .bool d, .bool cc] 46))
  have HK := Lib.hid (show Blk (w.alloc (.cells #[.int .i64 id, .string q, .int .i64 k, .int .i64 m, .slice b its.length bc, .bool d, .bool cc] 46)) w.heap.size 46 [.int .i64 id, .string q, .int .i64 k, .int .i64 m, .slice b its.length bc, .bool d, .bool cc] from heap_alloc_new w _)
  obtain ⟨W, hW⟩ : ∃ W, w.alloc (.cells #[.int .i64 id, .string q, .int .i64 k, .int .i64 m, .slice b its.length bc, .bool d, .bool cc] 46) = W := ⟨_, rfl⟩
  rw [hW] at HB HK
  have HB1 := Lib.hid (HB.out.alloc HB.out.size (.cells #[.int .i64 id2, .string q2, .int .i64 k2, .int .i64 m2, .slice b2 its2.length bc2, .bool d2, .bool cc2] 46))
  have HK1 := Lib.hid (HK.out.below ((Below.refl _ W).alloc (Nat.le_refl _) (.cells #[.int .i64 id2, .string q2, .int .i64 k2, .int .i64 m2, .slice b2 its2.length bc2, .bool d2, .bool cc2] 46)) (Blk.lt HK.out))
  have HK2 := Lib.hid (show Blk (W.alloc (.cells #[.int .i64 id2, .string q2, .int .i64 k2, .int .i64 m2, .slice b2 its2.length bc2, .bool d2, .bool cc2] 46)) W.heap.size 46 [.int .i64 id2, .string q2, .int .i64 k2, .int .i64 m2, .slice b2 its2.length bc2, .bool d2, .bool cc2] from heap_alloc_new W _)
  obtain ⟨W1, hW1⟩ : ∃ V, W.alloc (.cells #[.int .i64 id2, .string q2, .int .i64 k2, .int .i64 m2, .slice b2 its2.length bc2, .bool d2, .bool cc2] 46) = V := ⟨_, rfl⟩
  rw [hW1] at HB1 HK1 HK2
  have HG := Lib.hid (greatC_any W1 ao words.length c words id q k m b bc its d cc id2 q2 k2 m2 b2 bc2 its2 d2 cc2 (Rd.below h HB1.out rfl) hw (hi.below HB1.out rfl) (hi2.below HB1.out rfl) hz hz2 hq hq2)
  have HZ : RowKit.Hid (∀ V, Calls Try.prog 35 #[] V fun e w' => e = .returned (.bool true) ∧ Below V.heap.size V w') := fun V => awake28_any V
  have HR := Lib.hid h
  have HI := Lib.hid hi
  have HJ := Lib.hid hi2
  clear h hw hi hi2 hz hz2 hq hq2 HB HK
  have t0 : W1.cell? ⟨w.heap.size, 0, none⟩ = some (.int .i64 id) := HK1.out.cell 0
  have t1 : W1.cell? ⟨w.heap.size, 1, none⟩ = some (.string q) := HK1.out.cell 1
  have t2 : W1.cell? ⟨w.heap.size, 2, none⟩ = some (.int .i64 k) := HK1.out.cell 2
  have t3 : W1.cell? ⟨w.heap.size, 3, none⟩ = some (.int .i64 m) := HK1.out.cell 3
  have t4 : W1.cell? ⟨w.heap.size, 4, none⟩ = some (.slice b its.length bc) := HK1.out.cell 4
  have t5 : W1.cell? ⟨w.heap.size, 5, none⟩ = some (.bool d) := HK1.out.cell 5
  have t6 : W1.cell? ⟨w.heap.size, 6, none⟩ = some (.bool cc) := HK1.out.cell 6
  have s0 : W1.cell? ⟨W.heap.size, 0, none⟩ = some (.int .i64 id2) := HK2.out.cell 0
  have s1 : W1.cell? ⟨W.heap.size, 1, none⟩ = some (.string q2) := HK2.out.cell 1
  have s2 : W1.cell? ⟨W.heap.size, 2, none⟩ = some (.int .i64 k2) := HK2.out.cell 2
  have s3 : W1.cell? ⟨W.heap.size, 3, none⟩ = some (.int .i64 m2) := HK2.out.cell 3
  have s4 : W1.cell? ⟨W.heap.size, 4, none⟩ = some (.slice b2 its2.length bc2) := HK2.out.cell 4
  have s5 : W1.cell? ⟨W.heap.size, 5, none⟩ = some (.bool d2) := HK2.out.cell 5
  have s6 : W1.cell? ⟨W.heap.size, 6, none⟩ = some (.bool cc2) := HK2.out.cell 6
  go_enter Try.func8, Try.ntmps8
  go_wp2_with (first | rw [hW] | rw [hW1])
  clear hW hW1
  refine HG.out.mono ?_
  rintro e W2 ⟨rfl, hb⟩
  have HB2 := Lib.hid (HB1.out.trans (hb.mono HB1.out.size))
  have HK3 := Lib.hid (HK1.out.below hb (Blk.lt HK1.out))
  have HK4 := Lib.hid (HK2.out.below hb (Blk.lt HK2.out))
  clear hb HG HB1 HK1 HK2 t0 s0 t1 s1 t2 s2 t3 s3 t4 s4 t5 s5 t6 s6
  have HK1 := HK3
  have HK2 := HK4
  clear HK3 HK4
  cases hg : greatC words its its2 q q2
  case true =>
    clear hg
    go_wp2_with fail
    refine (HZ.out _).mono ?_
    rintro e w1 ⟨rfl, hb⟩
    have HB3 := Lib.hid (HB2.out.trans (hb.mono HB2.out.size))
    clear hb
    go_wp2_with fail
    go_ret
    exact ⟨rfl, HB3.out⟩
  obtain ⟨g1, g2, g3, g4, g5⟩ := greatC_false hg
  have hl80 := (greatT_false g1).1
  have hws : words.length ≤ 1000 := by omega
  have HW := Lib.hid (fun s hs => Nat.le_trans ((greatT_false g1).2 s hs) (by decide : 100 ≤ 1000))
  have hq1 : q.size ≤ 1000 := by omega
  clear hg g1 g2 g3
  have CPrefix := Lib.hid (fun V h1 h2 => cprefix_any V ao words.length c words id q k m b bc its d cc h1 hws HW.out hq1 h2)
  have CComplete := Lib.hid (fun V h1 h2 => ccomplete_any V ao words.length c words id q k m b bc its d cc h1 hws HW.out hq1 h2)
  have CRight := Lib.hid (fun V h1 h2 => cright_any V ao words.length c words id q k m b bc its d cc h1 hws HW.out hq1 h2)
  have DPrefix := Lib.hid (fun V h1 h2 => rprefix_any V ao words.length c words id q k m b bc its d cc h1 hws HW.out hq1 h2)
  have DComplete := Lib.hid (fun V h1 h2 => rcomplete_any V ao words.length c words id q k m b bc its d cc h1 hws HW.out hq1 h2)
  have DRight := Lib.hid (fun V h1 h2 => rright_any V ao words.length c words id q k m b bc its d cc h1 hws HW.out hq1 h2)
  have CLater := Lib.hid (fun V h1 h2 => clater_any V id q k m b bc its d cc id2 q2 k2 m2 b2 bc2 its2 d2 cc2 h1 h2)
  have DLater := Lib.hid (fun V h1 h2 => rlater_any V id q k m b bc its d cc id2 q2 k2 m2 b2 bc2 its2 d2 cc2 h1 h2)
  generalize topL words q k m = tl at *
  generalize rightT its tl d cc = x3 at *
  generalize compT its tl = x2 at *
  generalize begI its tl = x1 at *
  generalize laterT (decide (id = id2) && qEq q k m q2 k2 m2) (begI its its2) (decide (its.length = its2.length)) d cc d2 cc2 = x4 at *
  have e1 : (x1 == x1) = true := by simp
  have e2 : (x2 == x2) = true := by simp
  have e3 : (x3 == x3) = true := by simp
  have e4 : (x4 == x4) = true := by simp
  have HRW := Lib.hid (fun V (h : Below W2.heap.size W2 V) => show RdT V ao words.length c words from Rd.below (Rd.below HR.out HB2.out rfl) h rfl)
  have HIW := Lib.hid (fun V (h : Below W2.heap.size W2 V) => (HI.out.below HB2.out rfl).below h rfl)
  have HJW := Lib.hid (fun V (h : Below W2.heap.size W2 V) => (HJ.out.below HB2.out rfl).below h rfl)
  have HGB : RowKit.Hid (Below W2.heap.size W2 W2.drew) := below_drewN (Below.refl _ _) 1
  go_upto_region 3 with fail
  go_region_held3 (fun w' => w'.cell? ⟨w.heap.size, 0, none⟩ = some (.int .i64 id) ∧ w'.cell? ⟨w.heap.size, 1, none⟩ = some (.string q) ∧ w'.cell? ⟨w.heap.size, 2, none⟩ = some (.int .i64 k) ∧ w'.cell? ⟨w.heap.size, 3, none⟩ = some (.int .i64 m) ∧ w'.cell? ⟨w.heap.size, 4, none⟩ = some (.slice b its.length bc) ∧ w'.cell? ⟨w.heap.size, 5, none⟩ = some (.bool d) ∧ w'.cell? ⟨w.heap.size, 6, none⟩ = some (.bool cc) ∧ w'.cell? ⟨W.heap.size, 0, none⟩ = some (.int .i64 id2) ∧ w'.cell? ⟨W.heap.size, 1, none⟩ = some (.string q2) ∧ w'.cell? ⟨W.heap.size, 2, none⟩ = some (.int .i64 k2) ∧ w'.cell? ⟨W.heap.size, 3, none⟩ = some (.int .i64 m2) ∧ w'.cell? ⟨W.heap.size, 4, none⟩ = some (.slice b2 its2.length bc2) ∧ w'.cell? ⟨W.heap.size, 5, none⟩ = some (.bool d2) ∧ w'.cell? ⟨W.heap.size, 6, none⟩ = some (.bool cc2)) (exact ⟨(Blk.below HK1.out HGB.out (Blk.lt HK1.out)).cell 0, (Blk.below HK1.out HGB.out (Blk.lt HK1.out)).cell 1, (Blk.below HK1.out HGB.out (Blk.lt HK1.out)).cell 2, (Blk.below HK1.out HGB.out (Blk.lt HK1.out)).cell 3, (Blk.below HK1.out HGB.out (Blk.lt HK1.out)).cell 4, (Blk.below HK1.out HGB.out (Blk.lt HK1.out)).cell 5, (Blk.below HK1.out HGB.out (Blk.lt HK1.out)).cell 6, (Blk.below HK2.out HGB.out (Blk.lt HK2.out)).cell 0, (Blk.below HK2.out HGB.out (Blk.lt HK2.out)).cell 1, (Blk.below HK2.out HGB.out (Blk.lt HK2.out)).cell 2, (Blk.below HK2.out HGB.out (Blk.lt HK2.out)).cell 3, (Blk.below HK2.out HGB.out (Blk.lt HK2.out)).cell 4, (Blk.below HK2.out HGB.out (Blk.lt HK2.out)).cell 5, (Blk.below HK2.out HGB.out (Blk.lt HK2.out)).cell 6⟩) (first | (go_at_call 36; (with_reducible refine (CPrefix.out _ (HRW.out _ HGB.out) (HIW.out _ HGB.out)).mono ?_); rintro e u ⟨rfl, hb⟩; have HSN := Lib.hid (HGB.out.trans (hb.mono HGB.out.size)); clear HGB; have HGB := HSN; clear HSN; clear hb) | (go_at_call 38; (with_reducible refine (CComplete.out _ (HRW.out _ HGB.out) (HIW.out _ HGB.out)).mono ?_); rintro e u ⟨rfl, hb⟩; have HSN := Lib.hid (HGB.out.trans (hb.mono HGB.out.size)); clear HGB; have HGB := HSN; clear HSN; clear hb) | (go_at_call 40; (with_reducible refine (CRight.out _ (HRW.out _ HGB.out) (HIW.out _ HGB.out)).mono ?_); rintro e u ⟨rfl, hb⟩; have HSN := Lib.hid (HGB.out.trans (hb.mono HGB.out.size)); clear HGB; have HGB := HSN; clear HSN; clear hb) | (go_at_call 37; (with_reducible refine (DPrefix.out _ (HRW.out _ HGB.out) (HIW.out _ HGB.out)).mono ?_); rintro e u ⟨rfl, hb⟩; have HSN := Lib.hid (HGB.out.trans (hb.mono HGB.out.size)); clear HGB; have HGB := HSN; clear HSN; clear hb) | (go_at_call 39; (with_reducible refine (DComplete.out _ (HRW.out _ HGB.out) (HIW.out _ HGB.out)).mono ?_); rintro e u ⟨rfl, hb⟩; have HSN := Lib.hid (HGB.out.trans (hb.mono HGB.out.size)); clear HGB; have HGB := HSN; clear HSN; clear hb) | (go_at_call 41; (with_reducible refine (DRight.out _ (HRW.out _ HGB.out) (HIW.out _ HGB.out)).mono ?_); rintro e u ⟨rfl, hb⟩; have HSN := Lib.hid (HGB.out.trans (hb.mono HGB.out.size)); clear HGB; have HGB := HSN; clear HSN; clear hb) | (go_at_call 42; (with_reducible refine (CLater.out _ (HIW.out _ HGB.out) (HJW.out _ HGB.out)).mono ?_); rintro e u ⟨rfl, hb⟩; have HSN := Lib.hid (HGB.out.trans (hb.mono HGB.out.size)); clear HGB; have HGB := HSN; clear HSN; clear hb) | (go_at_call 43; (with_reducible refine (DLater.out _ (HIW.out _ HGB.out) (HJW.out _ HGB.out)).mono ?_); rintro e u ⟨rfl, hb⟩; have HSN := Lib.hid (HGB.out.trans (hb.mono HGB.out.size)); clear HGB; have HGB := HSN; clear HSN; clear hb) | (go_at_call 35; (with_reducible refine (HZ.out _).mono ?_); rintro e u ⟨rfl, hb⟩; have HSN := Lib.hid (HGB.out.trans (hb.mono HGB.out.size)); clear HGB; have HGB := HSN; clear HSN; clear hb))
  have HB6 := Lib.hid (HB2.out.trans (HGB.out.mono HB2.out.size))
  go_wp2_with fail
  go_ret
  exact ⟨rfl, HB6.out⟩
end Go.Proofs.Ytiohngcmojkheaa
