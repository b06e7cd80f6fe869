/- great and awake of chapter 28. -/
import Derived.Test.YtiohngcmojkheaaCk1
import Derived.Test.YtiohngcmojkheaaRk2
import Derived.Test.YtiohngcmojkheaaItems
namespace Go.Proofs.Ytiohngcmojkheaa
open Go.RowKit
set_option linter.unusedVariables false

def greatC (words : List ByteArray) (its its2 : List KeyL) (q q2 : ByteArray) : Bool := greatT words || greatI its || greatI its2 || decide (100 < q.size) || decide (100 < q2.size)
theorem greatC_false {words : List ByteArray} {its its2 : List KeyL} {q q2 : ByteArray} (h : greatC words its its2 q q2 = false) : greatT words = false ∧ greatI its = false ∧ greatI its2 = false ∧ q.size ≤ 100 ∧ q2.size ≤ 100 := by
  unfold greatC at h
  simp only [Bool.or_eq_false_iff, decide_eq_false_iff_not] at h
  obtain ⟨⟨⟨⟨h1, h2⟩, h3⟩, h4⟩, h5⟩ := h
  exact ⟨h1, h2, h3, by omega, by omega⟩
set_option maxRecDepth 100000 in
set_option maxHeartbeats 4000000 in
theorem greatC_any (w : World) (ao : Option Addr) (n c : Nat) (words : List ByteArray) (id : Int) (q : ByteArray) (k m : Int) (b : Option Addr) (bc : Nat) (its : List KeyL) (d cc : Bool) (id2 : Int) (q2 : ByteArray) (k2 m2 : Int) (b2 : Option Addr) (bc2 : Nat) (its2 : List KeyL) (d2 cc2 : Bool)
    (h : RdT w ao n c words) (hw : ∀ s ∈ words, s.size ≤ maxLen) (hi : RdE KeyL.cells 2 w b its.length bc its) (hi2 : RdE KeyL.cells 2 w b2 its2.length bc2 its2) (hz : ∀ x ∈ its, x.2.size ≤ maxLen) (hz2 : ∀ x ∈ its2, x.2.size ≤ maxLen) (hq : q.size ≤ maxLen) (hq2 : q2.size ≤ maxLen) :
    Calls Try.prog 34 #[.slice ao n c, .agg #[.int .i64 id, .string q, .int .i64 k, .int .i64 m, .slice b its.length bc, .bool d, .bool cc], .agg #[.int .i64 id2, .string q2, .int .i64 k2, .int .i64 m2, .slice b2 its2.length bc2, .bool d2, .bool cc2]] w fun e w' => e = .returned (.bool (greatC words its its2 q q2)) ∧ Below w.heap.size w w' := by
  have hnl := h.len
  subst hnl
  obtain ⟨R, hR⟩ : ∃ R, greatC words its its2 q q2 = R := ⟨_, rfl⟩
  rw [hR]
  have HRL := Lib.hid hR.symm
  clear hR
  have HB := Lib.hid ((Below.refl _ w).alloc (Nat.le_refl _) (.cells #[.int .i64 id, .string q, .int .i64 k, .int .i64 m, .slice b its.length bc, .bool d, .bool cc] 46))
  have HK := Lib.hid (show Blk (w.alloc (.cells #[.int .i64 id, .string q, .int .i64 k, .int .i64 m, .slice b its.length bc, .bool d, .bool cc] 46)) w.heap.size 46 [.int .i64 id, .string q, .int .i64 k, .int .i64 m, .slice b its.length bc, .bool d, .bool cc] from heap_alloc_new w _)
  obtain ⟨W, hW⟩ : ∃ W, w.alloc (.cells #[.int .i64 id, .string q, .int .i64 k, .int .i64 m, .slice b its.length bc, .bool d, .bool cc] 46) = W := ⟨_, rfl⟩
  rw [hW] at HB HK
  have HB1 := Lib.hid (HB.out.alloc HB.out.size (.cells #[.int .i64 id2, .string q2, .int .i64 k2, .int .i64 m2, .slice b2 its2.length bc2, .bool d2, .bool cc2] 46))
  have HK1 := Lib.hid (HK.out.below ((Below.refl _ W).alloc (Nat.le_refl _) (.cells #[.int .i64 id2, .string q2, .int .i64 k2, .int .i64 m2, .slice b2 its2.length bc2, .bool d2, .bool cc2] 46)) (Blk.lt HK.out))
  have HK2 := Lib.hid (show Blk (W.alloc (.cells #[.int .i64 id2, .string q2, .int .i64 k2, .int .i64 m2, .slice b2 its2.length bc2, .bool d2, .bool cc2] 46)) W.heap.size 46 [.int .i64 id2, .string q2, .int .i64 k2, .int .i64 m2, .slice b2 its2.length bc2, .bool d2, .bool cc2] from heap_alloc_new W _)
  obtain ⟨W1, hW1⟩ : ∃ V, W.alloc (.cells #[.int .i64 id2, .string q2, .int .i64 k2, .int .i64 m2, .slice b2 its2.length bc2, .bool d2, .bool cc2] 46) = V := ⟨_, rfl⟩
  rw [hW1] at HB1 HK1 HK2
  have HG1 := Lib.hid (greatT_any ao words.length c words W1 (Rd.below h HB1.out rfl) hw)
  have HG2 := Lib.hid (greatI_any b its.length bc its W1 (hi.below HB1.out rfl) hz)
  have HG3 := Lib.hid (greatI_any b2 its2.length bc2 its2 W1 (hi2.below HB1.out rfl) hz2)
  have t1 : W1.cell? ⟨w.heap.size, 1, none⟩ = some (.string q) := HK1.out.cell 1
  have t4 : W1.cell? ⟨w.heap.size, 4, none⟩ = some (.slice b its.length bc) := HK1.out.cell 4
  have s1 : W1.cell? ⟨W.heap.size, 1, none⟩ = some (.string q2) := HK2.out.cell 1
  have s4 : W1.cell? ⟨W.heap.size, 4, none⟩ = some (.slice b2 its2.length bc2) := HK2.out.cell 4
  unfold maxLen at hq hq2
  have d1 : decide ((100 : Int) < (q.size : Int)) = decide (100 < q.size) := by rw [Bool.eq_iff_iff]; simp; omega
  have d2 : decide ((100 : Int) < (q2.size : Int)) = decide (100 < q2.size) := by rw [Bool.eq_iff_iff]; simp; omega
  unfold greatC at HRL
  generalize greatT words = x1 at *
  generalize greatI its = x2 at *
  generalize greatI its2 = x3 at *
  cases hx4 : decide (100 < q.size) <;> cases hx5 : decide (100 < q2.size)
  all_goals
    rw [hx4] at d1
    rw [hx5] at d2
    rw [hx4, hx5] at HRL
    clear h hw hi hi2 hz hz2
    go_enter Try.func34, Try.ntmps34
    go_wp2_with (first | rw [hW] | rw [hW1])
    clear hW hW1
    refine HG1.out.mono ?_
    rintro e w1 ⟨rfl, rfl⟩
    cases x1
    case true =>
      obtain rfl : R = true := by rw [HRL.out]; rfl
      go_wp2_with fail
      go_ret
      exact ⟨rfl, HB1.out⟩
    go_wp2_with fail
    refine HG2.out.mono ?_
    rintro e w1 ⟨rfl, rfl⟩
    cases x2
    case true =>
      obtain rfl : R = true := by rw [HRL.out]; rfl
      go_wp2_with fail
      go_ret
      exact ⟨rfl, HB1.out⟩
    go_wp2_with fail
    refine HG3.out.mono ?_
    rintro e w1 ⟨rfl, rfl⟩
    cases x3
    case true =>
      obtain rfl : R = true := by rw [HRL.out]; rfl
      go_wp2_with fail
      go_ret
      exact ⟨rfl, HB1.out⟩
    go_wp2_with fail
    go_ret
    exact ⟨congrArg (fun r => Ending.returned (.bool r)) (by rw [HRL.out]; rfl), HB1.out⟩
theorem top_awake28 : begI [] (topL [tx [97]] (tx [97]) 0 1) = true := by kernel_rfl
theorem comp_awake28 : compT [] (topL [tx [97]] (tx [97]) 0 1) = false := by kernel_rfl
theorem right_awake28 : rightT [(0, tx [97])] (topL [tx [97]] (tx [97]) 0 1) true false = true := by kernel_rfl
theorem later_awake28 : laterT (decide ((0 : Int) = 0) && qEq (tx [97]) 0 1 (tx [97]) 0 1) (begI [] [(0, tx [97])]) (decide (([] : List KeyL).length = [((0 : Int), tx [97])].length)) false false true false = true := by kernel_rfl
theorem later_awake28b : laterT (decide ((0 : Int) = 0) && qEq (tx [97]) 0 1 (tx [97]) 0 1) (begI [(0, tx [97])] []) (decide ([((0 : Int), tx [97])].length = ([] : List KeyL).length)) true false false false = false := by kernel_rfl
theorem texts1 (w : World) (a : ByteArray) : RdT (w.alloc (.cells #[.string a] 9)) (some ⟨w.heap.size, 0, none⟩) 1 1 [a] :=
  rd_new w 9 (0, 0) #[.string a] 1 _ rfl rfl (by unfold maxLen; omega)
theorem items1 (w : World) (x : KeyL) : RdE KeyL.cells 2 (w.alloc (.cells #[.int .i64 x.1, .string x.2] 39)) (some ⟨w.heap.size, 0, none⟩) 1 1 [x] :=
  Blk.rdE (enc := KeyL.cells) (size := 2) (l := [x]) (sp := []) (fun _ => rfl) (show Blk _ _ 39 _ from heap_alloc_new w _) 1 (Nat.le_refl _) (by unfold maxLen; omega)
theorem RdE_nil (w : World) : RdE KeyL.cells 2 w none ([] : List KeyL).length 0 [] := ⟨rfl, Nat.le_refl _, by unfold maxLen; omega, fun _ => rfl, fun i x hx => by simp at hx⟩
theorem awk28 (w : World) : Blk (((w.alloc (.cells #[.int .i64 0, .string (tx [97]), .int .i64 0, .int .i64 1, .slice none 0 0, .bool false, .bool false] 46)).alloc (.cells #[.int .i64 0, .string (tx [97]), .int .i64 0, .int .i64 1, .slice (some ⟨w.heap.size + 1 + 1, 0, none⟩) 1 1, .bool true, .bool false] 46)).alloc (.cells #[.int .i64 0, .string (tx [97])] 39)) w.heap.size 46 [.int .i64 0, .string (tx [97]), .int .i64 0, .int .i64 1, .slice none 0 0, .bool false, .bool false] ∧ Blk (((w.alloc (.cells #[.int .i64 0, .string (tx [97]), .int .i64 0, .int .i64 1, .slice none 0 0, .bool false, .bool false] 46)).alloc (.cells #[.int .i64 0, .string (tx [97]), .int .i64 0, .int .i64 1, .slice (some ⟨w.heap.size + 1 + 1, 0, none⟩) 1 1, .bool true, .bool false] 46)).alloc (.cells #[.int .i64 0, .string (tx [97])] 39)) (w.heap.size + 1) 46 [.int .i64 0, .string (tx [97]), .int .i64 0, .int .i64 1, .slice (some ⟨w.heap.size + 1 + 1, 0, none⟩) 1 1, .bool true, .bool false] ∧ RdE KeyL.cells 2 (((w.alloc (.cells #[.int .i64 0, .string (tx [97]), .int .i64 0, .int .i64 1, .slice none 0 0, .bool false, .bool false] 46)).alloc (.cells #[.int .i64 0, .string (tx [97]), .int .i64 0, .int .i64 1, .slice (some ⟨w.heap.size + 1 + 1, 0, none⟩) 1 1, .bool true, .bool false] 46)).alloc (.cells #[.int .i64 0, .string (tx [97])] 39)) (some ⟨w.heap.size + 1 + 1, 0, none⟩) [((0 : Int), tx [97])].length 1 [(0, tx [97])] ∧ Below w.heap.size w (((w.alloc (.cells #[.int .i64 0, .string (tx [97]), .int .i64 0, .int .i64 1, .slice none 0 0, .bool false, .bool false] 46)).alloc (.cells #[.int .i64 0, .string (tx [97]), .int .i64 0, .int .i64 1, .slice (some ⟨w.heap.size + 1 + 1, 0, none⟩) 1 1, .bool true, .bool false] 46)).alloc (.cells #[.int .i64 0, .string (tx [97])] 39)) := by
  have h1 : Blk (w.alloc (.cells #[.int .i64 0, .string (tx [97]), .int .i64 0, .int .i64 1, .slice none 0 0, .bool false, .bool false] 46)) w.heap.size 46 [.int .i64 0, .string (tx [97]), .int .i64 0, .int .i64 1, .slice none 0 0, .bool false, .bool false] := heap_alloc_new w _
  have b1 := (Below.refl w.heap.size w).alloc (Nat.le_refl _) (.cells #[.int .i64 0, .string (tx [97]), .int .i64 0, .int .i64 1, .slice none 0 0, .bool false, .bool false] 46)
  have z1 : (w.alloc (.cells #[.int .i64 0, .string (tx [97]), .int .i64 0, .int .i64 1, .slice none 0 0, .bool false, .bool false] 46)).heap.size = w.heap.size + 1 := by simp
  generalize w.alloc (.cells #[.int .i64 0, .string (tx [97]), .int .i64 0, .int .i64 1, .slice none 0 0, .bool false, .bool false] 46) = V1 at *
  have h2 : Blk (V1.alloc (.cells #[.int .i64 0, .string (tx [97]), .int .i64 0, .int .i64 1, .slice (some ⟨w.heap.size + 1 + 1, 0, none⟩) 1 1, .bool true, .bool false] 46)) V1.heap.size 46 [.int .i64 0, .string (tx [97]), .int .i64 0, .int .i64 1, .slice (some ⟨w.heap.size + 1 + 1, 0, none⟩) 1 1, .bool true, .bool false] := heap_alloc_new V1 _
  have b2 := (Below.refl V1.heap.size V1).alloc (Nat.le_refl _) (.cells #[.int .i64 0, .string (tx [97]), .int .i64 0, .int .i64 1, .slice (some ⟨w.heap.size + 1 + 1, 0, none⟩) 1 1, .bool true, .bool false] 46)
  have z2 : (V1.alloc (.cells #[.int .i64 0, .string (tx [97]), .int .i64 0, .int .i64 1, .slice (some ⟨w.heap.size + 1 + 1, 0, none⟩) 1 1, .bool true, .bool false] 46)).heap.size = V1.heap.size + 1 := by simp
  generalize V1.alloc (.cells #[.int .i64 0, .string (tx [97]), .int .i64 0, .int .i64 1, .slice (some ⟨w.heap.size + 1 + 1, 0, none⟩) 1 1, .bool true, .bool false] 46) = V2 at *
  have h3 := items1 V2 (0, tx [97])
  have b3 := (Below.refl V2.heap.size V2).alloc (Nat.le_refl _) (.cells #[.int .i64 0, .string (tx [97])] 39)
  rw [z2, z1] at h3
  rw [z1] at h2
  refine ⟨(h1.below b2 h1.lt).below b3 (h1.below b2 h1.lt).lt, h2.below b3 h2.lt, h3, (b1.trans (b2.mono b1.size)).trans (b3.mono (b1.trans (b2.mono b1.size)).size)⟩
set_option maxRecDepth 100000 in
set_option maxHeartbeats 8000000 in
theorem awake28_any (w : World) : Calls Try.prog 35 #[] w fun e w' => e = .returned (.bool true) ∧ Below w.heap.size w w' := by
  obtain ⟨h1, h2, h3, h4⟩ := awk28 w
  go_enter Try.func35, Try.ntmps35
  go_upto_region 5 with fail
  rw [show (⟨#[97]⟩ : ByteArray) = tx [97] from rfl]
  obtain ⟨W, hW⟩ : ∃ W, (((w.alloc (.cells #[.int .i64 0, .string (tx [97]), .int .i64 0, .int .i64 1, .slice none 0 0, .bool false, .bool false] 46)).alloc (.cells #[.int .i64 0, .string (tx [97]), .int .i64 0, .int .i64 1, .slice (some ⟨w.heap.size + 1 + 1, 0, none⟩) 1 1, .bool true, .bool false] 46)).alloc (.cells #[.int .i64 0, .string (tx [97])] 39)) = W := ⟨_, rfl⟩
  rw [hW] at h1 h2 h3 h4 ⊢
  clear hW
  obtain ⟨g, hg⟩ : ∃ g, w.heap.size + 1 = g := ⟨_, rfl⟩
  rw [hg] at h2 h3 ⊢
  have HT := Lib.hid h1
  have HU := Lib.hid h2
  have HX := Lib.hid h3
  have HB := Lib.hid h4
  clear h1 h2 h3 h4 hg
  have HAL := Lib.hid ((Below.refl _ W).alloc (Nat.le_refl _) (.cells #[.string (tx [97])] 9))
  have HTX := Lib.hid (texts1 W (tx [97]))
  have a1 := Lib.hid (HT.out.below HAL.out HT.out.lt)
  have a2 := Lib.hid (HU.out.below HAL.out HU.out.lt)
  have a3 := Lib.hid (HX.out.below HAL.out rfl)
  have a4 := Lib.hid (HB.out.trans (HAL.out.mono HB.out.size))
  obtain ⟨Z1, hZ⟩ : ∃ Z, W.alloc (.cells #[.string (tx [97])] 9) = Z := ⟨_, rfl⟩
  rw [hZ] at HAL HTX a1 a2 a3 a4
  have t0 : Z1.cell? ⟨w.heap.size, 0, none⟩ = some (.int .i64 0) := a1.out.cell 0
  have t1 : Z1.cell? ⟨w.heap.size, 1, none⟩ = some (.string (tx [97])) := a1.out.cell 1
  have t2 : Z1.cell? ⟨w.heap.size, 2, none⟩ = some (.int .i64 0) := a1.out.cell 2
  have t3 : Z1.cell? ⟨w.heap.size, 3, none⟩ = some (.int .i64 1) := a1.out.cell 3
  have t4 : Z1.cell? ⟨w.heap.size, 4, none⟩ = some (.slice none 0 0) := a1.out.cell 4
  have t5 : Z1.cell? ⟨w.heap.size, 5, none⟩ = some (.bool false) := a1.out.cell 5
  have t6 : Z1.cell? ⟨w.heap.size, 6, none⟩ = some (.bool false) := a1.out.cell 6
  have u0 : Z1.cell? ⟨g, 0, none⟩ = some (.int .i64 0) := a2.out.cell 0
  have u1 : Z1.cell? ⟨g, 1, none⟩ = some (.string (tx [97])) := a2.out.cell 1
  have u2 : Z1.cell? ⟨g, 2, none⟩ = some (.int .i64 0) := a2.out.cell 2
  have u3 : Z1.cell? ⟨g, 3, none⟩ = some (.int .i64 1) := a2.out.cell 3
  have u4 : Z1.cell? ⟨g, 4, none⟩ = some (.slice (some ⟨g + 1, 0, none⟩) 1 1) := a2.out.cell 4
  have u5 : Z1.cell? ⟨g, 5, none⟩ = some (.bool true) := a2.out.cell 5
  have u6 : Z1.cell? ⟨g, 6, none⟩ = some (.bool false) := a2.out.cell 6
  have p0 : W.cell? ⟨w.heap.size, 0, none⟩ = some (.int .i64 0) := HT.out.cell 0
  have p1 : W.cell? ⟨w.heap.size, 1, none⟩ = some (.string (tx [97])) := HT.out.cell 1
  have p2 : W.cell? ⟨w.heap.size, 2, none⟩ = some (.int .i64 0) := HT.out.cell 2
  have p3 : W.cell? ⟨w.heap.size, 3, none⟩ = some (.int .i64 1) := HT.out.cell 3
  have p4 : W.cell? ⟨w.heap.size, 4, none⟩ = some (.slice none 0 0) := HT.out.cell 4
  have p5 : W.cell? ⟨w.heap.size, 5, none⟩ = some (.bool false) := HT.out.cell 5
  have p6 : W.cell? ⟨w.heap.size, 6, none⟩ = some (.bool false) := HT.out.cell 6
  have q0 : W.cell? ⟨g, 0, none⟩ = some (.int .i64 0) := HU.out.cell 0
  have q1 : W.cell? ⟨g, 1, none⟩ = some (.string (tx [97])) := HU.out.cell 1
  have q2 : W.cell? ⟨g, 2, none⟩ = some (.int .i64 0) := HU.out.cell 2
  have q3 : W.cell? ⟨g, 3, none⟩ = some (.int .i64 1) := HU.out.cell 3
  have q4 : W.cell? ⟨g, 4, none⟩ = some (.slice (some ⟨g + 1, 0, none⟩) 1 1) := HU.out.cell 4
  have q5 : W.cell? ⟨g, 5, none⟩ = some (.bool true) := HU.out.cell 5
  have q6 : W.cell? ⟨g, 6, none⟩ = some (.bool false) := HU.out.cell 6
  go_wp2_with (first | rw [show (⟨#[97]⟩ : ByteArray) = tx [97] from rfl] | rw [hZ])
  refine (cprefix_any _ _ 1 1 [tx [97]] 0 (tx [97]) 0 1 none 0 [] false false HTX.out (by decide) (by decide) (by decide) (RdE_nil _)).mono ?_
  rintro e W1 ⟨rfl, hb⟩
  rw [top_awake28]
  have HT1 := Lib.hid (a1.out.below hb a1.out.lt)
  have HU1 := Lib.hid (a2.out.below hb a2.out.lt)
  have HX1 := Lib.hid (a3.out.below hb rfl)
  have HB1 := Lib.hid (a4.out.trans (hb.mono a4.out.size))
  clear hb a1 a2 a3 a4 HAL HTX hZ t0 t1 t2 t3 t4 t5 t6 u0 u1 u2 u3 u4 u5 u6 p0 p1 p2 p3 p4 p5 p6 q0 q1 q2 q3 q4 q5 q6 HT HU HX HB
  have HAL := Lib.hid ((Below.refl _ W1).alloc (Nat.le_refl _) (.cells #[.string (tx [97])] 9))
  have HTX := Lib.hid (texts1 W1 (tx [97]))
  have a1 := Lib.hid (HT1.out.below HAL.out HT1.out.lt)
  have a2 := Lib.hid (HU1.out.below HAL.out HU1.out.lt)
  have a3 := Lib.hid (HX1.out.below HAL.out rfl)
  have a4 := Lib.hid (HB1.out.trans (HAL.out.mono HB1.out.size))
  obtain ⟨Z2, hZ⟩ : ∃ Z, W1.alloc (.cells #[.string (tx [97])] 9) = Z := ⟨_, rfl⟩
  rw [hZ] at HAL HTX a1 a2 a3 a4
  have t0 : Z2.cell? ⟨w.heap.size, 0, none⟩ = some (.int .i64 0) := a1.out.cell 0
  have t1 : Z2.cell? ⟨w.heap.size, 1, none⟩ = some (.string (tx [97])) := a1.out.cell 1
  have t2 : Z2.cell? ⟨w.heap.size, 2, none⟩ = some (.int .i64 0) := a1.out.cell 2
  have t3 : Z2.cell? ⟨w.heap.size, 3, none⟩ = some (.int .i64 1) := a1.out.cell 3
  have t4 : Z2.cell? ⟨w.heap.size, 4, none⟩ = some (.slice none 0 0) := a1.out.cell 4
  have t5 : Z2.cell? ⟨w.heap.size, 5, none⟩ = some (.bool false) := a1.out.cell 5
  have t6 : Z2.cell? ⟨w.heap.size, 6, none⟩ = some (.bool false) := a1.out.cell 6
  have u0 : Z2.cell? ⟨g, 0, none⟩ = some (.int .i64 0) := a2.out.cell 0
  have u1 : Z2.cell? ⟨g, 1, none⟩ = some (.string (tx [97])) := a2.out.cell 1
  have u2 : Z2.cell? ⟨g, 2, none⟩ = some (.int .i64 0) := a2.out.cell 2
  have u3 : Z2.cell? ⟨g, 3, none⟩ = some (.int .i64 1) := a2.out.cell 3
  have u4 : Z2.cell? ⟨g, 4, none⟩ = some (.slice (some ⟨g + 1, 0, none⟩) 1 1) := a2.out.cell 4
  have u5 : Z2.cell? ⟨g, 5, none⟩ = some (.bool true) := a2.out.cell 5
  have u6 : Z2.cell? ⟨g, 6, none⟩ = some (.bool false) := a2.out.cell 6
  have p0 : W1.cell? ⟨w.heap.size, 0, none⟩ = some (.int .i64 0) := HT1.out.cell 0
  have p1 : W1.cell? ⟨w.heap.size, 1, none⟩ = some (.string (tx [97])) := HT1.out.cell 1
  have p2 : W1.cell? ⟨w.heap.size, 2, none⟩ = some (.int .i64 0) := HT1.out.cell 2
  have p3 : W1.cell? ⟨w.heap.size, 3, none⟩ = some (.int .i64 1) := HT1.out.cell 3
  have p4 : W1.cell? ⟨w.heap.size, 4, none⟩ = some (.slice none 0 0) := HT1.out.cell 4
  have p5 : W1.cell? ⟨w.heap.size, 5, none⟩ = some (.bool false) := HT1.out.cell 5
  have p6 : W1.cell? ⟨w.heap.size, 6, none⟩ = some (.bool false) := HT1.out.cell 6
  have q0 : W1.cell? ⟨g, 0, none⟩ = some (.int .i64 0) := HU1.out.cell 0
  have q1 : W1.cell? ⟨g, 1, none⟩ = some (.string (tx [97])) := HU1.out.cell 1
  have q2 : W1.cell? ⟨g, 2, none⟩ = some (.int .i64 0) := HU1.out.cell 2
  have q3 : W1.cell? ⟨g, 3, none⟩ = some (.int .i64 1) := HU1.out.cell 3
  have q4 : W1.cell? ⟨g, 4, none⟩ = some (.slice (some ⟨g + 1, 0, none⟩) 1 1) := HU1.out.cell 4
  have q5 : W1.cell? ⟨g, 5, none⟩ = some (.bool true) := HU1.out.cell 5
  have q6 : W1.cell? ⟨g, 6, none⟩ = some (.bool false) := HU1.out.cell 6
  go_wp2_with (first | rw [show (⟨#[97]⟩ : ByteArray) = tx [97] from rfl] | rw [hZ])
  refine (ccomplete_any _ _ 1 1 [tx [97]] 0 (tx [97]) 0 1 none 0 [] false false HTX.out (by decide) (by decide) (by decide) (RdE_nil _)).mono ?_
  rintro e W2 ⟨rfl, hb⟩
  rw [comp_awake28]
  have HT2 := Lib.hid (a1.out.below hb a1.out.lt)
  have HU2 := Lib.hid (a2.out.below hb a2.out.lt)
  have HX2 := Lib.hid (a3.out.below hb rfl)
  have HB2 := Lib.hid (a4.out.trans (hb.mono a4.out.size))
  clear hb a1 a2 a3 a4 HAL HTX hZ t0 t1 t2 t3 t4 t5 t6 u0 u1 u2 u3 u4 u5 u6 p0 p1 p2 p3 p4 p5 p6 q0 q1 q2 q3 q4 q5 q6 HT1 HU1 HX1 HB1
  have HAL := Lib.hid ((Below.refl _ W2).alloc (Nat.le_refl _) (.cells #[.string (tx [97])] 9))
  have HTX := Lib.hid (texts1 W2 (tx [97]))
  have a1 := Lib.hid (HT2.out.below HAL.out HT2.out.lt)
  have a2 := Lib.hid (HU2.out.below HAL.out HU2.out.lt)
  have a3 := Lib.hid (HX2.out.below HAL.out rfl)
  have a4 := Lib.hid (HB2.out.trans (HAL.out.mono HB2.out.size))
  obtain ⟨Z3, hZ⟩ : ∃ Z, W2.alloc (.cells #[.string (tx [97])] 9) = Z := ⟨_, rfl⟩
  rw [hZ] at HAL HTX a1 a2 a3 a4
  have t0 : Z3.cell? ⟨w.heap.size, 0, none⟩ = some (.int .i64 0) := a1.out.cell 0
  have t1 : Z3.cell? ⟨w.heap.size, 1, none⟩ = some (.string (tx [97])) := a1.out.cell 1
  have t2 : Z3.cell? ⟨w.heap.size, 2, none⟩ = some (.int .i64 0) := a1.out.cell 2
  have t3 : Z3.cell? ⟨w.heap.size, 3, none⟩ = some (.int .i64 1) := a1.out.cell 3
  have t4 : Z3.cell? ⟨w.heap.size, 4, none⟩ = some (.slice none 0 0) := a1.out.cell 4
  have t5 : Z3.cell? ⟨w.heap.size, 5, none⟩ = some (.bool false) := a1.out.cell 5
  have t6 : Z3.cell? ⟨w.heap.size, 6, none⟩ = some (.bool false) := a1.out.cell 6
  have u0 : Z3.cell? ⟨g, 0, none⟩ = some (.int .i64 0) := a2.out.cell 0
  have u1 : Z3.cell? ⟨g, 1, none⟩ = some (.string (tx [97])) := a2.out.cell 1
  have u2 : Z3.cell? ⟨g, 2, none⟩ = some (.int .i64 0) := a2.out.cell 2
  have u3 : Z3.cell? ⟨g, 3, none⟩ = some (.int .i64 1) := a2.out.cell 3
  have u4 : Z3.cell? ⟨g, 4, none⟩ = some (.slice (some ⟨g + 1, 0, none⟩) 1 1) := a2.out.cell 4
  have u5 : Z3.cell? ⟨g, 5, none⟩ = some (.bool true) := a2.out.cell 5
  have u6 : Z3.cell? ⟨g, 6, none⟩ = some (.bool false) := a2.out.cell 6
  have p0 : W2.cell? ⟨w.heap.size, 0, none⟩ = some (.int .i64 0) := HT2.out.cell 0
  have p1 : W2.cell? ⟨w.heap.size, 1, none⟩ = some (.string (tx [97])) := HT2.out.cell 1
  have p2 : W2.cell? ⟨w.heap.size, 2, none⟩ = some (.int .i64 0) := HT2.out.cell 2
  have p3 : W2.cell? ⟨w.heap.size, 3, none⟩ = some (.int .i64 1) := HT2.out.cell 3
  have p4 : W2.cell? ⟨w.heap.size, 4, none⟩ = some (.slice none 0 0) := HT2.out.cell 4
  have p5 : W2.cell? ⟨w.heap.size, 5, none⟩ = some (.bool false) := HT2.out.cell 5
  have p6 : W2.cell? ⟨w.heap.size, 6, none⟩ = some (.bool false) := HT2.out.cell 6
  have q0 : W2.cell? ⟨g, 0, none⟩ = some (.int .i64 0) := HU2.out.cell 0
  have q1 : W2.cell? ⟨g, 1, none⟩ = some (.string (tx [97])) := HU2.out.cell 1
  have q2 : W2.cell? ⟨g, 2, none⟩ = some (.int .i64 0) := HU2.out.cell 2
  have q3 : W2.cell? ⟨g, 3, none⟩ = some (.int .i64 1) := HU2.out.cell 3
  have q4 : W2.cell? ⟨g, 4, none⟩ = some (.slice (some ⟨g + 1, 0, none⟩) 1 1) := HU2.out.cell 4
  have q5 : W2.cell? ⟨g, 5, none⟩ = some (.bool true) := HU2.out.cell 5
  have q6 : W2.cell? ⟨g, 6, none⟩ = some (.bool false) := HU2.out.cell 6
  go_wp2_with (first | rw [show (⟨#[97]⟩ : ByteArray) = tx [97] from rfl] | rw [hZ])
  refine (cright_any _ _ 1 1 [tx [97]] 0 (tx [97]) 0 1 (some ⟨g + 1, 0, none⟩) 1 [(0, tx [97])] true false HTX.out (by decide) (by decide) (by decide) a3.out).mono ?_
  rintro e W3 ⟨rfl, hb⟩
  rw [right_awake28]
  have HT3 := Lib.hid (a1.out.below hb a1.out.lt)
  have HU3 := Lib.hid (a2.out.below hb a2.out.lt)
  have HX3 := Lib.hid (a3.out.below hb rfl)
  have HB3 := Lib.hid (a4.out.trans (hb.mono a4.out.size))
  clear hb a1 a2 a3 a4 HAL HTX hZ t0 t1 t2 t3 t4 t5 t6 u0 u1 u2 u3 u4 u5 u6 p0 p1 p2 p3 p4 p5 p6 q0 q1 q2 q3 q4 q5 q6 HT2 HU2 HX2 HB2
  have t0 : W3.cell? ⟨w.heap.size, 0, none⟩ = some (.int .i64 0) := HT3.out.cell 0
  have t1 : W3.cell? ⟨w.heap.size, 1, none⟩ = some (.string (tx [97])) := HT3.out.cell 1
  have t2 : W3.cell? ⟨w.heap.size, 2, none⟩ = some (.int .i64 0) := HT3.out.cell 2
  have t3 : W3.cell? ⟨w.heap.size, 3, none⟩ = some (.int .i64 1) := HT3.out.cell 3
  have t4 : W3.cell? ⟨w.heap.size, 4, none⟩ = some (.slice none 0 0) := HT3.out.cell 4
  have t5 : W3.cell? ⟨w.heap.size, 5, none⟩ = some (.bool false) := HT3.out.cell 5
  have t6 : W3.cell? ⟨w.heap.size, 6, none⟩ = some (.bool false) := HT3.out.cell 6
  have u0 : W3.cell? ⟨g, 0, none⟩ = some (.int .i64 0) := HU3.out.cell 0
  have u1 : W3.cell? ⟨g, 1, none⟩ = some (.string (tx [97])) := HU3.out.cell 1
  have u2 : W3.cell? ⟨g, 2, none⟩ = some (.int .i64 0) := HU3.out.cell 2
  have u3 : W3.cell? ⟨g, 3, none⟩ = some (.int .i64 1) := HU3.out.cell 3
  have u4 : W3.cell? ⟨g, 4, none⟩ = some (.slice (some ⟨g + 1, 0, none⟩) 1 1) := HU3.out.cell 4
  have u5 : W3.cell? ⟨g, 5, none⟩ = some (.bool true) := HU3.out.cell 5
  have u6 : W3.cell? ⟨g, 6, none⟩ = some (.bool false) := HU3.out.cell 6
  go_wp2_with fail
  refine (clater_any _ 0 (tx [97]) 0 1 none 0 [] false false 0 (tx [97]) 0 1 (some ⟨g + 1, 0, none⟩) 1 [(0, tx [97])] true false (RdE_nil _) HX3.out).mono ?_
  rintro e W4 ⟨rfl, hb⟩
  rw [later_awake28]
  have HT4 := Lib.hid (HT3.out.below hb HT3.out.lt)
  have HU4 := Lib.hid (HU3.out.below hb HU3.out.lt)
  have HX4 := Lib.hid (HX3.out.below hb rfl)
  have HB4 := Lib.hid (HB3.out.trans (hb.mono HB3.out.size))
  clear hb t0 t1 t2 t3 t4 t5 t6 u0 u1 u2 u3 u4 u5 u6 HT3 HU3 HX3 HB3
  have t0 : W4.cell? ⟨w.heap.size, 0, none⟩ = some (.int .i64 0) := HT4.out.cell 0
  have t1 : W4.cell? ⟨w.heap.size, 1, none⟩ = some (.string (tx [97])) := HT4.out.cell 1
  have t2 : W4.cell? ⟨w.heap.size, 2, none⟩ = some (.int .i64 0) := HT4.out.cell 2
  have t3 : W4.cell? ⟨w.heap.size, 3, none⟩ = some (.int .i64 1) := HT4.out.cell 3
  have t4 : W4.cell? ⟨w.heap.size, 4, none⟩ = some (.slice none 0 0) := HT4.out.cell 4
  have t5 : W4.cell? ⟨w.heap.size, 5, none⟩ = some (.bool false) := HT4.out.cell 5
  have t6 : W4.cell? ⟨w.heap.size, 6, none⟩ = some (.bool false) := HT4.out.cell 6
  have u0 : W4.cell? ⟨g, 0, none⟩ = some (.int .i64 0) := HU4.out.cell 0
  have u1 : W4.cell? ⟨g, 1, none⟩ = some (.string (tx [97])) := HU4.out.cell 1
  have u2 : W4.cell? ⟨g, 2, none⟩ = some (.int .i64 0) := HU4.out.cell 2
  have u3 : W4.cell? ⟨g, 3, none⟩ = some (.int .i64 1) := HU4.out.cell 3
  have u4 : W4.cell? ⟨g, 4, none⟩ = some (.slice (some ⟨g + 1, 0, none⟩) 1 1) := HU4.out.cell 4
  have u5 : W4.cell? ⟨g, 5, none⟩ = some (.bool true) := HU4.out.cell 5
  have u6 : W4.cell? ⟨g, 6, none⟩ = some (.bool false) := HU4.out.cell 6
  go_wp2_with fail
  refine (clater_any _ 0 (tx [97]) 0 1 (some ⟨g + 1, 0, none⟩) 1 [(0, tx [97])] true false 0 (tx [97]) 0 1 none 0 [] false false HX4.out (RdE_nil _)).mono ?_
  rintro e W5 ⟨rfl, hb⟩
  rw [later_awake28b]
  have HT5 := Lib.hid (HT4.out.below hb HT4.out.lt)
  have HU5 := Lib.hid (HU4.out.below hb HU4.out.lt)
  have HX5 := Lib.hid (HX4.out.below hb rfl)
  have HB5 := Lib.hid (HB4.out.trans (hb.mono HB4.out.size))
  clear hb t0 t1 t2 t3 t4 t5 t6 u0 u1 u2 u3 u4 u5 u6 HT4 HU4 HX4 HB4
  go_wp2_with fail
  go_ret
  exact ⟨rfl, HB5.out⟩
end Go.Proofs.Ytiohngcmojkheaa
