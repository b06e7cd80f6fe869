/- The document's Put and Sort of items. -/
import Derived.Test.YtiohngcmojkheaaRk1
import Derived.Test.YtiohngcmojkheaaRef10
import Derived.Deep.DeepCutAuto
namespace Go.Proofs.Ytiohngcmojkheaa
open Go.RowKit
set_option linter.unusedVariables false

theorem rless_any (a b : KeyL) (w : World) (h1 : a.2.size ≤ 1000000) (h2 : b.2.size ≤ 1000000) : Calls Try.prog 33 #[.agg #[.int .i64 a.1, .string a.2], .agg #[.int .i64 b.1, .string b.2]] w fun e w' => e = .returned (.bool (kless a b)) ∧ Below w.heap.size w w' := ritless_any a.1 a.2 b.1 b.2 w h1 h2
def aheadI (x : KeyL) (l : List KeyL) : Bool := l.any fun y => kless x y
theorem aheadI_snoc (x : KeyL) (l : List KeyL) (y : KeyL) : aheadI x (l ++ [y]) = (aheadI x l || kless x y) := by unfold aheadI; rw [List.any_append]; simp
theorem putL_no : ∀ (l : List KeyL) (x : KeyL), aheadI x l = false → putL l x = l ++ [x]
  | [], x, _ => rfl
  | y :: r, x, h => by
    unfold aheadI at h
    rw [List.any_cons, Bool.or_eq_false_iff] at h
    unfold putL
    rw [if_neg (by rw [h.1]; decide), putL_no r x h.2]; rfl
theorem putL_yes : ∀ (l : List KeyL) (x y : KeyL), aheadI x l = true → putL (l ++ [y]) x = putL l x ++ [y]
  | [], x, y, h => by simp [aheadI] at h
  | z :: r, x, y, h => by
    rw [List.cons_append]
    unfold putL
    by_cases hz : kless x z = true
    · rw [if_pos hz, if_pos hz]; rfl
    · rw [if_neg hz, if_neg hz, putL_yes r x y (by
        unfold aheadI at h ⊢
        rw [List.any_cons] at h
        have : kless x z = false := by simpa using hz
        rwa [this, Bool.false_or] at h)]; rfl
theorem putL_now : ∀ (l : List KeyL) (x y : KeyL), aheadI x l = false → kless x y = true → putL (l ++ [y]) x = l ++ [x] ++ [y]
  | [], x, y, _, hy => by simp [putL, hy]
  | z :: r, x, y, h, hy => by
    unfold aheadI at h
    rw [List.any_cons, Bool.or_eq_false_iff] at h
    rw [List.cons_append]
    unfold putL
    rw [if_neg (by rw [h.1]; decide), putL_now r x y h.2 hy]; rfl
theorem putL_len (l : List KeyL) (x : KeyL) : (putL l x).length = l.length + 1 := (putL_perm l x).length_eq
def partL (x : KeyL) (l : List KeyL) : List KeyL := if aheadI x l = true then putL l x else l
theorem partL_len (x : KeyL) (l : List KeyL) : (partL x l).length ≤ l.length + 1 := by unfold partL; split <;> simp [putL_len]
theorem partL_no {x : KeyL} {l : List KeyL} (h : aheadI x l = false) : partL x l = l := by unfold partL; rw [if_neg (by rw [h]; decide)]
theorem partL_yes {x : KeyL} {l : List KeyL} (h : aheadI x l = true) : partL x l = putL l x := by unfold partL; rw [if_pos h]
def PuR (W0 : World) (l : List KeyL) (x : KeyL) (v5 v6 v7 : Value) (wr : World) : Prop := ∃ (i m : Nat) (ao : Option Addr) (c : Nat) (b : Bool), i ≤ l.length ∧ m ≤ i + 1 ∧ v7 = .int .i64 i ∧ v6 = .bool b ∧ v5 = .slice ao m c ∧ RowKit.Hid (aheadI x (l.take i) = b) ∧ RowKit.Hid ((partL x (l.take i)).length = m) ∧ RowKit.Hid (wr.ownsRow W0.heap.size 39 2 (.slice ao m c) m ((partL x (l.take i)).flatMap KeyL.cells)) ∧ RowKit.Hid (Below W0.heap.size W0 wr)
set_option maxRecDepth 100000 in
set_option maxHeartbeats 8000000 in
theorem rput_any (w : World) (ao : Option Addr) (n c : Nat) (l : List KeyL) (x : KeyL) (hr : RdE KeyL.cells 2 w ao n c l) (hn : n ≤ 1000) (hs : ∀ y ∈ l, y.2.size ≤ 1000000) (hx : x.2.size ≤ 1000000) :
    Calls Try.prog 54 #[.slice ao n c, .agg #[.int .i64 x.1, .string x.2]] w fun e w' => OwnI w (putL l x) e w' := by
  obtain ⟨i0, hi, hz0, hz1, hz2⟩ := info_parts infoI2
  have HI := Lib.hid hi
  have HZ0 := Lib.hid hz0
  have HZ1 := Lib.hid hz1
  have HZ2 := Lib.hid hz2
  clear hi hz0 hz1 hz2
  have hl := hr.1
  subst hl
  have HR := Lib.hid hr
  have HS := Lib.hid hs
  have HB := Lib.hid ((Below.refl _ w).alloc (Nat.le_refl _) (.cells #[.int .i64 x.1, .string x.2] 39))
  have HK := Lib.hid (show Blk (w.alloc (.cells #[.int .i64 x.1, .string x.2] 39)) w.heap.size 39 [.int .i64 x.1, .string x.2] from heap_alloc_new w _)
  have HLE := Lib.hid (fun y w (hy : y.2.size ≤ 1000000) => rless_any x y w hx hy)
  clear hr hs
  go_enter Try.func54, Try.ntmps54
  go_wp2_with fail
  obtain ⟨W0, hW0⟩ : ∃ W0, w.alloc (.cells #[.int .i64 x.1, .string x.2] 39) = W0 := ⟨_, rfl⟩
  rw [hW0] at HB HK ⊢
  clear hW0
  go_loopw [5, 6, 7] (fun v5 v6 v7 wr => PuR W0 l x v5 v6 v7 wr) (fun _ _ v _ => l.length - (intOf v).toNat)
  case atStart => exact ⟨0, 0, none, 0, false, by omega, by omega, rfl, rfl, rfl, rfl, rfl, World.ownsRow_nil _ _ _ _, Below.refl _ _⟩
  case round =>
    obtain ⟨i, m, a1, c1, b, hi, hmi, rfl, rfl, rfl, HAH, HLN, HO, HBW⟩ := hrel
    have HKW := Lib.hid (HK.out.below HBW.out (Blk.lt HK.out))
    have x0 : wr.cell? ⟨w.heap.size, 0, none⟩ = some (.int .i64 x.1) := HKW.out.cell 0
    have x1 : wr.cell? ⟨w.heap.size, 1, none⟩ = some (.string x.2) := HKW.out.cell 1
    by_cases hlt : i < l.length
    · obtain ⟨y, hy⟩ : ∃ y, l[i]? = some y := ⟨_, List.getElem?_eq_getElem hlt⟩
      have hys := HS.out y (List.mem_iff_getElem?.2 ⟨i, hy⟩)
      obtain ⟨bl, ol, rfl, hbl, hc⟩ := (HR.out.below HB.out rfl).2.2.2.2 i y hy
      have HY : RowKit.Hid (∀ V, Below W0.heap.size W0 V → V.cell? ⟨bl, ol + i * 2, none⟩ = some (.int .i64 y.1) ∧ V.cell? ⟨bl, ol + i * 2 + 1, none⟩ = some (.string y.2)) := fun V hb => ⟨(hb.cell hbl).trans (hc 0 (by decide)), (hb.cell hbl).trans (hc 1 (by decide))⟩
      have htk : l.take (i + 1) = l.take i ++ [y] := by rw [List.take_add_one, hy]; rfl
      have HTK := Lib.hid htk
      have b1 : (0 : Int) ≤ (i : Int) := by omega
      have b2 : (i : Int) < (l.length : Int) := by omega
      clear hy hc htk
      cases b
      · have HLX := Lib.hid (HLE.out y)
        have HP0 := Lib.hid (partL_no HAH.out)
        rw [HP0.out] at HLN HO
        have hmi2 : m ≤ i := by have := HLN.out; rw [List.length_take] at this; omega
        have HGB : RowKit.Hid (Below W0.heap.size W0 wr.drew) := below_drewN HBW.out 1
        have HOD := Lib.hid (show wr.drew.ownsRow W0.heap.size 39 2 (.slice a1 m c1) m ((l.take i).flatMap KeyL.cells) from HO.out)
        have HKV := Lib.hid (fun V (hb : Below W0.heap.size W0 V) => HK.out.below hb (Blk.lt HK.out))
        clear x0 x1
        have x0 : wr.cell? ⟨w.heap.size, 0, none⟩ = some (.int .i64 x.1) := HKW.out.cell 0
        have x1 : wr.cell? ⟨w.heap.size, 1, none⟩ = some (.string x.2) := HKW.out.cell 1
        go_upto_region 6 with fail
        go_region_held3 (fun w' => w'.cell? ⟨w.heap.size, 0, none⟩ = some (.int .i64 x.1) ∧ w'.cell? ⟨w.heap.size, 1, none⟩ = some (.string x.2) ∧ w'.cell? ⟨bl, ol + i * 2, none⟩ = some (.int .i64 y.1) ∧ w'.cell? ⟨bl, ol + i * 2 + 1, none⟩ = some (.string y.2)) (exact ⟨(HKV.out _ HGB.out).cell 0, (HKV.out _ HGB.out).cell 1, (HY.out _ HGB.out).1, (HY.out _ HGB.out).2⟩) ((go_at_call 33; (with_reducible refine (HLX.out _ hys).mono ?_); rintro e u ⟨rfl, hb⟩; have HSN := Lib.hid (HGB.out.trans (hb.mono HGB.out.size)); have HOE := Lib.hid (ownsRow_below HOD.out hb); clear HGB HOD; have HGB := HSN; clear HSN hb))
        cases hk : kless x y
        · have HAH2 := Lib.hid (show aheadI x (l.take (i + 1)) = false from by rw [HTK.out, aheadI_snoc, HAH.out, hk]; rfl)
          have HP2 := Lib.hid (show partL x (l.take (i + 1)) = l.take i ++ [y] from by rw [partL_no HAH2.out, HTK.out])
          obtain ⟨y0, y1⟩ := HY.out u HGB.out
          clear hk x0 x1
          have A1 : m + 1 ≤ maxLen := by unfold maxLen; omega
          have A2 : (m + 1) * 24 ≤ 140737488355328 := by omega
          have HAL := Lib.hid ((Below.refl _ u).alloc (Nat.le_refl _) (.cells #[.int .i64 y.1, .string y.2] 39))
          have HO' := Lib.hid (ownsRow_below HOE.out HAL.out)
          have hz : W0.heap.size ≤ (u.alloc (.cells #[.int .i64 y.1, .string y.2] 39)).heap.size := Nat.le_trans HGB.out.size HAL.out.size
          have HBA := Lib.hid (HGB.out.alloc HGB.out.size (.cells #[.int .i64 y.1, .string y.2] 39))
          have HSR := Lib.hid (Src.item1 u y)
          go_wp2_with (at_builtin; refine wpList_app rfl _ _ 28 28 rfl W0.heap.size 39 i0 (.agg #[.int .i64 0, .string ⟨#[]⟩]) 2 24 Try.underlying28 HI.out HZ0.out HZ1.out HZ2.out rfl (by decide) a1 m c1 ((l.take i).flatMap KeyL.cells) rfl HO'.out _ 1 (KeyL.cells y) rfl HSR.out A1 A2 hz ?_; intro a3 c3 w5 hown5 hg5; have HO5 := Lib.hid (show w5.ownsRow W0.heap.size 39 2 (.slice a3 (m + 1) c3) (m + 1) ((l.take i ++ [y]).flatMap KeyL.cells) from by simpa [List.flatMap_append] using hown5); have HB5 := Lib.hid (HBA.out.grown hg5 hz (fun b hb => (HO'.out.lt b hb).1)); clear hown5 hg5 HSR HBA HO' HAL A1 A2 hz)
          go_roundw
          case rel => exact ⟨i + 1, m + 1, a3, c3, false, by omega, by omega, by go_num, rfl, rfl, HAH2.out, by rw [HP2.out, List.length_append, HLN.out]; rfl, by rw [HP2.out]; exact HO5.out, HB5.out⟩
          case measure => simp [intOf]; omega
        · have HAH2 := Lib.hid (show aheadI x (l.take (i + 1)) = true from by rw [HTK.out, aheadI_snoc, HAH.out, hk]; rfl)
          have HP2 := Lib.hid (show partL x (l.take (i + 1)) = l.take i ++ [x] ++ [y] from by rw [partL_yes HAH2.out, HTK.out, putL_now _ _ _ HAH.out hk])
          have z0 : u.cell? ⟨w.heap.size, 0, none⟩ = some (.int .i64 x.1) := (HKV.out _ HGB.out).cell 0
          have z1 : u.cell? ⟨w.heap.size, 1, none⟩ = some (.string x.2) := (HKV.out _ HGB.out).cell 1
          clear hk x0 x1
          have A1 : m + 1 ≤ maxLen := by unfold maxLen; omega
          have A2 : (m + 1) * 24 ≤ 140737488355328 := by omega
          have HAL := Lib.hid ((Below.refl _ u).alloc (Nat.le_refl _) (.cells #[.int .i64 x.1, .string x.2] 39))
          have HO' := Lib.hid (ownsRow_below HOE.out HAL.out)
          have hz : W0.heap.size ≤ (u.alloc (.cells #[.int .i64 x.1, .string x.2] 39)).heap.size := Nat.le_trans HGB.out.size HAL.out.size
          have HBA := Lib.hid (HGB.out.alloc HGB.out.size (.cells #[.int .i64 x.1, .string x.2] 39))
          have HSR := Lib.hid (Src.item1 u x)
          go_upto_region 9 with (at_builtin; refine wpList_app rfl _ _ 28 28 rfl W0.heap.size 39 i0 (.agg #[.int .i64 0, .string ⟨#[]⟩]) 2 24 Try.underlying28 HI.out HZ0.out HZ1.out HZ2.out rfl (by decide) a1 m c1 ((l.take i).flatMap KeyL.cells) rfl HO'.out _ 1 (KeyL.cells x) rfl HSR.out A1 A2 hz ?_; intro a3 c3 w5 hown5 hg5; have HO5 := Lib.hid (show w5.ownsRow W0.heap.size 39 2 (.slice a3 (m + 1) c3) (m + 1) ((l.take i ++ [x]).flatMap KeyL.cells) from by simpa [List.flatMap_append] using hown5); have HB5 := Lib.hid (HBA.out.grown hg5 hz (fun b hb => (HO'.out.lt b hb).1)); clear hown5 hg5 HSR HBA HO' HAL A1 A2 hz)
          obtain ⟨y0, y1⟩ := HY.out w5 HB5.out
          clear z0 z1
          have A1 : (m + 1) + 1 ≤ maxLen := by unfold maxLen; omega
          have A2 : ((m + 1) + 1) * 24 ≤ 140737488355328 := by omega
          have HAL := Lib.hid ((Below.refl _ w5).alloc (Nat.le_refl _) (.cells #[.int .i64 y.1, .string y.2] 39))
          have HO' := Lib.hid (ownsRow_below HO5.out HAL.out)
          have hz : W0.heap.size ≤ (w5.alloc (.cells #[.int .i64 y.1, .string y.2] 39)).heap.size := Nat.le_trans HB5.out.size HAL.out.size
          have HBA := Lib.hid (HB5.out.alloc HB5.out.size (.cells #[.int .i64 y.1, .string y.2] 39))
          have HSR := Lib.hid (Src.item1 w5 y)
          go_wp2_with (at_builtin; refine wpList_app rfl _ _ 28 28 rfl W0.heap.size 39 i0 (.agg #[.int .i64 0, .string ⟨#[]⟩]) 2 24 Try.underlying28 HI.out HZ0.out HZ1.out HZ2.out rfl (by decide) a3 (m + 1) c3 ((l.take i ++ [x]).flatMap KeyL.cells) rfl HO'.out _ 1 (KeyL.cells y) rfl HSR.out A1 A2 hz ?_; intro a4 c4 w6 hown5 hg5; have HO6 := Lib.hid (show w6.ownsRow W0.heap.size 39 2 (.slice a4 ((m + 1) + 1) c4) ((m + 1) + 1) ((l.take i ++ [x] ++ [y]).flatMap KeyL.cells) from by simpa [List.flatMap_append] using hown5); have HB6 := Lib.hid (HBA.out.grown hg5 hz (fun b hb => (HO'.out.lt b hb).1)); clear hown5 hg5 HSR HBA HO' HAL A1 A2 hz)
          go_roundw
          case rel => exact ⟨i + 1, m + 1 + 1, a4, c4, true, by omega, by omega, by go_num, rfl, rfl, HAH2.out, by rw [HP2.out, List.length_append, List.length_append, HLN.out]; rfl, by rw [HP2.out]; exact HO6.out, HB6.out⟩
          case measure => simp [intOf]; omega
      · have HAH2 := Lib.hid (show aheadI x (l.take (i + 1)) = true from by rw [HTK.out, aheadI_snoc, HAH.out]; rfl)
        have HP2 := Lib.hid (show partL x (l.take (i + 1)) = partL x (l.take i) ++ [y] from by rw [partL_yes HAH2.out, HTK.out, putL_yes _ _ _ HAH.out, partL_yes HAH.out])
        obtain ⟨P, hP⟩ : ∃ P, partL x (l.take i) = P := ⟨_, rfl⟩
        rw [hP] at HLN HO HP2
        clear hP x0 x1
        go_upto_region 6 with fail
        go_quiet (fail)
        have HBN := Lib.hid (below_drewN HBW.out nq)
        have HON := Lib.hid (show (wr.drewN nq).ownsRow W0.heap.size 39 2 (.slice a1 m c1) m (P.flatMap KeyL.cells) from HO.out)
        obtain ⟨y0, y1⟩ := HY.out (wr.drewN nq) HBN.out
        generalize wr.drewN nq = u at *
        have A1 : m + 1 ≤ maxLen := by unfold maxLen; omega
        have A2 : (m + 1) * 24 ≤ 140737488355328 := by omega
        have HAL := Lib.hid ((Below.refl _ u).alloc (Nat.le_refl _) (.cells #[.int .i64 y.1, .string y.2] 39))
        have HO' := Lib.hid (ownsRow_below HON.out HAL.out)
        have hz : W0.heap.size ≤ (u.alloc (.cells #[.int .i64 y.1, .string y.2] 39)).heap.size := Nat.le_trans HBN.out.size HAL.out.size
        have HBA := Lib.hid (HBN.out.alloc HBN.out.size (.cells #[.int .i64 y.1, .string y.2] 39))
        have HSR := Lib.hid (Src.item1 u y)
        go_wp2_with (at_builtin; refine wpList_app rfl _ _ 28 28 rfl W0.heap.size 39 i0 (.agg #[.int .i64 0, .string ⟨#[]⟩]) 2 24 Try.underlying28 HI.out HZ0.out HZ1.out HZ2.out rfl (by decide) a1 m c1 (P.flatMap KeyL.cells) rfl HO'.out _ 1 (KeyL.cells y) rfl HSR.out A1 A2 hz ?_; intro a3 c3 w5 hown5 hg5; have HO5 := Lib.hid (show w5.ownsRow W0.heap.size 39 2 (.slice a3 (m + 1) c3) (m + 1) ((P ++ [y]).flatMap KeyL.cells) from by simpa [List.flatMap_append] using hown5); have HB5 := Lib.hid (HBA.out.grown hg5 hz (fun b hb => (HO'.out.lt b hb).1)); clear hown5 hg5 HSR HBA HO' HAL A1 A2 hz)
        go_roundw
        case rel => exact ⟨i + 1, m + 1, a3, c3, true, by omega, by omega, by go_num, rfl, rfl, HAH2.out, by rw [HP2.out, List.length_append, HLN.out]; rfl, by rw [HP2.out]; exact HO5.out, HB5.out⟩
        case measure => simp [intOf]; omega
    · obtain rfl : i = l.length := by omega
      have hah := HAH.out
      have hln := HLN.out
      have ho := HO.out
      rw [List.take_length] at hah hln ho
      cases b
      · rw [partL_no hah] at hln ho
        have HPN := Lib.hid (putL_no l x hah)
        have HOL := Lib.hid ho
        have HLL := Lib.hid hln
        clear hah hln ho HAH HLN HO
        have A1 : m + 1 ≤ maxLen := by unfold maxLen; omega
        have A2 : (m + 1) * 24 ≤ 140737488355328 := by omega
        have HAL := Lib.hid ((Below.refl _ wr).alloc (Nat.le_refl _) (.cells #[.int .i64 x.1, .string x.2] 39))
        have HO' := Lib.hid (ownsRow_below HOL.out HAL.out)
        have hz : W0.heap.size ≤ (wr.alloc (.cells #[.int .i64 x.1, .string x.2] 39)).heap.size := Nat.le_trans HBW.out.size HAL.out.size
        have HBA := Lib.hid (HBW.out.alloc HBW.out.size (.cells #[.int .i64 x.1, .string x.2] 39))
        have HSR := Lib.hid (Src.item1 wr x)
        go_wp2_with (at_builtin; refine wpList_app rfl _ _ 28 28 rfl W0.heap.size 39 i0 (.agg #[.int .i64 0, .string ⟨#[]⟩]) 2 24 Try.underlying28 HI.out HZ0.out HZ1.out HZ2.out rfl (by decide) a1 m c1 (l.flatMap KeyL.cells) rfl HO'.out _ 1 (KeyL.cells x) rfl HSR.out A1 A2 hz ?_; intro a3 c3 w5 hown5 hg5; have HO5 := Lib.hid (show w5.ownsRow W0.heap.size 39 2 (.slice a3 (m + 1) c3) (m + 1) ((l ++ [x]).flatMap KeyL.cells) from by simpa [List.flatMap_append] using hown5); have HB5 := Lib.hid (HBA.out.grown hg5 hz (fun b hb => (HO'.out.lt b hb).1)); clear hown5 hg5 HSR HBA HO' HAL A1 A2 hz)
        have HE := Lib.hid (show OwnI w (putL l x) (.returned (.slice a3 (m + 1) c3)) w5 from by
          have e1 : (l ++ [x]).length = m + 1 := by rw [List.length_append, HLL.out]; rfl
          rw [HPN.out]
          exact ⟨a3, c3, by rw [e1], by rw [e1]; exact own0 HO5.out HB.out.size, HB.out.trans (HB5.out.mono HB.out.size)⟩)
        go_ret
        exact HE.out
      · rw [partL_yes hah] at hln ho
        have HE := Lib.hid (show OwnI w (putL l x) (.returned (.slice a1 m c1)) wr from ⟨a1, c1, by rw [hln], by rw [hln]; exact own0 ho HB.out.size, HB.out.trans (HBW.out.mono HB.out.size)⟩)
        clear hah hln ho HAH HLN HO
        go_wp2_with fail
        go_ret
        exact HE.out
def SoR (w : World) (l : List KeyL) (v3 v4 : Value) (wr : World) : Prop := ∃ (i : Nat) (ao : Option Addr) (c : Nat), i ≤ l.length ∧ v4 = .int .i64 i ∧ v3 = .slice ao i c ∧ RowKit.Hid (wr.ownsRow w.heap.size 39 2 (.slice ao i c) i (((l.take i).foldl putL []).flatMap KeyL.cells)) ∧ RowKit.Hid (Below w.heap.size w wr)
theorem foldl_len (l : List KeyL) : (l.foldl putL []).length = l.length := sortL_len l
set_option maxRecDepth 100000 in
set_option maxHeartbeats 4000000 in
theorem refsort_any (w : World) (ao : Option Addr) (n c : Nat) (l : List KeyL) (hr : RdE KeyL.cells 2 w ao n c l) (hn : n ≤ 1000) (hs : ∀ y ∈ l, y.2.size ≤ 1000000) :
    Calls Try.prog 30 #[.slice ao n c] w fun e w' => OwnI w (sortL l) e w' := by
  have hl := hr.1
  subst hl
  have HR := Lib.hid hr
  have HS := Lib.hid hs
  have HPU := Lib.hid (fun w ao n c l x hr hn hs hx => rput_any w ao n c l x hr hn hs hx)
  clear hr hs
  go_enter Try.func30, Try.ntmps30
  go_wp2_with fail
  go_loopw [3, 4] (fun v3 v4 wr => SoR w l v3 v4 wr) (fun _ v _ => l.length - (intOf v).toNat)
  case atStart => exact ⟨0, none, 0, by omega, rfl, rfl, World.ownsRow_nil _ _ _ _, Below.refl _ _⟩
  case round =>
    obtain ⟨i, a1, c1, hi, rfl, rfl, HO, HB⟩ := hrel
    by_cases hlt : i < l.length
    · obtain ⟨y, hy⟩ : ∃ y, l[i]? = some y := ⟨_, List.getElem?_eq_getElem hlt⟩
      have hys := HS.out y (List.mem_iff_getElem?.2 ⟨i, hy⟩)
      obtain ⟨bl, ol, rfl, hbl, hc⟩ := (HR.out.below HB.out rfl).2.2.2.2 i y hy
      have y0 : wr.cell? ⟨bl, ol + i * 2, none⟩ = some (.int .i64 y.1) := hc 0 (by decide)
      have y1 : wr.cell? ⟨bl, ol + i * 2 + 1, none⟩ = some (.string y.2) := hc 1 (by decide)
      have HTK := Lib.hid (show (l.take (i + 1)).foldl putL [] = putL ((l.take i).foldl putL []) y from by rw [List.take_add_one, hy, List.foldl_append]; rfl)
      have hle : ((l.take i).foldl putL []).length = i := by rw [foldl_len, List.length_take]; omega
      have HRD := Lib.hid (ownsRow_rdE (enc := KeyL.cells) (fun _ => rfl) hle HO.out)
      have HSM := Lib.hid (show ∀ z ∈ (l.take i).foldl putL [], z.2.size ≤ 1000000 from fun z hz => HS.out z (List.mem_of_mem_take ((sortL_mem (l := l.take i)).1 hz)))
      have b1 : (0 : Int) ≤ (i : Int) := by omega
      have b2 : (i : Int) < (l.length : Int) := by omega
      have HLE := Lib.hid hle
      clear hy hc hle
      go_wp2_with fail
      refine (HPU.out wr a1 i c1 _ y HRD.out (by omega) HSM.out hys).mono ?_
      rintro e w1 ⟨a2, c2, rfl, hown, hb⟩
      have e1 : (putL ((l.take i).foldl putL []) y).length = i + 1 := by rw [putL_len, HLE.out]
      rw [e1] at hown ⊢
      have HO2 := Lib.hid (show w1.ownsRow w.heap.size 39 2 (.slice a2 (i + 1) c2) (i + 1) (((l.take (i + 1)).foldl putL []).flatMap KeyL.cells) from by rw [HTK.out]; exact own0 hown HB.out.size)
      have HB2 := Lib.hid (HB.out.trans (hb.mono HB.out.size))
      clear hown hb e1 y0 y1
      go_wp2_with fail
      go_roundw
      case rel => exact ⟨i + 1, a2, c2, by omega, by go_num, rfl, HO2.out, HB2.out⟩
      case measure => simp [intOf]; omega
    · obtain rfl : i = l.length := by omega
      have ho := HO.out
      rw [List.take_length] at ho
      have HE := Lib.hid (show OwnI w (sortL l) (.returned (.slice a1 l.length c1)) wr from ⟨a1, c1, by rw [sortL_len], by rw [sortL_len]; exact ho, HB.out⟩)
      clear ho HO
      go_wp2_with fail
      go_ret
      exact HE.out
end Go.Proofs.Ytiohngcmojkheaa
