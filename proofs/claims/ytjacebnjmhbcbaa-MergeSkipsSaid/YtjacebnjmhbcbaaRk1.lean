/- rank.May, rank.All, rank.Top. -/
import Derived.Test.YtjacebnjmhbcbaaSt8
import Derived.Test.YtjacebnjmhbcbaaBd2
import Derived.Test.YtjacebnjmhbcbaaTexts1
namespace Go.Proofs.Ytjacebnjmhbcbaa
open Go.RowKit
set_option linter.unusedVariables false

def nearO (s : ByteArray) (k : Int) (w : ByteArray) : Option KeyL := if (nearT s w k).2 = true then some ((nearT s w k).1, w) else none
def nearI (words : List ByteArray) (s : ByteArray) (k : Int) : List KeyL := words.filterMap (nearO s k)
theorem nearI_snoc (words : List ByteArray) (s : ByteArray) (k : Int) (w : ByteArray) : nearI (words ++ [w]) s k = nearI words s k ++ (if (nearT s w k).2 = true then [((nearT s w k).1, w)] else []) := by
  unfold nearI
  rw [List.filterMap_append]
  congr 1
  unfold nearO
  rw [List.filterMap_cons]
  split <;> rename_i h
  · split at h
    · cases h
    · rename_i h2; rw [if_neg h2]; rfl
  · split at h
    · rename_i h2; cases h; rw [if_pos h2]; rfl
    · cases h
theorem nearI_len (words : List ByteArray) (s : ByteArray) (k : Int) : (nearI words s k).length ≤ words.length := List.length_filterMap_le _ _
def allL (words : List ByteArray) (s : ByteArray) (k : Int) : List KeyL := sortL (nearI words s k)
def mayQ (q : ByteArray) (k n : Int) : Bool := askedB q && decide (0 ≤ k) && decide (k ≤ 4) && decide (1 ≤ n) && decide (n ≤ 10)
def topL (words : List ByteArray) (q : ByteArray) (k n : Int) : List KeyL := if mayQ q k n = true then (allL words q k).take n.toNat else []
theorem allL_len (words : List ByteArray) (s : ByteArray) (k : Int) : (allL words s k).length ≤ words.length := by unfold allL; rw [sortL_len]; exact nearI_len _ _ _
theorem topL_len (words : List ByteArray) (q : ByteArray) (k n : Int) : (topL words q k n).length ≤ words.length := by
  unfold topL
  split
  · rw [List.length_take]; have := allL_len words q k; omega
  · simp
set_option maxRecDepth 100000 in
set_option maxHeartbeats 2000000 in
theorem rmay_any (q : ByteArray) (k n : Int) (w : World) (hs : q.size ≤ maxLen) :
    Calls Try.prog 34 #[.agg #[.string q, .int .i64 k, .int .i64 n]] w fun e w' => e = .returned (.bool (mayQ q k n)) ∧ Below w.heap.size w w' := by
  obtain ⟨R, hR⟩ : ∃ R, mayQ q k n = R := ⟨_, rfl⟩
  rw [hR]
  have HR := Lib.hid hR
  clear hR
  have HA := Lib.hid (fun W => asked_any q W hs)
  have HSA := Lib.hid (show mayQ q k n = (askedB q && decide (0 ≤ k) && decide (k ≤ 4) && decide (1 ≤ n) && decide (n ≤ 10)) from rfl)
  generalize askedB q = x at *
  have HB := Lib.hid ((Below.refl _ w).alloc (Nat.le_refl _) (.cells #[.string q, .int .i64 k, .int .i64 n] 59))
  have HK := Lib.hid (show Blk (w.alloc (.cells #[.string q, .int .i64 k, .int .i64 n] 59)) w.heap.size 59 [.string q, .int .i64 k, .int .i64 n] from heap_alloc_new w _)
  go_enter Try.func34, Try.ntmps34
  go_wp2_with fail
  refine (HA.out _).mono ?_
  rintro e w1 ⟨rfl, hb⟩
  have HB1 := Lib.hid (HB.out.trans (hb.mono HB.out.size))
  have HK1 := Lib.hid (HK.out.below hb (Blk.lt HK.out))
  have c0 : w1.cell? ⟨w.heap.size, 0, none⟩ = some (.string q) := HK1.out.cell 0
  have c1 : w1.cell? ⟨w.heap.size, 1, none⟩ = some (.int .i64 k) := HK1.out.cell 1
  have c2 : w1.cell? ⟨w.heap.size, 2, none⟩ = some (.int .i64 n) := HK1.out.cell 2
  clear hb HB HK HK1
  cases x
  · obtain rfl : R = false := by rw [← HR.out, HSA.out]; rfl
    go_wp2_with fail
    go_ret
    exact ⟨rfl, HB1.out⟩
  · by_cases k1 : 0 ≤ k
    · by_cases k2 : k ≤ 4
      · by_cases k3 : 1 ≤ n
        · by_cases k4 : n ≤ 10
          · obtain rfl : R = true := by rw [← HR.out, HSA.out]; simp [k1, k2, k3, k4]
            go_wp2_with fail
            go_ret
            exact ⟨rfl, HB1.out⟩
          · have d : decide (n ≤ 10) = false := by simpa using k4
            obtain rfl : R = false := by rw [← HR.out, HSA.out, d]; simp
            go_wp2_with fail
            go_ret
            exact ⟨rfl, HB1.out⟩
        · have d : decide (1 ≤ n) = false := by simpa using k3
          obtain rfl : R = false := by rw [← HR.out, HSA.out, d]; simp
          go_wp2_with fail
          go_ret
          exact ⟨rfl, HB1.out⟩
      · have d : decide (k ≤ 4) = false := by simpa using k2
        obtain rfl : R = false := by rw [← HR.out, HSA.out, d]; simp
        go_wp2_with fail
        go_ret
        exact ⟨rfl, HB1.out⟩
    · have d : decide (0 ≤ k) = false := by simpa using k1
      obtain rfl : R = false := by rw [← HR.out, HSA.out, d]; simp
      go_wp2_with fail
      go_ret
      exact ⟨rfl, HB1.out⟩
def AlR (w : World) (words : List ByteArray) (s : ByteArray) (k : Int) (v7 v14 : Value) (wr : World) : Prop := ∃ (i m : Nat) (ao : Option Addr) (c : Nat), i ≤ words.length ∧ m ≤ i ∧ v14 = .int .i64 i ∧ v7 = .slice ao m c ∧ RowKit.Hid ((nearI (words.take i) s k).length = m) ∧ RowKit.Hid (wr.ownsRow w.heap.size 31 2 (.slice ao m c) m ((nearI (words.take i) s k).flatMap KeyL.cells)) ∧ RowKit.Hid (Below w.heap.size w wr)
theorem Src.item1 (w : World) (x : KeyL) : Src Try.prog 2 22 (.slice (some ⟨w.heap.size, 0, none⟩) 1 1) 1 (KeyL.cells x) (w.alloc (.cells #[.int .i64 x.1, .string x.2] 31)) :=
  Src.ofSlice _ Try.underlying22 ⟨w.heap.size, 0, none⟩ 1 1 (KeyL.cells x) rfl (World.news_of_block (heap_alloc_new w _)) (itemOne x)
set_option maxRecDepth 100000 in
set_option maxHeartbeats 4000000 in
theorem rall_any (w : World) (ao : Option Addr) (n c : Nat) (words : List ByteArray) (s : ByteArray) (k : Int) (h : RdT w ao n c words) (hn : words.length ≤ 1000) (hw : ∀ x ∈ words, x.size ≤ 1000) (hs : s.size ≤ 1000) :
    Calls Try.prog 36 #[.slice ao n c, .string s, .int .i64 k] w fun e w' => OwnI w (allL words s k) e w' := by
  obtain ⟨i0, hi, hz0, hz1, hz2⟩ := info_parts infoI2
  have HI := Lib.hid hi
  have HZ0 := Lib.hid hz0
  have HZ1 := Lib.hid hz1
  have HZ2 := Lib.hid hz2
  clear hi hz0 hz1 hz2
  have hl : words.length = n := by have := h.1; simpa using this
  subst hl
  have hcap := h.2.1
  have hcm := h.2.2.1
  unfold maxLen at hcm
  have HR := Lib.hid h
  have HW := Lib.hid hw
  have HNE := Lib.hid (fun x W (hx : x.size ≤ 1000) => near_any s x k W hs hx)
  have HSO := Lib.hid (fun w ao n c l h hn => rsort_any w ao n c l h hn)
  clear h hw
  go_enter Try.func36, Try.ntmps36
  go_wp2_with fail
  go_loopw [7, 14] (fun v7 v14 wr => AlR w words s k v7 v14 wr) (fun _ v _ => words.length - (intOf v).toNat)
  case atStart => exact ⟨0, 0, none, 0, by omega, by omega, rfl, rfl, rfl, World.ownsRow_nil _ _ _ _, Below.refl _ _⟩
  case round =>
    obtain ⟨i, m, a1, c1, hi, hmi, rfl, rfl, HLN, HO, HB⟩ := hrel
    by_cases hlt : i < words.length
    · obtain ⟨x, hx⟩ : ∃ x, words[i]? = some x := ⟨_, List.getElem?_eq_getElem hlt⟩
      have hxs := HW.out x (List.mem_iff_getElem?.2 ⟨i, hx⟩)
      obtain ⟨b, off, rfl, hbl, hc⟩ := (Rd.below HR.out HB.out rfl).2.2.2.2 i hlt
      have cx : wr.cell? ⟨b, off + i, none⟩ = some (.string x) := by rw [hc, List.getElem?_map, hx]; rfl
      have HTK := Lib.hid (show nearI (words.take (i + 1)) s k = nearI (words.take i) s k ++ (if (nearT s x k).2 = true then [((nearT s x k).1, x)] else []) from by rw [List.take_add_one, hx]; exact nearI_snoc _ _ _ _)
      have HXS := Lib.hid hxs
      clear hx hc hxs
      go_wp2_with fail
      refine (HNE.out x wr HXS.out).mono ?_
      rintro e w1 ⟨rfl, hb⟩
      have HB1 := Lib.hid (HB.out.trans (hb.mono HB.out.size))
      have HO1 := Lib.hid (ownsRow_below HO.out hb)
      clear hb HB HO cx
      obtain ⟨⟨d, ok⟩, hdk⟩ : ∃ p, nearT s x k = p := ⟨_, rfl⟩
      rw [hdk] at HTK ⊢
      clear hdk
      cases ok
      · have HTK2 := Lib.hid (show nearI (words.take (i + 1)) s k = nearI (words.take i) s k from by rw [HTK.out]; simp)
        go_wp2_with fail
        go_roundw
        case rel => exact ⟨i + 1, m, a1, c1, by omega, by omega, by go_num, rfl, by rw [HTK2.out]; exact HLN.out, by rw [HTK2.out]; exact HO1.out, HB1.out⟩
        case measure => simp [intOf]; omega
      · have HTK2 := Lib.hid (show nearI (words.take (i + 1)) s k = nearI (words.take i) s k ++ [(d, x)] from by rw [HTK.out]; simp)
        have A1 : m + 1 ≤ maxLen := by unfold maxLen; omega
        have A2 : (m + 1) * 24 ≤ 140737488355328 := by omega
        have HAL := Lib.hid ((Below.refl _ w1).alloc (Nat.le_refl _) (.cells #[.int .i64 d, .string x] 31))
        have HO' := Lib.hid (ownsRow_below HO1.out HAL.out)
        have hz : w.heap.size ≤ (w1.alloc (.cells #[.int .i64 d, .string x] 31)).heap.size := Nat.le_trans HB1.out.size HAL.out.size
        have HBA := Lib.hid (HB1.out.alloc HB1.out.size (.cells #[.int .i64 d, .string x] 31))
        have HSR := Lib.hid (Src.item1 w1 (d, x))
        go_wp2_with (at_builtin; refine wpList_app rfl _ _ 22 22 rfl w.heap.size 31 i0 (.agg #[.int .i64 0, .string ⟨#[]⟩]) 2 24 Try.underlying22 HI.out HZ0.out HZ1.out HZ2.out rfl (by decide) a1 m c1 ((nearI (words.take i) s k).flatMap KeyL.cells) rfl HO'.out _ 1 (KeyL.cells (d, x)) rfl HSR.out A1 A2 hz ?_; intro a3 c3 w5 hown5 hg5; have HO5 := Lib.hid (show w5.ownsRow w.heap.size 31 2 (.slice a3 (m + 1) c3) (m + 1) ((nearI (words.take (i + 1)) s k).flatMap KeyL.cells) from by rw [HTK2.out, List.flatMap_append]; simpa using hown5); have HB5 := Lib.hid (HBA.out.grown hg5 hz (fun b hb => (HO'.out.lt b hb).1)); clear hown5 hg5)
        go_roundw
        case rel => exact ⟨i + 1, m + 1, a3, c3, by omega, by omega, by go_num, rfl, by rw [HTK2.out, List.length_append, HLN.out]; rfl, HO5.out, HB5.out⟩
        case measure => simp [intOf]; omega
    · obtain rfl : i = words.length := by omega
      have hln := HLN.out
      have ho := HO.out
      rw [List.take_length] at hln ho
      have HRD := Lib.hid (ownsRow_rdE (enc := KeyL.cells) (fun _ => rfl) hln ho)
      have hm : m ≤ 1000 := by omega
      clear hln ho
      go_wp2_with fail
      refine (HSO.out wr a1 m c1 (nearI words s k) HRD.out hm).mono ?_
      rintro e w2 ⟨a2, c2, rfl, hown, hb⟩
      have HE := Lib.hid (show OwnI w (allL words s k) (.returned (.slice a2 (sortL (nearI words s k)).length c2)) w2 from ⟨a2, c2, rfl, own0 hown HB.out.size, HB.out.trans (hb.mono HB.out.size)⟩)
      clear hown hb
      go_wp2_with fail
      go_ret
      exact HE.out
end Go.Proofs.Ytjacebnjmhbcbaa
