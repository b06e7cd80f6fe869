/- rank.May, rank.All, rank.Top. -/
import Derived.Test.YtjacebnjmhbcbaaSt8
import Derived.Test.YtjacebnjmhbcbaaBd2
import Derived.Test.YtjacebnjmhbcbaaTexts1
import Derived.Test.YtjacebnjmhbcbaaMs0
import Derived.Test.YtjacebnjmhbcbaaMg14
import Derived.Test.YtjacebnjmhbcbaaMg12
import Derived.Test.YtjacebnjmhbcbaaLow
namespace Go.Proofs.Ytjacebnjmhbcbaa
open Go.RowKit
set_option linter.unusedVariables false

def nearO (s : ByteArray) (k : Int) (w : ByteArray) : Option KeyL := if (nearT s w k).2 = true then some ((nearT s w k).1, w) else none
def nearI (words : List ByteArray) (s : ByteArray) (k : Int) : List KeyL := words.filterMap (nearO s k)
theorem nearI_snoc (words : List ByteArray) (s : ByteArray) (k : Int) (w : ByteArray) : nearI (words ++ [w]) s k = nearI words s k ++ (if (nearT s w k).2 = true then [((nearT s w k).1, w)] else []) := by
  unfold nearI
  rw [List.filterMap_append]
  congr 1
  unfold nearO
  rw [List.filterMap_cons]
  split <;> rename_i h
  · split at h
    · cases h
    · rename_i h2; rw [if_neg h2]; rfl
  · split at h
    · rename_i h2; cases h; rw [if_pos h2]; rfl
    · cases h
theorem nearI_len (words : List ByteArray) (s : ByteArray) (k : Int) : (nearI words s k).length ≤ words.length := List.length_filterMap_le _ _
def allL (words : List ByteArray) (s : ByteArray) (k : Int) : List KeyL := sortL (nearI words s k)
def mayQ (q : ByteArray) (k n : Int) : Bool := askedB q && decide (0 ≤ k) && decide (k ≤ 4) && decide (1 ≤ n) && decide (n ≤ 10)
def topL (words : List ByteArray) (q : ByteArray) (k n : Int) : List KeyL := if mayQ q k n = true then (allL words q k).take n.toNat else []
theorem allL_len (words : List ByteArray) (s : ByteArray) (k : Int) : (allL words s k).length ≤ words.length := by unfold allL; rw [sortL_len]; exact nearI_len _ _ _
theorem topL_len (words : List ByteArray) (q : ByteArray) (k n : Int) : (topL words q k n).length ≤ words.length := by
  unfold topL
  split
  · rw [List.length_take]; have := allL_len words q k; omega
  · simp
set_option maxRecDepth 100000 in
set_option maxHeartbeats 2000000 in
theorem rmay_any (q : ByteArray) (k n : Int) (w : World) (hs : q.size ≤ maxLen) :
    Calls Try.prog 34 #[.agg #[.string q, .int .i64 k, .int .i64 n]] w fun e w' => e = .returned (.bool (mayQ q k n)) ∧ Below w.heap.size w w' := by
  obtain ⟨R, hR⟩ : ∃ R, mayQ q k n = R := ⟨_, rfl⟩
  rw [hR]
  have HR := Lib.hid hR
  clear hR
  have HA := Lib.hid (fun W => asked_any q W hs)
  have HSA := Lib.hid (show mayQ q k n = (askedB q && decide (0 ≤ k) && decide (k ≤ 4) && decide (1 ≤ n) && decide (n ≤ 10)) from rfl)
  generalize askedB q = x at *
  have HB := Lib.hid ((Below.refl _ w).alloc (Nat.le_refl _) (.cells #[.string q, .int .i64 k, .int .i64 n] 59))
  have HK := Lib.hid (show Blk (w.alloc (.cells #[.string q, .int .i64 k, .int .i64 n] 59)) w.heap.size 59 [.string q, .int .i64 k, .int .i64 n] from heap_alloc_new w _)
  go_enter Try.func34, Try.ntmps34
  go_wp2_with fail
  refine (HA.out _).mono ?_
  rintro e w1 ⟨rfl, hb⟩
  have HB1 := Lib.hid (HB.out.trans (hb.mono HB.out.size))
  have HK1 := Lib.hid (HK.out.below hb (Blk.lt HK.out))
  have c0 : w1.cell? ⟨w.heap.size, 0, none⟩ = some (.string q) := HK1.out.cell 0
  have c1 : w1.cell? ⟨w.heap.size, 1, none⟩ = some (.int .i64 k) := HK1.out.cell 1
  have c2 : w1.cell? ⟨w.heap.size, 2, none⟩ = some (.int .i64 n) := HK1.out.cell 2
  clear hb HB HK HK1
  cases x
  · obtain rfl : R = false := by rw [← HR.out, HSA.out]; rfl
    go_wp2_with fail
    go_ret
    exact ⟨rfl, HB1.out⟩
  · by_cases k1 : 0 ≤ k
    · by_cases k2 : k ≤ 4
      · by_cases k3 : 1 ≤ n
        · by_cases k4 : n ≤ 10
          · obtain rfl : R = true := by rw [← HR.out, HSA.out]; simp [k1, k2, k3, k4]
            go_wp2_with fail
            go_ret
            exact ⟨rfl, HB1.out⟩
          · have d : decide (n ≤ 10) = false := by simpa using k4
            obtain rfl : R = false := by rw [← HR.out, HSA.out, d]; simp
            go_wp2_with fail
            go_ret
            exact ⟨rfl, HB1.out⟩
        · have d : decide (1 ≤ n) = false := by simpa using k3
          obtain rfl : R = false := by rw [← HR.out, HSA.out, d]; simp
          go_wp2_with fail
          go_ret
          exact ⟨rfl, HB1.out⟩
      · have d : decide (k ≤ 4) = false := by simpa using k2
        obtain rfl : R = false := by rw [← HR.out, HSA.out, d]; simp
        go_wp2_with fail
        go_ret
        exact ⟨rfl, HB1.out⟩
    · have d : decide (0 ≤ k) = false := by simpa using k1
      obtain rfl : R = false := by rw [← HR.out, HSA.out, d]; simp
      go_wp2_with fail
      go_ret
      exact ⟨rfl, HB1.out⟩
def AlR (w : World) (words : List ByteArray) (s : ByteArray) (k : Int) (v7 v14 : Value) (wr : World) : Prop := ∃ (i m : Nat) (ao : Option Addr) (c : Nat), i ≤ words.length ∧ m ≤ i ∧ v14 = .int .i64 i ∧ v7 = .slice ao m c ∧ RowKit.Hid ((nearI (words.take i) s k).length = m) ∧ RowKit.Hid (wr.ownsRow w.heap.size 31 2 (.slice ao m c) m ((nearI (words.take i) s k).flatMap KeyL.cells)) ∧ RowKit.Hid (Below w.heap.size w wr)
theorem Src.item1 (w : World) (x : KeyL) : Src Try.prog 2 22 (.slice (some ⟨w.heap.size, 0, none⟩) 1 1) 1 (KeyL.cells x) (w.alloc (.cells #[.int .i64 x.1, .string x.2] 31)) :=
  Src.ofSlice _ Try.underlying22 ⟨w.heap.size, 0, none⟩ 1 1 (KeyL.cells x) rfl (World.news_of_block (heap_alloc_new w _)) (itemOne x)
set_option maxRecDepth 100000 in
set_option maxHeartbeats 4000000 in
theorem rall_any (w : World) (ao : Option Addr) (n c : Nat) (words : List ByteArray) (s : ByteArray) (k : Int) (h : RdT w ao n c words) (hn : words.length ≤ 1000) (hw : ∀ x ∈ words, x.size ≤ 1000) (hs : s.size ≤ 1000) :
    Calls Try.prog 36 #[.slice ao n c, .string s, .int .i64 k] w fun e w' => OwnI w (allL words s k) e w' := by
  obtain ⟨i0, hi, hz0, hz1, hz2⟩ := info_parts infoI2
  have HI := Lib.hid hi
  have HZ0 := Lib.hid hz0
  have HZ1 := Lib.hid hz1
  have HZ2 := Lib.hid hz2
  clear hi hz0 hz1 hz2
  have hl : words.length = n := by have := h.1; simpa using this
  subst hl
  have hcap := h.2.1
  have hcm := h.2.2.1
  unfold maxLen at hcm
  have HR := Lib.hid h
  have HW := Lib.hid hw
  have HNE := Lib.hid (fun x W (hx : x.size ≤ 1000) => near_any s x k W hs hx)
  have HSO := Lib.hid (fun w ao n c l h hn => rsort_any w ao n c l h hn)
  clear h hw
  go_enter Try.func36, Try.ntmps36
  go_wp2_with fail
  go_loopw [7, 14] (fun v7 v14 wr => AlR w words s k v7 v14 wr) (fun _ v _ => words.length - (intOf v).toNat)
  case atStart => exact ⟨0, 0, none, 0, by omega, by omega, rfl, rfl, rfl, World.ownsRow_nil _ _ _ _, Below.refl _ _⟩
  case round =>
    obtain ⟨i, m, a1, c1, hi, hmi, rfl, rfl, HLN, HO, HB⟩ := hrel
    by_cases hlt : i < words.length
    · obtain ⟨x, hx⟩ : ∃ x, words[i]? = some x := ⟨_, List.getElem?_eq_getElem hlt⟩
      have hxs := HW.out x (List.mem_iff_getElem?.2 ⟨i, hx⟩)
      obtain ⟨b, off, rfl, hbl, hc⟩ := (Rd.below HR.out HB.out rfl).2.2.2.2 i hlt
      have cx : wr.cell? ⟨b, off + i, none⟩ = some (.string x) := by rw [hc, List.getElem?_map, hx]; rfl
      have HTK := Lib.hid (show nearI (words.take (i + 1)) s k = nearI (words.take i) s k ++ (if (nearT s x k).2 = true then [((nearT s x k).1, x)] else []) from by rw [List.take_add_one, hx]; exact nearI_snoc _ _ _ _)
      have HXS := Lib.hid hxs
      clear hx hc hxs
      go_wp2_with fail
      refine (HNE.out x wr HXS.out).mono ?_
      rintro e w1 ⟨rfl, hb⟩
      have HB1 := Lib.hid (HB.out.trans (hb.mono HB.out.size))
      have HO1 := Lib.hid (ownsRow_below HO.out hb)
      clear hb HB HO cx
      obtain ⟨⟨d, ok⟩, hdk⟩ : ∃ p, nearT s x k = p := ⟨_, rfl⟩
      rw [hdk] at HTK ⊢
      clear hdk
      cases ok
      · have HTK2 := Lib.hid (show nearI (words.take (i + 1)) s k = nearI (words.take i) s k from by rw [HTK.out]; simp)
        go_wp2_with fail
        go_roundw
        case rel => exact ⟨i + 1, m, a1, c1, by omega, by omega, by go_num, rfl, by rw [HTK2.out]; exact HLN.out, by rw [HTK2.out]; exact HO1.out, HB1.out⟩
        case measure => simp [intOf]; omega
      · have HTK2 := Lib.hid (show nearI (words.take (i + 1)) s k = nearI (words.take i) s k ++ [(d, x)] from by rw [HTK.out]; simp)
        have A1 : m + 1 ≤ maxLen := by unfold maxLen; omega
        have A2 : (m + 1) * 24 ≤ 140737488355328 := by omega
        have HAL := Lib.hid ((Below.refl _ w1).alloc (Nat.le_refl _) (.cells #[.int .i64 d, .string x] 31))
        have HO' := Lib.hid (ownsRow_below HO1.out HAL.out)
        have hz : w.heap.size ≤ (w1.alloc (.cells #[.int .i64 d, .string x] 31)).heap.size := Nat.le_trans HB1.out.size HAL.out.size
        have HBA := Lib.hid (HB1.out.alloc HB1.out.size (.cells #[.int .i64 d, .string x] 31))
        have HSR := Lib.hid (Src.item1 w1 (d, x))
        go_wp2_with (at_builtin; refine wpList_app rfl _ _ 22 22 rfl w.heap.size 31 i0 (.agg #[.int .i64 0, .string ⟨#[]⟩]) 2 24 Try.underlying22 HI.out HZ0.out HZ1.out HZ2.out rfl (by decide) a1 m c1 ((nearI (words.take i) s k).flatMap KeyL.cells) rfl HO'.out _ 1 (KeyL.cells (d, x)) rfl HSR.out A1 A2 hz ?_; intro a3 c3 w5 hown5 hg5; have HO5 := Lib.hid (show w5.ownsRow w.heap.size 31 2 (.slice a3 (m + 1) c3) (m + 1) ((nearI (words.take (i + 1)) s k).flatMap KeyL.cells) from by rw [HTK2.out, List.flatMap_append]; simpa using hown5); have HB5 := Lib.hid (HBA.out.grown hg5 hz (fun b hb => (HO'.out.lt b hb).1)); clear hown5 hg5)
        go_roundw
        case rel => exact ⟨i + 1, m + 1, a3, c3, by omega, by omega, by go_num, rfl, by rw [HTK2.out, List.length_append, HLN.out]; rfl, HO5.out, HB5.out⟩
        case measure => simp [intOf]; omega
    · obtain rfl : i = words.length := by omega
      have hln := HLN.out
      have ho := HO.out
      rw [List.take_length] at hln ho
      have HRD := Lib.hid (ownsRow_rdE (enc := KeyL.cells) (fun _ => rfl) hln ho)
      have hm : m ≤ 1000 := by omega
      clear hln ho
      go_wp2_with fail
      refine (HSO.out wr a1 m c1 (nearI words s k) HRD.out hm).mono ?_
      rintro e w2 ⟨a2, c2, rfl, hown, hb⟩
      have HE := Lib.hid (show OwnI w (allL words s k) (.returned (.slice a2 (sortL (nearI words s k)).length c2)) w2 from ⟨a2, c2, rfl, own0 hown HB.out.size, HB.out.trans (hb.mono HB.out.size)⟩)
      clear hown hb
      go_wp2_with fail
      go_ret
      exact HE.out
end Go.Proofs.Ytjacebnjmhbcbaa
/- Plain laws of words in order, and of those that are near (those of Wo and Rk8 that need no walk of the lists' functions). -/
namespace Go.Proofs.Ytjacebnjmhbcbaa
open Go.RowKit
set_option linter.unusedVariables false

theorem tless_trans {a b c : ByteArray} (h : tless a b = true) (k : tless b c = true) : tless a c = true := by
  unfold tless at *
  simp only [decide_eq_true_eq] at *
  exact cb_trans _ _ _ h k
theorem risesT_pw (l : List ByteArray) : risesT l (l.length - 1) = true → l.Pairwise (fun a b => tless a b = true) := by
  rw [List.pairwise_iff_getElem]
  unfold risesT
  rw [List.all_eq_true]
  have hk : ∀ i (h : i < l.length), tAt l i = l[i] := by intro i h; unfold tAt; simp [h]
  intro h
  have step : ∀ d i (hi : i < l.length) (hj : i + d + 1 < l.length), tless l[i] l[i + d + 1] = true := by
    intro d
    induction d with
    | zero =>
      intro i hi hj
      have := h i (by simp; omega)
      rw [hk i hi, hk (i + 1) hj] at this
      exact this
    | succ d ih =>
      intro i hi hj
      refine tless_trans (ih i hi (by omega)) ?_
      have := h (i + d + 1) (by simp; omega)
      rw [hk _ (by omega), hk _ (by omega)] at this
      exact this
  intro i j hi hj hij
  obtain ⟨d, rfl⟩ : ∃ d, j = i + d + 1 := ⟨j - i - 1, by omega⟩
  exact step d i hi hj
theorem goodT_of {l : List ByteArray} (h : goodT l = 0) : l.length ≤ 60 ∧ (∀ x ∈ l, isWord x = true) ∧ l.Pairwise (fun a b => tless a b = true) := by
  unfold goodT at h
  by_cases h5 : 60 < l.length
  · rw [if_pos h5] at h; simp at h
  · rw [if_neg h5] at h
    by_cases hb : (l.any fun s => !isWord s) = true
    · rw [if_pos hb] at h; simp at h
    · rw [if_neg hb] at h
      by_cases hr : risesT l (l.length - 1) = true
      · exact ⟨by omega, by simpa using hb, risesT_pw l hr⟩
      · rw [if_neg hr] at h; simp at h
theorem cb_refl : ∀ l : List UInt8, Lib.compareBytes l l = 0
  | [] => rfl
  | x :: l => by simp [Lib.compareBytes, cb_refl l]
theorem tless_irr (a : ByteArray) : tless a a = false := by
  unfold tless cmpT
  rw [decide_eq_false_iff_not, cb_refl]; omega
def RiseT (l : List ByteArray) : Prop := l.Pairwise (fun a b => tless a b = true)
theorem distT_sym (s t : ByteArray) : distT s t = distT t s := by
  unfold distT
  cases runesO s <;> cases runesO t <;> try rfl
  exact distL_sym _ _
theorem nearI_mem {words : List ByteArray} {s : ByteArray} {k : Int} {x : KeyL} : x ∈ nearI words s k ↔ x.2 ∈ words ∧ x.1 = distT x.2 s ∧ 0 ≤ x.1 ∧ x.1 ≤ k := by
  unfold nearI
  rw [List.mem_filterMap]
  constructor
  · rintro ⟨w, hw, h⟩
    unfold nearO nearT at h
    by_cases hd : 0 ≤ distT s w ∧ distT s w ≤ k
    · simp only [if_pos hd, if_true] at h
      obtain rfl := Option.some.inj h
      exact ⟨hw, distT_sym _ _, hd.1, hd.2⟩
    · simp only [if_neg hd] at h
      cases h
  · rintro ⟨hw, h1, h2, h3⟩
    refine ⟨x.2, hw, ?_⟩
    unfold nearO nearT
    have hh : 0 ≤ x.1 ∧ x.1 ≤ k := ⟨h2, h3⟩
    rw [distT_sym s x.2, ← h1]
    simp only [if_pos hh]
    rfl
theorem allL_mem {words : List ByteArray} {s : ByteArray} {k : Int} {x : KeyL} : x ∈ allL words s k ↔ x.2 ∈ words ∧ x.1 = distT x.2 s ∧ 0 ≤ x.1 ∧ x.1 ≤ k := by unfold allL; rw [sortL_mem]; exact nearI_mem
theorem allL_nodup {words : List ByteArray} (s : ByteArray) (k : Int) (h : RiseT words) : ((allL words s k).map (·.2)).Nodup := by
  have hn : words.Nodup := h.imp (fun {a b} h e => by subst e; rw [tless_irr] at h; cases h)
  have h1 : ((nearI words s k).map (·.2)).Sublist words := by
    unfold nearI
    clear h hn
    induction words with
    | nil => exact List.Sublist.refl _
    | cons w r ih =>
      rw [List.filterMap_cons]
      split
      · exact ih.cons w
      · rename_i y hy
        unfold nearO at hy
        split at hy
        · obtain rfl := Option.some.inj hy
          rw [List.map_cons]
          exact ih.cons_cons w
        · cases hy
  unfold allL
  exact ((sortL_perm _).map _).nodup_iff.2 (hn.sublist h1)
end Go.Proofs.Ytjacebnjmhbcbaa
/- MergeSkips. -/
namespace Go.Proofs.Ytjacebnjmhbcbaa
open Go.RowKit
set_option linter.unusedVariables false

theorem allL_run {words : List ByteArray} (s : ByteArray) (k : Int) (h : RiseT words) : RunI (allL words s k) (allL words s k).length := by
  refine ⟨fun j x _ hx => (allL_mem.1 (List.mem_of_getElem? hx)).2.2.1, fun j x y hj hx hy => ?_⟩
  have hs := sortL_sorted (nearI words s k)
  have hn := allL_nodup s k h
  unfold allL at *
  generalize sortL (nearI words s k) = S at *
  have h1 := List.pairwise_iff_getElem.1 hs j (j + 1) (List.getElem?_eq_some_iff.1 hx).1 (List.getElem?_eq_some_iff.1 hy).1 (by omega)
  rw [(List.getElem?_eq_some_iff.1 hx).2, (List.getElem?_eq_some_iff.1 hy).2] at h1
  cases h2 : kless x y
  · exfalso
    have e : x = y := kless_tri h2 h1
    subst e
    have := (List.pairwise_iff_getElem.1 hn) j (j + 1) (by simpa using (List.getElem?_eq_some_iff.1 hx).1) (by simpa using (List.getElem?_eq_some_iff.1 hy).1) (by omega)
    simp only [List.getElem_map, (List.getElem?_eq_some_iff.1 hx).2, (List.getElem?_eq_some_iff.1 hy).2] at this
    exact this rfl
  · rfl
theorem RunI.take {l : List KeyL} (h : RunI l l.length) (n : Nat) : RunI (l.take n) (l.take n).length := by
  have key : ∀ (j : Nat) (x : KeyL), (l.take n)[j]? = some x → l[j]? = some x := by
    intro j x hx
    rw [List.getElem?_take] at hx
    split at hx
    · exact hx
    · cases hx
  refine ⟨fun j x hj hx => ?_, fun j x y hj hx hy => ?_⟩
  · exact h.1 j x (List.getElem?_eq_some_iff.1 (key j x hx)).1 (key j x hx)
  · exact h.2 j x y (List.getElem?_eq_some_iff.1 (key _ y hy)).1 (key j x hx) (key _ y hy)
theorem low_six {x : Int} {n : Nat} (h : 0 < n) : ∃ j : Nat, lowI x (n : Int) = (j : Int) ∧ j < n := by
  have := lowI_bd x (n : Int) (by omega)
  exact ⟨(lowI x (n : Int)).toNat, by omega, by omega⟩
theorem one_news (w : World) (x : Int) : ∀ j u, [Value.int .i64 x][j]? = some u → (w.alloc (.cells #[.int .i64 x] 3)).cell? ((⟨w.heap.size, 0, none⟩ : Addr).add j) = some u := World.news_of_block (heap_alloc_new w _)
/-- the two lists, apart from one another -/
def Sk1R (V : World) (bs : Int) (n : Nat) (v9 v10 v11 : Value) (wr : World) : Prop := ∃ (i : Nat) (a9 : Option Addr) (c9 : Nat) (a10 : Option Addr) (q c10 : Nat), i ≤ n ∧ v11 = .int .i64 i ∧ v9 = .slice a9 i c9 ∧ v10 = .slice a10 q c10 ∧ q ≤ i ∧ RowKit.Hid ((wantL bs i).length = q) ∧ RowKit.Hid (wr.ownsRow V.heap.size 3 1 (.slice a9 i c9) i ((leastL bs i).map (Value.int .i64))) ∧ RowKit.Hid (wr.ownsRow V.heap.size 3 1 (.slice a10 q c10) q ((wantL bs i).map (Value.int .i64))) ∧ RowKit.Hid (∀ b, (Value.slice a9 i c9).ownBlock = some b → (Value.slice a10 q c10).ownBlock ≠ some b) ∧ RowKit.Hid (Below V.heap.size V wr)
/-- what is handed in: nothing, once it was handed in -/
def Sk2R (W0 : World) (bs m : Int) (A : List KeyL) (n : Nat) (v14 v15 : Value) (wr : World) : Prop := ∃ (i : Nat) (a : Option Addr) (k c : Nat), i ≤ n ∧ v15 = .int .i64 i ∧ v14 = .slice a k c ∧ RowKit.Hid (RdE KeyL.cells 2 wr a k c (if used bs i = true then [] else A)) ∧ RowKit.Hid (OwnM W0 wr W0.heap.size m (skS bs A n i) [])
set_option maxRecDepth 100000 in
set_option maxHeartbeats 32000000 in
theorem skips_law (w : World) (many bs : Int) (ao : Option Addr) (na ca : Nat) (la : List ByteArray) (q : ByteArray) (k m : Int) (ha : RdT w ao na ca la) (hwa : ∀ s ∈ la, s.size ≤ maxLen) (hq : q.size ≤ maxLen) :
    Calls Try.prog 7 #[.int .i64 many, .int .i64 bs, .slice ao na ca, .agg #[.string q, .int .i64 k, .int .i64 m]] w fun e w' => e = .returned (.bool true) ∧ Below w.heap.size w w' := by
  have hna := ha.len
  subst hna
  obtain ⟨j0, hinf, hz0, hz1, hz2⟩ := info_parts info_int
  have HJ0 := Lib.hid hinf
  have HY0 := Lib.hid hz0
  have HY1 := Lib.hid hz1
  have HY2 := Lib.hid hz2
  clear hinf hz0 hz1 hz2
  have HB := Lib.hid ((Below.refl _ w).alloc (Nat.le_refl _) (.cells #[.string q, .int .i64 k, .int .i64 m] 59))
  have HK := Lib.hid (show Blk (w.alloc (.cells #[.string q, .int .i64 k, .int .i64 m] 59)) w.heap.size 59 [.string q, .int .i64 k, .int .i64 m] from heap_alloc_new w _)
  obtain ⟨W, hW⟩ : ∃ W, w.alloc (.cells #[.string q, .int .i64 k, .int .i64 m] 59) = W := ⟨_, rfl⟩
  rw [hW] at HB HK
  have hcapA := ha.2.1
  have hcmA := ha.2.2.1
  unfold maxLen at hcmA
  have HGA := Lib.hid (fun V h => greatT_any ao la.length ca la V h hwa)
  have HOA := Lib.hid (fun V h => lgood_any ao la.length ca la V h hwa)
  have HMA := Lib.hid (fun V => rmay_any q k m V hq)
  have HZ : RowKit.Hid (∀ V, Calls Try.prog 10 #[] V fun e w' => e = .returned (.bool true) ∧ Below V.heap.size V w') := fun V => awake_any V
  have HA := Lib.hid (RdT.below ha HB.out rfl)
  clear ha hwa
  unfold maxLen at hq
  have t0 : W.cell? ⟨w.heap.size, 0, none⟩ = some (.string q) := HK.out.cell 0
  have t1 : W.cell? ⟨w.heap.size, 1, none⟩ = some (.int .i64 k) := HK.out.cell 1
  have t2 : W.cell? ⟨w.heap.size, 2, none⟩ = some (.int .i64 m) := HK.out.cell 2
  go_enter Try.func7, Try.ntmps7
  go_wp2_with (rw [hW])
  clear hW
  refine (HGA.out _ HA.out).mono ?_
  rintro e w1 ⟨rfl, rfl⟩
  cases hg : greatT la
  case true =>
    clear hg
    go_wp2_with fail
    refine (HZ.out _).mono ?_
    rintro e w1 ⟨rfl, hb⟩
    have HB3 := Lib.hid (HB.out.trans (hb.mono HB.out.size))
    clear hb
    go_wp2_with fail
    go_ret
    exact ⟨rfl, HB3.out⟩
  have hla := (greatT_false hg).1
  have HWA := Lib.hid (fun s hs => Nat.le_trans ((greatT_false hg).2 s hs) (by decide : 100 ≤ 1000))
  clear hg HGA
  by_cases hqs : 100 < q.size
  · have d1 : decide ((100 : Int) < (q.size : Int)) = true := by simp; omega
    have d2 : decide (100 < q.size) = true := by simpa using hqs
    go_wp2_with fail
    refine (HZ.out _).mono ?_
    rintro e w1 ⟨rfl, hb⟩
    have HB3 := Lib.hid (HB.out.trans (hb.mono HB.out.size))
    clear hb
    go_wp2_with fail
    go_ret
    exact ⟨rfl, HB3.out⟩
  have d1 : decide ((100 : Int) < (q.size : Int)) = false := by simp; omega
  have d2 : decide (100 < q.size) = false := by simpa using hqs
  have hq1 : q.size ≤ 1000 := by omega
  cases hm : mayQ q k m
  case false =>
    rw [hm] at HMA
    clear hm
    go_wp2_with fail
    refine (HMA.out _).mono ?_
    rintro e V3 ⟨rfl, hb⟩
    clear t0 t1 t2
    have ZZ := Lib.hid (HB.out.trans ((hb).mono HB.out.size))
    clear HB
    have HB := ZZ
    clear ZZ
    have ZZ := Lib.hid (HK.out.below hb HK.out.lt)
    clear HK
    have HK := ZZ
    clear ZZ
    have ZZ := Lib.hid (RdT.below HA.out hb rfl)
    clear HA
    have HA := ZZ
    clear ZZ
    clear hb
    go_wp2_with fail
    refine (HZ.out _).mono ?_
    rintro e w1 ⟨rfl, hb⟩
    have HB3 := Lib.hid (HB.out.trans (hb.mono HB.out.size))
    clear hb
    go_wp2_with fail
    go_ret
    exact ⟨rfl, HB3.out⟩
  have hm4 : (0 : Int) ≤ k ∧ k ≤ 4 ∧ 1 ≤ m ∧ m ≤ 10 := by
    unfold mayQ at hm
    simp only [Bool.and_eq_true, decide_eq_true_eq] at hm
    obtain ⟨⟨⟨⟨_, a⟩, b⟩, c⟩, d⟩ := hm
    exact ⟨a, b, c, d⟩
  rw [hm] at HMA
  clear hm
  go_wp2_with fail
  refine (HMA.out _).mono ?_
  rintro e V3 ⟨rfl, hb⟩
  clear t0 t1 t2
  have ZZ := Lib.hid (HB.out.trans ((hb).mono HB.out.size))
  clear HB
  have HB := ZZ
  clear ZZ
  have ZZ := Lib.hid (HK.out.below hb HK.out.lt)
  clear HK
  have HK := ZZ
  clear ZZ
  have ZZ := Lib.hid (RdT.below HA.out hb rfl)
  clear HA
  have HA := ZZ
  clear ZZ
  clear hb HMA
  obtain ⟨ga, hga⟩ : ∃ g, goodT la = g := ⟨_, rfl⟩
  have HGV := Lib.hid hga
  rw [hga] at HOA
  clear hga
  go_wp2_with fail
  refine (HOA.out _ HA.out).mono ?_
  rintro e V4 ⟨rfl, hb⟩
  clear HOA
  have ZZ := Lib.hid (HB.out.trans ((hb).mono HB.out.size))
  clear HB
  have HB := ZZ
  clear ZZ
  have ZZ := Lib.hid (HK.out.below hb HK.out.lt)
  clear HK
  have HK := ZZ
  clear ZZ
  have ZZ := Lib.hid (RdT.below HA.out hb rfl)
  clear HA
  have HA := ZZ
  clear ZZ
  clear hb
  by_cases h0 : ga = 0
  rotate_left
  · have d3 : (ga != 0) = true := by simpa using h0
    clear h0 HGV
    go_wp2_with fail
    refine (HZ.out _).mono ?_
    rintro e w1 ⟨rfl, hb⟩
    have HB3 := Lib.hid (HB.out.trans (hb.mono HB.out.size))
    clear hb
    go_wp2_with fail
    go_ret
    exact ⟨rfl, HB3.out⟩
  subst h0
  have RS := Lib.hid (show RiseT la from (goodT_of HGV.out).2.2)
  clear HGV d1 d2 hqs
  obtain ⟨hk0, hk4, hm1, hm10⟩ := hm4
  obtain ⟨j, hj, hjl⟩ := @low_six many 6 (by omega)
  have HL1 := Lib.hid (fun V => low_any many 6 V (by omega) (by omega))
  rw [show (6 : Int) = ((6 : Nat) : Int) from rfl, hj] at HL1
  clear hj
  obtain ⟨n, hn1⟩ : ∃ n, j + 1 = n := ⟨_, rfl⟩
  have g1 : (1 : Int) + (j : Int) = (n : Int) := by omega
  have na : 1 ≤ n := by omega
  have nb : n ≤ 6 := by omega
  go_wp2_with fail
  refine (HL1.out _).mono ?_
  rintro e w1 ⟨rfl, rfl⟩
  clear HL1
  go_upto_region 4 with fail
  try rw [g1]
  clear g1 hn1 hjl
  have HBZ := Lib.hid (Below.refl V4.heap.size V4)
  go_wp2_with fail
  go_loopw [9, 10, 11] (fun v9 v10 v11 wr => Sk1R V4 bs n v9 v10 v11 wr) (fun _ _ v _ => n - (intOf v).toNat)
  case atStart => exact ⟨0, none, 0, none, 0, 0, by omega, rfl, rfl, rfl, by omega, rfl, World.ownsRow_nil _ _ _ _, World.ownsRow_nil _ _ _ _, (fun _ h => by cases h), HBZ.out⟩
  case round =>
    clear HBZ
    obtain ⟨i, a9, c9, a10, qn, c10, hi, rfl, rfl, rfl, hqi, HQL, HO9, HO10, HAP, HBL⟩ := hrel
    by_cases hlt : i < n
    · have k1 : (0 : Int) ≤ (i : Int) := by omega
      have k2 : (i : Int) < (n : Int) := by omega
      have HLS := Lib.hid (leastL_succ bs i)
      have HWS := Lib.hid (wantL_succ bs i)
      have hz := HBL.out.size
      have HO9A := Lib.hid (fun x : Int => ownsRow_below HO9.out ((Below.refl _ wr).alloc (Nat.le_refl _) (.cells #[.int .i64 x] 3)))
      have HO10A := Lib.hid (fun x : Int => ownsRow_below HO10.out ((Below.refl _ wr).alloc (Nat.le_refl _) (.cells #[.int .i64 x] 3)))
      have HBA := Lib.hid (fun x : Int => HBL.out.alloc HBL.out.size (.cells #[.int .i64 x] 3))
      have HNW := Lib.hid (one_news wr)
      have A1 : i + 1 ≤ maxLen := by unfold maxLen; omega
      have A2 : (i + 1) * 8 ≤ 140737488355328 := by omega
      have A3 : V4.heap.size ≤ (wr.alloc (.cells #[.int .i64 0] 3)).heap.size := (HBA.out 0).size
      have A4 : V4.heap.size ≤ (wr.alloc (.cells #[.int .i64 (-1 - (i : Int))] 3)).heap.size := (HBA.out _).size
      cases hbit : bitB bs i
      · have hb1 : (Go.bits BinOp.and IntKind.i64 (bs / 2 ^ i) 1 == 1) = false := hbit
        rw [hbit] at HLS HWS
        clear hbit
        have HLS2 := Lib.hid (show leastL bs (i + 1) = leastL bs i ++ [(-1 - (i : Int))] from by rw [HLS.out]; rfl)
        go_wp2_with (at_builtin; refine wpList_append_lies _ rfl _ _ 29 rfl V4.heap.size 3 j0 (.int .i64 0) 1 8 Try.underlying29 HJ0.out HY0.out HY1.out HY2.out rfl (by decide) (.slice a9 i c9) i ((leastL bs i).map (Value.int .i64)) rfl (HO9A.out (-1 - (i : Int))) ⟨wr.heap.size, 0, none⟩ 1 1 [.int .i64 (-1 - (i : Int))] rfl rfl (HNW.out (-1 - (i : Int))) (by simp [Value.oneCell']) (by decide) A1 A2 A4 (wr.heap.size + 1) (by simp) ?_; intro g9 d9 w6 hown hgr hat hlt9; have HO9N := Lib.hid hown; have HF := Lib.hid (Frm.grown (S := fun b => (Value.slice a9 i c9).ownBlock = some b) hgr (fun b hb => hb)); have HAT := Lib.hid hat; clear hown hgr hat)
        have HO10N := Lib.hid (ownsRow_frm (HO10A.out (-1 - (i : Int))) HF.out (fun b hb hs => HAP.out b hs hb))
        have HAPN := Lib.hid (show ∀ b, (Value.slice (some ⟨g9, 0, none⟩) (i + 1) d9).ownBlock = some b → (Value.slice a10 qn c10).ownBlock ≠ some b from fun b hb h10 => by
          have e : g9 = b := by simpa [Value.ownBlock] using hb
          rcases HAT.out with h | h
          · exact HAP.out b (by rw [h, e]) h10
          · have := (HO10.out.lt b h10).2; omega)
        have HBN := Lib.hid ((HBA.out (-1 - (i : Int))).trans (HF.out.toBelow (by have := (HBA.out (-1 - (i : Int))).size; omega) (fun b hb e => by have := (HO9.out.lt b e).1; omega)))
        have HO9M := Lib.hid (show w6.ownsRow V4.heap.size 3 1 (.slice (some ⟨g9, 0, none⟩) (i + 1) d9) (i + 1) ((leastL bs (i + 1)).map (Value.int .i64)) from by rw [HLS2.out, List.map_append]; exact HO9N.out)
        have HWS2 := Lib.hid (show wantL bs (i + 1) = wantL bs i from by rw [HWS.out]; simp)
        go_roundw
        case rel => exact ⟨i + 1, _, _, a10, qn, c10, by omega, by go_num, rfl, rfl, by omega, (by rw [HWS2.out]; exact HQL.out), HO9M.out, (by rw [HWS2.out]; exact HO10N.out), HAPN.out, HBN.out⟩
        case measure => simp [intOf]; omega
      · have hb1 : (Go.bits BinOp.and IntKind.i64 (bs / 2 ^ i) 1 == 1) = true := hbit
        rw [hbit] at HLS HWS
        clear hbit
        have HLS2 := Lib.hid (show leastL bs (i + 1) = leastL bs i ++ [0] from by rw [HLS.out]; rfl)
        go_upto_region 10 with (at_builtin; refine wpList_append_lies _ rfl _ _ 29 rfl V4.heap.size 3 j0 (.int .i64 0) 1 8 Try.underlying29 HJ0.out HY0.out HY1.out HY2.out rfl (by decide) (.slice a9 i c9) i ((leastL bs i).map (Value.int .i64)) rfl (HO9A.out 0) ⟨wr.heap.size, 0, none⟩ 1 1 [.int .i64 0] rfl rfl (HNW.out 0) (by simp [Value.oneCell']) (by decide) A1 A2 A3 (wr.heap.size + 1) (by simp) ?_; intro g9 d9 w6 hown hgr hat hlt9; have HO9N := Lib.hid hown; have HF := Lib.hid (Frm.grown (S := fun b => (Value.slice a9 i c9).ownBlock = some b) hgr (fun b hb => hb)); have HAT := Lib.hid hat; clear hown hgr hat)
        have HO10N := Lib.hid (ownsRow_frm (HO10A.out 0) HF.out (fun b hb hs => HAP.out b hs hb))
        have HAPN := Lib.hid (show ∀ b, (Value.slice (some ⟨g9, 0, none⟩) (i + 1) d9).ownBlock = some b → (Value.slice a10 qn c10).ownBlock ≠ some b from fun b hb h10 => by
          have e : g9 = b := by simpa [Value.ownBlock] using hb
          rcases HAT.out with h | h
          · exact HAP.out b (by rw [h, e]) h10
          · have := (HO10.out.lt b h10).2; omega)
        have HBN := Lib.hid ((HBA.out 0).trans (HF.out.toBelow (by have := (HBA.out 0).size; omega) (fun b hb e => by have := (HO9.out.lt b e).1; omega)))
        have HO9M := Lib.hid (show w6.ownsRow V4.heap.size 3 1 (.slice (some ⟨g9, 0, none⟩) (i + 1) d9) (i + 1) ((leastL bs (i + 1)).map (Value.int .i64)) from by rw [HLS2.out, List.map_append]; exact HO9N.out)
        have HWS2 := Lib.hid (show wantL bs (i + 1) = wantL bs i ++ [(i : Int)] from by rw [HWS.out]; simp)
        clear HO9N HO9 HO10 HBL HO9A HO10A HBA HNW A3 A4 HAP HAT HF HLS HWS
        have HO10A := Lib.hid (ownsRow_below HO10N.out ((Below.refl _ w6).alloc (Nat.le_refl _) (.cells #[.int .i64 i] 3)))
        have HO9A := Lib.hid (ownsRow_below HO9M.out ((Below.refl _ w6).alloc (Nat.le_refl _) (.cells #[.int .i64 i] 3)))
        have HBA := Lib.hid (HBN.out.alloc HBN.out.size (.cells #[.int .i64 i] 3))
        have HNW := Lib.hid (one_news w6 i)
        have B1 : qn + 1 ≤ maxLen := by unfold maxLen; omega
        have B2 : (qn + 1) * 8 ≤ 140737488355328 := by omega
        have B3 : V4.heap.size ≤ (w6.alloc (.cells #[.int .i64 i] 3)).heap.size := HBA.out.size
        go_wp2_with (at_builtin; refine wpList_append_lies _ rfl _ _ 29 rfl V4.heap.size 3 j0 (.int .i64 0) 1 8 Try.underlying29 HJ0.out HY0.out HY1.out HY2.out rfl (by decide) (.slice a10 qn c10) qn ((wantL bs i).map (Value.int .i64)) rfl (HO10A.out) ⟨w6.heap.size, 0, none⟩ 1 1 [.int .i64 i] rfl rfl (HNW.out) (by simp [Value.oneCell']) (by decide) B1 B2 B3 (w6.heap.size + 1) (by simp) ?_; intro g10 d10 w7 hown hgr hat hlt9; have HO10M := Lib.hid hown; have HF := Lib.hid (Frm.grown (S := fun b => (Value.slice a10 qn c10).ownBlock = some b) hgr (fun b hb => hb)); have HAT := Lib.hid hat; clear hown hgr hat)
        have HO9X := Lib.hid (ownsRow_frm HO9A.out HF.out (fun b hb hs => HAPN.out b hb hs))
        have HAPX := Lib.hid (show ∀ b, (Value.slice (some ⟨g9, 0, none⟩) (i + 1) d9).ownBlock = some b → (Value.slice (some ⟨g10, 0, none⟩) (qn + 1) d10).ownBlock ≠ some b from fun b hb h10 => by
          have e : g10 = b := by simpa [Value.ownBlock] using h10
          rcases HAT.out with h | h
          · exact HAPN.out b hb (by rw [h, e])
          · have := (HO9M.out.lt b hb).2; omega)
        have HBX := Lib.hid (HBA.out.trans (HF.out.toBelow (by have := HBA.out.size; omega) (fun b hb e => by have := (HO10N.out.lt b e).1; omega)))
        have hql : RowKit.Hid ((wantL bs (i + 1)).length = qn + 1) := by unfold RowKit.Hid; rw [HWS2.out, List.length_append, HQL.out]; rfl
        go_roundw
        case rel => exact ⟨i + 1, _, _, _, qn + 1, _, by omega, by go_num, rfl, rfl, by omega, hql, HO9X.out, (by rw [HWS2.out, List.map_append]; exact HO10M.out), HAPX.out, HBX.out⟩
        case measure => simp [intOf]; omega
    · obtain rfl : i = n := by omega
      have hq0 := HQL.out
      subst hq0
      have HR9 := Lib.hid (show Rd wr a9 i c9 (ints (leastL bs i)) from ownI HO9.out)
      have HR10 := Lib.hid (show Rd wr a10 (wantL bs i).length c10 (ints (wantL bs i)) from ownI HO10.out)
      have hwl := wantL_len bs i
      have ZZ := Lib.hid (HB.out.trans ((HBL.out).mono HB.out.size))
      clear HB
      have HB := ZZ
      clear ZZ
      have ZZ := Lib.hid (HK.out.below HBL.out HK.out.lt)
      clear HK
      have HK := ZZ
      clear ZZ
      have ZZ := Lib.hid (RdT.below HA.out HBL.out rfl)
      clear HA
      have HA := ZZ
      clear ZZ
      clear HBL HO9 HO10 HAP HQL hi hlt hqi
      obtain ⟨B0, hB0⟩ : ∃ V, V = wr := ⟨_, rfl⟩
      subst hB0
      have t0 : B0.cell? ⟨w.heap.size, 0, none⟩ = some (.string q) := HK.out.cell 0
      have t1 : B0.cell? ⟨w.heap.size, 1, none⟩ = some (.int .i64 k) := HK.out.cell 1
      have t2 : B0.cell? ⟨w.heap.size, 2, none⟩ = some (.int .i64 m) := HK.out.cell 2
      have HBS := Lib.hid HB.out
      obtain ⟨A, hA⟩ : ∃ A, (allL la q k).take 5 = A := ⟨_, rfl⟩
      have hRA : RunI A A.length := by rw [← hA]; exact RunI.take (allL_run q k RS.out) 5
      have hA5 : A.length ≤ 5 := by rw [← hA, List.length_take]; omega
      have HAT := Lib.hid hA
      clear hA
      have AL := Lib.hid (fun V h => rall_any V ao la.length ca la q k h (by omega) HWA.out hq1)
      have hal := allL_len la q k
      generalize allL la q k = all at *
      go_wp2_with fail
      refine (mnew_any a9 i c9 (leastL bs i) m B0 HR9.out na nb hm1 hm10).mono ?_
      rintro e V5 ⟨rfl, hMG, hb⟩
      clear t0 t1 t2
      have HM := Lib.hid (show OwnM B0 V5 B0.heap.size m (skS bs A i 0) [] from ⟨by rw [← skS_zero]; exact hMG, hb⟩)
      have ZZ := Lib.hid (HB.out.trans ((hb).mono HB.out.size))
      clear HB
      have HB := ZZ
      clear ZZ
      have ZZ := Lib.hid (HK.out.below hb HK.out.lt)
      clear HK
      have HK := ZZ
      clear ZZ
      have ZZ := Lib.hid (RdT.below HA.out hb rfl)
      clear HA
      have HA := ZZ
      clear ZZ
      have HR10' := Lib.hid (Rd.below HR10.out hb rfl)
      clear hMG hb HR9 HR10
      have HW0 := Lib.hid (fun V (h : OwnM B0 V B0.heap.size m (skS bs A i 0) []) => h.2)
      go_wp2_with fail
      refine (m_wants HM.out (sk_wants hm1)).mono ?_
      rintro e V6 ⟨aw, cw, rfl, hown, hM, hb⟩
      have HM1 := Lib.hid hM
      have HRW := Lib.hid (ownI hown)
      have HR10 := Lib.hid (Rd.below HR10'.out hb rfl)
      have ZZ := Lib.hid (HB.out.trans ((hb).mono HB.out.size))
      clear HB
      have HB := ZZ
      clear ZZ
      have ZZ := Lib.hid (HK.out.below hb HK.out.lt)
      clear HK
      have HK := ZZ
      clear ZZ
      have ZZ := Lib.hid (RdT.below HA.out hb rfl)
      clear HA
      have HA := ZZ
      clear ZZ
      clear hown hM hb HM HR10'
      go_wp2_with fail
      refine (same_any aw a10 (wantL bs i).length (wantL bs i).length cw c10 (wantL bs i) (wantL bs i) V6 HRW.out HR10.out (by omega) (by omega)).mono ?_
      rintro e V7 ⟨rfl, hd⟩
      rw [show sameB (wantL bs i) (wantL bs i) = true from by unfold sameB; exact decide_eq_true rfl]
      have HM2 := Lib.hid (HM1.out.below (hd.below _))
      have ZZ := Lib.hid (HB.out.trans (((hd.below _)).mono HB.out.size))
      clear HB
      have HB := ZZ
      clear ZZ
      have ZZ := Lib.hid (HK.out.below (hd.below _) HK.out.lt)
      clear HK
      have HK := ZZ
      clear ZZ
      have ZZ := Lib.hid (RdT.below HA.out (hd.below _) rfl)
      clear HA
      have HA := ZZ
      clear ZZ
      clear hd HRW HM1 HW0
      have e1 : (((wantL bs i).length : Int) == 0) = decide ((wantL bs i).length = 0) := by rw [Bool.eq_iff_iff]; simp
      obtain ⟨dz, hdz⟩ : ∃ d, decide ((wantL bs i).length = 0) = d := ⟨_, rfl⟩
      have HSD := Lib.hid (sk_done (bs := bs) (A := A) (n := i) hm1)
      rw [hdz] at e1 HSD
      have e2 : (dz != dz) = false := by simp
      clear hdz
      go_wp2_with fail
      refine (m_done HM2.out HSD.out).mono ?_
      rintro e V8 ⟨rfl, hM, hb⟩
      have HM3 := Lib.hid hM
      have ZZ := Lib.hid (HB.out.trans ((hb).mono HB.out.size))
      clear HB
      have HB := ZZ
      clear ZZ
      have ZZ := Lib.hid (HK.out.below hb HK.out.lt)
      clear HK
      have HK := ZZ
      clear ZZ
      have ZZ := Lib.hid (RdT.below HA.out hb rfl)
      clear HA
      have HA := ZZ
      clear ZZ
      clear hM hb HM2 HSD
      have t0 : V8.cell? ⟨w.heap.size, 0, none⟩ = some (.string q) := HK.out.cell 0
      have t1 : V8.cell? ⟨w.heap.size, 1, none⟩ = some (.int .i64 k) := HK.out.cell 1
      have t2 : V8.cell? ⟨w.heap.size, 2, none⟩ = some (.int .i64 m) := HK.out.cell 2
      go_wp2_with fail
      refine (AL.out _ HA.out).mono ?_
      rintro e V9 ⟨a14, c14, rfl, hown, hb⟩
      clear t0 t1 t2 AL e1 e2
      have HX := Lib.hid (ownsRow_rdE (enc := KeyL.cells) (fun _ => rfl) rfl hown)
      have HM4 := Lib.hid (HM3.out.below hb)
      have ZZ := Lib.hid (HB.out.trans ((hb).mono HB.out.size))
      clear HB
      have HB := ZZ
      clear ZZ
      have ZZ := Lib.hid (HK.out.below hb HK.out.lt)
      clear HK
      have HK := ZZ
      clear ZZ
      have ZZ := Lib.hid (RdT.below HA.out hb rfl)
      clear HA
      have HA := ZZ
      clear ZZ
      clear hown hb HM3
      obtain ⟨k5, hk5⟩ : ∃ x, min all.length 5 = x := ⟨_, rfl⟩
      have hmin1 : (if (5 : Int) < (all.length : Int) then (5 : Int) else (all.length : Int)) = (k5 : Int) := by split <;> omega
      have hmin2 : (if 5 < all.length then (5 : Int) else (all.length : Int)) = (k5 : Int) := by split <;> omega
      have x1 := HX.out.2.1
      have x2 := HX.out.2.2.1
      unfold maxLen at x2
      have x3 : (0 : Int) ≤ (k5 : Int) := by omega
      have x4 : (k5 : Int) ≤ (c14 : Int) := by omega
      have x5 : k5 ≤ c14 := by omega
      have HXT := Lib.hid (show RdE KeyL.cells 2 V9 a14 k5 c14 (if used bs 0 = true then [] else A) from by
        have h := HX.out.take k5 (by omega)
        have e : all.take k5 = A := by rw [← HAT.out, List.take_eq_take_iff]; omega
        rw [e] at h
        exact h)
      clear HX HAT HR10
      have HBW := Lib.hid (HM4.out.2.size)
      go_wp2_with fail
      clear hmin1 hmin2
      go_loopw [14, 15] (fun v14 v15 wz => Sk2R B0 bs m A i v14 v15 wz) (fun _ v _ => i - (intOf v).toNat)
      case atStart => exact ⟨0, a14, k5, c14, by omega, rfl, rfl, HXT.out, HM4.out⟩
      case round =>
        clear HM4 HXT
        obtain ⟨i2, ax, kx, cx, hi2, rfl, rfl, HRX, HM⟩ := hrel
        by_cases hlt2 : i2 < i
        · have k1 : (0 : Int) ≤ (i2 : Int) := by omega
          have HPU := Lib.hid (sk_put (bs := bs) (A := A) (n := i) (i := i2) (m := m) hm1 hlt2 hA5 hRA)
          have HUS := Lib.hid (used_succ bs i2)
          have HGB : RowKit.Hid (Below wr.heap.size wr wr.drew) := below_drewN (Below.refl _ _) 1
          cases hbit : bitB bs i2
          · have hb1 : (Go.bits BinOp.and IntKind.i64 (bs / 2 ^ i2) 1 == 1) = false := hbit
            rw [hbit] at HPU HUS
            clear hbit
            go_upto_region 20 with fail
            go_region_held3 (fun _ => True) (trivial) (first | (go_at_call 13; refine (m_put (HM.out.below HGB.out) (HRX.out.below HGB.out rfl) sk_seq HPU.out).mono ?_; rintro e u20 ⟨rfl, hM2, hbb⟩; have HM2 := Lib.hid hM2; have HBB := Lib.hid hbb; clear hM2 hbb))
            rename_i hHeld
            clear hHeld
            have HU := Lib.hid (show used bs (i2 + 1) = used bs i2 from by rw [HUS.out]; simp)
            have HRN := Lib.hid ((HRX.out.below HGB.out rfl).below (HBB.out (by simp)) rfl)
            go_wp2_with fail
            go_roundw
            case rel => exact ⟨i2 + 1, ax, kx, cx, by omega, by go_num, rfl, (by rw [HU.out]; exact HRN.out), HM2.out⟩
            case measure => simp [intOf]; omega
          · have hb1 : (Go.bits BinOp.and IntKind.i64 (bs / 2 ^ i2) 1 == 1) = true := hbit
            rw [hbit] at HPU HUS
            clear hbit
            go_upto_region 20 with fail
            go_region_held3 (fun _ => True) (trivial) (first | (go_at_call 13; refine (m_put (HM.out.below HGB.out) (HRX.out.below HGB.out rfl) sk_seq HPU.out).mono ?_; rintro e u20 ⟨rfl, hM2, hbb⟩; have HM2 := Lib.hid hM2; have HBB := Lib.hid hbb; clear hM2 hbb))
            rename_i hHeld
            clear hHeld
            have hu : used bs (i2 + 1) = true := by rw [HUS.out]; simp
            go_wp2_with fail
            go_roundw
            case rel => exact ⟨i2 + 1, none, 0, 0, by omega, by go_num, rfl, (by unfold RowKit.Hid; rw [hu]; exact ⟨rfl, Nat.le_refl _, by unfold maxLen; omega, fun _ => rfl, fun i x hx => by simp at hx⟩), HM2.out⟩
            case measure => simp [intOf]; omega
        · obtain rfl : i2 = i := by omega
          clear HRX
          have HSK := Lib.hid (sk_tell (bs := bs) (A := A) (n := i2) (m := m) hm1)
          obtain ⟨S2, hS2⟩ : ∃ S, (tellP m (skS bs A i2 i2) []).2.1 = S := ⟨_, rfl⟩
          obtain ⟨T2, hT2⟩ : ∃ T, (tellP m (skS bs A i2 i2) []).2.2 = T := ⟨_, rfl⟩
          obtain ⟨l2, hl2⟩ : ∃ l, (tellP m (skS bs A i2 i2) []).1 = l := ⟨_, rfl⟩
          have HTP := Lib.hid (show tellP m (skS bs A i2 i2) [] = (l2, S2, T2) from by rw [← hS2, ← hT2, ← hl2])
          rw [hS2, hT2] at HSK
          clear hS2 hT2 hl2
          go_wp2_with fail
          refine (m_tell HM.out (by simp; omega) HTP.out).mono ?_
          rintro e V10 ⟨at_, ct, rfl, _, hM, _⟩
          have HM5 := Lib.hid hM
          clear hM HM HTP
          go_wp2_with fail
          refine (m_done HM5.out HSK.out).mono ?_
          rintro e V11 ⟨rfl, hM, _⟩
          have HM6 := Lib.hid hM
          clear hM HM5
          have HWN := Lib.hid (show wantsP m S2 T2 = [] from by unfold wantsP; rw [HSK.out]; rfl)
          go_wp2_with fail
          refine (m_wants HM6.out HWN.out).mono ?_
          rintro e V12 ⟨az, cz, rfl, _, hM, _⟩
          have HB9 := Lib.hid (HBS.out.trans (hM.2.mono HBS.out.size))
          clear hM HM6 HSK HWN
          go_wp2_with fail
          refine (HZ.out _).mono ?_
          rintro e w1 ⟨rfl, hb⟩
          have HB3 := Lib.hid (HB9.out.trans (hb.mono HB9.out.size))
          clear hb
          go_wp2_with fail
          go_ret
          exact ⟨rfl, HB3.out⟩
end Go.Proofs.Ytjacebnjmhbcbaa
