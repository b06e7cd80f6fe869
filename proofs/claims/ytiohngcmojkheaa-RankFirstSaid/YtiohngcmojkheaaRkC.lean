/- RankFirst. -/
import Derived.Test.YtiohngcmojkheaaRkA
import Derived.Test.YtiohngcmojkheaaHand
namespace Go.Proofs.Ytiohngcmojkheaa
open Go.RowKit
set_option linter.unusedVariables false

def toldK (tl : List KeyL) (x : KeyL) (n : Nat) : Bool := (tl.take n).any fun y => decide (y = x)
theorem toldK_next {tl : List KeyL} {x y : KeyL} {n : Nat} (h : tl[n]? = some y) : toldK tl x (n + 1) = (toldK tl x n || decide (y = x)) := by
  unfold toldK
  rw [List.take_add_one, h, List.any_append]
  simp
theorem toldK_all {tl : List KeyL} {x : KeyL} : toldK tl x tl.length = true ↔ x ∈ tl := by
  unfold toldK
  rw [List.take_length, List.any_eq_true]
  constructor
  · rintro ⟨y, hy, e⟩; rw [decide_eq_true_eq] at e; subst e; exact hy
  · intro h; exact ⟨x, h, decide_eq_true rfl⟩
theorem runes_some {s : ByteArray} (h : 0 ≤ tLen s) : ∃ l, runesO s = some l := by
  cases e : runesO s with
  | some l => exact ⟨l, rfl⟩
  | none =>
    have := runesO_len s
    rw [e] at this
    simp only at this
    omega
theorem isWord_len {s : ByteArray} (h : isWord s = true) : 1 ≤ tLen s := by
  unfold isWord at h
  rw [Bool.and_eq_true, decide_eq_true_eq] at h
  exact h.1
theorem dist_nn {x q : ByteArray} (h : isWord x = true) (h2 : askedB q = true) : 0 ≤ distT x q := by
  unfold askedB at h2
  rw [Bool.and_eq_true, decide_eq_true_eq] at h2
  have := isWord_len h
  obtain ⟨a, ha⟩ := runes_some (s := x) (by omega)
  obtain ⟨b, hb⟩ := runes_some h2.1
  rw [distT_some ha hb]
  exact (distL_bd a b).1
theorem word_ne {s : ByteArray} (h : isWord s = true) : s ≠ ⟨#[]⟩ := fun e => by
  have := isWord_len h
  have h0 : tLen (⟨#[]⟩ : ByteArray) = 0 := by kernel_rfl
  rw [e, h0] at this
  omega
theorem nearI_take {la : List ByteArray} {q : ByteArray} {k : Int} {i : Nat} {x : ByteArray} (hx : la[i]? = some x) (hd : 0 ≤ distT x q) : (nearI (la.take (i + 1)) q k).length = (nearI (la.take i) q k).length + (if distT x q ≤ k then 1 else 0) := by
  rw [List.take_add_one, hx, Option.toList_some, nearI_snoc, List.length_append]
  unfold nearT
  rw [distT_sym q x]
  by_cases h : distT x q ≤ k
  · have hh : 0 ≤ distT x q ∧ distT x q ≤ k := ⟨hd, h⟩
    rw [if_pos h]
    simp only [if_pos hh]
    rfl
  · have hh : ¬ (0 ≤ distT x q ∧ distT x q ≤ k) := fun h' => h h'.2
    rw [if_neg h]
    simp only [if_neg hh]
    rfl
theorem rdE_old {V W : World} {a : Option Addr} {n c : Nat} {l : List KeyL} (h : RdE KeyL.cells 2 V a n c l) (hb : Below V.heap.size V W) : RdE KeyL.cells 2 W a n c l := h.below hb rfl
def Fi1 (V : World) (la : List ByteArray) (q : ByteArray) (k : Int) (v6 v7 : Value) (wr : World) : Prop := ∃ i : Nat, i ≤ la.length ∧ v6 = .int .i64 ((nearI (la.take i) q k).length : Nat) ∧ v7 = .int .i64 i ∧ RowKit.Hid (Below V.heap.size V wr)
def Fi2 (V : World) (tl : List KeyL) (x : KeyL) (v10 v11 : Value) (wr : World) : Prop := ∃ i : Nat, i ≤ tl.length ∧ v10 = .bool (toldK tl x i) ∧ v11 = .int .i64 i ∧ RowKit.Hid (Below V.heap.size V wr)
def Fi3 (V : World) (tl : List KeyL) (v12 : Value) (wr : World) : Prop := ∃ i : Nat, i ≤ tl.length ∧ v12 = .int .i64 i ∧ RowKit.Hid (Below V.heap.size V wr)
set_option maxRecDepth 100000 in
set_option maxHeartbeats 32000000 in
theorem first_walk (w : World) (ao : Option Addr) (na ca : Nat) (la : List ByteArray) (q : ByteArray) (k m : Int) (ha : RdT w ao na ca la) (hwa : ∀ s ∈ la, s.size ≤ maxLen) (hq : q.size ≤ maxLen) :
    Calls Try.prog 12 #[.slice ao na ca, .agg #[.string q, .int .i64 k, .int .i64 m]] w fun e w' => e = .returned (.bool true) ∧ Below w.heap.size w w' := by
  have hna := ha.len
  subst hna
  have HB := Lib.hid ((Below.refl _ w).alloc (Nat.le_refl _) (.cells #[.string q, .int .i64 k, .int .i64 m] 24))
  have HK := Lib.hid (show Blk (w.alloc (.cells #[.string q, .int .i64 k, .int .i64 m] 24)) w.heap.size 24 [.string q, .int .i64 k, .int .i64 m] from heap_alloc_new w _)
  obtain ⟨W, hW⟩ : ∃ W, w.alloc (.cells #[.string q, .int .i64 k, .int .i64 m] 24) = W := ⟨_, rfl⟩
  rw [hW] at HB HK
  have hcapA := ha.2.1
  have hcmA := ha.2.2.1
  unfold maxLen at hcmA
  have HGA := Lib.hid (fun V h => greatT_any ao la.length ca la V h hwa)
  have HOA := Lib.hid (fun V h => lgood_any ao la.length ca la V h hwa)
  have HMA := Lib.hid (fun V => rmay_any q k m V hq)
  have HZ : RowKit.Hid (∀ V, Calls Try.prog 15 #[] V fun e w' => e = .returned (.bool true) ∧ Below V.heap.size V w') := fun V => awake_any V
  have HA := Lib.hid (RdT.below ha HB.out rfl)
  clear ha hwa
  unfold maxLen at hq
  have t0 : W.cell? ⟨w.heap.size, 0, none⟩ = some (.string q) := HK.out.cell 0
  have t1 : W.cell? ⟨w.heap.size, 1, none⟩ = some (.int .i64 k) := HK.out.cell 1
  have t2 : W.cell? ⟨w.heap.size, 2, none⟩ = some (.int .i64 m) := HK.out.cell 2
  go_enter Try.func12, Try.ntmps12
  go_wp2_with (rw [hW])
  clear hW
  refine (HGA.out _ HA.out).mono ?_
  rintro e w1 ⟨rfl, rfl⟩
  cases hg : greatT la
  case true =>
    clear hg
    go_wp2_with fail
    refine (HZ.out _).mono ?_
    rintro e w1 ⟨rfl, hb⟩
    have HB3 := Lib.hid (HB.out.trans (hb.mono HB.out.size))
    clear hb
    go_wp2_with fail
    go_ret
    exact ⟨rfl, HB3.out⟩
  have hla := (greatT_false hg).1
  have HWA := Lib.hid (fun s hs => Nat.le_trans ((greatT_false hg).2 s hs) (by decide : 100 ≤ 1000))
  clear hg HGA
  by_cases hqs1 : 40 < la.length
  · have d1 : decide ((40 : Int) < (la.length : Int)) = true := by simp; omega
    have d2 : decide (40 < la.length) = true := by simpa using hqs1
    go_wp2_with fail
    refine (HZ.out _).mono ?_
    rintro e w1 ⟨rfl, hb⟩
    have HB3 := Lib.hid (HB.out.trans (hb.mono HB.out.size))
    clear hb
    go_wp2_with fail
    go_ret
    exact ⟨rfl, HB3.out⟩
  have d1a : decide ((40 : Int) < (la.length : Int)) = false := by simp; omega
  have d1b : decide (40 < la.length) = false := by simpa using hqs1
  by_cases hqs2 : 100 < q.size
  · have d1 : decide ((100 : Int) < (q.size : Int)) = true := by simp; omega
    have d2 : decide (100 < q.size) = true := by simpa using hqs2
    go_wp2_with fail
    refine (HZ.out _).mono ?_
    rintro e w1 ⟨rfl, hb⟩
    have HB3 := Lib.hid (HB.out.trans (hb.mono HB.out.size))
    clear hb
    go_wp2_with fail
    go_ret
    exact ⟨rfl, HB3.out⟩
  have d2a : decide ((100 : Int) < (q.size : Int)) = false := by simp; omega
  have d2b : decide (100 < q.size) = false := by simpa using hqs2
  have hq1 : q.size ≤ 1000 := by omega
  obtain ⟨ga, hga⟩ : ∃ g, goodT la = g := ⟨_, rfl⟩
  have HGV := Lib.hid hga
  rw [hga] at HOA
  clear hga
  go_wp2_with fail
  refine (HOA.out _ HA.out).mono ?_
  rintro e V4 ⟨rfl, hb⟩
  clear t0 t1 t2 HOA
  have ZZ := Lib.hid (HB.out.trans ((hb).mono HB.out.size))
  clear HB
  have HB := ZZ
  clear ZZ
  have ZZ := Lib.hid (HK.out.below hb HK.out.lt)
  clear HK
  have HK := ZZ
  clear ZZ
  have ZZ := Lib.hid (RdT.below HA.out hb rfl)
  clear HA
  have HA := ZZ
  clear ZZ
  clear hb
  by_cases h0 : ga = 0
  rotate_left
  · have d3 : (ga != 0) = true := by simpa using h0
    clear h0 HGV
    go_wp2_with fail
    refine (HZ.out _).mono ?_
    rintro e w1 ⟨rfl, hb⟩
    have HB3 := Lib.hid (HB.out.trans (hb.mono HB.out.size))
    clear hb
    go_wp2_with fail
    go_ret
    exact ⟨rfl, HB3.out⟩
  subst h0
  have RS := Lib.hid (show RiseT la from (goodT_of HGV.out).2.2)
  have HWD := Lib.hid (goodT_of HGV.out).2.1
  clear HGV d1a d1b d2a d2b
  have TA := Lib.hid (fun V h => rtop_any V ao la.length ca la q k m h (by omega) HWA.out hq1)
  have htl := topL_len la q k m
  have t0 : V4.cell? ⟨w.heap.size, 0, none⟩ = some (.string q) := HK.out.cell 0
  have t1 : V4.cell? ⟨w.heap.size, 1, none⟩ = some (.int .i64 k) := HK.out.cell 1
  have t2 : V4.cell? ⟨w.heap.size, 2, none⟩ = some (.int .i64 m) := HK.out.cell 2
  cases hm : mayQ q k m
  case false =>
    have h0 : topL la q k m = [] := by unfold topL; rw [hm]; rfl
    rw [h0] at TA
    rw [hm] at HMA
    clear hm h0
    go_wp2_with fail
    refine (TA.out _ HA.out).mono ?_
    rintro e V5 ⟨a9, c9, rfl, hown, hb⟩
    clear t0 t1 t2
    have ZZ := Lib.hid (HB.out.trans ((hb).mono HB.out.size))
    clear HB
    have HB := ZZ
    clear ZZ
    have ZZ := Lib.hid (HK.out.below hb HK.out.lt)
    clear HK
    have HK := ZZ
    clear ZZ
    have ZZ := Lib.hid (RdT.below HA.out hb rfl)
    clear HA
    have HA := ZZ
    clear ZZ
    clear hown hb
    have t0 : V5.cell? ⟨w.heap.size, 0, none⟩ = some (.string q) := HK.out.cell 0
    have t1 : V5.cell? ⟨w.heap.size, 1, none⟩ = some (.int .i64 k) := HK.out.cell 1
    have t2 : V5.cell? ⟨w.heap.size, 2, none⟩ = some (.int .i64 m) := HK.out.cell 2
    go_wp2_with fail
    refine (HMA.out _).mono ?_
    rintro e V6 ⟨rfl, hb⟩
    clear t0 t1 t2
    have ZZ := Lib.hid (HB.out.trans ((hb).mono HB.out.size))
    clear HB
    have HB := ZZ
    clear ZZ
    have ZZ := Lib.hid (HK.out.below hb HK.out.lt)
    clear HK
    have HK := ZZ
    clear ZZ
    have ZZ := Lib.hid (RdT.below HA.out hb rfl)
    clear HA
    have HA := ZZ
    clear ZZ
    clear hb
    go_wp2_with fail
    refine (HZ.out _).mono ?_
    rintro e w1 ⟨rfl, hb⟩
    have HB3 := Lib.hid (HB.out.trans (hb.mono HB.out.size))
    clear hb
    go_wp2_with fail
    go_ret
    exact ⟨rfl, HB3.out⟩
  have hm4 : (0 : Int) ≤ k ∧ k ≤ 4 ∧ 1 ≤ m ∧ m ≤ 10 := by
    unfold mayQ at hm
    simp only [Bool.and_eq_true, decide_eq_true_eq] at hm
    obtain ⟨⟨⟨⟨_, a⟩, b⟩, c⟩, d⟩ := hm
    exact ⟨a, b, c, d⟩
  have hAS : askedB q = true := by
    unfold mayQ at hm
    simp only [Bool.and_eq_true] at hm
    exact hm.1.1.1.1
  have HLN := Lib.hid (topL_len2 (words := la) hm)
  have hln := topL_len2 (words := la) hm
  have HFL := Lib.hid (fun x h1 h2 => first_law (words := la) (x := x) hm h1 h2)
  have HTM := Lib.hid (fun x h => topL_mem (words := la) (q := q) (k := k) (n := m) (x := x) h)
  have HTS := Lib.hid (fun i x y h1 h2 => topL_step (words := la) (q := q) (k := k) (n := m) RS.out (i := i) (x := x) (y := y) h1 h2)
  rw [hm] at HMA
  clear hm
  obtain ⟨hk0, hk4, hm1, hm10⟩ := hm4
  generalize topL la q k m = tl at *
  have ht10 : tl.length ≤ m.toNat := by omega
  have ht11 : (tl.length : Int) ≤ m := by omega
  clear hln
  go_wp2_with fail
  refine (TA.out _ HA.out).mono ?_
  rintro e V5 ⟨a9, c9, rfl, hown, hb⟩
  clear t0 t1 t2
  have ZZ := Lib.hid (HB.out.trans ((hb).mono HB.out.size))
  clear HB
  have HB := ZZ
  clear ZZ
  have ZZ := Lib.hid (HK.out.below hb HK.out.lt)
  clear HK
  have HK := ZZ
  clear ZZ
  have ZZ := Lib.hid (RdT.below HA.out hb rfl)
  clear HA
  have HA := ZZ
  clear ZZ
  have HX := Lib.hid (ownsRow_rdE (enc := KeyL.cells) (fun _ => rfl) rfl hown)
  clear hown hb TA
  have t0 : V5.cell? ⟨w.heap.size, 0, none⟩ = some (.string q) := HK.out.cell 0
  have t1 : V5.cell? ⟨w.heap.size, 1, none⟩ = some (.int .i64 k) := HK.out.cell 1
  have t2 : V5.cell? ⟨w.heap.size, 2, none⟩ = some (.int .i64 m) := HK.out.cell 2
  go_wp2_with fail
  refine (HMA.out _).mono ?_
  rintro e V6 ⟨rfl, hb⟩
  clear t0 t1 t2
  have ZZ := Lib.hid (HB.out.trans ((hb).mono HB.out.size))
  clear HB
  have HB := ZZ
  clear ZZ
  have ZZ := Lib.hid (HK.out.below hb HK.out.lt)
  clear HK
  have HK := ZZ
  clear ZZ
  have ZZ := Lib.hid (RdT.below HA.out hb rfl)
  clear HA
  have HA := ZZ
  clear ZZ
  have ZZ := Lib.hid (HX.out.below hb rfl)
  clear HX
  have HX := ZZ
  clear ZZ
  clear hb HMA
  have hx1 := HX.out.2.1
  have hx2 := HX.out.2.2.1
  unfold maxLen at hx2
  have HDI := Lib.hid (fun x V (hx : x.size ≤ 1000) => distance_any x q V hx hq1)
  have HNE := Lib.hid (show ∀ x ∈ la, 0 ≤ distT x q from fun x hx => dist_nn (HWD.out x hx) hAS)
  have t0 : V6.cell? ⟨w.heap.size, 0, none⟩ = some (.string q) := HK.out.cell 0
  have t1 : V6.cell? ⟨w.heap.size, 1, none⟩ = some (.int .i64 k) := HK.out.cell 1
  have t2 : V6.cell? ⟨w.heap.size, 2, none⟩ = some (.int .i64 m) := HK.out.cell 2
  have e0 : ¬ m < (tl.length : Int) := by omega
  have e1 : decide (m < (tl.length : Int)) = false := by simp; omega
  have HBZ := Lib.hid (Below.refl V6.heap.size V6)
  go_wp2_with fail
  clear e0 e1 t0 t1 t2
  go_loopw [6, 7] (fun v6 v7 wr => Fi1 V6 la q k v6 v7 wr) (fun _ v _ => la.length - (intOf v).toNat)
  case atStart => exact ⟨0, by omega, by simp [nearI], rfl, HBZ.out⟩
  case round =>
    clear HBZ
    obtain ⟨i, hi, rfl, rfl, HBL⟩ := hrel
    by_cases hlt : i < la.length
    · obtain ⟨x, hx⟩ : ∃ x, la[i]? = some x := ⟨la[i], List.getElem?_eq_getElem hlt⟩
      have hnl : (nearI (la.take i) q k).length ≤ i := Nat.le_trans (nearI_len _ _ _) (List.length_take_le _ _)
      have hxm := List.mem_iff_getElem?.2 ⟨i, hx⟩
      have hxs := HWA.out x hxm
      have hxn := HNE.out x hxm
      have HXW := Lib.hid (HWD.out x hxm)
      have HNT := Lib.hid (nearI_take (k := k) hx hxn)
      have HXM := Lib.hid (show distT x q ≤ k → (distT x q, x) ∈ nearI la q k from fun h => nearI_mem.2 ⟨hxm, rfl, hxn, h⟩)
      obtain ⟨g, off, rfl, hbl, c0⟩ := (HA.out.below HBL.out rfl).at hx
      have HC0 := Lib.hid c0
      have HDX := Lib.hid (fun V => HDI.out x V hxs)
      generalize distT x q = dx at *
      have HKR := Lib.hid (HK.out.below HBL.out HK.out.lt)
      have HXR := Lib.hid (HX.out.below HBL.out rfl)
      have k1 : (0 : Int) ≤ (i : Int) := by omega
      have k2 : (i : Int) < (la.length : Int) := by omega
      have HGB : RowKit.Hid (Below wr.heap.size wr wr.drew) := below_drewN (Below.refl _ _) 1
      clear hx c0 hxs hxm
      go_upto_region 12 with fail
      go_region_held3 (fun w' => w'.cell? ⟨w.heap.size, 0, none⟩ = some (.string q) ∧ w'.cell? ⟨w.heap.size, 1, none⟩ = some (.int .i64 k) ∧ w'.cell? ⟨g, off + i, none⟩ = some (.string x)) (exact ⟨(Blk.below HKR.out HGB.out (Blk.lt HKR.out)).cell 0, (Blk.below HKR.out HGB.out (Blk.lt HKR.out)).cell 1, (HGB.out.cell (p := ⟨g, off + i, none⟩) hbl).trans HC0.out⟩) (first | (go_at_call 47; (with_reducible refine (HDX.out _).mono ?_); rintro e u ⟨rfl, hb⟩; have HSN := Lib.hid (HGB.out.trans (hb.mono HGB.out.size)); clear HGB; have HGB := HSN; clear HSN; clear hb))
      rename_i hHeld
      clear hHeld HDX
      have HB2 := Lib.hid (HBL.out.trans (HGB.out.mono HBL.out.size))
      have cx : u.cell? ⟨g, off + i, none⟩ = some (.string x) := (HGB.out.cell (p := ⟨g, off + i, none⟩) hbl).trans HC0.out
      have HKU := Lib.hid (HKR.out.below HGB.out HKR.out.lt)
      have HXU := Lib.hid (HXR.out.below HGB.out rfl)
      clear HBL HKR HXR HC0 HGB
      have HP := Lib.hid (show Blk (u.alloc (.cells #[.int .i64 dx, .string x] 39)) u.heap.size 39 [.int .i64 dx, .string x] from heap_alloc_new u _)
      have HAL := Lib.hid ((Below.refl _ u).alloc (Nat.le_refl _) (.cells #[.int .i64 dx, .string x] 39))
      have HB3 := Lib.hid (HB2.out.trans (HAL.out.mono HB2.out.size))
      have HKV := Lib.hid (HKU.out.below HAL.out HKU.out.lt)
      have HXV := Lib.hid (HXU.out.below HAL.out rfl)
      have hpg : V6.heap.size ≤ u.heap.size := HB2.out.size
      have hkp : w.heap.size ≠ u.heap.size := Nat.ne_of_lt HKU.out.lt
      have p0 := HXV.out
      clear p0 HKU HXU HAL HB2
      obtain ⟨U, hU⟩ : ∃ U, u.alloc (.cells #[.int .i64 dx, .string x] 39) = U := ⟨_, rfl⟩
      rw [hU] at HP HB3 HKV HXV
      have y1 : U.cell? ⟨w.heap.size, 1, none⟩ = some (.int .i64 k) := HKV.out.cell 1
      go_upto_region 14 with fail
      try rw [hU]
      clear hU cx
      obtain ⟨px, hpx⟩ : ∃ p, u.heap.size = p := ⟨_, rfl⟩
      rw [hpx] at HP hpg hkp ⊢
      clear hpx
      by_cases hdk : dx ≤ k
      · have d1 : decide (k < dx) = false := by simp; omega
        have HNN := Lib.hid (show (nearI (la.take (i + 1)) q k).length = (nearI (la.take i) q k).length + 1 from by rw [HNT.out, if_pos hdk])
        have HXI := Lib.hid (HXM.out hdk)
        clear HXM HNT
        go_upto_region 17 with fail
        clear d1 y1
        obtain ⟨UU, hUU⟩ : ∃ V, V = U := ⟨_, rfl⟩
        subst hUU
        have HB4 := HB3
        have HKU := HKV
        have HXU := HXV
        clear HB3 HKV HXV
        have HBZ := Lib.hid (Below.refl UU.heap.size UU)
        go_wp2_with fail
        go_loopw [10, 11] (fun v10 v11 wz => Fi2 UU tl (dx, x) v10 v11 wz) (fun _ v _ => tl.length - (intOf v).toNat)
        case atStart => exact ⟨0, by omega, by simp [toldK], rfl, HBZ.out⟩
        case round =>
          clear HBZ
          obtain ⟨c, hc, rfl, rfl, HBL⟩ := hrel
          by_cases hlt2 : c < tl.length
          · obtain ⟨y, hy⟩ : ∃ y, tl[c]? = some y := ⟨_, List.getElem?_eq_getElem hlt2⟩
            have HTN := Lib.hid (toldK_next (x := (dx, x)) hy)
            obtain ⟨bb, ob, rfl, hbb, hcy⟩ := (HXU.out.below HBL.out rfl).2.2.2.2 c y hy
            have y0 : wr.cell? ⟨bb, ob + c * 2, none⟩ = some (.int .i64 y.1) := hcy 0 (by decide)
            have y1 : wr.cell? ⟨bb, ob + c * 2 + 1, none⟩ = some (.string y.2) := hcy 1 (by decide)
            have HPR := Lib.hid (HP.out.below HBL.out HP.out.lt)
            have z0 : wr.cell? ⟨px, 0, none⟩ = some (.int .i64 dx) := HPR.out.cell 0
            have z1 : wr.cell? ⟨px, 1, none⟩ = some (.string x) := HPR.out.cell 1
            have k3 : (0 : Int) ≤ (c : Int) := by omega
            have k4 : (c : Int) < (tl.length : Int) := by omega
            have heq := eqI_run y (dx, x)
            clear hy hcy
            cases hd1 : toldK tl (dx, x) c <;> cases hd2 : decide (y = (dx, x))
            all_goals
              rw [hd1, hd2] at HTN
              rw [hd2] at heq
              clear hd1 hd2
              go_wp2_with fail
              go_quiet (fail)
              go_wp2_with fail
              go_roundw
              case rel => exact ⟨c + 1, by omega, by rw [HTN.out]; rfl, by go_num, below_drewN HBL.out _⟩
              case measure => simp [intOf]; omega
          · obtain rfl : c = tl.length := by omega
            have HPR := Lib.hid (HP.out.below HBL.out HP.out.lt)
            have HB5 := Lib.hid (HB4.out.trans (HBL.out.mono HB4.out.size))
            have HKR := Lib.hid (HKU.out.below HBL.out HKU.out.lt)
            have HXR := Lib.hid (HXU.out.below HBL.out rfl)
            have z0 : wr.cell? ⟨px, 0, none⟩ = some (.int .i64 dx) := HPR.out.cell 0
            have z1 : wr.cell? ⟨px, 1, none⟩ = some (.string x) := HPR.out.cell 1
            have z2 : wr.cell? ⟨w.heap.size, 2, none⟩ = some (.int .i64 m) := HKR.out.cell 2
            have hne0 : (x.toList == (⟨#[]⟩ : ByteArray).toList) = false := str_ne (word_ne HXW.out)
            have hne1 : ¬ x.toList = [] := by simpa using hne0
            have hne2 : x.toList.isEmpty = false := by simpa using hne1
            have hne3 : (x.toList == []) = false := by simpa using hne1
            clear hne0
            cases hb0 : toldK tl (dx, x) tl.length
            · have hnt : (dx, x) ∉ tl := fun h => by rw [toldK_all.2 h] at hb0; cases hb0
              obtain ⟨hf1, hf2⟩ := HFL.out _ HXI.out hnt
              obtain ⟨l, hl⟩ : ∃ l, tl.length - 1 = l := ⟨_, rfl⟩
              have hl2 : l < tl.length := by omega
              obtain ⟨y, hy⟩ : ∃ y, tl[l]? = some y := ⟨_, List.getElem?_eq_getElem hl2⟩
              have hkl := hf2 y (List.mem_iff_getElem?.2 ⟨l, hy⟩)
              obtain ⟨bb, ob, rfl, hbb, hcy⟩ := HXR.out.2.2.2.2 l y hy
              have HY0 := Lib.hid (show wr.cell? ⟨bb, ob + l * 2, none⟩ = some (.int .i64 y.1) from hcy 0 (by decide))
              have HY1 := Lib.hid (show wr.cell? ⟨bb, ob + l * 2 + 1, none⟩ = some (.string y.2) from hcy 1 (by decide))
              have wl : IntKind.i64.wrap ((tl.length : Int) - 1) = (l : Int) := by rw [IntWalk.i64_in _ (by omega)]; omega
              have k3 : (0 : Int) ≤ (l : Int) := by omega
              have k4 : (l : Int) < (tl.length : Int) := by omega
              have e0 : decide ((tl.length : Int) < m) = false := by simp; omega
              have HLE := Lib.hid (iless_any (dx, x) y)
              rw [hkl] at HLE
              clear hkl hf1 hf2 hnt hcy hy hl
              have HGB : RowKit.Hid (Below wr.heap.size wr wr.drew) := below_drewN (Below.refl _ _) 1
              clear z0 z1 z2
              go_upto_region 22 with fail
              go_region_held3 (fun w' => w'.cell? ⟨px, 0, none⟩ = some (.int .i64 dx) ∧ w'.cell? ⟨px, 1, none⟩ = some (.string x) ∧ w'.cell? ⟨w.heap.size, 2, none⟩ = some (.int .i64 m) ∧ w'.cell? ⟨bb, ob + l * 2, none⟩ = some (.int .i64 y.1) ∧ w'.cell? ⟨bb, ob + l * 2 + 1, none⟩ = some (.string y.2)) (exact ⟨(Blk.below HPR.out HGB.out (Blk.lt HPR.out)).cell 0, (Blk.below HPR.out HGB.out (Blk.lt HPR.out)).cell 1, (Blk.below HKR.out HGB.out (Blk.lt HKR.out)).cell 2, (HGB.out.cell (p := ⟨bb, ob + l * 2, none⟩) hbb).trans HY0.out, (HGB.out.cell (p := ⟨bb, ob + l * 2 + 1, none⟩) hbb).trans HY1.out⟩) (first | (go_at_call 32; (with_reducible refine (HLE.out _).mono ?_); rintro e u9 ⟨rfl, hb⟩; have HSN := Lib.hid (HGB.out.trans (hb.mono HGB.out.size)); clear HGB; have HGB := HSN; clear HSN; clear hb))
              rename_i hHeld
              clear hHeld
              go_wp2_with fail
              go_roundw
              case rel => exact ⟨i + 1, by omega, by rw [HNN.out]; go_num, by go_num, HB5.out.trans (HGB.out.mono HB5.out.size)⟩
              case measure => simp [intOf]; omega
            · clear HBL
              go_wp2_with fail
              go_quiet (fail)
              go_wp2_with fail
              go_roundw
              case rel => exact ⟨i + 1, by omega, by rw [HNN.out]; go_num, by go_num, below_drewN HB5.out _⟩
              case measure => simp [intOf]; omega
      · have d1 : decide (k < dx) = true := by simp; omega
        have HNN := Lib.hid (show (nearI (la.take (i + 1)) q k).length = (nearI (la.take i) q k).length from by rw [HNT.out, if_neg hdk]; rfl)
        clear HNT HXM
        have q1 : U.cell? ⟨px, 1, none⟩ = some (.string x) := HP.out.cell 1
        have q2 : U.frozen? ⟨px, 1, none⟩ = false := HP.out.frozen 1
        have HF5 : RowKit.Hid (Frm (fun i => i = px) U (U.setCell ⟨px, 1, none⟩ (.string ⟨#[]⟩))) := (Frm.refl _ U).setCell _ _ (.inl rfl)
        have HB4 := Lib.hid (HB3.out.setCell (p := ⟨px, 1, none⟩) hpg (.string ⟨#[]⟩))
        have HKU := Lib.hid (HKV.out.frm HF5.out hkp)
        have HXU := Lib.hid (show RdE KeyL.cells 2 (U.setCell ⟨px, 1, none⟩ (.string ⟨#[]⟩)) a9 tl.length c9 tl from rdE_old HX.out HB4.out)
        have HP2 := Lib.hid (show Blk (U.setCell ⟨px, 1, none⟩ (.string ⟨#[]⟩)) px 39 [.int .i64 dx, .string ⟨#[]⟩] from HP.out.set 1 (.string ⟨#[]⟩))
        go_upto_region 17 with fail
        generalize U.setCell ⟨px, 1, none⟩ (.string ⟨#[]⟩) = UU at *
        clear q1 q2 d1 y1 HF5 HB3 HKV HXV HP
        have HP := HP2
        clear HP2
        have HBZ := Lib.hid (Below.refl UU.heap.size UU)
        go_wp2_with fail
        go_loopw [10, 11] (fun v10 v11 wz => Fi2 UU tl (dx, ⟨#[]⟩) v10 v11 wz) (fun _ v _ => tl.length - (intOf v).toNat)
        case atStart => exact ⟨0, by omega, by simp [toldK], rfl, HBZ.out⟩
        case round =>
          clear HBZ
          obtain ⟨c, hc, rfl, rfl, HBL⟩ := hrel
          by_cases hlt2 : c < tl.length
          · obtain ⟨y, hy⟩ : ∃ y, tl[c]? = some y := ⟨_, List.getElem?_eq_getElem hlt2⟩
            have HTN := Lib.hid (toldK_next (x := (dx, ⟨#[]⟩)) hy)
            obtain ⟨bb, ob, rfl, hbb, hcy⟩ := (HXU.out.below HBL.out rfl).2.2.2.2 c y hy
            have y0 : wr.cell? ⟨bb, ob + c * 2, none⟩ = some (.int .i64 y.1) := hcy 0 (by decide)
            have y1 : wr.cell? ⟨bb, ob + c * 2 + 1, none⟩ = some (.string y.2) := hcy 1 (by decide)
            have HPR := Lib.hid (HP.out.below HBL.out HP.out.lt)
            have z0 : wr.cell? ⟨px, 0, none⟩ = some (.int .i64 dx) := HPR.out.cell 0
            have z1 : wr.cell? ⟨px, 1, none⟩ = some (.string ⟨#[]⟩) := HPR.out.cell 1
            have k3 : (0 : Int) ≤ (c : Int) := by omega
            have k4 : (c : Int) < (tl.length : Int) := by omega
            have heq := eqI_run y (dx, ⟨#[]⟩)
            clear hy hcy
            cases hd1 : toldK tl (dx, ⟨#[]⟩) c <;> cases hd2 : decide (y = (dx, ⟨#[]⟩))
            all_goals
              rw [hd1, hd2] at HTN
              rw [hd2] at heq
              clear hd1 hd2
              go_wp2_with fail
              go_quiet (fail)
              go_wp2_with fail
              go_roundw
              case rel => exact ⟨c + 1, by omega, by rw [HTN.out]; rfl, by go_num, below_drewN HBL.out _⟩
              case measure => simp [intOf]; omega
          · obtain rfl : c = tl.length := by omega
            have HPR := Lib.hid (HP.out.below HBL.out HP.out.lt)
            have HB5 := Lib.hid (HB4.out.trans (HBL.out.mono HB4.out.size))
            have HKR := Lib.hid (HKU.out.below HBL.out HKU.out.lt)
            have HXR := Lib.hid (HXU.out.below HBL.out rfl)
            have z0 : wr.cell? ⟨px, 0, none⟩ = some (.int .i64 dx) := HPR.out.cell 0
            have z1 : wr.cell? ⟨px, 1, none⟩ = some (.string ⟨#[]⟩) := HPR.out.cell 1
            have z2 : wr.cell? ⟨w.heap.size, 2, none⟩ = some (.int .i64 m) := HKR.out.cell 2
            clear HBL
            generalize toldK tl (dx, ⟨#[]⟩) tl.length = b at *
            go_wp2_with fail
            go_quiet (fail)
            go_wp2_with fail
            go_roundw
            case rel => exact ⟨i + 1, by omega, by rw [HNN.out], by go_num, below_drewN HB5.out _⟩
            case measure => simp [intOf]; omega
    · obtain rfl : i = la.length := by omega
      rw [List.take_length]
      have hnn := nearI_len la q k
      have hmin : (if m < ((nearI la q k).length : Int) then m else ((nearI la q k).length : Int)) = (tl.length : Int) := by have := HLN.out; split <;> omega
      have ZZ := Lib.hid (HB.out.trans ((HBL.out).mono HB.out.size))
      clear HB
      have HB := ZZ
      clear ZZ
      have ZZ := Lib.hid (HK.out.below HBL.out HK.out.lt)
      clear HK
      have HK := ZZ
      clear ZZ
      have ZZ := Lib.hid (RdT.below HA.out HBL.out rfl)
      clear HA
      have HA := ZZ
      clear ZZ
      have ZZ := Lib.hid (HX.out.below HBL.out rfl)
      clear HX
      have HX := ZZ
      clear ZZ
      clear HBL
      generalize (nearI la q k).length = nn at *
      have HMIN := Lib.hid hmin
      clear hmin
      have HBZ := Lib.hid (Below.refl wr.heap.size wr)
      go_wp2_with fail
      go_loopw [12] (fun v12 wz => Fi3 wr tl v12 wz) (fun v _ => tl.length - (intOf v).toNat)
      case atStart => exact ⟨0, by omega, rfl, HBZ.out⟩
      case round =>
        clear HBZ
        obtain ⟨c, hc, rfl, HBL⟩ := hrel
        have ZZ := Lib.hid (HB.out.trans ((HBL.out).mono HB.out.size))
        clear HB
        have HB := ZZ
        clear ZZ
        have ZZ := Lib.hid (HK.out.below HBL.out HK.out.lt)
        clear HK
        have HK := ZZ
        clear ZZ
        have ZZ := Lib.hid (RdT.below HA.out HBL.out rfl)
        clear HA
        have HA := ZZ
        clear ZZ
        have ZZ := Lib.hid (HX.out.below HBL.out rfl)
        clear HX
        have HX := ZZ
        clear ZZ
        by_cases hlt2 : c < tl.length
        · obtain ⟨y, hy⟩ : ∃ y, tl[c]? = some y := ⟨_, List.getElem?_eq_getElem hlt2⟩
          obtain ⟨hy1, hy2, hy3, hy4⟩ := HTM.out y (List.mem_iff_getElem?.2 ⟨c, hy⟩)
          have hys := HWA.out y.2 hy1
          have HAT := Lib.hid (fun V h => at_any ao la.length ca la y.2 V h RS.out (by omega))
          rw [hasT_iff.2 hy1] at HAT
          have HDY := Lib.hid (fun V => HDI.out y.2 V hys)
          rw [← hy2] at HDY
          obtain ⟨bb, ob, rfl, hbb, hcy⟩ := HX.out.2.2.2.2 c y hy
          have HY0 := Lib.hid (show wr.cell? ⟨bb, ob + c * 2, none⟩ = some (.int .i64 y.1) from hcy 0 (by decide))
          have HY1 := Lib.hid (show wr.cell? ⟨bb, ob + c * 2 + 1, none⟩ = some (.string y.2) from hcy 1 (by decide))
          have y1 := HY1.out
          have k3 : (0 : Int) ≤ (c : Int) := by omega
          have k4 : (c : Int) < (tl.length : Int) := by omega
          have HYC := Lib.hid hy
          clear hy hcy hy1 hy2 hys
          go_wp2_with fail
          refine (HAT.out _ HA.out).mono ?_
          rintro e w7 ⟨⟨ix, rfl⟩, rfl⟩
          clear y1 HAT
          have e2 : (y.1 != y.1) = false := by simp
          have e3 : decide (k < y.1) = false := by simp; omega
          have e4 : ¬ k < y.1 := by omega
          have HGB : RowKit.Hid (Below wr.heap.size wr wr.drew) := below_drewN (Below.refl _ _) 1
          have HB0 := HB
          have HBLL := HBL
          by_cases hc0 : c = 0
          · subst hc0
            rw [show ob + 0 * 2 = ob by omega] at HY0 HY1
            go_upto_region 28 with fail
            refine wp_region_held_drew (S := (fun w' => w'.cell? ⟨w.heap.size, 0, none⟩ = some (.string q) ∧ w'.cell? ⟨w.heap.size, 1, none⟩ = some (.int .i64 k) ∧ w'.cell? ⟨bb, ob, none⟩ = some (.int .i64 y.1) ∧ w'.cell? ⟨bb, ob + 1, none⟩ = some (.string y.2))) (by kernel_rfl) (by exact ⟨(Blk.below HK.out HGB.out (Blk.lt HK.out)).cell 0, (Blk.below HK.out HGB.out (Blk.lt HK.out)).cell 1, (HGB.out.cell (p := ⟨bb, ob, none⟩) hbb).trans HY0.out, (HGB.out.cell (p := ⟨bb, ob + 1, none⟩) hbb).trans HY1.out⟩) (fun hHeld => ?_)
            refine takeO 0 (some 132) (v := ?_) rfl rfl (by kernel_rfl) (by kernel_rfl) (by kernel_rfl) (fun _ _ _ h => h) (Or.inl ⟨by rfl, ?_⟩) (by assumption) ?_
            rotate_left 1
            · intro w hSw; (try dsimp only at hSw); go_simp; all_goals with_reducible rfl
            try simp only [Act.put, List.setIfInBounds_toArray, List.set_cons_zero, List.set_cons_succ]
            refine takeO 1 (some 133) (v := ?_) rfl rfl (by kernel_rfl) (by kernel_rfl) (by kernel_rfl) (fun _ _ _ h => h) (Or.inl ⟨by rfl, ?_⟩) (by assumption) ?_
            rotate_left 1
            · intro w hSw; (try dsimp only at hSw); go_simp; all_goals with_reducible rfl
            try simp only [Act.put, List.setIfInBounds_toArray, List.set_cons_zero, List.set_cons_succ]
            refine takeO 2 (some 134) (v := ?_) rfl rfl (by kernel_rfl) (by kernel_rfl) (by kernel_rfl) (fun _ _ _ h => h) (Or.inl ⟨by rfl, ?_⟩) (by assumption) ?_
            rotate_left 1
            · intro w hSw; (try dsimp only at hSw); go_simp; all_goals with_reducible rfl
            try simp only [Act.put, List.setIfInBounds_toArray, List.set_cons_zero, List.set_cons_succ]
            refine takeO 3 (some 135) (v := ?_) rfl rfl (by kernel_rfl) (by kernel_rfl) (by kernel_rfl) (fun _ _ _ h => h) (Or.inl ⟨by rfl, ?_⟩) (by assumption) ?_
            rotate_left 1
            · intro w hSw; (try dsimp only at hSw); go_simp; all_goals with_reducible rfl
            try simp only [Act.put, List.setIfInBounds_toArray, List.set_cons_zero, List.set_cons_succ]
            refine takeO 4 (some 136) (v := ?_) rfl rfl (by kernel_rfl) (by kernel_rfl) (by kernel_rfl) (fun _ _ _ h => h) (Or.inl ⟨by rfl, ?_⟩) (by assumption) ?_
            rotate_left 1
            · intro w hSw; (try dsimp only at hSw); go_simp; all_goals with_reducible rfl
            try simp only [Act.put, List.setIfInBounds_toArray, List.set_cons_zero, List.set_cons_succ]
            refine takeO 5 (some 137) (v := ?_) rfl rfl (by kernel_rfl) (by kernel_rfl) (by kernel_rfl) (fun _ _ _ h => h) (Or.inl ⟨by rfl, ?_⟩) (by assumption) ?_
            rotate_left 1
            · intro w hSw; (try dsimp only at hSw); go_simp; all_goals with_reducible rfl
            try simp only [Act.put, List.setIfInBounds_toArray, List.set_cons_zero, List.set_cons_succ]
            refine takeO 6 (some 138) (v := ?_) rfl rfl (by kernel_rfl) (by kernel_rfl) (by kernel_rfl) (fun _ _ _ h => h) (Or.inl ⟨by rfl, ?_⟩) (by assumption) ?_
            rotate_left 1
            · intro w hSw; (try dsimp only at hSw); go_simp; all_goals with_reducible rfl
            try simp only [Act.put, List.setIfInBounds_toArray, List.set_cons_zero, List.set_cons_succ]
            refine takeO 7 (some 139) (v := ?_) rfl rfl (by kernel_rfl) (by kernel_rfl) (by kernel_rfl) (fun _ _ _ h => h) (Or.inl ⟨by rfl, ?_⟩) (by assumption) ?_
            rotate_left 1
            · intro w hSw; (try dsimp only at hSw); go_simp; all_goals with_reducible rfl
            try simp only [Act.put, List.setIfInBounds_toArray, List.set_cons_zero, List.set_cons_succ]
            refine takeO 8 (some 140) (v := ?_) rfl rfl (by kernel_rfl) (by kernel_rfl) (by kernel_rfl) (fun _ _ _ h => h) (Or.inl ⟨by rfl, ?_⟩) (by assumption) ?_
            rotate_left 1
            · intro w hSw; (try dsimp only at hSw); go_simp; all_goals with_reducible rfl
            try simp only [Act.put, List.setIfInBounds_toArray, List.set_cons_zero, List.set_cons_succ]
            refine takeO 9 (some 141) (v := ?_) rfl rfl (by kernel_rfl) (by kernel_rfl) (by kernel_rfl) (fun _ _ _ h => h) (Or.inl ⟨by rfl, ?_⟩) (by assumption) ?_
            rotate_left 1
            · intro w hSw; (try dsimp only at hSw); go_simp; all_goals with_reducible rfl
            try simp only [Act.put, List.setIfInBounds_toArray, List.set_cons_zero, List.set_cons_succ]
            refine takeO 10 (some 142) (v := ?_) rfl rfl (by kernel_rfl) (by kernel_rfl) (by kernel_rfl) (fun _ _ _ h => h) (Or.inl ⟨by rfl, ?_⟩) (by assumption) ?_
            rotate_left 1
            · intro w hSw; (try dsimp only at hSw); go_simp; all_goals with_reducible rfl
            try simp only [Act.put, List.setIfInBounds_toArray, List.set_cons_zero, List.set_cons_succ]
            refine takeO 11 (some 143) (v := ?_) rfl rfl (by kernel_rfl) (by kernel_rfl) (by kernel_rfl) (fun _ _ _ h => h) (Or.inl ⟨by rfl, ?_⟩) (by assumption) ?_
            rotate_left 1
            · intro w hSw; (try dsimp only at hSw); go_simp; all_goals with_reducible rfl
            try simp only [Act.put, List.setIfInBounds_toArray, List.set_cons_zero, List.set_cons_succ]
            refine takeO 12 (some 144) (v := ?_) rfl rfl (by kernel_rfl) (by kernel_rfl) (by kernel_rfl) (fun _ _ _ h => h) (Or.inl ⟨by rfl, ?_⟩) (by assumption) ?_
            rotate_left 1
            · intro w hSw; (try dsimp only at hSw); go_simp; all_goals with_reducible rfl
            try simp only [Act.put, List.setIfInBounds_toArray, List.set_cons_zero, List.set_cons_succ]
            refine takeO 13 (some 145) (v := ?_) rfl rfl (by kernel_rfl) (by kernel_rfl) (by kernel_rfl) (fun _ _ _ h => h) (Or.inl ⟨by rfl, ?_⟩) (by assumption) ?_
            rotate_left 1
            · intro w hSw; (try dsimp only at hSw); go_simp; all_goals with_reducible rfl
            try simp only [Act.put, List.setIfInBounds_toArray, List.set_cons_zero, List.set_cons_succ]
            refine takeO 14 (some 146) (v := ?_) rfl rfl (by kernel_rfl) (by kernel_rfl) (by kernel_rfl) (fun _ _ _ h => h) (Or.inl ⟨by rfl, ?_⟩) (by assumption) ?_
            rotate_left 1
            · intro w hSw; (try dsimp only at hSw); go_simp; all_goals with_reducible rfl
            try simp only [Act.put, List.setIfInBounds_toArray, List.set_cons_zero, List.set_cons_succ]
            refine wpAnyH_ready (rs := [15]) (by kernel_rfl) (by simp) ?_
            refine AllReadyH.cons rfl (fun K hK => ?_) AllReadyH.nil
            go_simp
            go_at_call 47; (with_reducible refine (HDY.out _).mono ?_); rintro e u8 ⟨rfl, hb⟩; have HSN := Lib.hid (HGB.out.trans (hb.mono HGB.out.size)); clear HGB; have HGB := HSN; clear HSN; clear hb
            go_wp2_with fail
            refine hK.out _ _ (by exact ⟨(Blk.below HK.out HGB.out (Blk.lt HK.out)).cell 0, (Blk.below HK.out HGB.out (Blk.lt HK.out)).cell 1, (HGB.out.cell (p := ⟨bb, ob, none⟩) hbb).trans HY0.out, (HGB.out.cell (p := ⟨bb, ob + 1, none⟩) hbb).trans HY1.out⟩) (fun hHeld => ?_)
            clear hK K
            try simp only [Act.put, List.setIfInBounds_toArray, List.set_cons_zero, List.set_cons_succ]
            refine takeO 16 (some 148) (v := ?_) rfl rfl (by kernel_rfl) (by kernel_rfl) (by kernel_rfl) (fun _ _ _ h => h) (Or.inl ⟨by rfl, ?_⟩) (by assumption) ?_
            rotate_left 1
            · intro w hSw; (try dsimp only at hSw); go_simp; all_goals with_reducible rfl
            try simp only [Act.put, List.setIfInBounds_toArray, List.set_cons_zero, List.set_cons_succ]
            refine takeO 17 (some 149) (v := ?_) rfl rfl (by kernel_rfl) (by kernel_rfl) (by kernel_rfl) (fun _ _ _ h => h) (Or.inl ⟨by rfl, ?_⟩) (by assumption) ?_
            rotate_left 1
            · intro w hSw; (try dsimp only at hSw); go_simp; all_goals with_reducible rfl
            try simp only [Act.put, List.setIfInBounds_toArray, List.set_cons_zero, List.set_cons_succ]
            refine takeO 18 (some 150) (v := ?_) rfl rfl (by kernel_rfl) (by kernel_rfl) (by kernel_rfl) (fun _ _ _ h => h) (Or.inl ⟨by rfl, ?_⟩) (by assumption) ?_
            rotate_left 1
            · intro w hSw; (try dsimp only at hSw); go_simp; all_goals with_reducible rfl
            try simp only [Act.put, List.setIfInBounds_toArray, List.set_cons_zero, List.set_cons_succ]
            refine takeO 19 (some 151) (v := ?_) rfl rfl (by kernel_rfl) (by kernel_rfl) (by kernel_rfl) (fun _ _ _ h => h) (Or.inl ⟨by rfl, ?_⟩) (by assumption) ?_
            rotate_left 1
            · intro w hSw; (try dsimp only at hSw); go_simp; all_goals with_reducible rfl
            try simp only [Act.put, List.setIfInBounds_toArray, List.set_cons_zero, List.set_cons_succ]
            refine takeO 20 (some 152) (v := ?_) rfl rfl (by kernel_rfl) (by kernel_rfl) (by kernel_rfl) (fun _ _ _ h => h) (Or.inl ⟨by rfl, ?_⟩) (by assumption) ?_
            rotate_left 1
            · intro w hSw; (try dsimp only at hSw); go_simp; all_goals with_reducible rfl
            try simp only [Act.put, List.setIfInBounds_toArray, List.set_cons_zero, List.set_cons_succ]
            refine takeO 21 (some 153) (v := ?_) rfl rfl (by kernel_rfl) (by kernel_rfl) (by kernel_rfl) (fun _ _ _ h => h) (Or.inl ⟨by rfl, ?_⟩) (by assumption) ?_
            rotate_left 1
            · intro w hSw; (try dsimp only at hSw); go_simp; all_goals with_reducible rfl
            try simp only [Act.put, List.setIfInBounds_toArray, List.set_cons_zero, List.set_cons_succ]
            refine takeO 22 (some 154) (v := ?_) rfl rfl (by kernel_rfl) (by kernel_rfl) (by kernel_rfl) (fun _ _ _ h => h) (Or.inl ⟨by rfl, ?_⟩) (by assumption) ?_
            rotate_left 1
            · intro w hSw; (try dsimp only at hSw); go_simp; all_goals with_reducible rfl
            try simp only [Act.put, List.setIfInBounds_toArray, List.set_cons_zero, List.set_cons_succ]
            refine takeO 23 (some 155) (v := ?_) rfl rfl (by kernel_rfl) (by kernel_rfl) (by kernel_rfl) (fun _ _ _ h => h) (Or.inl ⟨by rfl, ?_⟩) (by assumption) ?_
            rotate_left 1
            · intro w hSw; (try dsimp only at hSw); go_simp; all_goals with_reducible rfl
            try simp only [Act.put, List.setIfInBounds_toArray, List.set_cons_zero, List.set_cons_succ]
            refine takeO 24 (some 156) (v := ?_) rfl rfl (by kernel_rfl) (by kernel_rfl) (by kernel_rfl) (fun _ _ _ h => h) (Or.inl ⟨by rfl, ?_⟩) (by assumption) ?_
            rotate_left 1
            · intro w hSw; (try dsimp only at hSw); go_simp; all_goals with_reducible rfl
            try simp only [Act.put, List.setIfInBounds_toArray, List.set_cons_zero, List.set_cons_succ]
            refine takeO 25 (some 157) (v := ?_) rfl rfl (by kernel_rfl) (by kernel_rfl) (by kernel_rfl) (fun _ _ _ h => h) (Or.inl ⟨by rfl, ?_⟩) (by assumption) ?_
            rotate_left 1
            · intro w hSw; (try dsimp only at hSw); go_simp; all_goals with_reducible rfl
            try simp only [Act.put, List.setIfInBounds_toArray, List.set_cons_zero, List.set_cons_succ]
            refine takeO 26 (some 158) (v := ?_) rfl rfl (by kernel_rfl) (by kernel_rfl) (by kernel_rfl) (fun _ _ _ h => h) (Or.inl ⟨by rfl, ?_⟩) (by assumption) ?_
            rotate_left 1
            · intro w hSw; (try dsimp only at hSw); go_simp; all_goals with_reducible rfl
            try simp only [Act.put, List.setIfInBounds_toArray, List.set_cons_zero, List.set_cons_succ]
            refine takeO 27 (some 159) (v := ?_) rfl rfl (by kernel_rfl) (by kernel_rfl) (by kernel_rfl) (fun _ _ _ h => h) (Or.inl ⟨by rfl, ?_⟩) (by assumption) ?_
            rotate_left 1
            · intro w hSw; (try dsimp only at hSw); go_simp; all_goals with_reducible rfl
            try simp only [Act.put, List.setIfInBounds_toArray, List.set_cons_zero, List.set_cons_succ]
            refine takeO 28 (some 160) (v := ?_) rfl rfl (by kernel_rfl) (by kernel_rfl) (by kernel_rfl) (fun _ _ _ h => h) (Or.inl ⟨by rfl, ?_⟩) (by assumption) ?_
            rotate_left 1
            · intro w hSw; (try dsimp only at hSw); go_simp; all_goals with_reducible rfl
            try simp only [Act.put, List.setIfInBounds_toArray, List.set_cons_zero, List.set_cons_succ]
            refine takeO 29 (some 161) (v := ?_) rfl rfl (by kernel_rfl) (by kernel_rfl) (by kernel_rfl) (fun _ _ _ h => h) (Or.inl ⟨by rfl, ?_⟩) (by assumption) ?_
            rotate_left 1
            · intro w hSw; (try dsimp only at hSw); go_simp; all_goals with_reducible rfl
            try simp only [Act.put, List.setIfInBounds_toArray, List.set_cons_zero, List.set_cons_succ]
            refine takeO 30 (some 162) (v := ?_) rfl rfl (by kernel_rfl) (by kernel_rfl) (by kernel_rfl) (fun _ _ _ h => h) (Or.inl ⟨by rfl, ?_⟩) (by assumption) ?_
            rotate_left 1
            · intro w hSw; (try dsimp only at hSw); go_simp; all_goals with_reducible rfl
            try simp only [Act.put, List.setIfInBounds_toArray, List.set_cons_zero, List.set_cons_succ]
            refine takeO 31 (some 163) (v := ?_) rfl rfl (by kernel_rfl) (by kernel_rfl) (by kernel_rfl) (fun _ _ _ h => h) (Or.inl ⟨by rfl, ?_⟩) (by assumption) ?_
            rotate_left 1
            · intro w hSw; (try dsimp only at hSw); go_simp; all_goals with_reducible rfl
            try simp only [Act.put, List.setIfInBounds_toArray, List.set_cons_zero, List.set_cons_succ]
            refine takeO 32 (some 164) (v := undef) rfl rfl (by kernel_rfl) (by kernel_rfl) (by kernel_rfl) (fun _ _ _ h => h) (Or.inr ⟨by rfl, rfl⟩) (by assumption) ?_
            try simp only [Act.put, List.setIfInBounds_toArray, List.set_cons_zero, List.set_cons_succ]
            refine takeO 33 (some 165) (v := undef) rfl rfl (by kernel_rfl) (by kernel_rfl) (by kernel_rfl) (fun _ _ _ h => h) (Or.inr ⟨by rfl, rfl⟩) (by assumption) ?_
            try simp only [Act.put, List.setIfInBounds_toArray, List.set_cons_zero, List.set_cons_succ]
            refine takeO 34 (some 166) (v := undef) rfl rfl (by kernel_rfl) (by kernel_rfl) (by kernel_rfl) (fun _ _ _ h => h) (Or.inr ⟨by rfl, rfl⟩) (by assumption) ?_
            try simp only [Act.put, List.setIfInBounds_toArray, List.set_cons_zero, List.set_cons_succ]
            refine takeO 35 (some 167) (v := undef) rfl rfl (by kernel_rfl) (by kernel_rfl) (by kernel_rfl) (fun _ _ _ h => h) (Or.inr ⟨by rfl, rfl⟩) (by assumption) ?_
            try simp only [Act.put, List.setIfInBounds_toArray, List.set_cons_zero, List.set_cons_succ]
            refine takeO 36 (some 168) (v := undef) rfl rfl (by kernel_rfl) (by kernel_rfl) (by kernel_rfl) (fun _ _ _ h => h) (Or.inr ⟨by rfl, rfl⟩) (by assumption) ?_
            try simp only [Act.put, List.setIfInBounds_toArray, List.set_cons_zero, List.set_cons_succ]
            refine takeO 37 (some 169) (v := undef) rfl rfl (by kernel_rfl) (by kernel_rfl) (by kernel_rfl) (fun _ _ _ h => h) (Or.inr ⟨by rfl, rfl⟩) (by assumption) ?_
            try simp only [Act.put, List.setIfInBounds_toArray, List.set_cons_zero, List.set_cons_succ]
            refine takeO 38 (some 170) (v := undef) rfl rfl (by kernel_rfl) (by kernel_rfl) (by kernel_rfl) (fun _ _ _ h => h) (Or.inr ⟨by rfl, rfl⟩) (by assumption) ?_
            try simp only [Act.put, List.setIfInBounds_toArray, List.set_cons_zero, List.set_cons_succ]
            refine takeO 39 (some 171) (v := undef) rfl rfl (by kernel_rfl) (by kernel_rfl) (by kernel_rfl) (fun _ _ _ h => h) (Or.inr ⟨by rfl, rfl⟩) (by assumption) ?_
            try simp only [Act.put, List.setIfInBounds_toArray, List.set_cons_zero, List.set_cons_succ]
            refine takeO 40 (some 172) (v := undef) rfl rfl (by kernel_rfl) (by kernel_rfl) (by kernel_rfl) (fun _ _ _ h => h) (Or.inr ⟨by rfl, rfl⟩) (by assumption) ?_
            try simp only [Act.put, List.setIfInBounds_toArray, List.set_cons_zero, List.set_cons_succ]
            refine takeO 41 (some 173) (v := undef) rfl rfl (by kernel_rfl) (by kernel_rfl) (by kernel_rfl) (fun _ _ _ h => h) (Or.inr ⟨by rfl, rfl⟩) (by assumption) ?_
            try simp only [Act.put, List.setIfInBounds_toArray, List.set_cons_zero, List.set_cons_succ]
            refine takeO 42 (some 174) (v := undef) rfl rfl (by kernel_rfl) (by kernel_rfl) (by kernel_rfl) (fun _ _ _ h => h) (Or.inr ⟨by rfl, rfl⟩) (by assumption) ?_
            try simp only [Act.put, List.setIfInBounds_toArray, List.set_cons_zero, List.set_cons_succ]
            refine takeO 43 (some 175) (v := ?_) rfl rfl (by kernel_rfl) (by kernel_rfl) (by kernel_rfl) (fun _ _ _ h => h) (Or.inl ⟨by rfl, ?_⟩) (by assumption) ?_
            rotate_left 1
            · intro w hSw; (try dsimp only at hSw); go_simp; all_goals with_reducible rfl
            try simp only [Act.put, List.setIfInBounds_toArray, List.set_cons_zero, List.set_cons_succ]
            refine takeO 44 (some 176) (v := ?_) rfl rfl (by kernel_rfl) (by kernel_rfl) (by kernel_rfl) (fun _ _ _ h => h) (Or.inl ⟨by rfl, ?_⟩) (by assumption) ?_
            rotate_left 1
            · intro w hSw; (try dsimp only at hSw); go_simp; all_goals with_reducible rfl
            try simp only [Act.put, List.setIfInBounds_toArray, List.set_cons_zero, List.set_cons_succ]
            refine wpAnyH_done (by kernel_rfl) ?_ _
            have HBN := Lib.hid (HBL.out.trans (HGB.out.mono HBL.out.size))
            go_wp2_with fail
            go_roundw
            case rel => exact ⟨1, by omega, by go_num, HBN.out⟩
            case measure => simp [intOf]; omega
          · obtain ⟨d, hd⟩ : ∃ d, c - 1 = d := ⟨_, rfl⟩
            have hdc : d + 1 = c := by omega
            obtain ⟨x, hx⟩ : ∃ x, tl[d]? = some x := ⟨_, List.getElem?_eq_getElem (by omega)⟩
            have HLE := Lib.hid (iless_any x y)
            rw [HTS.out d x y hx (by rw [hdc]; exact HYC.out)] at HLE
            obtain ⟨bb', ob', e, hbb', hcx⟩ := HX.out.2.2.2.2 d x hx
            obtain ⟨rfl, rfl⟩ : bb = bb' ∧ ob = ob' := by cases e; exact ⟨rfl, rfl⟩
            have HZ0 := Lib.hid (show wr.cell? ⟨bb, ob + d * 2, none⟩ = some (.int .i64 x.1) from hcx 0 (by decide))
            have HZ1 := Lib.hid (show wr.cell? ⟨bb, ob + d * 2 + 1, none⟩ = some (.string x.2) from hcx 1 (by decide))
            have wd : IntKind.i64.wrap ((c : Int) - 1) = (d : Int) := by rw [IntWalk.i64_in _ (by omega)]; omega
            have k5 : (0 : Int) ≤ (d : Int) := by omega
            have k6 : (d : Int) < (tl.length : Int) := by omega
            have k7 : decide ((0 : Int) < (c : Int)) = true := by simp; omega
            have k8 : 0 < c := by omega
            have k9 : decide (0 < c) = true := by simpa using k8
            clear hx hcx e hd hdc hc0
            go_upto_region 28 with fail
            go_region_held3 (fun w' => w'.cell? ⟨w.heap.size, 0, none⟩ = some (.string q) ∧ w'.cell? ⟨w.heap.size, 1, none⟩ = some (.int .i64 k) ∧ w'.cell? ⟨bb, ob + c * 2, none⟩ = some (.int .i64 y.1) ∧ w'.cell? ⟨bb, ob + c * 2 + 1, none⟩ = some (.string y.2) ∧ w'.cell? ⟨bb, ob + d * 2, none⟩ = some (.int .i64 x.1) ∧ w'.cell? ⟨bb, ob + d * 2 + 1, none⟩ = some (.string x.2)) (exact ⟨(Blk.below HK.out HGB.out (Blk.lt HK.out)).cell 0, (Blk.below HK.out HGB.out (Blk.lt HK.out)).cell 1, (HGB.out.cell (p := ⟨bb, ob + c * 2, none⟩) hbb).trans HY0.out, (HGB.out.cell (p := ⟨bb, ob + c * 2 + 1, none⟩) hbb).trans HY1.out, (HGB.out.cell (p := ⟨bb, ob + d * 2, none⟩) hbb).trans HZ0.out, (HGB.out.cell (p := ⟨bb, ob + d * 2 + 1, none⟩) hbb).trans HZ1.out⟩) (first | (go_at_call 47; (with_reducible refine (HDY.out _).mono ?_); rintro e u8 ⟨rfl, hb⟩; have HSN := Lib.hid (HGB.out.trans (hb.mono HGB.out.size)); clear HGB; have HGB := HSN; clear HSN; clear hb) | (go_at_call 32; (with_reducible refine (HLE.out _).mono ?_); rintro e u9 ⟨rfl, hb⟩; have HSN := Lib.hid (HGB.out.trans (hb.mono HGB.out.size)); clear HGB; have HGB := HSN; clear HSN; clear hb))
            rename_i hHeld
            clear hHeld wd
            have HBN := Lib.hid (HBL.out.trans (HGB.out.mono HBL.out.size))
            go_wp2_with fail
            go_roundw
            case rel => exact ⟨c + 1, by omega, by go_num, HBN.out⟩
            case measure => simp [intOf]; omega
        · obtain rfl : c = tl.length := by omega
          have hmin := HMIN.out
          have t0 : wr.cell? ⟨w.heap.size, 0, none⟩ = some (.string q) := HK.out.cell 0
          have t1 : wr.cell? ⟨w.heap.size, 1, none⟩ = some (.int .i64 k) := HK.out.cell 1
          have t2 : wr.cell? ⟨w.heap.size, 2, none⟩ = some (.int .i64 m) := HK.out.cell 2
          go_wp2_with fail
          refine (HZ.out _).mono ?_
          rintro e w1 ⟨rfl, hb⟩
          have HB3 := Lib.hid (HB.out.trans (hb.mono HB.out.size))
          clear hb
          go_wp2_with fail
          go_ret
          exact ⟨rfl, HB3.out⟩
end Go.Proofs.Ytiohngcmojkheaa
