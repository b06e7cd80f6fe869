/- RankMore. -/
import Derived.Test.YtiohngcmojkheaaRk4
import Derived.Test.YtiohngcmojkheaaLow
namespace Go.Proofs.Ytiohngcmojkheaa
open Go.RowKit
set_option linter.unusedVariables false

theorem mayQ_of {q : ByteArray} {k n : Int} (h : mayQ q k n = true) : askedB q = true ∧ 0 ≤ k ∧ k ≤ 4 ∧ 1 ≤ n ∧ n ≤ 10 := by
  unfold mayQ at h
  simp only [Bool.and_eq_true, decide_eq_true_eq] at h
  exact ⟨h.1.1.1.1, h.1.1.1.2, h.1.1.2, h.1.2, h.2⟩
theorem mayQ_mk {q : ByteArray} {k n : Int} (h0 : askedB q = true) (h1 : 0 ≤ k) (h2 : k ≤ 4) (h3 : 1 ≤ n) (h4 : n ≤ 10) : mayQ q k n = true := by
  unfold mayQ
  simp only [Bool.and_eq_true, decide_eq_true_eq]
  exact ⟨⟨⟨⟨h0, h1⟩, h2⟩, h3⟩, h4⟩
theorem topL_may {words : List ByteArray} {q : ByteArray} {k n : Int} (h : mayQ q k n = true) : topL words q k n = (allL words q k).take n.toNat := by unfold topL; rw [if_pos h]
theorem take_take_le {α : Type} (l : List α) {a b : Nat} (h : a ≤ b) : (l.take b).take (l.take a).length = l.take a := by
  rw [List.take_take, List.length_take]
  by_cases hl : a ≤ l.length
  · rw [show min a l.length = a by omega, show min a b = a by omega]
  · rw [show min a l.length = l.length by omega]
    rw [List.take_of_length_le (show l.length ≤ a by omega)]
    by_cases hb : l.length ≤ b
    · rw [show min l.length b = l.length by omega, List.take_length]
    · omega
/-- a greater N: what was told first stays a beginning -/
theorem topL_moreN {words : List ByteArray} {q : ByteArray} {k n m : Int} (h : mayQ q k n = true) (h1 : n ≤ m) (h2 : m ≤ 10) : (topL words q k n).length ≤ (topL words q k m).length ∧ (topL words q k m).take (topL words q k n).length = topL words q k n := by
  obtain ⟨a, b, c, d, e⟩ := mayQ_of h
  have hm := mayQ_mk a b c (show 1 ≤ m by omega) h2
  rw [topL_may h, topL_may hm]
  have hle : n.toNat ≤ m.toNat := by omega
  exact ⟨by rw [List.length_take, List.length_take]; omega, take_take_le _ hle⟩
theorem nearI_mem {words : List ByteArray} {s : ByteArray} {k : Int} {x : KeyL} (h : x ∈ nearI words s k) : x.2 ∈ words ∧ x.1 = distT s x.2 ∧ 0 ≤ x.1 ∧ x.1 ≤ k := by
  unfold nearI at h
  obtain ⟨w, hw, hx⟩ := List.mem_filterMap.1 h
  unfold nearO nearT at hx
  by_cases hc : 0 ≤ distT s w ∧ distT s w ≤ k
  · rw [if_pos hc] at hx
    simp only [if_true, Option.some.injEq] at hx
    subst hx
    exact ⟨hw, rfl, hc.1, hc.2⟩
  · rw [if_neg hc] at hx; simp at hx
theorem nearI_split (words : List ByteArray) (s : ByteArray) (k : Int) : (nearI words s (k + 1)).Perm (nearI words s k ++ (nearI words s (k + 1)).filter (fun x => decide (k < x.1))) := by
  induction words with
  | nil => exact List.Perm.refl _
  | cons w r ih =>
    have hc : ∀ j, nearI (w :: r) s j = (match nearO s j w with | none => nearI r s j | some x => x :: nearI r s j) := fun j => by
      unfold nearI; rw [List.filterMap_cons]; cases nearO s j w <;> rfl
    rw [hc, hc]
    have ho : ∀ j, nearO s j w = if 0 ≤ distT s w ∧ distT s w ≤ j then some (distT s w, w) else none := fun j => by
      unfold nearO nearT
      by_cases h : 0 ≤ distT s w ∧ distT s w ≤ j
      · rw [if_pos h, if_pos h]; rfl
      · rw [if_neg h, if_neg h]; rfl
    rw [ho, ho]
    by_cases h1 : 0 ≤ distT s w ∧ distT s w ≤ k
    · rw [if_pos (show 0 ≤ distT s w ∧ distT s w ≤ k + 1 by omega), if_pos h1]
      simp only [List.filter_cons, List.cons_append]
      rw [if_neg (by simp; omega)]
      exact ih.cons _
    · rw [if_neg h1]
      by_cases h2 : 0 ≤ distT s w ∧ distT s w ≤ k + 1
      · rw [if_pos h2]
        simp only [List.filter_cons]
        rw [if_pos (by simp; omega)]
        exact (ih.cons _).trans List.perm_middle.symm
      · rw [if_neg h2]; exact ih
/-- with a greater bound: those that are near stand first -/
theorem allL_more (words : List ByteArray) (s : ByteArray) (k : Int) : ∃ r, allL words s (k + 1) = allL words s k ++ r := by
  refine ⟨sortL ((nearI words s (k + 1)).filter (fun x => decide (k < x.1))), ?_⟩
  refine (sortL_of ?_ ?_).symm
  · refine List.pairwise_append.2 ⟨sortL_sorted _, sortL_sorted _, fun a ha b hb => ?_⟩
    have h1 := nearI_mem (sortL_mem.1 ha)
    have h2 := (List.mem_filter.1 (sortL_mem.1 hb)).2
    rw [decide_eq_true_eq] at h2
    have : kless a b = true := (kless_iff a b).2 (.inl (by omega))
    exact kless_asym this
  · exact ((sortL_perm _).append (sortL_perm _)).trans (nearI_split words s k).symm
theorem topL_moreK {words : List ByteArray} {q : ByteArray} {k n : Int} (h : mayQ q k n = true) (h4 : k + 1 ≤ 4) : (topL words q k n).length ≤ (topL words q (k + 1) n).length ∧ (topL words q (k + 1) n).take (topL words q k n).length = topL words q k n := by
  obtain ⟨a, b, c, d, e⟩ := mayQ_of h
  have hm := mayQ_mk a (show 0 ≤ k + 1 by omega) h4 d e
  rw [topL_may h, topL_may hm]
  obtain ⟨r, hr⟩ := allL_more words q k
  rw [hr]
  refine ⟨by rw [List.length_take, List.length_take, List.length_append]; omega, ?_⟩
  rw [List.take_take, List.length_take, show min (min n.toNat (allL words q k).length) n.toNat = min n.toNat (allL words q k).length by omega]
  rw [List.take_append_of_le_length (by omega)]
  by_cases hl : n.toNat ≤ (allL words q k).length
  · rw [show min n.toNat (allL words q k).length = n.toNat by omega]
  · rw [show min n.toNat (allL words q k).length = (allL words q k).length by omega, List.take_length, List.take_of_length_le (by omega)]
def qcells (q : ByteArray) (k n : Int) : List Value := [.string q, .int .i64 k, .int .i64 n]
set_option maxRecDepth 100000 in
set_option maxHeartbeats 8000000 in
theorem more_law (w : World) (ao : Option Addr) (n c : Nat) (words : List ByteArray) (q : ByteArray) (k m x : Int) (hr : RdT w ao n c words) (hw : ∀ s ∈ words, s.size ≤ maxLen) (hq : q.size ≤ maxLen) :
    Calls Try.prog 4 #[.slice ao n c, .agg #[.string q, .int .i64 k, .int .i64 m], .int .i64 x] w fun e w' => e = .returned (.bool true) ∧ Below w.heap.size w w' := by
  have HR := Lib.hid hr
  have HGR := Lib.hid (fun W h => greatT_any ao n c words W h hw)
  have HMAY := Lib.hid (fun W => rmay_any q k m W hq)
  have HTOP := Lib.hid (fun W k m h hn hw hs => rtop_any W ao n c words q k m h hn hw hs)
  have HSM := Lib.hid (fun a n cap b m bcap l r w h1 h2 => sameI_any a n cap b m bcap l r w h1 h2)
  have HLOW := Lib.hid (fun n w h1 h2 => low_any x n w h1 h2)
  have HZ : RowKit.Hid (∀ V, Calls Try.prog 15 #[] V fun e w' => e = .returned (.bool true) ∧ Below V.heap.size V w') := fun V => awake_any V
  have HB := Lib.hid ((Below.refl _ w).alloc (Nat.le_refl _) (.cells #[.string q, .int .i64 k, .int .i64 m] 24))
  have HK := Lib.hid (show Blk (w.alloc (.cells #[.string q, .int .i64 k, .int .i64 m] 24)) w.heap.size 24 [.string q, .int .i64 k, .int .i64 m] from heap_alloc_new w _)
  clear hr hw
  unfold maxLen at hq
  go_enter Try.func4, Try.ntmps4
  go_wp2_with fail
  generalize w.alloc (.cells #[.string q, .int .i64 k, .int .i64 m] 24) = W at *
  refine (HGR.out W (Rd.below HR.out HB.out rfl)).mono ?_
  rintro e w0 ⟨rfl, rfl⟩
  clear HGR
  have c0 : W.cell? ⟨w.heap.size, 0, none⟩ = some (.string q) := HK.out.cell 0
  have c1 : W.cell? ⟨w.heap.size, 1, none⟩ = some (.int .i64 k) := HK.out.cell 1
  have c2 : W.cell? ⟨w.heap.size, 2, none⟩ = some (.int .i64 m) := HK.out.cell 2
  cases hg : greatT words
  case true =>
    clear hg
    go_wp2_with fail
    refine (HZ.out _).mono ?_
    rintro e w1 ⟨rfl, hb⟩
    have HB1 := Lib.hid (HB.out.trans (hb.mono HB.out.size))
    clear hb
    go_wp2_with fail
    go_ret
    exact ⟨rfl, HB1.out⟩
  have hl80 := (greatT_false hg).1
  have HW := Lib.hid (fun s hs => Nat.le_trans ((greatT_false hg).2 s hs) (by decide : 100 ≤ 1000))
  clear hg
  by_cases hqs : 100 < q.size
  · have d1 : decide ((100 : Int) < (q.size : Int)) = true := by simp; omega
    have d2 : decide (100 < q.size) = true := by simpa using hqs
    go_wp2_with fail
    refine (HZ.out _).mono ?_
    rintro e w1 ⟨rfl, hb⟩
    have HB1 := Lib.hid (HB.out.trans (hb.mono HB.out.size))
    clear hb
    go_wp2_with fail
    go_ret
    exact ⟨rfl, HB1.out⟩
  have d1 : decide ((100 : Int) < (q.size : Int)) = false := by simp; omega
  have d2 : decide (100 < q.size) = false := by simpa using hqs
  have hq1 : q.size ≤ 1000 := by omega
  go_wp2_with fail
  refine (HMAY.out _).mono ?_
  rintro e w1 ⟨rfl, hb⟩
  have HB1 := Lib.hid (HB.out.trans (hb.mono HB.out.size))
  have HK1 := Lib.hid (HK.out.below hb (Blk.lt HK.out))
  clear hb HB HK c0 c1 c2 d1 d2 hqs
  cases hm : mayQ q k m
  case false =>
    clear hm
    go_wp2_with fail
    refine (HZ.out _).mono ?_
    rintro e w1 ⟨rfl, hb⟩
    have HB2 := Lib.hid (HB1.out.trans (hb.mono HB1.out.size))
    clear hb
    go_wp2_with fail
    go_ret
    exact ⟨rfl, HB2.out⟩
  obtain ⟨_, k1, k2, m1, m2⟩ := mayQ_of hm
  have HMQ := Lib.hid hm
  have c0 : w1.cell? ⟨w.heap.size, 0, none⟩ = some (.string q) := HK1.out.cell 0
  have c1 : w1.cell? ⟨w.heap.size, 1, none⟩ = some (.int .i64 k) := HK1.out.cell 1
  have c2 : w1.cell? ⟨w.heap.size, 2, none⟩ = some (.int .i64 m) := HK1.out.cell 2
  clear hm HMAY
  have wa : IntKind.i64.wrap (10 - m) = 10 - m := IntWalk.i64_in _ (by omega)
  have wb : IntKind.i64.wrap (10 - m + 1) = 10 - m + 1 := IntWalk.i64_in _ (by omega)
  have hlo := lowI_bd x (10 - m + 1) (by omega)
  have HLW := Lib.hid (fun W => HLOW.out (10 - m + 1) W (by omega) (by omega))
  obtain ⟨y, hy⟩ : ∃ y, lowI x (10 - m + 1) = y := ⟨_, rfl⟩
  rw [hy] at hlo HLW
  obtain ⟨m', hm'⟩ : ∃ z, m + y = z := ⟨_, rfl⟩
  have wc : IntKind.i64.wrap (m + y) = m' := by rw [IntWalk.i64_in _ (by omega)]; exact hm'
  have hmm1 : m ≤ m' := by omega
  have hmm2 : m' ≤ 10 := by omega
  clear hy hlo hm' HLOW
  go_upto_region 4 with fail
  have HB2 := Lib.hid (HB1.out.alloc HB1.out.size (.cells #[.string q, .int .i64 k, .int .i64 m] 24))
  have HK2 := Lib.hid (HK1.out.alloc (.cells #[.string q, .int .i64 k, .int .i64 m] 24))
  have HM2 := Lib.hid (show Blk (w1.alloc (.cells #[.string q, .int .i64 k, .int .i64 m] 24)) w1.heap.size 24 [.string q, .int .i64 k, .int .i64 m] from heap_alloc_new w1 _)
  have hps := Blk.lt HK1.out
  have hws := HB1.out.size
  generalize w1.alloc (.cells #[.string q, .int .i64 k, .int .i64 m] 24) = W2 at *
  clear HB1 HK1 c0 c1 c2
  have c2 : W2.cell? ⟨w.heap.size, 2, none⟩ = some (.int .i64 m) := HK2.out.cell 2
  have e2 : W2.cell? ⟨w1.heap.size, 2, none⟩ = some (.int .i64 m) := HM2.out.cell 2
  have f2 : W2.frozen? ⟨w1.heap.size, 2, none⟩ = false := HM2.out.frozen 2
  have HB3 := Lib.hid (show Below w.heap.size w ((W2.setCell ⟨w1.heap.size, 2, none⟩ (.int .i64 m')).drew) from below_drewN (HB2.out.setCell (by simpa using hws) _) 1)
  have HK3 := Lib.hid (show Blk ((W2.setCell ⟨w1.heap.size, 2, none⟩ (.int .i64 m')).drew) w.heap.size 24 [.string q, .int .i64 k, .int .i64 m] from show Blk (W2.setCell ⟨w1.heap.size, 2, none⟩ (.int .i64 m')) _ _ _ from Blk.far HK2.out _ _ (by simpa using Nat.ne_of_lt hps))
  have HM3 := Lib.hid (show Blk ((W2.setCell ⟨w1.heap.size, 2, none⟩ (.int .i64 m')).drew) w1.heap.size 24 [.string q, .int .i64 k, .int .i64 m'] from show Blk (W2.setCell ⟨w1.heap.size, 2, none⟩ (.int .i64 m')) _ _ _ from Blk.set HM2.out 2 _)
  go_region_held3 (fun w' => w'.cell? ⟨w.heap.size, 2, none⟩ = some (.int .i64 m)) (first | exact HK3.out.cell 2 | go_keep) ((go_at_call 26; with_reducible refine (HLW.out _).mono ?_; rintro e u ⟨rfl, rfl⟩))
  clear hps hws
  generalize (W2.setCell ⟨w1.heap.size, 2, none⟩ (.int .i64 m')).drew = W3 at *
  clear HB2 HK2 HM2 c2 e2 f2 wa wb wc HLW
  have HGB : RowKit.Hid (Below W3.heap.size W3 W3.drew) := below_drewN (Below.refl _ _) 1
  have HR3 := Lib.hid (fun V (hb : Below W3.heap.size W3 V) => (show RdT V ao n c words from Rd.below (Rd.below HR.out HB3.out rfl) hb rfl))
  have HWS := Lib.hid (show words.length ≤ 1000 from by omega)
  go_upto_region 5 with fail
  go_region_held3 (fun w' => w'.cell? ⟨w.heap.size, 0, none⟩ = some (.string q) ∧ w'.cell? ⟨w.heap.size, 1, none⟩ = some (.int .i64 k) ∧ w'.cell? ⟨w.heap.size, 2, none⟩ = some (.int .i64 m) ∧ w'.cell? ⟨w1.heap.size, 0, none⟩ = some (.string q) ∧ w'.cell? ⟨w1.heap.size, 1, none⟩ = some (.int .i64 k) ∧ w'.cell? ⟨w1.heap.size, 2, none⟩ = some (.int .i64 m')) (exact ⟨(Blk.below HK3.out HGB.out (Blk.lt HK3.out)).cell 0, (Blk.below HK3.out HGB.out (Blk.lt HK3.out)).cell 1, (Blk.below HK3.out HGB.out (Blk.lt HK3.out)).cell 2, (Blk.below HM3.out HGB.out (Blk.lt HM3.out)).cell 0, (Blk.below HM3.out HGB.out (Blk.lt HM3.out)).cell 1, (Blk.below HM3.out HGB.out (Blk.lt HM3.out)).cell 2⟩) (first | (go_at_call 17; (with_reducible refine (HTOP.out _ k m (HR3.out _ HGB.out) HWS.out HW.out hq1).mono ?_); rintro e u ⟨a1, c1, rfl, hown, hb⟩; have HA1 := Lib.hid (ownsRow_rdE (enc := KeyL.cells) (fun _ => rfl) rfl hown); have HSN := Lib.hid (HGB.out.trans (hb.mono HGB.out.size)); clear HGB; have HGB := HSN; clear HSN; clear hown hb) | (go_at_call 17; (with_reducible refine (HTOP.out _ k m' (HR3.out _ HGB.out) HWS.out HW.out hq1).mono ?_); rintro e u ⟨a2, c2, rfl, hown, hb⟩; have HA2 := Lib.hid (ownsRow_rdE (enc := KeyL.cells) (fun _ => rfl) rfl hown); have HA3 := Lib.hid (HA1.out.below hb rfl); clear HA1; have HSN := Lib.hid (HGB.out.trans (hb.mono HGB.out.size)); clear HGB; have HGB := HSN; clear HSN; clear hown hb))
  have hnt := topL_moreN (words := words) HMQ.out hmm1 hmm2
  have HKT := Lib.hid (fun h4 => topL_moreK (words := words) HMQ.out h4)
  obtain ⟨A, hA⟩ : ∃ A, topL words q k m = A := ⟨_, rfl⟩
  obtain ⟨B, hB⟩ : ∃ B, topL words q k m' = B := ⟨_, rfl⟩
  rw [hA] at HA3 hnt HKT ⊢
  rw [hB] at HA2 hnt ⊢
  clear hA hB
  have hle := hnt.1
  have HTK := Lib.hid hnt.2
  have hla := (HA3.out).2.1
  have hla2 := (HA3.out).2.2.1
  have hlb := (HA2.out).2.1
  have hlb2 := (HA2.out).2.2.1
  unfold maxLen at hla2 hlb2
  have HTA := Lib.hid ((HA2.out.take A.length hle))
  rw [HTK.out] at HTA
  have HN2 := Lib.hid HA2.out.nil0
  have HKU := Lib.hid (Blk.below HK3.out HGB.out (Blk.lt HK3.out))
  have HBU := Lib.hid (HB3.out.trans (HGB.out.mono HB3.out.size))
  have HRU := Lib.hid (HR3.out _ HGB.out)
  obtain ⟨la, hlae⟩ : ∃ x, A.length = x := ⟨_, rfl⟩
  obtain ⟨lb, hlbe⟩ : ∃ x, B.length = x := ⟨_, rfl⟩
  rw [hlae] at hle hla HTA HA3 HKT ⊢
  rw [hlbe] at hle hlb HN2 ⊢
  have HLA := Lib.hid hlae
  clear hnt HTK HA2 HK3 HM3 HB3 HR3 HGB hlae hlbe
  have b1 : (0 : Int) ≤ (la : Int) := by omega
  have b2 : (la : Int) ≤ (c2 : Int) := by omega
  have b3 : la ≤ c2 := by omega
  have d1 : decide ((lb : Int) < (la : Int)) = false := by simp; omega
  have d2 : decide (lb < la) = false := by simp; omega
  have HSA := Lib.hid (HSM.out a1 la c1 a2 la c2 A A u HA3.out HTA.out)
  rw [eqIs_self] at HSA
  have hor : (a2 = none ∧ c2 = 0 ∧ la = 0) ∨ ∃ ad, a2 = some ad := by
    cases a2 with
    | none => have h := HN2.out rfl; exact .inl ⟨rfl, h.2, by omega⟩
    | some ad => exact .inr ⟨ad, rfl⟩
  rcases hor with ⟨rfl, rfl, rfl⟩ | ⟨ad, rfl⟩
  all_goals
    go_wp2_with fail
    refine HSA.out.mono ?_
    rintro e u2 ⟨rfl, hd⟩
    have HB2 := Lib.hid (HBU.out.trans ((hd.below _).mono HBU.out.size))
    have HK2 := Lib.hid (HKU.out.below (hd.below _) (Blk.lt HKU.out))
    have HA4 := Lib.hid (HA3.out.below (hd.below _) rfl)
    have HR2 := Lib.hid (show RdT u2 ao n c words from Rd.below HRU.out (hd.below _) rfl)
    have g0 : u2.cell? ⟨w.heap.size, 0, none⟩ = some (.string q) := HK2.out.cell 0
    have g1 : u2.cell? ⟨w.heap.size, 1, none⟩ = some (.int .i64 k) := HK2.out.cell 1
    have g2 : u2.cell? ⟨w.heap.size, 2, none⟩ = some (.int .i64 m) := HK2.out.cell 2
    clear hd HBU HKU HA3 HRU HSA HTA HN2
    by_cases hk4 : k = 4
    · have dk : (k == 4) = true := by simpa using hk4
      clear hk4
      go_wp2_with fail
      refine (HZ.out _).mono ?_
      rintro e w1 ⟨rfl, hb⟩
      have HB5 := Lib.hid (HB2.out.trans (hb.mono HB2.out.size))
      clear hb
      go_wp2_with fail
      go_ret
      exact ⟨rfl, HB5.out⟩
    · have dk : (k == 4) = false := by simpa using hk4
      have hkt := HKT.out (by omega)
      obtain ⟨C, hC⟩ : ∃ C, topL words q (k + 1) m = C := ⟨_, rfl⟩
      rw [hC] at hkt
      have hlc := hkt.1
      have HTC := Lib.hid hkt.2
      have HCE := Lib.hid hC
      have wk : IntKind.i64.wrap (k + 1) = k + 1 := IntWalk.i64_in _ (by omega)
      have HBX := Lib.hid (HB2.out.alloc HB2.out.size (.cells #[.string q, .int .i64 (k + 1), .int .i64 m] 24))
      have HQX := Lib.hid (show Blk (u2.alloc (.cells #[.string q, .int .i64 (k + 1), .int .i64 m] 24)) u2.heap.size 24 [.string q, .int .i64 (k + 1), .int .i64 m] from heap_alloc_new u2 _)
      have hbe : Below u2.heap.size u2 (u2.alloc (.cells #[.string q, .int .i64 (k + 1), .int .i64 m] 24)) := (Below.refl _ u2).alloc (Nat.le_refl _) _
      have HRX := Lib.hid (show RdT (u2.alloc (.cells #[.string q, .int .i64 (k + 1), .int .i64 m] 24)) ao n c words from Rd.below HR2.out hbe rfl)
      have HAX := Lib.hid (HA4.out.below hbe rfl)
      have hne : w.heap.size ≠ u2.heap.size := Nat.ne_of_lt (Blk.lt HK2.out)
      have g1a : (u2.alloc (.cells #[.string q, .int .i64 k, .int .i64 m] 24)).cell? ⟨w.heap.size, 1, none⟩ = some (.int .i64 k) := (HK2.out.alloc (.cells #[.string q, .int .i64 k, .int .i64 m] 24)).cell 1
      have hbq : Blk (u2.alloc (.cells #[.string q, .int .i64 k, .int .i64 m] 24)) u2.heap.size 24 [.string q, .int .i64 k, .int .i64 m] := heap_alloc_new u2 _
      have g1b : (u2.alloc (.cells #[.string q, .int .i64 k, .int .i64 m] 24)).cell? ⟨u2.heap.size, 1, none⟩ = some (.int .i64 k) := hbq.cell 1
      have g1f : (u2.alloc (.cells #[.string q, .int .i64 k, .int .i64 m] 24)).frozen? ⟨u2.heap.size, 1, none⟩ = false := hbq.frozen 1
      clear hkt hC hk4 hbe HR2 HA4 HKT hbq
      go_upto_region 12 with fail
      generalize u2.alloc (.cells #[.string q, .int .i64 (k + 1), .int .i64 m] 24) = W6 at *
      have q0 : W6.cell? ⟨u2.heap.size, 0, none⟩ = some (.string q) := HQX.out.cell 0
      have q1 : W6.cell? ⟨u2.heap.size, 1, none⟩ = some (.int .i64 (k + 1)) := HQX.out.cell 1
      have q2 : W6.cell? ⟨u2.heap.size, 2, none⟩ = some (.int .i64 m) := HQX.out.cell 2
      clear g0 g1 g2 g1a g1b g1f wk hne HK2 HB2
      go_wp2_with fail
      refine (HTOP.out W6 (k + 1) m HRX.out HWS.out HW.out hq1).mono ?_
      rintro e w6 ⟨a3, c3, rfl, hown, hb⟩
      rw [HCE.out] at hown ⊢
      have HC := Lib.hid (ownsRow_rdE (enc := KeyL.cells) (fun _ => rfl) rfl hown)
      have HA5 := Lib.hid (HAX.out.below hb rfl)
      have HB6 := Lib.hid (HBX.out.trans (hb.mono HBX.out.size))
      clear hown hb HAX HBX HQX HRX q0 q1 q2 HCE
      have hlc1 := HC.out.2.1
      have hlc2 := HC.out.2.2.1
      unfold maxLen at hlc2
      have HTC2 := Lib.hid (HC.out.take _ hlc)
      rw [HTC.out] at HTC2
      have HN3 := Lib.hid HC.out.nil0
      obtain ⟨lc, hlce⟩ : ∃ x, C.length = x := ⟨_, rfl⟩
      rw [hlce] at hlc hlc1 HN3 ⊢
      clear hlce HC HTC
      have HSC := Lib.hid (HSM.out a1 _ c1 a3 _ c3 A A w6 HA5.out HTC2.out)
      rw [eqIs_self] at HSC
      have hor : (a3 = none ∧ c3 = 0 ∧ lc = 0) ∨ ∃ ad, a3 = some ad := by
        cases a3 with
        | none => have h := HN3.out rfl; exact .inl ⟨rfl, h.2, h.1⟩
        | some ad => exact .inr ⟨ad, rfl⟩
      clear HN3
      try have c1' : (la : Int) ≤ (c3 : Int) := by omega
      try have c2' : la ≤ c3 := by omega
      try have dge : decide ((la : Int) ≤ (lc : Int)) = true := by simp; omega
      try have dge2 : decide (la ≤ lc) = true := by simp; omega
      rcases hor with ⟨rfl, rfl, rfl⟩ | ⟨ad3, rfl⟩
      · have hz := Nat.le_zero.1 hlc
        try subst hz
        go_wp2_with fail
        refine HSC.out.mono ?_
        rintro e u3 ⟨rfl, hd⟩
        have HB7 := Lib.hid (HB6.out.trans ((hd.below _).mono HB6.out.size))
        clear hd
        go_wp2_with fail
        refine (HZ.out _).mono ?_
        rintro e w9 ⟨rfl, hb⟩
        have HB8 := Lib.hid (HB7.out.trans (hb.mono HB7.out.size))
        clear hb
        go_wp2_with fail
        go_ret
        exact ⟨rfl, HB8.out⟩
      · skip
        go_wp2_with fail
        refine HSC.out.mono ?_
        rintro e u3 ⟨rfl, hd⟩
        have HB7 := Lib.hid (HB6.out.trans ((hd.below _).mono HB6.out.size))
        clear hd
        go_wp2_with fail
        refine (HZ.out _).mono ?_
        rintro e w9 ⟨rfl, hb⟩
        have HB8 := Lib.hid (HB7.out.trans (hb.mono HB7.out.size))
        clear hb
        go_wp2_with fail
        go_ret
        exact ⟨rfl, HB8.out⟩
end Go.Proofs.Ytiohngcmojkheaa
