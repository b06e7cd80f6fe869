/- RankParts. -/
import Derived.Test.YtiohngcmojkheaaRk8
namespace Go.Proofs.Ytiohngcmojkheaa
open Go.RowKit
set_option linter.unusedVariables false

theorem mergeL_len {a b : List ByteArray} (ha : RiseT a) (hb : RiseT b) : (mergeL a b).length ≤ a.length + b.length := by
  rw [(merge_perm a b ha hb).length_eq, List.length_append]
  have : (withoutL b a).length ≤ b.length := List.length_filter_le _ _
  omega
theorem mergeL_mem {a b : List ByteArray} (ha : RiseT a) (hb : RiseT b) {x : ByteArray} (h : x ∈ mergeL a b) : x ∈ a ∨ x ∈ b := by
  rcases List.mem_append.1 ((merge_perm a b ha hb).mem_iff.1 h) with h | h
  · exact .inl h
  · exact .inr (List.mem_filter.1 h).1
set_option maxRecDepth 100000 in
set_option maxHeartbeats 16000000 in
theorem parts_law (w : World) (ao : Option Addr) (na ca : Nat) (la : List ByteArray) (bo : Option Addr) (nb cb : Nat) (lb : List ByteArray) (q : ByteArray) (k m : Int) (ha : RdT w ao na ca la) (hwa : ∀ s ∈ la, s.size ≤ maxLen) (hbr : RdT w bo nb cb lb) (hwb : ∀ s ∈ lb, s.size ≤ maxLen) (hq : q.size ≤ maxLen) :
    Calls Try.prog 11 #[.slice ao na ca, .slice bo nb cb, .agg #[.string q, .int .i64 k, .int .i64 m]] w fun e w' => e = .returned (.bool true) ∧ Below w.heap.size w w' := by
  have hna := ha.len
  have hnb := hbr.len
  subst hna hnb
  obtain ⟨i0, hinf, hz0, hz1, hz2⟩ := info_parts infoI2
  have HI0 := Lib.hid hinf
  have HZ0 := Lib.hid hz0
  have HZ1 := Lib.hid hz1
  have HZ2 := Lib.hid hz2
  clear hinf hz0 hz1 hz2
  have HB := Lib.hid ((Below.refl _ w).alloc (Nat.le_refl _) (.cells #[.string q, .int .i64 k, .int .i64 m] 24))
  have HK := Lib.hid (show Blk (w.alloc (.cells #[.string q, .int .i64 k, .int .i64 m] 24)) w.heap.size 24 [.string q, .int .i64 k, .int .i64 m] from heap_alloc_new w _)
  obtain ⟨W, hW⟩ : ∃ W, w.alloc (.cells #[.string q, .int .i64 k, .int .i64 m] 24) = W := ⟨_, rfl⟩
  rw [hW] at HB HK
  have HGA := Lib.hid (fun V h => greatT_any ao la.length ca la V h hwa)
  have HGG := Lib.hid (fun V h => greatT_any bo lb.length cb lb V h hwb)
  have HOA := Lib.hid (fun V h => lgood_any ao la.length ca la V h hwa)
  have HOB := Lib.hid (fun V h => lgood_any bo lb.length cb lb V h hwb)
  have HMA := Lib.hid (fun V => rmay_any q k m V hq)
  have HZ : RowKit.Hid (∀ V, Calls Try.prog 15 #[] V fun e w' => e = .returned (.bool true) ∧ Below V.heap.size V w') := fun V => awake_any V
  have HA := Lib.hid (RdT.below ha HB.out rfl)
  have HBR := Lib.hid (RdT.below hbr HB.out rfl)
  clear ha hbr hwa hwb
  unfold maxLen at hq
  have t0 : W.cell? ⟨w.heap.size, 0, none⟩ = some (.string q) := HK.out.cell 0
  have t1 : W.cell? ⟨w.heap.size, 1, none⟩ = some (.int .i64 k) := HK.out.cell 1
  have t2 : W.cell? ⟨w.heap.size, 2, none⟩ = some (.int .i64 m) := HK.out.cell 2
  go_enter Try.func11, Try.ntmps11
  go_wp2_with (rw [hW])
  clear hW
  refine (HGA.out _ HA.out).mono ?_
  rintro e w1 ⟨rfl, rfl⟩
  cases hg : greatT la
  case true =>
    clear hg
    go_wp2_with fail
    refine (HZ.out _).mono ?_
    rintro e w1 ⟨rfl, hb⟩
    have HB3 := Lib.hid (HB.out.trans (hb.mono HB.out.size))
    clear hb
    go_wp2_with fail
    go_ret
    exact ⟨rfl, HB3.out⟩
  have hla := (greatT_false hg).1
  have HWA := Lib.hid (fun s hs => Nat.le_trans ((greatT_false hg).2 s hs) (by decide : 100 ≤ 1000))
  clear hg HGA
  go_wp2_with fail
  refine (HGG.out _ HBR.out).mono ?_
  rintro e w1 ⟨rfl, rfl⟩
  cases hg : greatT lb
  case true =>
    clear hg
    go_wp2_with fail
    refine (HZ.out _).mono ?_
    rintro e w1 ⟨rfl, hb⟩
    have HB3 := Lib.hid (HB.out.trans (hb.mono HB.out.size))
    clear hb
    go_wp2_with fail
    go_ret
    exact ⟨rfl, HB3.out⟩
  have hlb := (greatT_false hg).1
  have HWB := Lib.hid (fun s hs => Nat.le_trans ((greatT_false hg).2 s hs) (by decide : 100 ≤ 1000))
  clear hg HGG
  by_cases hqs : 100 < q.size
  · have d1 : decide ((100 : Int) < (q.size : Int)) = true := by simp; omega
    have d2 : decide (100 < q.size) = true := by simpa using hqs
    go_wp2_with fail
    refine (HZ.out _).mono ?_
    rintro e w1 ⟨rfl, hb⟩
    have HB3 := Lib.hid (HB.out.trans (hb.mono HB.out.size))
    clear hb
    go_wp2_with fail
    go_ret
    exact ⟨rfl, HB3.out⟩
  have d1 : decide ((100 : Int) < (q.size : Int)) = false := by simp; omega
  have d2 : decide (100 < q.size) = false := by simpa using hqs
  have hq1 : q.size ≤ 1000 := by omega
  obtain ⟨ga, hga⟩ : ∃ g, goodT la = g := ⟨_, rfl⟩
  have HGV := Lib.hid hga
  rw [hga] at HOA
  clear hga
  go_wp2_with fail
  refine (HOA.out _ HA.out).mono ?_
  rintro e V1 ⟨rfl, hb⟩
  clear t0 t1 t2 HOA
  have ZZ := Lib.hid (HB.out.trans ((hb).mono HB.out.size))
  clear HB
  have HB := ZZ
  clear ZZ
  have ZZ := Lib.hid (HK.out.below hb HK.out.lt)
  clear HK
  have HK := ZZ
  clear ZZ
  have ZZ := Lib.hid (RdT.below HA.out hb rfl)
  clear HA
  have HA := ZZ
  clear ZZ
  have ZZ := Lib.hid (RdT.below HBR.out hb rfl)
  clear HBR
  have HBR := ZZ
  clear ZZ
  clear hb
  have t0 : V1.cell? ⟨w.heap.size, 0, none⟩ = some (.string q) := HK.out.cell 0
  have t1 : V1.cell? ⟨w.heap.size, 1, none⟩ = some (.int .i64 k) := HK.out.cell 1
  have t2 : V1.cell? ⟨w.heap.size, 2, none⟩ = some (.int .i64 m) := HK.out.cell 2
  by_cases h0 : ga = 0
  rotate_left
  · have d3 : (ga != 0) = true := by simpa using h0
    clear h0 HGV
    go_wp2_with fail
    refine (HZ.out _).mono ?_
    rintro e w1 ⟨rfl, hb⟩
    have HB3 := Lib.hid (HB.out.trans (hb.mono HB.out.size))
    clear hb
    go_wp2_with fail
    go_ret
    exact ⟨rfl, HB3.out⟩
  subst h0
  have RSA := Lib.hid (show RiseT la from (goodT_of HGV.out).2.2)
  clear HGV
  obtain ⟨ga, hga⟩ : ∃ g, goodT lb = g := ⟨_, rfl⟩
  have HGV := Lib.hid hga
  rw [hga] at HOB
  clear hga
  go_wp2_with fail
  refine (HOB.out _ HBR.out).mono ?_
  rintro e V2 ⟨rfl, hb⟩
  clear t0 t1 t2 HOB
  have ZZ := Lib.hid (HB.out.trans ((hb).mono HB.out.size))
  clear HB
  have HB := ZZ
  clear ZZ
  have ZZ := Lib.hid (HK.out.below hb HK.out.lt)
  clear HK
  have HK := ZZ
  clear ZZ
  have ZZ := Lib.hid (RdT.below HA.out hb rfl)
  clear HA
  have HA := ZZ
  clear ZZ
  have ZZ := Lib.hid (RdT.below HBR.out hb rfl)
  clear HBR
  have HBR := ZZ
  clear ZZ
  clear hb
  have t0 : V2.cell? ⟨w.heap.size, 0, none⟩ = some (.string q) := HK.out.cell 0
  have t1 : V2.cell? ⟨w.heap.size, 1, none⟩ = some (.int .i64 k) := HK.out.cell 1
  have t2 : V2.cell? ⟨w.heap.size, 2, none⟩ = some (.int .i64 m) := HK.out.cell 2
  by_cases h0 : ga = 0
  rotate_left
  · have d3 : (ga != 0) = true := by simpa using h0
    clear h0 HGV
    go_wp2_with fail
    refine (HZ.out _).mono ?_
    rintro e w1 ⟨rfl, hb⟩
    have HB3 := Lib.hid (HB.out.trans (hb.mono HB.out.size))
    clear hb
    go_wp2_with fail
    go_ret
    exact ⟨rfl, HB3.out⟩
  subst h0
  have RSB := Lib.hid (show RiseT lb from (goodT_of HGV.out).2.2)
  clear HGV
  clear d1 d2 hqs
  cases hm : mayQ q k m
  case false =>
    rw [hm] at HMA
    clear hm
    go_wp2_with fail
    refine (HMA.out _).mono ?_
    rintro e V3 ⟨rfl, hb⟩
    clear t0 t1 t2
    have ZZ := Lib.hid (HB.out.trans ((hb).mono HB.out.size))
    clear HB
    have HB := ZZ
    clear ZZ
    have ZZ := Lib.hid (HK.out.below hb HK.out.lt)
    clear HK
    have HK := ZZ
    clear ZZ
    have ZZ := Lib.hid (RdT.below HA.out hb rfl)
    clear HA
    have HA := ZZ
    clear ZZ
    have ZZ := Lib.hid (RdT.below HBR.out hb rfl)
    clear HBR
    have HBR := ZZ
    clear ZZ
    clear hb
    go_wp2_with fail
    refine (HZ.out _).mono ?_
    rintro e w1 ⟨rfl, hb⟩
    have HB3 := Lib.hid (HB.out.trans (hb.mono HB.out.size))
    clear hb
    go_wp2_with fail
    go_ret
    exact ⟨rfl, HB3.out⟩
  rw [hm] at HMA
  go_wp2_with fail
  refine (HMA.out _).mono ?_
  rintro e V3 ⟨rfl, hb⟩
  clear t0 t1 t2
  have ZZ := Lib.hid (HB.out.trans ((hb).mono HB.out.size))
  clear HB
  have HB := ZZ
  clear ZZ
  have ZZ := Lib.hid (HK.out.below hb HK.out.lt)
  clear HK
  have HK := ZZ
  clear ZZ
  have ZZ := Lib.hid (RdT.below HA.out hb rfl)
  clear HA
  have HA := ZZ
  clear ZZ
  have ZZ := Lib.hid (RdT.below HBR.out hb rfl)
  clear HBR
  have HBR := ZZ
  clear ZZ
  clear hb HMA
  have P1 := parts_all q k RSA.out RSB.out
  have P2 := parts_top q k m hm RSA.out RSB.out
  clear hm
  have hlc : (withoutL lb la).length ≤ lb.length := List.length_filter_le _ _
  have HWC := Lib.hid (fun s (hs : s ∈ withoutL lb la) => HWB.out s (List.mem_filter.1 hs).1)
  have hlm := mergeL_len RSA.out RSB.out
  have HWM := Lib.hid (fun s (hs : s ∈ mergeL la lb) => (mergeL_mem RSA.out RSB.out hs).elim (HWA.out s) (HWB.out s))
  have CW := Lib.hid (fun V h1 h2 => without_any bo lb.length cb lb ao la.length ca la V h1 h2 RSA.out (by omega) (by omega))
  have CM := Lib.hid (fun V h1 h2 => merge_any ao la.length ca la bo lb.length cb lb V h1 h2 (by omega))
  generalize withoutL lb la = lc at *
  generalize mergeL la lb = lm at *
  have AA := Lib.hid (fun V h => rall_any V ao la.length ca la q k h (by omega) HWA.out hq1)
  have AC := Lib.hid (fun V a c h => rall_any V a lc.length c lc q k h (by omega) HWC.out hq1)
  have AM := Lib.hid (fun V a c h => rall_any V a lm.length c lm q k h (by omega) HWM.out hq1)
  have TA := Lib.hid (fun V h => rtop_any V ao la.length ca la q k m h (by omega) HWA.out hq1)
  have TC := Lib.hid (fun V a c h => rtop_any V a lc.length c lc q k m h (by omega) HWC.out hq1)
  have TM := Lib.hid (fun V a c h => rtop_any V a lm.length c lm q k m h (by omega) HWM.out hq1)
  have z1 := allL_len la q k
  have z2 := allL_len lc q k
  have z3 := allL_len lm q k
  have z4 := topL_len la q k m
  have z5 := topL_len lc q k m
  have z6 := topL_len lm q k m
  generalize allL la q k = A at *
  generalize allL lc q k = C at *
  generalize allL lm q k = M at *
  generalize topL la q k m = xa at *
  generalize topL lc q k m = xc at *
  generalize topL lm q k m = xm at *
  have HP1 := Lib.hid P1
  have HP2 := Lib.hid P2.2
  have hp2 := P2.1
  have hso := sortL_len (xa ++ xc)
  have hsb := sortL_len (A ++ C)
  rw [List.length_append] at hso hsb
  have HSO := Lib.hid hso
  have HSB := Lib.hid hsb
  clear P1 P2 hso hsb
  have hp3 : xm.length ≤ xa.length + xc.length := by rw [← HSO.out]; exact hp2
  have SO1 := Lib.hid (fun w a c h => rsort_any w a (A.length + C.length) c (A ++ C) h (by omega))
  have SO2 := Lib.hid (fun w a c h => rsort_any w a (xa.length + xc.length) c (xa ++ xc) h (by omega))
  rw [HP1.out] at SO1 HSB
  generalize sortL (xa ++ xc) = X at *
  clear HP1
  go_wp2_with fail
  refine (CW.out _ HBR.out HA.out).mono ?_
  rintro e V4 ⟨a7, c7, rfl, hown, hb⟩
  have ZZ := Lib.hid (HB.out.trans ((hb).mono HB.out.size))
  clear HB
  have HB := ZZ
  clear ZZ
  have ZZ := Lib.hid (HK.out.below hb HK.out.lt)
  clear HK
  have HK := ZZ
  clear ZZ
  have ZZ := Lib.hid (RdT.below HA.out hb rfl)
  clear HA
  have HA := ZZ
  clear ZZ
  have ZZ := Lib.hid (RdT.below HBR.out hb rfl)
  clear HBR
  have HBR := ZZ
  clear ZZ
  have HC := Lib.hid (show RdT V4 a7 lc.length c7 lc from ownsRow_rd hown)
  clear hown hb CW
  have HGB : RowKit.Hid (Below V4.heap.size V4 V4.drew) := below_drewN (Below.refl _ _) 1
  go_upto_region 4 with fail
  go_region_held3 (fun w' => w'.cell? ⟨w.heap.size, 0, none⟩ = some (.string q) ∧ w'.cell? ⟨w.heap.size, 1, none⟩ = some (.int .i64 k) ∧ w'.cell? ⟨w.heap.size, 2, none⟩ = some (.int .i64 m)) (exact ⟨(Blk.below HK.out HGB.out (Blk.lt HK.out)).cell 0, (Blk.below HK.out HGB.out (Blk.lt HK.out)).cell 1, (Blk.below HK.out HGB.out (Blk.lt HK.out)).cell 2⟩) (first | (go_at_call 46; (with_reducible refine (CM.out _ (RdT.below HA.out HGB.out rfl) (RdT.below HBR.out HGB.out rfl)).mono ?_); rintro e u4 ⟨a1, c1, rfl, hown, hb⟩; have HX1 := Lib.hid (show RdT u4 a1 lm.length c1 lm from ownsRow_rd hown); clear hown; have HSN := Lib.hid (HGB.out.trans (hb.mono HGB.out.size)); clear HGB; have HGB := HSN; clear HSN; clear hb) | (go_at_call 18; (with_reducible refine (AM.out _ _ _ HX1.out).mono ?_); rintro e u4 ⟨a8, c8, rfl, hown, hb⟩; have HAL := Lib.hid (ownsRow_rdE (enc := KeyL.cells) (fun _ => rfl) rfl hown); clear hown HX1; have HSN := Lib.hid (HGB.out.trans (hb.mono HGB.out.size)); clear HGB; have HGB := HSN; clear HSN; clear hb))
  rename_i hHeld
  clear hHeld
  have ZZ := Lib.hid (HB.out.trans ((HGB.out).mono HB.out.size))
  clear HB
  have HB := ZZ
  clear ZZ
  have ZZ := Lib.hid (HK.out.below HGB.out HK.out.lt)
  clear HK
  have HK := ZZ
  clear ZZ
  have ZZ := Lib.hid (RdT.below HA.out HGB.out rfl)
  clear HA
  have HA := ZZ
  clear ZZ
  have ZZ := Lib.hid (RdT.below HBR.out HGB.out rfl)
  clear HBR
  have HBR := ZZ
  clear ZZ
  have ZZ := Lib.hid (RdT.below HC.out HGB.out rfl)
  clear HC
  have HC := ZZ
  clear ZZ
  clear HGB
  have HGB : RowKit.Hid (Below u4.heap.size u4 u4.drew) := below_drewN (Below.refl _ _) 1
  go_upto_region 5 with fail
  have B1 : A.length + C.length ≤ maxLen := by unfold maxLen; omega
  have B2 : (A.length + C.length) * 24 ≤ 140737488355328 := by omega
  have B3 : A.length + C.length ≤ 1000 := by omega
  go_region_held3 (fun w' => w'.cell? ⟨w.heap.size, 0, none⟩ = some (.string q) ∧ w'.cell? ⟨w.heap.size, 1, none⟩ = some (.int .i64 k) ∧ w'.cell? ⟨w.heap.size, 2, none⟩ = some (.int .i64 m)) (exact ⟨(Blk.below HK.out HGB.out (Blk.lt HK.out)).cell 0, (Blk.below HK.out HGB.out (Blk.lt HK.out)).cell 1, (Blk.below HK.out HGB.out (Blk.lt HK.out)).cell 2⟩) (first | (go_at_call 18; (with_reducible refine (AA.out _ (RdT.below HA.out HGB.out rfl)).mono ?_); rintro e u5 ⟨a1, c1, rfl, hown, hb⟩; have HO1 := Lib.hid (own0 hown HGB.out.size); clear hown; have HSN := Lib.hid (HGB.out.trans (hb.mono HGB.out.size)); clear HGB; have HGB := HSN; clear HSN; clear hb) | (go_at_call 18; (with_reducible refine (AC.out _ _ _ (RdT.below HC.out HGB.out rfl)).mono ?_); rintro e u5 ⟨a2, c2, rfl, hown, hb⟩; have HO2 := Lib.hid (ownsRow_below HO1.out hb); clear HO1; have HX2 := Lib.hid (ownsRow_rdE (enc := KeyL.cells) (fun _ => rfl) rfl hown); clear hown; have HSN := Lib.hid (HGB.out.trans (hb.mono HGB.out.size)); clear HGB; have HGB := HSN; clear HSN; clear hb) | (go_at_call 29; (with_reducible refine (SO1.out _ _ _ HX3.out).mono ?_); rintro e u5 ⟨a9, c9, rfl, hown, hb⟩; have H9 := Lib.hid (ownsRow_rdE (enc := KeyL.cells) (fun _ => rfl) rfl hown); clear hown HX3; have HSN := Lib.hid (HGB.out.trans (hb.mono HGB.out.size)); clear HGB; have HGB := HSN; clear HSN; clear hb) | (refine step_app rfl (.tmp 56) (.tmp 62) 28 28 rfl u4.heap.size 39 i0 (.agg #[.int .i64 0, .string ⟨#[]⟩]) 2 24 Try.underlying28 HI0.out HZ0.out HZ1.out HZ2.out rfl (by decide) a1 A.length c1 (A.flatMap KeyL.cells) rfl HO2.out (.slice a2 C.length c2) C.length (C.flatMap KeyL.cells) rfl (Src.ofRdE (P := Try.prog) (tx := 28) (enc := KeyL.cells) (size := 2) Try.underlying28 (fun _ => rfl) itemOne HX2.out) B1 B2 HGB.out.size ?_; intro a3 c3 u5 hown5 hg5; rw [← List.flatMap_append] at hown5; have HX3 := Lib.hid (ownsRow_rdE (enc := KeyL.cells) (l := A ++ C) (fun _ => rfl) List.length_append hown5); have HSN := Lib.hid (HGB.out.grown hg5 HGB.out.size (fun k hk => (HO2.out.lt k hk).1)); clear HGB; have HGB := HSN; clear HSN hown5 hg5 HO2 HX2))
  rename_i hHeld
  clear hHeld B1 B2 B3
  have ZZ := Lib.hid (HB.out.trans ((HGB.out).mono HB.out.size))
  clear HB
  have HB := ZZ
  clear ZZ
  have ZZ := Lib.hid (HK.out.below HGB.out HK.out.lt)
  clear HK
  have HK := ZZ
  clear ZZ
  have ZZ := Lib.hid (RdT.below HA.out HGB.out rfl)
  clear HA
  have HA := ZZ
  clear ZZ
  have ZZ := Lib.hid (RdT.below HBR.out HGB.out rfl)
  clear HBR
  have HBR := ZZ
  clear ZZ
  have ZZ := Lib.hid (RdT.below HC.out HGB.out rfl)
  clear HC
  have HC := ZZ
  clear ZZ
  have ZZ := Lib.hid (HAL.out.below HGB.out rfl)
  clear HAL
  have HAL := ZZ
  clear ZZ
  clear HGB
  have HGB : RowKit.Hid (Below u5.heap.size u5 u5.drew) := below_drewN (Below.refl _ _) 1
  go_upto_region 6 with fail
  have B1 : xa.length + xc.length ≤ maxLen := by unfold maxLen; omega
  have B2 : (xa.length + xc.length) * 24 ≤ 140737488355328 := by omega
  have B3 : xa.length + xc.length ≤ 1000 := by omega
  go_region_held3 (fun w' => w'.cell? ⟨w.heap.size, 0, none⟩ = some (.string q) ∧ w'.cell? ⟨w.heap.size, 1, none⟩ = some (.int .i64 k) ∧ w'.cell? ⟨w.heap.size, 2, none⟩ = some (.int .i64 m)) (exact ⟨(Blk.below HK.out HGB.out (Blk.lt HK.out)).cell 0, (Blk.below HK.out HGB.out (Blk.lt HK.out)).cell 1, (Blk.below HK.out HGB.out (Blk.lt HK.out)).cell 2⟩) (first | (go_at_call 17; (with_reducible refine (TA.out _ (RdT.below HA.out HGB.out rfl)).mono ?_); rintro e u6 ⟨a1, c1, rfl, hown, hb⟩; have HO1 := Lib.hid (own0 hown HGB.out.size); clear hown; have HSN := Lib.hid (HGB.out.trans (hb.mono HGB.out.size)); clear HGB; have HGB := HSN; clear HSN; clear hb) | (go_at_call 17; (with_reducible refine (TC.out _ _ _ (RdT.below HC.out HGB.out rfl)).mono ?_); rintro e u6 ⟨a2, c2, rfl, hown, hb⟩; have HO2 := Lib.hid (ownsRow_below HO1.out hb); clear HO1; have HX2 := Lib.hid (ownsRow_rdE (enc := KeyL.cells) (fun _ => rfl) rfl hown); clear hown; have HSN := Lib.hid (HGB.out.trans (hb.mono HGB.out.size)); clear HGB; have HGB := HSN; clear HSN; clear hb) | (go_at_call 29; (with_reducible refine (SO2.out _ _ _ HX3.out).mono ?_); rintro e u6 ⟨a10, c10, rfl, hown, hb⟩; have H10 := Lib.hid (ownsRow_rdE (enc := KeyL.cells) (fun _ => rfl) rfl hown); clear hown HX3; have HSN := Lib.hid (HGB.out.trans (hb.mono HGB.out.size)); clear HGB; have HGB := HSN; clear HSN; clear hb) | (refine step_app rfl (.tmp 67) (.tmp 70) 28 28 rfl u5.heap.size 39 i0 (.agg #[.int .i64 0, .string ⟨#[]⟩]) 2 24 Try.underlying28 HI0.out HZ0.out HZ1.out HZ2.out rfl (by decide) a1 xa.length c1 (xa.flatMap KeyL.cells) rfl HO2.out (.slice a2 xc.length c2) xc.length (xc.flatMap KeyL.cells) rfl (Src.ofRdE (P := Try.prog) (tx := 28) (enc := KeyL.cells) (size := 2) Try.underlying28 (fun _ => rfl) itemOne HX2.out) B1 B2 HGB.out.size ?_; intro a3 c3 u6 hown5 hg5; rw [← List.flatMap_append] at hown5; have HX3 := Lib.hid (ownsRow_rdE (enc := KeyL.cells) (l := xa ++ xc) (fun _ => rfl) List.length_append hown5); have HSN := Lib.hid (HGB.out.grown hg5 HGB.out.size (fun k hk => (HO2.out.lt k hk).1)); clear HGB; have HGB := HSN; clear HSN hown5 hg5 HO2 HX2))
  rename_i hHeld
  clear hHeld B1 B2 B3
  have ZZ := Lib.hid (HB.out.trans ((HGB.out).mono HB.out.size))
  clear HB
  have HB := ZZ
  clear ZZ
  have ZZ := Lib.hid (HK.out.below HGB.out HK.out.lt)
  clear HK
  have HK := ZZ
  clear ZZ
  have ZZ := Lib.hid (RdT.below HA.out HGB.out rfl)
  clear HA
  have HA := ZZ
  clear ZZ
  have ZZ := Lib.hid (RdT.below HBR.out HGB.out rfl)
  clear HBR
  have HBR := ZZ
  clear ZZ
  have ZZ := Lib.hid (RdT.below HC.out HGB.out rfl)
  clear HC
  have HC := ZZ
  clear ZZ
  have ZZ := Lib.hid (HAL.out.below HGB.out rfl)
  clear HAL
  have HAL := ZZ
  clear ZZ
  have ZZ := Lib.hid (H9.out.below HGB.out rfl)
  clear H9
  have H9 := ZZ
  clear ZZ
  clear HGB
  have HGB : RowKit.Hid (Below u6.heap.size u6 u6.drew) := below_drewN (Below.refl _ _) 1
  go_upto_region 7 with fail
  go_region_held3 (fun w' => w'.cell? ⟨w.heap.size, 0, none⟩ = some (.string q) ∧ w'.cell? ⟨w.heap.size, 1, none⟩ = some (.int .i64 k) ∧ w'.cell? ⟨w.heap.size, 2, none⟩ = some (.int .i64 m)) (exact ⟨(Blk.below HK.out HGB.out (Blk.lt HK.out)).cell 0, (Blk.below HK.out HGB.out (Blk.lt HK.out)).cell 1, (Blk.below HK.out HGB.out (Blk.lt HK.out)).cell 2⟩) (first | (go_at_call 46; (with_reducible refine (CM.out _ (RdT.below HA.out HGB.out rfl) (RdT.below HBR.out HGB.out rfl)).mono ?_); rintro e u7 ⟨a1, c1, rfl, hown, hb⟩; have HX1 := Lib.hid (show RdT u7 a1 lm.length c1 lm from ownsRow_rd hown); clear hown; have HSN := Lib.hid (HGB.out.trans (hb.mono HGB.out.size)); clear HGB; have HGB := HSN; clear HSN; clear hb) | (go_at_call 17; (with_reducible refine (TM.out _ _ _ HX1.out).mono ?_); rintro e u7 ⟨a11, c11, rfl, hown, hb⟩; have H11 := Lib.hid (ownsRow_rdE (enc := KeyL.cells) (fun _ => rfl) rfl hown); clear hown HX1; have HSN := Lib.hid (HGB.out.trans (hb.mono HGB.out.size)); clear HGB; have HGB := HSN; clear HSN; clear hb))
  rename_i hHeld
  clear hHeld
  have ZZ := Lib.hid (HB.out.trans ((HGB.out).mono HB.out.size))
  clear HB
  have HB := ZZ
  clear ZZ
  have ZZ := Lib.hid (HK.out.below HGB.out HK.out.lt)
  clear HK
  have HK := ZZ
  clear ZZ
  have ZZ := Lib.hid (RdT.below HA.out HGB.out rfl)
  clear HA
  have HA := ZZ
  clear ZZ
  have ZZ := Lib.hid (RdT.below HBR.out HGB.out rfl)
  clear HBR
  have HBR := ZZ
  clear ZZ
  have ZZ := Lib.hid (RdT.below HC.out HGB.out rfl)
  clear HC
  have HC := ZZ
  clear ZZ
  have ZZ := Lib.hid (HAL.out.below HGB.out rfl)
  clear HAL
  have HAL := ZZ
  clear ZZ
  have ZZ := Lib.hid (H9.out.below HGB.out rfl)
  clear H9
  have H9 := ZZ
  clear ZZ
  have ZZ := Lib.hid (H10.out.below HGB.out rfl)
  clear H10
  have H10 := ZZ
  clear ZZ
  clear HGB
  have HTK := Lib.hid (show RdE KeyL.cells 2 u7 a10 xm.length c10 xm from by
    have h := H10.out.take xm.length hp2
    rw [HP2.out] at h
    exact h)
  have k1 : (0 : Int) ≤ (xm.length : Int) := by omega
  have k2 := Nat.le_trans hp2 H10.out.2.1
  have k3 : (xm.length : Int) ≤ (c10 : Int) := by omega
  have k4 := H10.out.2.2.1
  unfold maxLen at k4
  have k5 := H10.out.2.1
  have k6 : (xm.length : Int) ≤ (X.length : Int) := by omega
  have d4 : decide ((xm.length : Int) ≤ (X.length : Int)) = true := by simpa using hp2
  have d5 : decide (xm.length ≤ X.length) = true := by simpa using hp2
  go_wp2_with fail
  refine (sameI_any _ _ _ _ _ _ M M _ HAL.out H9.out).mono ?_
  rintro e V8 ⟨rfl, hd⟩
  rw [eqIs_self]
  have ZZ := Lib.hid (HB.out.trans (((hd.below _)).mono HB.out.size))
  clear HB
  have HB := ZZ
  clear ZZ
  have ZZ := Lib.hid (HK.out.below (hd.below _) HK.out.lt)
  clear HK
  have HK := ZZ
  clear ZZ
  have ZZ := Lib.hid (RdT.below HA.out (hd.below _) rfl)
  clear HA
  have HA := ZZ
  clear ZZ
  have ZZ := Lib.hid (RdT.below HBR.out (hd.below _) rfl)
  clear HBR
  have HBR := ZZ
  clear ZZ
  have ZZ := Lib.hid (RdT.below HC.out (hd.below _) rfl)
  clear HC
  have HC := ZZ
  clear ZZ
  have ZZ := Lib.hid (HAL.out.below (hd.below _) rfl)
  clear HAL
  have HAL := ZZ
  clear ZZ
  have ZZ := Lib.hid (H9.out.below (hd.below _) rfl)
  clear H9
  have H9 := ZZ
  clear ZZ
  have ZZ := Lib.hid (H10.out.below (hd.below _) rfl)
  clear H10
  have H10 := ZZ
  clear ZZ
  have ZZ := Lib.hid (H11.out.below (hd.below _) rfl)
  clear H11
  have H11 := ZZ
  clear ZZ
  have ZZ := Lib.hid (HTK.out.below (hd.below _) rfl)
  clear HTK
  have HTK := ZZ
  clear ZZ
  clear hd
  go_wp2_with fail
  refine (sameI_any _ _ _ _ _ _ xm xm _ H11.out HTK.out).mono ?_
  rintro e V9 ⟨rfl, hd⟩
  rw [eqIs_self]
  have ZZ := Lib.hid (HB.out.trans (((hd.below _)).mono HB.out.size))
  clear HB
  have HB := ZZ
  clear ZZ
  have ZZ := Lib.hid (HK.out.below (hd.below _) HK.out.lt)
  clear HK
  have HK := ZZ
  clear ZZ
  have ZZ := Lib.hid (RdT.below HA.out (hd.below _) rfl)
  clear HA
  have HA := ZZ
  clear ZZ
  have ZZ := Lib.hid (RdT.below HBR.out (hd.below _) rfl)
  clear HBR
  have HBR := ZZ
  clear ZZ
  have ZZ := Lib.hid (RdT.below HC.out (hd.below _) rfl)
  clear HC
  have HC := ZZ
  clear ZZ
  have ZZ := Lib.hid (HAL.out.below (hd.below _) rfl)
  clear HAL
  have HAL := ZZ
  clear ZZ
  have ZZ := Lib.hid (H9.out.below (hd.below _) rfl)
  clear H9
  have H9 := ZZ
  clear ZZ
  have ZZ := Lib.hid (H10.out.below (hd.below _) rfl)
  clear H10
  have H10 := ZZ
  clear ZZ
  have ZZ := Lib.hid (H11.out.below (hd.below _) rfl)
  clear H11
  have H11 := ZZ
  clear ZZ
  have ZZ := Lib.hid (HTK.out.below (hd.below _) rfl)
  clear HTK
  have HTK := ZZ
  clear ZZ
  clear hd
  go_wp2_with fail
  refine (HZ.out _).mono ?_
  rintro e w1 ⟨rfl, hb⟩
  have HB3 := Lib.hid (HB.out.trans (hb.mono HB.out.size))
  clear hb
  go_wp2_with fail
  go_ret
  exact ⟨rfl, HB3.out⟩
end Go.Proofs.Ytiohngcmojkheaa
