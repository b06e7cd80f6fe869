/- RankFar. -/
import Derived.Test.YtiohngcmojkheaaRkA
import Derived.Test.YtiohngcmojkheaaLow
namespace Go.Proofs.Ytiohngcmojkheaa
open Go.RowKit
set_option linter.unusedVariables false

theorem low_fin {x : Int} {n : Nat} (h : 0 < n) : ∃ j : Nat, lowI x (n : Int) = (j : Int) ∧ j < n := by
  have := lowI_bd x (n : Int) (by omega)
  exact ⟨(lowI x (n : Int)).toNat, by omega, by omega⟩
theorem textsOne (w : World) (a : ByteArray) : RdT (w.alloc (.cells #[.string a] 9)) (some ⟨w.heap.size, 0, none⟩) 1 1 [a] :=
  rd_new w 9 (0, 0) #[.string a] 1 _ rfl rfl (by unfold maxLen; omega)
def nearF (s : ByteArray) (k : Int) (w : ByteArray) : Bool := decide (distT w s ≤ k)
set_option maxRecDepth 100000 in
set_option maxHeartbeats 16000000 in
theorem far_law (w : World) (ao : Option Addr) (na ca : Nat) (la : List ByteArray) (q : ByteArray) (k m : Int) (which : Int) (ha : RdT w ao na ca la) (hwa : ∀ s ∈ la, s.size ≤ maxLen) (hq : q.size ≤ maxLen) :
    Calls Try.prog 13 #[.slice ao na ca, .agg #[.string q, .int .i64 k, .int .i64 m], .int .i64 which] w fun e w' => e = .returned (.bool true) ∧ Below w.heap.size w w' := by
  have hna := ha.len
  subst hna
  obtain ⟨i0, hinf, hz0, hz1, hz2⟩ := info_parts infoI2
  have HI0 := Lib.hid hinf
  have HZ0 := Lib.hid hz0
  have HZ1 := Lib.hid hz1
  have HZ2 := Lib.hid hz2
  clear hinf hz0 hz1 hz2
  obtain ⟨j0, hinf, hz0, hz1, hz2⟩ := info_parts infoS
  have HJ0 := Lib.hid hinf
  have HY0 := Lib.hid hz0
  have HY1 := Lib.hid hz1
  have HY2 := Lib.hid hz2
  clear hinf hz0 hz1 hz2
  have HB := Lib.hid ((Below.refl _ w).alloc (Nat.le_refl _) (.cells #[.string q, .int .i64 k, .int .i64 m] 24))
  have HK := Lib.hid (show Blk (w.alloc (.cells #[.string q, .int .i64 k, .int .i64 m] 24)) w.heap.size 24 [.string q, .int .i64 k, .int .i64 m] from heap_alloc_new w _)
  obtain ⟨W, hW⟩ : ∃ W, w.alloc (.cells #[.string q, .int .i64 k, .int .i64 m] 24) = W := ⟨_, rfl⟩
  rw [hW] at HB HK
  have hcapA := ha.2.1
  have hcmA := ha.2.2.1
  unfold maxLen at hcmA
  have HGA := Lib.hid (fun V h => greatT_any ao la.length ca la V h hwa)
  have HOA := Lib.hid (fun V h => lgood_any ao la.length ca la V h hwa)
  have HMA := Lib.hid (fun V => rmay_any q k m V hq)
  have HZ : RowKit.Hid (∀ V, Calls Try.prog 15 #[] V fun e w' => e = .returned (.bool true) ∧ Below V.heap.size V w') := fun V => awake_any V
  have HA := Lib.hid (RdT.below ha HB.out rfl)
  clear ha hwa
  unfold maxLen at hq
  have t0 : W.cell? ⟨w.heap.size, 0, none⟩ = some (.string q) := HK.out.cell 0
  have t1 : W.cell? ⟨w.heap.size, 1, none⟩ = some (.int .i64 k) := HK.out.cell 1
  have t2 : W.cell? ⟨w.heap.size, 2, none⟩ = some (.int .i64 m) := HK.out.cell 2
  go_enter Try.func13, Try.ntmps13
  go_wp2_with (rw [hW])
  clear hW
  refine (HGA.out _ HA.out).mono ?_
  rintro e w1 ⟨rfl, rfl⟩
  cases hg : greatT la
  case true =>
    clear hg
    go_wp2_with fail
    refine (HZ.out _).mono ?_
    rintro e w1 ⟨rfl, hb⟩
    have HB3 := Lib.hid (HB.out.trans (hb.mono HB.out.size))
    clear hb
    go_wp2_with fail
    go_ret
    exact ⟨rfl, HB3.out⟩
  have hla := (greatT_false hg).1
  have HWA := Lib.hid (fun s hs => Nat.le_trans ((greatT_false hg).2 s hs) (by decide : 100 ≤ 1000))
  clear hg HGA
  by_cases hqs : 100 < q.size
  · have d1 : decide ((100 : Int) < (q.size : Int)) = true := by simp; omega
    have d2 : decide (100 < q.size) = true := by simpa using hqs
    go_wp2_with fail
    refine (HZ.out _).mono ?_
    rintro e w1 ⟨rfl, hb⟩
    have HB3 := Lib.hid (HB.out.trans (hb.mono HB.out.size))
    clear hb
    go_wp2_with fail
    go_ret
    exact ⟨rfl, HB3.out⟩
  have d1 : decide ((100 : Int) < (q.size : Int)) = false := by simp; omega
  have d2 : decide (100 < q.size) = false := by simpa using hqs
  have hq1 : q.size ≤ 1000 := by omega
  cases hm : mayQ q k m
  case false =>
    rw [hm] at HMA
    clear hm
    go_wp2_with fail
    refine (HMA.out _).mono ?_
    rintro e V3 ⟨rfl, hb⟩
    clear t0 t1 t2
    have ZZ := Lib.hid (HB.out.trans ((hb).mono HB.out.size))
    clear HB
    have HB := ZZ
    clear ZZ
    have ZZ := Lib.hid (HK.out.below hb HK.out.lt)
    clear HK
    have HK := ZZ
    clear ZZ
    have ZZ := Lib.hid (RdT.below HA.out hb rfl)
    clear HA
    have HA := ZZ
    clear ZZ
    clear hb
    go_wp2_with fail
    refine (HZ.out _).mono ?_
    rintro e w1 ⟨rfl, hb⟩
    have HB3 := Lib.hid (HB.out.trans (hb.mono HB.out.size))
    clear hb
    go_wp2_with fail
    go_ret
    exact ⟨rfl, HB3.out⟩
  rw [hm] at HMA
  go_wp2_with fail
  refine (HMA.out _).mono ?_
  rintro e V3 ⟨rfl, hb⟩
  clear t0 t1 t2
  have ZZ := Lib.hid (HB.out.trans ((hb).mono HB.out.size))
  clear HB
  have HB := ZZ
  clear ZZ
  have ZZ := Lib.hid (HK.out.below hb HK.out.lt)
  clear HK
  have HK := ZZ
  clear ZZ
  have ZZ := Lib.hid (RdT.below HA.out hb rfl)
  clear HA
  have HA := ZZ
  clear ZZ
  clear hb HMA
  have t0 : V3.cell? ⟨w.heap.size, 0, none⟩ = some (.string q) := HK.out.cell 0
  have t1 : V3.cell? ⟨w.heap.size, 1, none⟩ = some (.int .i64 k) := HK.out.cell 1
  have t2 : V3.cell? ⟨w.heap.size, 2, none⟩ = some (.int .i64 m) := HK.out.cell 2
  obtain ⟨ga, hga⟩ : ∃ g, goodT la = g := ⟨_, rfl⟩
  have HGV := Lib.hid hga
  rw [hga] at HOA
  clear hga
  go_wp2_with fail
  refine (HOA.out _ HA.out).mono ?_
  rintro e V4 ⟨rfl, hb⟩
  clear t0 t1 t2 HOA
  have ZZ := Lib.hid (HB.out.trans ((hb).mono HB.out.size))
  clear HB
  have HB := ZZ
  clear ZZ
  have ZZ := Lib.hid (HK.out.below hb HK.out.lt)
  clear HK
  have HK := ZZ
  clear ZZ
  have ZZ := Lib.hid (RdT.below HA.out hb rfl)
  clear HA
  have HA := ZZ
  clear ZZ
  clear hb
  by_cases h0 : ga = 0
  rotate_left
  · have d3 : (ga != 0) = true := by simpa using h0
    clear h0 HGV
    go_wp2_with fail
    refine (HZ.out _).mono ?_
    rintro e w1 ⟨rfl, hb⟩
    have HB3 := Lib.hid (HB.out.trans (hb.mono HB.out.size))
    clear hb
    go_wp2_with fail
    go_ret
    exact ⟨rfl, HB3.out⟩
  subst h0
  have RS := Lib.hid (show RiseT la from (goodT_of HGV.out).2.2)
  clear HGV d1 d2 hqs
  have HDI := Lib.hid (fun x V (hx : x.size ≤ 1000) => distance_any x q V hx hq1)
  have HB4 := Lib.hid (Below.refl V4.heap.size V4)
  go_wp2_with fail
  go_loopw [7, 8] (fun o i wr => ∃ j : Nat, j ≤ la.length ∧ i = .int .i64 j ∧ ∃ so c n, o = .slice so n c ∧ RowKit.Hid (((la.take j).filter (nearF q k)).length = n) ∧ n ≤ j ∧ RowKit.Hid (wr.ownsRow V4.heap.size 9 1 (.slice so n c) n (((la.take j).filter (nearF q k)).map Value.string)) ∧ RowKit.Hid (Below V4.heap.size V4 wr)) (fun _ i _ => la.length - (intOf i).toNat)
  case atStart => exact ⟨0, by omega, rfl, none, 0, 0, rfl, rfl, by omega, World.ownsRow_nil _ _ _ _, HB4.out⟩
  case round =>
    clear HB4
    obtain ⟨j, hj, rfl, so, c, n, rfl, HQ, hnj, HO, HBL⟩ := hrel
    by_cases hlt : j < la.length
    · obtain ⟨x, hx⟩ : ∃ x, la[j]? = some x := ⟨la[j], List.getElem?_eq_getElem hlt⟩
      have hxs := HWA.out x (List.mem_iff_getElem?.2 ⟨j, hx⟩)
      obtain ⟨g, off, rfl, hbl, c0⟩ := (HA.out.below HBL.out rfl).at hx
      have HC0 := Lib.hid c0
      have HFT := Lib.hid (filter_take (nearF q k) la j x hx)
      have HDX := Lib.hid (fun V => HDI.out x V hxs)
      have hnf : nearF q k x = decide (distT x q ≤ k) := rfl
      generalize distT x q = dx at *
      have HKR := Lib.hid (HK.out.below HBL.out HK.out.lt)
      have k1 : (0 : Int) ≤ (j : Int) := by omega
      have k2 : (j : Int) < (la.length : Int) := by omega
      have HGB : RowKit.Hid (Below wr.heap.size wr wr.drew) := below_drewN (Below.refl _ _) 1
      clear hx c0 hxs
      cases hd : decide (dx ≤ k)
      · rw [hd] at hnf
        go_upto_region 7 with fail
        go_region_held3 (fun w' => w'.cell? ⟨w.heap.size, 0, none⟩ = some (.string q) ∧ w'.cell? ⟨w.heap.size, 1, none⟩ = some (.int .i64 k) ∧ w'.cell? ⟨g, off + j, none⟩ = some (.string x)) (exact ⟨(Blk.below HKR.out HGB.out (Blk.lt HKR.out)).cell 0, (Blk.below HKR.out HGB.out (Blk.lt HKR.out)).cell 1, (HGB.out.cell (p := ⟨g, off + j, none⟩) hbl).trans HC0.out⟩) (first | (go_at_call 47; (with_reducible refine (HDX.out _).mono ?_); rintro e u ⟨rfl, hb⟩; have HSN := Lib.hid (HGB.out.trans (hb.mono HGB.out.size)); clear HGB; have HGB := HSN; clear HSN; clear hb))
        rename_i hHeld
        clear hHeld
        have HO2 := Lib.hid (ownsRow_below HO.out HGB.out)
        have HB2 := Lib.hid (HBL.out.trans (HGB.out.mono HBL.out.size))
        have cx : u.cell? ⟨g, off + j, none⟩ = some (.string x) := (HGB.out.cell (p := ⟨g, off + j, none⟩) hbl).trans HC0.out
        have hz2 := HB2.out.size
        clear HGB HO HBL HC0 HKR
        have HST := Lib.hid (show (la.take (j + 1)).filter (nearF q k) = (la.take j).filter (nearF q k) from by rw [HFT.out, hnf]; simp)
        clear HFT hnf
        go_wp2_with fail
        go_roundw
        case rel => exact ⟨j + 1, by omega, by go_num, so, c, n, rfl, (by rw [HST.out]; exact HQ.out), by omega, (by rw [HST.out]; exact HO2.out), HB2.out⟩
        case measure => simp [intOf]; omega
      · rw [hd] at hnf
        go_upto_region 7 with fail
        go_region_held3 (fun w' => w'.cell? ⟨w.heap.size, 0, none⟩ = some (.string q) ∧ w'.cell? ⟨w.heap.size, 1, none⟩ = some (.int .i64 k) ∧ w'.cell? ⟨g, off + j, none⟩ = some (.string x)) (exact ⟨(Blk.below HKR.out HGB.out (Blk.lt HKR.out)).cell 0, (Blk.below HKR.out HGB.out (Blk.lt HKR.out)).cell 1, (HGB.out.cell (p := ⟨g, off + j, none⟩) hbl).trans HC0.out⟩) (first | (go_at_call 47; (with_reducible refine (HDX.out _).mono ?_); rintro e u ⟨rfl, hb⟩; have HSN := Lib.hid (HGB.out.trans (hb.mono HGB.out.size)); clear HGB; have HGB := HSN; clear HSN; clear hb))
        rename_i hHeld
        clear hHeld
        have HO2 := Lib.hid (ownsRow_below HO.out HGB.out)
        have HB2 := Lib.hid (HBL.out.trans (HGB.out.mono HBL.out.size))
        have cx : u.cell? ⟨g, off + j, none⟩ = some (.string x) := (HGB.out.cell (p := ⟨g, off + j, none⟩) hbl).trans HC0.out
        have hz2 := HB2.out.size
        clear HGB HO HBL HC0 HKR
        have HST := Lib.hid (show (la.take (j + 1)).filter (nearF q k) = (la.take j).filter (nearF q k) ++ [x] from by rw [HFT.out, hnf]; rfl)
        clear HFT hnf
        go_wp2_with (at_builtin; refine wpList_app rfl _ _ 22 22 rfl V4.heap.size 9 j0 (.string ⟨#[]⟩) 1 16 Try.underlying22 HJ0.out HY0.out HY1.out HY2.out rfl (by decide) so n c (((la.take j).filter (nearF q k)).map Value.string) rfl (HO2.out.alloc _) _ 1 _ rfl (Src.one' Try.underlying22 u _ 9 rfl) (by unfold maxLen; omega) (by omega) (by simp; omega) ?_; intro ao2 c2 w2 hown2 hg2; have HO3 := Lib.hid hown2; have HB3 := Lib.hid ((HB2.out.alloc hz2 _).grown hg2 (by simp; omega) (fun k hk => (HO2.out.lt k hk).1)); clear hown2 hg2)
        have hln : RowKit.Hid (((la.take (j + 1)).filter (nearF q k)).length = n + 1) := by unfold RowKit.Hid; rw [HST.out, List.length_append, HQ.out]; rfl
        go_roundw
        case rel => exact ⟨j + 1, by omega, by go_num, ao2, c2, n + 1, rfl, hln, by omega, (by rw [HST.out, List.map_append]; exact HO3.out), HB3.out⟩
        case measure => simp [intOf]; omega
    · obtain rfl : j = la.length := by omega
      rw [List.take_length] at HQ HO
      have hq2 := HQ.out
      subst hq2
      have HTF := Lib.hid (show topL (la.filter (nearF q k)) q k m = topL la q k m from top_far)
      have HWS := Lib.hid (fun s (hs : s ∈ la.filter (nearF q k)) => HWA.out s (List.mem_filter.1 hs).1)
      have hls : (la.filter (nearF q k)).length ≤ la.length := List.length_filter_le _ _
      generalize la.filter (nearF q k) = ls at *
      have HSS := Lib.hid (show RdT wr so ls.length c ls from ownsRow_rd HO.out)
      clear HO HQ hnj hj hlt HDI
      have ZZ := Lib.hid (HB.out.trans ((HBL.out).mono HB.out.size))
      clear HB
      have HB := ZZ
      clear ZZ
      have ZZ := Lib.hid (HK.out.below HBL.out HK.out.lt)
      clear HK
      have HK := ZZ
      clear ZZ
      have ZZ := Lib.hid (RdT.below HA.out HBL.out rfl)
      clear HA
      have HA := ZZ
      clear ZZ
      clear HBL
      have TA := Lib.hid (fun V h => rtop_any V ao la.length ca la q k m h (by omega) HWA.out hq1)
      have TS := Lib.hid (fun V h => rtop_any V so ls.length c ls q k m h (by omega) HWS.out hq1)
      rw [HTF.out] at TS
      have htl := topL_len la q k m
      have HFT := Lib.hid (fun i x hx => far_top (i := i) (x := x) q k m RS.out hm hx)
      generalize topL la q k m = tl at *
      clear HTF
      have t0 : wr.cell? ⟨w.heap.size, 0, none⟩ = some (.string q) := HK.out.cell 0
      have t1 : wr.cell? ⟨w.heap.size, 1, none⟩ = some (.int .i64 k) := HK.out.cell 1
      have t2 : wr.cell? ⟨w.heap.size, 2, none⟩ = some (.int .i64 m) := HK.out.cell 2
      go_wp2_with fail
      refine (TA.out _ HA.out).mono ?_
      rintro e V5 ⟨a9, c9, rfl, hown, hb⟩
      clear t0 t1 t2
      have ZZ := Lib.hid (HB.out.trans ((hb).mono HB.out.size))
      clear HB
      have HB := ZZ
      clear ZZ
      have ZZ := Lib.hid (HK.out.below hb HK.out.lt)
      clear HK
      have HK := ZZ
      clear ZZ
      have ZZ := Lib.hid (RdT.below HA.out hb rfl)
      clear HA
      have HA := ZZ
      clear ZZ
      have ZZ := Lib.hid (RdT.below HSS.out hb rfl)
      clear HSS
      have HSS := ZZ
      clear ZZ
      have HX := Lib.hid (ownsRow_rdE (enc := KeyL.cells) (fun _ => rfl) rfl hown)
      clear hown hb TA
      have t0 : V5.cell? ⟨w.heap.size, 0, none⟩ = some (.string q) := HK.out.cell 0
      have t1 : V5.cell? ⟨w.heap.size, 1, none⟩ = some (.int .i64 k) := HK.out.cell 1
      have t2 : V5.cell? ⟨w.heap.size, 2, none⟩ = some (.int .i64 m) := HK.out.cell 2
      go_wp2_with fail
      refine (TS.out _ HSS.out).mono ?_
      rintro e V6 ⟨a10, c10, rfl, hown, hb⟩
      clear t0 t1 t2
      have ZZ := Lib.hid (HB.out.trans ((hb).mono HB.out.size))
      clear HB
      have HB := ZZ
      clear ZZ
      have ZZ := Lib.hid (HK.out.below hb HK.out.lt)
      clear HK
      have HK := ZZ
      clear ZZ
      have ZZ := Lib.hid (RdT.below HA.out hb rfl)
      clear HA
      have HA := ZZ
      clear ZZ
      have ZZ := Lib.hid (RdT.below HSS.out hb rfl)
      clear HSS
      have HSS := ZZ
      clear ZZ
      have ZZ := Lib.hid (HX.out.below hb rfl)
      clear HX
      have HX := ZZ
      clear ZZ
      have HX2 := Lib.hid (ownsRow_rdE (enc := KeyL.cells) (fun _ => rfl) rfl hown)
      clear hown hb TS
      go_wp2_with fail
      refine (sameI_any _ _ _ _ _ _ tl tl _ HX2.out HX.out).mono ?_
      rintro e V7 ⟨rfl, hd⟩
      rw [eqIs_self]
      have ZZ := Lib.hid (HB.out.trans (((hd.below _)).mono HB.out.size))
      clear HB
      have HB := ZZ
      clear ZZ
      have ZZ := Lib.hid (HK.out.below (hd.below _) HK.out.lt)
      clear HK
      have HK := ZZ
      clear ZZ
      have ZZ := Lib.hid (RdT.below HA.out (hd.below _) rfl)
      clear HA
      have HA := ZZ
      clear ZZ
      have ZZ := Lib.hid (RdT.below HSS.out (hd.below _) rfl)
      clear HSS
      have HSS := ZZ
      clear ZZ
      have ZZ := Lib.hid (HX.out.below (hd.below _) rfl)
      clear HX
      have HX := ZZ
      clear ZZ
      clear hd HX2 HSS
      by_cases h0 : tl.length = 0
      · have d0 : ((tl.length : Int) == 0) = true := by rw [beq_iff_eq]; omega
        clear h0
        go_wp2_with fail
        refine (HZ.out _).mono ?_
        rintro e w1 ⟨rfl, hb⟩
        have HB3 := Lib.hid (HB.out.trans (hb.mono HB.out.size))
        clear hb
        go_wp2_with fail
        go_ret
        exact ⟨rfl, HB3.out⟩
      have d0 : ((tl.length : Int) == 0) = false := by rw [beq_eq_false_iff_ne]; omega
      obtain ⟨j, hj, hjl⟩ := @low_fin which tl.length (by omega)
      have HL1 := Lib.hid (fun V => low_any which (tl.length : Int) V (by omega) (by omega))
      rw [hj] at HL1
      clear hj
      go_wp2_with fail
      refine (HL1.out _).mono ?_
      rintro e w1 ⟨rfl, rfl⟩
      clear HL1 d0 h0
      obtain ⟨x, hx⟩ : ∃ x, tl[j]? = some x := ⟨_, List.getElem?_eq_getElem hjl⟩
      have P := HFT.out j x hx
      have hmw : x.2.size ≤ 1000 ∨ True := .inr trivial
      clear hmw HFT hm
      have CW := Lib.hid (fun V h1 h2 => without_any ao la.length ca la (some ⟨V7.heap.size, 0, none⟩) 1 1 [x.2] V h1 h2 (List.pairwise_singleton _ _) (by omega) (by simp))
      have hlw : (withoutL la [x.2]).length ≤ la.length := List.length_filter_le _ _
      have HWW := Lib.hid (fun s (hs : s ∈ withoutL la [x.2]) => HWA.out s (List.mem_filter.1 hs).1)
      generalize withoutL la [x.2] = lw at *
      have TW := Lib.hid (fun V a c h => rtop_any V a lw.length c lw q k m h (by omega) HWW.out hq1)
      generalize topL lw q k m = tw at *
      have p1 := P.1
      have HP2 := Lib.hid P.2
      clear P
      obtain ⟨bg, og, rfl, hbg, hcx⟩ := HX.out.2.2.2.2 j x hx
      have HC1 := Lib.hid (show V7.cell? ⟨bg, og + j * 2 + 1, none⟩ = some (.string x.2) from hcx 1 (by decide))
      clear hcx
      have k1 : (0 : Int) ≤ (j : Int) := by omega
      have k2 : (j : Int) < (tl.length : Int) := by omega
      have HGA := Lib.hid (show Below V7.heap.size V7 (V7.alloc (.cells #[.string x.2] 9)).drew from below_drewN ((Below.refl _ V7).alloc (Nat.le_refl _) _) 1)
      have HTX := Lib.hid (show RdT (V7.alloc (.cells #[.string x.2] 9)).drew (some ⟨V7.heap.size, 0, none⟩) 1 1 [x.2] from textsOne V7 x.2)
      have HGB : RowKit.Hid (Below V7.heap.size V7 V7.drew) := below_drewN (Below.refl _ _) 1
      clear hx
      go_upto_region 15 with fail
      go_region_held3 (fun w' => w'.cell? ⟨w.heap.size, 0, none⟩ = some (.string q) ∧ w'.cell? ⟨w.heap.size, 1, none⟩ = some (.int .i64 k) ∧ w'.cell? ⟨w.heap.size, 2, none⟩ = some (.int .i64 m) ∧ w'.cell? ⟨bg, og + j * 2 + 1, none⟩ = some (.string x.2)) (first | exact ⟨(Blk.below HK.out HGB.out (Blk.lt HK.out)).cell 0, (Blk.below HK.out HGB.out (Blk.lt HK.out)).cell 1, (Blk.below HK.out HGB.out (Blk.lt HK.out)).cell 2, (HGB.out.cell (p := ⟨bg, og + j * 2 + 1, none⟩) hbg).trans HC1.out⟩ | exact ⟨(Blk.below HK.out HGA.out (Blk.lt HK.out)).cell 0, (Blk.below HK.out HGA.out (Blk.lt HK.out)).cell 1, (Blk.below HK.out HGA.out (Blk.lt HK.out)).cell 2, (HGA.out.cell (p := ⟨bg, og + j * 2 + 1, none⟩) hbg).trans HC1.out⟩) (first | (go_at_call 45; (with_reducible refine (CW.out _ (RdT.below HA.out HGA.out rfl) HTX.out).mono ?_); rintro e u15 ⟨a1, c1, rfl, hown, hb⟩; have HX1 := Lib.hid (show RdT u15 a1 lw.length c1 lw from ownsRow_rd hown); clear hown HTX; have HSN := Lib.hid (HGA.out.trans (hb.mono HGA.out.size)); clear HGA HGB; have HGB := HSN; clear HSN; clear hb) | (go_at_call 17; (with_reducible refine (TW.out _ _ _ HX1.out).mono ?_); rintro e u16 ⟨a11, c11, rfl, hown, hb⟩; have H11 := Lib.hid (ownsRow_rdE (enc := KeyL.cells) (fun _ => rfl) rfl hown); clear hown HX1; have HSN := Lib.hid (HGB.out.trans (hb.mono HGB.out.size)); clear HGB; have HGB := HSN; clear HSN; clear hb))
      rename_i hHeld
      clear hHeld HC1
      have ZZ := Lib.hid (HB.out.trans ((HGB.out).mono HB.out.size))
      clear HB
      have HB := ZZ
      clear ZZ
      have ZZ := Lib.hid (HK.out.below HGB.out HK.out.lt)
      clear HK
      have HK := ZZ
      clear ZZ
      have ZZ := Lib.hid (RdT.below HA.out HGB.out rfl)
      clear HA
      have HA := ZZ
      clear ZZ
      have ZZ := Lib.hid (HX.out.below HGB.out rfl)
      clear HX
      have HX := ZZ
      clear ZZ
      clear HGB CW TW HWW
      have q1 := HX.out.2.1
      have q2 := HX.out.2.2.1
      unfold maxLen at q2
      obtain ⟨j1, hj1⟩ : ∃ n, j + 1 = n := ⟨_, rfl⟩
      have wj : IntKind.i64.wrap ((j : Int) + 1) = (j1 : Int) := by rw [IntWalk.i64_in _ (by omega)]; omega
      have s1 : (0 : Int) ≤ (j1 : Int) := by omega
      have s2 : (j1 : Int) ≤ (tl.length : Int) := by omega
      have s3 : (tl.length : Int) ≤ (c9 : Int) := by omega
      have s4 : (j : Int) ≤ (c9 : Int) := by omega
      have s5 : j ≤ c9 := by omega
      have s6 : j1 ≤ tl.length := by omega
      have HJ1 := Lib.hid hj1
      clear hj1
      go_upto_region 16 with fail
      have A1 : 0 + j ≤ maxLen := by unfold maxLen; omega
      have A2 : (0 + j) * 24 ≤ 140737488355328 := by omega
      have A3 : j + (tl.length - j1) ≤ maxLen := by unfold maxLen; omega
      have A4 : (j + (tl.length - j1)) * 24 ≤ 140737488355328 := by omega
      have HGB : RowKit.Hid (Below u16.heap.size u16 u16.drew) := below_drewN (Below.refl _ _) 1
      have HS1 := Lib.hid (fun V (hb : Below u16.heap.size u16 V) => Src.ofRdE (P := Try.prog) (tx := 28) (enc := KeyL.cells) (size := 2) Try.underlying28 (fun _ => rfl) itemOne ((HX.out.below hb rfl).take j (by omega)))
      have HN := Lib.hid (fun V : World => World.ownsRow_nil V u16.heap.size 39 2)
      obtain ⟨o', ho'⟩ : ∃ o', (if c9 = j1 then og else og + j1 * 2) = o' := ⟨_, rfl⟩
      have HDR := Lib.hid (fun V (hb : Below u16.heap.size u16 V) => (HX.out.below hb rfl).drop j1 s6 o' (fun h => by rw [← ho', if_neg (by omega)]))
      have han : (if c9 = j1 then some (⟨bg, og, none⟩ : Addr) else some ⟨bg, og + j1 * 2, none⟩) = some ⟨bg, o', none⟩ := by rw [← ho']; split <;> rfl
      clear ho'
      have HS2 := Lib.hid (fun V (hb : Below u16.heap.size u16 V) => Src.ofRdE (P := Try.prog) (tx := 28) (enc := KeyL.cells) (size := 2) Try.underlying28 (fun _ => rfl) itemOne (HDR.out V hb))
      go_region_held3 (fun _ => True) (trivial) (first | (refine step_app rfl (.const (.slice none 0 0)) (.tmp 84) 28 28 rfl u16.heap.size 39 i0 (.agg #[.int .i64 0, .string ⟨#[]⟩]) 2 24 Try.underlying28 HI0.out HZ0.out HZ1.out HZ2.out rfl (by decide) none 0 0 [] rfl (HN.out _) (.slice (some ⟨bg, og, none⟩) j c9) j ((tl.take j).flatMap KeyL.cells) (by first | rfl | kernel_rfl) (HS1.out _ HGB.out) A1 A2 HGB.out.size ?_; intro a3 c3 u17 hown5 hg5; rw [Nat.zero_add, List.nil_append] at hown5; have HO5 := Lib.hid hown5; have HSN := Lib.hid (HGB.out.grown hg5 HGB.out.size (fun k hk => by cases hk)); clear HGB; have HGB := HSN; clear HSN hown5 hg5; try rw [Nat.zero_add]) | (refine step_app rfl (.tmp 85) (.tmp 89) 28 28 rfl u16.heap.size 39 i0 (.agg #[.int .i64 0, .string ⟨#[]⟩]) 2 24 Try.underlying28 HI0.out HZ0.out HZ1.out HZ2.out rfl (by decide) a3 j c3 ((tl.take j).flatMap KeyL.cells) rfl HO5.out (.slice (some ⟨bg, o', none⟩) (tl.length - j1) (c9 - j1)) (tl.length - j1) ((tl.drop j1).flatMap KeyL.cells) (by first | rfl | kernel_rfl) (HS2.out _ HGB.out) A3 A4 HGB.out.size ?_; intro a4 c4 u18 hown5 hg5; rw [← List.flatMap_append] at hown5; have HO6 := Lib.hid hown5; have HSN := Lib.hid (HGB.out.grown hg5 HGB.out.size (fun k hk => (HO5.out.lt k hk).1)); clear HGB; have HGB := HSN; clear HSN hown5 hg5))
      rename_i hHeld
      clear hHeld HS1 HS2 HDR HN A1 A2 A3 A4
      have ZZ := Lib.hid (HB.out.trans ((HGB.out).mono HB.out.size))
      clear HB
      have HB := ZZ
      clear ZZ
      have ZZ := Lib.hid (HK.out.below HGB.out HK.out.lt)
      clear HK
      have HK := ZZ
      clear ZZ
      have ZZ := Lib.hid (RdT.below HA.out HGB.out rfl)
      clear HA
      have HA := ZZ
      clear ZZ
      have ZZ := Lib.hid (HX.out.below HGB.out rfl)
      clear HX
      have HX := ZZ
      clear ZZ
      have ZZ := Lib.hid (H11.out.below HGB.out rfl)
      clear H11
      have H11 := ZZ
      clear ZZ
      obtain ⟨rs, hrs⟩ : ∃ r, tl.take j ++ tl.drop (j + 1) = r := ⟨_, rfl⟩
      have hrl : rs.length = j + (tl.length - j1) := by rw [← hrs, List.length_append, List.length_take, List.length_drop, HJ1.out]; have := HJ1.out; omega
      have HO7 := Lib.hid HO6.out
      rw [← HJ1.out, hrs] at HO7
      have HRS := Lib.hid (ownsRow_rdE (enc := KeyL.cells) (fun _ => rfl) (hrl.trans (by rw [HJ1.out])) HO7.out)
      clear HO7 HO6 HO5 HGB
      rw [hrs] at p1 HP2
      rw [HJ1.out, ← hrl] at HRS
      rw [← hrl]
      have HTK := Lib.hid (show RdE KeyL.cells 2 u18 a11 rs.length c11 rs from by
        have h := H11.out.take rs.length p1
        rw [HP2.out] at h
        exact h)
      clear hrl hrs wj han
      have k3 : (0 : Int) ≤ (rs.length : Int) := by omega
      have k4 := H11.out.2.1
      have k5 : (rs.length : Int) ≤ (c11 : Int) := by omega
      have k6 := H11.out.2.2.1
      unfold maxLen at k6
      have k7 : rs.length ≤ c11 := by omega
      have k8 : (rs.length : Int) ≤ (tw.length : Int) := by omega
      have d4 : decide ((rs.length : Int) ≤ (tw.length : Int)) = true := by simpa using p1
      have d5 : decide (rs.length ≤ tw.length) = true := by simpa using p1
      go_wp2_with fail
      refine (sameI_any _ _ _ _ _ _ rs rs _ HTK.out HRS.out).mono ?_
      rintro e V9 ⟨rfl, hd⟩
      rw [eqIs_self]
      have ZZ := Lib.hid (HB.out.trans (((hd.below _)).mono HB.out.size))
      clear HB
      have HB := ZZ
      clear ZZ
      have ZZ := Lib.hid (HK.out.below (hd.below _) HK.out.lt)
      clear HK
      have HK := ZZ
      clear ZZ
      have ZZ := Lib.hid (RdT.below HA.out (hd.below _) rfl)
      clear HA
      have HA := ZZ
      clear ZZ
      have ZZ := Lib.hid (HX.out.below (hd.below _) rfl)
      clear HX
      have HX := ZZ
      clear ZZ
      have ZZ := Lib.hid (H11.out.below (hd.below _) rfl)
      clear H11
      have H11 := ZZ
      clear ZZ
      clear hd
      go_wp2_with fail
      refine (HZ.out _).mono ?_
      rintro e w1 ⟨rfl, hb⟩
      have HB3 := Lib.hid (HB.out.trans (hb.mono HB.out.size))
      clear hb
      go_wp2_with fail
      go_ret
      exact ⟨rfl, HB3.out⟩
end Go.Proofs.Ytiohngcmojkheaa
