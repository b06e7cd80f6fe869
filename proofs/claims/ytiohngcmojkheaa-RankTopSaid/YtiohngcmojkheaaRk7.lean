/- RankTop. -/
import Derived.Test.YtiohngcmojkheaaR10b
import Derived.Test.YtiohngcmojkheaaRk4
import Derived.Test.YtiohngcmojkheaaLendT
namespace Go.Proofs.Ytiohngcmojkheaa
open Go.RowKit
set_option linter.unusedVariables false

theorem eqTs_self (l : List ByteArray) : eqTs l l = true := by unfold eqTs; simp
set_option maxRecDepth 100000 in
set_option maxHeartbeats 8000000 in
theorem top_law (w : World) (ao : Option Addr) (n c : Nat) (words : List ByteArray) (q : ByteArray) (k m : Int) (hr : RdT w ao n c words) (hw : ∀ s ∈ words, s.size ≤ maxLen) (hq : q.size ≤ maxLen) :
    Calls Try.prog 3 #[.slice ao n c, .agg #[.string q, .int .i64 k, .int .i64 m]] w fun e w' => e = .returned (.bool true) ∧ Below w.heap.size w w' := by
  have hn := hr.len
  subst hn
  have HR := Lib.hid hr
  have HGR := Lib.hid (fun W h => greatT_any ao words.length c words W h hw)
  have HZ : RowKit.Hid (∀ V, Calls Try.prog 15 #[] V fun e w' => e = .returned (.bool true) ∧ Below V.heap.size V w') := fun V => awake_any V
  have HB := Lib.hid ((Below.refl _ w).alloc (Nat.le_refl _) (.cells #[.string q, .int .i64 k, .int .i64 m] 24))
  have HK := Lib.hid (show Blk (w.alloc (.cells #[.string q, .int .i64 k, .int .i64 m] 24)) w.heap.size 24 [.string q, .int .i64 k, .int .i64 m] from heap_alloc_new w _)
  clear hr hw
  unfold maxLen at hq
  go_enter Try.func3, Try.ntmps3
  go_wp2_with fail
  generalize w.alloc (.cells #[.string q, .int .i64 k, .int .i64 m] 24) = W at *
  refine (HGR.out W (Rd.below HR.out HB.out rfl)).mono ?_
  rintro e w0 ⟨rfl, rfl⟩
  clear HGR
  have c0 : W.cell? ⟨w.heap.size, 0, none⟩ = some (.string q) := HK.out.cell 0
  have c1 : W.cell? ⟨w.heap.size, 1, none⟩ = some (.int .i64 k) := HK.out.cell 1
  have c2 : W.cell? ⟨w.heap.size, 2, none⟩ = some (.int .i64 m) := HK.out.cell 2
  cases hg : greatT words
  case true =>
    clear hg
    go_wp2_with fail
    refine (HZ.out _).mono ?_
    rintro e w1 ⟨rfl, hb⟩
    have HB1 := Lib.hid (HB.out.trans (hb.mono HB.out.size))
    clear hb
    go_wp2_with fail
    go_ret
    exact ⟨rfl, HB1.out⟩
  have hl80 := (greatT_false hg).1
  have HW := Lib.hid (fun s hs => Nat.le_trans ((greatT_false hg).2 s hs) (by decide : 100 ≤ 1000))
  clear hg
  by_cases hqs : 100 < q.size
  · have d1 : decide ((100 : Int) < (q.size : Int)) = true := by simp; omega
    have d2 : decide (100 < q.size) = true := by simpa using hqs
    go_wp2_with fail
    refine (HZ.out _).mono ?_
    rintro e w1 ⟨rfl, hb⟩
    have HB1 := Lib.hid (HB.out.trans (hb.mono HB.out.size))
    clear hb
    go_wp2_with fail
    go_ret
    exact ⟨rfl, HB1.out⟩
  have d1 : decide ((100 : Int) < (q.size : Int)) = false := by simp; omega
  have d2 : decide (100 < q.size) = false := by simpa using hqs
  have hq1 : q.size ≤ 1000 := by omega
  have hws : words.length ≤ 1000 := by omega
  have hwm : words.length ≤ 1000000 := by omega
  have HMAY := Lib.hid (fun W => rmay_any q k m W (by unfold maxLen; omega))
  have HMAR := Lib.hid (fun W => rrmay_any q k m W (by omega))
  have HT := Lib.hid (fun W ao c h => rtop_any W ao words.length c words q k m h hws HW.out hq1)
  have HTR := Lib.hid (fun W ao c h => rrtop_any W ao words.length c words q k m h hws HW.out hq1)
  have HA := Lib.hid (fun W ao c h => rall_any W ao words.length c words q k h hws HW.out hq1)
  have HAR := Lib.hid (fun W ao c h => rrall_any W ao words.length c words q k h hws HW.out hq1)
  have htl := Nat.le_trans (topL_len words q k m) hws
  have hal := Nat.le_trans (allL_len words q k) hws
  generalize topL words q k m = tl at *
  generalize allL words q k = al at *
  generalize mayQ q k m = mb at *
  have hbb : (mb == mb) = true := by simp
  have HRW := Lib.hid (Rd.below HR.out HB.out rfl)
  go_wp2_with fail
  refine (lendT_any ao words.length c words W HRW.out hwm).mono ?_
  rintro e W1 ⟨rfl, hbk, hb⟩
  have HIN := Lib.hid hbk
  have HB1 := Lib.hid hb
  have HLT := Lib.hid (lentT hbk hwm)
  have HK1 := Lib.hid (HK.out.below hb (Blk.lt HK.out))
  clear hbk hb d1 d2 hqs c0 c1 c2
  have c0 : W1.cell? ⟨w.heap.size, 0, none⟩ = some (.string q) := HK1.out.cell 0
  have c1 : W1.cell? ⟨w.heap.size, 1, none⟩ = some (.int .i64 k) := HK1.out.cell 1
  have c2 : W1.cell? ⟨w.heap.size, 2, none⟩ = some (.int .i64 m) := HK1.out.cell 2
  go_wp2_with fail
  refine (HT.out W1 _ _ HLT.out).mono ?_
  rintro e W2 ⟨a1, ca1, rfl, hown, hb⟩
  have HOA := Lib.hid hown
  have HIN2 := Lib.hid (HIN.out.below hb (Blk.lt HIN.out))
  have HLT2 := Lib.hid (Rd.below HLT.out hb rfl)
  have HK2 := Lib.hid (HK1.out.below hb (Blk.lt HK1.out))
  have HB2 := Lib.hid (HB1.out.trans (hb.mono HB1.out.size))
  have hgl := Blk.lt HIN.out
  have hB12 := hb.size
  have hsz1 := HB1.out.size
  clear hown hb HLT HIN c0 c1 c2 HK1
  have c0 : W2.cell? ⟨w.heap.size, 0, none⟩ = some (.string q) := HK2.out.cell 0
  have c1 : W2.cell? ⟨w.heap.size, 1, none⟩ = some (.int .i64 k) := HK2.out.cell 1
  go_wp2_with fail
  refine (HA.out W2 _ _ HLT2.out).mono ?_
  rintro e W3 ⟨a2, ca2, rfl, hown, hb⟩
  have HOC := Lib.hid hown
  have HOA3 := Lib.hid (ownsRow_below HOA.out hb)
  have HIN3 := Lib.hid (HIN2.out.below hb (Blk.lt HIN2.out))
  have HK3 := Lib.hid (HK2.out.below hb (Blk.lt HK2.out))
  have HB3 := Lib.hid (HB2.out.trans (hb.mono HB2.out.size))
  have HLA := Lib.hid (fun i h => (HOA.out.lt i h).2)
  have hB23 := hb.size
  clear hown hb HLT2 HIN2 c0 c1 HK2 HOA
  have HGB : RowKit.Hid (Below W3.heap.size W3 W3.drew) := below_drewN (Below.refl _ _) 1
  have HR3 := Lib.hid (fun V (h : Below W3.heap.size W3 V) => show RdT V ao words.length c words from Rd.below (Rd.below HRW.out HB3.out rfl) h rfl)
  have HA3 := Lib.hid (ownsRow_rdE (enc := KeyL.cells) (fun _ => rfl) rfl HOA3.out)
  have HC3 := Lib.hid (ownsRow_rdE (enc := KeyL.cells) (fun _ => rfl) rfl HOC.out)
  have HKE := Lib.hid (fun V (hb : Below W3.heap.size W3 V) => keptT_any W.heap.size ao words.length c words words V hwm (HIN3.out.below hb (Blk.lt HIN3.out)) (HR3.out V hb))
  rw [eqTs_self] at HKE
  go_upto_region 6 with fail
  go_region_held3 (fun w' => w'.cell? ⟨w.heap.size, 0, none⟩ = some (.string q) ∧ w'.cell? ⟨w.heap.size, 1, none⟩ = some (.int .i64 k) ∧ w'.cell? ⟨w.heap.size, 2, none⟩ = some (.int .i64 m)) (exact ⟨(Blk.below HK3.out HGB.out (Blk.lt HK3.out)).cell 0, (Blk.below HK3.out HGB.out (Blk.lt HK3.out)).cell 1, (Blk.below HK3.out HGB.out (Blk.lt HK3.out)).cell 2⟩) (first | (go_at_call 19; (with_reducible refine (HMAY.out _).mono ?_); rintro e u ⟨rfl, hb⟩; have HSN := Lib.hid (HGB.out.trans (hb.mono HGB.out.size)); clear HGB; have HGB := HSN; clear HSN; clear hb) | (go_at_call 20; (with_reducible refine (HMAR.out _).mono ?_); rintro e u ⟨rfl, hb⟩; have HSN := Lib.hid (HGB.out.trans (hb.mono HGB.out.size)); clear HGB; have HGB := HSN; clear HSN; clear hb) | (go_at_call 22; (with_reducible refine (HTR.out _ _ _ (HR3.out _ HGB.out)).mono ?_); rintro e u ⟨b1, cb1, rfl, hown, hb⟩; have HBS1 := Lib.hid (ownsRow_rdE (enc := KeyL.cells) (fun _ => rfl) rfl hown); have HSN := Lib.hid (HGB.out.trans (hb.mono HGB.out.size)); clear HGB; have HGB := HSN; clear HSN; clear hown hb) | (go_at_call 23; (with_reducible refine (HAR.out _ _ _ (HR3.out _ HGB.out)).mono ?_); rintro e u ⟨b2, cb2, rfl, hown, hb⟩; have HBS2 := Lib.hid (ownsRow_rdE (enc := KeyL.cells) (fun _ => rfl) rfl hown); have HSN := Lib.hid (HGB.out.trans (hb.mono HGB.out.size)); clear HGB; have HGB := HSN; clear HSN; clear hown hb) | (go_at_call 21; (with_reducible refine (sameI_any a1 _ ca1 b1 _ cb1 tl tl _ (HA3.out.below HGB.out rfl) HBS1.out).mono ?_); rintro e u ⟨rfl, hd⟩; rw [eqIs_self]; have HSN := Lib.hid (HGB.out.trans ((hd.below _).mono HGB.out.size)); clear HGB; have HGB := HSN; clear HSN; clear hd HBS1) | (go_at_call 21; (with_reducible refine (sameI_any a2 _ ca2 b2 _ cb2 al al _ (HC3.out.below HGB.out rfl) HBS2.out).mono ?_); rintro e u ⟨rfl, hd⟩; rw [eqIs_self]; have HSN := Lib.hid (HGB.out.trans ((hd.below _).mono HGB.out.size)); clear HGB; have HGB := HSN; clear HSN; clear hd HBS2) | (go_at_call 24; (with_reducible refine (HKE.out _ HGB.out).mono ?_); rintro e u ⟨rfl, hd⟩; have HSN := Lib.hid (HGB.out.trans ((hd.below _).mono HGB.out.size)); clear HGB; have HGB := HSN; clear HSN; clear hd))
  have HOU := Lib.hid (ownsRow_below HOA3.out HGB.out)
  have HOV := Lib.hid (overI_any _ _ _ _ _ u HOU.out htl)
  have HCU := Lib.hid (ownsRow_below HOC.out HGB.out)
  have HBU := Lib.hid (HB.out.trans ((HB3.out.trans (HGB.out.mono HB3.out.size)).mono HB.out.size))
  have hsu := HGB.out.size
  have hww := HB.out.size
  go_wp2_with fail
  refine HOV.out.mono ?_
  rintro e w4 ⟨rfl, hf⟩
  have hb4 : Below W1.heap.size u w4 := hf.toBelow (by omega) (fun i hi e => by have := (HOU.out.lt i e).1; omega)
  have HC4 := Lib.hid (ownsRow_frm HCU.out hf (fun i hi e => by have h1 := (HCU.out.lt i hi).1; have h2 := HLA.out i e; omega))
  have HB4 := Lib.hid (HBU.out.trans (hb4.mono (by omega)))
  have HKU : RowKit.Hid (Below W.heap.size W u) := HB3.out.trans (HGB.out.mono HB3.out.size)
  have HKW := Lib.hid (show Below W.heap.size W w4 from HKU.out.trans (hb4.mono hsz1))
  have h4s := hb4.size
  clear hf hb4 HOV HOU HCU HOA3 HOC HA3 HC3 HIN3 HKE HR3
  have HOV := Lib.hid (overI_any _ _ _ _ _ w4 HC4.out hal)
  go_wp2_with fail
  refine HOV.out.mono ?_
  rintro e w5 ⟨rfl, hf⟩
  have hb5 : Below W2.heap.size w4 w5 := hf.toBelow (by omega) (fun i hi e => by have := (HC4.out.lt i e).1; omega)
  have HB5 := Lib.hid (HB4.out.trans (hb5.mono (by omega)))
  have HKX := Lib.hid (show Below W.heap.size W w5 from HKW.out.trans (hb5.mono (by omega)))
  clear hf hb5 HOV HC4 HGB
  have HK5 := Lib.hid (Blk.below HK.out HKX.out (Blk.lt HK.out))
  have HR5 := Lib.hid (show RdT w5 ao words.length c words from Rd.below HR.out HB5.out rfl)
  have HGB : RowKit.Hid (Below w5.heap.size w5 w5.drew) := below_drewN (Below.refl _ _) 1
  have HR3 := Lib.hid (fun V (h : Below w5.heap.size w5 V) => show RdT V ao words.length c words from Rd.below HR5.out h rfl)
  go_upto_region 9 with fail
  go_region_held3 (fun w' => w'.cell? ⟨w.heap.size, 0, none⟩ = some (.string q) ∧ w'.cell? ⟨w.heap.size, 1, none⟩ = some (.int .i64 k) ∧ w'.cell? ⟨w.heap.size, 2, none⟩ = some (.int .i64 m)) (exact ⟨(Blk.below HK5.out HGB.out (Blk.lt HK5.out)).cell 0, (Blk.below HK5.out HGB.out (Blk.lt HK5.out)).cell 1, (Blk.below HK5.out HGB.out (Blk.lt HK5.out)).cell 2⟩) (first | (go_at_call 17; (with_reducible refine (HT.out _ _ _ (HR3.out _ HGB.out)).mono ?_); rintro e u ⟨b1, cb1, rfl, hown, hb⟩; have HBS1 := Lib.hid (ownsRow_rdE (enc := KeyL.cells) (fun _ => rfl) rfl hown); have HSN := Lib.hid (HGB.out.trans (hb.mono HGB.out.size)); clear HGB; have HGB := HSN; clear HSN; clear hown hb) | (go_at_call 22; (with_reducible refine (HTR.out _ _ _ (HR3.out _ HGB.out)).mono ?_); rintro e u ⟨b2, cb2, rfl, hown, hb⟩; have HBS3 := Lib.hid (HBS1.out.below hb rfl); clear HBS1; have HBS2 := Lib.hid (ownsRow_rdE (enc := KeyL.cells) (fun _ => rfl) rfl hown); have HSN := Lib.hid (HGB.out.trans (hb.mono HGB.out.size)); clear HGB; have HGB := HSN; clear HSN; clear hown hb) | (go_at_call 21; (with_reducible refine (sameI_any b1 _ cb1 b2 _ cb2 tl tl _ HBS3.out HBS2.out).mono ?_); rintro e u ⟨rfl, hd⟩; rw [eqIs_self]; have HSN := Lib.hid (HGB.out.trans ((hd.below _).mono HGB.out.size)); clear HGB; have HGB := HSN; clear HSN; clear hd) | (go_at_call 15; (with_reducible refine (HZ.out _).mono ?_); rintro e u ⟨rfl, hb⟩; have HSN := Lib.hid (HGB.out.trans (hb.mono HGB.out.size)); clear HGB; have HGB := HSN; clear HSN; clear hb))
  have HB6 := Lib.hid (HB5.out.trans (HGB.out.mono HB5.out.size))
  go_wp2_with fail
  go_ret
  exact ⟨rfl, HB6.out⟩
end Go.Proofs.Ytiohngcmojkheaa
