/- RankSorts. -/
import Derived.Test.YtiohngcmojkheaaR10a
import Derived.Test.YtiohngcmojkheaaRk4
namespace Go.Proofs.Ytiohngcmojkheaa
open Go.RowKit
set_option linter.unusedVariables false

/-- two items in boxes -/
def Box2 (W : World) (p : Nat) (a b : KeyL) : Prop := (W.cell? ⟨p, 0, none⟩ = some (.int .i64 a.1) ∧ W.cell? ⟨p, 1, none⟩ = some (.string a.2)) ∧ (W.cell? ⟨p + 1, 0, none⟩ = some (.int .i64 b.1) ∧ W.cell? ⟨p + 1, 1, none⟩ = some (.string b.2))
theorem Box2.make (w : World) (a b : KeyL) : Box2 ((w.alloc (.cells #[.int .i64 a.1, .string a.2] 39)).alloc (.cells #[.int .i64 b.1, .string b.2] 39)) w.heap.size a b := by
  have h1 : Blk (w.alloc (.cells #[.int .i64 a.1, .string a.2] 39)) w.heap.size 39 [.int .i64 a.1, .string a.2] := heap_alloc_new w _
  have h2 : Blk ((w.alloc (.cells #[.int .i64 a.1, .string a.2] 39)).alloc (.cells #[.int .i64 b.1, .string b.2] 39)) (w.heap.size + 1) 39 [.int .i64 b.1, .string b.2] := by
    have h := heap_alloc_new (w.alloc (.cells #[.int .i64 a.1, .string a.2] 39)) (.cells #[.int .i64 b.1, .string b.2] 39)
    unfold Blk; simpa using h
  have g1 := h1.alloc (.cells #[.int .i64 b.1, .string b.2] 39)
  exact ⟨⟨g1.cell 0, g1.cell 1⟩, h2.cell 0, h2.cell 1⟩
theorem Box2.below {w w' : World} {p : Nat} {a b : KeyL} (h : Box2 w p a b) (hb : Below w.heap.size w w') : Box2 w' p a b :=
  ⟨⟨(hb.cell (cell?_lt h.1.1)).trans h.1.1, (hb.cell (cell?_lt h.1.2)).trans h.1.2⟩, (hb.cell (cell?_lt h.2.1)).trans h.2.1, (hb.cell (cell?_lt h.2.2)).trans h.2.2⟩
set_option maxRecDepth 100000 in
set_option maxHeartbeats 8000000 in
theorem sorts_law (w : World) (ao : Option Addr) (n c : Nat) (l : List KeyL) (x y : KeyL) (hr : RdE KeyL.cells 2 w ao n c l) (hs : ∀ z ∈ l, z.2.size ≤ maxLen) (hx : x.2.size ≤ maxLen) (hy : y.2.size ≤ maxLen) :
    Calls Try.prog 5 #[.slice ao n c, .agg #[.int .i64 x.1, .string x.2], .agg #[.int .i64 y.1, .string y.2]] w fun e w' => e = .returned (.bool true) ∧ Below w.heap.size w w' := by
  have hn := hr.1
  subst hn
  have hcap := hr.2.1
  have hcm := hr.2.2.1
  unfold maxLen at hcm hx hy
  have HR := Lib.hid hr
  have HX := Lib.hid (Box2.make w x y)
  have HB := Lib.hid (((Below.refl _ w).alloc (Nat.le_refl _) (.cells #[.int .i64 x.1, .string x.2] 39)).alloc (by simp) (.cells #[.int .i64 y.1, .string y.2] 39))
  have HGR := Lib.hid (fun W h => greatI_any ao l.length c l W h hs)
  have HZ : RowKit.Hid (∀ V, Calls Try.prog 15 #[] V fun e w' => e = .returned (.bool true) ∧ Below V.heap.size V w') := fun V => awake_any V
  clear hr hs
  go_enter Try.func5, Try.ntmps5
  go_wp2_with fail
  generalize (w.alloc (.cells #[.int .i64 x.1, .string x.2] 39)).alloc (.cells #[.int .i64 y.1, .string y.2] 39) = W at *
  refine (HGR.out W (HR.out.below HB.out rfl)).mono ?_
  rintro e w0 ⟨rfl, rfl⟩
  clear HGR
  obtain ⟨⟨x0, x1⟩, y0, y1⟩ := HX.out
  cases hg : greatI l
  case true =>
    clear hg
    go_wp2_with fail
    refine (HZ.out _).mono ?_
    rintro e w1 ⟨rfl, hb⟩
    have HB1 := Lib.hid (HB.out.trans (hb.mono HB.out.size))
    clear hb
    go_wp2_with fail
    go_ret
    exact ⟨rfl, HB1.out⟩
  have hl80 := (greatI_false hg).1
  have HS := Lib.hid (greatI_false hg).2
  clear hg
  by_cases bx : 100 < x.2.size
  · have d1 : decide ((100 : Int) < (x.2.size : Int)) = true := by simp; omega
    go_wp2_with fail
    refine (HZ.out _).mono ?_
    rintro e w1 ⟨rfl, hb⟩
    have HB1 := Lib.hid (HB.out.trans (hb.mono HB.out.size))
    clear hb
    go_wp2_with fail
    go_ret
    exact ⟨rfl, HB1.out⟩
  have d1 : decide ((100 : Int) < (x.2.size : Int)) = false := by simp; omega
  have d1' : decide (100 < x.2.size) = false := by simpa using bx
  by_cases by_ : 100 < y.2.size
  · have d2 : decide ((100 : Int) < (y.2.size : Int)) = true := by simp; omega
    go_wp2_with fail
    refine (HZ.out _).mono ?_
    rintro e w1 ⟨rfl, hb⟩
    have HB1 := Lib.hid (HB.out.trans (hb.mono HB.out.size))
    clear hb
    go_wp2_with fail
    go_ret
    exact ⟨rfl, HB1.out⟩
  have d2 : decide ((100 : Int) < (y.2.size : Int)) = false := by simp; omega
  have d2' : decide (100 < y.2.size) = false := by simpa using by_
  have hx1 : x.2.size ≤ 1000000 := by omega
  have hy1 : y.2.size ≤ 1000000 := by omega
  have HRW := Lib.hid (HR.out.below HB.out rfl)
  go_wp2_with fail
  refine (lendI_any ao l.length c l W HRW.out (by omega)).mono ?_
  rintro e W1 ⟨rfl, hbk, hb⟩
  have HIN := Lib.hid hbk
  have HB1 := Lib.hid hb
  have HRI := Lib.hid (Blk.rdE (enc := KeyL.cells) (size := 2) (fun _ => rfl) hbk (l.length + 3) (by omega) (by unfold maxLen; omega))
  clear hbk hb d1 d1' d2 d2' bx by_ x0 x1 y0 y1
  go_wp2_with fail
  refine (rsort_any W1 _ l.length _ l HRI.out (by omega)).mono ?_
  rintro e W2 ⟨a1, c1, rfl, hown, hb⟩
  have HOA := Lib.hid hown
  have HIN2 := Lib.hid (HIN.out.below hb (Blk.lt HIN.out))
  have HB2 := Lib.hid (HB1.out.trans (hb.mono HB1.out.size))
  have hgl := Blk.lt HIN.out
  have hB12 := hb.size
  have hsz1 := HB1.out.size
  clear hown hb HRI HIN
  have HGB : RowKit.Hid (Below W2.heap.size W2 W2.drew) := below_drewN (Below.refl _ _) 1
  have HX2 := Lib.hid (HX.out.below (HB2.out))
  have HR2 := Lib.hid (HRW.out.below HB2.out rfl)
  have HA2 := Lib.hid (ownsRow_rdE (enc := KeyL.cells) (fun _ => rfl) rfl HOA.out)
  have hn1 : l.length ≤ 1000 := by omega
  have hn2 : l.length ≤ 1000000 := by omega
  have HSS := Lib.hid (show ∀ z ∈ l, z.2.size ≤ 1000000 from fun z hz => Nat.le_trans (HS.out z hz) (by decide))
  have HRS := Lib.hid (fun V (hb : Below W2.heap.size W2 V) => refsort_any V ao l.length c l (HR2.out.below hb rfl) hn1 HSS.out)
  have HKE := Lib.hid (fun V (hb : Below W2.heap.size W2 V) => keptI_any W.heap.size ao l.length c l l V hn2 (HIN2.out.below hb (Blk.lt HIN2.out)) (HR2.out.below hb rfl))
  rw [eqIs_self] at HKE
  have HLP := Lib.hid (iless_any x y)
  have HLD := Lib.hid (fun V => rless_any x y V hx1 hy1)
  generalize kless x y = kxy at *
  clear HRW HS HX HSS
  go_upto_region 5 with fail
  go_region_held3 (fun w' => w'.cell? ⟨w.heap.size, 0, none⟩ = some (.int .i64 x.1) ∧ w'.cell? ⟨w.heap.size, 1, none⟩ = some (.string x.2) ∧ w'.cell? ⟨w.heap.size + 1, 0, none⟩ = some (.int .i64 y.1) ∧ w'.cell? ⟨w.heap.size + 1, 1, none⟩ = some (.string y.2)) (exact ⟨(HX2.out.below HGB.out).1.1, (HX2.out.below HGB.out).1.2, (HX2.out.below HGB.out).2.1, (HX2.out.below HGB.out).2.2⟩) (first | (go_at_call 30; (with_reducible refine (HRS.out _ HGB.out).mono ?_); rintro e u ⟨b1, cb1, rfl, hown, hb⟩; have HBS := Lib.hid (ownsRow_rdE (enc := KeyL.cells) (fun _ => rfl) rfl hown); have HSN := Lib.hid (HGB.out.trans (hb.mono HGB.out.size)); clear HGB; have HGB := HSN; clear HSN; clear hown hb) | (go_at_call 21; (with_reducible refine (sameI_any a1 _ c1 b1 _ cb1 (sortL l) (sortL l) _ (HA2.out.below HGB.out rfl) HBS.out).mono ?_); rintro e u2 ⟨rfl, hd⟩; rw [eqIs_self]; have HSN := Lib.hid (HGB.out.trans ((hd.below _).mono HGB.out.size)); clear HGB; have HGB := HSN; clear HSN hd) | (go_at_call 31; (with_reducible refine (HKE.out _ HGB.out).mono ?_); rintro e u2 ⟨rfl, hd⟩; have HSN := Lib.hid (HGB.out.trans ((hd.below _).mono HGB.out.size)); clear HGB; have HGB := HSN; clear HSN hd) | (go_at_call 32; (with_reducible refine (HLP.out _).mono ?_); rintro e u ⟨rfl, hb⟩; have HSN := Lib.hid (HGB.out.trans (hb.mono HGB.out.size)); clear HGB; have HGB := HSN; clear HSN; clear hb) | (go_at_call 33; (with_reducible refine (HLD.out _).mono ?_); rintro e u ⟨rfl, hb⟩; have HSN := Lib.hid (HGB.out.trans (hb.mono HGB.out.size)); clear HGB; have HGB := HSN; clear HSN; clear hb))
  have HOU := Lib.hid (ownsRow_below HOA.out HGB.out)
  have hsl : (sortL l).length ≤ 1000 := by rw [sortL_len]; exact hn1
  have HOV := Lib.hid (overI_any _ _ _ _ _ u HOU.out hsl)
  have HIU := Lib.hid (HIN2.out.below HGB.out (Blk.lt HIN2.out))
  have HBU := Lib.hid (HB.out.trans ((HB2.out.trans (HGB.out.mono HB2.out.size)).mono HB.out.size))
  have hw1u : W1.heap.size ≤ u.heap.size := Nat.le_trans hB12 HGB.out.size
  have hww1 : w.heap.size ≤ W1.heap.size := Nat.le_trans HB.out.size hsz1
  clear HRS HKE HLP HLD HBS HA2 HR2 HX2 HIN2 hsl
  go_wp2_with fail
  refine HOV.out.mono ?_
  rintro e w3 ⟨rfl, hf⟩
  have hb3 : Below W1.heap.size u w3 := hf.toBelow hw1u (fun i hi e => by have := (HOU.out.lt i e).1; omega)
  have HI3 := Lib.hid (HIU.out.below hb3 hgl)
  have HB3 := Lib.hid (HBU.out.trans (hb3.mono hww1))
  have HR3 := Lib.hid (HR.out.below HB3.out rfl)
  clear hf hb3
  go_wp2_with fail
  refine (keptI_any W.heap.size ao l.length c l l w3 hn2 HI3.out HR3.out).mono ?_
  rintro e w4 ⟨rfl, hd⟩
  rw [eqIs_self]
  have HB4 := Lib.hid (HB3.out.trans ((hd.below _).mono HB3.out.size))
  clear hd
  go_wp2_with fail
  refine (HZ.out _).mono ?_
  rintro e w5 ⟨rfl, hb⟩
  have HB5 := Lib.hid (HB4.out.trans (hb.mono HB4.out.size))
  clear hb
  go_wp2_with fail
  go_ret
  exact ⟨rfl, HB5.out⟩
end Go.Proofs.Ytiohngcmojkheaa
