/- The walk of TimerScript. -/
import Derived.Test.YtjdanngkmkgidaaTm24
namespace Go.Proofs.Ytjdanngkmkgidaa
open Go.RowKit Go.ChangeShapes Go.WideShapes Go.Deep
set_option linter.unusedVariables false

structure ActT where
  c : Bool
  id : Int
  at_ : Int
def ActT.cells (x : ActT) : List Value := [.bool x.c, .int .i64 x.id, .int .i64 x.at_]
theorem open_actT {H : Type} {enc : TypeId × Value → H} {w : World} {base : Nat} {spare : Nat → Bool} {held : Bool} {d : DataW H} {p : List MemPlace} {a : Option Addr} {len cap : Nat}
    (h : DataW.Trod enc Try.prog w base spare held 40 (.slice a len cap) d p) : ∃ l : List ActT, RdE ActT.cells 3 w a len cap l ∧ ∀ x ∈ l, True := by
  refine open_rdE ActT.cells ⟨⟨false, 0, 0⟩⟩ Try.underlying40 Try.underlying46 (by kernel_rfl) (by kernel_rfl) (fun _ => True) ?_ h (by decide)
  intro vs hv
  obtain ⟨n0, y0, h0⟩ := hv 0 _ rfl
  obtain ⟨n1, y1, h1⟩ := hv 1 _ rfl
  obtain ⟨n2, y2, h2⟩ := hv 2 _ rfl
  obtain ⟨b0, e0, _⟩ := DataW.trod_bool Try.underlying4 h0
  obtain ⟨b1, e1, _, g1⟩ := DataW.trod_int Try.underlying3 h1
  obtain ⟨b2, e2, _, g2⟩ := DataW.trod_int Try.underlying3 h2
  simp at e0 e1 e2
  refine ⟨⟨b0, b1, b2⟩, trivial, fun j hj => ?_⟩
  have hj3 : j < 3 := hj
  match j, hj3 with
  | 0, _ => simp [ActT.cells, e0]
  | 1, _ => simp [ActT.cells, e1]
  | 2, _ => simp [ActT.cells, e2]
/-- the state ahead of the comparison: the Timers, what was due -/
def Jd (w0 W : World) (p q : Nat) (most : Int) (L : List One) (D : List Int) (a : Option Addr) (k c : Nat) : Prop := Jw w0 W p q most L L ∧ Rd W a k c (ints D)
theorem Jd.below {w0 W W' : World} {p q : Nat} {most : Int} {L : List One} {D : List Int} {a : Option Addr} {k c : Nat} (h : Jd w0 W p q most L D a k c) (hb : Below W.heap.size W W') : Jd w0 W' p q most L D a k c := ⟨h.1.below hb, h.2.below hb rfl⟩
theorem Jw.at_r {w0 W : World} {p q : Nat} {most : Int} {A B : List One} (h : Jw w0 W p q most A B) (id : Int) (hl : B.length ≤ 24) :
   Calls Try.prog 24 #[.pointer (some ⟨q, 0, none⟩), .int .i64 id] W fun e w' => e = .returned (.tuple #[.int .i64 (atL id B).1, .bool (atL id B).2]) ∧ W = w' := r_at w0 q id W most B h.ref hl
theorem same_self (a b : Option Addr) (n c d : Nat) (l : List Int) (w : World) (ha : Rd w a n c (ints l)) (hb : Rd w b n d (ints l)) (hn : n ≤ 1000) :
    Calls Try.prog 15 #[.slice a n c, .slice b n d] w fun e w' => e = .returned (.bool true) ∧ Below w.heap.size w w' :=
  (same_any a b n n c d l l w ha hb hn hn).mono fun e w' h => ⟨by rw [h.1]; simp [sameB], h.2.below _⟩
def ScR (w : World) (p q n : Nat) (most : Int) (v : Value) (wr : World) : Prop := ∃ (i : Nat) (L : List One), i ≤ n ∧ v = .int .i64 i ∧ RowKit.Hid (Jw w wr p q most L L)
set_option maxRecDepth 100000 in
set_option maxHeartbeats 8000000 in
theorem script_walk (most : Int) (a : Option Addr) (n cap : Nat) (l : List ActT) (now : Int) (w : World) (hr : RdE ActT.cells 3 w a n cap l) :
    Calls Try.prog 6 #[.int .i64 most, .slice a n cap, .int .i64 now] w fun e w' => e = .returned (.bool true) ∧ Below w.heap.size w w' := by
  have hnl : l.length = n := hr.1
  have HR := Lib.hid hr
  have HL := Lib.hid hnl
  have hmx := hr.2.2.1
  have hcap := hr.2.1
  unfold maxLen at hmx
  clear hr hnl
  by_cases hbig : 100 < n
  · go_enter Try.func6, Try.ntmps6
    go_wp2_with fail
    refine (awake_any _).mono ?_
    rintro e w1 ⟨rfl, hb1⟩
    have HB1 := Lib.hid hb1
    clear hb1
    go_wp2_with fail
    go_ret
    exact ⟨rfl, HB1.out⟩
  · have hn : n ≤ 100 := by omega
    have d0 : decide (100 < n) = false := by simpa using hn
    clear hbig
    by_cases hm : 1 ≤ most ∧ most ≤ 24
    · obtain ⟨hm1, hm2⟩ := hm
      go_enter Try.func6, Try.ntmps6
      go_wp2_with fail
      refine (t_new most _ hm1 hm2).mono ?_
      rintro e w1 ⟨rfl, hT1⟩
      have HT1 := Lib.hid (OwnT.new (Below.refl _ w) hT1)
      clear hT1
      generalize w.heap.size = p at HT1 ⊢
      go_wp2_with fail
      refine (rnew_any most _ hm1 hm2).mono ?_
      rintro e w2 ⟨rfl, rfl⟩
      have hb2 : Below w1.heap.size w1 (w1.alloc (.cells #[.slice none 0 0, .int .i64 most] 49)) := (Below.refl _ _).alloc (Nat.le_refl _) _
      have hJ : Jw w (w1.alloc (.cells #[.slice none 0 0, .int .i64 most] 49)) p w1.heap.size most [] [] := by
        obtain ⟨go, h1, h2, h3, h4⟩ := HT1.out
        exact ⟨go, h1.below hb2, ⟨none, 0, heap_alloc_new w1 _, World.ownsRow_nil _ _ _ _, h2.size, h2.trans (hb2.mono h2.size)⟩, h3, h4⟩
      have HJ := Lib.hid hJ
      clear hJ hb2 HT1
      generalize w1.alloc (.cells #[.slice none 0 0, .int .i64 most] 49) = w2 at HJ ⊢
      generalize w1.heap.size = q at HJ ⊢
      have hq1 : ∀ W : World, (binOp .eql 24 (.pointer (some ⟨p, 0, none⟩)) (.pointer none)).run Try.prog W = .ok (.bool false) W := fun W => by kernel_rfl
      have hq2 : ∀ W : World, (binOp .eql 41 (.pointer (some ⟨q, 0, none⟩)) (.pointer none)).run Try.prog W = .ok (.bool false) W := fun W => by kernel_rfl
      go_wp2_with fail
      refine (num_any _ _).mono ?_
      rintro e w' ⟨rfl, rfl⟩
      go_wp2_with fail
      go_loopw [11] (fun v wr => ScR w p q n most v wr) (fun v _ => n - (intOf v).toNat)
      case atStart => exact ⟨0, [], Nat.zero_le _, rfl, HJ.out⟩
      case round =>
        clear HJ
        obtain ⟨i, L, hi, rfl, HJ⟩ := hrel
        have hlen := HJ.out.len
        have hll : L.length ≤ 24 := by omega
        obtain ⟨hlm, _⟩ := hlen
        by_cases hlt : i < n
        · have hx : l[i]? = some (l[i]'(by rw [HL.out]; exact hlt)) := List.getElem?_eq_getElem _
          obtain ⟨x, hxe⟩ : ∃ x, l[i]'(by rw [HL.out]; exact hlt) = x := ⟨_, rfl⟩
          rw [hxe] at hx
          obtain ⟨b, o, rfl, hbl, hc⟩ := (HR.out.below HJ.out.bel rfl).2.2.2.2 i x hx
          obtain ⟨xc, xi, xt⟩ := x
          have z0 : wr.cell? ⟨b, o + i * 3, none⟩ = some (.bool xc) := hc 0 (by omega)
          have z1 : wr.cell? ⟨b, o + i * 3 + 1, none⟩ = some (.int .i64 xi) := hc 1 (by omega)
          have z2 : wr.cell? ⟨b, o + i * 3 + 2, none⟩ = some (.int .i64 xt) := hc 2 (by omega)
          clear hx hxe hc
          have k1 : (0 : Int) ≤ (i : Int) := by omega
          have k2 : (i : Int) < (n : Int) := by omega
          -- GEN
          have hxl : Blk (wr.alloc (.cells #[.bool xc, .int .i64 xi, .int .i64 xt] 46)) wr.heap.size 46 [.bool xc, .int .i64 xi, .int .i64 xt] := heap_alloc_new wr _
          have hx0 := hxl.cell 0
          have hx1 := hxl.cell 1
          have hx2 := hxl.cell 2
          rw [show ([.bool xc, .int .i64 xi, .int .i64 xt] : List Value)[0]? = some (.bool xc) from rfl] at hx0
          rw [show ([.bool xc, .int .i64 xi, .int .i64 xt] : List Value)[1]? = some (.int .i64 xi) from rfl] at hx1
          rw [show ([.bool xc, .int .i64 xi, .int .i64 xt] : List Value)[2]? = some (.int .i64 xt) from rfl] at hx2
          have HT0 := Lib.hid (show Jt w (wr.alloc (.cells #[.bool xc, .int .i64 xi, .int .i64 xt] 46)).drew p q wr.heap.size most L L xc xi xt from ⟨(HJ.out.below ((Below.refl _ _).alloc (Nat.le_refl _) _)).below (below_drewN (Below.refl _ _) 1), Blk.drewN hxl 1⟩)
          clear hxl HJ
          cases xc with
          | true =>
            obtain ⟨hv, hhv⟩ : ∃ hv, hasL xi L = hv := ⟨_, rfl⟩
            have HV := Lib.hid hhv
            have ev : (hv == hv) = true := by simp
            clear hhv
            go_wp2_with fail
            generalize wr.heap.size = xb at HT0 hx1 hx2 ⊢
            go_region_held3 (fun w' => w'.cell? ⟨xb, 1, none⟩ = some (.int .i64 xi) ∧ w'.cell? ⟨xb, 2, none⟩ = some (.int .i64 xt)) (exact HT0.out.cells) (first | (go_at_call 19; refine (jt_cancel HT0.out HV.out).mono ?_; rintro e u ⟨rfl, hj⟩; have HSN := Lib.hid hj; clear HT0; have HT0 := HSN; clear HSN; clear hj) | (go_at_call 22; refine (jr_cancel HT0.out hll HV.out).mono ?_; rintro e u ⟨rfl, hj⟩; have HSN := Lib.hid hj; clear HT0; have HT0 := HSN; clear HSN; clear hj))
            all_goals
              clear hx1 hx2 hx0 z0 z1 z2
              have HTn := HT0
              clear HT0
              have HT := HTn
              clear HTn
              obtain ⟨L', hL'⟩ : ∃ L', cancelL xi L = L' := ⟨_, rfl⟩
              rw [hL'] at HT
              clear hL'
              have hll2 : L'.length ≤ 24 := by have := HT.out.1.len; omega
              obtain ⟨⟨av, bv⟩, hab⟩ : ∃ r, atL xi L' = r := ⟨_, rfl⟩
              have HAB := Lib.hid hab
              clear hab
              obtain ⟨y1, y2⟩ := HT.out.cells
              go_wp2_with fail
              refine (o_at HT.out.1.own HAB.out).mono ?_
              rintro e u1 ⟨rfl, _, hb⟩
              have HT1 := Lib.hid (HT.out.below hb)
              clear hb HT y1 y2
              obtain ⟨y1, y2⟩ := HT1.out.cells
              go_wp2_with fail
              have hra := HT1.out.1.at_r xi hll2
              rw [HAB.out] at hra
              refine hra.mono ?_
              clear hra
              rintro e w' ⟨rfl, rfl⟩
              obtain ⟨D, hD⟩ : ∃ D, dueL now L' = D := ⟨_, rfl⟩
              have HD := Lib.hid hD
              have hdl : D.length ≤ 1000 := by rw [← hD]; have := dueL_len now L'; omega
              clear hD
              go_wp2_with fail
              refine (o_due HT1.out.1.own HD.out).mono ?_
              rintro e u2 ⟨a2, c2, rfl, ho2, _, hb⟩
              have HT2 := Lib.hid (HT1.out.below hb)
              have hwb : w.heap.size ≤ u1.heap.size := HT1.out.1.bel.size
              have HO2 := Lib.hid (own0 ho2 hwb)
              obtain ⟨kd, hkd⟩ : ∃ kd, D.length = kd := ⟨_, rfl⟩
              rw [hkd] at HO2 hdl ho2 ⊢
              have HD2 := Lib.hid (show Jd w u2.drew p q most L' D a2 kd c2 from ⟨HT2.out.1.below (below_drewN (Below.refl _ _) 1), (ownI ho2).below (below_drewN (Below.refl _ _) 1) rfl⟩)
              have HG := Lib.hid (Below.refl u2.heap.size u2)
              have HG2 := Lib.hid (below_drewN (Below.refl u2.heap.size u2) 1)
              clear hb ho2 HT1 hwb y1 y2
              have HKD := Lib.hid hkd
              clear hkd
              have e1 : (av != av) = false := by simp
              have e2 : (bv != bv) = false := by simp
              have HE3 := Lib.hid (show sameB D D = true from by simp [sameB])
              obtain ⟨ao4, c4, c0, _, _, _, _⟩ := HT2.out.1.ref.cell
              obtain ⟨kL, hkL⟩ : ∃ kL, L'.length = kL := ⟨_, rfl⟩
              rw [hkL] at c0
              have HKL := Lib.hid hkL
              have HC0 := Lib.hid c0
              have hqs : q < u2.heap.size := cell?_lt c0
              have e4 : ((kL : Int) != (kL : Int)) = false := by simp
              clear hkL c0
              have HG3 := HG2
              clear HG2
              have HGB : RowKit.Hid (Below u2.heap.size u2 u2.drew) := HG3.out
              clear HG3
              have rdue : RowKit.Hid (∀ W, Jd w W p q most L' D a2 kd c2 → Calls Try.prog 25 #[.pointer (some ⟨q, 0, none⟩), .int .i64 now] W fun e w' => ∃ ao3 c3, e = .returned (.slice ao3 kd c3) ∧ Rd w' ao3 kd c3 (ints D) ∧ Below W.heap.size W w') := by
                intro W hW
                refine (r_due w q now W most L' hW.1.ref hll2).mono ?_
                rintro e w' ⟨ao3, c3, rfl, ho, hb⟩
                rw [HD.out, HKD.out] at ho
                exact ⟨ao3, c3, by rw [HD.out, HKD.out], ownI ho, hb⟩
              go_wp2_with fail
              go_region_held3 (fun w' => w'.cell? ⟨q, 0, none⟩ = some (.slice ao4 kL c4)) (exact (HGB.out.cell (p := ⟨q, 0, none⟩) hqs).trans HC0.out) (first | (go_at_call 25; refine (rdue.out _ HD2.out).mono ?_; rintro e u ⟨a3, c3, rfl, hrd, hb⟩; have HSN := Lib.hid (HD2.out.below hb); clear HD2; have HD2 := HSN; clear HSN; have HSN := Lib.hid (HGB.out.trans (hb.mono HGB.out.size)); clear HGB; have HGB := HSN; clear HSN; have HRD := Lib.hid hrd; clear hb hrd) | (go_at_call 15; refine (same_self a2 a3 kd c2 c3 D _ HD2.out.2 HRD.out hdl).mono ?_; rintro e u ⟨rfl, hb⟩; have HSN := Lib.hid (HD2.out.below hb); clear HD2; have HD2 := HSN; clear HSN; have HSN := Lib.hid (HGB.out.trans (hb.mono HGB.out.size)); clear HGB; have HGB := HSN; clear HSN; clear hb HRD) | (go_at_call 17; refine (o_len HD2.out.1.own HKL.out).mono ?_; rintro e w' ⟨rfl, rfl⟩))
              all_goals
                have HO3 := Lib.hid (ownsRow_frm HO2.out (Frm.below (S := fun _ => False) HGB.out) (fun _ _ => id))
                have HJ3 := Lib.hid HD2.out.1
                clear HO2 HGB HD2
                go_wp2_with fail
                refine (over_any _ kd c2 a2 _ _ HO3.out hdl).mono ?_
                rintro e u9 ⟨rfl, hF⟩
                have HJ9 := Lib.hid (HJ3.out.own_int HO3.out hF (Nat.le_refl _))
                clear hF HJ3 HO3
                go_wp2_with fail
                go_roundw
                case rel => exact ⟨i + 1, L', by omega, by go_num, HJ9.out⟩
                case measure => simp [intOf]; omega
          | false =>
            obtain ⟨⟨sv, L2⟩, hhv⟩ : ∃ r, setL most L xi xt = r := ⟨_, rfl⟩
            have HV := Lib.hid hhv
            have ev : (sv == sv) = true := by simp
            clear hhv
            go_wp2_with fail
            generalize wr.heap.size = xb at HT0 hx1 hx2 ⊢
            go_region_held3 (fun w' => w'.cell? ⟨xb, 1, none⟩ = some (.int .i64 xi) ∧ w'.cell? ⟨xb, 2, none⟩ = some (.int .i64 xt)) (exact HT0.out.cells) (first | (go_at_call 13; refine (jt_set HT0.out HV.out).mono ?_; rintro e u ⟨rfl, hj⟩; have HSN := Lib.hid hj; clear HT0; have HT0 := HSN; clear HSN; clear hj) | (go_at_call 21; refine (num_any _ _).mono ?_; rintro e w' ⟨rfl, rfl⟩) | (go_at_call 23; refine (jr_set HT0.out hll hlm HV.out).mono ?_; rintro e u ⟨rfl, hj⟩; have HSN := Lib.hid hj; clear HT0; have HT0 := HSN; clear HSN; clear hj))
            all_goals
              clear hx1 hx2 hx0 z0 z1 z2
              have HTn := HT0
              clear HT0
              have HT := HTn
              clear HTn
              obtain ⟨L', hL'⟩ : ∃ L', L2 = L' := ⟨_, rfl⟩
              rw [hL'] at HT
              clear hL'
              have hll2 : L'.length ≤ 24 := by have := HT.out.1.len; omega
              obtain ⟨⟨av, bv⟩, hab⟩ : ∃ r, atL xi L' = r := ⟨_, rfl⟩
              have HAB := Lib.hid hab
              clear hab
              obtain ⟨y1, y2⟩ := HT.out.cells
              go_wp2_with fail
              refine (o_at HT.out.1.own HAB.out).mono ?_
              rintro e u1 ⟨rfl, _, hb⟩
              have HT1 := Lib.hid (HT.out.below hb)
              clear hb HT y1 y2
              obtain ⟨y1, y2⟩ := HT1.out.cells
              go_wp2_with fail
              have hra := HT1.out.1.at_r xi hll2
              rw [HAB.out] at hra
              refine hra.mono ?_
              clear hra
              rintro e w' ⟨rfl, rfl⟩
              obtain ⟨D, hD⟩ : ∃ D, dueL now L' = D := ⟨_, rfl⟩
              have HD := Lib.hid hD
              have hdl : D.length ≤ 1000 := by rw [← hD]; have := dueL_len now L'; omega
              clear hD
              go_wp2_with fail
              refine (o_due HT1.out.1.own HD.out).mono ?_
              rintro e u2 ⟨a2, c2, rfl, ho2, _, hb⟩
              have HT2 := Lib.hid (HT1.out.below hb)
              have hwb : w.heap.size ≤ u1.heap.size := HT1.out.1.bel.size
              have HO2 := Lib.hid (own0 ho2 hwb)
              obtain ⟨kd, hkd⟩ : ∃ kd, D.length = kd := ⟨_, rfl⟩
              rw [hkd] at HO2 hdl ho2 ⊢
              have HD2 := Lib.hid (show Jd w u2.drew p q most L' D a2 kd c2 from ⟨HT2.out.1.below (below_drewN (Below.refl _ _) 1), (ownI ho2).below (below_drewN (Below.refl _ _) 1) rfl⟩)
              have HG := Lib.hid (Below.refl u2.heap.size u2)
              have HG2 := Lib.hid (below_drewN (Below.refl u2.heap.size u2) 1)
              clear hb ho2 HT1 hwb y1 y2
              have HKD := Lib.hid hkd
              clear hkd
              have e1 : (av != av) = false := by simp
              have e2 : (bv != bv) = false := by simp
              have HE3 := Lib.hid (show sameB D D = true from by simp [sameB])
              obtain ⟨ao4, c4, c0, _, _, _, _⟩ := HT2.out.1.ref.cell
              obtain ⟨kL, hkL⟩ : ∃ kL, L'.length = kL := ⟨_, rfl⟩
              rw [hkL] at c0
              have HKL := Lib.hid hkL
              have HC0 := Lib.hid c0
              have hqs : q < u2.heap.size := cell?_lt c0
              have e4 : ((kL : Int) != (kL : Int)) = false := by simp
              clear hkL c0
              have HG3 := HG2
              clear HG2
              have HGB : RowKit.Hid (Below u2.heap.size u2 u2.drew) := HG3.out
              clear HG3
              have rdue : RowKit.Hid (∀ W, Jd w W p q most L' D a2 kd c2 → Calls Try.prog 25 #[.pointer (some ⟨q, 0, none⟩), .int .i64 now] W fun e w' => ∃ ao3 c3, e = .returned (.slice ao3 kd c3) ∧ Rd w' ao3 kd c3 (ints D) ∧ Below W.heap.size W w') := by
                intro W hW
                refine (r_due w q now W most L' hW.1.ref hll2).mono ?_
                rintro e w' ⟨ao3, c3, rfl, ho, hb⟩
                rw [HD.out, HKD.out] at ho
                exact ⟨ao3, c3, by rw [HD.out, HKD.out], ownI ho, hb⟩
              go_wp2_with fail
              go_region_held3 (fun w' => w'.cell? ⟨q, 0, none⟩ = some (.slice ao4 kL c4)) (exact (HGB.out.cell (p := ⟨q, 0, none⟩) hqs).trans HC0.out) (first | (go_at_call 25; refine (rdue.out _ HD2.out).mono ?_; rintro e u ⟨a3, c3, rfl, hrd, hb⟩; have HSN := Lib.hid (HD2.out.below hb); clear HD2; have HD2 := HSN; clear HSN; have HSN := Lib.hid (HGB.out.trans (hb.mono HGB.out.size)); clear HGB; have HGB := HSN; clear HSN; have HRD := Lib.hid hrd; clear hb hrd) | (go_at_call 15; refine (same_self a2 a3 kd c2 c3 D _ HD2.out.2 HRD.out hdl).mono ?_; rintro e u ⟨rfl, hb⟩; have HSN := Lib.hid (HD2.out.below hb); clear HD2; have HD2 := HSN; clear HSN; have HSN := Lib.hid (HGB.out.trans (hb.mono HGB.out.size)); clear HGB; have HGB := HSN; clear HSN; clear hb HRD) | (go_at_call 17; refine (o_len HD2.out.1.own HKL.out).mono ?_; rintro e w' ⟨rfl, rfl⟩))
              all_goals
                have HO3 := Lib.hid (ownsRow_frm HO2.out (Frm.below (S := fun _ => False) HGB.out) (fun _ _ => id))
                have HJ3 := Lib.hid HD2.out.1
                clear HO2 HGB HD2
                go_wp2_with fail
                refine (over_any _ kd c2 a2 _ _ HO3.out hdl).mono ?_
                rintro e u9 ⟨rfl, hF⟩
                have HJ9 := Lib.hid (HJ3.out.own_int HO3.out hF (Nat.le_refl _))
                clear hF HJ3 HO3
                go_wp2_with fail
                go_roundw
                case rel => exact ⟨i + 1, L', by omega, by go_num, HJ9.out⟩
                case measure => simp [intOf]; omega
        · have hin : i = n := by omega
          subst hin
          obtain ⟨D, hD⟩ : ∃ D, dueL 1099511627776 L = D := ⟨_, rfl⟩
          have HD := Lib.hid hD
          have hdl : D.length ≤ 1000 := by rw [← hD]; have := dueL_len 1099511627776 L; omega
          have HE3 := Lib.hid (show sameB D D = true from by simp [sameB])
          clear hD hlt
          go_wp2_with fail
          refine (o_due HJ.out.own HD.out).mono ?_
          rintro e u1 ⟨a2, c2, rfl, ho2, _, hb⟩
          have HJ1 := Lib.hid (HJ.out.below hb)
          have HR1 := Lib.hid (ownI ho2)
          clear hb ho2 HJ
          go_wp2_with fail
          refine (r_due w q 1099511627776 _ most L HJ1.out.ref hll).mono ?_
          rintro e u2 ⟨a3, c3, rfl, ho3, hb⟩
          rw [HD.out] at ho3 ⊢
          have HJ2 := Lib.hid (HJ1.out.below hb)
          have HR2 := Lib.hid (HR1.out.below hb rfl)
          have HR3 := Lib.hid (ownI ho3)
          clear hb ho3 HJ1 HR1
          go_wp2_with fail
          refine (same_any a2 a3 _ _ c2 c3 D D _ HR2.out HR3.out hdl hdl).mono ?_
          rintro e u3 ⟨rfl, hd⟩
          rw [HE3.out]
          have HB3 := Lib.hid (HJ2.out.below (hd.below _)).bel
          clear hd HJ2 HR2 HR3
          go_wp2_with fail
          refine (awake_any _).mono ?_
          rintro e w6 ⟨rfl, hb6⟩
          have HT6 := Lib.hid (HB3.out.trans (hb6.mono HB3.out.size))
          clear hb6 HB3
          go_wp2_with fail
          go_ret
          exact ⟨rfl, HT6.out⟩
    · have hm' : most < 1 ∨ 24 < most := by omega
      go_enter Try.func6, Try.ntmps6
      go_wp2_with fail
      refine (new_no most _ hm).mono ?_
      rintro e w' ⟨rfl, rfl⟩
      go_wp2_with fail
      refine (rnew_no most _ hm).mono ?_
      rintro e w' ⟨rfl, rfl⟩
      go_wp2_with fail
      refine (num_any _ _).mono ?_
      rintro e w' ⟨rfl, rfl⟩
      go_wp2_with fail
      refine (awake_any _).mono ?_
      rintro e w1 ⟨rfl, hb1⟩
      have HB1 := Lib.hid hb1
      clear hb1
      go_wp2_with fail
      go_ret
      exact ⟨rfl, HB1.out⟩
end Go.Proofs.Ytjdanngkmkgidaa
