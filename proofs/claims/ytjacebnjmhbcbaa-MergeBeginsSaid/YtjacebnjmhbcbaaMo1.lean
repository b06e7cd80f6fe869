/- MergeOne. -/
import Derived.Test.YtjacebnjmhbcbaaMo0
import Derived.Test.YtjacebnjmhbcbaaMg14
import Derived.Test.YtjacebnjmhbcbaaSt8
import Derived.Test.YtjacebnjmhbcbaaLow
import Derived.Test.YtjacebnjmhbcbaaLendI
import Derived.Test.YtjacebnjmhbcbaaHand
namespace Go.Proofs.Ytjacebnjmhbcbaa
open Go.RowKit
set_option linter.unusedVariables false

theorem low_below {x : Int} {n : Nat} (h : 0 < n) : ∃ j : Nat, lowI x (n : Int) = (j : Int) ∧ j < n := by
  have := lowI_bd x (n : Int) (by omega)
  exact ⟨(lowI x (n : Int)).toNat, by omega, by omega⟩
theorem eqIs_same (l : List KeyL) : eqIs l l = true := by unfold eqIs; exact decide_eq_true rfl
theorem less_items (x y : KeyL) (w : World) : Calls Try.prog 12 #[.agg #[.int .i64 x.1, .string x.2], .agg #[.int .i64 y.1, .string y.2]] w fun e w' => e = .returned (.bool (kless x y)) ∧ Below w.heap.size w w' := itless_any x.1 x.2 y.1 y.2 w
set_option maxRecDepth 100000 in
/-- a part of a row, wherever the row lies -/
theorem cut_row {W0 : World} {ao : Option Addr} {n c a t : Nat} {L : List KeyL} (h : RdE KeyL.cells 2 W0 ao n c L) (hsp : ao = none ∨ ∃ g o, ao = some ⟨g, o, none⟩) (hat : a ≤ t) (htn : t ≤ n) :
    ∃ an, (∀ W, (Instr.sliceAt 22 (.slice ao n c) (some (.int .i64 a)) (some (.int .i64 t)) none).run Try.prog W = .ok (.slice an (t - a) (c - a)) W) ∧ ∀ W, RdE KeyL.cells 2 W ao n c L → RdE KeyL.cells 2 W an (t - a) (c - a) ((L.take t).drop a) := by
  have hc := h.2.1
  have t1 : (0 : Int) ≤ (a : Int) := by omega
  have t2 : (a : Int) ≤ (t : Int) := by omega
  have t3 : (t : Int) ≤ (c : Int) := by omega
  have t4 : t ≤ c := by omega
  rcases hsp with rfl | ⟨g, o, rfl⟩
  · refine ⟨none, fun W => ?_, fun W hW => ?_⟩
    · go_simp
    · have hc0 : c = 0 := hW.2.2.2.1 rfl
      have hn0 : n = 0 := by have := hW.2.1; omega
      have hL : L = [] := List.eq_nil_of_length_eq_zero (by rw [hW.1]; exact hn0)
      subst hL
      refine ⟨by simp; omega, by omega, by unfold maxLen; omega, fun _ => by omega, fun i x hx => by simp at hx⟩
  · refine ⟨some ⟨g, if c = a then o else o + a * 2, none⟩, fun W => ?_, fun W hW => ?_⟩
    · by_cases e : c = a
      · subst e
        go_simp
      · go_simp
    · exact (hW.take t htn).drop a hat _ (fun hlt => by rw [if_neg (by omega)])
def Mo1R (W : World) (L : List KeyL) (v : Value) (wr : World) : Prop := ∃ i : Nat, i ≤ L.length ∧ v = .int .i64 i ∧ RowKit.Hid (RunI L i) ∧ RowKit.Hid (Below W.heap.size W wr)
def Mo2R (W0 : World) (n1 : Nat) (L : List KeyL) (v11 v12 : Value) (wr : World) : Prop := ∃ (a r : Nat) (S : List PS) (T : List KeyL), a ≤ 100 ∧ r ≤ a ∧ v11 = .int .i64 r ∧ v12 = .int .i64 a ∧ RowKit.Hid (OwnM W0 wr W0.heap.size n1 S T) ∧ RowKit.Hid ((S = [shA L a r] ∧ T = L.take a ∧ a < n1 ∧ a ≤ L.length) ∨ doneP n1 S T = true)
set_option maxRecDepth 100000 in
set_option maxHeartbeats 32000000 in
theorem one_law (w : World) (ao : Option Addr) (na ca : Nat) (l : List KeyL) (nn bb : Int) (hr : RdE KeyL.cells 2 w ao na ca l) :
    Calls Try.prog 6 #[.slice ao na ca, .int .i64 nn, .int .i64 bb] w fun e w' => e = .returned (.bool true) ∧ Below w.heap.size w w' := by
  have hna := hr.1
  subst hna
  have hcap := hr.2.1
  have hcm := hr.2.2.1
  unfold maxLen at hcm
  have HR := Lib.hid hr
  have HZ : RowKit.Hid (∀ V, Calls Try.prog 10 #[] V fun e w' => e = .returned (.bool true) ∧ Below V.heap.size V w') := fun V => awake_any V
  have HB := Lib.hid (Below.refl w.heap.size w)
  clear hr
  by_cases hl30 : 30 < l.length
  · have d1 : decide ((30 : Int) < (l.length : Int)) = true := by simp; omega
    have d2 : decide (30 < l.length) = true := by simpa using hl30
    go_enter Try.func6, Try.ntmps6
    go_wp2_with fail
    refine (HZ.out _).mono ?_
    rintro e w1 ⟨rfl, hb⟩
    have HB3 := Lib.hid (HB.out.trans (hb.mono HB.out.size))
    clear hb
    go_wp2_with fail
    go_ret
    exact ⟨rfl, HB3.out⟩
  have d1 : decide ((30 : Int) < (l.length : Int)) = false := by simp; omega
  have d2 : decide (30 < l.length) = false := by simpa using hl30
  obtain ⟨j, hj, hjl⟩ := @low_below nn 10 (by omega)
  obtain ⟨c, hc, hcl⟩ := @low_below bb 5 (by omega)
  have HL1 := Lib.hid (fun V => low_any nn 10 V (by omega) (by omega))
  have HL2 := Lib.hid (fun V => low_any bb 5 V (by omega) (by omega))
  rw [show (10 : Int) = ((10 : Nat) : Int) from rfl, hj] at HL1
  rw [show (5 : Int) = ((5 : Nat) : Int) from rfl, hc] at HL2
  clear hj hc
  obtain ⟨n1, hn1⟩ : ∃ n, j + 1 = n := ⟨_, rfl⟩
  obtain ⟨b, hb1⟩ : ∃ n, c + 1 = n := ⟨_, rfl⟩
  have g1 : (1 : Int) + (j : Int) = (n1 : Int) := by omega
  have g2 : (1 : Int) + (c : Int) = (b : Int) := by omega
  have n1a : 1 ≤ n1 := by omega
  have n1b : n1 ≤ 10 := by omega
  have ba : 1 ≤ b := by omega
  have b5 : b ≤ 5 := by omega
  have SO := Lib.hid (rsort_any w ao l.length ca l HR.out (by omega))
  have hsl := sortL_len l
  generalize sortL l = L at *
  go_enter Try.func6, Try.ntmps6
  go_wp2_with fail
  refine (HL1.out _).mono ?_
  rintro e w1 ⟨rfl, rfl⟩
  go_wp2_with fail
  refine (HL2.out _).mono ?_
  rintro e w1 ⟨rfl, rfl⟩
  clear HL1 HL2 d1 d2
  go_upto_region 4 with fail
  try rw [g1, g2]
  clear g1 g2 hn1 hb1 hjl hcl
  go_wp2_with fail
  refine SO.out.mono ?_
  rintro e V1 ⟨a7, c7, rfl, hown, hb⟩
  clear SO
  have HB1 := Lib.hid hb
  have HX := Lib.hid (ownsRow_rdE (enc := KeyL.cells) (fun _ => rfl) rfl hown)
  have HA7 : RowKit.Hid (a7 = none ∨ ∃ g o, a7 = some ⟨g, o, none⟩) := by
    rcases hown.2 with ⟨h', _⟩ | ⟨g', cap', cur, h', _⟩
    · left; simpa using congrArg (fun v => match v with | Value.slice a _ _ => a | _ => none) h'
    · right; exact ⟨g', 0, by simpa using congrArg (fun v => match v with | Value.slice a _ _ => a | _ => none) h'⟩
  clear hown hb HB
  have hL30 : L.length ≤ 30 := by omega
  have hx1 := HX.out.2.1
  have hx2 := HX.out.2.2.1
  unfold maxLen at hx2
  clear hl30 hcap hcm hsl
  have HBZ := Lib.hid (Below.refl V1.heap.size V1)
  go_wp2_with fail
  go_loopw [8] (fun v wr => Mo1R V1 L v wr) (fun v _ => L.length - (intOf v).toNat)
  case atStart => exact ⟨0, by omega, rfl, ⟨fun _ _ h => by omega, fun _ _ _ h => by omega⟩, HBZ.out⟩
  case round =>
    clear HBZ
    obtain ⟨i, hi, rfl, HRU, HBL⟩ := hrel
    by_cases hlt : i < L.length
    · obtain ⟨x, hx⟩ : ∃ x, L[i]? = some x := ⟨_, List.getElem?_eq_getElem hlt⟩
      have HXI := Lib.hid hx
      obtain ⟨bg, og, rfl, hbg, hcx⟩ := (HX.out.below HBL.out rfl).2.2.2.2 i x hx
      have x0 : wr.cell? ⟨bg, og + i * 2, none⟩ = some (.int .i64 x.1) := hcx 0 (by decide)
      have HC0 := Lib.hid x0
      have HC1 := Lib.hid (show wr.cell? ⟨bg, og + i * 2 + 1, none⟩ = some (.string x.2) from hcx 1 (by decide))
      have k1 : (0 : Int) ≤ (i : Int) := by omega
      have k2 : (i : Int) < (L.length : Int) := by omega
      have HBT := Lib.hid (HB1.out.trans (HBL.out.mono HB1.out.size))
      clear hx hcx
      by_cases hx0 : x.1 < 0
      · have e1 : decide (x.1 < 0) = true := by simpa using hx0
        go_wp2_with fail
        go_quiet (fail)
        go_wp2_with fail
        refine (HZ.out _).mono ?_
        rintro e w1 ⟨rfl, hb⟩
        have HB3 := Lib.hid ((below_drewN HBT.out _).trans (hb.mono (below_drewN HBT.out _).size))
        clear hb
        go_wp2_with fail
        go_ret
        exact ⟨rfl, HB3.out⟩
      have e1 : decide (x.1 < 0) = false := by simpa using hx0
      have hx00 : 0 ≤ x.1 := by omega
      by_cases hi0 : i = 0
      · subst hi0
        have HRN := Lib.hid (HRU.out.next HXI.out hx00 (fun _ _ h => by omega))
        rw [Nat.zero_mul, Nat.add_zero] at x0
        clear HBT hx0
        go_wp2_with fail
        go_quiet (fail)
        go_wp2_with fail
        go_roundw
        case rel => exact ⟨1, by omega, by go_num, HRN.out, below_drewN HBL.out _⟩
        case measure => simp [intOf]; omega
      obtain ⟨d, hd⟩ : ∃ d, i - 1 = d := ⟨_, rfl⟩
      have hdi : d + 1 = i := by omega
      obtain ⟨y, hy⟩ : ∃ y, L[d]? = some y := ⟨_, List.getElem?_eq_getElem (by omega)⟩
      obtain ⟨bb', ob', e, hbb', hcy⟩ := (HX.out.below HBL.out rfl).2.2.2.2 d y hy
      obtain ⟨rfl, rfl⟩ : bg = bb' ∧ og = ob' := by cases e; exact ⟨rfl, rfl⟩
      have HD0 := Lib.hid (show wr.cell? ⟨bg, og + d * 2, none⟩ = some (.int .i64 y.1) from hcy 0 (by decide))
      have HD1 := Lib.hid (show wr.cell? ⟨bg, og + d * 2 + 1, none⟩ = some (.string y.2) from hcy 1 (by decide))
      have wd : IntKind.i64.wrap ((i : Int) - 1) = (d : Int) := by rw [IntWalk.i64_in _ (by omega)]; omega
      have k5 : (0 : Int) ≤ (d : Int) := by omega
      have k6 : (d : Int) < (L.length : Int) := by omega
      have k7 : decide ((0 : Int) < (i : Int)) = true := by simp; omega
      have k8 : 0 < i := by omega
      have k9 : decide (0 < i) = true := by simpa using k8
      have HRN := Lib.hid (fun h : kless y x = true => HRU.out.next HXI.out hx00 (fun j z hj hz => by
        have : j = d := by omega
        rw [this, hy] at hz; cases hz; exact h))
      have HLE := Lib.hid (less_items y x)
      generalize kless y x = kl at *
      have HGB : RowKit.Hid (Below wr.heap.size wr wr.drew) := below_drewN (Below.refl _ _) 1
      clear hy hcy e hd hdi x0 hi0 hx0
      go_upto_region 8 with fail
      go_region_held3 (fun w' => w'.cell? ⟨bg, og + i * 2, none⟩ = some (.int .i64 x.1) ∧ w'.cell? ⟨bg, og + i * 2 + 1, none⟩ = some (.string x.2) ∧ w'.cell? ⟨bg, og + d * 2, none⟩ = some (.int .i64 y.1) ∧ w'.cell? ⟨bg, og + d * 2 + 1, none⟩ = some (.string y.2)) (exact ⟨(HGB.out.cell (p := ⟨bg, og + i * 2, none⟩) hbg).trans HC0.out, (HGB.out.cell (p := ⟨bg, og + i * 2 + 1, none⟩) hbg).trans HC1.out, (HGB.out.cell (p := ⟨bg, og + d * 2, none⟩) hbg).trans HD0.out, (HGB.out.cell (p := ⟨bg, og + d * 2 + 1, none⟩) hbg).trans HD1.out⟩) (first | (go_at_call 12; (with_reducible refine (HLE.out _).mono ?_); rintro e u ⟨rfl, hb⟩; have HSN := Lib.hid (HGB.out.trans (hb.mono HGB.out.size)); clear HGB; have HGB := HSN; clear HSN; clear hb))
      rename_i hHeld
      clear hHeld wd
      have HBN := Lib.hid (HBL.out.trans (HGB.out.mono HBL.out.size))
      have HBT2 := Lib.hid (HBT.out.trans (HGB.out.mono HBT.out.size))
      clear HGB HBL HBT
      cases kl
      · clear HRN
        go_wp2_with fail
        refine (HZ.out _).mono ?_
        rintro e w1 ⟨rfl, hb⟩
        have HB3 := Lib.hid (HBT2.out.trans (hb.mono HBT2.out.size))
        clear hb
        go_wp2_with fail
        go_ret
        exact ⟨rfl, HB3.out⟩
      · have HRN2 := Lib.hid (HRN.out rfl)
        go_wp2_with fail
        go_roundw
        case rel => exact ⟨i + 1, by omega, by go_num, HRN2.out, HBN.out⟩
        case measure => simp [intOf]; omega
    · obtain rfl : i = L.length := by omega
      have HB2 := Lib.hid (HB1.out.trans (HBL.out.mono HB1.out.size))
      have HX2 := Lib.hid (HX.out.below HBL.out rfl)
      clear HBL HX HB1 hi hlt
      have HNU := Lib.hid (show Rd (wr.alloc (.cells #[.int .i64 0] 3)) (some ⟨wr.heap.size, 0, none⟩) 1 1 (ints [0]) from new_nums wr [0] (by decide))
      have HAL := Lib.hid ((Below.refl _ wr).alloc (Nat.le_refl _) (.cells #[.int .i64 0] 3))
      have HB3 := Lib.hid (HB2.out.trans (HAL.out.mono HB2.out.size))
      have HX3 := Lib.hid (HX2.out.below HAL.out rfl)
      obtain ⟨W0, hW0⟩ : ∃ V, wr.alloc (.cells #[.int .i64 0] 3) = V := ⟨_, rfl⟩
      rw [hW0] at HNU HAL HB3 HX3
      clear HAL HB2 HX2
      go_wp2_with (rw [hW0])
      clear hW0
      refine (mnew_any _ 1 1 [0] n1 W0 HNU.out (by omega) (by omega) (by omega) (by omega)).mono ?_
      rintro e V2 ⟨rfl, hMG, hb⟩
      have HM := Lib.hid (show OwnM W0 V2 W0.heap.size n1 [shA L 0 0] (L.take 0) from ⟨by simpa [shA, lastT, newPS, zeroI] using hMG, hb⟩)
      clear hMG hb HNU
      go_wp2_with fail
      go_loopw [11, 12] (fun v11 v12 wz => Mo2R W0 n1 L v11 v12 wz) (fun _ v _ => 200 - (intOf v).toNat)
      case atStart => exact ⟨0, 0, _, _, by omega, by omega, rfl, rfl, HM.out, .inl ⟨rfl, rfl, by omega, by omega⟩⟩
      case round =>
        clear HM
        obtain ⟨a, r, S, T, ha100, hra, rfl, rfl, HM, HCA⟩ := hrel
        rcases HCA.out with ⟨rfl, rfl, han, hal⟩ | hdn
        · clear HCA
          obtain ⟨t, ht⟩ : ∃ t, min (a + b) L.length = t := ⟨_, rfl⟩
          obtain ⟨k, hk⟩ : ∃ k, min (t - a) ((n1 : Int).toNat - a) = k := ⟨_, rfl⟩
          have hat : a ≤ t := by omega
          have htl : t ≤ L.length := by omega
          have han' : (a : Int) < (n1 : Int) := by omega
          have hd0 : doneP n1 [shA L a r] (L.take a) = false := by
            have h1 : ¬ (((L.take a).length : Nat) : Int) = n1 := by rw [List.length_take]; omega
            simp [doneP, PS.open_, shA] at h1 ⊢
            omega
          have HPUT := Lib.hid (one_put (l := L) (n := n1) (a := a) (r := r) (b := b) (t := t))
          have HTEL := Lib.hid (one_tell (l := L) (n := n1) (a := a) (r := r) hat htl han' hk)
          have HDON := Lib.hid (one_done (l := L) (n := n1) (a := a) (r := r) hat htl han' hk)
          have HNXT := Lib.hid (one_next (l := L) (n := n1) (a := a) (r := r) (b := b) ht hal hk)
          have HPU := Lib.hid (HPUT.out HRU.out hal han' ba b5 ht)
          clear HPUT
          have hmin : (if (L.length : Int) < (a : Int) + (b : Int) then (L.length : Int) else (a : Int) + (b : Int)) = (t : Int) := by split <;> omega
          have hla : (a : Int) ≤ (L.length : Int) := by omega
          have dla : decide ((a : Int) ≤ (L.length : Int)) = true := by simpa using hal
          have dla2 : decide (a ≤ L.length) = true := by simpa using hal
          have HK := Lib.hid hk
          have HT := Lib.hid ht
          clear hk ht
          go_wp2_with fail
          refine (m_done HM.out hd0).mono ?_
          rintro e V3 ⟨rfl, hM1, _⟩
          have HM1 := Lib.hid hM1
          clear hM1 HM hd0
          have e1 : ((t : Int) == (L.length : Int)) = decide (t = L.length) := by rw [Bool.eq_iff_iff]; simp; omega
          have HX5 := Lib.hid (HX3.out.below HM1.out.2 rfl)
          have t1 : (0 : Int) ≤ (a : Int) := by omega
          have t2 : (a : Int) ≤ (t : Int) := by omega
          have t3 : (t : Int) ≤ (c7 : Int) := by omega
          have t4 : a ≤ t := hat
          have t5 : t ≤ c7 := by omega
          have t6 : (t : Int) ≤ (L.length : Int) := by omega
          obtain ⟨e, he⟩ : ∃ e, decide (t = L.length) = e := ⟨_, rfl⟩
          rw [he] at e1 HPU HDON
          have HE := Lib.hid he
          clear he
          obtain ⟨an, hsl, hcut⟩ := cut_row HX5.out HA7.out hat htl
          have HSL := Lib.hid (hcut V3 HX5.out)
          clear hcut
          go_wp2_with fail
          refine (m_put HM1.out HSL.out (by intro s hs; simp at hs; subst hs; exact ⟨by show (0 : Int) ≤ (r : Int); omega, by show (r : Int) ≤ 1000000; omega⟩) HPU.out).mono ?_
          rintro e' V4 ⟨rfl, hM2, _⟩
          have HM2 := Lib.hid hM2
          clear hM2 HM1 HSL HPU hmin t1 t2 t4 hsl
          go_wp2_with fail
          refine (m_tell HM2.out (by rw [List.length_take]; omega) HTEL.out).mono ?_
          rintro e' V5 ⟨a20, c20, rfl, _, hM3, _⟩
          have HM3 := Lib.hid hM3
          clear hM3 HM2 HTEL
          obtain ⟨q, hq⟩ : ∃ q, min t (n1 : Int).toNat = q := ⟨_, rfl⟩
          have hqi : (if n1 < t then (n1 : Int) else (t : Int)) = (q : Int) := by split <;> omega
          rw [hq] at HM3 HDON
          have HX6 := Lib.hid (HX3.out.below HM3.out.2 rfl)
          have HTK := Lib.hid (HX6.out.take q (by omega))
          have p1 : (0 : Int) ≤ (q : Int) := by omega
          have p2 : (q : Int) ≤ (c7 : Int) := by omega
          have p3 : q ≤ c7 := by omega
          have HQ := Lib.hid hq
          have hqn : q ≤ L.length := by omega
          clear hq
          have HTM := Lib.hid (fun V h => told_any W0.heap.size W0.heap.size n1 [(shB L a r t).drops k] (L.take q) V h)
          have HDN := Lib.hid (fun V h => m_done (w := V) (w0 := W0) (p := W0.heap.size) (n := n1) (S := [(shB L a r t).drops k]) (T := L.take q) h HDON.out)
          have htq : (L.take q).length = q := by rw [List.length_take]; omega
          rw [htq] at HTM
          have HSM := Lib.hid (fun V a1 c1 a2 c2 h1 h2 => sameI_any a1 q c1 a2 q c2 (L.take q) (L.take q) V h1 h2)
          rw [eqIs_same] at HSM
          have HGB : RowKit.Hid (Below V5.heap.size V5 V5.drew) := below_drewN (Below.refl _ _) 1
          by_cases hnt : n1 ≤ t
          · have d5 : decide ((n1 : Int) ≤ (t : Int)) = true := by simp; omega
            have d6 : decide (n1 ≤ t) = true := by simpa using hnt
            rw [d5, Bool.true_or] at HDN HDON
            go_upto_region 22 with fail
            refine wp_region_held_drew (S := (fun _ => True)) (by kernel_rfl) (by trivial) (fun hHeld => ?_)
            refine takeO 0 (some 102) (v := ?_) rfl rfl (by kernel_rfl) (by kernel_rfl) (by kernel_rfl) (fun _ _ _ h => h) (Or.inl ⟨by rfl, ?_⟩) (by assumption) ?_
            rotate_left 1
            · intro w hSw; (try dsimp only at hSw); go_simp; all_goals with_reducible rfl
            try simp only [Act.put, List.setIfInBounds_toArray, List.set_cons_zero, List.set_cons_succ]
            refine takeO 2 (some 104) (v := ?_) rfl rfl (by kernel_rfl) (by kernel_rfl) (by kernel_rfl) (fun _ _ _ h => h) (Or.inl ⟨by rfl, ?_⟩) (by assumption) ?_
            rotate_left 1
            · intro w hSw; (try dsimp only at hSw); go_simp; all_goals with_reducible rfl
            try simp only [Act.put, List.setIfInBounds_toArray, List.set_cons_zero, List.set_cons_succ]
            refine takeO 3 (some 105) (v := ?_) rfl rfl (by kernel_rfl) (by kernel_rfl) (by kernel_rfl) (fun _ _ _ h => h) (Or.inl ⟨by rfl, ?_⟩) (by assumption) ?_
            rotate_left 1
            · intro w hSw; (try dsimp only at hSw); go_simp; all_goals with_reducible rfl
            try simp only [Act.put, List.setIfInBounds_toArray, List.set_cons_zero, List.set_cons_succ]
            refine takeO 4 (some 106) (v := ?_) rfl rfl (by kernel_rfl) (by kernel_rfl) (by kernel_rfl) (fun _ _ _ h => h) (Or.inl ⟨by rfl, ?_⟩) (by assumption) ?_
            rotate_left 1
            · intro w hSw; (try dsimp only at hSw); go_simp; all_goals with_reducible rfl
            try simp only [Act.put, List.setIfInBounds_toArray, List.set_cons_zero, List.set_cons_succ]
            refine takeO 5 (some 107) (v := ?_) rfl rfl (by kernel_rfl) (by kernel_rfl) (by kernel_rfl) (fun _ _ _ h => h) (Or.inl ⟨by rfl, ?_⟩) (by assumption) ?_
            rotate_left 1
            · intro w hSw; (try dsimp only at hSw); go_simp; all_goals with_reducible rfl
            try simp only [Act.put, List.setIfInBounds_toArray, List.set_cons_zero, List.set_cons_succ]
            refine takeO 6 (some 108) (v := ?_) rfl rfl (by kernel_rfl) (by kernel_rfl) (by kernel_rfl) (fun _ _ _ h => h) (Or.inl ⟨by rfl, ?_⟩) (by assumption) ?_
            rotate_left 1
            · intro w hSw; (try dsimp only at hSw); go_simp; all_goals with_reducible rfl
            try simp only [Act.put, List.setIfInBounds_toArray, List.set_cons_zero, List.set_cons_succ]
            refine wpAnyH_ready (rs := [1]) (by kernel_rfl) (by simp) ?_
            refine AllReadyH.cons rfl (fun K hK => ?_) AllReadyH.nil
            go_simp
            go_at_call 17; refine (HTM.out _ (HM3.out.1.below HGB.out)).mono ?_; rintro e' u1 ⟨a1, c1, rfl, hown, hb⟩; have HX1 := Lib.hid (ownsRow_rdE (enc := KeyL.cells) (fun _ => rfl) htq hown); have HSN := Lib.hid (HGB.out.trans (hb.mono HGB.out.size)); clear HGB; have HGB := HSN; clear HSN; clear hb hown
            go_wp2_with fail
            refine hK.out _ _ (by trivial) (fun hHeld => ?_)
            clear hK K
            try simp only [Act.put, List.setIfInBounds_toArray, List.set_cons_zero, List.set_cons_succ]
            refine wpAnyH_ready (rs := [7]) (by kernel_rfl) (by simp) ?_
            refine AllReadyH.cons rfl (fun K hK => ?_) AllReadyH.nil
            go_simp
            go_at_call 26; refine (HSM.out _ _ _ _ _ HX1.out (HTK.out.below HGB.out rfl)).mono ?_; rintro e' u2 ⟨rfl, hd⟩; have HSN := Lib.hid (HGB.out.trans ((hd.below _).mono HGB.out.size)); clear HGB; have HGB := HSN; clear HSN; clear hd HX1
            go_wp2_with fail
            refine hK.out _ _ (by trivial) (fun hHeld => ?_)
            clear hK K
            try simp only [Act.put, List.setIfInBounds_toArray, List.set_cons_zero, List.set_cons_succ]
            refine takeO 8 (some 110) (v := ?_) rfl rfl (by kernel_rfl) (by kernel_rfl) (by kernel_rfl) (fun _ _ _ h => h) (Or.inl ⟨by rfl, ?_⟩) (by assumption) ?_
            rotate_left 1
            · intro w hSw; (try dsimp only at hSw); go_simp; all_goals with_reducible rfl
            try simp only [Act.put, List.setIfInBounds_toArray, List.set_cons_zero, List.set_cons_succ]
            refine takeO 9 (some 111) (v := ?_) rfl rfl (by kernel_rfl) (by kernel_rfl) (by kernel_rfl) (fun _ _ _ h => h) (Or.inl ⟨by rfl, ?_⟩) (by assumption) ?_
            rotate_left 1
            · intro w hSw; (try dsimp only at hSw); go_simp; all_goals with_reducible rfl
            try simp only [Act.put, List.setIfInBounds_toArray, List.set_cons_zero, List.set_cons_succ]
            refine takeO 10 (some 112) (v := ?_) rfl rfl (by kernel_rfl) (by kernel_rfl) (by kernel_rfl) (fun _ _ _ h => h) (Or.inl ⟨by rfl, ?_⟩) (by assumption) ?_
            rotate_left 1
            · intro w hSw; (try dsimp only at hSw); go_simp; all_goals with_reducible rfl
            try simp only [Act.put, List.setIfInBounds_toArray, List.set_cons_zero, List.set_cons_succ]
            refine takeO 12 (some 114) (v := ?_) rfl rfl (by kernel_rfl) (by kernel_rfl) (by kernel_rfl) (fun _ _ _ h => h) (Or.inl ⟨by rfl, ?_⟩) (by assumption) ?_
            rotate_left 1
            · intro w hSw; (try dsimp only at hSw); go_simp; all_goals with_reducible rfl
            try simp only [Act.put, List.setIfInBounds_toArray, List.set_cons_zero, List.set_cons_succ]
            refine takeO 13 (some 115) (v := ?_) rfl rfl (by kernel_rfl) (by kernel_rfl) (by kernel_rfl) (fun _ _ _ h => h) (Or.inl ⟨by rfl, ?_⟩) (by assumption) ?_
            rotate_left 1
            · intro w hSw; (try dsimp only at hSw); go_simp; all_goals with_reducible rfl
            try simp only [Act.put, List.setIfInBounds_toArray, List.set_cons_zero, List.set_cons_succ]
            refine takeO 14 (some 116) (v := ?_) rfl rfl (by kernel_rfl) (by kernel_rfl) (by kernel_rfl) (fun _ _ _ h => h) (Or.inl ⟨by rfl, ?_⟩) (by assumption) ?_
            rotate_left 1
            · intro w hSw; (try dsimp only at hSw); go_simp; all_goals with_reducible rfl
            try simp only [Act.put, List.setIfInBounds_toArray, List.set_cons_zero, List.set_cons_succ]
            refine wpAnyH_ready (rs := [11]) (by kernel_rfl) (by simp) ?_
            refine AllReadyH.cons rfl (fun K hK => ?_) AllReadyH.nil
            go_simp
            go_at_call 30; refine (HDN.out _ (HM3.out.below HGB.out)).mono ?_; rintro e' u3 ⟨rfl, _, hb⟩; have HSN := Lib.hid (HGB.out.trans (hb.mono HGB.out.size)); clear HGB; have HGB := HSN; clear HSN; clear hb
            go_wp2_with fail
            refine hK.out _ _ (by trivial) (fun hHeld => ?_)
            clear hK K
            try simp only [Act.put, List.setIfInBounds_toArray, List.set_cons_zero, List.set_cons_succ]
            refine takeO 15 (some 117) (v := ?_) rfl rfl (by kernel_rfl) (by kernel_rfl) (by kernel_rfl) (fun _ _ _ h => h) (Or.inl ⟨by rfl, ?_⟩) (by assumption) ?_
            rotate_left 1
            · intro w hSw; (try dsimp only at hSw); go_simp; all_goals with_reducible rfl
            try simp only [Act.put, List.setIfInBounds_toArray, List.set_cons_zero, List.set_cons_succ]
            refine takeO 16 (some 118) (v := undef) rfl rfl (by kernel_rfl) (by kernel_rfl) (by kernel_rfl) (fun _ _ _ h => h) (Or.inr ⟨by rfl, rfl⟩) (by assumption) ?_
            try simp only [Act.put, List.setIfInBounds_toArray, List.set_cons_zero, List.set_cons_succ]
            refine takeO 17 (some 119) (v := undef) rfl rfl (by kernel_rfl) (by kernel_rfl) (by kernel_rfl) (fun _ _ _ h => h) (Or.inr ⟨by rfl, rfl⟩) (by assumption) ?_
            try simp only [Act.put, List.setIfInBounds_toArray, List.set_cons_zero, List.set_cons_succ]
            refine takeO 18 (some 120) (v := undef) rfl rfl (by kernel_rfl) (by kernel_rfl) (by kernel_rfl) (fun _ _ _ h => h) (Or.inr ⟨by rfl, rfl⟩) (by assumption) ?_
            try simp only [Act.put, List.setIfInBounds_toArray, List.set_cons_zero, List.set_cons_succ]
            refine takeO 19 (some 121) (v := undef) rfl rfl (by kernel_rfl) (by kernel_rfl) (by kernel_rfl) (fun _ _ _ h => h) (Or.inr ⟨by rfl, rfl⟩) (by assumption) ?_
            try simp only [Act.put, List.setIfInBounds_toArray, List.set_cons_zero, List.set_cons_succ]
            refine takeO 20 (some 122) (v := ?_) rfl rfl (by kernel_rfl) (by kernel_rfl) (by kernel_rfl) (fun _ _ _ h => h) (Or.inl ⟨by rfl, ?_⟩) (by assumption) ?_
            rotate_left 1
            · intro w hSw; (try dsimp only at hSw); go_simp; all_goals with_reducible rfl
            try simp only [Act.put, List.setIfInBounds_toArray, List.set_cons_zero, List.set_cons_succ]
            refine takeO 21 (some 123) (v := ?_) rfl rfl (by kernel_rfl) (by kernel_rfl) (by kernel_rfl) (fun _ _ _ h => h) (Or.inl ⟨by rfl, ?_⟩) (by assumption) ?_
            rotate_left 1
            · intro w hSw; (try dsimp only at hSw); go_simp; all_goals with_reducible rfl
            try simp only [Act.put, List.setIfInBounds_toArray, List.set_cons_zero, List.set_cons_succ]
            refine takeO 22 (some 124) (v := ?_) rfl rfl (by kernel_rfl) (by kernel_rfl) (by kernel_rfl) (fun _ _ _ h => h) (Or.inl ⟨by rfl, ?_⟩) (by assumption) ?_
            rotate_left 1
            · intro w hSw; (try dsimp only at hSw); go_simp; all_goals with_reducible rfl
            try simp only [Act.put, List.setIfInBounds_toArray, List.set_cons_zero, List.set_cons_succ]
            refine wpAnyH_done (by kernel_rfl) ?_ _
            have HM4 := Lib.hid (HM3.out.below HGB.out)
            clear HGB
            go_wp2_with fail
            go_roundw
            case rel => exact ⟨a + b, r + 1, _, _, by omega, by omega, by go_num, by go_num, HM4.out, .inr HDON.out⟩
            case measure => simp [intOf]; omega
          · have d5 : decide ((n1 : Int) ≤ (t : Int)) = false := by simp; omega
            have d6 : decide (n1 ≤ t) = false := by simpa using hnt
            rw [d5, Bool.false_or] at HDN HDON
            go_upto_region 22 with fail
            refine wp_region_held_drew (S := (fun _ => True)) (by kernel_rfl) (by trivial) (fun hHeld => ?_)
            refine takeO 0 (some 102) (v := ?_) rfl rfl (by kernel_rfl) (by kernel_rfl) (by kernel_rfl) (fun _ _ _ h => h) (Or.inl ⟨by rfl, ?_⟩) (by assumption) ?_
            rotate_left 1
            · intro w hSw; (try dsimp only at hSw); go_simp; all_goals with_reducible rfl
            try simp only [Act.put, List.setIfInBounds_toArray, List.set_cons_zero, List.set_cons_succ]
            refine takeO 2 (some 104) (v := ?_) rfl rfl (by kernel_rfl) (by kernel_rfl) (by kernel_rfl) (fun _ _ _ h => h) (Or.inl ⟨by rfl, ?_⟩) (by assumption) ?_
            rotate_left 1
            · intro w hSw; (try dsimp only at hSw); go_simp; all_goals with_reducible rfl
            try simp only [Act.put, List.setIfInBounds_toArray, List.set_cons_zero, List.set_cons_succ]
            refine takeO 3 (some 105) (v := ?_) rfl rfl (by kernel_rfl) (by kernel_rfl) (by kernel_rfl) (fun _ _ _ h => h) (Or.inl ⟨by rfl, ?_⟩) (by assumption) ?_
            rotate_left 1
            · intro w hSw; (try dsimp only at hSw); go_simp; all_goals with_reducible rfl
            try simp only [Act.put, List.setIfInBounds_toArray, List.set_cons_zero, List.set_cons_succ]
            refine takeO 4 (some 106) (v := ?_) rfl rfl (by kernel_rfl) (by kernel_rfl) (by kernel_rfl) (fun _ _ _ h => h) (Or.inl ⟨by rfl, ?_⟩) (by assumption) ?_
            rotate_left 1
            · intro w hSw; (try dsimp only at hSw); go_simp; all_goals with_reducible rfl
            try simp only [Act.put, List.setIfInBounds_toArray, List.set_cons_zero, List.set_cons_succ]
            refine takeO 5 (some 107) (v := ?_) rfl rfl (by kernel_rfl) (by kernel_rfl) (by kernel_rfl) (fun _ _ _ h => h) (Or.inl ⟨by rfl, ?_⟩) (by assumption) ?_
            rotate_left 1
            · intro w hSw; (try dsimp only at hSw); go_simp; all_goals with_reducible rfl
            try simp only [Act.put, List.setIfInBounds_toArray, List.set_cons_zero, List.set_cons_succ]
            refine takeO 6 (some 108) (v := ?_) rfl rfl (by kernel_rfl) (by kernel_rfl) (by kernel_rfl) (fun _ _ _ h => h) (Or.inl ⟨by rfl, ?_⟩) (by assumption) ?_
            rotate_left 1
            · intro w hSw; (try dsimp only at hSw); go_simp; all_goals with_reducible rfl
            try simp only [Act.put, List.setIfInBounds_toArray, List.set_cons_zero, List.set_cons_succ]
            refine wpAnyH_ready (rs := [1]) (by kernel_rfl) (by simp) ?_
            refine AllReadyH.cons rfl (fun K hK => ?_) AllReadyH.nil
            go_simp
            go_at_call 17; refine (HTM.out _ (HM3.out.1.below HGB.out)).mono ?_; rintro e' u1 ⟨a1, c1, rfl, hown, hb⟩; have HX1 := Lib.hid (ownsRow_rdE (enc := KeyL.cells) (fun _ => rfl) htq hown); have HSN := Lib.hid (HGB.out.trans (hb.mono HGB.out.size)); clear HGB; have HGB := HSN; clear HSN; clear hb hown
            go_wp2_with fail
            refine hK.out _ _ (by trivial) (fun hHeld => ?_)
            clear hK K
            try simp only [Act.put, List.setIfInBounds_toArray, List.set_cons_zero, List.set_cons_succ]
            refine wpAnyH_ready (rs := [7]) (by kernel_rfl) (by simp) ?_
            refine AllReadyH.cons rfl (fun K hK => ?_) AllReadyH.nil
            go_simp
            go_at_call 26; refine (HSM.out _ _ _ _ _ HX1.out (HTK.out.below HGB.out rfl)).mono ?_; rintro e' u2 ⟨rfl, hd⟩; have HSN := Lib.hid (HGB.out.trans ((hd.below _).mono HGB.out.size)); clear HGB; have HGB := HSN; clear HSN; clear hd HX1
            go_wp2_with fail
            refine hK.out _ _ (by trivial) (fun hHeld => ?_)
            clear hK K
            try simp only [Act.put, List.setIfInBounds_toArray, List.set_cons_zero, List.set_cons_succ]
            refine takeO 8 (some 110) (v := ?_) rfl rfl (by kernel_rfl) (by kernel_rfl) (by kernel_rfl) (fun _ _ _ h => h) (Or.inl ⟨by rfl, ?_⟩) (by assumption) ?_
            rotate_left 1
            · intro w hSw; (try dsimp only at hSw); go_simp; all_goals with_reducible rfl
            try simp only [Act.put, List.setIfInBounds_toArray, List.set_cons_zero, List.set_cons_succ]
            refine takeO 9 (some 111) (v := ?_) rfl rfl (by kernel_rfl) (by kernel_rfl) (by kernel_rfl) (fun _ _ _ h => h) (Or.inl ⟨by rfl, ?_⟩) (by assumption) ?_
            rotate_left 1
            · intro w hSw; (try dsimp only at hSw); go_simp; all_goals with_reducible rfl
            try simp only [Act.put, List.setIfInBounds_toArray, List.set_cons_zero, List.set_cons_succ]
            refine takeO 10 (some 112) (v := ?_) rfl rfl (by kernel_rfl) (by kernel_rfl) (by kernel_rfl) (fun _ _ _ h => h) (Or.inl ⟨by rfl, ?_⟩) (by assumption) ?_
            rotate_left 1
            · intro w hSw; (try dsimp only at hSw); go_simp; all_goals with_reducible rfl
            try simp only [Act.put, List.setIfInBounds_toArray, List.set_cons_zero, List.set_cons_succ]
            refine takeO 12 (some 114) (v := ?_) rfl rfl (by kernel_rfl) (by kernel_rfl) (by kernel_rfl) (fun _ _ _ h => h) (Or.inl ⟨by rfl, ?_⟩) (by assumption) ?_
            rotate_left 1
            · intro w hSw; (try dsimp only at hSw); go_simp; all_goals with_reducible rfl
            try simp only [Act.put, List.setIfInBounds_toArray, List.set_cons_zero, List.set_cons_succ]
            refine takeO 13 (some 115) (v := ?_) rfl rfl (by kernel_rfl) (by kernel_rfl) (by kernel_rfl) (fun _ _ _ h => h) (Or.inl ⟨by rfl, ?_⟩) (by assumption) ?_
            rotate_left 1
            · intro w hSw; (try dsimp only at hSw); go_simp; all_goals with_reducible rfl
            try simp only [Act.put, List.setIfInBounds_toArray, List.set_cons_zero, List.set_cons_succ]
            refine takeO 14 (some 116) (v := ?_) rfl rfl (by kernel_rfl) (by kernel_rfl) (by kernel_rfl) (fun _ _ _ h => h) (Or.inl ⟨by rfl, ?_⟩) (by assumption) ?_
            rotate_left 1
            · intro w hSw; (try dsimp only at hSw); go_simp; all_goals with_reducible rfl
            try simp only [Act.put, List.setIfInBounds_toArray, List.set_cons_zero, List.set_cons_succ]
            refine wpAnyH_ready (rs := [11]) (by kernel_rfl) (by simp) ?_
            refine AllReadyH.cons rfl (fun K hK => ?_) AllReadyH.nil
            go_simp
            go_at_call 30; refine (HDN.out _ (HM3.out.below HGB.out)).mono ?_; rintro e' u3 ⟨rfl, _, hb⟩; have HSN := Lib.hid (HGB.out.trans (hb.mono HGB.out.size)); clear HGB; have HGB := HSN; clear HSN; clear hb
            go_wp2_with fail
            refine hK.out _ _ (by trivial) (fun hHeld => ?_)
            clear hK K
            try simp only [Act.put, List.setIfInBounds_toArray, List.set_cons_zero, List.set_cons_succ]
            refine takeO 15 (some 117) (v := ?_) rfl rfl (by kernel_rfl) (by kernel_rfl) (by kernel_rfl) (fun _ _ _ h => h) (Or.inl ⟨by rfl, ?_⟩) (by assumption) ?_
            rotate_left 1
            · intro w hSw; (try dsimp only at hSw); go_simp; all_goals with_reducible rfl
            try simp only [Act.put, List.setIfInBounds_toArray, List.set_cons_zero, List.set_cons_succ]
            refine takeO 16 (some 118) (v := ?_) rfl rfl (by kernel_rfl) (by kernel_rfl) (by kernel_rfl) (fun _ _ _ h => h) (Or.inl ⟨by rfl, ?_⟩) (by assumption) ?_
            rotate_left 1
            · intro w hSw; (try dsimp only at hSw); go_simp; all_goals with_reducible rfl
            try simp only [Act.put, List.setIfInBounds_toArray, List.set_cons_zero, List.set_cons_succ]
            refine takeO 17 (some 119) (v := ?_) rfl rfl (by kernel_rfl) (by kernel_rfl) (by kernel_rfl) (fun _ _ _ h => h) (Or.inl ⟨by rfl, ?_⟩) (by assumption) ?_
            rotate_left 1
            · intro w hSw; (try dsimp only at hSw); go_simp; all_goals with_reducible rfl
            try simp only [Act.put, List.setIfInBounds_toArray, List.set_cons_zero, List.set_cons_succ]
            refine takeO 18 (some 120) (v := ?_) rfl rfl (by kernel_rfl) (by kernel_rfl) (by kernel_rfl) (fun _ _ _ h => h) (Or.inl ⟨by rfl, ?_⟩) (by assumption) ?_
            rotate_left 1
            · intro w hSw; (try dsimp only at hSw); go_simp; all_goals with_reducible rfl
            try simp only [Act.put, List.setIfInBounds_toArray, List.set_cons_zero, List.set_cons_succ]
            refine takeO 19 (some 121) (v := ?_) rfl rfl (by kernel_rfl) (by kernel_rfl) (by kernel_rfl) (fun _ _ _ h => h) (Or.inl ⟨by rfl, ?_⟩) (by assumption) ?_
            rotate_left 1
            · intro w hSw; (try dsimp only at hSw); go_simp; all_goals with_reducible rfl
            try simp only [Act.put, List.setIfInBounds_toArray, List.set_cons_zero, List.set_cons_succ]
            refine takeO 20 (some 122) (v := ?_) rfl rfl (by kernel_rfl) (by kernel_rfl) (by kernel_rfl) (fun _ _ _ h => h) (Or.inl ⟨by rfl, ?_⟩) (by assumption) ?_
            rotate_left 1
            · intro w hSw; (try dsimp only at hSw); go_simp; all_goals with_reducible rfl
            try simp only [Act.put, List.setIfInBounds_toArray, List.set_cons_zero, List.set_cons_succ]
            refine takeO 21 (some 123) (v := ?_) rfl rfl (by kernel_rfl) (by kernel_rfl) (by kernel_rfl) (fun _ _ _ h => h) (Or.inl ⟨by rfl, ?_⟩) (by assumption) ?_
            rotate_left 1
            · intro w hSw; (try dsimp only at hSw); go_simp; all_goals with_reducible rfl
            try simp only [Act.put, List.setIfInBounds_toArray, List.set_cons_zero, List.set_cons_succ]
            refine takeO 22 (some 124) (v := ?_) rfl rfl (by kernel_rfl) (by kernel_rfl) (by kernel_rfl) (fun _ _ _ h => h) (Or.inl ⟨by rfl, ?_⟩) (by assumption) ?_
            rotate_left 1
            · intro w hSw; (try dsimp only at hSw); go_simp; all_goals with_reducible rfl
            try simp only [Act.put, List.setIfInBounds_toArray, List.set_cons_zero, List.set_cons_succ]
            refine wpAnyH_done (by kernel_rfl) ?_ _
            have HM4 := Lib.hid (HM3.out.below HGB.out)
            clear HGB
            cases e
            · have HN := Lib.hid (HNXT.out (by omega) (of_decide_eq_false HE.out))
              go_wp2_with fail
              go_roundw
              case rel =>
                have h := HM4.out
                rw [HN.out.1, ← HQ.out, HN.out.2.1, ← HN.out.2.2] at h
                exact ⟨a + b, r + 1, _, _, by omega, by omega, by go_num, by go_num, h, .inl ⟨rfl, rfl, by have := HN.out.2.2; omega, by have := HN.out.2.2; omega⟩⟩
              case measure => simp [intOf]; omega
            · go_wp2_with fail
              go_roundw
              case rel => exact ⟨a + b, r + 1, _, _, by omega, by omega, by go_num, by go_num, HM4.out, .inr HDON.out⟩
              case measure => simp [intOf]; omega
        · clear HCA
          go_wp2_with fail
          refine (m_done HM.out hdn).mono ?_
          rintro e V3 ⟨rfl, hM1, _⟩
          have HM1 := Lib.hid hM1
          clear hM1 HM
          go_wp2_with fail
          refine (m_done HM1.out hdn).mono ?_
          rintro e V4 ⟨rfl, hM1, _⟩
          have HB4 := Lib.hid (HB3.out.trans (hM1.2.mono HB3.out.size))
          clear hM1 HM1 hdn
          go_wp2_with fail
          refine (HZ.out _).mono ?_
          rintro e w1 ⟨rfl, hb⟩
          have HB3 := Lib.hid (HB4.out.trans (hb.mono HB4.out.size))
          clear hb
          go_wp2_with fail
          go_ret
          exact ⟨rfl, HB3.out⟩
end Go.Proofs.Ytjacebnjmhbcbaa
