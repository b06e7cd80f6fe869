/- RankAgain. -/
import Derived.Test.YtiohngcmojkheaaRk3
namespace Go.Proofs.Ytiohngcmojkheaa
open Go.RowKit
set_option linter.unusedVariables false

theorem eqI_run (x y : KeyL) (W : World) : (binOp .eql 39 (.agg #[.int .i64 x.1, .string x.2]) (.agg #[.int .i64 y.1, .string y.2])).run Try.prog W = .ok (.bool (decide (x = y))) W := by
  obtain ⟨lx, tx⟩ := x
  obtain ⟨ly, ty⟩ := y
  by_cases heq : lx = ly ∧ tx = ty
  · obtain ⟨rfl, rfl⟩ := heq
    have ht : (tx.toList == tx.toList) = true := by simp
    have hl : (lx == lx) = true := by simp
    have hd : decide ((lx, tx) = (lx, tx)) = true := decide_eq_true rfl
    rw [hd]
    go_simp
  · have hd : decide ((lx, tx) = (ly, ty)) = false := decide_eq_false (fun e => heq (Prod.mk.inj e))
    rw [hd]
    by_cases hl : lx = ly
    · have ht := str_ne (fun e => heq ⟨hl, e⟩)
      subst hl
      have hl : (lx == lx) = true := by simp
      clear heq
      go_simp
    · have hl' : (lx == ly) = false := by simpa using hl
      clear heq
      go_simp
def cntI (l : List KeyL) (x : KeyL) : Nat := l.countP fun y => decide (y = x)
theorem cntI_take (l : List KeyL) (k : Nat) (x y : KeyL) (h : l[k]? = some y) : cntI (l.take (k + 1)) x = cntI (l.take k) x + (if decide (y = x) = true then 1 else 0) := by
  unfold cntI
  rw [List.take_add_one, h, Option.toList_some, List.countP_append, List.countP_singleton]
theorem cntI_le (l : List KeyL) (k : Nat) (x : KeyL) : cntI (l.take k) x ≤ k := Nat.le_trans List.countP_le_length (List.length_take_le _ _)
theorem cntI_sort (l : List KeyL) (x : KeyL) : cntI (sortL l) x = cntI l x := (sortL_perm l).countP_eq _
theorem sortL_sortL (l : List KeyL) : sortL (sortL l) = sortL l := (sortL_of (sortL_sorted l) (List.Perm.refl _)).symm
theorem sortL_reverse (l : List KeyL) : sortL l.reverse = sortL l := sorted_one (sortL_sorted _) (sortL_sorted _) ((sortL_perm _).trans ((List.reverse_perm l).trans (sortL_perm l).symm))
theorem sortL_step {l : List KeyL} {i : Nat} {x y : KeyL} (hx : (sortL l)[i]? = some x) (hy : (sortL l)[i + 1]? = some y) : kless y x = false := by
  have h := List.pairwise_iff_getElem.1 (sortL_sorted l) i (i + 1) (List.getElem?_eq_some_iff.1 hx).1 (List.getElem?_eq_some_iff.1 hy).1 (by omega)
  rw [(List.getElem?_eq_some_iff.1 hx).2, (List.getElem?_eq_some_iff.1 hy).2] at h
  exact h
theorem eqIs_self (l : List KeyL) : eqIs l l = true := by unfold eqIs; exact decide_eq_true rfl
def AgB (w w0 : World) (l : List KeyL) (v4 v5 : Value) (wr : World) : Prop := ∃ (j m : Nat) (ao : Option Addr) (c : Nat), j + m = l.length ∧ v5 = .int .i64 ((j : Int) - 1) ∧ v4 = .slice ao m c ∧ RowKit.Hid (wr.ownsRow w0.heap.size 39 2 (.slice ao m c) m ((l.reverse.take m).flatMap KeyL.cells)) ∧ RowKit.Hid (Below w0.heap.size w0 wr)
def AgO (w : World) (l : List KeyL) (v6 : Value) (wr : World) : Prop := ∃ i : Nat, i ≤ l.length ∧ v6 = .int .i64 i ∧ RowKit.Hid (Below w.heap.size w wr)
def AgI (w : World) (l : List KeyL) (x : KeyL) (v7 v8 : Value) (wr : World) : Prop := ∃ k : Nat, k ≤ l.length ∧ v8 = .int .i64 k ∧ v7 = .int .i64 ((cntI (l.take k) x : Int) - (cntI ((sortL l).take k) x : Int)) ∧ RowKit.Hid (Below w.heap.size w wr)
theorem rev_take {l : List KeyL} {j m : Nat} {x : KeyL} (h : j + 1 + m = l.length) (hx : l[j]? = some x) : (l.reverse.take m).flatMap KeyL.cells ++ KeyL.cells x = (l.reverse.take (m + 1)).flatMap KeyL.cells := by
  have : l.reverse[m]? = some x := by rw [List.getElem?_reverse (by omega), show l.length - 1 - m = j by omega, hx]
  rw [List.take_add_one, this]; simp
set_option maxRecDepth 100000 in
set_option maxHeartbeats 8000000 in
theorem again_law (w : World) (ao : Option Addr) (n c : Nat) (l : List KeyL) (hr : RdE KeyL.cells 2 w ao n c l) (hs : ∀ x ∈ l, x.2.size ≤ maxLen) :
    Calls Try.prog 7 #[.slice ao n c] w fun e w' => e = .returned (.bool true) ∧ Below w.heap.size w w' := by
  have hn := hr.1
  subst hn
  have hcap := hr.2.1
  have hcm := hr.2.2.1
  unfold maxLen at hcm
  obtain ⟨i0, hi, hz0, hz1, hz2⟩ := info_parts infoI2
  have HI := Lib.hid hi
  have HZ0 := Lib.hid hz0
  have HZ1 := Lib.hid hz1
  have HZ2 := Lib.hid hz2
  clear hi hz0 hz1 hz2
  have HR := Lib.hid hr
  have HGR := Lib.hid (greatI_any ao l.length c l w hr hs)
  have HSO := Lib.hid (fun w ao n c l h hn => rsort_any w ao n c l h hn)
  have HSM := Lib.hid (fun a n cap b m bcap l r w h1 h2 => sameI_any a n cap b m bcap l r w h1 h2)
  have HZ : RowKit.Hid (∀ V, Calls Try.prog 15 #[] V fun e w' => e = .returned (.bool true) ∧ Below V.heap.size V w') := fun V => awake_any V
  clear hr hs
  go_enter Try.func7, Try.ntmps7
  go_wp2_with fail
  refine HGR.out.mono ?_
  rintro e w0 ⟨rfl, rfl⟩
  clear HGR
  cases hg : greatI l
  case true =>
    clear hg
    go_wp2_with fail
    refine (HZ.out _).mono ?_
    rintro e w1 ⟨rfl, hb⟩
    have HB1 := Lib.hid hb
    clear hb
    go_wp2_with fail
    go_ret
    exact ⟨rfl, HB1.out⟩
  have hl80 := (greatI_false hg).1
  clear hg
  go_wp2_with fail
  refine (HSO.out w ao l.length c l HR.out (by omega)).mono ?_
  rintro e w1 ⟨a1, c1, rfl, hown, hb⟩
  have HB1 := Lib.hid hb
  have HA := Lib.hid (ownsRow_rdE (enc := KeyL.cells) (fun _ => rfl) rfl hown)
  have hsl := sortL_len l
  have HSL := Lib.hid hsl
  rw [hsl] at HA ⊢
  have hca := HA.out.2.1
  have hca2 := HA.out.2.2.1
  unfold maxLen at hca2
  clear hown hb hsl
  have w9 : IntKind.i64.wrap ((l.length : Int) - 1) = (l.length : Int) - 1 := IntWalk.i64_in _ (by omega)
  have HBB := Lib.hid (Below.refl w1.heap.size w1)
  go_wp2_with fail
  clear w9
  go_loopw [4, 5] (fun v4 v5 wr => AgB w w1 l v4 v5 wr) (fun _ v _ => (intOf v + 1).toNat)
  case atStart => exact ⟨l.length, 0, none, 0, by omega, rfl, rfl, World.ownsRow_nil _ _ _ _, HBB.out⟩
  case round =>
    clear HBB
    obtain ⟨j, m, a2, c2, hjm, rfl, rfl, HO, HB⟩ := hrel
    by_cases hj0 : 1 ≤ j
    · obtain ⟨i, hi⟩ : ∃ i, j - 1 = i := ⟨_, rfl⟩
      obtain rfl : j = i + 1 := by omega
      clear hi hj0
      have e1 : ((i + 1 : Nat) : Int) - 1 = (i : Int) := by omega
      rw [e1]
      clear e1
      obtain ⟨x, hx⟩ : ∃ x, l[i]? = some x := ⟨_, List.getElem?_eq_getElem (by omega)⟩
      obtain ⟨bo, of, rfl, hbl, hc⟩ := (HR.out.below (HB1.out.trans (HB.out.mono HB1.out.size)) rfl).2.2.2.2 i x hx
      have x0 : wr.cell? ⟨bo, of + i * 2, none⟩ = some (.int .i64 x.1) := hc 0 (by decide)
      have x1 : wr.cell? ⟨bo, of + i * 2 + 1, none⟩ = some (.string x.2) := hc 1 (by decide)
      have HTK := Lib.hid (rev_take hjm hx)
      have b1 : i < l.length := by omega
      have b2 : (0 : Int) ≤ (i : Int) := by omega
      have b3 : (i : Int) < (l.length : Int) := by omega
      clear hx hc
      have A1 : m + 1 ≤ maxLen := by unfold maxLen; omega
      have A2 : (m + 1) * 24 ≤ 140737488355328 := by omega
      have HAL := Lib.hid ((Below.refl _ wr).alloc (Nat.le_refl _) (.cells #[.int .i64 x.1, .string x.2] 39))
      have HO' := Lib.hid (ownsRow_below HO.out HAL.out)
      have hz : w1.heap.size ≤ (wr.alloc (.cells #[.int .i64 x.1, .string x.2] 39)).heap.size := Nat.le_trans HB.out.size HAL.out.size
      have HBA := Lib.hid (HB.out.alloc HB.out.size (.cells #[.int .i64 x.1, .string x.2] 39))
      have HSR := Lib.hid (Src.item1 wr x)
      go_wp2_with (at_builtin; refine wpList_app rfl _ _ 28 28 rfl w1.heap.size 39 i0 (.agg #[.int .i64 0, .string ⟨#[]⟩]) 2 24 Try.underlying28 HI.out HZ0.out HZ1.out HZ2.out rfl (by decide) a2 m c2 ((l.reverse.take m).flatMap KeyL.cells) rfl HO'.out _ 1 (KeyL.cells x) rfl HSR.out A1 A2 hz ?_; intro a3 c3 w5 hown5 hg5; rw [HTK.out] at hown5; have HO5 := Lib.hid hown5; have HB5 := Lib.hid (HBA.out.grown hg5 hz (fun b hb => (HO'.out.lt b hb).1)); clear hown5 hg5)
      go_roundw
      case rel => exact ⟨i, m + 1, a3, c3, by omega, rfl, rfl, HO5.out, HB5.out⟩
      case measure => first | (simp [intOf]; done) | (simp [intOf]; omega)
    · obtain rfl : j = 0 := by omega
      obtain rfl : m = l.length := by omega
      have ho := HO.out
      rw [List.take_of_length_le (by simp)] at ho
      have HRB := Lib.hid (ownsRow_rdE (enc := KeyL.cells) (fun _ => rfl) (by simp) ho)
      have HA2 := Lib.hid (HA.out.below HB.out rfl)
      have HB2 := Lib.hid (HB1.out.trans (HB.out.mono HB1.out.size))
      have dn : ((l.length : Int) != (l.length : Int)) = false := by simp
      clear ho HO HA HB HB1 hj0
      go_wp2_with fail
      refine (HSO.out wr a1 l.length c1 (sortL l) HA2.out (by omega)).mono ?_
      rintro e w2 ⟨a4, c4, rfl, hown, hb⟩
      rw [sortL_sortL] at hown ⊢
      have HX := Lib.hid (ownsRow_rdE (enc := KeyL.cells) (fun _ => rfl) rfl hown)
      have HB3 := Lib.hid (HB2.out.trans (hb.mono HB2.out.size))
      have HA3 := Lib.hid (HA2.out.below hb rfl)
      have HRB3 := Lib.hid (HRB.out.below hb rfl)
      clear hown hb HB2 HA2 HRB
      go_wp2_with fail
      refine (HSM.out _ _ _ _ _ _ (sortL l) (sortL l) _ HX.out HA3.out).mono ?_
      rintro e w3 ⟨rfl, hd⟩
      rw [eqIs_self]
      have HB4 := Lib.hid (HB3.out.trans ((hd.below _).mono HB3.out.size))
      have HA4 := Lib.hid (HA3.out.below (hd.below _) rfl)
      have HRB4 := Lib.hid (HRB3.out.below (hd.below _) rfl)
      clear hd HB3 HA3 HRB3 HX
      go_wp2_with fail
      refine (HSO.out _ _ l.length _ l.reverse HRB4.out (by omega)).mono ?_
      rintro e w4 ⟨a5, c5, rfl, hown, hb⟩
      rw [sortL_reverse] at hown ⊢
      have HX := Lib.hid (ownsRow_rdE (enc := KeyL.cells) (fun _ => rfl) rfl hown)
      have HB5 := Lib.hid (HB4.out.trans (hb.mono HB4.out.size))
      have HA5 := Lib.hid (HA4.out.below hb rfl)
      clear hown hb HB4 HA4 HRB4
      go_wp2_with fail
      refine (HSM.out _ _ _ _ _ _ (sortL l) (sortL l) _ HX.out HA5.out).mono ?_
      rintro e w5 ⟨rfl, hd⟩
      rw [eqIs_self]
      have HB6 := Lib.hid (HB5.out.trans ((hd.below _).mono HB5.out.size))
      have HA6 := Lib.hid (HA5.out.below (hd.below _) rfl)
      have HR6 := Lib.hid (HR.out.below HB6.out rfl)
      clear hd HB5 HA5 HX dn
      have HBB := Lib.hid (Below.refl w5.heap.size w5)
      go_wp2_with fail
      go_loopw [6] (fun v6 wz => AgO w5 l v6 wz) (fun v _ => l.length - (intOf v).toNat)
      case atStart => exact ⟨0, by omega, rfl, HBB.out⟩
      case round =>
        clear HBB
        obtain ⟨i, hi, rfl, HB⟩ := hrel
        by_cases hlt : i < l.length
        · obtain ⟨x, hx⟩ : ∃ x, l[i]? = some x := ⟨_, List.getElem?_eq_getElem hlt⟩
          have bi1 : i < l.length := hlt
          have bi2 : (0 : Int) ≤ (i : Int) := by omega
          have bi3 : (i : Int) < (l.length : Int) := by omega
          have HX := Lib.hid hx
          go_wp2_with fail
          go_loopw [7, 8] (fun v7 v8 wz => AgI w5 l x v7 v8 wz) (fun _ v _ => l.length - (intOf v).toNat)
          case atStart => exact ⟨0, by omega, rfl, by simp [cntI], HB.out⟩
          case round =>
            clear HB
            obtain ⟨k, hk, rfl, rfl, HB⟩ := hrel
            by_cases hltk : k < l.length
            · obtain ⟨y, hy⟩ : ∃ y, l[k]? = some y := ⟨_, List.getElem?_eq_getElem hltk⟩
              obtain ⟨z, hz⟩ : ∃ z, (sortL l)[k]? = some z := ⟨_, List.getElem?_eq_getElem (by rw [HSL.out]; exact hltk)⟩
              obtain ⟨bl, ol, rfl, hbl, hcl⟩ := HR6.out.2.2.2.2 k y hy
              obtain ⟨bl', ol', e, hbl', hcx⟩ := HR6.out.2.2.2.2 i x HX.out
              obtain ⟨rfl, rfl⟩ : bl = bl' ∧ ol = ol' := by cases e; exact ⟨rfl, rfl⟩
              obtain ⟨bs, os, rfl, hbs, hcs⟩ := HA6.out.2.2.2.2 k z hz
              have y0 : wr.cell? ⟨bl, ol + k * 2, none⟩ = some (.int .i64 y.1) := (HB.out.cell (p := ⟨bl, ol + k * 2, none⟩) hbl).trans (hcl 0 (by decide))
              have y1 : wr.cell? ⟨bl, ol + k * 2 + 1, none⟩ = some (.string y.2) := (HB.out.cell (p := ⟨bl, ol + k * 2 + 1, none⟩) hbl).trans (hcl 1 (by decide))
              have x0 : wr.cell? ⟨bl, ol + i * 2, none⟩ = some (.int .i64 x.1) := (HB.out.cell (p := ⟨bl, ol + i * 2, none⟩) hbl).trans (hcx 0 (by decide))
              have x1 : wr.cell? ⟨bl, ol + i * 2 + 1, none⟩ = some (.string x.2) := (HB.out.cell (p := ⟨bl, ol + i * 2 + 1, none⟩) hbl).trans (hcx 1 (by decide))
              have z0 : wr.cell? ⟨bs, os + k * 2, none⟩ = some (.int .i64 z.1) := (HB.out.cell (p := ⟨bs, os + k * 2, none⟩) hbs).trans (hcs 0 (by decide))
              have z1 : wr.cell? ⟨bs, os + k * 2 + 1, none⟩ = some (.string z.2) := (HB.out.cell (p := ⟨bs, os + k * 2 + 1, none⟩) hbs).trans (hcs 1 (by decide))
              have t1 := cntI_take l k x y hy
              have t2 := cntI_take (sortL l) k x z hz
              have l1 := cntI_le l k x
              have l2 := cntI_le (sortL l) k x
              have he1 := eqI_run y x
              have he2 := eqI_run z x
              have bk1 : k < l.length := hltk
              have bk2 : (0 : Int) ≤ (k : Int) := by omega
              have bk3 : (k : Int) < (l.length : Int) := by omega
              obtain ⟨u, hu⟩ : ∃ u, cntI (l.take k) x = u := ⟨_, rfl⟩
              obtain ⟨v, hv⟩ : ∃ v, cntI ((sortL l).take k) x = v := ⟨_, rfl⟩
              rw [hu] at t1 l1 ⊢
              rw [hv] at t2 l2 ⊢
              have HT1 := Lib.hid t1
              have HT2 := Lib.hid t2
              clear hy hz hcl hcx hcs e t1 t2 hu hv
              cases hd1 : decide (y = x) <;> cases hd2 : decide (z = x)
              all_goals
                rw [hd1] at he1 HT1
                rw [hd2] at he2 HT2
                clear hd1 hd2
                go_wp2_with fail
                go_quiet (fail)
                go_wp2_with fail
                go_quiet (fail)
                go_wp2_with fail
                go_roundw
                case rel => exact ⟨k + 1, by omega, by go_num, (by rw [HT1.out, HT2.out]; congr 1; (try simp); (try omega)), by unfold RowKit.Hid; exact below_drewN HB.out _⟩
                case measure => simp [intOf]; omega
            · obtain rfl : k = l.length := by omega
              have hc0 : ((cntI (l.take l.length) x : Int) - (cntI ((sortL l).take l.length) x : Int)) = 0 := by
                rw [List.take_length, List.take_of_length_le (by rw [HSL.out]; exact Nat.le_refl _), cntI_sort]; omega
              rw [hc0]
              clear hc0
              by_cases hi0 : i = 0
              · subst hi0
                go_wp2_with fail
                go_quiet (fail)
                go_wp2_with fail
                go_roundw
                case rel => exact ⟨1, by omega, by go_num, below_drewN HB.out _⟩
                case measure => simp [intOf]; omega
              · obtain ⟨j, hj⟩ : ∃ j, i - 1 = j := ⟨_, rfl⟩
                have hj2 : j + 1 = i := by omega
                have wj : IntKind.i64.wrap ((i : Int) - 1) = (j : Int) := by rw [IntWalk.i64_in _ (by omega)]; omega
                obtain ⟨p, hp⟩ : ∃ z, (sortL l)[j]? = some z := ⟨_, List.getElem?_eq_getElem (by rw [HSL.out]; omega)⟩
                obtain ⟨r, hr⟩ : ∃ z, (sortL l)[i]? = some z := ⟨_, List.getElem?_eq_getElem (by rw [HSL.out]; exact hlt)⟩
                have hkl := sortL_step hp (by rw [hj2]; exact hr)
                obtain ⟨bs, os, rfl, hbs, hcs⟩ := HA6.out.2.2.2.2 i r hr
                obtain ⟨bs', os', e, hbs', hcp⟩ := HA6.out.2.2.2.2 j p hp
                obtain ⟨rfl, rfl⟩ : bs = bs' ∧ os = os' := by cases e; exact ⟨rfl, rfl⟩
                have HC : RowKit.Hid (∀ V, Below w5.heap.size w5 V → V.cell? ⟨bs, os + i * 2, none⟩ = some (.int .i64 r.1) ∧ V.cell? ⟨bs, os + i * 2 + 1, none⟩ = some (.string r.2) ∧ V.cell? ⟨bs, os + j * 2, none⟩ = some (.int .i64 p.1) ∧ V.cell? ⟨bs, os + j * 2 + 1, none⟩ = some (.string p.2)) := fun V hb => ⟨(hb.cell hbs).trans (hcs 0 (by decide)), (hb.cell hbs).trans (hcs 1 (by decide)), (hb.cell hbs).trans (hcp 0 (by decide)), (hb.cell hbs).trans (hcp 1 (by decide))⟩
                have bj1 : j < l.length := by omega
                have bj2 : (0 : Int) ≤ (j : Int) := by omega
                have bj3 : (j : Int) < (l.length : Int) := by omega
                have di : decide ((0 : Int) < (i : Int)) = true := by simp; omega
                have di2 : decide (0 < i) = true := by simp; omega
                have di3 : 0 < i := by omega
                have HLE := Lib.hid (iless_any r p)
                rw [hkl] at HLE
                have HGB : RowKit.Hid (Below w5.heap.size w5 wr.drew) := below_drewN HB.out 1
                clear hp hr hkl hcs hcp e hj hj2 hi0
                go_upto_region 22 with fail
                go_region_held3 (fun w' => w'.cell? ⟨bs, os + i * 2, none⟩ = some (.int .i64 r.1) ∧ w'.cell? ⟨bs, os + i * 2 + 1, none⟩ = some (.string r.2) ∧ w'.cell? ⟨bs, os + j * 2, none⟩ = some (.int .i64 p.1) ∧ w'.cell? ⟨bs, os + j * 2 + 1, none⟩ = some (.string p.2)) (exact HC.out _ HGB.out) ((go_at_call 32; with_reducible refine (HLE.out _).mono ?_; rintro e u ⟨rfl, hb⟩; have HSN := Lib.hid (HGB.out.trans (hb.mono HGB.out.size)); clear HGB; have HGB := HSN; clear HSN; clear hb))
                all_goals
                  go_wp2_with fail
                  clear wj
                  go_roundw
                  case rel => exact ⟨i + 1, by omega, by go_num, HGB.out⟩
                  case measure => simp [intOf]; omega
        · obtain rfl : i = l.length := by omega
          go_wp2_with fail
          refine (HZ.out _).mono ?_
          rintro e w7 ⟨rfl, hb⟩
          have HB7 := Lib.hid (HB6.out.trans ((HB.out.trans (hb.mono HB.out.size)).mono HB6.out.size))
          clear hb
          go_wp2_with fail
          go_ret
          exact ⟨rfl, HB7.out⟩
end Go.Proofs.Ytiohngcmojkheaa
