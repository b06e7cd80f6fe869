/- The walk of part.Good. -/
import Derived.Test.YtjdanngkmkgidaaPart4
namespace Go.Proofs.Ytjdanngkmkgidaa
open Go.RowKit
set_option linter.unusedVariables false

def keyAt (l : List KeyL) (i : Nat) : KeyL := l.getD i (0, ⟨#[]⟩)
theorem keyAt_some {l : List KeyL} {i : Nat} (h : i < l.length) : l[i]? = some (keyAt l i) := by
  unfold keyAt; simp [h]
set_option maxHeartbeats 2000000 in
def badK (k : KeyL) : Bool := decide (k.1 < 1) || decide (12 < k.1) || decide (tLen k.2 < 0) || decide (12 < tLen k.2)
def risesK (l : List KeyL) (m : Nat) : Bool := (List.range m).all fun i => kless (keyAt l i) (keyAt l (i + 1))
/-- are cuts in order? -/
def goodE (l : List KeyL) : Int := if 5 < l.length then 3 else if l.any badK = true then 2 else if risesK l (l.length - 1) = true then 0 else 7
theorem risesK_succ (l : List KeyL) (m : Nat) : risesK l (m + 1) = (risesK l m && kless (keyAt l m) (keyAt l (m + 1))) := by
  unfold risesK; rw [List.range_succ, List.all_append]; simp
theorem risesK_false (l : List KeyL) (m n : Nat) (h : m ≤ n) (hm : risesK l m = false) : risesK l n = false := by
  cases hn : risesK l n with
  | false => rfl
  | true =>
    unfold risesK at hn hm
    rw [List.all_eq_true] at hn
    rw [List.all_eq_false] at hm
    obtain ⟨x, hx, hx'⟩ := hm
    exact absurd (hn x (by simp at hx ⊢; omega)) hx'
theorem any_take {α : Type} (p : α → Bool) (l : List α) (k : Nat) (x : α) (h : l[k]? = some x) : (l.take (k + 1)).any p = ((l.take k).any p || p x) := by
  rw [List.take_add_one, h]; simp
theorem any_of {α : Type} (p : α → Bool) (l : List α) (k : Nat) (x : α) (h : l[k]? = some x) (hp : p x = true) : l.any p = true := by
  rw [List.any_eq_true]; exact ⟨x, List.mem_iff_getElem?.2 ⟨k, h⟩, hp⟩

theorem goodE_5 {l : List KeyL} (h : 5 < l.length) : goodE l = 3 := by unfold goodE; rw [if_pos h]
theorem goodE_2 {l : List KeyL} (h : l.length ≤ 5) (k : l.any badK = true) : goodE l = 2 := by unfold goodE; rw [if_neg (by omega), if_pos k]
theorem goodE_7 {l : List KeyL} (h : l.length ≤ 5) (k : l.any badK = false) (m : Nat) (hm : m ≤ l.length - 1) (r : risesK l m = false) : goodE l = 7 := by
  unfold goodE; rw [if_neg (by omega), if_neg (by simp [k]), if_neg (by simp [risesK_false l m _ hm r])]
theorem goodE_0 {l : List KeyL} (h : l.length ≤ 5) (k : l.any badK = false) (r : risesK l (l.length - 1) = true) : goodE l = 0 := by
  unfold goodE; rw [if_neg (by omega), if_neg (by simp [k]), if_pos r]
set_option maxRecDepth 100000 in
set_option maxHeartbeats 4000000 in
theorem good_any (a : Option Addr) (n cap : Nat) (l : List KeyL) (w : World) (hr : RdE KeyL.cells 2 w a n cap l) (hs : ∀ x ∈ l, x.2.size ≤ maxLen) :
    Calls Try.prog 44 #[.slice a n cap] w fun e w' => e = .returned (.int .i64 (goodE l)) ∧ Below w.heap.size w w' := by
  have hn := hr.1
  subst hn
  have hcap := hr.2.1
  have hcm := hr.2.2.1
  unfold maxLen at hcm
  have HR := Lib.hid hr
  clear hr
  obtain ⟨g, hg⟩ : ∃ g, goodE l = g := ⟨_, rfl⟩
  rw [hg]
  have HG := Lib.hid hg
  clear hg
  by_cases h5 : 5 < l.length
  · obtain rfl : g = 3 := by rw [← HG.out]; exact goodE_5 h5
    have d5 : decide (5 < l.length) = true := by simpa using h5
    go_enter Try.func44, Try.ntmps44
    go_wp2_with fail
    go_ret
    exact ⟨rfl, Below.refl _ _⟩
  · have d5 : decide (5 < l.length) = false := by simpa using h5
    have h6 : l.length ≤ 5 := by omega
    go_enter Try.func44, Try.ntmps44
    go_wp2_with fail
    go_loopw [4, 5, 12] (fun _ _ i wr => ∃ k : Nat, k ≤ l.length ∧ i = .int .i64 k ∧ RowKit.Hid ((l.take k).any badK = false) ∧ RowKit.Hid (Below w.heap.size w wr)) (fun _ _ i _ => l.length - (intOf i).toNat)
    case atStart => exact ⟨0, by omega, rfl, by simp [RowKit.Hid], Below.refl _ w⟩
    case round =>
      obtain ⟨k, hk, rfl, HA, HB⟩ := hrel
      by_cases hlt : k < l.length
      · obtain ⟨⟨lc, tc⟩, hx⟩ : ∃ x, l[k]? = some x := ⟨l[k], List.getElem?_eq_getElem hlt⟩
        obtain ⟨b, off, rfl, hbl, hc⟩ := (HR.out.below HB.out rfl).2.2.2.2 k (lc, tc) hx
        have c0 : wr.cell? ⟨b, off + k * 2, none⟩ = some (.int .i64 lc) := hc 0 (by decide)
        have c1 : wr.cell? ⟨b, off + k * 2 + 1, none⟩ = some (.string tc) := hc 1 (by decide)
        clear hc
        have hsz := hs _ (List.mem_iff_getElem?.2 ⟨k, hx⟩)
        have HN := Lib.hid (show Blk (wr.alloc (.cells #[.int .i64 lc, .string tc] 92)) wr.heap.size 92 [.int .i64 lc, .string tc] by unfold Blk; rw [heap_alloc_new])
        have d1 : (wr.alloc (.cells #[.int .i64 lc, .string tc] 92)).cell? ⟨wr.heap.size, 1, none⟩ = some (.string tc) := HN.out.cell 1
        have HB1 := Lib.hid (HB.out.alloc HB.out.size (.cells #[.int .i64 lc, .string tc] 92))
        have hsz1 : (wr.alloc (.cells #[.int .i64 lc, .string tc] 92)).heap.size = wr.heap.size + 1 := by simp
        have HL := Lib.hid (fun W => len_any tc W hsz)
        have hat := any_take badK l k (lc, tc) hx
        have hao := any_of badK l k (lc, tc) hx
        have hbk : badK (lc, tc) = (decide (lc < 1) || decide (12 < lc) || decide (tLen tc < 0) || decide (12 < tLen tc)) := rfl
        obtain ⟨z, hz⟩ : ∃ z, tLen tc = z := ⟨_, rfl⟩
        rw [hz] at HL hbk
        rw [HA.out, Bool.false_or] at hat
        obtain ⟨bk, hbk'⟩ : ∃ bk, badK (lc, tc) = bk := ⟨_, rfl⟩
        rw [hbk'] at hat hao hbk
        have HAT := Lib.hid hat
        have HAO := Lib.hid hao
        clear hat hao hz hbk'
        clear HA
        go_wp2_with fail
        refine (HL.out _).mono ?_
        rintro e w' ⟨rfl, hb⟩
        have HN2 := Lib.hid (HN.out.below hb (by omega))
        have e0 : w'.cell? ⟨wr.heap.size, 0, none⟩ = some (.int .i64 lc) := HN2.out.cell 0
        have HB2 := Lib.hid (HB1.out.trans (hb.mono HB1.out.size))
        clear hb
        by_cases p1 : lc < 1
        · have dp : decide (lc < 1) = true := by simpa using p1
          have HK : RowKit.Hid (bk = true) := by rw [hbk, dp]; rfl
          clear hbk
          go_wp2_with fail
          go_ret
          obtain rfl : g = 2 := by rw [← HG.out]; exact goodE_2 h6 (HAO.out HK.out)
          exact ⟨rfl, HB2.out⟩
        · have dp : decide (lc < 1) = false := by simpa using p1
          by_cases p2 : 12 < lc
          · have dp2 : decide (12 < lc) = true := by simpa using p2
            have HK : RowKit.Hid (bk = true) := by rw [hbk, dp, dp2]; rfl
            clear hbk
            go_wp2_with fail
            go_ret
            obtain rfl : g = 2 := by rw [← HG.out]; exact goodE_2 h6 (HAO.out HK.out)
            exact ⟨rfl, HB2.out⟩
          · have dp2 : decide (12 < lc) = false := by simpa using p2
            by_cases p3 : z < 0
            · have dp3 : decide (z < 0) = true := by simpa using p3
              have HK : RowKit.Hid (bk = true) := by rw [hbk, dp, dp2, dp3]; rfl
              clear hbk
              go_wp2_with fail
              go_ret
              obtain rfl : g = 2 := by rw [← HG.out]; exact goodE_2 h6 (HAO.out HK.out)
              exact ⟨rfl, HB2.out⟩
            · have dp3 : decide (z < 0) = false := by simpa using p3
              by_cases p4 : 12 < z
              · have dp4 : decide (12 < z) = true := by simpa using p4
                have HK : RowKit.Hid (bk = true) := by rw [hbk, dp, dp2, dp3, dp4]; rfl
                clear hbk
                go_wp2_with fail
                go_ret
                obtain rfl : g = 2 := by rw [← HG.out]; exact goodE_2 h6 (HAO.out HK.out)
                exact ⟨rfl, HB2.out⟩
              · have dp4 : decide (12 < z) = false := by simpa using p4
                have HK : RowKit.Hid (bk = false) := by rw [hbk, dp, dp2, dp3, dp4]; rfl
                clear hbk
                go_wp2_with fail
                go_roundw
                case rel => exact ⟨k + 1, by omega, by go_num, by rw [HAT.out]; exact HK.out, HB2.out⟩
                case measure => simp [intOf]; omega
      · obtain rfl : k = l.length := by omega
        have HA2 : RowKit.Hid (l.any badK = false) := by
          have := HA.out; rw [List.take_length] at this
          exact this
        clear HA hs
        have hsz := HB.out.size
        go_wp2_with fail
        obtain ⟨wo, rfl⟩ : ∃ wo : World, wo = wr := ⟨_, rfl⟩
        go_loopw [6] (fun i wr => ∃ k : Nat, 1 ≤ k ∧ (k ≤ l.length ∨ k = 1) ∧ i = .int .i64 k ∧ RowKit.Hid (risesK l (k - 1) = true) ∧ RowKit.Hid (Below w.heap.size w wr)) (fun i _ => l.length - (intOf i).toNat)
        case atStart => exact ⟨1, by omega, .inr rfl, rfl, rfl, HB.out⟩
        case round =>
          clear HB hsz hk
          obtain ⟨k, hk1, hk, rfl, HR1, HB⟩ := hrel
          by_cases hlt : k < l.length
          · have k1 := keyAt_some (l := l) (i := k - 1) (by omega)
            have k2 := keyAt_some (l := l) (i := k) hlt
            have hrs := risesK_succ l (k - 1)
            rw [show k - 1 + 1 = k from by omega] at hrs
            revert hrs k1 k2
            generalize hx : keyAt l (k - 1) = x
            generalize hy : keyAt l k = y
            obtain ⟨lx, tx⟩ := x
            obtain ⟨ly, ty⟩ := y
            intro k1 k2 hrs
            rw [HR1.out, Bool.true_and] at hrs
            obtain ⟨b, off, rfl, hbl, hc⟩ := (HR.out.below HB.out rfl).2.2.2.2 (k - 1) (lx, tx) k1
            obtain ⟨b', off', he, hbl', hc'⟩ := (HR.out.below HB.out rfl).2.2.2.2 k (ly, ty) k2
            simp only [Option.some.injEq, Addr.mk.injEq, and_true] at he
            obtain ⟨rfl, rfl⟩ := he
            have c0 : wr.cell? ⟨b, off + (k - 1) * 2, none⟩ = some (.int .i64 lx) := hc 0 (by decide)
            have c1 : wr.cell? ⟨b, off + (k - 1) * 2 + 1, none⟩ = some (.string tx) := hc 1 (by decide)
            have c2 : wr.cell? ⟨b, off + k * 2, none⟩ = some (.int .i64 ly) := hc' 0 (by decide)
            have c3 : wr.cell? ⟨b, off + k * 2 + 1, none⟩ = some (.string ty) := hc' 1 (by decide)
            clear hc hc' hbl' k1 k2 hx hy
            have HRS := Lib.hid hrs
            clear hrs
            have HL := Lib.hid (fun W => kless_any lx tx ly ty W)
            go_wp2_with fail
            have w1 : IntKind.i64.wrap ((k : Int) - 1) = (k : Int) - 1 := IntWalk.i64_in _ (by omega)
            have w2 : ((k : Int) - 1).toNat = k - 1 := by omega
            have w3 : (0 : Int) ≤ (k : Int) - 1 := by omega
            have w4 : (k : Int) - 1 < l.length := by omega
            have w5 : (1 : Int) ≤ (k : Int) := by omega
            go_still_tail 9, (by kernel_rfl)
            clear w1 w2 w3 w4 w5
            go_wp2_with fail
            refine (HL.out _).mono ?_
            rintro e w' ⟨rfl, hb⟩
            have HB2 := Lib.hid (show Below w.heap.size w w' from (below_drewN HB.out 1).trans (hb.mono (below_drewN HB.out 1).size))
            clear hb
            cases hd : decide (cmpK lx tx ly ty < 0) with
            | true =>
              have hkl : kless (lx, tx) (ly, ty) = true := hd
              have HR2 : RowKit.Hid (risesK l k = true) := by have := HRS.out; rw [hkl] at this; exact this
              clear HRS hkl
              go_wp2_with fail
              go_roundw
              case rel => exact ⟨k + 1, by omega, by omega, by go_num, HR2.out, HB2.out⟩
              case measure => simp [intOf]; omega
            | false =>
              have hkl : kless (lx, tx) (ly, ty) = false := hd
              have HR2 : RowKit.Hid (risesK l k = false) := by have := HRS.out; rw [hkl] at this; exact this
              clear HRS hkl
              obtain rfl : g = 7 := by rw [← HG.out]; exact goodE_7 h6 HA2.out k (by omega) HR2.out
              go_wp2_with fail
              go_ret
              exact ⟨rfl, HB2.out⟩
          · have HR2 : RowKit.Hid (risesK l (l.length - 1) = true) := by
              rcases hk with hk | rfl
              · obtain rfl : k = l.length := by omega
                exact HR1.out
              · have : l.length - 1 = 0 := by omega
                rw [this]; rfl
            obtain rfl : g = 0 := by rw [← HG.out]; exact goodE_0 h6 HA2.out HR2.out
            go_wp2_with fail
            go_ret
            exact ⟨rfl, HB.out⟩

end Go.Proofs.Ytjdanngkmkgidaa
