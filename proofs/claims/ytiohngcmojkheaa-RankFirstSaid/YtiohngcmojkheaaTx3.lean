/- The walk of list.Merge. -/
import Derived.Test.YtiohngcmojkheaaWo
namespace Go.Proofs.Ytiohngcmojkheaa
open Go.RowKit Go.Deep
set_option linter.unusedVariables false

def mergeL : List ByteArray → List ByteArray → List ByteArray
  | [], b => b
  | a, [] => a
  | x :: a, y :: b => if tless x y = true then x :: mergeL a (y :: b) else if x = y then mergeL a (y :: b) else y :: mergeL (x :: a) b
termination_by a b => a.length + b.length
theorem mergeL_nil (b : List ByteArray) : mergeL [] b = b := by unfold mergeL; rfl
theorem mergeL_nil2 (a : List ByteArray) : mergeL a [] = a := by cases a <;> (unfold mergeL; rfl)
theorem mergeL_lt {x y : ByteArray} {a b : List ByteArray} (h : tless x y = true) : mergeL (x :: a) (y :: b) = x :: mergeL a (y :: b) := by rw [mergeL, if_pos h]
theorem mergeL_eq {x y : ByteArray} {a b : List ByteArray} (h : tless x y = false) (e : x = y) : mergeL (x :: a) (y :: b) = mergeL a (y :: b) := by rw [mergeL, if_neg (by simp [h]), if_pos e]
theorem mergeL_gt {x y : ByteArray} {a b : List ByteArray} (h : tless x y = false) (e : x ≠ y) : mergeL (x :: a) (y :: b) = y :: mergeL (x :: a) b := by rw [mergeL, if_neg (by simp [h]), if_neg e]
theorem RdT.tail {w : World} {a : Option Addr} {n c : Nat} {x : ByteArray} {l : List ByteArray} (h : RdT w a n c (x :: l)) : ∃ b off, a = some ⟨b, off, none⟩ ∧ b < w.heap.size ∧ 1 ≤ n ∧ 1 ≤ c ∧ w.cell? ⟨b, off, none⟩ = some (.string x) ∧ ∃ an, (if c = 1 then some (⟨b, off, none⟩ : Addr) else some ⟨b, off + 1, none⟩) = an ∧ RdT w an (n - 1) (c - 1) l := by
  obtain ⟨b, off, e, hl, hc⟩ := h.at (k := 0) (x := x) rfl
  have hn := h.len
  have hcap := h.2.1
  simp only [List.length_cons] at hn
  refine ⟨b, off, e, hl, by omega, by omega, by simpa using hc, _, rfl, ?_⟩
  obtain ⟨h1, h2, h3, h4, h5⟩ := h
  refine ⟨by simp at h1 ⊢; omega, by omega, by omega, (by intro he; split at he <;> cases he), fun i hi => ?_⟩
  obtain ⟨b', off', e', hl', hc'⟩ := h5 (i + 1) (by omega)
  rw [e] at e'
  simp only [Option.some.injEq, Addr.mk.injEq, and_true] at e'
  obtain ⟨rfl, rfl⟩ := e'
  rw [if_neg (by omega)]
  refine ⟨b, off + 1, rfl, hl, ?_⟩
  rw [show off + 1 + i = off + (i + 1) from by omega, hc']
  simp
def sliceLen : Value → Nat
  | .slice _ n _ => n
  | _ => 0
def MRel (w : World) (t : List ByteArray) (v0 v1 v5 : Value) (wr : World) : Prop := ∃ (xs ys r : List ByteArray) (a1 a2 ao : Option Addr) (n1 c1 n2 c2 q c : Nat), v0 = .slice a1 n1 c1 ∧ v1 = .slice a2 n2 c2 ∧ v5 = .slice ao q c ∧ RowKit.Hid (RdT w a1 n1 c1 xs) ∧ RowKit.Hid (RdT w a2 n2 c2 ys) ∧ RowKit.Hid (r.length = q) ∧ q + n1 + n2 ≤ 1000 ∧ RowKit.Hid (r ++ mergeL xs ys = t) ∧ RowKit.Hid (wr.ownsRow w.heap.size 9 1 (.slice ao q c) q (r.map Value.string)) ∧ RowKit.Hid (Below w.heap.size w wr)
set_option maxRecDepth 100000 in
set_option maxHeartbeats 4000000 in
theorem merge_any (a : Option Addr) (n cap : Nat) (la : List ByteArray) (b : Option Addr) (m bc : Nat) (lb : List ByteArray) (w : World) (ha : RdT w a n cap la) (hb : RdT w b m bc lb) (hm : la.length + lb.length ≤ 1000) :
    Calls Try.prog 46 #[.slice a n cap, .slice b m bc] w (GotT w (mergeL la lb)) := by
  have hn := ha.len
  have hn2 := hb.len
  obtain ⟨i0, hi, hz0, hz1, hz2⟩ := info_parts infoS
  have HI := Lib.hid hi
  have HZ0 := Lib.hid hz0
  have HZ1 := Lib.hid hz1
  have HZ2 := Lib.hid hz2
  have HA := Lib.hid ha
  have HB := Lib.hid hb
  have hnm : 0 + n + m ≤ 1000 := by omega
  clear hi hz0 hz1 hz2 hn hn2 ha hb hm
  go_enter Try.func46, Try.ntmps46
  go_wp2_with fail
  go_loopw [0, 1, 5] (fun v0 v1 v5 wr => MRel w (mergeL la lb) v0 v1 v5 wr) (fun v0 v1 _ _ => sliceLen v0 + sliceLen v1)
  case atStart => exact ⟨la, lb, [], a, b, none, n, cap, m, bc, 0, 0, rfl, rfl, rfl, HA.out, HB.out, rfl, hnm, rfl, World.ownsRow_nil _ _ _ _, Below.refl _ w⟩
  case round =>
    clear HA HB hnm
    obtain ⟨xs, ys, r, a1, a2, ao, n1, c1, n2, c2, q, c, rfl, rfl, rfl, HA, HB, HQ, hnm, HM, HO, HW⟩ := hrel
    have hn1 := HA.out.len
    have hn2 := HB.out.len
    have hsz := HW.out.size
    cases ys with
    | nil =>
      simp only [List.length_nil] at hn2
      subst hn2
      cases xs with
      | nil =>
        simp only [List.length_nil] at hn1
        subst hn1
        have hq := HQ.out
        subst hq
        have hm := HM.out
        rw [mergeL_nil, List.append_nil] at hm
        subst hm
        clear HM HQ
        go_wp2_with fail
        go_ret
        exact ⟨ao, c, rfl, HO.out, HW.out⟩
      | cons x xs =>
        obtain ⟨g, off, rfl, hlt, h1, h2, hc, an, han, ht⟩ := HA.out.tail
        have HT := Lib.hid ht
        have hc0 := (HW.out.cell (p := ⟨g, off, none⟩) hlt).trans hc
        clear hc hn1 ht
        have HMM : RowKit.Hid ((r ++ [x]) ++ mergeL xs [] = mergeL la lb) := by have := HM.out; rw [mergeL_nil2] at this; unfold RowKit.Hid; rw [mergeL_nil2, ← this]; simp
        clear HM
        have hp : decide (0 < n1) = true := by simp; omega
        have hp0 : 0 < n1 := by omega
        have hp1 : (1 : Int) ≤ (n1 : Int) := by omega
        go_wp2_with fail
        go_quiet (fail)
        go_wp2_with fail
        have hW2 := below_drewN HW.out nq
        have HW2 := Lib.hid hW2
        have hO2 := ownsRow_below HO.out (below_drewN (Below.refl wr.heap.size wr) nq)
        have HO2 := Lib.hid hO2
        have qhc0 : (wr.drewN nq).cell? ⟨g, off, none⟩ = some (.string x) := hc0
        clear hc0
        clear hW2 hO2 HW HO hsz
        generalize wr.drewN nq = W0 at *
        have hc0 := qhc0
        clear qhc0
        have HO3 : RowKit.Hid ((W0.drew.alloc (.cells #[.string x] 9)).ownsRow w.heap.size 9 1 (.slice ao q c) q (r.map Value.string)) := HO2.out.alloc _
        have HSA : RowKit.Hid (Src Try.prog 1 22 (.slice (some ⟨W0.heap.size, 0, none⟩) 1 1) 1 [.string x] (W0.drew.alloc (.cells #[.string x] 9))) := Src.one' Try.underlying22 W0.drew _ 9 rfl
        have HW3 : RowKit.Hid (Below w.heap.size w (W0.drew.alloc (.cells #[.string x] 9))) := (below_drewN HW2.out 1).alloc HW2.out.size _
        have A1 : q + 1 ≤ maxLen := by unfold maxLen; omega
        have A2 : (q + 1) * 16 ≤ 140737488355328 := by omega
        have A3 := HW3.out.size
        have hcA : W0.drew.cell? ⟨g, off, none⟩ = some (.string x) := hc0
        go_region_law (first | (refine step_app rfl (.tmp 41) (.tmp 45) 22 22 rfl w.heap.size 9 i0 (.string ⟨#[]⟩) 1 16 Try.underlying22 HI.out HZ0.out HZ1.out HZ2.out rfl (by decide) ao q c (r.map Value.string) (by kernel_rfl) HO3.out (.slice (some ⟨W0.heap.size, 0, none⟩) 1 1) 1 [.string x] (by kernel_rfl) HSA.out A1 A2 A3 ?_; intro ao2 cc2 w2 hown2 hg2))
        have HO4 := Lib.hid hown2
        have HW4 := Lib.hid (HW3.out.grown hg2 A3 (fun k hk => (HO2.out.lt k hk).1))
        clear hown2 hg2 A1 A2 A3 hcA HO3 HSA HW3
        go_simp
        go_roundw
        case rel =>
          (repeat apply Exists.intro)
          exact ⟨⟨xs, [], r ++ [x], an, a2, ao2, n1 - 1, c1 - 1, 0, c2, q + 1, cc2, rfl, rfl, rfl, HT.out, HB.out, (by unfold RowKit.Hid; rw [List.length_append, HQ.out]; rfl), by omega, HMM.out, (by unfold RowKit.Hid; rw [List.map_append]; exact HO4.out), HW4.out⟩, rfl⟩
        case measure => simp [sliceLen]; omega
    | cons y ys =>
      obtain ⟨g', off', rfl, hlt', h1', h2', hc', an', han', ht'⟩ := HB.out.tail
      have HT2 := Lib.hid ht'
      have hcb := (HW.out.cell (p := ⟨g', off', none⟩) hlt').trans hc'
      clear hc' hn2 ht'
      have hp2 : decide (0 < n2) = true := by simp; omega
      have hp20 : 0 < n2 := by omega
      have hp21 : (1 : Int) ≤ (n2 : Int) := by omega
      have hp3 : ((n2 : Int) == 0) = false := by rw [beq_eq_false_iff_ne]; omega
      cases xs with
      | nil =>
        simp only [List.length_nil] at hn1
        subst hn1
        have HMM : RowKit.Hid ((r ++ [y]) ++ mergeL [] ys = mergeL la lb) := by have := HM.out; rw [mergeL_nil] at this; unfold RowKit.Hid; rw [mergeL_nil, ← this]; simp
        clear HM
        go_wp2_with fail
        go_quiet (fail)
        go_wp2_with fail
        have hW2 := below_drewN HW.out nq
        have HW2 := Lib.hid hW2
        have hO2 := ownsRow_below HO.out (below_drewN (Below.refl wr.heap.size wr) nq)
        have HO2 := Lib.hid hO2
        have qhcb : (wr.drewN nq).cell? ⟨g', off', none⟩ = some (.string y) := hcb
        clear hcb
        clear hW2 hO2 HW HO hsz
        generalize wr.drewN nq = W0 at *
        have hcb := qhcb
        clear qhcb
        go_quiet (fail)
        go_wp2_with fail
        have hW2 := below_drewN HW2.out nq
        have HW5 := Lib.hid hW2
        have hO2 := ownsRow_below HO2.out (below_drewN (Below.refl W0.heap.size W0) nq)
        have HO5 := Lib.hid hO2
        have qhcb : (W0.drewN nq).cell? ⟨g', off', none⟩ = some (.string y) := hcb
        clear hcb
        clear hW2 hO2 HW2 HO2
        generalize W0.drewN nq = W1 at *
        have hcb := qhcb
        clear qhcb
        have HO3 : RowKit.Hid ((W1.drew.alloc (.cells #[.string y] 9)).ownsRow w.heap.size 9 1 (.slice ao q c) q (r.map Value.string)) := HO5.out.alloc _
        have HSA : RowKit.Hid (Src Try.prog 1 22 (.slice (some ⟨W1.heap.size, 0, none⟩) 1 1) 1 [.string y] (W1.drew.alloc (.cells #[.string y] 9))) := Src.one' Try.underlying22 W1.drew _ 9 rfl
        have HW3 : RowKit.Hid (Below w.heap.size w (W1.drew.alloc (.cells #[.string y] 9))) := (below_drewN HW5.out 1).alloc HW5.out.size _
        have A1 : q + 1 ≤ maxLen := by unfold maxLen; omega
        have A2 : (q + 1) * 16 ≤ 140737488355328 := by omega
        have A3 := HW3.out.size
        have hcA : W1.drew.cell? ⟨g', off', none⟩ = some (.string y) := hcb
        go_region_law (first | (refine step_app rfl (.tmp 14) (.tmp 18) 22 22 rfl w.heap.size 9 i0 (.string ⟨#[]⟩) 1 16 Try.underlying22 HI.out HZ0.out HZ1.out HZ2.out rfl (by decide) ao q c (r.map Value.string) (by kernel_rfl) HO3.out (.slice (some ⟨W1.heap.size, 0, none⟩) 1 1) 1 [.string y] (by kernel_rfl) HSA.out A1 A2 A3 ?_; intro ao2 cc2 w2 hown2 hg2))
        have HO4 := Lib.hid hown2
        have HW4 := Lib.hid (HW3.out.grown hg2 A3 (fun k hk => (HO5.out.lt k hk).1))
        clear hown2 hg2 A1 A2 A3 hcA HO3 HSA HW3
        go_simp
        go_roundw
        case rel =>
          (repeat apply Exists.intro)
          exact ⟨⟨[], ys, r ++ [y], a1, an', ao2, 0, c1, n2 - 1, c2 - 1, q + 1, cc2, rfl, rfl, rfl, HA.out, HT2.out, (by unfold RowKit.Hid; rw [List.length_append, HQ.out]; rfl), by omega, HMM.out, (by unfold RowKit.Hid; rw [List.map_append]; exact HO4.out), HW4.out⟩, rfl⟩
        case measure => simp [sliceLen]; omega
      | cons x xs =>
        obtain ⟨g, off, rfl, hlt, h1, h2, hc, an, han, ht⟩ := HA.out.tail
        have HT := Lib.hid ht
        have hc0 := (HW.out.cell (p := ⟨g, off, none⟩) hlt).trans hc
        clear hc hn1 ht
        have hp : decide (0 < n1) = true := by simp; omega
        have hp0 : 0 < n1 := by omega
        have hp1 : (1 : Int) ≤ (n1 : Int) := by omega
        have HL : RowKit.Hid (∀ W, Calls Try.prog 62 #[.string x, .string y] W fun e w' => e = .returned (.int .i64 (cmpT x y)) ∧ w' = W) := fun W => (tcmp_any x y W).mono fun e w' h => ⟨h.1, h.2.symm⟩
        have HTL := Lib.hid (show tless x y = decide (cmpT x y < 0) from rfl)
        generalize cmpT x y = z at HL HTL
        by_cases hz : z < 0
        ·
          have d1 : decide (z < 0) = true := by simpa using hz
          have HMM : RowKit.Hid ((r ++ [x]) ++ mergeL xs (y :: ys) = mergeL la lb) := by have := HM.out; rw [mergeL_lt (by rw [HTL.out]; exact d1)] at this; unfold RowKit.Hid; rw [← this]; simp
          clear HM HTL
          go_wp2_with fail
          go_quiet ((go_at_call 62; exact Calls.quiet_of_same (HL.out _)))
          go_wp2_with fail
          have hW2 := below_drewN HW.out nq
          have HW2 := Lib.hid hW2
          have hO2 := ownsRow_below HO.out (below_drewN (Below.refl wr.heap.size wr) nq)
          have HO2 := Lib.hid hO2
          have qhc0 : (wr.drewN nq).cell? ⟨g, off, none⟩ = some (.string x) := hc0
          clear hc0
          have qhcb : (wr.drewN nq).cell? ⟨g', off', none⟩ = some (.string y) := hcb
          clear hcb
          clear hW2 hO2 HW HO hsz
          generalize wr.drewN nq = W0 at *
          have hc0 := qhc0
          clear qhc0
          have hcb := qhcb
          clear qhcb
          have HO3 : RowKit.Hid ((W0.drew.alloc (.cells #[.string x] 9)).ownsRow w.heap.size 9 1 (.slice ao q c) q (r.map Value.string)) := HO2.out.alloc _
          have HSA : RowKit.Hid (Src Try.prog 1 22 (.slice (some ⟨W0.heap.size, 0, none⟩) 1 1) 1 [.string x] (W0.drew.alloc (.cells #[.string x] 9))) := Src.one' Try.underlying22 W0.drew _ 9 rfl
          have HW3 : RowKit.Hid (Below w.heap.size w (W0.drew.alloc (.cells #[.string x] 9))) := (below_drewN HW2.out 1).alloc HW2.out.size _
          have A1 : q + 1 ≤ maxLen := by unfold maxLen; omega
          have A2 : (q + 1) * 16 ≤ 140737488355328 := by omega
          have A3 := HW3.out.size
          have hcA : W0.drew.cell? ⟨g, off, none⟩ = some (.string x) := hc0
          go_region_law (first | (refine step_app rfl (.tmp 41) (.tmp 45) 22 22 rfl w.heap.size 9 i0 (.string ⟨#[]⟩) 1 16 Try.underlying22 HI.out HZ0.out HZ1.out HZ2.out rfl (by decide) ao q c (r.map Value.string) (by kernel_rfl) HO3.out (.slice (some ⟨W0.heap.size, 0, none⟩) 1 1) 1 [.string x] (by kernel_rfl) HSA.out A1 A2 A3 ?_; intro ao2 cc2 w2 hown2 hg2))
          have HO4 := Lib.hid hown2
          have HW4 := Lib.hid (HW3.out.grown hg2 A3 (fun k hk => (HO2.out.lt k hk).1))
          clear hown2 hg2 A1 A2 A3 hcA HO3 HSA HW3
          go_simp
          go_roundw
          case rel =>
            (repeat apply Exists.intro)
            exact ⟨⟨xs, (y :: ys), r ++ [x], an, (some ⟨g', off', none⟩), ao2, n1 - 1, c1 - 1, n2, c2, q + 1, cc2, rfl, rfl, rfl, HT.out, HB.out, (by unfold RowKit.Hid; rw [List.length_append, HQ.out]; rfl), by omega, HMM.out, (by unfold RowKit.Hid; rw [List.map_append]; exact HO4.out), HW4.out⟩, rfl⟩
          case measure => simp [sliceLen]; omega
        ·
          have d1 : decide (z < 0) = false := by simpa using hz
          have HNL : RowKit.Hid (tless x y = false) := HTL.out.trans d1
          clear HTL
          by_cases hxy : x = y
          ·
            subst hxy
            have HMM : RowKit.Hid (r ++ mergeL xs (x :: ys) = mergeL la lb) := by have := HM.out; rw [mergeL_eq HNL.out rfl] at this; exact this
            clear HM HNL
            have dx : (x.toList == x.toList) = true := by simp
            go_wp2_with fail
            go_quiet ((go_at_call 62; exact Calls.quiet_of_same (HL.out _)))
            go_wp2_with fail
            have hW2 := below_drewN HW.out nq
            have HW2 := Lib.hid hW2
            have hO2 := ownsRow_below HO.out (below_drewN (Below.refl wr.heap.size wr) nq)
            have HO2 := Lib.hid hO2
            have qhc0 : (wr.drewN nq).cell? ⟨g, off, none⟩ = some (.string x) := hc0
            clear hc0
            have qhcb : (wr.drewN nq).cell? ⟨g', off', none⟩ = some (.string x) := hcb
            clear hcb
            clear hW2 hO2 HW HO hsz
            generalize wr.drewN nq = W0 at *
            have hc0 := qhc0
            clear qhc0
            have hcb := qhcb
            clear qhcb
            go_quiet (fail)
            go_wp2_with fail
            have hW2 := below_drewN HW2.out nq
            have HW5 := Lib.hid hW2
            have hO2 := ownsRow_below HO2.out (below_drewN (Below.refl W0.heap.size W0) nq)
            have HO5 := Lib.hid hO2
            have qhc0 : (W0.drewN nq).cell? ⟨g, off, none⟩ = some (.string x) := hc0
            clear hc0
            have qhcb : (W0.drewN nq).cell? ⟨g', off', none⟩ = some (.string x) := hcb
            clear hcb
            clear hW2 hO2 HW2 HO2
            generalize W0.drewN nq = W1 at *
            have hc0 := qhc0
            clear qhc0
            have hcb := qhcb
            clear qhcb
            go_simp
            go_roundw
            case rel =>
              exact ⟨xs, x :: ys, r, an, (some ⟨g', off', none⟩), ao, n1 - 1, c1 - 1, n2, c2, q, c, rfl, rfl, rfl, HT.out, HB.out, HQ.out, by omega, HMM.out, HO5.out, HW5.out⟩
            case measure => simp [sliceLen]; omega
          ·
            have HMM : RowKit.Hid ((r ++ [y]) ++ mergeL (x :: xs) ys = mergeL la lb) := by have := HM.out; rw [mergeL_gt HNL.out hxy] at this; unfold RowKit.Hid; rw [← this]; simp
            clear HM HNL
            have dx : (x.toList == y.toList) = false := by rw [beq_eq_false_iff_ne]; intro e; apply hxy; rw [ByteArray.toList_eq, ByteArray.toList_eq] at e; exact ByteArray.ext (Array.toList_inj.1 e)
            clear hxy
            go_wp2_with fail
            go_quiet ((go_at_call 62; exact Calls.quiet_of_same (HL.out _)))
            go_wp2_with fail
            have hW2 := below_drewN HW.out nq
            have HW2 := Lib.hid hW2
            have hO2 := ownsRow_below HO.out (below_drewN (Below.refl wr.heap.size wr) nq)
            have HO2 := Lib.hid hO2
            have qhc0 : (wr.drewN nq).cell? ⟨g, off, none⟩ = some (.string x) := hc0
            clear hc0
            have qhcb : (wr.drewN nq).cell? ⟨g', off', none⟩ = some (.string y) := hcb
            clear hcb
            clear hW2 hO2 HW HO hsz
            generalize wr.drewN nq = W0 at *
            have hc0 := qhc0
            clear qhc0
            have hcb := qhcb
            clear qhcb
            go_quiet (fail)
            go_wp2_with fail
            have hW2 := below_drewN HW2.out nq
            have HW5 := Lib.hid hW2
            have hO2 := ownsRow_below HO2.out (below_drewN (Below.refl W0.heap.size W0) nq)
            have HO5 := Lib.hid hO2
            have qhc0 : (W0.drewN nq).cell? ⟨g, off, none⟩ = some (.string x) := hc0
            clear hc0
            have qhcb : (W0.drewN nq).cell? ⟨g', off', none⟩ = some (.string y) := hcb
            clear hcb
            clear hW2 hO2 HW2 HO2
            generalize W0.drewN nq = W1 at *
            have hc0 := qhc0
            clear qhc0
            have hcb := qhcb
            clear qhcb
            have HO3 : RowKit.Hid ((W1.drew.alloc (.cells #[.string y] 9)).ownsRow w.heap.size 9 1 (.slice ao q c) q (r.map Value.string)) := HO5.out.alloc _
            have HSA : RowKit.Hid (Src Try.prog 1 22 (.slice (some ⟨W1.heap.size, 0, none⟩) 1 1) 1 [.string y] (W1.drew.alloc (.cells #[.string y] 9))) := Src.one' Try.underlying22 W1.drew _ 9 rfl
            have HW3 : RowKit.Hid (Below w.heap.size w (W1.drew.alloc (.cells #[.string y] 9))) := (below_drewN HW5.out 1).alloc HW5.out.size _
            have A1 : q + 1 ≤ maxLen := by unfold maxLen; omega
            have A2 : (q + 1) * 16 ≤ 140737488355328 := by omega
            have A3 := HW3.out.size
            have hcA : W1.drew.cell? ⟨g', off', none⟩ = some (.string y) := hcb
            go_region_law (first | (refine step_app rfl (.tmp 14) (.tmp 18) 22 22 rfl w.heap.size 9 i0 (.string ⟨#[]⟩) 1 16 Try.underlying22 HI.out HZ0.out HZ1.out HZ2.out rfl (by decide) ao q c (r.map Value.string) (by kernel_rfl) HO3.out (.slice (some ⟨W1.heap.size, 0, none⟩) 1 1) 1 [.string y] (by kernel_rfl) HSA.out A1 A2 A3 ?_; intro ao2 cc2 w2 hown2 hg2))
            have HO4 := Lib.hid hown2
            have HW4 := Lib.hid (HW3.out.grown hg2 A3 (fun k hk => (HO5.out.lt k hk).1))
            clear hown2 hg2 A1 A2 A3 hcA HO3 HSA HW3
            go_simp
            go_roundw
            case rel =>
              (repeat apply Exists.intro)
              exact ⟨⟨(x :: xs), ys, r ++ [y], (some ⟨g, off, none⟩), an', ao2, n1, c1, n2 - 1, c2 - 1, q + 1, cc2, rfl, rfl, rfl, HA.out, HT2.out, (by unfold RowKit.Hid; rw [List.length_append, HQ.out]; rfl), by omega, HMM.out, (by unfold RowKit.Hid; rw [List.map_append]; exact HO4.out), HW4.out⟩, rfl⟩
            case measure => simp [sliceLen]; omega
end Go.Proofs.Ytiohngcmojkheaa
