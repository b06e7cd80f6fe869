/- check.begins, and the document's. -/
import Derived.Test.YtiohngcmojkheaaRk4
namespace Go.Proofs.Ytiohngcmojkheaa
open Go.RowKit
set_option linter.unusedVariables false

/-- does a list begin so? -/
def begI (l r : List KeyL) : Bool := decide (r.take l.length = l)
theorem begI_long {l r : List KeyL} (h : r.length < l.length) : begI l r = false := by
  unfold begI
  rw [decide_eq_false_iff_not]
  intro e
  have := congrArg List.length e
  rw [List.length_take] at this
  omega
theorem begI_no {l r : List KeyL} {i : Nat} {x y : KeyL} (hx : l[i]? = some x) (hy : r[i]? = some y) (h : x ≠ y) : begI l r = false := by
  unfold begI
  rw [decide_eq_false_iff_not]
  intro e
  rw [← e, List.getElem?_take, hy] at hx
  split at hx
  · exact h (Option.some.inj hx).symm
  · cases hx
theorem neqI_run (x y : KeyL) (W : World) : (binOp .neq 39 (.agg #[.int .i64 x.1, .string x.2]) (.agg #[.int .i64 y.1, .string y.2])).run Try.prog W = .ok (.bool (!decide (x = y))) W := by
  obtain ⟨lx, tx⟩ := x
  obtain ⟨ly, ty⟩ := y
  by_cases heq : lx = ly ∧ tx = ty
  · obtain ⟨rfl, rfl⟩ := heq
    have ht : (tx.toList == tx.toList) = true := by simp
    have hl : (lx == lx) = true := by simp
    have hd : decide ((lx, tx) = (lx, tx)) = true := decide_eq_true rfl
    rw [hd]
    go_simp
  · have hd : decide ((lx, tx) = (ly, ty)) = false := decide_eq_false (fun e => heq (Prod.mk.inj e))
    rw [hd]
    by_cases hl : lx = ly
    · have ht := str_ne (fun e => heq ⟨hl, e⟩)
      subst hl
      have hl : (lx == lx) = true := by simp
      clear heq
      go_simp
    · have hl' : (lx == ly) = false := by simpa using hl
      clear heq
      go_simp
theorem begI_next {l r : List KeyL} {i : Nat} {x : KeyL} (hx : l[i]? = some x) (hy : r[i]? = some x) (h : l.take i = r.take i) : l.take (i + 1) = r.take (i + 1) := by
  rw [List.take_add_one, List.take_add_one, h, hx, hy]
theorem begI_yes {l r : List KeyL} (h : l.take l.length = r.take l.length) : begI l r = true := by
  unfold begI
  rw [decide_eq_true_eq, ← h, List.take_length]
def BgR (w : World) (l r : List KeyL) (v : Value) (wr : World) : Prop := ∃ i : Nat, i ≤ l.length ∧ v = .int .i64 i ∧ RowKit.Hid (l.take i = r.take i) ∧ RowKit.Hid (Below w.heap.size w wr)
set_option maxRecDepth 100000 in
set_option maxHeartbeats 4000000 in
theorem begins_any (a : Option Addr) (n c : Nat) (l : List KeyL) (b : Option Addr) (m d : Nat) (r : List KeyL) (w : World) (hr : RdE KeyL.cells 2 w a n c l) (hr2 : RdE KeyL.cells 2 w b m d r) :
    Calls Try.prog 59 #[.slice a n c, .slice b m d] w fun e w' => e = .returned (.bool (begI l r)) ∧ Below w.heap.size w w' := by
  have hn := hr.1
  have hn2 := hr2.1
  subst hn hn2
  have hm := Nat.le_trans hr.2.1 hr.2.2.1
  have hm2 := Nat.le_trans hr2.2.1 hr2.2.2.1
  unfold maxLen at hm hm2
  have HR := Lib.hid hr
  have HR2 := Lib.hid hr2
  obtain ⟨R, hR⟩ : ∃ R, begI l r = R := ⟨_, rfl⟩
  rw [hR]
  have HD := Lib.hid hR
  clear hr hr2 hR
  by_cases hl : r.length < l.length
  · obtain rfl : R = false := by rw [← HD.out]; exact begI_long hl
    go_enter Try.func59, Try.ntmps59
    go_wp2_with fail
    go_ret
    exact ⟨rfl, Below.refl _ _⟩
  · go_enter Try.func59, Try.ntmps59
    go_wp2_with fail
    go_loopw [14] (fun v wr => BgR w l r v wr) (fun v _ => l.length - (intOf v).toNat)
    case atStart => exact ⟨0, by omega, rfl, by simp [RowKit.Hid], Below.refl _ _⟩
    case round =>
      obtain ⟨i, hi, rfl, HT, HB⟩ := hrel
      by_cases hlt : i < l.length
      · have hlt2 : i < r.length := by omega
        obtain ⟨x, hx⟩ : ∃ x, l[i]? = some x := ⟨_, List.getElem?_eq_getElem hlt⟩
        obtain ⟨y, hy⟩ : ∃ y, r[i]? = some y := ⟨_, List.getElem?_eq_getElem hlt2⟩
        have HX := Lib.hid hx
        have HY := Lib.hid hy
        obtain ⟨ba, oa, rfl, hba, hc1⟩ := (HR.out.below HB.out rfl).2.2.2.2 i x hx
        have x0 : wr.cell? ⟨ba, oa + i * 2, none⟩ = some (.int .i64 x.1) := hc1 0 (by decide)
        have x1 : wr.cell? ⟨ba, oa + i * 2 + 1, none⟩ = some (.string x.2) := hc1 1 (by decide)
        have HBA := Lib.hid (HB.out.alloc HB.out.size (.cells #[.int .i64 x.1, .string x.2] 39))
        have hk : Blk (wr.alloc (.cells #[.int .i64 x.1, .string x.2] 39)) wr.heap.size 39 [.int .i64 x.1, .string x.2] := heap_alloc_new wr _
        have k0 : (wr.alloc (.cells #[.int .i64 x.1, .string x.2] 39)).cell? ⟨wr.heap.size, 0, none⟩ = some (.int .i64 x.1) := hk.cell 0
        have k1 : (wr.alloc (.cells #[.int .i64 x.1, .string x.2] 39)).cell? ⟨wr.heap.size, 1, none⟩ = some (.string x.2) := hk.cell 1
        obtain ⟨bb, ob, rfl, hbb, hc2⟩ := (HR2.out.below HBA.out rfl).2.2.2.2 i y hy
        have y0 : (wr.alloc (.cells #[.int .i64 x.1, .string x.2] 39)).cell? ⟨bb, ob + i * 2, none⟩ = some (.int .i64 y.1) := hc2 0 (by decide)
        have y1 : (wr.alloc (.cells #[.int .i64 x.1, .string x.2] 39)).cell? ⟨bb, ob + i * 2 + 1, none⟩ = some (.string y.2) := hc2 1 (by decide)
        have hcap := HR.out.2.1
        have hcap2 := HR2.out.2.1
        have b1 : (0 : Int) ≤ (i : Int) := by omega
        have b2 : (i : Int) < (l.length : Int) := by omega
        have b3 : (i : Int) < (r.length : Int) := by omega
        have hne := neqI_run x y
        clear hc1 hc2 hx hy hk
        cases hd : decide (x = y)
        · obtain rfl : R = false := by rw [← HD.out]; exact begI_no HX.out HY.out (of_decide_eq_false hd)
          rw [hd] at hne
          clear hd
          go_wp2_with fail
          go_quiet (fail)
          go_wp2_with fail
          go_ret
          exact ⟨rfl, below_drewN HBA.out _⟩
        · have HT2 := Lib.hid (begI_next HX.out (by rw [of_decide_eq_true hd]; exact HY.out) HT.out)
          rw [hd] at hne
          clear hd
          go_wp2_with fail
          go_quiet (fail)
          go_wp2_with fail
          go_roundw
          case rel => exact ⟨i + 1, by omega, by go_num, HT2.out, below_drewN HBA.out _⟩
          case measure => simp [intOf]; omega
      · obtain rfl : i = l.length := by omega
        obtain rfl : R = true := by rw [← HD.out]; exact begI_yes HT.out
        go_wp2_with fail
        go_ret
        exact ⟨rfl, HB.out⟩
set_option maxRecDepth 100000 in
set_option maxHeartbeats 4000000 in
theorem rbegins_any (a : Option Addr) (n c : Nat) (l : List KeyL) (b : Option Addr) (m d : Nat) (r : List KeyL) (w : World) (hr : RdE KeyL.cells 2 w a n c l) (hr2 : RdE KeyL.cells 2 w b m d r) :
    Calls Try.prog 60 #[.slice a n c, .slice b m d] w fun e w' => e = .returned (.bool (begI l r)) ∧ Below w.heap.size w w' := by
  have hn := hr.1
  have hn2 := hr2.1
  subst hn hn2
  have hm := Nat.le_trans hr.2.1 hr.2.2.1
  have hm2 := Nat.le_trans hr2.2.1 hr2.2.2.1
  unfold maxLen at hm hm2
  have HR := Lib.hid hr
  have HR2 := Lib.hid hr2
  obtain ⟨R, hR⟩ : ∃ R, begI l r = R := ⟨_, rfl⟩
  rw [hR]
  have HD := Lib.hid hR
  clear hr hr2 hR
  go_enter Try.func60, Try.ntmps60
  go_wp2_with fail
  go_loopw [5] (fun v wr => BgR w l r v wr) (fun v _ => l.length - (intOf v).toNat)
  case atStart => exact ⟨0, by omega, rfl, by simp [RowKit.Hid], Below.refl _ _⟩
  case round =>
    obtain ⟨i, hi, rfl, HT, HB⟩ := hrel
    by_cases hlt : i < l.length
    · obtain ⟨x, hx⟩ : ∃ x, l[i]? = some x := ⟨_, List.getElem?_eq_getElem hlt⟩
      have HX := Lib.hid hx
      have b1 : (0 : Int) ≤ (i : Int) := by omega
      have b2 : (i : Int) < (l.length : Int) := by omega
      by_cases hlt2 : i < r.length
      · obtain ⟨y, hy⟩ : ∃ y, r[i]? = some y := ⟨_, List.getElem?_eq_getElem hlt2⟩
        have HY := Lib.hid hy
        obtain ⟨ba, oa, rfl, hba, hc1⟩ := (HR.out.below HB.out rfl).2.2.2.2 i x hx
        have x0 : wr.cell? ⟨ba, oa + i * 2, none⟩ = some (.int .i64 x.1) := hc1 0 (by decide)
        have x1 : wr.cell? ⟨ba, oa + i * 2 + 1, none⟩ = some (.string x.2) := hc1 1 (by decide)
        obtain ⟨bb, ob, rfl, hbb, hc2⟩ := (HR2.out.below HB.out rfl).2.2.2.2 i y hy
        have y0 : wr.cell? ⟨bb, ob + i * 2, none⟩ = some (.int .i64 y.1) := hc2 0 (by decide)
        have y1 : wr.cell? ⟨bb, ob + i * 2 + 1, none⟩ = some (.string y.2) := hc2 1 (by decide)
        have hcap := HR.out.2.1
        have hcap2 := HR2.out.2.1
        have b3 : (i : Int) < (r.length : Int) := by omega
        have b4 : ¬ (r.length : Int) ≤ (i : Int) := by omega
        have b5 : ¬ r.length ≤ i := by omega
        have b6 : decide ((r.length : Int) ≤ (i : Int)) = false := by simp; omega
        have hne := neqI_run x y
        clear hc1 hc2 hx hy
        cases hd : decide (x = y)
        · obtain rfl : R = false := by rw [← HD.out]; exact begI_no HX.out HY.out (of_decide_eq_false hd)
          rw [hd] at hne
          clear hd
          go_wp2_with fail
          go_quiet (fail)
          go_wp2_with fail
          go_ret
          exact ⟨rfl, below_drewN HB.out _⟩
        · have HT2 := Lib.hid (begI_next HX.out (by rw [of_decide_eq_true hd]; exact HY.out) HT.out)
          rw [hd] at hne
          clear hd
          go_wp2_with fail
          go_quiet (fail)
          go_wp2_with fail
          go_roundw
          case rel => exact ⟨i + 1, by omega, by go_num, HT2.out, below_drewN HB.out _⟩
          case measure => simp [intOf]; omega
      · have b4 : (r.length : Int) ≤ (i : Int) := by omega
        have b6 : decide ((r.length : Int) ≤ (i : Int)) = true := by simp; omega
        obtain rfl : R = false := by rw [← HD.out]; exact begI_long (by omega)
        clear hx
        go_wp2_with fail
        go_quiet (fail)
        go_wp2_with fail
        go_ret
        exact ⟨rfl, below_drewN HB.out _⟩
    · obtain rfl : i = l.length := by omega
      obtain rfl : R = true := by rw [← HD.out]; exact begI_yes HT.out
      go_wp2_with fail
      go_ret
      exact ⟨rfl, HB.out⟩
end Go.Proofs.Ytiohngcmojkheaa
