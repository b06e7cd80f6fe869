/- The walks of GreatItems, OverItems, Clone of items; the document's Less of items. -/
import Derived.Test.YtjhkdbcfkaaffaaLendI
import Derived.Test.YtjhkdbcfkaaffaaRank1
import Derived.Test.YtjhkdbcfkaaffaaRefC
import Derived.Test.YtjhkdbcfkaaffaaFrm
namespace Go.Proofs.Ytjhkdbcfkaaffaa
open Go.RowKit
set_option linter.unusedVariables false

def RdI (w : World) (a : Option Addr) (n c : Nat) (l : List KeyL) : Prop := RdE KeyL.cells 2 w a n c l
def greatI (l : List KeyL) : Bool := decide (80 < l.length) || l.any fun k => decide (100 < k.2.size)
set_option maxRecDepth 100000 in
theorem greatI_false {l : List KeyL} (h : greatI l = false) : l.length ≤ 80 ∧ ∀ x ∈ l, x.2.size ≤ 100 := by
  unfold greatI at h
  rw [Bool.or_eq_false_iff] at h
  refine ⟨by simpa using h.1, fun x hx => ?_⟩
  have := h.2
  rw [List.any_eq_false] at this
  simpa using this x hx
set_option maxRecDepth 100000 in
theorem RdE.atI {w : World} {a : Option Addr} {n c : Nat} {L : List KeyL} (h : RdE KeyL.cells 2 w a n c L) {i : Nat} {x : KeyL} (hx : L[i]? = some x) : ∃ b o, a = some ⟨b, o, none⟩ ∧ w.cell? ⟨b, o + i * 2, none⟩ = some (.int .i64 x.1) ∧ w.cell? ⟨b, o + i * 2 + 1, none⟩ = some (.string x.2) ∧ b < w.heap.size := by
  obtain ⟨b, o, e, hb, hc⟩ := h.2.2.2.2 i x hx
  exact ⟨b, o, e, hc 0 (by omega), hc 1 (by omega), hb⟩
set_option maxRecDepth 100000 in
set_option maxHeartbeats 1000000 in
theorem greatI_any (a : Option Addr) (n cap : Nat) (l : List KeyL) (w : World) (hr : RdE KeyL.cells 2 w a n cap l) (hs : ∀ x ∈ l, x.2.size ≤ maxLen) :
    Calls Try.prog 32 #[.slice a n cap] w fun e w' => e = .returned (.bool (greatI l)) ∧ w = w' := by
  have hln := hr.1
  have hm1 := hr.2.1
  have hm2 := hr.2.2.1
  unfold maxLen at hm2
  have HR := Lib.hid hr
  have HN := Lib.hid hln
  have HS := Lib.hid hs
  clear hr hln hs
  obtain ⟨R, hR⟩ : ∃ R, greatI l = R := ⟨_, rfl⟩
  rw [hR]
  have HRR := Lib.hid hR
  clear hR
  by_cases hbig : 80 < n
  · have hr : R = true := by rw [← HRR.out]; unfold greatI; rw [HN.out]; simp [hbig]
    subst hr
    have d1 : decide (n ≤ 80) = false := by simp; omega
    have d1' : decide ((n : Int) ≤ 80) = false := by simp; omega
    have d2 : decide ((80 : Int) < (n : Int)) = true := by simp; omega
    clear HRR
    go_enter Try.func32, Try.ntmps32
    go_wp2_with fail
    go_loop [3] (fun v => v = .int .i64 0) (fun v => 0)
    case atStart => rfl
    case round =>
      subst hrel
      go_wp2_with fail
      go_ret
      exact ⟨rfl, rfl⟩
  · have hle : n ≤ 80 := by omega
    clear hbig
    go_enter Try.func32, Try.ntmps32
    go_wp2_with fail
    go_loop [3] (fun v => ∃ i : Nat, i ≤ n ∧ v = .int .i64 i ∧ RowKit.Hid (∀ j y, j < i → l[j]? = some y → y.2.size ≤ 100)) (fun v => n - (intOf v).toNat)
    case atStart => exact ⟨0, Nat.zero_le _, rfl, fun j y hj _ => by omega⟩
    case round =>
      obtain ⟨i, hi, rfl, HT⟩ := hrel
      by_cases hlt : i < n
      · have hx : l[i]? = some (l[i]'(by rw [HN.out]; exact hlt)) := List.getElem?_eq_getElem _
        obtain ⟨x, hxe⟩ : ∃ x, l[i]'(by rw [HN.out]; exact hlt) = x := ⟨_, rfl⟩
        rw [hxe] at hx
        have hsz := HS.out x (List.mem_of_getElem? hx)
        unfold maxLen at hsz
        obtain ⟨b, o, rfl, x0, x1, _⟩ := HR.out.atI hx
        have HX := Lib.hid hx
        clear hx hxe
        have k1 : (0 : Int) ≤ (i : Int) := by omega
        have k2 : (i : Int) < (n : Int) := by omega
        have k3 : (n : Int) ≤ 80 := by omega
        by_cases hb : 100 < x.2.size
        · have hr : R = true := by
            rw [← HRR.out]
            unfold greatI
            rw [Bool.or_eq_true, List.any_eq_true]
            exact .inr ⟨x, List.mem_of_getElem? HX.out, by simpa using hb⟩
          subst hr
          clear HRR
          go_wp2_with fail
          go_ret
          exact ⟨rfl, rfl⟩
        · have d3 : decide (100 < x.2.size) = false := by simpa using hb
          have hle2 : x.2.size ≤ 100 := by omega
          have HT2 : RowKit.Hid (∀ j y, j < i + 1 → l[j]? = some y → y.2.size ≤ 100) := by
            intro j y hj hy
            rcases (by omega : j < i ∨ j = i) with h | h
            · exact HT.out j y h hy
            · subst h; rw [HX.out] at hy; cases hy; exact hle2
          clear HT hb
          go_wp2_with fail
          go_round
          case rel => exact ⟨i + 1, by omega, by go_num, HT2.out⟩
          case measure => simp [intOf]; omega
      · have hin : i = n := by omega
        subst hin
        have hr : R = false := by
          rw [← HRR.out]
          unfold greatI
          rw [Bool.or_eq_false_iff, List.any_eq_false]
          refine ⟨by rw [HN.out]; simp; omega, fun x hx => ?_⟩
          obtain ⟨j, hj, e⟩ := List.mem_iff_getElem.1 hx
          have := HT.out j x (by rw [← HN.out]; exact hj) (by rw [← e]; exact List.getElem?_eq_getElem hj)
          simp; omega
        subst hr
        clear HRR HT hlt
        have k3 : (i : Int) ≤ 80 := by omega
        have d4 : decide ((80 : Int) < (i : Int)) = false := by simp; omega
        go_wp2_with fail
        go_ret
        exact ⟨rfl, rfl⟩
end Go.Proofs.Ytjhkdbcfkaaffaa
