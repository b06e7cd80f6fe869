/- The walk of SameTexts. -/
import Derived.Test.YtiohngcmojkheaaTexts1
import Derived.Test.YtiohngcmojkheaaStrs
namespace Go.Proofs.Ytiohngcmojkheaa
open Go.RowKit
set_option linter.unusedVariables false

def eqTs (a b : List ByteArray) : Bool := decide (a = b)
set_option maxHeartbeats 1000000 in
theorem sameT_any (a : Option Addr) (n cap : Nat) (b : Option Addr) (m bcap : Nat) (l r : List ByteArray) (w : World) (hr : RdT w a n cap l) (hr2 : RdT w b m bcap r) :
    Calls Try.prog 55 #[.slice a n cap, .slice b m bcap] w fun e w' => e = .returned (.bool (eqTs l r)) ∧ Drew w w' := by
  have hn := hr.len
  have hn2 := hr2.len
  subst hn hn2
  have hm := Nat.le_trans hr.2.1 hr.2.2.1
  have hm2 := Nat.le_trans hr2.2.1 hr2.2.2.1
  unfold maxLen at hm hm2
  have HR := Lib.hid hr
  have HR2 := Lib.hid hr2
  clear hr hr2
  by_cases hlen : l.length = r.length
  · have HL := Lib.hid hlen
    have h1 : ((l.length : Int) != r.length) = false := by simp; omega
    have hlen1 : l.length ≤ r.length := by omega
    have hlen2 : r.length ≤ l.length := by omega
    clear hlen
    go_enter Try.func55, Try.ntmps55
    go_wp2
    go_loopw [4, 5] (fun u i wr => ∃ k : Nat, k ≤ l.length ∧ i = .int .i64 k ∧ u = .bool false ∧ RowKit.Hid (l.take k = r.take k) ∧ Drew w wr) (fun _ i _ => l.length - (intOf i).toNat)
    case atStart => exact ⟨0, by omega, rfl, rfl, by simp [RowKit.Hid], 0, rfl⟩
    case round =>
      obtain ⟨k, hk, rfl, rfl, htk, nq, rfl⟩ := hrel
      by_cases hlt : k < l.length
      · have hlt2 : k < r.length := by omega
        obtain ⟨x, hx⟩ : ∃ x, l[k]? = some x := ⟨l[k], List.getElem?_eq_getElem hlt⟩
        obtain ⟨y, hy⟩ : ∃ x, r[k]? = some x := ⟨r[k], List.getElem?_eq_getElem hlt2⟩
        obtain ⟨ba, offa, rfl, hbl, hc1⟩ := HR.out.at hx
        obtain ⟨bb, offb, rfl, hbl2, hc2⟩ := HR2.out.at hy
        have HX := Lib.hid hx
        have HY := Lib.hid hy
        clear hx hy
        by_cases heq : x = y
        · subst heq
          have ht : (x.toList == x.toList) = true := by simp
          have hsn : RowKit.Hid (l.take (k + 1) = r.take (k + 1)) := by
            unfold RowKit.Hid
            rw [List.take_add_one, List.take_add_one, htk.out, HX.out, HY.out]
          go_wp2
          go_quiet (fail)
          go_wp2
          go_roundw
          case rel => exact ⟨k + 1, by omega, by go_num, rfl, hsn, by first | exact Drew.one _ _ | exact Drew.two _ _ _⟩
          case measure => simp [intOf]; omega
        · have ht := str_ne heq
          have hne : RowKit.Hid (eqTs l r = false) := by
            unfold RowKit.Hid eqTs
            rw [decide_eq_false_iff_not]; intro e; subst e; apply heq
            have := HX.out.symm.trans HY.out
            exact Option.some.inj this
          clear heq
          go_wp2
          go_quiet (fail)
          go_wp2
          go_ret
          rw [hne.out]
          exact ⟨rfl, by first | exact Drew.one _ _ | exact Drew.two _ _ _⟩
      · obtain rfl : k = l.length := by omega
        have he : RowKit.Hid (eqTs l r = true) := by
          unfold RowKit.Hid eqTs
          have := htk.out
          rw [List.take_length, HL.out, List.take_length] at this
          simp [this]
        go_wp2
        go_ret
        rw [he.out]
        exact ⟨rfl, nq, rfl⟩
  · have h1 : ((l.length : Int) != r.length) = true := by simp; omega
    have he : RowKit.Hid (eqTs l r = false) := by
      unfold RowKit.Hid eqTs
      rw [decide_eq_false_iff_not]; intro e; exact hlen (by rw [e])
    clear hlen
    go_enter Try.func55, Try.ntmps55
    go_wp2
    go_ret
    rw [he.out]
    exact ⟨rfl, 0, rfl⟩
end Go.Proofs.Ytiohngcmojkheaa
