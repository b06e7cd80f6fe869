/- great of chapter 22. -/
import Derived.Test.YtjacebnjmhbcbaaOpen22b
namespace Go.Proofs.Ytjacebnjmhbcbaa
open Go.RowKit
set_option linter.unusedVariables false

def greatM (L : List ActM) : Bool := decide (60 < L.length) || L.any fun x => greatI x.l
theorem greatM_false {L : List ActM} (h : greatM L = false) : L.length ≤ 60 ∧ ∀ x ∈ L, greatI x.l = false := by
  unfold greatM at h
  rw [Bool.or_eq_false_iff] at h
  refine ⟨by simpa using h.1, fun x hx => ?_⟩
  have := h.2
  rw [List.any_eq_false] at this
  simpa using this x hx
theorem RdE.at5 {w : World} {a : Option Addr} {n c : Nat} {L : List ActM} (h : RdE ActM.cells 5 w a n c L) {i : Nat} {x : ActM} (hx : L[i]? = some x) : ∃ b o, a = some ⟨b, o, none⟩ ∧ w.cell? ⟨b, o + i * 5, none⟩ = some (.bool x.tl) ∧ w.cell? ⟨b, o + i * 5 + 1, none⟩ = some (.bool x.en) ∧ w.cell? ⟨b, o + i * 5 + 2, none⟩ = some (.int .i64 x.sh) ∧ w.cell? ⟨b, o + i * 5 + 3, none⟩ = some (.int .i64 x.sq) ∧ w.cell? ⟨b, o + i * 5 + 4, none⟩ = some (.slice x.a x.n x.cap) ∧ b < w.heap.size := by
  obtain ⟨b, o, e, hb, hc⟩ := h.2.2.2.2 i x hx
  exact ⟨b, o, e, hc 0 (by omega), hc 1 (by omega), hc 2 (by omega), hc 3 (by omega), hc 4 (by omega), hb⟩
set_option maxRecDepth 100000 in
set_option maxHeartbeats 1000000 in
theorem greatM_any (a : Option Addr) (n cap : Nat) (L : List ActM) (w : World) (hr : RdE ActM.cells 5 w a n cap L) (hs : ∀ x ∈ L, RdE KeyL.cells 2 w x.a x.n x.cap x.l ∧ ∀ y ∈ x.l, y.2.size ≤ maxLen) :
    Calls Try.prog 18 #[.slice a n cap, .int .i64 60] w fun e w' => e = .returned (.bool (greatM L)) ∧ w = w' := by
  have HR := Lib.hid hr
  have HN := Lib.hid hr.1
  have HS := Lib.hid hs
  have hm1 := hr.2.1
  have hm2 := hr.2.2.1
  unfold maxLen at hm2
  clear hr hs
  obtain ⟨R, hR⟩ : ∃ R, greatM L = R := ⟨_, rfl⟩
  rw [hR]
  have HRR := Lib.hid hR
  clear hR
  by_cases hbig : 60 < n
  · have hr : R = true := by rw [← HRR.out]; unfold greatM; rw [HN.out]; simp [hbig]
    subst hr
    have d1 : decide ((n : Int) ≤ 60) = false := by simp; omega
    have d2 : decide ((60 : Int) < (n : Int)) = true := by simp; omega
    clear HRR
    go_enter Try.func18, Try.ntmps18
    go_wp2_with fail
    go_loop [5] (fun v => v = .int .i64 0) (fun v => 0)
    case atStart => rfl
    case round =>
      subst hrel
      go_wp2_with fail
      go_ret
      exact ⟨rfl, rfl⟩
  · have hle : n ≤ 60 := by omega
    clear hbig
    go_enter Try.func18, Try.ntmps18
    go_wp2_with fail
    go_loop [5] (fun v => ∃ i : Nat, i ≤ n ∧ v = .int .i64 i ∧ RowKit.Hid (∀ j y, j < i → L[j]? = some y → greatI y.l = false)) (fun v => n - (intOf v).toNat)
    case atStart => exact ⟨0, Nat.zero_le _, rfl, fun j y hj _ => by omega⟩
    case round =>
      obtain ⟨i, hi, rfl, HT⟩ := hrel
      have k3 : (n : Int) ≤ 60 := by omega
      by_cases hlt : i < n
      · obtain ⟨x, hx⟩ : ∃ x, L[i]? = some x := ⟨_, List.getElem?_eq_getElem (show i < L.length by rw [HN.out]; exact hlt)⟩
        have hxs := HS.out x (List.mem_of_getElem? hx)
        obtain ⟨b, o, rfl, _, _, _, _, x4, _⟩ := HR.out.at5 hx
        have HG := Lib.hid (greatI_any x.a x.n x.cap x.l w hxs.1 hxs.2)
        have HX := Lib.hid hx
        clear hx hxs
        have k1 : (0 : Int) ≤ (i : Int) := by omega
        have k2 : (i : Int) < (n : Int) := by omega
        cases hg : greatI x.l with
        | true =>
          rw [hg] at HG
          have hr : R = true := by
            rw [← HRR.out]
            unfold greatM
            rw [Bool.or_eq_true, List.any_eq_true]
            exact .inr ⟨x, List.mem_of_getElem? HX.out, hg⟩
          subst hr
          clear HRR hg
          go_wp2_with fail
          refine HG.out.mono ?_
          rintro e w' ⟨rfl, rfl⟩
          go_wp2_with fail
          go_ret
          exact ⟨rfl, rfl⟩
        | false =>
          rw [hg] at HG
          have HT2 : RowKit.Hid (∀ j y, j < i + 1 → L[j]? = some y → greatI y.l = false) := by
            intro j y hj hy
            rcases (by omega : j < i ∨ j = i) with h | h
            · exact HT.out j y h hy
            · subst h; rw [HX.out] at hy; cases hy; exact hg
          clear HT hg
          go_wp2_with fail
          refine HG.out.mono ?_
          rintro e w' ⟨rfl, rfl⟩
          go_wp2_with fail
          go_round
          case rel => exact ⟨i + 1, by omega, by go_num, HT2.out⟩
          case measure => simp [intOf]; omega
      · have hin : i = n := by omega
        subst hin
        have hr : R = false := by
          rw [← HRR.out]
          unfold greatM
          rw [Bool.or_eq_false_iff, List.any_eq_false]
          refine ⟨by rw [HN.out]; simp; omega, fun x hx => ?_⟩
          obtain ⟨j, hj, e⟩ := List.mem_iff_getElem.1 hx
          rw [HT.out j x (by rw [← HN.out]; exact hj) (by rw [← e]; exact List.getElem?_eq_getElem hj)]; simp
        subst hr
        clear HRR HT hlt
        have d4 : decide ((60 : Int) < (i : Int)) = false := by simp; omega
        go_wp2_with fail
        go_ret
        exact ⟨rfl, rfl⟩
end Go.Proofs.Ytjacebnjmhbcbaa
