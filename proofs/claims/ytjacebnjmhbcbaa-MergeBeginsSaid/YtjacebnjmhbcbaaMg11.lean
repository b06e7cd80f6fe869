/- Put, told by the plain law; New refuses; the calls of law functions. -/
import Derived.Test.YtjacebnjmhbcbaaMg8
import Derived.Test.YtjacebnjmhbcbaaMg10
namespace Go.Proofs.Ytjacebnjmhbcbaa
open Go.RowKit
set_option linter.unusedVariables false

theorem atS_some {S : List PS} {i : Int} {s : PS} (h : atS S i = some s) : ∃ k : Nat, i = k ∧ S[k]? = some s := by
  unfold atS at h
  split at h
  · cases h
  · exact ⟨i.toNat, by omega, h⟩
theorem put_any (B p : Nat) (n i seq : Int) (S : List PS) (T : List KeyL) (l : List KeyL) (e : Bool) (a : Option Addr) (m cap : Nat) (w : World) (gs c : Nat) (M : List MS) (sp : List Value) (ta : Option Addr) (tc : Nat) (hX : MGx B w p n S T gs c M sp ta tc) (hr : RdE KeyL.cells 2 w a m cap l)
    (hs : ∀ s ∈ S, 0 ≤ s.seq ∧ s.seq ≤ 1000000) (hB : B ≤ w.heap.size) :
    Calls Try.prog 13 #[.pointer (some ⟨p, 0, none⟩), .int .i64 i, .int .i64 seq, .slice a m cap, .bool e] w fun e' w' => e' = .returned (.bool (putP n S T i seq l e).1) ∧ (∃ M', MGx B w' p n (putP n S T i seq l e).2 T gs c M' sp ta tc ∧ WOld w.heap.size M M') ∧ Frm (fun i => i = gs) w w' ∧ ((putP n S T i seq l e).1 = false → Below w.heap.size w w') := by
  have no : putOK n S T i seq l e = none → (atS S i = none ∨ ∃ s, atS S i = some s ∧ (doneP n S T = true ∨ s.wanted = false ∨ s.seq ≠ seq ∨ 5 < l.length ∨ (l.length = 0 ∧ e = false))) → Calls Try.prog 13 #[.pointer (some ⟨p, 0, none⟩), .int .i64 i, .int .i64 seq, .slice a m cap, .bool e] w fun e' w' => e' = .returned (.bool (putP n S T i seq l e).1) ∧ (∃ M', MGx B w' p n (putP n S T i seq l e).2 T gs c M' sp ta tc ∧ WOld w.heap.size M M') ∧ Frm (fun i => i = gs) w w' ∧ ((putP n S T i seq l e).1 = false → Below w.heap.size w w') := by
    intro h1 h2
    have hp : putP n S T i seq l e = (false, S) := by unfold putP; rw [h1]
    rw [hp]
    refine (put_no B p n i seq S T l e a m cap w hX.mg hr h2).mono ?_
    rintro e' w' ⟨rfl, hb⟩
    exact ⟨rfl, ⟨M, hX.below hb, WOld.refl _ _⟩, Frm.below hb, fun _ => hb⟩
  cases ha : atS S i with
  | none => exact no (by unfold putOK; rw [ha]) (.inl ha)
  | some s =>
    by_cases hc : doneP n S T = true ∨ s.wanted = false ∨ s.seq ≠ seq ∨ 5 < l.length ∨ (l.length = 0 ∧ e = false)
    · refine no ?_ (.inr ⟨s, ha, hc⟩)
      unfold putOK
      rw [ha]
      simp only
      rw [if_pos]
      rcases hc with h | h | h | h | h
      · exact .inl h
      · exact .inr (.inl h)
      · exact .inr (.inr (.inl h))
      · exact .inr (.inr (.inr (.inl h)))
      · exact .inr (.inr (.inr (.inr (.inl h))))
    · clear no
      simp only [not_or] at hc
      obtain ⟨h1, h2, h3, h4, h5⟩ := hc
      obtain ⟨k, rfl, hk⟩ := atS_some ha
      have hsq := hs s (List.mem_of_getElem? hk)
      have hq : s.seq = seq := Classical.not_not.1 h3
      have hgo := put_go B p k n seq S T s l e a m cap w gs c M sp ta tc hX hr hk (by simpa using h1) (by simpa using h2) hq (by omega) h5 (by rw [← hq]; exact hsq) hB
      refine hgo.mono ?_
      intro e' w' hE
      cases hR : okI s.least s.heard s.last l with
      | false =>
        have hp : putP n S T k seq l e = (false, S) := by
          unfold putP putOK
          rw [ha]
          simp only [hR, or_true, if_true]
        obtain ⟨rfl, hb⟩ := hE.1 hR
        rw [hp]
        exact ⟨rfl, ⟨M, hX.below hb, WOld.refl _ _⟩, Frm.below hb, fun _ => hb⟩
      | true =>
        have hp : putP n S T k seq l e = (true, S.set k (s.put l e)) := by
          unfold putP putOK
          rw [ha]
          have hno : ¬ (doneP n S T = true ∨ s.wanted = false ∨ s.seq ≠ seq ∨ 5 < l.length ∨ (l.length = 0 ∧ e = false) ∨ okI s.least s.heard s.last l = false) := by
            rintro (h | h | h | h | h | h)
            · exact h1 h
            · exact h2 h
            · exact h3 h
            · exact h4 h
            · exact h5 h
            · rw [hR] at h; cases h
          simp only [if_neg hno, Int.toNat_natCast]
        obtain ⟨rfl, ⟨M', hM'⟩, hf⟩ := hE.2 hR
        rw [hp]
        exact ⟨rfl, ⟨M', hM'⟩, hf, fun h => by cases h⟩
theorem mnew_no (a : Option Addr) (m cap : Nat) (n : Int) (w : World) (hm : m ≤ cap ∧ cap ≤ maxLen) (h : m = 0 ∨ 6 < m ∨ n < 1 ∨ 10 < n) :
    Calls Try.prog 11 #[.slice a m cap, .int .i64 n] w fun e w' => e = .returned (.tuple #[.pointer none, .int .i64 2]) ∧ w = w' := by
  by_cases h0 : m = 0
  · subst h0
    clear h
    go_enter Try.func11, Try.ntmps11
    go_wp2_with fail
    go_ret2
    exact ⟨rfl, rfl⟩
  · have e1 : ((m : Int) == 0) = false := by rw [beq_eq_false_iff_ne]; omega
    by_cases h1 : 6 < m
    · have e2 : decide (6 < m) = true := by simp; omega
      clear h
      go_enter Try.func11, Try.ntmps11
      go_wp2_with fail
      go_ret2
      exact ⟨rfl, rfl⟩
    · have e2 : decide (6 < m) = false := by simp; omega
      by_cases h2 : n < 1
      · clear h
        go_enter Try.func11, Try.ntmps11
        go_wp2_with fail
        go_ret2
        exact ⟨rfl, rfl⟩
      · have h3 : 10 < n := by omega
        clear h
        go_enter Try.func11, Try.ntmps11
        go_wp2_with fail
        go_ret2
        exact ⟨rfl, rfl⟩
end Go.Proofs.Ytjacebnjmhbcbaa
