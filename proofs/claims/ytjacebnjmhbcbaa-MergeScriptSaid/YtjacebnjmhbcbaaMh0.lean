/- The document's Merge: how it lies; Done. -/
import Derived.Test.YtjacebnjmhbcbaaMg11
import Derived.Test.YtjacebnjmhbcbaaRef10
namespace Go.Proofs.Ytjacebnjmhbcbaa
open Go.RowKit
set_option linter.unusedVariables false

structure RSh (W : World) (m : MS) (s : PS) : Prop where
  least : m.least = s.least
  seq : m.seq = s.seq
  ended : m.ended = s.ended
  heard : m.heard = s.heard
  last : m.last = s.last
  waits : RdE KeyL.cells 2 W m.wa m.wn m.wc s.waits
  lt : ∀ b o sp, m.wa = some ⟨b, o, sp⟩ → b < W.heap.size
  small : s.waits.length ≤ 5
theorem RSh.wlen {W : World} {m : MS} {s : PS} (h : RSh W m s) : m.wn = s.waits.length := h.waits.1.symm
def RSz (S : List PS) : Prop := ∀ s ∈ S, s.last.2.size ≤ 1000000 ∧ ∀ x ∈ s.waits, x.2.size ≤ 1000000
structure RMx (W : World) (q : Nat) (n : Int) (S : List PS) (T : List KeyL) (qs c : Nat) (R : List MS) (sp : List Value) (ta : Option Addr) (tc : Nat) : Prop where
  P : Blk W q 80 [.slice (some ⟨qs, 0, none⟩) S.length c, .int .i64 n, .slice ta T.length tc]
  G : Blk W qs 82 (R.flatMap MS.cells ++ sp)
  hc : S.length ≤ c
  hm : c ≤ maxLen
  told : RdE KeyL.cells 2 W ta T.length tc T
  tlt : ∀ b o s, ta = some ⟨b, o, s⟩ → b < W.heap.size
  len : R.length = S.length
  sh : ∀ (i : Nat) (m : MS) (s : PS), R[i]? = some m → S[i]? = some s → RSh W m s
  bd : S.length ≤ 6 ∧ T.length ≤ 10 ∧ 1 ≤ n ∧ n ≤ 10
  sz : RSz S
def RItems (ta : Option Addr) (R : List MS) (k : Nat) : Prop := (∃ o s, ta = some ⟨k, o, s⟩) ∨ ∃ (i : Nat) (m : MS) (o : Nat) (s : Option Nat), R[i]? = some m ∧ m.wa = some ⟨k, o, s⟩
theorem RSh.frm {X : Nat → Prop} {W W' : World} {m : MS} {s : PS} (h : RSh W m s) (hf : Frm X W W') (hs : ∀ b o sp, m.wa = some ⟨b, o, sp⟩ → ¬ X b) : RSh W' m s :=
  ⟨h.least, h.seq, h.ended, h.heard, h.last, h.waits.frm hf hs, fun b o sp e => Nat.lt_of_lt_of_le (h.lt b o sp e) hf.size, h.small⟩
theorem RMx.keep {X : Nat → Prop} {W W' : World} {q : Nat} {n : Int} {S : List PS} {T : List KeyL} {qs c : Nat} {R : List MS} {sp : List Value} {ta : Option Addr} {tc : Nat} (h : RMx W q n S T qs c R sp ta tc) (hf : Frm X W W') (hx : ∀ k, X k → k ≠ q ∧ k ≠ qs ∧ ¬ RItems ta R k) : RMx W' q n S T qs c R sp ta tc :=
  ⟨h.P.frm hf (fun e => (hx q e).1 rfl), h.G.frm hf (fun e => (hx qs e).2.1 rfl), h.hc, h.hm, h.told.frm hf (fun b o s e hX => (hx b hX).2.2 (Or.inl ⟨o, s, e⟩)), fun b o s e => Nat.lt_of_lt_of_le (h.tlt b o s e) hf.size, h.len, fun i m s h1 h2 => (h.sh i m s h1 h2).frm hf (fun b o sp e hX => (hx b hX).2.2 (Or.inr ⟨i, m, o, sp, h1, e⟩)), h.bd, h.sz⟩
theorem RMx.below {W W' : World} {q : Nat} {n : Int} {S : List PS} {T : List KeyL} {qs c : Nat} {R : List MS} {sp : List Value} {ta : Option Addr} {tc : Nat} (h : RMx W q n S T qs c R sp ta tc) (hb : Below W.heap.size W W') : RMx W' q n S T qs c R sp ta tc :=
  h.keep (Frm.below (S := fun _ => False) hb) (fun _ h => h.elim)
theorem ShAt.of_row2 {W : World} {g : Nat} {M : List MS} {sp : List Value} {t : TypeId} (h : Blk W g t (M.flatMap MS.cells ++ sp)) {i : Nat} {m : MS} (hi : M[i]? = some m) : ShAt W g (i * 7) m := by
  intro j v hv
  have hj : j < 7 := (List.getElem?_eq_some_iff.1 hv).1
  rw [h.cell, flat_get MS.cells 7 MS.clen M sp i m j hi hj, hv]
theorem RMx.c3 {W : World} {q : Nat} {n : Int} {S : List PS} {T : List KeyL} {qs c : Nat} {R : List MS} {sp : List Value} {ta : Option Addr} {tc : Nat} (h : RMx W q n S T qs c R sp ta tc) : W.cell? ⟨q, 0, none⟩ = some (.slice (some ⟨qs, 0, none⟩) S.length c) ∧ W.cell? ⟨q, 1, none⟩ = some (.int .i64 n) ∧ W.cell? ⟨q, 2, none⟩ = some (.slice ta T.length tc) :=
  ⟨(h.P.cell 0).trans rfl, (h.P.cell 1).trans rfl, (h.P.cell 2).trans rfl⟩
theorem RMx.at {W : World} {q : Nat} {n : Int} {S : List PS} {T : List KeyL} {qs c : Nat} {R : List MS} {sp : List Value} {ta : Option Addr} {tc : Nat} (h : RMx W q n S T qs c R sp ta tc) {i : Nat} (hi : i < S.length) : ∃ m s, R[i]? = some m ∧ S[i]? = some s ∧ RSh W m s ∧ ShAt W qs (i * 7) m := by
  have h1 : R[i]? = some (R[i]'(by rw [h.len]; exact hi)) := List.getElem?_eq_getElem _
  exact ⟨_, _, h1, List.getElem?_eq_getElem hi, h.sh i _ _ h1 (List.getElem?_eq_getElem hi), ShAt.of_row2 h.G h1⟩
theorem done_1 {n : Int} {S : List PS} {T : List KeyL} (h : n ≤ T.length) (hT : (T.length : Int) ≤ n) : doneP n S T = true := by unfold doneP; simp; left; omega
theorem done_2 {n : Int} {S : List PS} {T : List KeyL} (h : ¬ n ≤ T.length) (ho : S.any PS.open_ = false) : doneP n S T = true := by unfold doneP; rw [ho]; simp
theorem done_3 {n : Int} {S : List PS} {T : List KeyL} (h : ¬ n ≤ T.length) {i : Nat} {s : PS} (hs : S[i]? = some s) (ho : s.open_ = true) : doneP n S T = false := by
  unfold doneP
  rw [Bool.or_eq_false_iff]
  refine ⟨by simp; omega, ?_⟩
  rw [List.any_eq_true.2 ⟨s, List.mem_of_getElem? hs, ho⟩]; rfl
set_option maxRecDepth 100000 in
set_option maxHeartbeats 2000000 in
theorem rdone_any (q : Nat) (n : Int) (S : List PS) (T : List KeyL) (w : World) (qs c : Nat) (R : List MS) (sp : List Value) (ta : Option Addr) (tc : Nat) (hX : RMx w q n S T qs c R sp ta tc) (hT : (T.length : Int) ≤ n) :
    Calls Try.prog 48 #[.pointer (some ⟨q, 0, none⟩)] w fun e w' => e = .returned (.bool (doneP n S T)) ∧ Drew w w' := by
  obtain ⟨c0, c1, c2⟩ := hX.c3
  have hbd := hX.bd
  have HX := Lib.hid hX
  have HT := Lib.hid hT
  obtain ⟨D, hD⟩ : ∃ D, doneP n S T = D := ⟨_, rfl⟩
  rw [hD]
  have HD := Lib.hid hD
  obtain ⟨k, hk⟩ : ∃ k, T.length = k := ⟨_, rfl⟩
  have HK := Lib.hid hk
  rw [hk] at c2
  obtain ⟨k2, hk2⟩ : ∃ k, S.length = k := ⟨_, rfl⟩
  have HK2 := Lib.hid hk2
  rw [hk2] at c0 hbd
  clear hX hD hk hk2 hT
  by_cases hn : n ≤ (k : Int)
  · obtain rfl : D = true := by rw [← HD.out]; exact done_1 (by rw [HK.out]; omega) HT.out
    have d1 : decide (n ≤ (k : Int)) = true := by simpa using hn
    clear HD
    go_enter Try.func48, Try.ntmps48
    go_wp2_with fail
    go_quiet (fail)
    go_wp2_with fail
    go_ret
    exact ⟨rfl, Drew.one _ _⟩
  · have d1 : decide (n ≤ (k : Int)) = false := by simpa using hn
    go_enter Try.func48, Try.ntmps48
    go_wp2_with fail
    go_quiet (fail)
    go_wp2_with fail
    go_loopw [3] (fun v wr => ∃ i : Nat, i ≤ k2 ∧ v = .int .i64 i ∧ RowKit.Hid (∀ j s, j < i → S[j]? = some s → s.open_ = false) ∧ Drew w wr) (fun v _ => k2 - (intOf v).toNat)
    case atStart => exact ⟨0, Nat.zero_le _, rfl, fun j s hj _ => by omega, Drew.one _ _⟩
    case round =>
      obtain ⟨i, hi, rfl, HO, nq0, rfl⟩ := hrel
      by_cases hlt : i < k2
      · obtain ⟨m, s, hm, hs, hsh, hat⟩ := HX.out.at (show i < S.length by rw [HK2.out]; exact hlt)
        obtain ⟨_, _, y2, _, _, _, y6⟩ := hat.c2
        have k1 : (0 : Int) ≤ (i : Int) := by omega
        have k3 : (i : Int) < (k2 : Int) := by omega
        have HE := Lib.hid hsh.ended
        have HW := Lib.hid hsh.wlen
        have HS := Lib.hid hs
        clear hm hs hsh hat
        cases he : m.ended with
        | false =>
          obtain rfl : D = false := by rw [← HD.out]; exact done_3 (by rw [HK.out]; omega) HS.out (by unfold PS.open_; rw [← HE.out, he]; rfl)
          rw [he] at y2
          clear HD he HO
          go_wp2_with fail
          go_ret
          exact ⟨rfl, ⟨_, rfl⟩⟩
        | true =>
          rw [he] at y2
          by_cases hw : 0 < m.wn
          · obtain rfl : D = false := by rw [← HD.out]; exact done_3 (by rw [HK.out]; omega) HS.out (by unfold PS.open_; rw [← HW.out]; simp [hw])
            have d3 : decide (0 < m.wn) = true := by simpa using hw
            have d3' : decide ((0 : Int) < (m.wn : Int)) = true := by simp; omega
            clear HD he HO
            go_wp2_with fail
            go_ret
            exact ⟨rfl, ⟨_, rfl⟩⟩
          · have d3 : decide (0 < m.wn) = false := by simpa using hw
            have d3' : decide ((0 : Int) < (m.wn : Int)) = false := by simp; omega
            have HO2 : RowKit.Hid (∀ j s, j < i + 1 → S[j]? = some s → s.open_ = false) := by
              intro j s' hj hs'
              rcases (by omega : j < i ∨ j = i) with h | h
              · exact HO.out j s' h hs'
              · subst h
                rw [HS.out] at hs'
                cases hs'
                unfold PS.open_
                rw [← HE.out, he, ← HW.out]
                simp; omega
            clear he HO
            go_wp2_with fail
            go_roundw
            case rel => exact ⟨i + 1, by omega, by go_num, HO2.out, ⟨_, rfl⟩⟩
            case measure => simp [intOf]; omega
      · have hin : i = k2 := by omega
        subst hin
        obtain rfl : D = true := by
          rw [← HD.out]
          refine done_2 (by rw [HK.out]; omega) ?_
          rw [List.any_eq_false]
          intro s hs
          obtain ⟨j, hj, e⟩ := List.mem_iff_getElem.1 hs
          rw [HO.out j s (by rw [← HK2.out]; exact hj) (by rw [← e]; exact List.getElem?_eq_getElem hj)]; simp
        clear HD HO hlt
        go_wp2_with fail
        go_ret
        exact ⟨rfl, ⟨_, rfl⟩⟩
end Go.Proofs.Ytjacebnjmhbcbaa
