/- The walk of Put. -/
import Derived.Test.YtjacebnjmhbcbaaMg6
namespace Go.Proofs.Ytjacebnjmhbcbaa
open Go.RowKit
set_option linter.unusedVariables false

/-- may items come? -/
def okI (least : Int) : Bool → KeyL → List KeyL → Bool
  | _, _, [] => true
  | heard, last, x :: l => if (heard && !kless last x) || decide (x.1 < least) then false else okI least true x l
def PS.put (s : PS) (l : List KeyL) (e : Bool) : PS := ⟨s.least, s.seq + 1, e, s.heard || decide (0 < l.length), l.getLastD s.last, l⟩
def putOK (n : Int) (S : List PS) (T : List KeyL) (i seq : Int) (l : List KeyL) (e : Bool) : Option PS :=
  match atS S i with
  | none => none
  | some s => if doneP n S T = true ∨ s.wanted = false ∨ s.seq ≠ seq ∨ 5 < l.length ∨ (l.length = 0 ∧ e = false) ∨ okI s.least s.heard s.last l = false then none else some s
def putP (n : Int) (S : List PS) (T : List KeyL) (i seq : Int) (l : List KeyL) (e : Bool) : Bool × List PS :=
  match putOK n S T i seq l e with
  | none => (false, S)
  | some s => (true, S.set i.toNat (s.put l e))
theorem put_nil (i seq : Int) (a : Option Addr) (m cap : Nat) (e : Bool) (w : World) : Calls Try.prog 13 #[.pointer none, .int .i64 i, .int .i64 seq, .slice a m cap, .bool e] w fun e w' => e = .returned (.bool false) ∧ w = w' := by
  go_enter Try.func13, Try.ntmps13
  go_wp2_with fail
  refine (get_nil i _).mono ?_
  rintro e w' ⟨rfl, rfl⟩
  go_wp2_with fail
  go_ret
  exact ⟨rfl, rfl⟩
theorem row_set {M : List MS} {sp : List Value} {i : Nat} {m m' : MS} {j : Nat} {v : Value} (hm : M[i]? = some m) (hj : j < 7) (he : m'.cells = m.cells.set j v) : (M.flatMap MS.cells ++ sp).set (i * 7 + j) v = (M.set i m').flatMap MS.cells ++ sp := by
  have hi : i < M.length := (List.getElem?_eq_some_iff.1 hm).1
  have hlen : ∀ K : List MS, (K.flatMap MS.cells).length = K.length * 7 := fun K => flatMap_len MS.cells 7 MS.clen K
  apply List.ext_getElem?
  intro q
  rw [List.getElem?_set]
  by_cases hq : q < M.length * 7
  · have hr : q % 7 < 7 := Nat.mod_lt _ (by omega)
    have hqi : q / 7 < M.length := by omega
    have hdm : q / 7 * 7 + q % 7 = q := by omega
    have hget : ∀ (K : List MS) (x : MS), K[q / 7]? = some x → (K.flatMap MS.cells ++ sp)[q]? = x.cells[q % 7]? := fun K x hx => by
      have := flat_get MS.cells 7 MS.clen K sp (q / 7) x (q % 7) hx hr
      rw [hdm] at this; exact this
    by_cases e1 : i * 7 + j = q
    · rw [if_pos e1, if_pos (by rw [List.length_append, hlen]; omega)]
      have hqi2 : q / 7 = i := by omega
      have hqj : q % 7 = j := by omega
      rw [hget (M.set i m') m' (by rw [hqi2, List.getElem?_set_self hi]), he, hqj, List.getElem?_set_self (by rw [MS.clen]; exact hj)]
    · rw [if_neg e1]
      by_cases e2 : q / 7 = i
      · rw [hget M m (by rw [e2]; exact hm), hget (M.set i m') m' (by rw [e2, List.getElem?_set_self hi]), he, List.getElem?_set_ne (by omega)]
      · obtain ⟨x, hx⟩ : ∃ x, M[q / 7]? = some x := ⟨_, List.getElem?_eq_getElem hqi⟩
        rw [hget M x hx, hget (M.set i m') x (by rw [List.getElem?_set_ne (fun e => e2 e.symm)]; exact hx)]
  · rw [if_neg (by omega), List.getElem?_append_right (by rw [hlen]; omega), List.getElem?_append_right (by rw [hlen, List.length_set]; omega), hlen, hlen, List.length_set]
theorem row_at {M : List MS} {i : Nat} {m : MS} (hm : M[i]? = some m) (m' : MS) : (M.set i m')[i]? = some m' := by rw [List.getElem?_set_self (List.getElem?_eq_some_iff.1 hm).1]
theorem set2 (M : List MS) (i : Nat) (a b : MS) : (M.set i a).set i b = M.set i b := by rw [List.set_set]
/-- Put takes nothing -/
theorem put_no (B p : Nat) (n i seq : Int) (S : List PS) (T : List KeyL) (l : List KeyL) (e : Bool) (a : Option Addr) (m cap : Nat) (w : World) (h : MG B w p n S T) (hr : RdE KeyL.cells 2 w a m cap l)
    (hx : atS S i = none ∨ ∃ s, atS S i = some s ∧ (doneP n S T = true ∨ s.wanted = false ∨ s.seq ≠ seq ∨ 5 < l.length ∨ (l.length = 0 ∧ e = false))) :
    Calls Try.prog 13 #[.pointer (some ⟨p, 0, none⟩), .int .i64 i, .int .i64 seq, .slice a m cap, .bool e] w fun e w' => e = .returned (.bool false) ∧ Below w.heap.size w w' := by
  have hml0 := hr.1
  have HG := Lib.hid h
  obtain ⟨gs, c, M, ta, tc, c0, c1, c2, hml, hM, hok, hT, hp, hg, hSc⟩ := h.read
  have HD := Lib.hid (done_any B p n S T w h)
  by_cases hi : i < 0 ∨ (S.length : Int) ≤ i
  · clear hx hM hok hT h c0 c2 hml HD HG hr hml0
    generalize S.length = k at *
    go_enter Try.func13, Try.ntmps13
    go_wp2_with fail
    refine (get_no p gs k c i _ c1 hi).mono ?_
    rintro e w' ⟨rfl, rfl⟩
    go_wp2_with fail
    go_ret
    exact ⟨rfl, Below.refl _ _⟩
  · obtain ⟨k, rfl⟩ : ∃ k : Nat, i = k := ⟨i.toNat, by omega⟩
    have hk : k < S.length := by omega
    obtain ⟨s, hs⟩ : ∃ s, S[k]? = some s := ⟨_, List.getElem?_eq_getElem hk⟩
    obtain ⟨ms, hm⟩ : ∃ m, M[k]? = some m := ⟨_, List.getElem?_eq_getElem (show k < M.length by omega)⟩
    rw [atS_yes, hs] at hx
    have hx' : doneP n S T = true ∨ s.wanted = false ∨ s.seq ≠ seq ∨ 5 < l.length ∨ (l.length = 0 ∧ e = false) := by
      rcases hx with hx | ⟨s', e', hx⟩
      · cases hx
      · cases e'; exact hx
    have hsh := hM k ms hm
    have hokk := hok k ms s hm hs
    have HSH := Lib.hid hsh
    have HWT := Lib.hid hokk.wanted
    have HSQ := Lib.hid hokk.seq
    have HC1 := Lib.hid c1
    have HX := Lib.hid hx'
    have HL := Lib.hid hml0
    clear hx hx' hM hok hT h c0 c1 c2 hml hr hs hm hi hsh hokk
    have hq := fun o W => sptr_eq gs o W
    generalize S.length = k2 at *
    have hmx : 0 ≤ m := Nat.zero_le _
    cases hd : doneP n S T with
    | true =>
      rw [hd] at HD
      go_enter Try.func13, Try.ntmps13
      go_wp2_with fail
      refine (get_yes p gs k2 c k _ HC1.out hk).mono ?_
      rintro e w' ⟨rfl, rfl⟩
      go_wp2_with fail
      refine HD.out.mono ?_
      rintro e w1 ⟨rfl, hb⟩
      have HB := Lib.hid hb
      clear hb
      go_wp2_with fail
      go_ret
      exact ⟨rfl, HB.out⟩
    | false =>
      rw [hd] at HD
      have hx1 := HX.out
      rw [hd] at hx1
      have HX1 := Lib.hid hx1
      clear hd hx1 HX
      cases hw : s.wanted with
      | false =>
        have HW : RowKit.Hid (ms.wanted = false) := HWT.out.trans hw
        clear hw HWT HX1
        go_enter Try.func13, Try.ntmps13
        go_wp2_with fail
        refine (get_yes p gs k2 c k _ HC1.out hk).mono ?_
        rintro e w' ⟨rfl, rfl⟩
        go_wp2_with fail
        refine HD.out.mono ?_
        rintro e w1 ⟨rfl, hb⟩
        have HB := Lib.hid hb
        have HSH1 := Lib.hid (HSH.out.below hb hg)
        clear hb HSH
        go_wp2_with fail
        refine (wanted_any gs (k * 7) ms _ HSH1.out).mono ?_
        rintro e w' ⟨rfl, rfl⟩
        rw [HW.out]
        go_wp2_with fail
        go_ret
        exact ⟨rfl, HB.out⟩
      | true =>
        have HW : RowKit.Hid (ms.wanted = true) := HWT.out.trans hw
        have hx1 := HX1.out
        rw [hw] at hx1
        have hx2 : s.seq ≠ seq ∨ 5 < l.length ∨ (l.length = 0 ∧ e = false) := by
          rcases hx1 with h | h | h
          · cases h
          · cases h
          · exact h
        rw [HL.out] at hx2
        have HX2 := Lib.hid hx2
        clear hw HWT HX1 hx1 hx2
        by_cases hs : s.seq = seq
        · have d1 : (ms.seq != seq) = false := by rw [HSQ.out, hs]; simp
          have hx3 : 5 < m ∨ (m = 0 ∧ e = false) := by
            rcases HX2.out with h | h
            · exact absurd hs h
            · exact h
          have HX3 := Lib.hid hx3
          clear hx3 HX2 hs
          by_cases h5 : 5 < m
          · have d2 : decide (5 < m) = true := by simpa using h5
            have d2' : (5 : Int) < (m : Int) := by omega
            clear HX3
            go_enter Try.func13, Try.ntmps13
            go_wp2_with fail
            refine (get_yes p gs k2 c k _ HC1.out hk).mono ?_
            rintro e w' ⟨rfl, rfl⟩
            go_wp2_with fail
            refine HD.out.mono ?_
            rintro e w1 ⟨rfl, hb⟩
            have HB := Lib.hid hb
            have HSH1 := Lib.hid (HSH.out.below hb hg)
            obtain ⟨_, s1, _⟩ := (HSH.out.below hb hg).c2
            clear hb HSH
            go_wp2_with fail
            refine (wanted_any gs (k * 7) ms _ HSH1.out).mono ?_
            rintro e w' ⟨rfl, rfl⟩
            rw [HW.out]
            go_wp2_with fail
            go_ret
            exact ⟨rfl, HB.out⟩
          · have hx4 : m = 0 ∧ e = false := by
              rcases HX3.out with h | h
              · exact absurd h h5
              · exact h
            obtain ⟨rfl, rfl⟩ := hx4
            clear HX3 h5
            go_enter Try.func13, Try.ntmps13
            go_wp2_with fail
            refine (get_yes p gs k2 c k _ HC1.out hk).mono ?_
            rintro e w' ⟨rfl, rfl⟩
            go_wp2_with fail
            refine HD.out.mono ?_
            rintro e w1 ⟨rfl, hb⟩
            have HB := Lib.hid hb
            have HSH1 := Lib.hid (HSH.out.below hb hg)
            obtain ⟨_, s1, _⟩ := (HSH.out.below hb hg).c2
            clear hb HSH
            go_wp2_with fail
            refine (wanted_any gs (k * 7) ms _ HSH1.out).mono ?_
            rintro e w' ⟨rfl, rfl⟩
            rw [HW.out]
            go_wp2_with fail
            go_ret
            exact ⟨rfl, HB.out⟩
        · have d1 : (ms.seq != seq) = true := by rw [HSQ.out]; simpa using hs
          clear HX2 hs
          go_enter Try.func13, Try.ntmps13
          go_wp2_with fail
          refine (get_yes p gs k2 c k _ HC1.out hk).mono ?_
          rintro e w' ⟨rfl, rfl⟩
          go_wp2_with fail
          refine HD.out.mono ?_
          rintro e w1 ⟨rfl, hb⟩
          have HB := Lib.hid hb
          have HSH1 := Lib.hid (HSH.out.below hb hg)
          obtain ⟨_, s1, _⟩ := (HSH.out.below hb hg).c2
          clear hb HSH
          go_wp2_with fail
          refine (wanted_any gs (k * 7) ms _ HSH1.out).mono ?_
          rintro e w' ⟨rfl, rfl⟩
          rw [HW.out]
          go_wp2_with fail
          go_ret
          exact ⟨rfl, HB.out⟩
end Go.Proofs.Ytjacebnjmhbcbaa
