/- The walks of Low, SameInts, OverInts, Num; awake of chapter 17. -/
import Derived.Test.YtjdanngkmkgidaaTm14
namespace Go.Proofs.Ytjdanngkmkgidaa
open Go.RowKit
set_option linter.unusedVariables false

def ints (l : List Int) : List Value := l.map (Value.int .i64)
theorem ints_len (l : List Int) : (ints l).length = l.length := by simp [ints]
theorem ints_get (l : List Int) (i : Nat) (h : i < l.length) : (ints l)[i]? = some (.int .i64 l[i]) := by simp [ints, h]
theorem num_any (x : Int) (w : World) : Calls Try.prog 21 #[.int .i64 x] w fun e w' => e = .returned (.int .i64 x) ∧ w = w' := by
  go_enter Try.func21, Try.ntmps21
  go_wp2
  go_ret
  exact ⟨rfl, rfl⟩
def sameB (l k : List Int) : Bool := decide (l = k)
set_option maxRecDepth 100000 in
set_option maxHeartbeats 1000000 in
theorem same_any (a b : Option Addr) (n m c d : Nat) (l k : List Int) (w : World) (ha : Rd w a n c (ints l)) (hb : Rd w b m d (ints k)) (hn : n ≤ 1000) (hm : m ≤ 1000) :
    Calls Try.prog 15 #[.slice a n c, .slice b m d] w fun e w' => e = .returned (.bool (sameB l k)) ∧ Drew w w' := by
  have hl : l.length = n := by rw [← ha.1, ints_len]
  have hk : k.length = m := by rw [← hb.1, ints_len]
  have HA := Lib.hid ha
  have HB := Lib.hid hb
  clear ha hb
  by_cases hnm : n = m
  · subst hnm
    have HL := Lib.hid hl
    have HK := Lib.hid hk
    clear hl hk
    obtain ⟨R, hR⟩ : ∃ R, sameB l k = R := ⟨_, rfl⟩
    rw [hR]
    have HR := Lib.hid hR
    clear hR
    go_enter Try.func15, Try.ntmps15
    go_wp2_with fail
    go_loopw [5] (fun v wr => ∃ i : Nat, i ≤ n ∧ v = .int .i64 i ∧ RowKit.Hid (l.take i = k.take i) ∧ Drew w wr) (fun v _ => n - (intOf v).toNat)
    case atStart => exact ⟨0, Nat.zero_le _, rfl, rfl, Drew.refl _⟩
    case round =>
      obtain ⟨i, hi, rfl, HT, nq0, rfl⟩ := hrel
      by_cases hlt : i < n
      · have hx1 : l[i]? = some (l[i]'(by rw [HL.out]; exact hlt)) := List.getElem?_eq_getElem _
        have hx2 : k[i]? = some (k[i]'(by rw [HK.out]; exact hlt)) := List.getElem?_eq_getElem _
        obtain ⟨x, hx⟩ : ∃ x, l[i]'(by rw [HL.out]; exact hlt) = x := ⟨_, rfl⟩
        obtain ⟨y, hy⟩ : ∃ y, k[i]'(by rw [HK.out]; exact hlt) = y := ⟨_, rfl⟩
        rw [hx] at hx1
        rw [hy] at hx2
        clear hx hy
        obtain ⟨b1, o1, rfl, hb1, hc1⟩ := HA.out.2.2.2.2 i hlt
        obtain ⟨b2, o2, rfl, hb2, hc2⟩ := HB.out.2.2.2.2 i hlt
        have hc1' : w.cell? ⟨b1, o1 + i, none⟩ = some (.int .i64 x) := by rw [hc1]; simp [ints, hx1]
        have hc2' : w.cell? ⟨b2, o2 + i, none⟩ = some (.int .i64 y) := by rw [hc2]; simp [ints, hx2]
        have HX1 := Lib.hid hx1
        have HX2 := Lib.hid hx2
        clear hc1 hc2 hx1 hx2
        by_cases hxy : x = y
        · subst hxy
          have HT2 : RowKit.Hid (l.take (i + 1) = k.take (i + 1)) := by
            unfold RowKit.Hid
            rw [List.take_add_one, List.take_add_one, HT.out, HX1.out, HX2.out]
          clear HT
          go_wp2_with fail
          go_quiet (fail)
          go_wp2_with fail
          go_roundw
          case rel => exact ⟨i + 1, by omega, by go_num, HT2.out, Drew.one _ _⟩
          case measure => simp [intOf]; omega
        · have hne : (x == y) = false := by rw [beq_eq_false_iff_ne]; exact hxy
          have hne2 : (x != y) = true := by simp [bne, hne]
          have hr : R = false := by
            rw [← HR.out]
            unfold sameB
            rw [decide_eq_false_iff_not]
            intro e
            have h1 := HX1.out
            rw [e, HX2.out] at h1
            exact hxy (Option.some.inj h1).symm
          clear HR hxy
          subst hr
          go_wp2_with fail
          go_quiet (fail)
          go_wp2_with fail
          go_ret
          exact ⟨rfl, Drew.two _ _ _⟩
      · have hin : i = n := by omega
        subst hin
        have hr : R = true := by
          rw [← HR.out]
          unfold sameB
          rw [decide_eq_true_eq]
          have := HT.out
          rw [List.take_of_length_le (by rw [HL.out]; exact Nat.le_refl _), List.take_of_length_le (by rw [HK.out]; exact Nat.le_refl _)] at this
          exact this
        clear HR hlt
        subst hr
        go_wp2_with fail
        go_ret
        exact ⟨rfl, Drew.one _ _⟩
  · have hne : ((n : Int) == (m : Int)) = false := by rw [beq_eq_false_iff_ne]; omega
    have hne2 : ((n : Int) != (m : Int)) = true := by simp [bne, hne]
    have hr : sameB l k = false := by
      unfold sameB
      rw [decide_eq_false_iff_not]
      intro e
      exact hnm (by rw [← hl, ← hk, e])
    rw [hr]
    clear hr hl hk hnm
    go_enter Try.func15, Try.ntmps15
    go_wp2_with fail
    go_ret
    exact ⟨rfl, Drew.refl _⟩
theorem TL.frmR {w w' : World} {p q : Nat} {go ho : Option Nat} {most : Int} {L : List One} (h : TL w p go most L) (hf : Frm (fun i => i = q ∨ ho = some i) w w') (h1 : p ≠ q) (h2 : ho ≠ some p) (h3 : go ≠ some q) (h4 : ∀ g, go = some g → ho ≠ some g) : TL w' p go most L :=
  h.frm hf (fun e => e.elim h1 h2) (fun k hk e => e.elim (fun e => h3 (e ▸ hk)) (h4 k hk))
theorem Frm.bel {w w1 w2 : World} {p : Nat} {go : Option Nat} (hb : Below w.heap.size w w1) (hf : Frm (fun i => i = p ∨ go = some i) w1 w2) (hp : w.heap.size ≤ p) (hg : ∀ g, go = some g → w.heap.size ≤ g) : Below w.heap.size w w2 :=
  hb.trans (hf.toBelow hb.size (fun i hi h => by
    rcases h with h | h
    · omega
    · have := hg i h; omega))
theorem ownI {w : World} {base : Nat} {ao : Option Addr} {n c : Nat} {l : List Int} (h : w.ownsRow base 3 1 (.slice ao n c) n (l.map (Value.int .i64))) : Rd w ao n c (ints l) := ownsRow_rd h
/-- a Timers that the call made itself -/
def OwnT (w0 w : World) (p : Nat) (most : Int) (L : List One) : Prop := ∃ go, TL w p go most L ∧ Below w0.heap.size w0 w ∧ w0.heap.size ≤ p ∧ ∀ g, go = some g → w0.heap.size ≤ g
theorem OwnT.below {w0 w w' : World} {p : Nat} {most : Int} {L : List One} (h : OwnT w0 w p most L) (hb : Below w.heap.size w w') : OwnT w0 w' p most L := by
  obtain ⟨go, h1, h2, h3, h4⟩ := h
  exact ⟨go, h1.below hb, h2.trans (hb.mono h2.size), h3, h4⟩
theorem OwnT.bel {w0 w : World} {p : Nat} {most : Int} {L : List One} (h : OwnT w0 w p most L) : Below w0.heap.size w0 w := by
  obtain ⟨go, h1, h2, h3, h4⟩ := h; exact h2
theorem OwnT.new {w0 w w' : World} {most : Int} (hb : Below w0.heap.size w0 w) (h : TL w' w.heap.size none most [] ∧ Below w.heap.size w w') : OwnT w0 w' w.heap.size most [] :=
  ⟨none, h.1, hb.trans (h.2.mono hb.size), hb.size, fun _ h => by cases h⟩
theorem o_set {w0 w : World} {p : Nat} {most : Int} {L L' : List One} {id at_ r : Int} (h : OwnT w0 w p most L) (he : setL most L id at_ = (r, L')) :
   Calls Try.prog 13 #[.pointer (some ⟨p, 0, none⟩), .int .i64 id, .int .i64 at_] w fun e w' => e = .returned (.int .i64 r) ∧ OwnT w0 w' p most L' := by
  obtain ⟨go, h1, h2, h3, h4⟩ := h
  refine (t_set p id at_ w go most L h1).mono ?_
  rintro e w' ⟨go', rfl, hT, hF, hl⟩
  rw [he] at hT
  rw [he]
  refine ⟨rfl, go', hT, Frm.bel h2 hF h3 h4, h3, fun g hg => ?_⟩
  rcases hl with hl | ⟨g', hl, hle⟩
  · exact h4 g (hl ▸ hg)
  · rw [hl] at hg
    have := Option.some.inj hg
    have := h2.size
    omega
theorem o_cancel {w0 w : World} {p : Nat} {most : Int} {L L' : List One} {id : Int} {r : Bool} (h : OwnT w0 w p most L) (he : hasL id L = r) (he2 : cancelL id L = L') :
   Calls Try.prog 19 #[.pointer (some ⟨p, 0, none⟩), .int .i64 id] w fun e w' => e = .returned (.bool r) ∧ OwnT w0 w' p most L' := by
  obtain ⟨go, h1, h2, h3, h4⟩ := h
  refine (t_cancel p id w go most L h1).mono ?_
  rintro e w' ⟨rfl, hT, hF⟩
  rw [he2] at hT
  rw [he]
  exact ⟨rfl, go, hT, Frm.bel h2 hF h3 h4, h3, h4⟩
theorem o_at {w0 w : World} {p : Nat} {most : Int} {L : List One} {id a : Int} {b : Bool} (h : OwnT w0 w p most L) (he : atL id L = (a, b)) :
   Calls Try.prog 18 #[.pointer (some ⟨p, 0, none⟩), .int .i64 id] w fun e w' => e = .returned (.tuple #[.int .i64 a, .bool b]) ∧ OwnT w0 w' p most L ∧ Below w.heap.size w w' := by
  have h0 := h
  obtain ⟨go, h1, h2, h3, h4⟩ := h
  refine (t_at p id w go most L h1).mono ?_
  rintro e w' ⟨rfl, hb⟩
  rw [he]
  exact ⟨rfl, h0.below hb, hb⟩
theorem o_len {w0 w : World} {p k : Nat} {most : Int} {L : List One} (h : OwnT w0 w p most L) (he : L.length = k) :
   Calls Try.prog 17 #[.pointer (some ⟨p, 0, none⟩)] w fun e w' => e = .returned (.int .i64 k) ∧ w = w' := by
  obtain ⟨go, h1, h2, h3, h4⟩ := h
  subst he
  exact t_len p w go most L h1
theorem o_due {w0 w : World} {p : Nat} {most : Int} {L : List One} {now : Int} {R : List Int} (h : OwnT w0 w p most L) (he : dueL now L = R) :
   Calls Try.prog 16 #[.pointer (some ⟨p, 0, none⟩), .int .i64 now] w fun e w' => ∃ ao c2, e = .returned (.slice ao R.length c2) ∧ w'.ownsRow w.heap.size 3 1 (.slice ao R.length c2) R.length (R.map (Value.int .i64)) ∧ OwnT w0 w' p most L ∧ Below w.heap.size w w' := by
  have h0 := h
  obtain ⟨go, h1, h2, h3, h4⟩ := h
  refine (t_due p now w go most L h1).mono ?_
  rintro e w' ⟨ao, c2, rfl, ho, hb⟩
  rw [he] at ho
  rw [he]
  exact ⟨ao, c2, rfl, ho, h0.below hb, hb⟩
theorem new_ints (w : World) (l : List Int) : Rd (w.alloc (.cells (ints l).toArray 3)) (some ⟨w.heap.size, 0, none⟩) l.length l.length (ints l) ∨ l.length > maxLen := by
  by_cases h : l.length ≤ maxLen
  · left
    have hb : Blk (w.alloc (.cells (ints l).toArray 3)) w.heap.size 3 (ints l) := heap_alloc_new w _
    exact hb.rd _ _ _ (ints_len l) (Nat.le_refl _) h (fun i _ => rfl)
  · right; omega
set_option maxRecDepth 100000 in
set_option maxHeartbeats 2000000 in
theorem awake_any (w : World) : Calls Try.prog 11 #[] w fun e w' => e = .returned (.bool true) ∧ Below w.heap.size w w' := by
  go_enter Try.func11, Try.ntmps11
  go_wp2_with fail
  refine (t_new 3 _ (by omega) (by omega)).mono ?_
  rintro e w1 ⟨rfl, hT1⟩
  have HT1 := Lib.hid (OwnT.new (Below.refl _ w) hT1)
  clear hT1
  generalize w.heap.size = p at HT1 ⊢
  have hq : ∀ W : World, (binOp .neq 24 (.pointer (some ⟨p, 0, none⟩)) (.pointer none)).run Try.prog W = .ok (.bool true) W := fun W => by kernel_rfl
  go_wp2_with fail
  refine (o_set (L' := [(9, 3)]) (r := 0) HT1.out (by decide)).mono ?_
  rintro e w2 ⟨rfl, hT2⟩
  have HT2 := Lib.hid hT2
  clear hT2 HT1
  go_wp2_with fail
  refine (o_set (L' := [(5, 1), (9, 3)]) (r := 0) HT2.out (by decide)).mono ?_
  rintro e w3 ⟨rfl, hT3⟩
  have HT3 := Lib.hid hT3
  clear hT3 HT2
  go_wp2_with fail
  refine (o_due (R := [1]) HT3.out (by decide)).mono ?_
  rintro e w4 ⟨ao4, c4, rfl, ho4, hT4, hb4⟩
  have HT4 := Lib.hid hT4
  have HO4 := Lib.hid ho4
  clear hT4 hb4 ho4 HT3
  go_wp2_with fail
  have hr5 : Rd (w4.alloc (.cells #[.int .i64 1] 3)) (some ⟨w4.heap.size, 0, none⟩) 1 1 (ints [1]) := (new_ints w4 [1]).resolve_right (by decide)
  refine (same_any ao4 _ 1 1 c4 1 [1] [1] _ (ownI (HO4.out.alloc _)) hr5 (by omega) (by omega)).mono ?_
  rintro e w5 ⟨rfl, hd5⟩
  have HT5 := Lib.hid (HT4.out.below (((Below.refl _ w4).alloc (Nat.le_refl _) (.cells #[.int .i64 1] 3)).trans (hd5.below _)))
  clear hr5 hd5 HO4 HT4
  rw [show sameB [1] [1] = true from by decide]
  go_wp2_with fail
  refine (o_due (R := [1, 3]) HT5.out (by decide)).mono ?_
  rintro e w6 ⟨ao6, c6, rfl, ho6, hT6, hb6⟩
  have HT6 := Lib.hid hT6
  have HO6 := Lib.hid ho6
  clear hT6 hb6 ho6 HT5
  go_wp2_with fail
  have hr7 : Rd (w6.alloc (.cells #[.int .i64 1, .int .i64 3] 3)) (some ⟨w6.heap.size, 0, none⟩) 2 2 (ints [1, 3]) := (new_ints w6 [1, 3]).resolve_right (by decide)
  refine (same_any ao6 _ 2 2 c6 2 [1, 3] [1, 3] _ (ownI (HO6.out.alloc _)) hr7 (by omega) (by omega)).mono ?_
  rintro e w7 ⟨rfl, hd7⟩
  have HT7 := Lib.hid (HT6.out.below (((Below.refl _ w6).alloc (Nat.le_refl _) (.cells #[.int .i64 1, .int .i64 3] 3)).trans (hd7.below _)))
  clear hr7 hd7 HO6 HT6
  rw [show sameB [1, 3] [1, 3] = true from by decide]
  go_wp2_with fail
  refine (o_len (k := 2) HT7.out rfl).mono ?_
  rintro e w8 ⟨rfl, rfl⟩
  go_wp2_with fail
  go_ret
  exact ⟨rfl, HT7.out.bel⟩
end Go.Proofs.Ytjdanngkmkgidaa
