/- The document's sure. -/
import Derived.Test.YtjacebnjmhbcbaaMh1
namespace Go.Proofs.Ytjacebnjmhbcbaa
open Go.RowKit
set_option linter.unusedVariables false

theorem ritless (a b : KeyL) (w : World) (h1 : a.2.size ≤ 1000000) (h2 : b.2.size ≤ 1000000) : Calls Try.prog 43 #[.agg #[.int .i64 a.1, .string a.2], .agg #[.int .i64 b.1, .string b.2]] w fun e w' => e = .returned (.bool (kless a b)) ∧ Below w.heap.size w w' := ritless_any a.1 a.2 b.1 b.2 w h1 h2
theorem might_1 {s : PS} {x : KeyL} (h : s.ended = true) : s.might x = false := by unfold PS.might PS.wanted; rw [h]; rfl
theorem might_2 {s : PS} {x : KeyL} (h : 0 < s.waits.length) : s.might x = false := by unfold PS.might PS.wanted; rw [decide_eq_false (by omega), Bool.and_false]; rfl
theorem might_3 {s : PS} {x : KeyL} (h1 : s.ended = false) (h2 : s.waits.length = 0) (h3 : s.heard = true) : s.might x = kless s.last x := by
  unfold PS.might PS.wanted; rw [h1, decide_eq_true h2, if_neg (by simp), if_pos h3]
theorem might_4 {s : PS} {x : KeyL} (h1 : s.ended = false) (h2 : s.waits.length = 0) (h3 : s.heard = false) : s.might x = decide (s.least ≤ x.1) := by
  unfold PS.might PS.wanted; rw [h1, decide_eq_true h2, if_neg (by simp), if_neg (by rw [h3]; simp)]
def SuR (w0 : World) (S : List PS) (x : KeyL) (v : Value) (wr : World) : Prop := ∃ i : Nat, i ≤ S.length ∧ v = .int .i64 i ∧ RowKit.Hid (∀ j s, j < i → S[j]? = some s → s.might x = false) ∧ RowKit.Hid (Below w0.heap.size w0 wr)
theorem SuR.next {S : List PS} {x : KeyL} {i : Nat} {s : PS} (h : ∀ j s, j < i → S[j]? = some s → s.might x = false) (hs : S[i]? = some s) (hm : s.might x = false) : RowKit.Hid (∀ j s, j < i + 1 → S[j]? = some s → s.might x = false) := by
  intro j s' hj hs'
  rcases (by omega : j < i ∨ j = i) with h1 | h1
  · exact h j s' h1 hs'
  · subst h1
    rw [hs] at hs'
    cases hs'
    exact hm
set_option maxRecDepth 100000 in
set_option maxHeartbeats 4000000 in
theorem rsure_any (q : Nat) (n : Int) (S : List PS) (T : List KeyL) (x : KeyL) (w : World) (qs c : Nat) (R : List MS) (sp : List Value) (ta : Option Addr) (tc : Nat) (hX : RMx w q n S T qs c R sp ta tc) (hx : x.2.size ≤ 1000000) :
    Calls Try.prog 49 #[.pointer (some ⟨q, 0, none⟩), .agg #[.int .i64 x.1, .string x.2]] w fun e w' => e = .returned (.bool (!S.any fun s => s.might x)) ∧ Below w.heap.size w w' := by
  have hb0 : Below w.heap.size w (w.alloc (.cells #[.int .i64 x.1, .string x.2] 31)) := (Below.refl _ _).alloc (Nat.le_refl _) _
  have hbx : Blk (w.alloc (.cells #[.int .i64 x.1, .string x.2] 31)) w.heap.size 31 [.int .i64 x.1, .string x.2] := heap_alloc_new w _
  have hX0 := hX.below hb0
  have HB0 := Lib.hid hb0
  have HBX := Lib.hid hbx
  have hxl := hbx.lt
  have HX := Lib.hid hX0
  have hql := hX0.P.lt
  have hqs := hX0.G.lt
  have HHX := Lib.hid hx
  obtain ⟨D, hD⟩ : ∃ D, (!S.any fun s => s.might x) = D := ⟨_, rfl⟩
  rw [hD]
  have HD := Lib.hid hD
  obtain ⟨k2, hk2⟩ : ∃ k, S.length = k := ⟨_, rfl⟩
  have HK2 := Lib.hid hk2
  have hbd := hX0.bd.1
  rw [hk2] at hbd
  have c0 := hX0.c3.1
  rw [hk2] at c0
  have HC0 := Lib.hid c0
  clear hX hX0 hb0 hbx hx hD hk2 c0
  go_enter Try.func49, Try.ntmps49
  go_wp2_with fail
  generalize w.alloc (.cells #[.int .i64 x.1, .string x.2] 31) = w0 at *
  obtain ⟨xb, hxb⟩ : ∃ xb, w.heap.size = xb := ⟨_, rfl⟩
  rw [hxb] at HBX hxl ⊢
  have HXB := Lib.hid hxb
  clear hxb
  go_loopw [5] (fun v wr => SuR w0 S x v wr) (fun v _ => k2 - (intOf v).toNat)
  case atStart => exact ⟨0, Nat.zero_le _, rfl, fun j s hj _ => by omega, Below.refl _ _⟩
  case round =>
    obtain ⟨i, hi, rfl, HO, HBB⟩ := hrel
    rw [HK2.out] at hi
    have c0 := (HBB.out.cell (p := ⟨q, 0, none⟩) hql).trans HC0.out
    have k1 : (0 : Int) ≤ (i : Int) := by omega
    by_cases hlt : i < k2
    · obtain ⟨m, s, hm, hs, hsh, hat⟩ := (HX.out.below HBB.out).at (show i < S.length by rw [HK2.out]; exact hlt)
      obtain ⟨y0, y1, y2, y3, y4, y5, y6⟩ := hat.c2
      have k3 : (i : Int) < (k2 : Int) := by omega
      obtain ⟨eb, heb⟩ : ∃ b, m.ended = b := ⟨_, rfl⟩
      obtain ⟨hd, hhd⟩ : ∃ b, m.heard = b := ⟨_, rfl⟩
      obtain ⟨wn, hwn⟩ : ∃ b, m.wn = b := ⟨_, rfl⟩
      have hE := hsh.ended
      have hW := hsh.wlen
      have hH := hsh.heard
      rw [hsh.last] at y4 y5
      rw [heb] at y2 hE
      rw [hhd] at y3 hH
      rw [hwn] at y6 hW
      have HE := Lib.hid hE
      have HW := Lib.hid hW
      have HH := Lib.hid hH
      have HLE := Lib.hid hsh.least
      have HS := Lib.hid hs
      have hsz := ((HX.out.sz s (List.mem_of_getElem? hs)).1)
      have HSZ := Lib.hid hsz
      have hbl : Blk (wr.alloc (.cells #[.int .i64 m.least, .int .i64 m.seq, .bool eb, .bool hd, .int .i64 s.last.1, .string s.last.2, .slice m.wa wn m.wc] 82)) wr.heap.size 82 [.int .i64 m.least, .int .i64 m.seq, .bool eb, .bool hd, .int .i64 s.last.1, .string s.last.2, .slice m.wa wn m.wc] := heap_alloc_new wr _
      have z0 := (hbl.cell 0).trans (show _ = some (.int .i64 m.least) from rfl)
      have z2 := (hbl.cell 2).trans (show _ = some (.bool eb) from rfl)
      have z3 := (hbl.cell 3).trans (show _ = some (.bool hd) from rfl)
      have z4 := (hbl.cell 4).trans (show _ = some (.int .i64 s.last.1) from rfl)
      have z5 := (hbl.cell 5).trans (show _ = some (.string s.last.2) from rfl)
      have z6 := (hbl.cell 6).trans (show _ = some (.slice m.wa wn m.wc) from rfl)
      have hbn := HBB.out.alloc HBB.out.size (.cells #[.int .i64 m.least, .int .i64 m.seq, .bool eb, .bool hd, .int .i64 s.last.1, .string s.last.2, .slice m.wa wn m.wc] 82)
      have x0 := ((HBX.out.below hbn hxl).cell 0).trans (show _ = some (.int .i64 x.1) from rfl)
      have x1 := ((HBX.out.below hbn hxl).cell 1).trans (show _ = some (.string x.2) from rfl)
      have HBN := Lib.hid hbn
      clear hsh hat hm hs hsz hbl hbn HBB heb hhd hwn hE hW hH
      cases eb with
      | true =>
        have HO2 := Lib.hid (SuR.next HO.out HS.out (might_1 HE.out.symm))
        clear HO
        go_wp2_with fail
        go_roundw
        case rel => exact ⟨i + 1, by rw [HK2.out]; omega, by go_num, HO2.out.out, HBN.out⟩
        case measure => simp [intOf]; omega
      | false =>
        by_cases hw : 0 < wn
        · have d1 : decide (0 < wn) = true := by simpa using hw
          have d1' : decide ((0 : Int) < (wn : Int)) = true := by simp; omega
          have HO2 := Lib.hid (SuR.next HO.out HS.out (might_2 (by rw [← HW.out]; exact hw)))
          clear HO
          go_wp2_with fail
          go_roundw
          case rel => exact ⟨i + 1, by rw [HK2.out]; omega, by go_num, HO2.out.out, HBN.out⟩
          case measure => simp [intOf]; omega
        · have hw0 : wn = 0 := by omega
          subst hw0
          clear hw
          cases hd with
          | true =>
            have HM := Lib.hid (might_3 (x := x) HE.out.symm HW.out.symm HH.out.symm)
            have HL := Lib.hid (fun W => ritless s.last x W HSZ.out HHX.out)
            cases hk : kless s.last x with
            | true =>
              rw [hk] at HL HM
              obtain rfl : D = false := by rw [← HD.out, List.any_eq_true.2 ⟨s, List.mem_of_getElem? HS.out, HM.out⟩]; rfl
              clear HD HO HM hk
              go_wp2_with fail
              refine (HL.out _).mono ?_
              rintro e u ⟨rfl, hb⟩
              have HB := Lib.hid (HBN.out.trans (hb.mono HBN.out.size))
              clear hb HBN
              go_wp2_with fail
              go_ret
              exact ⟨rfl, HB0.out.trans (HB.out.mono HB0.out.size)⟩
            | false =>
              rw [hk] at HL HM
              have HO2 := Lib.hid (SuR.next HO.out HS.out HM.out)
              clear HO HM hk
              go_wp2_with fail
              refine (HL.out _).mono ?_
              rintro e u ⟨rfl, hb⟩
              have HB := Lib.hid (HBN.out.trans (hb.mono HBN.out.size))
              have z3' := (hb.cell (p := ⟨wr.heap.size, 3, none⟩) (cell?_lt z3)).trans z3
              clear hb HBN
              go_wp2_with fail
              go_roundw
              case rel => exact ⟨i + 1, by rw [HK2.out]; omega, by go_num, HO2.out.out, HB.out⟩
              case measure => simp [intOf]; omega
          | false =>
            have HM := Lib.hid (might_4 (x := x) HE.out.symm HW.out.symm HH.out.symm)
            by_cases hl : m.least ≤ x.1
            · have d2 : decide (m.least ≤ x.1) = true := by simpa using hl
              obtain rfl : D = false := by rw [← HD.out, List.any_eq_true.2 ⟨s, List.mem_of_getElem? HS.out, by rw [HM.out, ← HLE.out]; exact d2⟩]; rfl
              clear HD HO HM hl
              go_wp2_with fail
              go_ret
              exact ⟨rfl, HB0.out.trans (HBN.out.mono HB0.out.size)⟩
            · have d2 : decide (m.least ≤ x.1) = false := by simpa using hl
              have HO2 := Lib.hid (SuR.next HO.out HS.out (by rw [HM.out, ← HLE.out]; exact d2))
              clear HO HM hl
              go_wp2_with fail
              go_roundw
              case rel => exact ⟨i + 1, by rw [HK2.out]; omega, by go_num, HO2.out.out, HBN.out⟩
              case measure => simp [intOf]; omega
    · have hin : i = k2 := by omega
      subst hin
      obtain rfl : D = true := by
        rw [← HD.out, List.any_eq_false.2 (fun s hs => by
          obtain ⟨j, hj, e⟩ := List.mem_iff_getElem.1 hs
          rw [HO.out j s (by rw [← HK2.out]; exact hj) (by rw [← e]; exact List.getElem?_eq_getElem hj)]; simp)]
        rfl
      clear HD HO hlt
      go_wp2_with fail
      go_ret
      exact ⟨rfl, HB0.out.trans (HBB.out.mono HB0.out.size)⟩
end Go.Proofs.Ytjacebnjmhbcbaa
