/- The document's Tell: the walk. -/
import Derived.Test.YtjacebnjmhbcbaaMh6
namespace Go.Proofs.Ytjacebnjmhbcbaa
open Go.RowKit
set_option linter.unusedVariables false

def RTEnd (q : Nat) (n : Int) (qs c : Nat) (sp : List Value) (ta0 : Option Addr) (R0 : List MS) (w : World) (Res : List KeyL × List PS × List KeyL) (e : Ending) (w' : World) : Prop := ∃ (ao : Option Addr) (c' : Nat), e = .returned (.slice ao Res.1.length c') ∧ w'.ownsRow w.heap.size 31 2 (.slice ao Res.1.length c') Res.1.length (Res.1.flatMap KeyL.cells) ∧
  (∃ (R : List MS) (ta : Option Addr) (tc : Nat), RMx w' q n Res.2.1 Res.2.2 qs c R sp ta tc ∧ ∀ k, RItems ta R k → RItems ta0 R0 k ∨ w.heap.size ≤ k) ∧ Frm (fun i => i = q ∨ i = qs) w w'
theorem rt_end {q : Nat} {n : Int} {S : List PS} {T out : List KeyL} {qs c : Nat} {R R0 : List MS} {sp : List Value} {ta ta0 : Option Addr} {tc : Nat} {w wr w' : World} {ao : Option Addr} {lc : Nat} {Res : List KeyL × List PS × List KeyL} (hx : RMx wr q n S T qs c R sp ta tc) (ho : wr.ownsRow w.heap.size 31 2 (.slice ao out.length lc) out.length (out.flatMap KeyL.cells))
    (hi : ∀ k, RItems ta R k → RItems ta0 R0 k ∨ w.heap.size ≤ k) (hf : Frm (fun i => i = q ∨ i = qs) w wr) (hR : (out, S, T) = Res) (hb : Below wr.heap.size wr w') : RTEnd q n qs c sp ta0 R0 w Res (.returned (.slice ao out.length lc)) w' := by
  subst hR
  exact ⟨ao, lc, rfl, ownsRow_frm (S := fun _ => False) ho (Frm.below hb) (fun _ _ h => h.elim), ⟨R, ta, tc, hx.below hb, hi⟩, hf.trans (Frm.below (S := fun i => i = q ∨ i = qs) hb) (fun i h _ => h)⟩
def RtR (q : Nat) (n : Int) (qs c : Nat) (sp : List Value) (ta0 : Option Addr) (R0 : List MS) (w : World) (Res : List KeyL × List PS × List KeyL) (v3 : Value) (wr : World) : Prop := ∃ (S : List PS) (T out : List KeyL) (R : List MS) (ta : Option Addr) (tc : Nat) (ao : Option Addr) (lc : Nat),
  v3 = .slice ao out.length lc ∧ RowKit.Hid (RMx wr q n S T qs c R sp ta tc) ∧ RowKit.Hid (wr.ownsRow w.heap.size 31 2 (.slice ao out.length lc) out.length (out.flatMap KeyL.cells)) ∧ RowKit.Hid (∀ k, RItems ta R k → (Value.slice ao out.length lc).ownBlock ≠ some k) ∧ RowKit.Hid (∀ k, RItems ta R k → RItems ta0 R0 k ∨ w.heap.size ≤ k) ∧ RowKit.Hid (∀ k, RItems ta R k → k ≠ qs ∧ k ≠ q) ∧
  RowKit.Hid (Frm (fun i => i = q ∨ i = qs) w wr) ∧ RowKit.Hid ((T.length : Int) ≤ n) ∧ RowKit.Hid (tellA n (n.toNat - T.length) S T out = Res) ∧ RowKit.Hid (out.length ≤ T.length)
def rtM (v : Value) : Nat := match v with | .slice _ n _ => 10 - n | _ => 0
set_option linter.unusedSimpArgs false in
set_option maxRecDepth 100000 in
set_option maxHeartbeats 8000000 in
theorem rtell_any (q : Nat) (n : Int) (S : List PS) (T : List KeyL) (w : World) (qs c : Nat) (R0 : List MS) (sp : List Value) (ta0 : Option Addr) (tc : Nat) (hX : RMx w q n S T qs c R0 sp ta0 tc) (hT : (T.length : Int) ≤ n) (hri : ∀ k, RItems ta0 R0 k → k ≠ qs ∧ k ≠ q) :
    Calls Try.prog 27 #[.pointer (some ⟨q, 0, none⟩)] w (RTEnd q n qs c sp ta0 R0 w (tellP n S T)) := by
  obtain ⟨i0, hi, hz0, hz1, hz2⟩ := info_parts infoI2
  have HI := Lib.hid hi
  have HZ0 := Lib.hid hz0
  have HZ1 := Lib.hid hz1
  have HZ2 := Lib.hid hz2
  clear hi hz0 hz1 hz2
  obtain ⟨Res, hR⟩ : ∃ R, tellP n S T = R := ⟨_, rfl⟩
  rw [hR]
  unfold tellP at hR
  have hqw := hX.P.lt
  have hqsw := hX.G.lt
  have H0 : RowKit.Hid (RtR q n qs c sp ta0 R0 w Res (.slice none 0 0) w) := ⟨S, T, [], R0, ta0, tc, none, 0, rfl, hX, World.ownsRow_nil _ _ _ _, fun k _ => by simp [Value.ownBlock], fun k h => .inl h, hri, Frm.refl _ _, hT, hR, Nat.zero_le _⟩
  clear hX hR hT hri
  go_enter Try.func27, Try.ntmps27
  go_wp2_with fail
  go_loopw [3] (fun v3 wr => RtR q n qs c sp ta0 R0 w Res v3 wr) (fun v _ => rtM v)
  case atStart => exact H0.out
  case round =>
    clear H0
    obtain ⟨S', T', out, R', ta', tc', ao, lc, rfl, HX, HO, HA, HIT, HRI, HF, HT, HR, HL⟩ := hrel
    have HD := Lib.hid (rdone_any q n S' T' wr qs c R' sp ta' tc' HX.out HT.out)
    cases hd : doneP n S' T' with
    | true =>
      rw [hd] at HD
      have HE := Lib.hid (fun W hb => rt_end (w' := W) HX.out HO.out HIT.out HF.out ((tellA_stop (step_done hd) _ _).symm.trans HR.out) hb)
      clear hd HX HO HA HIT HRI HF HT HR HL
      go_wp2_with fail
      refine HD.out.mono ?_
      rintro e w1 ⟨rfl, hb⟩
      have HB1 := Lib.hid (hb.below wr.heap.size)
      clear hb HD
      go_wp2_with fail
      go_ret
      exact HE.out _ HB1.out
    | false =>
      rw [hd] at HD
      have hlt := not_done hd HT.out
      have HDD := Lib.hid hd
      have HLT := Lib.hid hlt
      clear hd hlt HT
      go_wp2_with fail
      refine HD.out.mono ?_
      rintro e w1 ⟨rfl, hb⟩
      have hb1 := hb.below wr.heap.size
      have HX1 := Lib.hid (HX.out.below hb1)
      have HB1 := Lib.hid hb1
      clear hb HD hb1
      obtain ⟨sl, hsl⟩ : ∃ sl, S'.length = sl := ⟨_, rfl⟩
      have HSL := Lib.hid hsl
      have hq1 := HX1.out.P.lt
      have hqs1 := HX1.out.G.lt
      have hbd := HX1.out.bd
      rw [hsl] at hbd
      clear hsl
      go_wp2_with fail
      go_loopw [4, 5] (fun v4 v5 w2 => ∃ i : Nat, i ≤ sl ∧ v5 = .int .i64 i ∧ v4 = .int .i64 (bestI (aheadP S' i)) ∧ RowKit.Hid (Below w1.heap.size w1 w2)) (fun _ v _ => sl - (intOf v).toNat)
      case atStart => exact ⟨0, Nat.zero_le _, rfl, rfl, Below.refl _ _⟩
      case round =>
        obtain ⟨i, hi, rfl, rfl, HB2⟩ := hrel
        have hX2 := HX1.out.below HB2.out
        have c0 := hX2.c3.1
        rw [HSL.out] at c0
        have j1 : (0 : Int) ≤ (i : Int) := by omega
        by_cases hlt : i < sl
        · skip
          have j2 : (i : Int) < (sl : Int) := by omega
          obtain ⟨m, s, hm, hs, hsh, hat⟩ := hX2.at (show i < S'.length by rw [HSL.out]; exact hlt)
          have y6 := hat.c2.2.2.2.2.2.2
          have hwl := hsh.wlen
          by_cases hw : m.wn = 0
          · have hA : aheadP S' (i + 1) = aheadP S' i := aheadP_0 hs (by rw [← hwl]; exact hw)
            rw [hw] at y6
            have HA2 := Lib.hid hA
            clear hA hm hs hsh hat hwl hw hX2
            generalize hbv : bestI (aheadP S' i) = bv
            have HBV := Lib.hid hbv
            clear hbv
            go_wp2_with fail
            go_quiet (fail)
            go_wp2_with fail
            go_roundw
            case rel => exact ⟨i + 1, by omega, by go_num, by rw [HA2.out, HBV.out], below_drewN HB2.out _⟩
            case measure => simp [intOf]; omega
          · have hw0 : 0 < s.waits.length := by rw [← hwl]; omega
            obtain ⟨wb, wo, hwa, p0, p1⟩ := hsh.head hw0
            obtain ⟨kw, hkw⟩ : ∃ k, m.wn = k + 1 := ⟨m.wn - 1, by omega⟩
            rw [hwa, hkw] at y6
            have d1 : decide ((0 : Int) < ((kw + 1 : Nat) : Int)) = true := by rw [decide_eq_true_eq]; omega
            have hwn0 : (0 : Int) < ((kw + 1 : Nat) : Int) := by omega
            have hwn1 : (0 : Int) < (kw : Int) + 1 := by omega
            have hsz := (hX2.sz s (List.mem_of_getElem? hs)).2 (headP s) (List.mem_of_getElem? (head_at hw0))
            have HSZ := Lib.hid hsz
            obtain ⟨x, hx⟩ : ∃ x, headP s = x := ⟨_, rfl⟩
            rw [hx] at p0 p1 HSZ
            have HXH := Lib.hid hx
            have hql := hX2.P.lt
            have hqsl := hX2.G.lt
            have hwbl := cell?_lt p0
            cases ha : aheadP S' i with
            | none =>
              have hA : aheadP S' (i + 1) = some i := aheadP_1 hs hw0 ha
              have HA2 := Lib.hid hA
              clear hA hm hs hsh hat hwl hw hX2 hx ha hsz
              rw [show bestI none = -1 from rfl]
              go_wp2_with fail
              go_quiet (fail)
              go_wp2_with fail
              go_roundw
              case rel => exact ⟨i + 1, by omega, by go_num, by rw [HA2.out]; rfl, below_drewN HB2.out _⟩
              case measure => simp [intOf]; omega
            | some b =>
              obtain ⟨hbi, t, ht, ht0⟩ := aheadP_lt ha
              have hbl : b < S'.length := (List.getElem?_eq_some_iff.1 ht).1
              obtain ⟨mb, t', hmb, ht', hshb, hatb⟩ := hX2.at hbl
              rw [ht] at ht'
              cases ht'
              obtain ⟨vb, vo, hva, v0, v1⟩ := hshb.head ht0
              have z6 := hatb.c2.2.2.2.2.2.2
              obtain ⟨kb, hkb⟩ : ∃ k, mb.wn = k + 1 := ⟨mb.wn - 1, by have := hshb.wlen; omega⟩
              rw [hva, hkb] at z6
              have hvn : (0 : Int) < ((kb + 1 : Nat) : Int) := by omega
              have hvn1 : (0 : Int) < (kb : Int) + 1 := by omega
              have hszb := (hX2.sz t (List.mem_of_getElem? ht)).2 (headP t) (List.mem_of_getElem? (head_at ht0))
              have HSB := Lib.hid hszb
              obtain ⟨y, hy⟩ : ∃ y, headP t = y := ⟨_, rfl⟩
              rw [hy] at v0 v1 HSB
              have hvbl := cell?_lt v0
              have hA : aheadP S' (i + 1) = if kless x y = true then some i else some b := by rw [← hx, ← hy]; exact aheadP_2 hs hw0 ha ht
              have b1 : (0 : Int) ≤ (b : Int) := by omega
              have b2 : (b : Int) < (sl : Int) := by have := HSL.out; omega
              have b3 : decide ((b : Int) < 0) = false := by simp
              have HLS := Lib.hid (fun W => ritless x y W HSZ.out HSB.out)
              have HGB : RowKit.Hid (Below wr.heap.size wr wr.drew) := below_drewN (Below.refl _ _) 1
              have HCC := Lib.hid (And.intro c0 (And.intro y6 (And.intro p0 (And.intro p1 (And.intro z6 (And.intro v0 v1))))))
              have HA2 := Lib.hid hA
              clear hA hm hs hsh hat hwl hw hX2 hx ha hsz ht hmb hshb hatb hva hy hszb hbl
              rw [show bestI (some b) = (b : Int) from rfl]
              cases hk : kless x y with
              | true =>
                rw [hk] at HLS HA2
                clear hk
                go_wp2_with fail
                go_region_held3 (fun w' => w'.cell? ⟨q, 0, none⟩ = some (.slice (some ⟨qs, 0, none⟩) sl c) ∧ w'.cell? ⟨qs, i * 7 + 6, none⟩ = some (.slice (some ⟨wb, wo, none⟩) (kw + 1 : Nat) m.wc) ∧ w'.cell? ⟨wb, wo, none⟩ = some (.int .i64 x.1) ∧ w'.cell? ⟨wb, wo + 1, none⟩ = some (.string x.2) ∧ w'.cell? ⟨qs, b * 7 + 6, none⟩ = some (.slice (some ⟨vb, vo, none⟩) (kb + 1 : Nat) mb.wc) ∧ w'.cell? ⟨vb, vo, none⟩ = some (.int .i64 y.1) ∧ w'.cell? ⟨vb, vo + 1, none⟩ = some (.string y.2)) (exact ⟨(HGB.out.cell (p := ⟨q, 0, none⟩) hql).trans HCC.out.1, (HGB.out.cell (p := ⟨qs, i * 7 + 6, none⟩) hqsl).trans HCC.out.2.1, (HGB.out.cell (p := ⟨wb, wo, none⟩) hwbl).trans HCC.out.2.2.1, (HGB.out.cell (p := ⟨wb, wo + 1, none⟩) hwbl).trans HCC.out.2.2.2.1, (HGB.out.cell (p := ⟨qs, b * 7 + 6, none⟩) hqsl).trans HCC.out.2.2.2.2.1, (HGB.out.cell (p := ⟨vb, vo, none⟩) hvbl).trans HCC.out.2.2.2.2.2.1, (HGB.out.cell (p := ⟨vb, vo + 1, none⟩) hvbl).trans HCC.out.2.2.2.2.2.2⟩) (first | (go_at_call 43; refine (HLS.out _).mono ?_; rintro e u ⟨rfl, hb⟩; have HSN := Lib.hid (HGB.out.trans (hb.mono HGB.out.size)); clear HGB; have HGB := HSN; clear HSN; clear hb))
                all_goals
                  go_wp2_with fail
                  go_roundw
                  case rel => exact ⟨i + 1, by omega, by go_num, by rw [HA2.out]; rfl, HB2.out.trans (HGB.out.mono HB2.out.size)⟩
                  case measure => simp [intOf]; omega
              | false =>
                rw [hk] at HLS HA2
                clear hk
                go_wp2_with fail
                go_region_held3 (fun w' => w'.cell? ⟨q, 0, none⟩ = some (.slice (some ⟨qs, 0, none⟩) sl c) ∧ w'.cell? ⟨qs, i * 7 + 6, none⟩ = some (.slice (some ⟨wb, wo, none⟩) (kw + 1 : Nat) m.wc) ∧ w'.cell? ⟨wb, wo, none⟩ = some (.int .i64 x.1) ∧ w'.cell? ⟨wb, wo + 1, none⟩ = some (.string x.2) ∧ w'.cell? ⟨qs, b * 7 + 6, none⟩ = some (.slice (some ⟨vb, vo, none⟩) (kb + 1 : Nat) mb.wc) ∧ w'.cell? ⟨vb, vo, none⟩ = some (.int .i64 y.1) ∧ w'.cell? ⟨vb, vo + 1, none⟩ = some (.string y.2)) (exact ⟨(HGB.out.cell (p := ⟨q, 0, none⟩) hql).trans HCC.out.1, (HGB.out.cell (p := ⟨qs, i * 7 + 6, none⟩) hqsl).trans HCC.out.2.1, (HGB.out.cell (p := ⟨wb, wo, none⟩) hwbl).trans HCC.out.2.2.1, (HGB.out.cell (p := ⟨wb, wo + 1, none⟩) hwbl).trans HCC.out.2.2.2.1, (HGB.out.cell (p := ⟨qs, b * 7 + 6, none⟩) hqsl).trans HCC.out.2.2.2.2.1, (HGB.out.cell (p := ⟨vb, vo, none⟩) hvbl).trans HCC.out.2.2.2.2.2.1, (HGB.out.cell (p := ⟨vb, vo + 1, none⟩) hvbl).trans HCC.out.2.2.2.2.2.2⟩) (first | (go_at_call 43; refine (HLS.out _).mono ?_; rintro e u ⟨rfl, hb⟩; have HSN := Lib.hid (HGB.out.trans (hb.mono HGB.out.size)); clear HGB; have HGB := HSN; clear HSN; clear hb))
                all_goals
                  go_wp2_with fail
                  go_roundw
                  case rel => exact ⟨i + 1, by omega, by go_num, by rw [HA2.out]; rfl, HB2.out.trans (HGB.out.mono HB2.out.size)⟩
                  case measure => simp [intOf]; omega
        · have hin : i = sl := by omega
          subst hin
          clear hlt
          cases ha : aheadP S' i with
          | none =>
            have ha' : aheadP S' S'.length = none := by rw [HSL.out]; exact ha
            have HE := Lib.hid (fun W hb => rt_end (w' := W) HX.out HO.out HIT.out HF.out ((tellA_stop (step_none ha') _ _).symm.trans HR.out) hb)
            have HBE := Lib.hid (HB1.out.trans (HB2.out.mono HB1.out.size))
            clear ha ha' HX HO HA HIT HRI HF HR HL hX2 HDD HLT HX1 HB1 HB2
            rw [show bestI none = -1 from rfl]
            go_wp2_with fail
            go_ret
            exact HE.out _ HBE.out
          | some b =>
            have ha' : aheadP S' S'.length = some b := by rw [HSL.out]; exact ha
            obtain ⟨hbi, s, hs, hs0⟩ := aheadP_lt ha
            have hbl : b < S'.length := (List.getElem?_eq_some_iff.1 hs).1
            obtain ⟨m, s', hm, hs', hsh, hat⟩ := hX2.at hbl
            rw [hs] at hs'
            cases hs'
            obtain ⟨wb, wo, hwa, p0, p1⟩ := hsh.head hs0
            have y6 := hat.c2.2.2.2.2.2.2
            obtain ⟨kw, hkw⟩ : ∃ k, m.wn = k + 1 := ⟨m.wn - 1, by have := hsh.wlen; omega⟩
            rw [hwa, hkw] at y6
            have hsz := (hX2.sz s (List.mem_of_getElem? hs)).2 (headP s) (List.mem_of_getElem? (head_at hs0))
            obtain ⟨x, hx⟩ : ∃ x, headP s = x := ⟨_, rfl⟩
            have hwn0 : (0 : Int) < ((kw + 1 : Nat) : Int) := by omega
            have hwn1 : (0 : Int) < (kw : Int) + 1 := by omega
            have b1 : (0 : Int) ≤ (b : Int) := by omega
            have b2 : (b : Int) < (i : Int) := by omega
            have b3 : decide ((b : Int) < 0) = false := by simp
            rw [hx] at p0 p1 hsz
            have HSU := Lib.hid (rsure_any q n S' T' x wr qs c R' sp ta' tc' hX2 hsz)
            have HXH := Lib.hid hx
            have HAA := Lib.hid ha'
            have HS := Lib.hid hs
            have HM := Lib.hid hm
            have HWA := Lib.hid hwa
            have HKW := Lib.hid hkw
            have H00 := Lib.hid hs0
            have HX2 := Lib.hid hX2
            clear ha ha' hs hbl hm hsh hat hwa hkw hsz hx hs0 hX2 hbi
            rw [show bestI (some b) = (b : Int) from rfl]
            cases hA2 : S'.any (fun t => t.might x) with
            | true =>
              rw [hA2] at HSU
              have HE := Lib.hid (fun W hb => rt_end (w' := W) HX.out HO.out HIT.out HF.out ((tellA_stop (step_might HAA.out HS.out (by rw [HXH.out]; exact hA2)) _ _).symm.trans HR.out) hb)
              have HBE := Lib.hid (HB1.out.trans (HB2.out.mono HB1.out.size))
              clear hA2 HX HO HA HIT HRI HF HR HL HDD HLT HX1 HB1 HB2
              go_wp2_with fail
              refine HSU.out.mono ?_
              rintro e u ⟨rfl, hb⟩
              have HBF := Lib.hid (HBE.out.trans (hb.mono HBE.out.size))
              clear hb HBE HSU
              go_wp2_with fail
              go_ret
              exact HE.out _ HBF.out
            | false =>
              rw [hA2] at HSU
              have hstep := step_some HDD.out HAA.out HS.out (by rw [HXH.out]; exact hA2)
              rw [HXH.out] at hstep
              have hrr := (tellA_go hstep HLT.out out).symm.trans HR.out
              have HRR := Lib.hid hrr
              have HBE := Lib.hid (HB1.out.trans (HB2.out.mono HB1.out.size))
              clear hA2 hstep hrr HR HDD HX1 HB1 HB2
              go_wp2_with fail
              refine HSU.out.mono ?_
              rintro e u ⟨rfl, hb⟩
              have hbf := HBE.out.trans (hb.mono HBE.out.size)
              have hb3 := hbf.alloc hbf.size (.cells #[.int .i64 x.1, .string x.2] 31)
              have hbx : Blk (u.alloc (.cells #[.int .i64 x.1, .string x.2] 31)) u.heap.size 31 [.int .i64 x.1, .string x.2] := heap_alloc_new u _
              have HB3 := Lib.hid hb3
              have HBX := Lib.hid hbx
              have hX3 := HX.out.below hb3
              have HX3 := Lib.hid hX3
              have y6' := (hb.cell (p := ⟨qs, b * 7 + 6, none⟩) HX2.out.G.lt).trans y6
              have p0' := (hb.cell (p := ⟨wb, wo, none⟩) (cell?_lt p0)).trans p0
              have p1' := (hb.cell (p := ⟨wb, wo + 1, none⟩) (cell?_lt p1)).trans p1
              have c0' := ((HX2.out.below hb).c3).1
              rw [HSL.out] at c0'
              clear hb hbf hb3 hbx HSU HBE HX2 y6 p0 p1 c0 hX3
              go_wp2_with fail
              generalize u.alloc (.cells #[.int .i64 x.1, .string x.2] 31) = u1 at *
              generalize u.heap.size = xb at *
              have hX3 := HX3.out
              obtain ⟨m2, s2, hm2, hs2, hsh, hat⟩ := hX3.at (show b < S'.length from (List.getElem?_eq_some_iff.1 HS.out).1)
              rw [HM.out] at hm2
              cases hm2
              rw [HS.out] at hs2
              cases hs2
              have t6 := hat.c2.2.2.2.2.2.2
              rw [HWA.out, HKW.out] at t6
              have q0 := hX3.c3.1
              rw [HSL.out] at q0
              have hrw := hsh.waits
              rw [HWA.out, HKW.out] at hrw
              have hwc : kw + 1 ≤ m.wc := hrw.2.1
              have hwm : m.wc ≤ maxLen := hrw.2.2.1
              unfold maxLen at hwm
              obtain ⟨o', ho', he'⟩ : ∃ o', (1 < kw + 1 → o' = wo + 1 * 2) ∧ (if m.wc = 1 then some (⟨wb, wo, none⟩ : Addr) else some ⟨wb, wo + 2, none⟩) = some ⟨wb, o', none⟩ := by
                by_cases h : m.wc = 1
                · exact ⟨wo, fun h' => by omega, by rw [if_pos h]⟩
                · exact ⟨wo + 2, fun _ => rfl, by rw [if_neg h]⟩
              have hdr := hrw.drop 1 (by omega) o' ho'
              rw [show kw + 1 - 1 = kw from rfl] at hdr
              have hwl := hsh.wlen
              have hsm := hsh.small
              have hkk : kw = s.waits.length - 1 := by rw [← hwl, HKW.out]; rfl
              have hk5 : kw ≤ 5 := by omega
              have HSD : RowKit.Hid (Src Try.prog 2 22 (.slice (some ⟨wb, o', none⟩) kw (m.wc - 1)) kw ((s.waits.drop 1).flatMap KeyL.cells) u1.drew) := Src.ofRdE (enc := KeyL.cells) (size := 2) Try.underlying22 (fun _ => rfl) itemOne (hdr.below (below_drewN (Below.refl _ _) 1) rfl)
              have A1 : 0 + kw ≤ maxLen := by unfold maxLen; omega
              have A2 : (0 + kw) * 24 ≤ 140737488355328 := by omega
              have hszw : w.heap.size ≤ u1.heap.size := Nat.le_trans HF.out.size HB3.out.size
              have HKK := Lib.hid hkk
              have hqsl := hX3.G.lt
              have hql := hX3.P.lt
              have k5 : (0 : Int) ≤ 1 := by decide
              have k6 : (1 : Int) ≤ (kw : Int) + 1 := by omega
              have fq := hX3.G.frozen (b * 7 + 6)
              clear hX3 hsh hat hrw hdr hwl hsm hkk ho' y6' p0' p1' c0'
              go_region_law (first | (refine step_app rfl (.const (.slice none 0 0)) (.tmp 98) 22 22 rfl u1.heap.size 31 i0 (.agg #[.int .i64 0, .string ⟨#[]⟩]) 2 24 Try.underlying22 HI.out HZ0.out HZ1.out HZ2.out rfl (by decide) none 0 0 [] (by kernel_rfl) (World.ownsRow_nil _ _ _ _) (.slice (some ⟨wb, o', none⟩) kw (m.wc - 1)) kw ((s.waits.drop 1).flatMap KeyL.cells) (by kernel_rfl) HSD.out A1 A2 (Nat.le_refl _) ?_; intro ao2 c2 u2 hown hg; rw [Nat.zero_add, List.nil_append] at hown; have hF2 : Frm (fun _ => False) u1 u2 := (Frm.refl (fun _ => False) u1).drew.trans (Frm.grown (S := fun _ => False) hg (fun g h => by simp [Value.ownBlock] at h)) (fun _ h _ => h); have hb9 := hF2.toBelow (B := u1.heap.size) (Nat.le_refl _) (fun _ _ h => h); have q0' := (hb9.cell (p := ⟨q, 0, none⟩) hql).trans q0; have t6' := (hb9.cell (p := ⟨qs, b * 7 + 6, none⟩) hqsl).trans t6; have fq' := (HX3.out.keep hF2 (fun _ h => h.elim)).G.frozen (b * 7 + 6); have HF2 := Lib.hid hF2; have HO2 := Lib.hid hown; clear hown hg hF2 hb9))
              all_goals
                have hx4 := rm_wait HX3.out (fun k h => (HRI.out k h).1) HM.out HS.out HF2.out HO2.out HKK.out
                have hX4 := hx4.1
                have hI4 := hx4.2
                have hri4 : ∀ k, RItems ta' (R'.set b (m.wait ao2 kw c2)) k → k ≠ qs ∧ k ≠ q := fun k h => by
                  rcases hI4 k h with h | h
                  · exact HRI.out k h
                  · have h1 := HX3.out.P.lt; have h2 := HX3.out.G.lt; exact ⟨by omega, by omega⟩
                have hF3 : Frm (fun i => i = qs) u1 (u2.setCell ⟨qs, b * 7 + 6, none⟩ (.slice ao2 kw c2)) := (Frm.mono (S' := fun i => i = qs) HF2.out (fun _ h _ => h.elim)).setCell _ _ (.inl rfl)
                have hbx3 := (HBX.out.frm HF2.out (fun h => h)).far ⟨qs, b * 7 + 6, none⟩ (.slice ao2 kw c2) (blk_ne HBX.out HX3.out.G (by decide))
                have hO3 := ownsRow_frm (ownsRow_frm HO.out (Frm.below (S := fun i => i = qs) HB3.out) (fun j hj e => ownsRow_ne HO.out HX.out.G (by decide) j hj e)) hF3 (fun j hj e => ownsRow_ne HO.out HX.out.G (by decide) j hj e)
                have hap3 : ∀ k, RItems ta' (R'.set b (m.wait ao2 kw c2)) k → (Value.slice ao out.length lc).ownBlock ≠ some k := fun k h e => by
                  rcases hI4 k h with h | h
                  · exact HA.out k h e
                  · have h1 := (HO.out.lt k e).2; have h2 := HB3.out.size; omega
                have hit3 : ∀ k, RItems ta' (R'.set b (m.wait ao2 kw c2)) k → RItems ta0 R0 k ∨ w.heap.size ≤ k := fun k h => by
                  rcases hI4 k h with h | h
                  · exact HIT.out k h
                  · exact .inr (by omega)
                have hFF3 := (HF.out.trans (Frm.below (S := fun i => i = q ∨ i = qs) HB3.out) (fun i h _ => h)).trans hF3 (fun i h _ => .inr h)
                have HX4 := Lib.hid hX4
                have HRI4 := Lib.hid hri4
                have HBX3 := Lib.hid hbx3
                have HO3 := Lib.hid hO3
                have HAP3 := Lib.hid hap3
                have HIT3 := Lib.hid hit3
                have HFF3 := Lib.hid hFF3
                have hszw3 : w.heap.size ≤ (u2.setCell ⟨qs, b * 7 + 6, none⟩ (.slice ao2 kw c2)).heap.size := hFF3.size
                clear hx4 hX4 hI4 hri4 hF3 hbx3 hO3 hap3 hit3 hFF3 q0 q0' t6 t6' fq fq' HF2 HO2 HX3 HBX HO HA HIT HRI HF HX HB3 HSD he' A1 A2
                generalize u2.setCell ⟨qs, b * 7 + 6, none⟩ (.slice ao2 kw c2) = u3 at *
                obtain ⟨tl, htl⟩ : ∃ tl, T'.length = tl := ⟨_, rfl⟩
                have HTL := Lib.hid htl
                have q2 := HX4.out.c3.2.2
                rw [htl] at q2
                have ht10 : tl + 1 ≤ 10 := by have := HLT.out; have := HX4.out.bd; omega
                have htd := HX4.out.told
                rw [htl] at htd
                have x0 := (HBX3.out.cell 0).trans (show _ = some (.int .i64 x.1) from rfl)
                have x1 := (HBX3.out.cell 1).trans (show _ = some (.string x.2) from rfl)
                have fq2 := HX4.out.P.frozen 2
                have hql3 := HX4.out.P.lt
                have hxl3 := HBX3.out.lt
                have hb0 : Below u3.heap.size u3 u3.drew := below_drewN (Below.refl _ _) 1
                have hbA : Below u3.heap.size u3 (u3.alloc (.cells #[.int .i64 x.1, .string x.2] 31)).drew := below_drewN ((Below.refl _ _).alloc (Nat.le_refl _) _) 1
                have HSA : RowKit.Hid (Src Try.prog 2 22 (.slice ta' tl tc') tl (T'.flatMap KeyL.cells) u3.drew) := Src.ofRdE (enc := KeyL.cells) (size := 2) Try.underlying22 (fun _ => rfl) itemOne (htd.below hb0 rfl)
                have HSB : RowKit.Hid (Src Try.prog 2 22 (.slice ta' tl tc') tl (T'.flatMap KeyL.cells) (u3.alloc (.cells #[.int .i64 x.1, .string x.2] 31)).drew) := Src.ofRdE (enc := KeyL.cells) (size := 2) Try.underlying22 (fun _ => rfl) itemOne (htd.below hbA rfl)
                have HNB : RowKit.Hid (Blk (u3.alloc (.cells #[.int .i64 x.1, .string x.2] 31)).drew u3.heap.size 31 [.int .i64 x.1, .string x.2]) := heap_alloc_new u3 _
                have q2A := (hbA.cell (p := ⟨q, 2, none⟩) hql3).trans q2
                have HBA := Lib.hid hbA
                have A3 : u3.heap.size ≤ (u3.alloc (.cells #[.int .i64 x.1, .string x.2] 31)).drew.heap.size := hbA.size
                have A4 : 0 + tl ≤ maxLen := by unfold maxLen; omega
                have A5 : (0 + tl) * 24 ≤ 140737488355328 := by omega
                have A6 : tl + 1 ≤ maxLen := by unfold maxLen; omega
                have A7 : (tl + 1) * 24 ≤ 140737488355328 := by omega
                clear htd htl hb0 hbA
                go_wp2_with fail
                go_region_law (first | (refine step_app rfl (.const (.slice none 0 0)) (.tmp 106) 22 22 rfl u3.heap.size 31 i0 (.agg #[.int .i64 0, .string ⟨#[]⟩]) 2 24 Try.underlying22 HI.out HZ0.out HZ1.out HZ2.out rfl (by decide) none 0 0 [] (by kernel_rfl) (World.ownsRow_nil _ _ _ _) (.slice ta' tl tc') tl (T'.flatMap KeyL.cells) (by kernel_rfl) HSA.out A4 A5 (Nat.le_refl _) ?_; intro ao1 c1 v1 hown hg; rw [Nat.zero_add, List.nil_append] at hown; have hF1 : Frm (fun _ => False) u3 v1 := ((Frm.refl (fun _ => False) u3).drew).trans (Frm.grown (S := fun _ => False) hg (fun g h => by simp [Value.ownBlock] at h)) (fun _ h _ => h); have hb9 := hF1.toBelow (B := u3.heap.size) (Nat.le_refl _) (fun _ _ h => h); have q2' := (hb9.cell (p := ⟨q, 2, none⟩) hql3).trans q2; have x0' := (hb9.cell (p := ⟨xb, 0, none⟩) hxl3).trans x0; have x1' := (hb9.cell (p := ⟨xb, 1, none⟩) hxl3).trans x1; have HF1 := Lib.hid hF1; have HO1 := Lib.hid hown; clear hown hg hF1 hb9) | (refine step_app rfl (.const (.slice none 0 0)) (.tmp 106) 22 22 rfl u3.heap.size 31 i0 (.agg #[.int .i64 0, .string ⟨#[]⟩]) 2 24 Try.underlying22 HI.out HZ0.out HZ1.out HZ2.out rfl (by decide) none 0 0 [] (by kernel_rfl) (World.ownsRow_nil _ _ _ _) (.slice ta' tl tc') tl (T'.flatMap KeyL.cells) (by kernel_rfl) HSB.out A4 A5 A3 ?_; intro ao1 c1 v1 hown hg; rw [Nat.zero_add, List.nil_append] at hown; have hF1 : Frm (fun _ => False) u3 v1 := (((Frm.refl (fun _ => False) u3).alloc _).drew).trans (Frm.grown (S := fun _ => False) hg (fun g h => by simp [Value.ownBlock] at h)) (fun _ h _ => h); have hb9 := hF1.toBelow (B := u3.heap.size) (Nat.le_refl _) (fun _ _ h => h); have q2' := (hb9.cell (p := ⟨q, 2, none⟩) hql3).trans q2; have x0' := (hb9.cell (p := ⟨xb, 0, none⟩) hxl3).trans x0; have x1' := (hb9.cell (p := ⟨xb, 1, none⟩) hxl3).trans x1; have HF1 := Lib.hid hF1; have HO1 := Lib.hid hown; have HNV := Lib.hid (HNB.out.frm (Frm.grown (S := fun _ => False) hg (fun g h => by simp [Value.ownBlock] at h)) (fun h => h)); clear hown hg hF1 hb9) | (refine step_app rfl (.tmp 107) (.tmp 109) 22 22 rfl u3.heap.size 31 i0 (.agg #[.int .i64 0, .string ⟨#[]⟩]) 2 24 Try.underlying22 HI.out HZ0.out HZ1.out HZ2.out rfl (by decide) ao1 tl c1 (T'.flatMap KeyL.cells) (by first | kernel_rfl | (simp [Act.eval, Act.put])) (HO1.out.alloc _) (.slice (some ⟨v1.heap.size, 0, none⟩) 1 1) 1 [.int .i64 x.1, .string x.2] (by kernel_rfl) (Src.two Try.underlying22 v1 _ _ 31 rfl rfl) A6 A7 (Nat.le_trans HF1.out.size (World.alloc_size_le _ _)) ?_; intro ao3 c3 v2 hown hg; have hF2 : Frm (fun _ => False) u3 v2 := (HF1.out.trans ((Frm.refl (fun _ => False) v1).alloc _) (fun _ h _ => h)).trans (Frm.grown (S := fun i => (Value.slice ao1 tl c1).ownBlock = some i) hg (fun _ h => h)) (fun i h hi => by have := own_ge HO1.out i h; omega); have hx5 := HX4.out.keep hF2 (fun _ h => h.elim); have q2'' := hx5.c3.2.2; have fq2'' := hx5.P.frozen 2; have HF5 := Lib.hid hF2; have HO5 := Lib.hid hown; clear hown hg hF2 hx5) | (refine step_app rfl (.tmp 107) (.tmp 109) 22 22 rfl u3.heap.size 31 i0 (.agg #[.int .i64 0, .string ⟨#[]⟩]) 2 24 Try.underlying22 HI.out HZ0.out HZ1.out HZ2.out rfl (by decide) ao1 tl c1 (T'.flatMap KeyL.cells) (by first | kernel_rfl | (simp [Act.eval, Act.put])) HO1.out (.slice (some ⟨u3.heap.size, 0, none⟩) 1 1) 1 [.int .i64 x.1, .string x.2] (by kernel_rfl) (Src.ofSlice _ Try.underlying22 ⟨u3.heap.size, 0, none⟩ 1 1 [.int .i64 x.1, .string x.2] rfl (World.news_of_block HNV.out) (itemOne x)) A6 A7 HF1.out.size ?_; intro ao3 c3 v2 hown hg; have hF2 : Frm (fun _ => False) u3 v2 := (HF1.out.trans (Frm.refl (fun _ => False) v1) (fun _ h _ => h)).trans (Frm.grown (S := fun i => (Value.slice ao1 tl c1).ownBlock = some i) hg (fun _ h => h)) (fun i h hi => by have := own_ge HO1.out i h; omega); have hx5 := HX4.out.keep hF2 (fun _ h => h.elim); have q2'' := hx5.c3.2.2; have fq2'' := hx5.P.frozen 2; have HF5 := Lib.hid hF2; have HO5 := Lib.hid hown; clear hown hg hF2 hx5))
                all_goals
                  have htl := HTL.out
                  subst htl
                  have hX6 := rm_told HX4.out (fun k h => (HRI4.out k h).2) (x := x) ht10 HF5.out HO5.out
                  have hin6 : ∀ k, RItems ao3 (R'.set b (m.wait ao2 kw c2)) k → RItems ta' (R'.set b (m.wait ao2 kw c2)) k ∨ u3.heap.size ≤ k := fun k h => by
                    rcases h with ⟨o, s', e'⟩ | h
                    · have h7 := HO5.out
                      rw [e'] at h7
                      exact .inr (own_blk h7).1
                    · exact .inl (Or.inr h)
                  have hF6 : Frm (fun i => i = q) u3 (v2.setCell ⟨q, 2, none⟩ (.slice ao3 (T'.length + 1) c3)) := (Frm.mono (S' := fun i => i = q) HF5.out (fun _ h _ => h.elim)).setCell _ _ (.inl rfl)
                  have hbx6 := (HBX3.out.frm HF5.out (fun h => h)).far ⟨q, 2, none⟩ (.slice ao3 (T'.length + 1) c3) (blk_ne HBX3.out HX4.out.P (by decide))
                  have hO6 := ownsRow_frm HO3.out hF6 (fun j hj e => ownsRow_ne HO3.out HX4.out.P (by decide) j hj e)
                  have hap6 : ∀ k, RItems ao3 (R'.set b (m.wait ao2 kw c2)) k → (Value.slice ao out.length lc).ownBlock ≠ some k := fun k h e => by
                    rcases hin6 k h with h | h
                    · exact HAP3.out k h e
                    · have h1 := (HO3.out.lt k e).2; omega
                  have hit6 : ∀ k, RItems ao3 (R'.set b (m.wait ao2 kw c2)) k → RItems ta0 R0 k ∨ w.heap.size ≤ k := fun k h => by
                    rcases hin6 k h with h | h
                    · exact HIT3.out k h
                    · exact .inr (by omega)
                  have hri6 : ∀ k, RItems ao3 (R'.set b (m.wait ao2 kw c2)) k → k ≠ qs ∧ k ≠ q := fun k h => by
                    rcases hin6 k h with h | h
                    · exact HRI4.out k h
                    · have h1 := HX4.out.P.lt; have h2 := HX4.out.G.lt; exact ⟨by omega, by omega⟩
                  have hFF6 := HFF3.out.trans hF6 (fun i h _ => .inl h)
                  have HX6 := Lib.hid hX6
                  have HBX6 := Lib.hid hbx6
                  have HO6 := Lib.hid hO6
                  have HAP6 := Lib.hid hap6
                  have HIT6 := Lib.hid hit6
                  have HRI6 := Lib.hid hri6
                  have HFF6 := Lib.hid hFF6
                  have hsz6 : w.heap.size ≤ (v2.setCell ⟨q, 2, none⟩ (.slice ao3 (T'.length + 1) c3)).heap.size := hFF6.size
                  have hol := HL.out
                  clear hX6 hin6 hF6 hbx6 hO6 hap6 hit6 hri6 hFF6 HX4 HRI4 HBX3 HO3 HAP3 HIT3 HFF3 HF5 HO5 HF1 HO1 q2 q2' q2'' fq2 fq2'' x0 x1 x0' x1' q2A HSA HSB HNB HBA A3 A4 A5 A6 A7
                  generalize v2.setCell ⟨q, 2, none⟩ (.slice ao3 (T'.length + 1) c3) = u6 at *
                  have y0 := (HBX6.out.cell 0).trans (show _ = some (.int .i64 x.1) from rfl)
                  have y1 := (HBX6.out.cell 1).trans (show _ = some (.string x.2) from rfl)
                  have HO7 : RowKit.Hid ((u6.alloc (.cells #[.int .i64 x.1, .string x.2] 31)).ownsRow w.heap.size 31 2 (.slice ao out.length lc) out.length (out.flatMap KeyL.cells)) := HO6.out.alloc _
                  have HN7 : RowKit.Hid (∀ j u, ([.int .i64 x.1, .string x.2] : List Value)[j]? = some u → (u6.alloc (.cells #[.int .i64 x.1, .string x.2] 31)).cell? ((⟨u6.heap.size, 0, none⟩ : Addr).add j) = some u) := World.news_of_block (heap_alloc_new u6 _)
                  have D1 : out.length + 1 ≤ maxLen := by unfold maxLen; omega
                  have D2 : (out.length + 1) * 24 ≤ 140737488355328 := by omega
                  have D3 : w.heap.size ≤ (u6.alloc (.cells #[.int .i64 x.1, .string x.2] 31)).heap.size := Nat.le_trans hsz6 (World.alloc_size_le _ _)
                  go_wp2_with (at_builtin; refine wpList_append_lies _ rfl _ _ 22 rfl w.heap.size 31 i0 (.agg #[.int .i64 0, .string ⟨#[]⟩]) 2 24 Try.underlying22 HI.out HZ0.out HZ1.out HZ2.out rfl (by decide) (.slice ao out.length lc) out.length (out.flatMap KeyL.cells) rfl HO7.out ⟨u6.heap.size, 0, none⟩ 1 1 [.int .i64 x.1, .string x.2] rfl rfl HN7.out (itemOne x) (by decide) D1 D2 D3 (u6.heap.size + 1) (by simp) ?_; intro g cap u7 hown hgr hat hlt; have HO8 := Lib.hid hown; have HGR := Lib.hid hgr; have HAT := Lib.hid hat; clear hown hgr hat)
                  have hF8 : Frm (fun i => (Value.slice ao out.length lc).ownBlock = some i) u6 u7 := ((Frm.refl (fun i => (Value.slice ao out.length lc).ownBlock = some i) u6).alloc _).trans (Frm.grown (S := fun i => (Value.slice ao out.length lc).ownBlock = some i) HGR.out (fun _ h => h)) (fun i h _ => h)
                  have hX8 := HX6.out.keep hF8 (fun k hk => ⟨ownsRow_ne HO6.out HX6.out.P (by decide) k hk, ownsRow_ne HO6.out HX6.out.G (by decide) k hk, fun h => HAP6.out k h hk⟩)
                  have hap8 : ∀ k, RItems ao3 (R'.set b (m.wait ao2 kw c2)) k → (Value.slice (some ⟨g, 0, none⟩) (out ++ [x]).length cap).ownBlock ≠ some k := fun k h e => by
                    simp only [Value.ownBlock, Option.some.injEq] at e
                    subst e
                    rcases HAT.out with h1 | h1
                    · exact HAP6.out _ h h1
                    · have := HX6.out.itlt _ h; omega
                  have hFF8 := HFF6.out.trans hF8 (fun i h hi => by have := own_ge HO6.out i h; omega)
                  have HX8 := Lib.hid hX8
                  have HAP8 := Lib.hid hap8
                  have HFF8 := Lib.hid hFF8
                  have hlt9 := HLT.out
                  go_wp2_with fail
                  go_roundw
                  case rel => exact ⟨S'.set b s.less, T' ++ [x], out ++ [x], R'.set b (m.wait ao2 kw c2), ao3, c3, some ⟨g, 0, none⟩, cap, by rw [List.length_append]; rfl, HX8.out, by rw [List.length_append, List.flatMap_append, List.flatMap_singleton]; exact HO8.out, HAP8.out, HIT6.out, HRI6.out, HFF8.out, by rw [List.length_append, List.length_singleton]; unfold RowKit.Hid; omega, HRR.out, by rw [List.length_append, List.length_append]; unfold RowKit.Hid; omega⟩
                  case measure => simp [rtM]; omega
end Go.Proofs.Ytjacebnjmhbcbaa
