/- The walk of the statement PartWhole: each word is one shard's; all shards together have all words, each once. -/
import Derived.Test.YtnnkebhpmegkfaaPartB
import Derived.Test.YtnnkebhpmegkfaaTexts4
namespace Go.Proofs.Ytnnkebhpmegkfaa
open Go.RowKit
set_option linter.unusedVariables false

def uptoP (ks : List KeyL) (s : Nat) (x : ByteArray) : Bool := decide (0 ≤ ofN ks x) && decide (ofN ks x < (s : Int))
def uptoL (ks : List KeyL) (l : List ByteArray) (s : Nat) : List ByteArray := l.filter (uptoP ks s)
theorem uptoL_0 (ks : List KeyL) (l : List ByteArray) : uptoL ks l 0 = [] := by
  unfold uptoL uptoP
  rw [List.filter_eq_nil_iff]
  intro x _; simp
theorem upto_or (ks : List KeyL) (s : Nat) (x : ByteArray) : (uptoP ks s x || sliceP ks (s : Int) x) = uptoP ks (s + 1) x := by
  unfold uptoP sliceP
  rw [Bool.eq_iff_iff]
  simp; omega
theorem upto_dis (ks : List KeyL) (s : Nat) (x : ByteArray) : ¬ (uptoP ks s x = true ∧ sliceP ks (s : Int) x = true) := by
  unfold uptoP sliceP; simp; omega
theorem uptoL_succ (ks : List KeyL) (l : List ByteArray) (s : Nat) (h : l.Pairwise (fun a b => tless a b = true)) : mergeL (uptoL ks l s) (sliceL ks l (s : Int)) = uptoL ks l (s + 1) := by
  unfold uptoL sliceL
  rw [merge_filter _ _ l h (fun x _ => upto_dis ks s x)]
  congr 1; funext x; exact upto_or ks s x
theorem uptoL_len (ks : List KeyL) (l : List ByteArray) (s : Nat) : (uptoL ks l (s + 1)).length = (uptoL ks l s).length + (sliceL ks l (s : Int)).length := by
  unfold uptoL sliceL
  induction l with
  | nil => rfl
  | cons x l ih =>
    have ho := upto_or ks s x
    have hd := upto_dis ks s x
    rw [List.filter_cons, List.filter_cons, List.filter_cons]
    cases h1 : uptoP ks s x <;> cases h2 : sliceP ks (s : Int) x <;> rw [h1, h2] at ho hd
    · rw [← ho]; simpa using ih
    · rw [← ho]; simp; omega
    · rw [← ho]; simp; omega
    · simp at hd
theorem uptoL_all (ks : List KeyL) (l : List ByteArray) (hg : goodE ks = 0) (hw : ∀ x ∈ l, isWord x = true) : uptoL ks l (ks.length + 1) = l := by
  unfold uptoL
  rw [List.filter_eq_self]
  intro x hx
  have := len_in ks x hg (hw x hx)
  unfold uptoP; simp; omega
theorem sliceL_none (ks : List KeyL) (l : List ByteArray) (hg : goodE ks = 0) (hw : ∀ x ∈ l, isWord x = true) : sliceL ks l ((ks.length : Int) + 1) = [] := by
  unfold sliceL
  rw [List.filter_eq_nil_iff]
  intro x hx
  have := len_in ks x hg (hw x hx)
  unfold sliceP; simp; omega
def inS (ks : List KeyL) (s : Int) (l : List ByteArray) : Prop := ∀ x ∈ l, ofN ks x = s ∧ lenLo ks s ≤ tLen x ∧ tLen x ≤ lenHi ks s ∧ x.size ≤ maxLen
theorem sliceL_in (ks : List KeyL) (l : List ByteArray) (s : Int) (hg : goodE ks = 0) (hw : ∀ x ∈ l, isWord x = true) (hs : ∀ x ∈ l, x.size ≤ maxLen) : inS ks s (sliceL ks l s) := by
  intro x hx
  obtain ⟨hm, hp⟩ := List.mem_filter.1 hx
  have := len_in ks x hg (hw x hm)
  unfold sliceP at hp
  simp at hp
  rw [hp.2] at this
  exact ⟨hp.2, this.1, this.2.1, hs x hm⟩
theorem goodE_k {l : List KeyL} (h : goodE l = 0) : ∀ x ∈ l, -1000 ≤ x.1 ∧ x.1 ≤ 1000 := by
  intro x hx
  have := ((goodE_iff l).1 h).2.1 x hx
  unfold badK at this
  simp at this
  omega
def WRel (ks : List KeyL) (l : List ByteArray) (w : World) (v5 v6 v7 : Value) (wr : World) : Prop := ∃ (s : Nat) (ao : Option Addr) (q c : Nat), s ≤ ks.length + 1 ∧ v7 = .int .i64 s ∧ v5 = .slice ao q c ∧ v6 = .int .i64 q ∧ q ≤ 80 ∧ RowKit.Hid ((uptoL ks l s).length = q) ∧ RowKit.Hid (RdT wr ao q c (uptoL ks l s)) ∧ RowKit.Hid (Below w.heap.size w wr)
set_option maxRecDepth 100000 in
set_option maxHeartbeats 8000000 in
theorem whole_law (a : Option Addr) (n cap : Nat) (ks : List KeyL) (b : Option Addr) (m bc : Nat) (l : List ByteArray) (w : World) (hr : RdE KeyL.cells 2 w a n cap ks) (hs : ∀ x ∈ ks, x.2.size ≤ maxLen) (ht : RdT w b m bc l) (hs2 : ∀ x ∈ l, x.size ≤ maxLen) :
    Calls Try.prog 12 #[.slice a n cap, .slice b m bc] w fun e w' => e = .returned (.bool true) ∧ Below w.heap.size w w' := by
  have hn := hr.1
  subst hn
  have hn2 := ht.len
  subst hn2
  have hcap := hr.2.1
  have hcm := hr.2.2.1
  have hcap2 := ht.2.1
  have hcm2 := ht.2.2.1
  unfold maxLen at hcm hcm2
  have HS := Lib.hid hs
  have HS2 := Lib.hid hs2
  have HR := Lib.hid hr
  have HT := Lib.hid ht
  have HB := Lib.hid (Below.refl w.heap.size w)
  clear hr hs ht hs2
  go_enter Try.func12, Try.ntmps12
  go_wp2_with fail
  refine (great12_any a ks.length cap ks w HR.out HS.out).mono ?_
  rintro e v1 ⟨rfl, hb⟩
  have HB1 := Lib.hid (HB.out.trans (hb.mono HB.out.size))
  clear hb HB
  obtain ⟨g1, hg1⟩ : ∃ g, greatK ks = g := ⟨_, rfl⟩
  rw [hg1]
  have Hg1 := Lib.hid hg1
  clear hg1
  cases g1
  case true =>
    go_wp2_with fail
    refine (awake12_any _).mono ?_
    rintro e v2 ⟨rfl, hb⟩
    have HB2 := Lib.hid (HB1.out.trans (hb.mono HB1.out.size))
    clear hb HB1
    go_wp2_with fail
    go_ret
    exact ⟨rfl, HB2.out⟩
  case false =>
    go_wp2_with fail
    refine (greatT_any b l.length bc l _ (HT.out.below HB1.out rfl) HS2.out).mono ?_
    rintro e w' ⟨rfl, rfl⟩
    obtain ⟨g2, hg2⟩ : ∃ g, greatT l = g := ⟨_, rfl⟩
    rw [hg2]
    have Hg2 := Lib.hid hg2
    clear hg2
    cases g2
    case true =>
      go_wp2_with fail
      refine (awake12_any _).mono ?_
      rintro e v2 ⟨rfl, hb⟩
      have HB2 := Lib.hid (HB1.out.trans (hb.mono HB1.out.size))
      clear hb HB1
      go_wp2_with fail
      go_ret
      exact ⟨rfl, HB2.out⟩
    case false =>
      go_wp2_with fail
      refine (good_any a ks.length cap ks _ (HR.out.below HB1.out rfl) HS.out).mono ?_
      rintro e v2 ⟨rfl, hb⟩
      have HB2 := Lib.hid (HB1.out.trans (hb.mono HB1.out.size))
      clear hb HB1
      obtain ⟨g3, hg3⟩ : ∃ g, goodE ks = g := ⟨_, rfl⟩
      rw [hg3]
      have Hg3 := Lib.hid hg3
      clear hg3
      by_cases g30 : g3 = 0
      ·
        subst g30
        go_wp2_with fail
        refine (lgood_any b l.length bc l _ (HT.out.below HB2.out rfl) HS2.out).mono ?_
        rintro e v3 ⟨rfl, hb⟩
        have HB3 := Lib.hid (HB2.out.trans (hb.mono HB2.out.size))
        clear hb HB2
        obtain ⟨g4, hg4⟩ : ∃ g, goodT l = g := ⟨_, rfl⟩
        rw [hg4]
        have Hg4 := Lib.hid hg4
        clear hg4
        by_cases g40 : g4 = 0
        ·
          subst g40
          obtain ⟨hl60, hw, hpw⟩ := goodT_of Hg4.out
          have hk5 := ((goodE_iff ks).1 Hg3.out).1
          have HK := Lib.hid (goodE_k Hg3.out)
          have HWD := Lib.hid hw
          have HPW := Lib.hid hpw
          have HU0 := Lib.hid (uptoL_0 ks l)
          have hzz := HB3.out.size
          clear hw hpw
          go_wp2_with fail
          go_loopw [5, 6, 7] (fun v5 v6 v7 wr => WRel ks l w v5 v6 v7 wr) (fun _ _ v7 _ => ks.length + 2 - (intOf v7).toNat)
          case atStart => exact ⟨0, none, 0, 0, by omega, rfl, rfl, rfl, by omega, (by unfold RowKit.Hid; rw [HU0.out]; rfl), (by unfold RowKit.Hid RdT; rw [HU0.out]; exact rd_nil _ _ rfl), HB3.out⟩
          case round =>
            skip
            obtain ⟨s, ao, q, c, hsl, rfl, rfl, rfl, hq, HQ, HAL, HB⟩ := hrel
            by_cases hlt : s ≤ ks.length
            ·
              have dle : decide (s ≤ ks.length) = true := by simpa using hlt
              go_wp2_with fail
              refine (slice_any a ks.length cap ks b l.length bc l s _ (HR.out.below HB.out rfl) (by omega) (HT.out.below HB.out rfl) (by omega) HS2.out).mono ?_
              rintro e v21 ⟨xo, xc, rfl, hox, hb⟩
              have HB21 := Lib.hid (HB.out.trans (hb.mono HB.out.size))
              have HAL1 := Lib.hid (HAL.out.below hb rfl)
              have HX := Lib.hid (show RdT v21 xo (sliceL ks l s).length xc (sliceL ks l s) from ownsRow_rd hox)
              clear hb HB HAL hox
              have HIN := Lib.hid (sliceL_in ks l s Hg3.out HWD.out HS2.out)
              have HSU := Lib.hid (uptoL_succ ks l s HPW.out)
              have hsl2 := uptoL_len ks l s
              rw [HQ.out] at hsl2
              have hul : (uptoL ks l (s + 1)).length ≤ 60 := Nat.le_trans (List.length_filter_le _ _) hl60
              have HSL := Lib.hid hsl2
              obtain ⟨x, hx⟩ : ∃ x, sliceL ks l (s : Int) = x := ⟨_, rfl⟩
              rw [hx] at HX HIN HSU HSL hsl2 ⊢
              clear hx
              go_wp2_with fail
              refine (lens_any a ks.length cap ks s _ (HR.out.below HB21.out rfl) (by omega) HK.out).mono ?_
              rintro e w' ⟨rfl, rfl⟩
              obtain ⟨lo, hlo⟩ : ∃ g, lenLo ks (s : Int) = g := ⟨_, rfl⟩
              obtain ⟨hi, hhi⟩ : ∃ g, lenHi ks (s : Int) = g := ⟨_, rfl⟩
              have HIN2 : RowKit.Hid (∀ y ∈ x, ofN ks y = s ∧ lo ≤ tLen y ∧ tLen y ≤ hi ∧ y.size ≤ maxLen) := by have := HIN.out; unfold inS at this; rw [hlo, hhi] at this; exact this
              rw [hlo, hhi]
              clear hlo hhi HIN
              have hxl : x.length ≤ 60 := by omega
              have hqx : q + x.length ≤ 60 := by omega
              clear hsl2
              go_wp2_with fail
              go_loopw [11] (fun i wr => ∃ k : Nat, k ≤ x.length ∧ i = .int .i64 k ∧ RowKit.Hid (Below v21.heap.size v21 wr)) (fun i _ => x.length - (intOf i).toNat)
              case atStart => exact ⟨0, by omega, rfl, Below.refl _ _⟩
              case round =>
                obtain ⟨k, hk, rfl, HV⟩ := hrel
                have hvz := HB21.out.size
                have HBB := Lib.hid (HB21.out.trans (HV.out.mono hvz))
                by_cases hlt2 : k < x.length
                ·
                  obtain ⟨y, hy⟩ : ∃ y, x[k]? = some y := ⟨x[k], List.getElem?_eq_getElem hlt2⟩
                  obtain ⟨i1, i2, i3, i4⟩ := HIN2.out y (List.mem_iff_getElem?.2 ⟨k, hy⟩)
                  obtain ⟨gb, goff, rfl, hbl, c0⟩ := HX.out.at hy
                  have c1 := (HV.out.cell (p := ⟨gb, goff + k, none⟩) hbl).trans c0
                  clear c0 hy
                  have HY4 := Lib.hid i4
                  have HOF := Lib.hid i1
                  clear i1 i4
                  have HL := Lib.hid (fun W => len_any y W HY4.out)
                  have hbd := tLen_bd y
                  generalize tLen y = z at HL i2 i3 hbd
                  have d2 : decide (z < lo) = false := by simp; omega
                  have d3 : decide (hi < z) = false := by simp; omega
                  go_wp2_with fail
                  refine (of_any a ks.length cap ks y _ (HR.out.below HBB.out rfl) (by omega) HY4.out).mono ?_
                  rintro e v31 ⟨rfl, hb⟩
                  rw [HOF.out]
                  have HV1 := Lib.hid (HV.out.trans (hb.mono HV.out.size))
                  have c2 := (hb.cell (p := ⟨gb, goff + k, none⟩) (Nat.lt_of_lt_of_le hbl HV.out.size)).trans c1
                  clear hb c1 HV HBB
                  go_wp2_with fail
                  refine (HL.out _).mono ?_
                  rintro e v32 ⟨rfl, hb⟩
                  have HV2 := Lib.hid (HV1.out.trans (hb.mono HV1.out.size))
                  have c3 := (hb.cell (p := ⟨gb, goff + k, none⟩) (Nat.lt_of_lt_of_le hbl HV1.out.size)).trans c2
                  clear hb c2 HV1
                  go_wp2_with fail
                  refine (HL.out _).mono ?_
                  rintro e v33 ⟨rfl, hb⟩
                  have HV3 := Lib.hid (HV2.out.trans (hb.mono HV2.out.size))
                  clear hb c3 HV2
                  go_wp2_with fail
                  go_roundw
                  case rel => exact ⟨k + 1, by omega, by go_num, HV3.out⟩
                  case measure => simp [intOf]; omega
                ·
                  obtain rfl : k = x.length := by omega
                  have HA2 := Lib.hid (HAL1.out.below HV.out rfl)
                  have HX2 := Lib.hid (HX.out.below HV.out rfl)
                  clear HAL1 HX HV
                  go_wp2_with fail
                  refine (merge_any ao q c (uptoL ks l s) xo x.length xc x _ HA2.out HX2.out (by rw [HQ.out]; omega)).mono ?_
                  rintro e v40 ⟨ro, rc, rfl, hor, hb⟩
                  rw [HSU.out, HSL.out] at hor
                  have HB40 := Lib.hid (HBB.out.trans (hb.mono HBB.out.size))
                  have HA3 := Lib.hid (show RdT v40 ro (q + x.length) rc (uptoL ks l (s + 1)) from ownsRow_rd hor)
                  clear hb hor HBB
                  rw [HSU.out, HSL.out]
                  go_wp2_with fail
                  go_roundw
                  case rel =>
                    exact ⟨s + 1, ro, q + x.length, rc, by omega, by go_num, rfl, by go_num, by omega, HSL.out, HA3.out, HB40.out⟩
                  case measure => simp [intOf]; omega
            ·
              obtain rfl : s = ks.length + 1 := by omega
              have dle : decide (ks.length + 1 ≤ ks.length) = false := by simp
              have HAA := Lib.hid (uptoL_all ks l Hg3.out HWD.out)
              rw [HAA.out] at HAL HQ
              have hq2 := HQ.out
              subst hq2
              clear HQ
              have heq : eqTs l l = true := by simp [eqTs]
              go_wp2_with fail
              refine (sameT_any ao l.length c b l.length bc l l _ HAL.out (HT.out.below HB.out rfl)).mono ?_
              rintro e v50 ⟨rfl, hb⟩
              rw [heq]
              have HB50 := Lib.hid (HB.out.trans ((hb.below _).mono HB.out.size))
              clear hb HB heq
              go_wp2_with fail
              refine (slice_any a ks.length cap ks b l.length bc l ((ks.length : Int) + 1) _ (HR.out.below HB50.out rfl) (by omega) (HT.out.below HB50.out rfl) (by omega) HS2.out).mono ?_
              rintro e v51 ⟨xo, xc, rfl, hox, hb⟩
              have HB51 := Lib.hid (HB50.out.trans (hb.mono HB50.out.size))
              clear hb hox HB50
              rw [sliceL_none ks l Hg3.out HWD.out]
              go_wp2_with fail
              refine (awake12_any _).mono ?_
              rintro e v52 ⟨rfl, hb⟩
              have HB52 := Lib.hid (HB51.out.trans (hb.mono HB51.out.size))
              clear hb HB51
              go_wp2_with fail
              go_ret
              exact ⟨rfl, HB52.out⟩
        ·
          have g0' : (g4 == 0) = false := by simpa using g40
          have g0'' : (g4 != 0) = true := by simpa using g40
          go_wp2_with fail
          refine (awake12_any _).mono ?_
          rintro e v4 ⟨rfl, hb⟩
          have HB4 := Lib.hid (HB3.out.trans (hb.mono HB3.out.size))
          clear hb HB3
          go_wp2_with fail
          go_ret
          exact ⟨rfl, HB4.out⟩
      ·
        have g0' : (g3 == 0) = false := by simpa using g30
        have g0'' : (g3 != 0) = true := by simpa using g30
        go_wp2_with fail
        refine (awake12_any _).mono ?_
        rintro e v3 ⟨rfl, hb⟩
        have HB3 := Lib.hid (HB2.out.trans (hb.mono HB2.out.size))
        clear hb HB2
        go_wp2_with fail
        go_ret
        exact ⟨rfl, HB3.out⟩
end Go.Proofs.Ytnnkebhpmegkfaa
