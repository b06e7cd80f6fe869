/- A configuration, plain; how great it is. -/
import Derived.Test.YtjdanngkmkgidaaPGood
import Derived.Test.YtjdanngkmkgidaaTexts1
namespace Go.Proofs.Ytjdanngkmkgidaa
open Go.RowKit
set_option linter.unusedVariables false

/-- a configuration as it lies in a value: where its words and cuts are, what they read as, its numbers -/
structure CfgM where
  aw : Option Addr
  nw : Nat
  cw : Nat
  ac : Option Addr
  nc : Nat
  cc : Nat
  words : List ByteArray
  cuts : List KeyL
  wk : Int
  cp : Int
  sl : Int
  ba : Int
  le : Int
  he : Int
  fi : Int
  ca : Int
  ji : Int
  ne : Int
def CfgM.val (c : CfgM) : Value := .agg #[.slice c.aw c.nw c.cw, .slice c.ac c.nc c.cc, .int .i64 c.wk, .int .i64 c.cp, .int .i64 c.sl, .int .i64 c.ba, .int .i64 c.le, .int .i64 c.he, .int .i64 c.fi, .int .i64 c.ca, .int .i64 c.ji, .int .i64 c.ne]
structure CfgOK (w : World) (c : CfgM) : Prop where
  rw : RdT w c.aw c.nw c.cw c.words
  rk : RdE KeyL.cells 2 w c.ac c.nc c.cc c.cuts
  hw : ∀ x ∈ c.words, x.size ≤ maxLen
  hk : ∀ x ∈ c.cuts, x.2.size ≤ maxLen
theorem CfgOK.below {w w' : World} {c : CfgM} (h : CfgOK w c) {B : Nat} (hb : Below B w w') (hB : B = w.heap.size) : CfgOK w' c :=
  ⟨h.rw.below hb hB, h.rk.below hb hB, h.hw, h.hk⟩
def inB (x a b : Int) : Bool := decide (a ≤ x) && decide (x ≤ b)
def nodesC (c : CfgM) : Bool := inB c.wk 1 5 && inB c.cp 1 (min 3 c.wk)
def sizesC (c : CfgM) : Bool := inB c.sl 1 4 && inB c.ba 1 5 && inB c.ne 8 64
def timesC (c : CfgM) : Bool := inB c.le 1 1000 && inB c.he 1 1000 && inB c.fi 1 10 && inB c.ca c.fi 50 && inB c.ji 0 10
/-- may a configuration be? -/
def mayC (c : CfgM) : Bool := decide (goodT c.words = 0) && decide (goodE c.cuts = 0) && (nodesC c && sizesC c && timesC c)
/-- how great are cuts? -/
def greatK (l : List KeyL) : Bool := decide (10 < l.length) || l.any fun k => decide (100 < k.2.size)
theorem greatK_false {l : List KeyL} (h : greatK l = false) : l.length ≤ 10 ∧ ∀ x ∈ l, x.2.size ≤ 100 := by
  unfold greatK at h
  simp only [Bool.or_eq_false_iff, decide_eq_false_iff_not, List.any_eq_false, decide_eq_true_eq] at h
  exact ⟨by omega, fun x hx => by have := h.2 x hx; omega⟩
theorem anyK_take {α : Type} (p : α → Bool) (l : List α) (k : Nat) (x : α) (h : l[k]? = some x) : (l.take (k + 1)).any p = ((l.take k).any p || p x) := by
  rw [List.take_add_one, h]; simp
/-- how great is a configuration? -/
def greatC (c : CfgM) : Bool := greatK c.cuts || greatT c.words
theorem greatC_true {c : CfgM} (h : greatK c.cuts = true) : greatC c = true := by unfold greatC; rw [h]; rfl
theorem greatC_false {c : CfgM} (h : greatC c = false) : (c.cuts.length ≤ 10 ∧ ∀ x ∈ c.cuts, x.2.size ≤ 100) ∧ c.words.length ≤ 80 ∧ ∀ x ∈ c.words, x.size ≤ 100 := by
  unfold greatC at h
  rw [Bool.or_eq_false_iff] at h
  exact ⟨greatK_false h.1, greatT_false h.2⟩
set_option maxRecDepth 100000 in
set_option maxHeartbeats 4000000 in
theorem greatC_any (c : CfgM) (w : World) (hr : CfgOK w c) :
    Calls Try.prog 27 #[c.val] w fun e w' => e = .returned (.bool (greatC c)) ∧ Below w.heap.size w w' := by
  unfold CfgM.val
  have hn := hr.rk.1
  have hcap := hr.rk.2.1
  have hcm := hr.rk.2.2.1
  have hs := hr.hk
  unfold maxLen at hcm hs
  have HR := Lib.hid hr
  clear hr
  obtain ⟨g, hg⟩ : ∃ g, greatC c = g := ⟨_, rfl⟩
  rw [hg]
  have HG := Lib.hid hg
  clear hg
  obtain ⟨l, hl⟩ : ∃ l, c.cuts = l := ⟨_, rfl⟩
  rw [hl] at hn hs
  have HL := Lib.hid hl
  clear hl
  obtain ⟨nl, hnl⟩ : ∃ k, c.nc = k := ⟨_, rfl⟩
  obtain ⟨cl, hcl⟩ : ∃ k, c.cc = k := ⟨_, rfl⟩
  obtain ⟨al, hal⟩ : ∃ k, c.ac = k := ⟨_, rfl⟩
  rw [hnl] at hn hcap
  rw [hcl] at hcap hcm
  rw [hnl, hcl, hal]
  have HRK := Lib.hid (show RdE KeyL.cells 2 w al nl cl l from by rw [← hnl, ← hcl, ← hal, ← HL.out]; exact HR.out.rk)
  clear hnl hcl hal
  subst hn
  go_enter Try.func27, Try.ntmps27
  go_wp2_with fail
  have HK := Lib.hid (show Blk (w.alloc (.cells #[.slice c.aw c.nw c.cw, .slice al l.length cl, .int .i64 c.wk, .int .i64 c.cp, .int .i64 c.sl, .int .i64 c.ba, .int .i64 c.le, .int .i64 c.he, .int .i64 c.fi, .int .i64 c.ca, .int .i64 c.ji, .int .i64 c.ne] 56)) w.heap.size 56 [.slice c.aw c.nw c.cw, .slice al l.length cl, .int .i64 c.wk, .int .i64 c.cp, .int .i64 c.sl, .int .i64 c.ba, .int .i64 c.le, .int .i64 c.he, .int .i64 c.fi, .int .i64 c.ca, .int .i64 c.ji, .int .i64 c.ne] from heap_alloc_new w _)
  have HB := Lib.hid ((Below.refl _ w).alloc (Nat.le_refl _) (.cells #[.slice c.aw c.nw c.cw, .slice al l.length cl, .int .i64 c.wk, .int .i64 c.cp, .int .i64 c.sl, .int .i64 c.ba, .int .i64 c.le, .int .i64 c.he, .int .i64 c.fi, .int .i64 c.ca, .int .i64 c.ji, .int .i64 c.ne] 56))
  generalize (w.alloc (.cells #[.slice c.aw c.nw c.cw, .slice al l.length cl, .int .i64 c.wk, .int .i64 c.cp, .int .i64 c.sl, .int .i64 c.ba, .int .i64 c.le, .int .i64 c.he, .int .i64 c.fi, .int .i64 c.ca, .int .i64 c.ji, .int .i64 c.ne] 56)) = W at *
  have c0 : W.cell? ⟨w.heap.size, 0, none⟩ = some (.slice c.aw c.nw c.cw) := HK.out.cell 0
  have c1 : W.cell? ⟨w.heap.size, 1, none⟩ = some (.slice al l.length cl) := HK.out.cell 1
  clear HK
  have HT := Lib.hid (greatT_any c.aw c.nw c.cw c.words W (HR.out.rw.below HB.out rfl) HR.out.hw)
  go_loop [3] (fun i => ∃ k : Nat, i = .int .i64 k ∧ k ≤ l.length ∧ (0 < k → l.length ≤ 10) ∧ RowKit.Hid ((l.take k).any (fun k => decide (100 < k.2.size)) = false)) (fun i => l.length - (intOf i).toNat)
  case atStart => exact ⟨0, rfl, by omega, by omega, by simp [RowKit.Hid]⟩
  case round =>
    obtain ⟨k, rfl, hk, h10, HA⟩ := hrel
    by_cases h : k < l.length ∧ l.length ≤ 10
    · obtain ⟨hlt, hle⟩ := h
      have d1 : decide (l.length ≤ 10) = true := by simpa using hle
      obtain ⟨⟨lc, tc⟩, hx⟩ : ∃ x, l[k]? = some x := ⟨l[k], List.getElem?_eq_getElem hlt⟩
      obtain ⟨b, off, rfl, hbl, hc⟩ := (HRK.out.below HB.out rfl).2.2.2.2 k (lc, tc) hx
      have e1 : W.cell? ⟨b, off + k * 2 + 1, none⟩ = some (.string tc) := hc 1 (by decide)
      clear hc
      have hsz := hs _ (List.mem_iff_getElem?.2 ⟨k, hx⟩)
      have hat := anyK_take (fun k : KeyL => decide (100 < k.2.size)) l k (lc, tc) hx
      rw [HA.out, Bool.false_or] at hat
      have hao := any_of (fun k : KeyL => decide (100 < k.2.size)) l k (lc, tc) hx
      have HAT := Lib.hid hat
      have HAO := Lib.hid hao
      clear hat hao
      by_cases hbig : 100 < tc.size
      · have d2 : decide (100 < tc.size) = true := by simpa using hbig
        have HD := Lib.hid d2
        go_wp2_with fail
        go_ret
        obtain rfl : g = true := by rw [← HG.out]; exact greatC_true (by rw [HL.out]; unfold greatK; rw [HAO.out HD.out]; simp)
        exact ⟨rfl, HB.out⟩
      · have d2 : decide (100 < tc.size) = false := by simpa using hbig
        have HD := Lib.hid d2
        go_wp2_with fail
        go_round
        case rel => exact ⟨k + 1, by go_num, by omega, by omega, by rw [HAT.out]; exact HD.out⟩
        case measure => simp [intOf]; omega
    · have hg2 : g = (decide (10 < l.length) || greatT c.words) := by
        rw [← HG.out]; unfold greatC; rw [HL.out]; unfold greatK
        by_cases hlt : k < l.length
        · have hgt : 10 < l.length := by omega
          rw [decide_eq_true hgt]; rfl
        · obtain rfl : k = l.length := by omega
          have := HA.out; rw [List.take_length] at this; rw [this]; simp
      have HG2 := Lib.hid hg2
      clear hg2
      have hor : (k < l.length ∧ 10 < l.length) ∨ k = l.length := by
        by_cases hlt : k < l.length
        · exact .inl ⟨hlt, by omega⟩
        · exact .inr (by omega)
      clear h
      obtain ⟨gt, hgt⟩ : ∃ b, greatT c.words = b := ⟨_, rfl⟩
      have HGT := Lib.hid hgt
      clear hgt
      rcases hor with ⟨hlt, h10'⟩ | rfl
      · skip
        have d1 : decide (l.length ≤ 10) = false := by simp; omega
        have d3 : decide ((10 : Int) < (l.length : Int)) = true := by simp; omega
        go_wp2_with fail
        refine HT.out.mono ?_
        rintro e w' ⟨rfl, rfl⟩
        rw [HGT.out]
        obtain rfl : g = true := by rw [HG2.out, decide_eq_true h10']; rfl
        cases gt
        · go_wp2_with fail
          go_ret
          exact ⟨rfl, HB.out⟩
        · go_wp2_with fail
          go_ret
          exact ⟨rfl, HB.out⟩
      · go_wp2_with fail
        refine HT.out.mono ?_
        rintro e w' ⟨rfl, rfl⟩
        rw [HGT.out]
        cases gt
        · by_cases h10' : 10 < l.length
          · exact absurd (h10 (by omega)) (by omega)
          · have d3 : decide ((10 : Int) < (l.length : Int)) = false := by simp; omega
            obtain rfl : g = false := by rw [HG2.out, decide_eq_false h10', HGT.out]; rfl
            go_wp2_with fail
            go_ret
            exact ⟨rfl, HB.out⟩
        · obtain rfl : g = true := by rw [HG2.out, HGT.out]; simp
          go_wp2_with fail
          go_ret
          exact ⟨rfl, HB.out⟩
end Go.Proofs.Ytjdanngkmkgidaa
