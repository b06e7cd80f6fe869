/- great: is there more than is gone through? -/
import Derived.Test.YtjdanngkmkgidaaFr5
namespace Go.Proofs.Ytjdanngkmkgidaa
open Go.RowKit
set_option linter.unusedVariables false

def bigR (r : RecM) : Bool := decide (20 < r.sent.length) || decide (20 < r.lost.length)
def greatB (c : CfgM) (l : List RecM) (g : Nat) : Bool := (decide (l.length ≤ 300) && l.any bigR) || (greatC c || (decide (300 < l.length) || decide (10 < g)))
theorem greatB_false {c : CfgM} {l : List RecM} {g : Nat} (h : greatB c l g = false) : l.length ≤ 300 ∧ (∀ r ∈ l, r.sent.length ≤ 20 ∧ r.lost.length ≤ 20) ∧ g ≤ 10 := by
  unfold greatB at h
  simp only [Bool.or_eq_false_iff, Bool.and_eq_false_iff, decide_eq_false_iff_not, List.any_eq_false, bigR, Bool.not_eq_true] at h
  obtain ⟨h1, _, h2, h3⟩ := h
  have h4 : l.length ≤ 300 := by omega
  rcases h1 with h1 | h1
  · exact absurd h4 h1
  · exact ⟨h4, fun r hr => by have := h1 r hr; omega, by omega⟩
theorem anyR_take (p : RecM → Bool) (l : List RecM) (k : Nat) (x : RecM) (h : l[k]? = some x) : (l.take (k + 1)).any p = ((l.take k).any p || p x) := anyK_take p l k x h
set_option maxRecDepth 100000 in
set_option maxHeartbeats 8000000 in
theorem great_any (c : CfgM) (a : Option Addr) (n cap : Nat) (l : List RecM) (ag : Option Addr) (ng cg : Nat) (good : List Int) (w : World) (hc : CfgOK w c) (hr : Recs w a n cap l) (hg : Rd w ag ng cg (ints good)) :
    Calls Try.prog 33 #[c.val, .slice a n cap, .slice ag ng cg] w fun e w' => e = .returned (.bool (greatB c l good.length)) ∧ Below w.heap.size w w' := by
  have hgn := hg.1
  rw [ints_len] at hgn
  rw [hgn]
  have hg2 := hg.2.1
  have hg3 := hg.2.2.1
  unfold maxLen at hg3
  have hn := hr.rd.1
  subst hn
  have hcm := hr.rd.2.2.1
  have hcap := hr.rd.2.1
  unfold maxLen at hcm
  have HC := Lib.hid hc
  have HR := Lib.hid hr
  have HGC := Lib.hid (fun w h => greatC_any c w h)
  obtain ⟨R, hR⟩ : ∃ R, greatB c l ng = R := ⟨_, rfl⟩
  rw [hR]
  have HRR := Lib.hid hR
  clear hc hr hg hgn hR
  unfold CfgM.val at HGC ⊢
  go_enter Try.func33, Try.ntmps33
  go_upto_region 1 with fail
  have HK := Lib.hid (show CfgB (w.alloc (.cells #[.slice c.aw c.nw c.cw, .slice c.ac c.nc c.cc, .int .i64 c.wk, .int .i64 c.cp, .int .i64 c.sl, .int .i64 c.ba, .int .i64 c.le, .int .i64 c.he, .int .i64 c.fi, .int .i64 c.ca, .int .i64 c.ji, .int .i64 c.ne] 56)) w.heap.size c from heap_alloc_new w _)
  have HB := Lib.hid ((Below.refl _ w).alloc (Nat.le_refl _) (.cells #[.slice c.aw c.nw c.cw, .slice c.ac c.nc c.cc, .int .i64 c.wk, .int .i64 c.cp, .int .i64 c.sl, .int .i64 c.ba, .int .i64 c.le, .int .i64 c.he, .int .i64 c.fi, .int .i64 c.ca, .int .i64 c.ji, .int .i64 c.ne] 56))
  generalize (w.alloc (.cells #[.slice c.aw c.nw c.cw, .slice c.ac c.nc c.cc, .int .i64 c.wk, .int .i64 c.cp, .int .i64 c.sl, .int .i64 c.ba, .int .i64 c.le, .int .i64 c.he, .int .i64 c.fi, .int .i64 c.ca, .int .i64 c.ji, .int .i64 c.ne] 56)) = W at *
  go_wp2_with fail
  go_loop [7] (fun i => ∃ k : Nat, i = .int .i64 k ∧ k ≤ l.length ∧ (0 < k → l.length ≤ 300) ∧ RowKit.Hid ((l.take k).any bigR = false)) (fun i => l.length - (intOf i).toNat)
  case atStart => exact ⟨0, rfl, by omega, by omega, by simp [RowKit.Hid]⟩
  case round =>
    obtain ⟨k, rfl, hk, h300, HA⟩ := hrel
    by_cases h : k < l.length ∧ l.length ≤ 300
    · obtain ⟨hlt, hle⟩ := h
      have d1 : decide (l.length ≤ 300) = true := by simpa using hle
      obtain ⟨r, hx⟩ : ∃ r, l[k]? = some r := ⟨_, List.getElem?_eq_getElem hlt⟩
      have hmem : r ∈ l := List.mem_iff_getElem?.2 ⟨k, hx⟩
      obtain ⟨b, off, rfl, hbl, hc⟩ := (HR.out.below HB.out rfl).rd.at_ hx
      have e9 : W.cell? ⟨b, off + k * 12 + 9, none⟩ = some (.slice r.sa r.sn r.sc) := hc 9 (by decide)
      have e11 : W.cell? ⟨b, off + k * 12 + 11, none⟩ = some (.slice r.la r.ln r.lc) := hc 11 (by decide)
      have hs := (HR.out.all r hmem).sent
      have hlo := (HR.out.all r hmem).lost
      have s1 := hs.1
      have s2 := hlo.1
      rw [ints_len] at s2
      have hat := anyR_take bigR l k r hx
      rw [HA.out, Bool.false_or] at hat
      have hao := any_of bigR l k r hx
      have hbg : bigR r = (decide (20 < r.sn) || decide (20 < r.ln)) := by unfold bigR; rw [s1, s2]
      rw [hbg] at hat hao
      have HAT := Lib.hid hat
      have HAO := Lib.hid hao
      obtain ⟨x, hxx⟩ : ∃ x, r.sn = x := ⟨_, rfl⟩
      obtain ⟨y, hyy⟩ : ∃ y, r.ln = y := ⟨_, rfl⟩
      rw [hxx] at e9 HAT HAO
      rw [hyy] at e11 HAT HAO
      clear hc hs hlo s1 s2 hat hao hbg hx hmem hxx hyy
      by_cases p1 : 20 < x
      · have d2 : decide (20 < x) = true := by simpa using p1
        have HD := Lib.hid d2
        have d3 : decide ((20 : Int) < (x : Int)) = true := by simp; omega
        go_wp2_with fail
        go_ret
        obtain rfl : R = true := by rw [← HRR.out]; unfold greatB; rw [HAO.out (by rw [HD.out]; rfl)]; simp [hle]
        exact ⟨rfl, HB.out⟩
      · have d2 : decide (20 < x) = false := by simpa using p1
        have HD := Lib.hid d2
        have d3 : decide ((20 : Int) < (x : Int)) = false := by simp; omega
        by_cases p2 : 20 < y
        · have d4 : decide (20 < y) = true := by simpa using p2
          have HD2 := Lib.hid d4
          have d5 : decide ((20 : Int) < (y : Int)) = true := by simp; omega
          go_wp2_with fail
          go_ret
          obtain rfl : R = true := by rw [← HRR.out]; unfold greatB; rw [HAO.out (by rw [HD.out, HD2.out]; rfl)]; simp [hle]
          exact ⟨rfl, HB.out⟩
        · have d4 : decide (20 < y) = false := by simpa using p2
          have HD2 := Lib.hid d4
          have d5 : decide ((20 : Int) < (y : Int)) = false := by simp; omega
          go_wp2_with fail
          go_round
          case rel => exact ⟨k + 1, by go_num, by omega, by omega, by rw [HAT.out, HD.out, HD2.out]; rfl⟩
          case measure => simp [intOf]; omega
    · have hR2 : R = (greatC c || (decide (300 < l.length) || decide (10 < ng))) := by
        rw [← HRR.out]; unfold greatB
        by_cases hlt : k < l.length
        · have : decide (l.length ≤ 300) = false := by simp; omega
          rw [this]; rfl
        · obtain rfl : k = l.length := by omega
          have := HA.out
          rw [List.take_length] at this
          rw [this]; simp
      have HR2 := Lib.hid hR2
      have hor : (k < l.length ∧ 300 < l.length) ∨ k = l.length := by
        by_cases hlt : k < l.length
        · exact .inl ⟨hlt, by omega⟩
        · exact .inr (by omega)
      clear h hR2
      have c0 : W.cell? ⟨w.heap.size, 0, none⟩ = some (.slice c.aw c.nw c.cw) := HK.out.cell 0
      have c1 : W.cell? ⟨w.heap.size, 1, none⟩ = some (.slice c.ac c.nc c.cc) := HK.out.cell 1
      have c2 : W.cell? ⟨w.heap.size, 2, none⟩ = some (.int .i64 c.wk) := HK.out.cell 2
      have c3 : W.cell? ⟨w.heap.size, 3, none⟩ = some (.int .i64 c.cp) := HK.out.cell 3
      have c4 : W.cell? ⟨w.heap.size, 4, none⟩ = some (.int .i64 c.sl) := HK.out.cell 4
      have c5 : W.cell? ⟨w.heap.size, 5, none⟩ = some (.int .i64 c.ba) := HK.out.cell 5
      have c6 : W.cell? ⟨w.heap.size, 6, none⟩ = some (.int .i64 c.le) := HK.out.cell 6
      have c7 : W.cell? ⟨w.heap.size, 7, none⟩ = some (.int .i64 c.he) := HK.out.cell 7
      have c8 : W.cell? ⟨w.heap.size, 8, none⟩ = some (.int .i64 c.fi) := HK.out.cell 8
      have c9 : W.cell? ⟨w.heap.size, 9, none⟩ = some (.int .i64 c.ca) := HK.out.cell 9
      have c10 : W.cell? ⟨w.heap.size, 10, none⟩ = some (.int .i64 c.ji) := HK.out.cell 10
      have c11 : W.cell? ⟨w.heap.size, 11, none⟩ = some (.int .i64 c.ne) := HK.out.cell 11
      have HGW := Lib.hid (HGC.out W (HC.out.below HB.out rfl))
      obtain ⟨gc, hgc⟩ : ∃ b, greatC c = b := ⟨_, rfl⟩
      rw [hgc] at HGW HR2
      clear hgc
      rcases hor with ⟨hlt, h3⟩ | rfl
      · have d1 : decide (l.length ≤ 300) = false := by simp; omega
        have d2 : decide ((300 : Int) < (l.length : Int)) = true := by simp; omega
        have HD := Lib.hid (show decide (300 < l.length) = true from by simpa using h3)
        obtain rfl : R = true := by rw [HR2.out, HD.out]; simp
        go_wp2_with fail
        refine HGW.out.mono ?_
        rintro e W1 ⟨rfl, hb⟩
        have HB1 := Lib.hid (HB.out.trans (hb.mono HB.out.size))
        clear hb
        cases gc
        · go_wp2_with fail
          go_ret
          exact ⟨rfl, HB1.out⟩
        · go_wp2_with fail
          go_ret
          exact ⟨rfl, HB1.out⟩
      · go_wp2_with fail
        refine HGW.out.mono ?_
        rintro e W1 ⟨rfl, hb⟩
        have HB1 := Lib.hid (HB.out.trans (hb.mono HB.out.size))
        clear hb
        cases gc
        · by_cases h3 : 300 < l.length
          · exact absurd (h300 (by omega)) (by omega)
          have d2 : decide ((300 : Int) < (l.length : Int)) = false := by simp; omega
          have HD := Lib.hid (show decide (300 < l.length) = false from by simpa using h3)
          by_cases h10 : 10 < ng
          · have d3 : decide ((10 : Int) < (ng : Int)) = true := by simp; omega
            obtain rfl : R = true := by rw [HR2.out, HD.out, (show decide (10 < ng) = true from by simpa using h10)]; rfl
            clear h3
            go_wp2_with fail
            go_ret
            exact ⟨rfl, HB1.out⟩
          · have d3 : decide ((10 : Int) < (ng : Int)) = false := by simp; omega
            obtain rfl : R = false := by rw [HR2.out, HD.out, (show decide (10 < ng) = false from by simpa using h10)]; rfl
            clear h3 h10
            go_wp2_with fail
            go_ret
            exact ⟨rfl, HB1.out⟩
        · obtain rfl : R = true := by rw [HR2.out]; rfl
          go_wp2_with fail
          go_ret
          exact ⟨rfl, HB1.out⟩
end Go.Proofs.Ytjdanngkmkgidaa
