/- The document's Put: the walk. -/
import Derived.Test.YtjacebnjmhbcbaaMh4
namespace Go.Proofs.Ytjacebnjmhbcbaa
open Go.RowKit
set_option linter.unusedVariables false

def RPEnd (q : Nat) (n : Int) (S : List PS) (T : List KeyL) (qs c : Nat) (R : List MS) (sp : List Value) (ta : Option Addr) (tc : Nat) (w : World) (P : Bool × List PS) (e : Ending) (w' : World) : Prop :=
  e = .returned (.bool P.1) ∧ (∃ R', RMx w' q n P.2 T qs c R' sp ta tc ∧ ∀ k, RItems ta R' k → RItems ta R k ∨ w.heap.size ≤ k) ∧ Frm (fun i => i = qs) w w'
theorem rp_end {q : Nat} {n : Int} {S : List PS} {T : List KeyL} {qs c : Nat} {R : List MS} {sp : List Value} {ta : Option Addr} {tc : Nat} {w w' : World} {P : Bool × List PS} (hx : RMx w q n S T qs c R sp ta tc) (hP : P = (false, S)) (hb : Below w.heap.size w w') : RPEnd q n S T qs c R sp ta tc w P (.returned (.bool false)) w' := by
  subst hP
  exact ⟨rfl, ⟨R, hx.below hb, fun k h => .inl h⟩, Frm.below hb⟩
theorem getLastD_sz {l : List KeyL} {d : KeyL} (hd : d.2.size ≤ 1000000) (hl : ∀ x ∈ l, x.2.size ≤ 1000000) : (l.getLastD d).2.size ≤ 1000000 := by
  cases l with
  | nil => exact hd
  | cons a l =>
    have : (a :: l).getLastD d ∈ a :: l := by
      rw [List.getLastD_cons, List.getLastD_eq_getLast?]
      cases h : l.getLast? with
      | none => simp
      | some y => simp [List.mem_of_getLast? h]
    exact hl _ this
theorem rp_fin {q : Nat} {n : Int} {S : List PS} {T : List KeyL} {qs c : Nat} {R : List MS} {sp : List Value} {ta : Option Addr} {tc : Nat} {w u W0 W' : World} (hx : RMx w q n S T qs c R sp ta tc) (hri : ∀ k, RItems ta R k → k ≠ qs) {k : Nat} {ms : MS} {s : PS} (hm : R[k]? = some ms) (hs : S[k]? = some s) {lb : Nat} (hlb : w.heap.size ≤ lb) {cs : List Value} (hl : Blk u lb 82 cs)
    (hb : Below w.heap.size w u) {ao : Option Addr} {mm c2 : Nat} {l : List KeyL} {e : Bool} (ho : u.ownsRow w.heap.size 31 2 (.slice ao mm c2) mm (l.flatMap KeyL.cells)) (hll : l.length = mm) (h5 : mm ≤ 5) (hz : ∀ x ∈ l, x.2.size ≤ 1000000) (h0 : Frm (fun i => i = lb) u W0) (h1 : Frm (fun i => i = qs) W0 W') {m' : MS}
    (hm' : m' = ⟨s.least, s.seq + 1, e, s.heard || decide (0 < l.length), l.getLastD s.last, ao, mm, c2⟩)
    (hg : Blk W0 qs 82 (R.flatMap MS.cells ++ sp) → Blk W' qs 82 ((((((((R.flatMap MS.cells ++ sp).set (k * 7) (.int .i64 m'.least)).set (k * 7 + 1) (.int .i64 m'.seq)).set (k * 7 + 2) (.bool m'.ended)).set (k * 7 + 3) (.bool m'.heard)).set (k * 7 + 4) (.int .i64 m'.last.1)).set (k * 7 + 5) (.string m'.last.2)).set (k * 7 + 6) (.slice m'.wa m'.wn m'.wc)))
    {P : Bool × List PS} (hP : P = (true, S.set k (s.put l e))) : RPEnd q n S T qs c R sp ta tc w P (.returned (.bool true)) W' := by
  subst hP
  rw [row_all hm] at hg
  have hit : ∀ j, RItems ta R j → j < w.heap.size := by
    rintro j (⟨o, s', e'⟩ | ⟨i, m, o, s', h, e'⟩)
    · exact hx.tlt _ _ _ e'
    · have hi := (List.getElem?_eq_some_iff.1 h).1
      exact (hx.sh i m _ h (List.getElem?_eq_getElem (show i < S.length by rw [← hx.len]; exact hi))).lt _ _ _ e'
  have hu := hx.below hb
  have hW0 : RMx W0 q n S T qs c R sp ta tc := hu.keep h0 (fun j hj => by
    subst hj
    refine ⟨?_, ?_, fun h => ?_⟩
    · have := hx.P.lt; omega
    · have := hx.G.lt; omega
    · have := hit _ h; omega)
  have hown := ownsRow_frm ho h0 (fun g hg' e' => ownsRow_ne ho hl (by decide) g hg' e')
  have hown2 := ownsRow_frm hown h1 (fun g hg' e' => by have := own_ge ho g hg'; have := hx.G.lt; omega)
  refine ⟨rfl, ⟨R.set k m', rm_set hW0 (fun o s' e' => hri qs (Or.inl ⟨o, s', e'⟩) rfl) (fun i m o s' h e' => hri qs (Or.inr ⟨i, m, o, s', h, e'⟩) rfl) h1 (hg hW0.G) (fun _ => ?_) ?_, fun j hj => ?_⟩, ?_⟩
  · subst hm'
    exact ⟨rfl, rfl, rfl, rfl, rfl, ownsRow_rdE (enc := KeyL.cells) (fun _ => rfl) hll hown2, fun b o s' e' => by
      rw [show ao = some ⟨b, o, s'⟩ from e'] at hown2
      obtain ⟨cs', hb'⟩ := (own_blk hown2).2
      exact hb'.lt, by rw [show (s.put l e).waits = l from rfl, hll]; exact h5⟩
  · exact ⟨getLastD_sz (hx.sz s (List.mem_of_getElem? hs)).1 hz, hz⟩
  · rcases hj with ⟨o, s', e'⟩ | ⟨i, m, o, s', h, e'⟩
    · exact .inl (Or.inl ⟨o, s', e'⟩)
    · by_cases e1 : k = i
      · subst e1
        rw [row_at hm] at h
        cases h
        subst hm'
        rw [show ao = some ⟨j, o, s'⟩ from e'] at ho
        exact .inr (own_blk ho).1
      · rw [List.getElem?_set_ne e1] at h
        exact .inl (Or.inr ⟨i, m, o, s', h, e'⟩)
  · exact ((Frm.below (S := fun i => i = qs) hb).trans h0 (fun i e' hi => by omega)).trans h1 (fun i e' _ => e')
def put7 (W : World) (g o : Nat) (m : MS) : World := ((((((W.setCell ⟨g, o, none⟩ (.int .i64 m.least)).setCell ⟨g, o + 1, none⟩ (.int .i64 m.seq)).setCell ⟨g, o + 2, none⟩ (.bool m.ended)).setCell ⟨g, o + 3, none⟩ (.bool m.heard)).setCell ⟨g, o + 4, none⟩ (.int .i64 m.last.1)).setCell ⟨g, o + 5, none⟩ (.string m.last.2)).setCell ⟨g, o + 6, none⟩ (.slice m.wa m.wn m.wc)
theorem Frm.put7 (W : World) (g o : Nat) (m : MS) : Frm (fun i => i = g) W (put7 W g o m) := by
  unfold Go.Proofs.Ytjacebnjmhbcbaa.put7
  exact (((((((Frm.refl (fun i => i = g) W).setCell _ _ (.inl rfl)).setCell _ _ (.inl rfl)).setCell _ _ (.inl rfl)).setCell _ _ (.inl rfl)).setCell _ _ (.inl rfl)).setCell _ _ (.inl rfl)).setCell _ _ (.inl rfl)
theorem Blk.put7 {W : World} {g : Nat} {t : TypeId} {cs : List Value} (h : Blk W g t cs) (o : Nat) (m : MS) : Blk (put7 W g o m) g t (((((((cs.set o (.int .i64 m.least)).set (o + 1) (.int .i64 m.seq)).set (o + 2) (.bool m.ended)).set (o + 3) (.bool m.heard)).set (o + 4) (.int .i64 m.last.1)).set (o + 5) (.string m.last.2)).set (o + 6) (.slice m.wa m.wn m.wc)) := by
  unfold Go.Proofs.Ytjacebnjmhbcbaa.put7
  exact Blk.set (Blk.set (Blk.set (Blk.set (Blk.set (Blk.set (Blk.set h o _) _ _) _ _) _ _) _ _) _ _) _ _
theorem Blk.drew1 {w : World} {g : Nat} {e : TypeId} {cs : List Value} (h : Blk w g e cs) : Blk w.drew g e cs := h
def RpR (w0 : World) (s : PS) (l : List KeyL) (OK : Bool) (v : Value) (wr : World) : Prop := ∃ j : Nat, j ≤ l.length ∧ v = .int .i64 j ∧ RowKit.Hid (okI s.least (s.heard || decide (0 < j)) ((l.take j).getLastD s.last) (l.drop j) = OK) ∧ RowKit.Hid (s.heard = true → 0 < j → kless s.last ((l.take j).getLastD s.last) = true) ∧ RowKit.Hid (Below w0.heap.size w0 wr)
set_option linter.unusedSimpArgs false in
set_option maxRecDepth 100000 in
set_option maxHeartbeats 8000000 in
theorem rput_any (q : Nat) (n i seq : Int) (S : List PS) (T : List KeyL) (l : List KeyL) (e : Bool) (a : Option Addr) (m cap : Nat) (w : World) (qs c : Nat) (R : List MS) (sp : List Value) (ta : Option Addr) (tc : Nat) (hX : RMx w q n S T qs c R sp ta tc) (hT : (T.length : Int) ≤ n) (hr : RdE KeyL.cells 2 w a m cap l)
    (hz : ∀ x ∈ l, x.2.size ≤ 1000000) (hs : ∀ s ∈ S, 0 ≤ s.seq ∧ s.seq ≤ 1000000) (hri : ∀ k, RItems ta R k → k ≠ qs) (hm9 : m ≤ 1000) :
    Calls Try.prog 22 #[.pointer (some ⟨q, 0, none⟩), .int .i64 i, .int .i64 seq, .slice a m cap, .bool e] w (RPEnd q n S T qs c R sp ta tc w (putP n S T i seq l e)) := by
  obtain ⟨i0, hi, hz0, hz1, hz2⟩ := info_parts infoI2
  have HI := Lib.hid hi
  have HZ0 := Lib.hid hz0
  have HZ1 := Lib.hid hz1
  have HZ2 := Lib.hid hz2
  clear hi hz0 hz1 hz2
  have HX := Lib.hid hX
  have HR := Lib.hid hr
  have HZ := Lib.hid hz
  have HSS := Lib.hid hs
  have HRI := Lib.hid hri
  have HLM := Lib.hid hr.1
  have HWN := Lib.hid (rwants_any q n S T w qs c R sp ta tc hX hT)
  have hwl := wantsP_len2 n S T
  have hs6 := hX.bd.1
  obtain ⟨PP, hPP⟩ : ∃ P, putP n S T i seq l e = P := ⟨_, rfl⟩
  rw [hPP]
  have HPP := Lib.hid hPP
  have HMW := Lib.hid (mem_wants (n := n) (S := S) (T := T) (i := i))
  have HNW := Lib.hid (fun h => rp_unwanted (n := n) (S := S) (T := T) (i := i) (seq := seq) (l := l) (e := e) h)
  obtain ⟨wl, hwle⟩ : ∃ l, wantsP n S T = l := ⟨_, rfl⟩
  rw [hwle] at HWN HMW HNW hwl
  clear hX hr hz hs hri hPP hwle
  have hw6 : wl.length ≤ 6 := Nat.le_trans hwl hs6
  clear hwl
  go_enter Try.func22, Try.ntmps22
  go_wp2_with fail
  refine HWN.out.mono ?_
  rintro e' w1 ⟨ao, wc, rfl, ho, hb⟩
  have HB := Lib.hid hb
  have HW := Lib.hid (show Rd w1 ao wl.length wc (ints wl) from ownsRow_rd ho)
  clear ho hb HWN
  go_wp2_with fail
  obtain ⟨wn, hwn⟩ : ∃ k, wl.length = k := ⟨_, rfl⟩
  rw [hwn] at HW hw6 ⊢
  have HWL := Lib.hid hwn
  clear hwn
  go_loop [11, 13] (fun v11 v13 => ∃ (j : Nat) (g : Bool), j ≤ wn ∧ v13 = .int .i64 j ∧ v11 = .bool g ∧ RowKit.Hid (g = decide (i ∈ wl.take j))) (fun _ v => wn - (intOf v).toNat)
  case atStart => exact ⟨0, false, Nat.zero_le _, rfl, rfl, by unfold RowKit.Hid; simp⟩
  case round =>
    obtain ⟨j, g, hj, rfl, rfl, HG⟩ := hrel
    by_cases hlt : j < wn
    · have k1 : (0 : Int) ≤ (j : Int) := by omega
      have k2 : (j : Int) < (wn : Int) := by omega
      obtain ⟨x, hx⟩ : ∃ x, wl[j]? = some x := ⟨_, List.getElem?_eq_getElem (show j < wl.length by rw [HWL.out]; exact hlt)⟩
      have htk : wl.take (j + 1) = wl.take j ++ [x] := by rw [List.take_add_one, hx]; rfl
      have HTK := Lib.hid htk
      obtain ⟨b, o, rfl, hb1, hc1⟩ := HW.out.2.2.2.2 j hlt
      have hcx : w1.cell? ⟨b, o + j, none⟩ = some (.int .i64 x) := by rw [hc1]; simp [ints, hx]
      clear htk hc1 hx
      cases g with
      | true =>
        have HG2 : RowKit.Hid (true = decide (i ∈ wl.take (j + 1))) := by
          have := HG.out
          unfold RowKit.Hid
          rw [HTK.out]
          symm
          rw [decide_eq_true_eq, List.mem_append]
          exact .inl (by simpa using this.symm)
        clear HG HTK
        go_wp2_with fail
        go_round
        case rel => exact ⟨j + 1, true, by omega, by go_num, rfl, HG2.out⟩
        case measure => simp [intOf]; omega
      | false =>
        have hnm : ¬ i ∈ wl.take j := by have := HG.out; simpa using this.symm
        by_cases hxi : x = i
        · subst hxi
          have d1 : (x == x) = true := by simp
          have HG2 : RowKit.Hid (true = decide (x ∈ wl.take (j + 1))) := by
            unfold RowKit.Hid
            rw [HTK.out]; symm
            rw [decide_eq_true_eq, List.mem_append]
            exact .inr (by simp)
          clear HG HTK hnm
          go_wp2_with fail
          go_round
          case rel => exact ⟨j + 1, true, by omega, by go_num, rfl, HG2.out⟩
          case measure => simp [intOf]; omega
        · have d1 : (x == i) = false := by rw [beq_eq_false_iff_ne]; exact hxi
          have HG2 : RowKit.Hid (false = decide (i ∈ wl.take (j + 1))) := by
            unfold RowKit.Hid
            rw [HTK.out]; symm
            rw [decide_eq_false_iff_not, List.mem_append]
            rintro (h | h)
            · exact hnm h
            · simp at h; exact hxi h.symm
          clear HG HTK hnm hxi
          go_wp2_with fail
          go_round
          case rel => exact ⟨j + 1, false, by omega, by go_num, rfl, HG2.out⟩
          case measure => simp [intOf]; omega
    · have hin : j = wn := by omega
      subst hin
      clear hlt hj
      have hG := HG.out
      rw [List.take_of_length_le (by rw [HWL.out]; exact Nat.le_refl _)] at hG
      clear HG HW
      cases g with
      | false =>
        have hP : PP = (false, S) := by rw [← HPP.out]; exact HNW.out (by simpa using hG.symm)
        have HE := Lib.hid (fun W hb => rp_end (w' := W) HX.out hP hb)
        clear hG hP HPP HMW HNW HX HR HZ HSS HRI HLM
        go_wp2_with fail
        go_ret
        exact HE.out _ HB.out
      | true =>
        obtain ⟨hd, s, hat, hw⟩ := HMW.out.1 (by simpa using hG.symm)
        obtain ⟨k, hik, hk⟩ := atS_some hat
        subst hik
        have HNO := Lib.hid (fun (h : s.seq ≠ seq ∨ 5 < l.length ∨ (l.length = 0 ∧ e = false) ∨ okI s.least s.heard s.last l = false) W hb => rp_end (w' := W) HX.out (HPP.out.symm.trans (rp_nope (.inr ⟨s, hat, .inr (.inr h)⟩))) hb)
        have HYES := Lib.hid (fun (h1 : s.seq = seq) (h2 : ¬ 5 < l.length) (h3 : ¬ (l.length = 0 ∧ e = false)) (h4 : okI s.least s.heard s.last l = true) => HPP.out.symm.trans (rp_yes (n := n) (T := T) (seq := seq) (e := e) hat (by
          rintro (h | h | h | h | h | h)
          · rw [hd] at h; cases h
          · rw [hw] at h; cases h
          · exact h h1
          · exact h2 h
          · exact h3 h
          · rw [h4] at h; cases h)))
        have HKS := Lib.hid hk
        have hkl : k < S.length := (List.getElem?_eq_some_iff.1 hk).1
        obtain ⟨ms, s', hms, hs', hsh, hat'⟩ := (HX.out.below HB.out).at hkl
        rw [hk] at hs'
        cases hs'
        obtain ⟨y0, y1, y2, y3, y4, y5, y6⟩ := hat'.c2
        rw [hsh.least] at y0
        rw [hsh.seq] at y1
        rw [hsh.ended] at y2
        rw [hsh.heard] at y3
        rw [hsh.last] at y4 y5
        have c0 := (HX.out.below HB.out).c3.1
        obtain ⟨sl, hsl⟩ : ∃ sl, S.length = sl := ⟨_, rfl⟩
        rw [hsl] at c0 hkl
        have k1 : (0 : Int) ≤ (k : Int) := by omega
        have k2 : (k : Int) < (sl : Int) := by omega
        have HMS := Lib.hid hms
        have hsq := HSS.out s (List.mem_of_getElem? hk)
        have hsz := HX.out.sz s (List.mem_of_getElem? hk)
        have HSZ := Lib.hid hsz
        have hq1 := (HX.out.below HB.out).P.lt
        have hqs1 := (HX.out.below HB.out).G.lt
        have hqs0 := HX.out.G.lt
        have HSL := Lib.hid hsl
        clear hG hd hat hw hk hms hsh hat' HPP HMW HNW hsz HSS hsl
        by_cases hsqe : s.seq = seq
        · have d1 : (s.seq != seq) = false := by simp [hsqe]
          by_cases h5 : 5 < m
          · have d2 : decide (5 < m) = true := by simpa using h5
            have d2' : decide ((5 : Int) < (m : Int)) = true := by simp; omega
            have HE := Lib.hid (HNO.out (.inr (.inl (by rw [HLM.out]; exact h5))))
            clear HNO HYES
            go_wp2_with fail
            go_ret
            exact HE.out _ HB.out
          · have d2 : decide (5 < m) = false := by simpa using h5
            have d2' : decide ((5 : Int) < (m : Int)) = false := by simp; omega
            by_cases h0 : m = 0
            · subst h0
              cases e with
              | false =>
                have HE := Lib.hid (HNO.out (.inr (.inr (.inl ⟨HLM.out, rfl⟩))))
                clear HNO HYES
                go_wp2_with fail
                go_ret
                exact HE.out _ HB.out
              | true =>
                have h03 : ¬ (l.length = 0 ∧ true = false) := by simp
                rw [hsqe] at y1
                have hbl : Blk (w1.alloc (.cells #[.int .i64 s.least, .int .i64 seq, .bool s.ended, .bool s.heard, .int .i64 s.last.1, .string s.last.2, .slice ms.wa ms.wn ms.wc] 82)) w1.heap.size 82 [.int .i64 s.least, .int .i64 seq, .bool s.ended, .bool s.heard, .int .i64 s.last.1, .string s.last.2, .slice ms.wa ms.wn ms.wc] := heap_alloc_new w1 _
                have hb2 := HB.out.alloc HB.out.size (.cells #[.int .i64 s.least, .int .i64 seq, .bool s.ended, .bool s.heard, .int .i64 s.last.1, .string s.last.2, .slice ms.wa ms.wn ms.wc] 82)
                have hlbw : w.heap.size ≤ w1.heap.size := HB.out.size
                have hqlb : qs < w1.heap.size := hqs1
                have HBL := Lib.hid hbl
                have HB2 := Lib.hid hb2
                clear hbl hb2 HB
                go_wp2_with fail
                generalize w1.alloc (.cells #[.int .i64 s.least, .int .i64 seq, .bool s.ended, .bool s.heard, .int .i64 s.last.1, .string s.last.2, .slice ms.wa ms.wn ms.wc] 82) = w2 at HBL HB2 ⊢
                generalize w1.heap.size = lb at HBL hlbw hqlb ⊢
                clear y0 y1 y2 y3 y4 y5 y6 c0 hq1 hqs1
                obtain ⟨OK, hOK⟩ : ∃ OK, okI s.least s.heard s.last l = OK := ⟨_, rfl⟩
                have HOK := Lib.hid hOK
                clear hOK
                go_loopw [15] (fun v wr => RpR w2 s l OK v wr) (fun v _ => 0 - (intOf v).toNat)
                case atStart => exact ⟨0, Nat.zero_le _, rfl, (by unfold RowKit.Hid; rw [← HOK.out]; simp), (fun _ h => by omega), Below.refl _ _⟩
                case round =>
                  obtain ⟨j, hj, rfl, HO, HIN, HBB⟩ := hrel
                  rw [HLM.out] at hj
                  have hlb2 : lb < w2.heap.size := HBL.out.lt
                  by_cases hlt : j < 0
                  · exact absurd hlt (by omega)
                  · have hjm : j = 0 := by omega
                    subst hjm
                    clear hlt
                    obtain rfl : OK = true := by
                      rw [← HO.out, List.drop_eq_nil_of_le (by rw [HLM.out]; exact Nat.le_refl _)]; rfl
                    have hP := HYES.out hsqe (by rw [HLM.out]; exact h5) h03 HOK.out
                    clear HO HIN HNO HYES
                    have hlr := HBL.out.below HBB.out hlb2
                    have hrr := (HR.out.below HB2.out rfl).below HBB.out rfl
                    have hB3 := HB2.out.trans (HBB.out.mono HB2.out.size)
                    have HSR := Lib.hid (show Src Try.prog 2 22 (.slice a 0 cap) 0 (l.flatMap KeyL.cells) wr from Src.ofRdE (enc := KeyL.cells) (size := 2) Try.underlying22 (fun _ => rfl) itemOne hrr)
                    have HLR := Lib.hid hlr
                    have HB3 := Lib.hid hB3
                    have A1 : 0 + 0 ≤ maxLen := by unfold maxLen; omega
                    have A2 : (0 + 0) * 24 ≤ 140737488355328 := by omega
                    have A3 : w.heap.size ≤ wr.heap.size := hB3.size
                    have hs1 : 0 ≤ seq := by rw [← hsqe]; exact hsq.1
                    have hs2 : seq ≤ 1000000 := by rw [← hsqe]; exact hsq.2
                    have hql : qs ≠ lb := by omega
                    have hql' : lb ≠ qs := by omega
                    have hqq : q < w.heap.size := HX.out.P.lt
                    have hqq1 : lb ≠ q := by omega
                    clear hlr hB3
                    go_wp2_with (at_builtin; refine wpList_app rfl _ _ 22 22 rfl w.heap.size 31 i0 (.agg #[.int .i64 0, .string ⟨#[]⟩]) 2 24 Try.underlying22 HI.out HZ0.out HZ1.out HZ2.out rfl (by decide) none 0 0 [] rfl (World.ownsRow_nil _ _ _ _) (.slice a 0 cap) 0 (l.flatMap KeyL.cells) rfl HSR.out A1 A2 A3 ?_; intro ao2 c2 u hown hg; rw [Nat.zero_add, List.nil_append] at hown; have hFu : Frm (fun _ => False) wr u := Frm.grown (S := fun _ => False) hg (fun g h => by simp [Value.ownBlock] at h); have hlu := HLR.out.frm hFu (fun h => h); have HLU := Lib.hid hlu; have hBu := HB3.out.trans (hFu.toBelow A3 (fun _ _ h => h)); have HBU := Lib.hid hBu; have HOU := Lib.hid hown; have hxu := HX.out.below hBu; have HXU := Lib.hid hxu; have hshu := ShAt.of_row2 hxu.G HMS.out; have n0 := (hlu.cell 0).trans (show _ = some (.int .i64 s.least) from rfl); have n1 := (hlu.cell 1).trans (show _ = some (.int .i64 seq) from rfl); have n2 := (hlu.cell 2).trans (show _ = some (.bool s.ended) from rfl); have n3 := (hlu.cell 3).trans (show _ = some (.bool s.heard) from rfl); have n4 := (hlu.cell 4).trans (show _ = some (.int .i64 s.last.1) from rfl); have n5 := (hlu.cell 5).trans (show _ = some (.string s.last.2) from rfl); have n6 := (hlu.cell 6).trans (show _ = some (.slice ms.wa ms.wn ms.wc) from rfl); have g1 := hlu.frozen 1; have g2 := hlu.frozen 2; have g3 := hlu.frozen 3; have g4 := hlu.frozen 4; have g5 := hlu.frozen 5; have g6 := hlu.frozen 6; obtain ⟨t0, t1, t2, t3, t4, t5, t6⟩ := hshu.c2; have f0 := hxu.G.frozen (k * 7); have f1 := hxu.G.frozen (k * 7 + 1); have f2 := hxu.G.frozen (k * 7 + 2); have f3 := hxu.G.frozen (k * 7 + 3); have f4 := hxu.G.frozen (k * 7 + 4); have f5 := hxu.G.frozen (k * 7 + 5); have f6 := hxu.G.frozen (k * 7 + 6); have c0 := hxu.c3.1; rw [HSL.out] at c0; clear hown hg hFu hlu hBu hxu hshu)
                    go_region
                    all_goals
                      go_wp2_with fail
                      go_ret
                      rw [Int.toNat_natCast] at hP
                      have hF0 : Frm (fun i => i = lb) u (((u.setCell ⟨lb, 6, none⟩ (.slice ao2 0 c2)).setCell ⟨lb, 1, none⟩ (.int .i64 (seq + 1))).setCell ⟨lb, 2, none⟩ (.bool true)) := (((Frm.refl (fun i => i = lb) u).setCell _ _ (.inl rfl)).setCell _ _ (.inl rfl)).setCell _ _ (.inl rfl)
                      have hEQ : (⟨s.least, seq + 1, true, s.heard, s.last, ao2, 0, c2⟩ : MS) = ⟨s.least, s.seq + 1, true, s.heard || decide (0 < l.length), l.getLastD s.last, ao2, 0, c2⟩ := by have hn := List.eq_nil_of_length_eq_zero HLM.out; rw [hn, hsqe]; simp
                      have key : RPEnd q n S T qs c R sp ta tc w PP (.returned (.bool true)) (put7 (((u.setCell ⟨lb, 6, none⟩ (.slice ao2 0 c2)).setCell ⟨lb, 1, none⟩ (.int .i64 (seq + 1))).setCell ⟨lb, 2, none⟩ (.bool true)) qs (k * 7) ⟨s.least, seq + 1, true, s.heard, s.last, ao2, 0, c2⟩).drew :=
                        rp_fin (u := u) (W0 := ((u.setCell ⟨lb, 6, none⟩ (.slice ao2 0 c2)).setCell ⟨lb, 1, none⟩ (.int .i64 (seq + 1))).setCell ⟨lb, 2, none⟩ (.bool true)) (W' := (put7 (((u.setCell ⟨lb, 6, none⟩ (.slice ao2 0 c2)).setCell ⟨lb, 1, none⟩ (.int .i64 (seq + 1))).setCell ⟨lb, 2, none⟩ (.bool true)) qs (k * 7) ⟨s.least, seq + 1, true, s.heard, s.last, ao2, 0, c2⟩).drew) HX.out HRI.out HMS.out HKS.out hlbw HLU.out HBU.out HOU.out HLM.out (by omega) HZ.out hF0 (Frm.put7 (((u.setCell ⟨lb, 6, none⟩ (.slice ao2 0 c2)).setCell ⟨lb, 1, none⟩ (.int .i64 (seq + 1))).setCell ⟨lb, 2, none⟩ (.bool true)) qs (k * 7) ⟨s.least, seq + 1, true, s.heard, s.last, ao2, 0, c2⟩).drew hEQ (fun h => (Blk.put7 h (k * 7) ⟨s.least, seq + 1, true, s.heard, s.last, ao2, 0, c2⟩).drew1) hP
                      exact key
            · have d4 : ((m : Int) == 0) = false := by rw [beq_eq_false_iff_ne]; omega
              have h03 : ¬ (l.length = 0 ∧ e = false) := by rw [HLM.out]; omega
              rw [hsqe] at y1
              have hbl : Blk (w1.alloc (.cells #[.int .i64 s.least, .int .i64 seq, .bool s.ended, .bool s.heard, .int .i64 s.last.1, .string s.last.2, .slice ms.wa ms.wn ms.wc] 82)) w1.heap.size 82 [.int .i64 s.least, .int .i64 seq, .bool s.ended, .bool s.heard, .int .i64 s.last.1, .string s.last.2, .slice ms.wa ms.wn ms.wc] := heap_alloc_new w1 _
              have hb2 := HB.out.alloc HB.out.size (.cells #[.int .i64 s.least, .int .i64 seq, .bool s.ended, .bool s.heard, .int .i64 s.last.1, .string s.last.2, .slice ms.wa ms.wn ms.wc] 82)
              have hlbw : w.heap.size ≤ w1.heap.size := HB.out.size
              have hqlb : qs < w1.heap.size := hqs1
              have HBL := Lib.hid hbl
              have HB2 := Lib.hid hb2
              clear hbl hb2 HB
              go_wp2_with fail
              generalize w1.alloc (.cells #[.int .i64 s.least, .int .i64 seq, .bool s.ended, .bool s.heard, .int .i64 s.last.1, .string s.last.2, .slice ms.wa ms.wn ms.wc] 82) = w2 at HBL HB2 ⊢
              generalize w1.heap.size = lb at HBL hlbw hqlb ⊢
              clear y0 y1 y2 y3 y4 y5 y6 c0 hq1 hqs1
              obtain ⟨OK, hOK⟩ : ∃ OK, okI s.least s.heard s.last l = OK := ⟨_, rfl⟩
              have HOK := Lib.hid hOK
              clear hOK
              go_loopw [15] (fun v wr => RpR w2 s l OK v wr) (fun v _ => m - (intOf v).toNat)
              case atStart => exact ⟨0, Nat.zero_le _, rfl, (by unfold RowKit.Hid; rw [← HOK.out]; simp), (fun _ h => by omega), Below.refl _ _⟩
              case round =>
                obtain ⟨j, hj, rfl, HO, HIN, HBB⟩ := hrel
                rw [HLM.out] at hj
                have hlb2 : lb < w2.heap.size := HBL.out.lt
                by_cases hlt : j < m
                · obtain ⟨x, hx⟩ : ∃ x, l[j]? = some x := ⟨_, List.getElem?_eq_getElem (show j < l.length by rw [HLM.out]; exact hlt)⟩
                  have hO := HO.out
                  rw [okI_drop hx] at hO
                  obtain ⟨b, o, rfl, z0, z1, hbr⟩ := ((HR.out.below HB2.out rfl).below HBB.out rfl).atI hx
                  have hlr := HBL.out.below HBB.out hlb2
                  have hlbr := hlr.lt
                  have l0 := (hlr.cell 0).trans (show _ = some (.int .i64 s.least) from rfl)
                  have l3 := (hlr.cell 3).trans (show _ = some (.bool s.heard) from rfl)
                  have l4 := (hlr.cell 4).trans (show _ = some (.int .i64 s.last.1) from rfl)
                  have l5 := (hlr.cell 5).trans (show _ = some (.string s.last.2) from rfl)
                  have hlx : (l.take (j + 1)).getLastD s.last = x := last_take hx
                  have hxz := HZ.out x (List.mem_of_getElem? hx)
                  have htr : (s.heard || decide (0 < j + 1)) = true := by simp
                  have j1 : (0 : Int) ≤ (j : Int) := by omega
                  have j2 : (j : Int) < (m : Int) := by omega
                  have HXX := Lib.hid hx
                  have HXZ := Lib.hid hxz
                  clear hx hlr HO hxz
                  by_cases hlo : x.1 < s.least
                  · have hok : OK = false := by rw [← hO]; simp [hlo]
                    have HE := Lib.hid (HNO.out (.inr (.inr (.inr (by rw [HOK.out]; exact hok)))))
                    have e1 : decide (x.1 < s.least) = true := by simpa using hlo
                    clear hO hlx htr HNO HYES HIN
                    go_wp2_with fail
                    go_quiet (fail)
                    go_wp2_with fail
                    go_ret
                    exact HE.out _ (HB2.out.trans ((below_drewN HBB.out _).mono HB2.out.size))
                  · have e1 : decide (x.1 < s.least) = false := by simpa using hlo
                    have e1' : ¬ x.1 < s.least := hlo
                    by_cases hj0 : j = 0
                    · subst hj0
                      rw [Nat.zero_mul, Nat.add_zero] at z0 z1
                      cases hh : s.heard with
                      | false =>
                        rw [hh] at l3
                        have HO2 : RowKit.Hid (okI s.least (s.heard || decide (0 < 0 + 1)) ((l.take (0 + 1)).getLastD s.last) (l.drop (0 + 1)) = OK) := by
                          rw [hh] at hO
                          rw [if_neg (by simp [e1])] at hO
                          rw [hlx, htr]; exact hO
                        have HIN2 : RowKit.Hid (s.heard = true → 0 < 0 + 1 → kless s.last ((l.take (0 + 1)).getLastD s.last) = true) := fun h => by rw [hh] at h; cases h
                        clear hO hlx htr HIN hh
                        go_wp2_with fail
                        go_quiet (fail)
                        go_wp2_with fail
                        go_roundw
                        case rel => exact ⟨0 + 1, by rw [HLM.out]; omega, by go_num, HO2.out, HIN2.out, below_drewN HBB.out _⟩
                        case measure => simp [intOf]; omega
                      | true =>
                        rw [hh] at l3
                        have HLS := Lib.hid (fun W => ritless s.last x W HSZ.out.1 HXZ.out)
                        have HGB : RowKit.Hid (Below wr.heap.size wr wr.drew) := below_drewN (Below.refl _ _) 1
                        have HYX := Lib.hid (And.intro l0 (And.intro l3 (And.intro l4 (And.intro l5 (And.intro z0 z1)))))
                        cases hk : kless s.last x with
                        | false =>
                          rw [hk] at HLS
                          have hok : OK = false := by rw [← hO, hh]; simp [hk]
                          have HE := Lib.hid (HNO.out (.inr (.inr (.inr (by rw [HOK.out]; exact hok)))))
                          clear hO hlx htr HNO HYES HIN hh hk
                          go_wp2_with fail
                          refine wp_region_held_drew (S := (fun w' => w'.cell? ⟨lb, 0, none⟩ = some (.int .i64 s.least) ∧ w'.cell? ⟨lb, 3, none⟩ = some (.bool true) ∧ w'.cell? ⟨lb, 4, none⟩ = some (.int .i64 s.last.1) ∧ w'.cell? ⟨lb, 5, none⟩ = some (.string s.last.2) ∧ w'.cell? ⟨b, o, none⟩ = some (.int .i64 x.1) ∧ w'.cell? ⟨b, o + 1, none⟩ = some (.string x.2))) (by kernel_rfl) (by exact ⟨(HGB.out.cell (p := ⟨lb, 0, none⟩) hlbr).trans HYX.out.1, (HGB.out.cell (p := ⟨lb, 3, none⟩) hlbr).trans HYX.out.2.1, (HGB.out.cell (p := ⟨lb, 4, none⟩) hlbr).trans HYX.out.2.2.1, (HGB.out.cell (p := ⟨lb, 5, none⟩) hlbr).trans HYX.out.2.2.2.1, (HGB.out.cell (p := ⟨b, o, none⟩) hbr).trans HYX.out.2.2.2.2.1, (HGB.out.cell (p := ⟨b, o + 1, none⟩) hbr).trans HYX.out.2.2.2.2.2⟩) (fun hHeld => ?_)
                          refine takeH 0 (some 74) (v := ?_) rfl rfl (by kernel_rfl) (by kernel_rfl) (by kernel_rfl) (fun _ _ _ h => h) (Or.inl ⟨by rfl, ?_⟩) (by assumption) ?_
                          rotate_left 1
                          · intro w hSw; (try dsimp only at hSw); go_simp; all_goals with_reducible rfl
                          try simp only [Act.put, List.setIfInBounds_toArray, List.set_cons_zero, List.set_cons_succ]
                          refine takeH 1 (some 75) (v := ?_) rfl rfl (by kernel_rfl) (by kernel_rfl) (by kernel_rfl) (fun _ _ _ h => h) (Or.inl ⟨by rfl, ?_⟩) (by assumption) ?_
                          rotate_left 1
                          · intro w hSw; (try dsimp only at hSw); go_simp; all_goals with_reducible rfl
                          try simp only [Act.put, List.setIfInBounds_toArray, List.set_cons_zero, List.set_cons_succ]
                          refine takeH 2 (some 76) (v := ?_) rfl rfl (by kernel_rfl) (by kernel_rfl) (by kernel_rfl) (fun _ _ _ h => h) (Or.inl ⟨by rfl, ?_⟩) (by assumption) ?_
                          rotate_left 1
                          · intro w hSw; (try dsimp only at hSw); go_simp; all_goals with_reducible rfl
                          try simp only [Act.put, List.setIfInBounds_toArray, List.set_cons_zero, List.set_cons_succ]
                          refine takeH 3 (some 77) (v := ?_) rfl rfl (by kernel_rfl) (by kernel_rfl) (by kernel_rfl) (fun _ _ _ h => h) (Or.inl ⟨by rfl, ?_⟩) (by assumption) ?_
                          rotate_left 1
                          · intro w hSw; (try dsimp only at hSw); go_simp; all_goals with_reducible rfl
                          try simp only [Act.put, List.setIfInBounds_toArray, List.set_cons_zero, List.set_cons_succ]
                          refine takeH 4 (some 78) (v := ?_) rfl rfl (by kernel_rfl) (by kernel_rfl) (by kernel_rfl) (fun _ _ _ h => h) (Or.inl ⟨by rfl, ?_⟩) (by assumption) ?_
                          rotate_left 1
                          · intro w hSw; (try dsimp only at hSw); go_simp; all_goals with_reducible rfl
                          try simp only [Act.put, List.setIfInBounds_toArray, List.set_cons_zero, List.set_cons_succ]
                          refine takeH 5 (some 79) (v := ?_) rfl rfl (by kernel_rfl) (by kernel_rfl) (by kernel_rfl) (fun _ _ _ h => h) (Or.inl ⟨by rfl, ?_⟩) (by assumption) ?_
                          rotate_left 1
                          · intro w hSw; (try dsimp only at hSw); go_simp; all_goals with_reducible rfl
                          try simp only [Act.put, List.setIfInBounds_toArray, List.set_cons_zero, List.set_cons_succ]
                          refine takeH 6 (some 80) (v := ?_) rfl rfl (by kernel_rfl) (by kernel_rfl) (by kernel_rfl) (fun _ _ _ h => h) (Or.inl ⟨by rfl, ?_⟩) (by assumption) ?_
                          rotate_left 1
                          · intro w hSw; (try dsimp only at hSw); go_simp; all_goals with_reducible rfl
                          try simp only [Act.put, List.setIfInBounds_toArray, List.set_cons_zero, List.set_cons_succ]
                          refine takeH 7 (some 81) (v := ?_) rfl rfl (by kernel_rfl) (by kernel_rfl) (by kernel_rfl) (fun _ _ _ h => h) (Or.inl ⟨by rfl, ?_⟩) (by assumption) ?_
                          rotate_left 1
                          · intro w hSw; (try dsimp only at hSw); go_simp; all_goals with_reducible rfl
                          try simp only [Act.put, List.setIfInBounds_toArray, List.set_cons_zero, List.set_cons_succ]
                          refine takeH 8 (some 82) (v := ?_) rfl rfl (by kernel_rfl) (by kernel_rfl) (by kernel_rfl) (fun _ _ _ h => h) (Or.inl ⟨by rfl, ?_⟩) (by assumption) ?_
                          rotate_left 1
                          · intro w hSw; (try dsimp only at hSw); go_simp; all_goals with_reducible rfl
                          try simp only [Act.put, List.setIfInBounds_toArray, List.set_cons_zero, List.set_cons_succ]
                          refine takeH 9 (some 83) (v := ?_) rfl rfl (by kernel_rfl) (by kernel_rfl) (by kernel_rfl) (fun _ _ _ h => h) (Or.inl ⟨by rfl, ?_⟩) (by assumption) ?_
                          rotate_left 1
                          · intro w hSw; (try dsimp only at hSw); go_simp; all_goals with_reducible rfl
                          try simp only [Act.put, List.setIfInBounds_toArray, List.set_cons_zero, List.set_cons_succ]
                          refine takeH 10 (some 84) (v := ?_) rfl rfl (by kernel_rfl) (by kernel_rfl) (by kernel_rfl) (fun _ _ _ h => h) (Or.inl ⟨by rfl, ?_⟩) (by assumption) ?_
                          rotate_left 1
                          · intro w hSw; (try dsimp only at hSw); go_simp; all_goals with_reducible rfl
                          try simp only [Act.put, List.setIfInBounds_toArray, List.set_cons_zero, List.set_cons_succ]
                          refine takeH 11 (some 85) (v := ?_) rfl rfl (by kernel_rfl) (by kernel_rfl) (by kernel_rfl) (fun _ _ _ h => h) (Or.inl ⟨by rfl, ?_⟩) (by assumption) ?_
                          rotate_left 1
                          · intro w hSw; (try dsimp only at hSw); go_simp; all_goals with_reducible rfl
                          try simp only [Act.put, List.setIfInBounds_toArray, List.set_cons_zero, List.set_cons_succ]
                          refine takeH 12 (some 86) (v := undef) rfl rfl (by kernel_rfl) (by kernel_rfl) (by kernel_rfl) (fun _ _ _ h => h) (Or.inr ⟨by rfl, rfl⟩) (by assumption) ?_
                          try simp only [Act.put, List.setIfInBounds_toArray, List.set_cons_zero, List.set_cons_succ]
                          refine takeH 13 (some 87) (v := undef) rfl rfl (by kernel_rfl) (by kernel_rfl) (by kernel_rfl) (fun _ _ _ h => h) (Or.inr ⟨by rfl, rfl⟩) (by assumption) ?_
                          try simp only [Act.put, List.setIfInBounds_toArray, List.set_cons_zero, List.set_cons_succ]
                          refine takeH 14 (some 88) (v := undef) rfl rfl (by kernel_rfl) (by kernel_rfl) (by kernel_rfl) (fun _ _ _ h => h) (Or.inr ⟨by rfl, rfl⟩) (by assumption) ?_
                          try simp only [Act.put, List.setIfInBounds_toArray, List.set_cons_zero, List.set_cons_succ]
                          refine takeH 15 (some 89) (v := undef) rfl rfl (by kernel_rfl) (by kernel_rfl) (by kernel_rfl) (fun _ _ _ h => h) (Or.inr ⟨by rfl, rfl⟩) (by assumption) ?_
                          try simp only [Act.put, List.setIfInBounds_toArray, List.set_cons_zero, List.set_cons_succ]
                          refine takeH 16 (some 90) (v := undef) rfl rfl (by kernel_rfl) (by kernel_rfl) (by kernel_rfl) (fun _ _ _ h => h) (Or.inr ⟨by rfl, rfl⟩) (by assumption) ?_
                          try simp only [Act.put, List.setIfInBounds_toArray, List.set_cons_zero, List.set_cons_succ]
                          refine takeH 17 (some 91) (v := undef) rfl rfl (by kernel_rfl) (by kernel_rfl) (by kernel_rfl) (fun _ _ _ h => h) (Or.inr ⟨by rfl, rfl⟩) (by assumption) ?_
                          try simp only [Act.put, List.setIfInBounds_toArray, List.set_cons_zero, List.set_cons_succ]
                          refine takeH 18 (some 92) (v := undef) rfl rfl (by kernel_rfl) (by kernel_rfl) (by kernel_rfl) (fun _ _ _ h => h) (Or.inr ⟨by rfl, rfl⟩) (by assumption) ?_
                          try simp only [Act.put, List.setIfInBounds_toArray, List.set_cons_zero, List.set_cons_succ]
                          refine takeH 19 (some 93) (v := undef) rfl rfl (by kernel_rfl) (by kernel_rfl) (by kernel_rfl) (fun _ _ _ h => h) (Or.inr ⟨by rfl, rfl⟩) (by assumption) ?_
                          try simp only [Act.put, List.setIfInBounds_toArray, List.set_cons_zero, List.set_cons_succ]
                          refine takeH 20 (some 94) (v := undef) rfl rfl (by kernel_rfl) (by kernel_rfl) (by kernel_rfl) (fun _ _ _ h => h) (Or.inr ⟨by rfl, rfl⟩) (by assumption) ?_
                          try simp only [Act.put, List.setIfInBounds_toArray, List.set_cons_zero, List.set_cons_succ]
                          refine takeH 21 (some 95) (v := undef) rfl rfl (by kernel_rfl) (by kernel_rfl) (by kernel_rfl) (fun _ _ _ h => h) (Or.inr ⟨by rfl, rfl⟩) (by assumption) ?_
                          try simp only [Act.put, List.setIfInBounds_toArray, List.set_cons_zero, List.set_cons_succ]
                          refine takeH 22 (some 96) (v := undef) rfl rfl (by kernel_rfl) (by kernel_rfl) (by kernel_rfl) (fun _ _ _ h => h) (Or.inr ⟨by rfl, rfl⟩) (by assumption) ?_
                          try simp only [Act.put, List.setIfInBounds_toArray, List.set_cons_zero, List.set_cons_succ]
                          refine takeH 23 (some 97) (v := ?_) rfl rfl (by kernel_rfl) (by kernel_rfl) (by kernel_rfl) (fun _ _ _ h => h) (Or.inl ⟨by rfl, ?_⟩) (by assumption) ?_
                          rotate_left 1
                          · intro w hSw; (try dsimp only at hSw); go_simp; all_goals with_reducible rfl
                          try simp only [Act.put, List.setIfInBounds_toArray, List.set_cons_zero, List.set_cons_succ]
                          refine takeH 24 (some 98) (v := ?_) rfl rfl (by kernel_rfl) (by kernel_rfl) (by kernel_rfl) (fun _ _ _ h => h) (Or.inl ⟨by rfl, ?_⟩) (by assumption) ?_
                          rotate_left 1
                          · intro w hSw; (try dsimp only at hSw); go_simp; all_goals with_reducible rfl
                          try simp only [Act.put, List.setIfInBounds_toArray, List.set_cons_zero, List.set_cons_succ]
                          refine takeH 25 (some 99) (v := ?_) rfl rfl (by kernel_rfl) (by kernel_rfl) (by kernel_rfl) (fun _ _ _ h => h) (Or.inl ⟨by rfl, ?_⟩) (by assumption) ?_
                          rotate_left 1
                          · intro w hSw; (try dsimp only at hSw); go_simp; all_goals with_reducible rfl
                          try simp only [Act.put, List.setIfInBounds_toArray, List.set_cons_zero, List.set_cons_succ]
                          refine takeH 26 (some 100) (v := ?_) rfl rfl (by kernel_rfl) (by kernel_rfl) (by kernel_rfl) (fun _ _ _ h => h) (Or.inl ⟨by rfl, ?_⟩) (by assumption) ?_
                          rotate_left 1
                          · intro w hSw; (try dsimp only at hSw); go_simp; all_goals with_reducible rfl
                          try simp only [Act.put, List.setIfInBounds_toArray, List.set_cons_zero, List.set_cons_succ]
                          refine takeH 27 (some 101) (v := ?_) rfl rfl (by kernel_rfl) (by kernel_rfl) (by kernel_rfl) (fun _ _ _ h => h) (Or.inl ⟨by rfl, ?_⟩) (by assumption) ?_
                          rotate_left 1
                          · intro w hSw; (try dsimp only at hSw); go_simp; all_goals with_reducible rfl
                          try simp only [Act.put, List.setIfInBounds_toArray, List.set_cons_zero, List.set_cons_succ]
                          refine takeH 28 (some 102) (v := ?_) rfl rfl (by kernel_rfl) (by kernel_rfl) (by kernel_rfl) (fun _ _ _ h => h) (Or.inl ⟨by rfl, ?_⟩) (by assumption) ?_
                          rotate_left 1
                          · intro w hSw; (try dsimp only at hSw); go_simp; all_goals with_reducible rfl
                          try simp only [Act.put, List.setIfInBounds_toArray, List.set_cons_zero, List.set_cons_succ]
                          refine takeH 29 (some 103) (v := ?_) rfl rfl (by kernel_rfl) (by kernel_rfl) (by kernel_rfl) (fun _ _ _ h => h) (Or.inl ⟨by rfl, ?_⟩) (by assumption) ?_
                          rotate_left 1
                          · intro w hSw; (try dsimp only at hSw); go_simp; all_goals with_reducible rfl
                          try simp only [Act.put, List.setIfInBounds_toArray, List.set_cons_zero, List.set_cons_succ]
                          refine takeH 30 (some 104) (v := ?_) rfl rfl (by kernel_rfl) (by kernel_rfl) (by kernel_rfl) (fun _ _ _ h => h) (Or.inl ⟨by rfl, ?_⟩) (by assumption) ?_
                          rotate_left 1
                          · intro w hSw; (try dsimp only at hSw); go_simp; all_goals with_reducible rfl
                          try simp only [Act.put, List.setIfInBounds_toArray, List.set_cons_zero, List.set_cons_succ]
                          refine takeH 31 (some 105) (v := ?_) rfl rfl (by kernel_rfl) (by kernel_rfl) (by kernel_rfl) (fun _ _ _ h => h) (Or.inl ⟨by rfl, ?_⟩) (by assumption) ?_
                          rotate_left 1
                          · intro w hSw; (try dsimp only at hSw); go_simp; all_goals with_reducible rfl
                          try simp only [Act.put, List.setIfInBounds_toArray, List.set_cons_zero, List.set_cons_succ]
                          refine takeH 32 (some 106) (v := ?_) rfl rfl (by kernel_rfl) (by kernel_rfl) (by kernel_rfl) (fun _ _ _ h => h) (Or.inl ⟨by rfl, ?_⟩) (by assumption) ?_
                          rotate_left 1
                          · intro w hSw; (try dsimp only at hSw); go_simp; all_goals with_reducible rfl
                          try simp only [Act.put, List.setIfInBounds_toArray, List.set_cons_zero, List.set_cons_succ]
                          refine takeH 33 (some 107) (v := ?_) rfl rfl (by kernel_rfl) (by kernel_rfl) (by kernel_rfl) (fun _ _ _ h => h) (Or.inl ⟨by rfl, ?_⟩) (by assumption) ?_
                          rotate_left 1
                          · intro w hSw; (try dsimp only at hSw); go_simp; all_goals with_reducible rfl
                          try simp only [Act.put, List.setIfInBounds_toArray, List.set_cons_zero, List.set_cons_succ]
                          refine takeH 34 (some 108) (v := ?_) rfl rfl (by kernel_rfl) (by kernel_rfl) (by kernel_rfl) (fun _ _ _ h => h) (Or.inl ⟨by rfl, ?_⟩) (by assumption) ?_
                          rotate_left 1
                          · intro w hSw; (try dsimp only at hSw); go_simp; all_goals with_reducible rfl
                          try simp only [Act.put, List.setIfInBounds_toArray, List.set_cons_zero, List.set_cons_succ]
                          refine wpAnyH_ready (rs := [35]) (by kernel_rfl) (by simp) ?_
                          refine AllReadyH.cons rfl (fun K hK => ?_) AllReadyH.nil
                          go_simp
                          go_at_call 43; refine (HLS.out _).mono ?_; rintro e' uHLS ⟨rfl, hb⟩; have HSN := Lib.hid (HGB.out.trans (hb.mono HGB.out.size)); clear HGB; have HGB := HSN; clear HSN; clear hb
                          go_wp2_with fail
                          refine hK.out _ _ (by exact ⟨(HGB.out.cell (p := ⟨lb, 0, none⟩) hlbr).trans HYX.out.1, (HGB.out.cell (p := ⟨lb, 3, none⟩) hlbr).trans HYX.out.2.1, (HGB.out.cell (p := ⟨lb, 4, none⟩) hlbr).trans HYX.out.2.2.1, (HGB.out.cell (p := ⟨lb, 5, none⟩) hlbr).trans HYX.out.2.2.2.1, (HGB.out.cell (p := ⟨b, o, none⟩) hbr).trans HYX.out.2.2.2.2.1, (HGB.out.cell (p := ⟨b, o + 1, none⟩) hbr).trans HYX.out.2.2.2.2.2⟩) (fun hHeld => ?_)
                          clear hK K
                          try simp only [Act.put, List.setIfInBounds_toArray, List.set_cons_zero, List.set_cons_succ]
                          refine takeH 36 (some 110) (v := ?_) rfl rfl (by kernel_rfl) (by kernel_rfl) (by kernel_rfl) (fun _ _ _ h => h) (Or.inl ⟨by rfl, ?_⟩) (by assumption) ?_
                          rotate_left 1
                          · intro w hSw; (try dsimp only at hSw); go_simp; all_goals with_reducible rfl
                          try simp only [Act.put, List.setIfInBounds_toArray, List.set_cons_zero, List.set_cons_succ]
                          refine takeH 37 (some 111) (v := ?_) rfl rfl (by kernel_rfl) (by kernel_rfl) (by kernel_rfl) (fun _ _ _ h => h) (Or.inl ⟨by rfl, ?_⟩) (by assumption) ?_
                          rotate_left 1
                          · intro w hSw; (try dsimp only at hSw); go_simp; all_goals with_reducible rfl
                          try simp only [Act.put, List.setIfInBounds_toArray, List.set_cons_zero, List.set_cons_succ]
                          refine takeH 38 (some 112) (v := ?_) rfl rfl (by kernel_rfl) (by kernel_rfl) (by kernel_rfl) (fun _ _ _ h => h) (Or.inl ⟨by rfl, ?_⟩) (by assumption) ?_
                          rotate_left 1
                          · intro w hSw; (try dsimp only at hSw); go_simp; all_goals with_reducible rfl
                          try simp only [Act.put, List.setIfInBounds_toArray, List.set_cons_zero, List.set_cons_succ]
                          refine wpAnyH_done (by kernel_rfl) ?_ _
                          go_wp2_with fail
                          go_ret
                          exact HE.out _ (HB2.out.trans ((HBB.out.trans (HGB.out.mono HBB.out.size)).mono HB2.out.size))
                        | true =>
                          rw [hk] at HLS
                          have HO2 : RowKit.Hid (okI s.least (s.heard || decide (0 < 0 + 1)) ((l.take (0 + 1)).getLastD s.last) (l.drop (0 + 1)) = OK) := by
                            rw [if_neg (by simp [e1, hk])] at hO
                            rw [hlx, htr]; exact hO
                          have HIN2 : RowKit.Hid (s.heard = true → 0 < 0 + 1 → kless s.last ((l.take (0 + 1)).getLastD s.last) = true) := fun _ _ => by rw [hlx]; exact hk
                          clear hO hlx htr HIN hh hk
                          go_wp2_with fail
                          refine wp_region_held_drew (S := (fun w' => w'.cell? ⟨lb, 0, none⟩ = some (.int .i64 s.least) ∧ w'.cell? ⟨lb, 3, none⟩ = some (.bool true) ∧ w'.cell? ⟨lb, 4, none⟩ = some (.int .i64 s.last.1) ∧ w'.cell? ⟨lb, 5, none⟩ = some (.string s.last.2) ∧ w'.cell? ⟨b, o, none⟩ = some (.int .i64 x.1) ∧ w'.cell? ⟨b, o + 1, none⟩ = some (.string x.2))) (by kernel_rfl) (by exact ⟨(HGB.out.cell (p := ⟨lb, 0, none⟩) hlbr).trans HYX.out.1, (HGB.out.cell (p := ⟨lb, 3, none⟩) hlbr).trans HYX.out.2.1, (HGB.out.cell (p := ⟨lb, 4, none⟩) hlbr).trans HYX.out.2.2.1, (HGB.out.cell (p := ⟨lb, 5, none⟩) hlbr).trans HYX.out.2.2.2.1, (HGB.out.cell (p := ⟨b, o, none⟩) hbr).trans HYX.out.2.2.2.2.1, (HGB.out.cell (p := ⟨b, o + 1, none⟩) hbr).trans HYX.out.2.2.2.2.2⟩) (fun hHeld => ?_)
                          refine takeH 0 (some 74) (v := ?_) rfl rfl (by kernel_rfl) (by kernel_rfl) (by kernel_rfl) (fun _ _ _ h => h) (Or.inl ⟨by rfl, ?_⟩) (by assumption) ?_
                          rotate_left 1
                          · intro w hSw; (try dsimp only at hSw); go_simp; all_goals with_reducible rfl
                          try simp only [Act.put, List.setIfInBounds_toArray, List.set_cons_zero, List.set_cons_succ]
                          refine takeH 1 (some 75) (v := ?_) rfl rfl (by kernel_rfl) (by kernel_rfl) (by kernel_rfl) (fun _ _ _ h => h) (Or.inl ⟨by rfl, ?_⟩) (by assumption) ?_
                          rotate_left 1
                          · intro w hSw; (try dsimp only at hSw); go_simp; all_goals with_reducible rfl
                          try simp only [Act.put, List.setIfInBounds_toArray, List.set_cons_zero, List.set_cons_succ]
                          refine takeH 2 (some 76) (v := ?_) rfl rfl (by kernel_rfl) (by kernel_rfl) (by kernel_rfl) (fun _ _ _ h => h) (Or.inl ⟨by rfl, ?_⟩) (by assumption) ?_
                          rotate_left 1
                          · intro w hSw; (try dsimp only at hSw); go_simp; all_goals with_reducible rfl
                          try simp only [Act.put, List.setIfInBounds_toArray, List.set_cons_zero, List.set_cons_succ]
                          refine takeH 3 (some 77) (v := ?_) rfl rfl (by kernel_rfl) (by kernel_rfl) (by kernel_rfl) (fun _ _ _ h => h) (Or.inl ⟨by rfl, ?_⟩) (by assumption) ?_
                          rotate_left 1
                          · intro w hSw; (try dsimp only at hSw); go_simp; all_goals with_reducible rfl
                          try simp only [Act.put, List.setIfInBounds_toArray, List.set_cons_zero, List.set_cons_succ]
                          refine takeH 4 (some 78) (v := ?_) rfl rfl (by kernel_rfl) (by kernel_rfl) (by kernel_rfl) (fun _ _ _ h => h) (Or.inl ⟨by rfl, ?_⟩) (by assumption) ?_
                          rotate_left 1
                          · intro w hSw; (try dsimp only at hSw); go_simp; all_goals with_reducible rfl
                          try simp only [Act.put, List.setIfInBounds_toArray, List.set_cons_zero, List.set_cons_succ]
                          refine takeH 5 (some 79) (v := ?_) rfl rfl (by kernel_rfl) (by kernel_rfl) (by kernel_rfl) (fun _ _ _ h => h) (Or.inl ⟨by rfl, ?_⟩) (by assumption) ?_
                          rotate_left 1
                          · intro w hSw; (try dsimp only at hSw); go_simp; all_goals with_reducible rfl
                          try simp only [Act.put, List.setIfInBounds_toArray, List.set_cons_zero, List.set_cons_succ]
                          refine takeH 6 (some 80) (v := ?_) rfl rfl (by kernel_rfl) (by kernel_rfl) (by kernel_rfl) (fun _ _ _ h => h) (Or.inl ⟨by rfl, ?_⟩) (by assumption) ?_
                          rotate_left 1
                          · intro w hSw; (try dsimp only at hSw); go_simp; all_goals with_reducible rfl
                          try simp only [Act.put, List.setIfInBounds_toArray, List.set_cons_zero, List.set_cons_succ]
                          refine takeH 7 (some 81) (v := ?_) rfl rfl (by kernel_rfl) (by kernel_rfl) (by kernel_rfl) (fun _ _ _ h => h) (Or.inl ⟨by rfl, ?_⟩) (by assumption) ?_
                          rotate_left 1
                          · intro w hSw; (try dsimp only at hSw); go_simp; all_goals with_reducible rfl
                          try simp only [Act.put, List.setIfInBounds_toArray, List.set_cons_zero, List.set_cons_succ]
                          refine takeH 8 (some 82) (v := ?_) rfl rfl (by kernel_rfl) (by kernel_rfl) (by kernel_rfl) (fun _ _ _ h => h) (Or.inl ⟨by rfl, ?_⟩) (by assumption) ?_
                          rotate_left 1
                          · intro w hSw; (try dsimp only at hSw); go_simp; all_goals with_reducible rfl
                          try simp only [Act.put, List.setIfInBounds_toArray, List.set_cons_zero, List.set_cons_succ]
                          refine takeH 9 (some 83) (v := ?_) rfl rfl (by kernel_rfl) (by kernel_rfl) (by kernel_rfl) (fun _ _ _ h => h) (Or.inl ⟨by rfl, ?_⟩) (by assumption) ?_
                          rotate_left 1
                          · intro w hSw; (try dsimp only at hSw); go_simp; all_goals with_reducible rfl
                          try simp only [Act.put, List.setIfInBounds_toArray, List.set_cons_zero, List.set_cons_succ]
                          refine takeH 10 (some 84) (v := ?_) rfl rfl (by kernel_rfl) (by kernel_rfl) (by kernel_rfl) (fun _ _ _ h => h) (Or.inl ⟨by rfl, ?_⟩) (by assumption) ?_
                          rotate_left 1
                          · intro w hSw; (try dsimp only at hSw); go_simp; all_goals with_reducible rfl
                          try simp only [Act.put, List.setIfInBounds_toArray, List.set_cons_zero, List.set_cons_succ]
                          refine takeH 11 (some 85) (v := ?_) rfl rfl (by kernel_rfl) (by kernel_rfl) (by kernel_rfl) (fun _ _ _ h => h) (Or.inl ⟨by rfl, ?_⟩) (by assumption) ?_
                          rotate_left 1
                          · intro w hSw; (try dsimp only at hSw); go_simp; all_goals with_reducible rfl
                          try simp only [Act.put, List.setIfInBounds_toArray, List.set_cons_zero, List.set_cons_succ]
                          refine takeH 12 (some 86) (v := undef) rfl rfl (by kernel_rfl) (by kernel_rfl) (by kernel_rfl) (fun _ _ _ h => h) (Or.inr ⟨by rfl, rfl⟩) (by assumption) ?_
                          try simp only [Act.put, List.setIfInBounds_toArray, List.set_cons_zero, List.set_cons_succ]
                          refine takeH 13 (some 87) (v := undef) rfl rfl (by kernel_rfl) (by kernel_rfl) (by kernel_rfl) (fun _ _ _ h => h) (Or.inr ⟨by rfl, rfl⟩) (by assumption) ?_
                          try simp only [Act.put, List.setIfInBounds_toArray, List.set_cons_zero, List.set_cons_succ]
                          refine takeH 14 (some 88) (v := undef) rfl rfl (by kernel_rfl) (by kernel_rfl) (by kernel_rfl) (fun _ _ _ h => h) (Or.inr ⟨by rfl, rfl⟩) (by assumption) ?_
                          try simp only [Act.put, List.setIfInBounds_toArray, List.set_cons_zero, List.set_cons_succ]
                          refine takeH 15 (some 89) (v := undef) rfl rfl (by kernel_rfl) (by kernel_rfl) (by kernel_rfl) (fun _ _ _ h => h) (Or.inr ⟨by rfl, rfl⟩) (by assumption) ?_
                          try simp only [Act.put, List.setIfInBounds_toArray, List.set_cons_zero, List.set_cons_succ]
                          refine takeH 16 (some 90) (v := undef) rfl rfl (by kernel_rfl) (by kernel_rfl) (by kernel_rfl) (fun _ _ _ h => h) (Or.inr ⟨by rfl, rfl⟩) (by assumption) ?_
                          try simp only [Act.put, List.setIfInBounds_toArray, List.set_cons_zero, List.set_cons_succ]
                          refine takeH 17 (some 91) (v := undef) rfl rfl (by kernel_rfl) (by kernel_rfl) (by kernel_rfl) (fun _ _ _ h => h) (Or.inr ⟨by rfl, rfl⟩) (by assumption) ?_
                          try simp only [Act.put, List.setIfInBounds_toArray, List.set_cons_zero, List.set_cons_succ]
                          refine takeH 18 (some 92) (v := undef) rfl rfl (by kernel_rfl) (by kernel_rfl) (by kernel_rfl) (fun _ _ _ h => h) (Or.inr ⟨by rfl, rfl⟩) (by assumption) ?_
                          try simp only [Act.put, List.setIfInBounds_toArray, List.set_cons_zero, List.set_cons_succ]
                          refine takeH 19 (some 93) (v := undef) rfl rfl (by kernel_rfl) (by kernel_rfl) (by kernel_rfl) (fun _ _ _ h => h) (Or.inr ⟨by rfl, rfl⟩) (by assumption) ?_
                          try simp only [Act.put, List.setIfInBounds_toArray, List.set_cons_zero, List.set_cons_succ]
                          refine takeH 20 (some 94) (v := undef) rfl rfl (by kernel_rfl) (by kernel_rfl) (by kernel_rfl) (fun _ _ _ h => h) (Or.inr ⟨by rfl, rfl⟩) (by assumption) ?_
                          try simp only [Act.put, List.setIfInBounds_toArray, List.set_cons_zero, List.set_cons_succ]
                          refine takeH 21 (some 95) (v := undef) rfl rfl (by kernel_rfl) (by kernel_rfl) (by kernel_rfl) (fun _ _ _ h => h) (Or.inr ⟨by rfl, rfl⟩) (by assumption) ?_
                          try simp only [Act.put, List.setIfInBounds_toArray, List.set_cons_zero, List.set_cons_succ]
                          refine takeH 22 (some 96) (v := undef) rfl rfl (by kernel_rfl) (by kernel_rfl) (by kernel_rfl) (fun _ _ _ h => h) (Or.inr ⟨by rfl, rfl⟩) (by assumption) ?_
                          try simp only [Act.put, List.setIfInBounds_toArray, List.set_cons_zero, List.set_cons_succ]
                          refine takeH 23 (some 97) (v := ?_) rfl rfl (by kernel_rfl) (by kernel_rfl) (by kernel_rfl) (fun _ _ _ h => h) (Or.inl ⟨by rfl, ?_⟩) (by assumption) ?_
                          rotate_left 1
                          · intro w hSw; (try dsimp only at hSw); go_simp; all_goals with_reducible rfl
                          try simp only [Act.put, List.setIfInBounds_toArray, List.set_cons_zero, List.set_cons_succ]
                          refine takeH 24 (some 98) (v := ?_) rfl rfl (by kernel_rfl) (by kernel_rfl) (by kernel_rfl) (fun _ _ _ h => h) (Or.inl ⟨by rfl, ?_⟩) (by assumption) ?_
                          rotate_left 1
                          · intro w hSw; (try dsimp only at hSw); go_simp; all_goals with_reducible rfl
                          try simp only [Act.put, List.setIfInBounds_toArray, List.set_cons_zero, List.set_cons_succ]
                          refine takeH 25 (some 99) (v := ?_) rfl rfl (by kernel_rfl) (by kernel_rfl) (by kernel_rfl) (fun _ _ _ h => h) (Or.inl ⟨by rfl, ?_⟩) (by assumption) ?_
                          rotate_left 1
                          · intro w hSw; (try dsimp only at hSw); go_simp; all_goals with_reducible rfl
                          try simp only [Act.put, List.setIfInBounds_toArray, List.set_cons_zero, List.set_cons_succ]
                          refine takeH 26 (some 100) (v := ?_) rfl rfl (by kernel_rfl) (by kernel_rfl) (by kernel_rfl) (fun _ _ _ h => h) (Or.inl ⟨by rfl, ?_⟩) (by assumption) ?_
                          rotate_left 1
                          · intro w hSw; (try dsimp only at hSw); go_simp; all_goals with_reducible rfl
                          try simp only [Act.put, List.setIfInBounds_toArray, List.set_cons_zero, List.set_cons_succ]
                          refine takeH 27 (some 101) (v := ?_) rfl rfl (by kernel_rfl) (by kernel_rfl) (by kernel_rfl) (fun _ _ _ h => h) (Or.inl ⟨by rfl, ?_⟩) (by assumption) ?_
                          rotate_left 1
                          · intro w hSw; (try dsimp only at hSw); go_simp; all_goals with_reducible rfl
                          try simp only [Act.put, List.setIfInBounds_toArray, List.set_cons_zero, List.set_cons_succ]
                          refine takeH 28 (some 102) (v := ?_) rfl rfl (by kernel_rfl) (by kernel_rfl) (by kernel_rfl) (fun _ _ _ h => h) (Or.inl ⟨by rfl, ?_⟩) (by assumption) ?_
                          rotate_left 1
                          · intro w hSw; (try dsimp only at hSw); go_simp; all_goals with_reducible rfl
                          try simp only [Act.put, List.setIfInBounds_toArray, List.set_cons_zero, List.set_cons_succ]
                          refine takeH 29 (some 103) (v := ?_) rfl rfl (by kernel_rfl) (by kernel_rfl) (by kernel_rfl) (fun _ _ _ h => h) (Or.inl ⟨by rfl, ?_⟩) (by assumption) ?_
                          rotate_left 1
                          · intro w hSw; (try dsimp only at hSw); go_simp; all_goals with_reducible rfl
                          try simp only [Act.put, List.setIfInBounds_toArray, List.set_cons_zero, List.set_cons_succ]
                          refine takeH 30 (some 104) (v := ?_) rfl rfl (by kernel_rfl) (by kernel_rfl) (by kernel_rfl) (fun _ _ _ h => h) (Or.inl ⟨by rfl, ?_⟩) (by assumption) ?_
                          rotate_left 1
                          · intro w hSw; (try dsimp only at hSw); go_simp; all_goals with_reducible rfl
                          try simp only [Act.put, List.setIfInBounds_toArray, List.set_cons_zero, List.set_cons_succ]
                          refine takeH 31 (some 105) (v := ?_) rfl rfl (by kernel_rfl) (by kernel_rfl) (by kernel_rfl) (fun _ _ _ h => h) (Or.inl ⟨by rfl, ?_⟩) (by assumption) ?_
                          rotate_left 1
                          · intro w hSw; (try dsimp only at hSw); go_simp; all_goals with_reducible rfl
                          try simp only [Act.put, List.setIfInBounds_toArray, List.set_cons_zero, List.set_cons_succ]
                          refine takeH 32 (some 106) (v := ?_) rfl rfl (by kernel_rfl) (by kernel_rfl) (by kernel_rfl) (fun _ _ _ h => h) (Or.inl ⟨by rfl, ?_⟩) (by assumption) ?_
                          rotate_left 1
                          · intro w hSw; (try dsimp only at hSw); go_simp; all_goals with_reducible rfl
                          try simp only [Act.put, List.setIfInBounds_toArray, List.set_cons_zero, List.set_cons_succ]
                          refine takeH 33 (some 107) (v := ?_) rfl rfl (by kernel_rfl) (by kernel_rfl) (by kernel_rfl) (fun _ _ _ h => h) (Or.inl ⟨by rfl, ?_⟩) (by assumption) ?_
                          rotate_left 1
                          · intro w hSw; (try dsimp only at hSw); go_simp; all_goals with_reducible rfl
                          try simp only [Act.put, List.setIfInBounds_toArray, List.set_cons_zero, List.set_cons_succ]
                          refine takeH 34 (some 108) (v := ?_) rfl rfl (by kernel_rfl) (by kernel_rfl) (by kernel_rfl) (fun _ _ _ h => h) (Or.inl ⟨by rfl, ?_⟩) (by assumption) ?_
                          rotate_left 1
                          · intro w hSw; (try dsimp only at hSw); go_simp; all_goals with_reducible rfl
                          try simp only [Act.put, List.setIfInBounds_toArray, List.set_cons_zero, List.set_cons_succ]
                          refine wpAnyH_ready (rs := [35]) (by kernel_rfl) (by simp) ?_
                          refine AllReadyH.cons rfl (fun K hK => ?_) AllReadyH.nil
                          go_simp
                          go_at_call 43; refine (HLS.out _).mono ?_; rintro e' uHLS ⟨rfl, hb⟩; have HSN := Lib.hid (HGB.out.trans (hb.mono HGB.out.size)); clear HGB; have HGB := HSN; clear HSN; clear hb
                          go_wp2_with fail
                          refine hK.out _ _ (by exact ⟨(HGB.out.cell (p := ⟨lb, 0, none⟩) hlbr).trans HYX.out.1, (HGB.out.cell (p := ⟨lb, 3, none⟩) hlbr).trans HYX.out.2.1, (HGB.out.cell (p := ⟨lb, 4, none⟩) hlbr).trans HYX.out.2.2.1, (HGB.out.cell (p := ⟨lb, 5, none⟩) hlbr).trans HYX.out.2.2.2.1, (HGB.out.cell (p := ⟨b, o, none⟩) hbr).trans HYX.out.2.2.2.2.1, (HGB.out.cell (p := ⟨b, o + 1, none⟩) hbr).trans HYX.out.2.2.2.2.2⟩) (fun hHeld => ?_)
                          clear hK K
                          try simp only [Act.put, List.setIfInBounds_toArray, List.set_cons_zero, List.set_cons_succ]
                          refine takeH 36 (some 110) (v := ?_) rfl rfl (by kernel_rfl) (by kernel_rfl) (by kernel_rfl) (fun _ _ _ h => h) (Or.inl ⟨by rfl, ?_⟩) (by assumption) ?_
                          rotate_left 1
                          · intro w hSw; (try dsimp only at hSw); go_simp; all_goals with_reducible rfl
                          try simp only [Act.put, List.setIfInBounds_toArray, List.set_cons_zero, List.set_cons_succ]
                          refine takeH 37 (some 111) (v := ?_) rfl rfl (by kernel_rfl) (by kernel_rfl) (by kernel_rfl) (fun _ _ _ h => h) (Or.inl ⟨by rfl, ?_⟩) (by assumption) ?_
                          rotate_left 1
                          · intro w hSw; (try dsimp only at hSw); go_simp; all_goals with_reducible rfl
                          try simp only [Act.put, List.setIfInBounds_toArray, List.set_cons_zero, List.set_cons_succ]
                          refine takeH 38 (some 112) (v := ?_) rfl rfl (by kernel_rfl) (by kernel_rfl) (by kernel_rfl) (fun _ _ _ h => h) (Or.inl ⟨by rfl, ?_⟩) (by assumption) ?_
                          rotate_left 1
                          · intro w hSw; (try dsimp only at hSw); go_simp; all_goals with_reducible rfl
                          try simp only [Act.put, List.setIfInBounds_toArray, List.set_cons_zero, List.set_cons_succ]
                          refine wpAnyH_done (by kernel_rfl) ?_ _
                          go_wp2_with fail
                          go_roundw
                          case rel => exact ⟨0 + 1, by rw [HLM.out]; omega, by go_num, HO2.out, HIN2.out, HBB.out.trans (HGB.out.mono HBB.out.size)⟩
                          case measure => simp [intOf]; omega
                    · obtain ⟨i, hi⟩ : ∃ i, j = i + 1 := ⟨j - 1, by omega⟩
                      obtain ⟨y, hy⟩ : ∃ y, l[i]? = some y := ⟨_, List.getElem?_eq_getElem (show i < l.length by rw [HLM.out]; omega)⟩
                      have hly : (l.take j).getLastD s.last = y := by rw [hi]; exact last_take hy
                      have hjp : (s.heard || decide (0 < j)) = true := by simp; omega
                      rw [hly, hjp] at hO
                      have hin := HIN.out
                      rw [hly] at hin
                      obtain ⟨b', o', hbo, p0, p1, _⟩ := ((HR.out.below HB2.out rfl).below HBB.out rfl).atI hy
                      cases hbo
                      have HYZ := Lib.hid (HZ.out y (List.mem_of_getElem? hy))
                      have e2 : decide ((0 : Int) < (j : Int)) = true := by simp; omega
                      have e2' : decide (0 < j) = true := by simp; omega
                      have e3 : IntKind.i64.wrap ((j : Int) - 1) = (i : Int) := by rw [show ((j : Int) - 1) = (i : Int) from by omega]; exact IntWalk.i64_in _ (by omega)
                      have i1 : (0 : Int) ≤ (i : Int) := by omega
                      have i2 : (i : Int) < (m : Int) := by omega
                      have HLS := Lib.hid (fun W => ritless y x W HYZ.out HXZ.out)
                      have HGB : RowKit.Hid (Below wr.heap.size wr wr.drew) := below_drewN (Below.refl _ _) 1
                      have HY2 := Lib.hid (And.intro p0 p1)
                      cases hk : kless y x with
                      | false =>
                        rw [hk] at HLS
                        have hok : OK = false := by rw [← hO]; simp [hk]
                        have HE := Lib.hid (HNO.out (.inr (.inr (.inr (by rw [HOK.out]; exact hok)))))
                        obtain ⟨hdv, hhd⟩ : ∃ b, s.heard = b := ⟨_, rfl⟩
                        rw [hhd] at l3
                        have HYX := Lib.hid (And.intro l0 (And.intro l3 (And.intro l4 (And.intro l5 (And.intro z0 z1)))))
                        clear hO hlx htr hin hly hjp HNO HYES HIN hk hy hi hhd
                        go_wp2_with fail
                        refine wp_region_held_drew (S := (fun w' => w'.cell? ⟨lb, 0, none⟩ = some (.int .i64 s.least) ∧ w'.cell? ⟨lb, 3, none⟩ = some (.bool hdv) ∧ w'.cell? ⟨lb, 4, none⟩ = some (.int .i64 s.last.1) ∧ w'.cell? ⟨lb, 5, none⟩ = some (.string s.last.2) ∧ w'.cell? ⟨b, o + j * 2, none⟩ = some (.int .i64 x.1) ∧ w'.cell? ⟨b, o + j * 2 + 1, none⟩ = some (.string x.2) ∧ w'.cell? ⟨b, o + i * 2, none⟩ = some (.int .i64 y.1) ∧ w'.cell? ⟨b, o + i * 2 + 1, none⟩ = some (.string y.2))) (by kernel_rfl) (by exact ⟨(HGB.out.cell (p := ⟨lb, 0, none⟩) hlbr).trans HYX.out.1, (HGB.out.cell (p := ⟨lb, 3, none⟩) hlbr).trans HYX.out.2.1, (HGB.out.cell (p := ⟨lb, 4, none⟩) hlbr).trans HYX.out.2.2.1, (HGB.out.cell (p := ⟨lb, 5, none⟩) hlbr).trans HYX.out.2.2.2.1, (HGB.out.cell (p := ⟨b, o + j * 2, none⟩) hbr).trans HYX.out.2.2.2.2.1, (HGB.out.cell (p := ⟨b, o + j * 2 + 1, none⟩) hbr).trans HYX.out.2.2.2.2.2, (HGB.out.cell (p := ⟨b, o + i * 2, none⟩) hbr).trans HY2.out.1, (HGB.out.cell (p := ⟨b, o + i * 2 + 1, none⟩) hbr).trans HY2.out.2⟩) (fun hHeld => ?_)
                        refine takeH 0 (some 74) (v := ?_) rfl rfl (by kernel_rfl) (by kernel_rfl) (by kernel_rfl) (fun _ _ _ h => h) (Or.inl ⟨by rfl, ?_⟩) (by assumption) ?_
                        rotate_left 1
                        · intro w hSw; (try dsimp only at hSw); go_simp; all_goals with_reducible rfl
                        try simp only [Act.put, List.setIfInBounds_toArray, List.set_cons_zero, List.set_cons_succ]
                        refine takeH 1 (some 75) (v := ?_) rfl rfl (by kernel_rfl) (by kernel_rfl) (by kernel_rfl) (fun _ _ _ h => h) (Or.inl ⟨by rfl, ?_⟩) (by assumption) ?_
                        rotate_left 1
                        · intro w hSw; (try dsimp only at hSw); go_simp; all_goals with_reducible rfl
                        try simp only [Act.put, List.setIfInBounds_toArray, List.set_cons_zero, List.set_cons_succ]
                        refine takeH 2 (some 76) (v := ?_) rfl rfl (by kernel_rfl) (by kernel_rfl) (by kernel_rfl) (fun _ _ _ h => h) (Or.inl ⟨by rfl, ?_⟩) (by assumption) ?_
                        rotate_left 1
                        · intro w hSw; (try dsimp only at hSw); go_simp; all_goals with_reducible rfl
                        try simp only [Act.put, List.setIfInBounds_toArray, List.set_cons_zero, List.set_cons_succ]
                        refine takeH 3 (some 77) (v := ?_) rfl rfl (by kernel_rfl) (by kernel_rfl) (by kernel_rfl) (fun _ _ _ h => h) (Or.inl ⟨by rfl, ?_⟩) (by assumption) ?_
                        rotate_left 1
                        · intro w hSw; (try dsimp only at hSw); go_simp; all_goals with_reducible rfl
                        try simp only [Act.put, List.setIfInBounds_toArray, List.set_cons_zero, List.set_cons_succ]
                        refine takeH 4 (some 78) (v := ?_) rfl rfl (by kernel_rfl) (by kernel_rfl) (by kernel_rfl) (fun _ _ _ h => h) (Or.inl ⟨by rfl, ?_⟩) (by assumption) ?_
                        rotate_left 1
                        · intro w hSw; (try dsimp only at hSw); go_simp; all_goals with_reducible rfl
                        try simp only [Act.put, List.setIfInBounds_toArray, List.set_cons_zero, List.set_cons_succ]
                        refine takeH 5 (some 79) (v := ?_) rfl rfl (by kernel_rfl) (by kernel_rfl) (by kernel_rfl) (fun _ _ _ h => h) (Or.inl ⟨by rfl, ?_⟩) (by assumption) ?_
                        rotate_left 1
                        · intro w hSw; (try dsimp only at hSw); go_simp; all_goals with_reducible rfl
                        try simp only [Act.put, List.setIfInBounds_toArray, List.set_cons_zero, List.set_cons_succ]
                        refine takeH 6 (some 80) (v := ?_) rfl rfl (by kernel_rfl) (by kernel_rfl) (by kernel_rfl) (fun _ _ _ h => h) (Or.inl ⟨by rfl, ?_⟩) (by assumption) ?_
                        rotate_left 1
                        · intro w hSw; (try dsimp only at hSw); go_simp; all_goals with_reducible rfl
                        try simp only [Act.put, List.setIfInBounds_toArray, List.set_cons_zero, List.set_cons_succ]
                        refine takeH 7 (some 81) (v := ?_) rfl rfl (by kernel_rfl) (by kernel_rfl) (by kernel_rfl) (fun _ _ _ h => h) (Or.inl ⟨by rfl, ?_⟩) (by assumption) ?_
                        rotate_left 1
                        · intro w hSw; (try dsimp only at hSw); go_simp; all_goals with_reducible rfl
                        try simp only [Act.put, List.setIfInBounds_toArray, List.set_cons_zero, List.set_cons_succ]
                        refine takeH 8 (some 82) (v := ?_) rfl rfl (by kernel_rfl) (by kernel_rfl) (by kernel_rfl) (fun _ _ _ h => h) (Or.inl ⟨by rfl, ?_⟩) (by assumption) ?_
                        rotate_left 1
                        · intro w hSw; (try dsimp only at hSw); go_simp; all_goals with_reducible rfl
                        try simp only [Act.put, List.setIfInBounds_toArray, List.set_cons_zero, List.set_cons_succ]
                        refine takeH 9 (some 83) (v := ?_) rfl rfl (by kernel_rfl) (by kernel_rfl) (by kernel_rfl) (fun _ _ _ h => h) (Or.inl ⟨by rfl, ?_⟩) (by assumption) ?_
                        rotate_left 1
                        · intro w hSw; (try dsimp only at hSw); go_simp; all_goals with_reducible rfl
                        try simp only [Act.put, List.setIfInBounds_toArray, List.set_cons_zero, List.set_cons_succ]
                        refine takeH 10 (some 84) (v := ?_) rfl rfl (by kernel_rfl) (by kernel_rfl) (by kernel_rfl) (fun _ _ _ h => h) (Or.inl ⟨by rfl, ?_⟩) (by assumption) ?_
                        rotate_left 1
                        · intro w hSw; (try dsimp only at hSw); go_simp; all_goals with_reducible rfl
                        try simp only [Act.put, List.setIfInBounds_toArray, List.set_cons_zero, List.set_cons_succ]
                        refine takeH 11 (some 85) (v := ?_) rfl rfl (by kernel_rfl) (by kernel_rfl) (by kernel_rfl) (fun _ _ _ h => h) (Or.inl ⟨by rfl, ?_⟩) (by assumption) ?_
                        rotate_left 1
                        · intro w hSw; (try dsimp only at hSw); go_simp; all_goals with_reducible rfl
                        try simp only [Act.put, List.setIfInBounds_toArray, List.set_cons_zero, List.set_cons_succ]
                        refine takeH 12 (some 86) (v := ?_) rfl rfl (by kernel_rfl) (by kernel_rfl) (by kernel_rfl) (fun _ _ _ h => h) (Or.inl ⟨by rfl, ?_⟩) (by assumption) ?_
                        rotate_left 1
                        · intro w hSw; (try dsimp only at hSw); go_simp; all_goals with_reducible rfl
                        try simp only [Act.put, List.setIfInBounds_toArray, List.set_cons_zero, List.set_cons_succ]
                        refine takeH 13 (some 87) (v := ?_) rfl rfl (by kernel_rfl) (by kernel_rfl) (by kernel_rfl) (fun _ _ _ h => h) (Or.inl ⟨by rfl, ?_⟩) (by assumption) ?_
                        rotate_left 1
                        · intro w hSw; (try dsimp only at hSw); go_simp; all_goals with_reducible rfl
                        try simp only [Act.put, List.setIfInBounds_toArray, List.set_cons_zero, List.set_cons_succ]
                        refine takeH 14 (some 88) (v := ?_) rfl rfl (by kernel_rfl) (by kernel_rfl) (by kernel_rfl) (fun _ _ _ h => h) (Or.inl ⟨by rfl, ?_⟩) (by assumption) ?_
                        rotate_left 1
                        · intro w hSw; (try dsimp only at hSw); go_simp; all_goals with_reducible rfl
                        try simp only [Act.put, List.setIfInBounds_toArray, List.set_cons_zero, List.set_cons_succ]
                        refine takeH 15 (some 89) (v := ?_) rfl rfl (by kernel_rfl) (by kernel_rfl) (by kernel_rfl) (fun _ _ _ h => h) (Or.inl ⟨by rfl, ?_⟩) (by assumption) ?_
                        rotate_left 1
                        · intro w hSw; (try dsimp only at hSw); go_simp; all_goals with_reducible rfl
                        try simp only [Act.put, List.setIfInBounds_toArray, List.set_cons_zero, List.set_cons_succ]
                        refine takeH 16 (some 90) (v := ?_) rfl rfl (by kernel_rfl) (by kernel_rfl) (by kernel_rfl) (fun _ _ _ h => h) (Or.inl ⟨by rfl, ?_⟩) (by assumption) ?_
                        rotate_left 1
                        · intro w hSw; (try dsimp only at hSw); go_simp; all_goals with_reducible rfl
                        try simp only [Act.put, List.setIfInBounds_toArray, List.set_cons_zero, List.set_cons_succ]
                        refine takeH 17 (some 91) (v := ?_) rfl rfl (by kernel_rfl) (by kernel_rfl) (by kernel_rfl) (fun _ _ _ h => h) (Or.inl ⟨by rfl, ?_⟩) (by assumption) ?_
                        rotate_left 1
                        · intro w hSw; (try dsimp only at hSw); go_simp; all_goals with_reducible rfl
                        try simp only [Act.put, List.setIfInBounds_toArray, List.set_cons_zero, List.set_cons_succ]
                        refine takeH 18 (some 92) (v := ?_) rfl rfl (by kernel_rfl) (by kernel_rfl) (by kernel_rfl) (fun _ _ _ h => h) (Or.inl ⟨by rfl, ?_⟩) (by assumption) ?_
                        rotate_left 1
                        · intro w hSw; (try dsimp only at hSw); go_simp; all_goals with_reducible rfl
                        try simp only [Act.put, List.setIfInBounds_toArray, List.set_cons_zero, List.set_cons_succ]
                        refine takeH 19 (some 93) (v := ?_) rfl rfl (by kernel_rfl) (by kernel_rfl) (by kernel_rfl) (fun _ _ _ h => h) (Or.inl ⟨by rfl, ?_⟩) (by assumption) ?_
                        rotate_left 1
                        · intro w hSw; (try dsimp only at hSw); go_simp; all_goals with_reducible rfl
                        try simp only [Act.put, List.setIfInBounds_toArray, List.set_cons_zero, List.set_cons_succ]
                        refine takeH 20 (some 94) (v := ?_) rfl rfl (by kernel_rfl) (by kernel_rfl) (by kernel_rfl) (fun _ _ _ h => h) (Or.inl ⟨by rfl, ?_⟩) (by assumption) ?_
                        rotate_left 1
                        · intro w hSw; (try dsimp only at hSw); go_simp; all_goals with_reducible rfl
                        try simp only [Act.put, List.setIfInBounds_toArray, List.set_cons_zero, List.set_cons_succ]
                        refine wpAnyH_ready (rs := [21]) (by kernel_rfl) (by simp) ?_
                        refine AllReadyH.cons rfl (fun K hK => ?_) AllReadyH.nil
                        go_simp
                        go_at_call 43; refine (HLS.out _).mono ?_; rintro e' uHLS ⟨rfl, hb⟩; have HSN := Lib.hid (HGB.out.trans (hb.mono HGB.out.size)); clear HGB; have HGB := HSN; clear HSN; clear hb
                        go_wp2_with fail
                        refine hK.out _ _ (by exact ⟨(HGB.out.cell (p := ⟨lb, 0, none⟩) hlbr).trans HYX.out.1, (HGB.out.cell (p := ⟨lb, 3, none⟩) hlbr).trans HYX.out.2.1, (HGB.out.cell (p := ⟨lb, 4, none⟩) hlbr).trans HYX.out.2.2.1, (HGB.out.cell (p := ⟨lb, 5, none⟩) hlbr).trans HYX.out.2.2.2.1, (HGB.out.cell (p := ⟨b, o + j * 2, none⟩) hbr).trans HYX.out.2.2.2.2.1, (HGB.out.cell (p := ⟨b, o + j * 2 + 1, none⟩) hbr).trans HYX.out.2.2.2.2.2, (HGB.out.cell (p := ⟨b, o + i * 2, none⟩) hbr).trans HY2.out.1, (HGB.out.cell (p := ⟨b, o + i * 2 + 1, none⟩) hbr).trans HY2.out.2⟩) (fun hHeld => ?_)
                        clear hK K
                        try simp only [Act.put, List.setIfInBounds_toArray, List.set_cons_zero, List.set_cons_succ]
                        refine takeH 22 (some 96) (v := ?_) rfl rfl (by kernel_rfl) (by kernel_rfl) (by kernel_rfl) (fun _ _ _ h => h) (Or.inl ⟨by rfl, ?_⟩) (by assumption) ?_
                        rotate_left 1
                        · intro w hSw; (try dsimp only at hSw); go_simp; all_goals with_reducible rfl
                        try simp only [Act.put, List.setIfInBounds_toArray, List.set_cons_zero, List.set_cons_succ]
                        refine takeH 23 (some 97) (v := ?_) rfl rfl (by kernel_rfl) (by kernel_rfl) (by kernel_rfl) (fun _ _ _ h => h) (Or.inl ⟨by rfl, ?_⟩) (by assumption) ?_
                        rotate_left 1
                        · intro w hSw; (try dsimp only at hSw); go_simp; all_goals with_reducible rfl
                        try simp only [Act.put, List.setIfInBounds_toArray, List.set_cons_zero, List.set_cons_succ]
                        refine takeH 24 (some 98) (v := ?_) rfl rfl (by kernel_rfl) (by kernel_rfl) (by kernel_rfl) (fun _ _ _ h => h) (Or.inl ⟨by rfl, ?_⟩) (by assumption) ?_
                        rotate_left 1
                        · intro w hSw; (try dsimp only at hSw); go_simp; all_goals with_reducible rfl
                        try simp only [Act.put, List.setIfInBounds_toArray, List.set_cons_zero, List.set_cons_succ]
                        refine takeH 25 (some 99) (v := ?_) rfl rfl (by kernel_rfl) (by kernel_rfl) (by kernel_rfl) (fun _ _ _ h => h) (Or.inl ⟨by rfl, ?_⟩) (by assumption) ?_
                        rotate_left 1
                        · intro w hSw; (try dsimp only at hSw); go_simp; all_goals with_reducible rfl
                        try simp only [Act.put, List.setIfInBounds_toArray, List.set_cons_zero, List.set_cons_succ]
                        refine takeH 26 (some 100) (v := undef) rfl rfl (by kernel_rfl) (by kernel_rfl) (by kernel_rfl) (fun _ _ _ h => h) (Or.inr ⟨by rfl, rfl⟩) (by assumption) ?_
                        try simp only [Act.put, List.setIfInBounds_toArray, List.set_cons_zero, List.set_cons_succ]
                        refine takeH 27 (some 101) (v := undef) rfl rfl (by kernel_rfl) (by kernel_rfl) (by kernel_rfl) (fun _ _ _ h => h) (Or.inr ⟨by rfl, rfl⟩) (by assumption) ?_
                        try simp only [Act.put, List.setIfInBounds_toArray, List.set_cons_zero, List.set_cons_succ]
                        refine takeH 28 (some 102) (v := undef) rfl rfl (by kernel_rfl) (by kernel_rfl) (by kernel_rfl) (fun _ _ _ h => h) (Or.inr ⟨by rfl, rfl⟩) (by assumption) ?_
                        try simp only [Act.put, List.setIfInBounds_toArray, List.set_cons_zero, List.set_cons_succ]
                        refine takeH 29 (some 103) (v := undef) rfl rfl (by kernel_rfl) (by kernel_rfl) (by kernel_rfl) (fun _ _ _ h => h) (Or.inr ⟨by rfl, rfl⟩) (by assumption) ?_
                        try simp only [Act.put, List.setIfInBounds_toArray, List.set_cons_zero, List.set_cons_succ]
                        refine takeH 30 (some 104) (v := undef) rfl rfl (by kernel_rfl) (by kernel_rfl) (by kernel_rfl) (fun _ _ _ h => h) (Or.inr ⟨by rfl, rfl⟩) (by assumption) ?_
                        try simp only [Act.put, List.setIfInBounds_toArray, List.set_cons_zero, List.set_cons_succ]
                        refine takeH 31 (some 105) (v := undef) rfl rfl (by kernel_rfl) (by kernel_rfl) (by kernel_rfl) (fun _ _ _ h => h) (Or.inr ⟨by rfl, rfl⟩) (by assumption) ?_
                        try simp only [Act.put, List.setIfInBounds_toArray, List.set_cons_zero, List.set_cons_succ]
                        refine takeH 32 (some 106) (v := undef) rfl rfl (by kernel_rfl) (by kernel_rfl) (by kernel_rfl) (fun _ _ _ h => h) (Or.inr ⟨by rfl, rfl⟩) (by assumption) ?_
                        try simp only [Act.put, List.setIfInBounds_toArray, List.set_cons_zero, List.set_cons_succ]
                        refine takeH 33 (some 107) (v := undef) rfl rfl (by kernel_rfl) (by kernel_rfl) (by kernel_rfl) (fun _ _ _ h => h) (Or.inr ⟨by rfl, rfl⟩) (by assumption) ?_
                        try simp only [Act.put, List.setIfInBounds_toArray, List.set_cons_zero, List.set_cons_succ]
                        refine takeH 34 (some 108) (v := undef) rfl rfl (by kernel_rfl) (by kernel_rfl) (by kernel_rfl) (fun _ _ _ h => h) (Or.inr ⟨by rfl, rfl⟩) (by assumption) ?_
                        try simp only [Act.put, List.setIfInBounds_toArray, List.set_cons_zero, List.set_cons_succ]
                        refine takeH 35 (some 109) (v := undef) rfl rfl (by kernel_rfl) (by kernel_rfl) (by kernel_rfl) (fun _ _ _ h => h) (Or.inr ⟨by rfl, rfl⟩) (by assumption) ?_
                        try simp only [Act.put, List.setIfInBounds_toArray, List.set_cons_zero, List.set_cons_succ]
                        refine takeH 36 (some 110) (v := undef) rfl rfl (by kernel_rfl) (by kernel_rfl) (by kernel_rfl) (fun _ _ _ h => h) (Or.inr ⟨by rfl, rfl⟩) (by assumption) ?_
                        try simp only [Act.put, List.setIfInBounds_toArray, List.set_cons_zero, List.set_cons_succ]
                        refine takeH 37 (some 111) (v := undef) rfl rfl (by kernel_rfl) (by kernel_rfl) (by kernel_rfl) (fun _ _ _ h => h) (Or.inr ⟨by rfl, rfl⟩) (by assumption) ?_
                        try simp only [Act.put, List.setIfInBounds_toArray, List.set_cons_zero, List.set_cons_succ]
                        refine takeH 38 (some 112) (v := ?_) rfl rfl (by kernel_rfl) (by kernel_rfl) (by kernel_rfl) (fun _ _ _ h => h) (Or.inl ⟨by rfl, ?_⟩) (by assumption) ?_
                        rotate_left 1
                        · intro w hSw; (try dsimp only at hSw); go_simp; all_goals with_reducible rfl
                        try simp only [Act.put, List.setIfInBounds_toArray, List.set_cons_zero, List.set_cons_succ]
                        refine wpAnyH_done (by kernel_rfl) ?_ _
                        go_wp2_with fail
                        go_ret
                        exact HE.out _ (HB2.out.trans ((HBB.out.trans (HGB.out.mono HBB.out.size)).mono HB2.out.size))
                      | true =>
                        rw [hk] at HLS
                        have HO2 : RowKit.Hid (okI s.least (s.heard || decide (0 < j + 1)) ((l.take (j + 1)).getLastD s.last) (l.drop (j + 1)) = OK) := by
                          rw [if_neg (by simp [e1, hk])] at hO
                          rw [hlx, htr]; exact hO
                        cases hh : s.heard with
                        | false =>
                          rw [hh] at l3
                          have HIN2 : RowKit.Hid (s.heard = true → 0 < j + 1 → kless s.last ((l.take (j + 1)).getLastD s.last) = true) := fun h => by rw [hh] at h; cases h
                          have HYX := Lib.hid (And.intro l0 (And.intro l3 (And.intro l4 (And.intro l5 (And.intro z0 z1)))))
                          clear hO hlx htr hin hly hjp HIN hk hy hi hh
                          go_wp2_with fail
                          refine wp_region_held_drew (S := (fun w' => w'.cell? ⟨lb, 0, none⟩ = some (.int .i64 s.least) ∧ w'.cell? ⟨lb, 3, none⟩ = some (.bool false) ∧ w'.cell? ⟨lb, 4, none⟩ = some (.int .i64 s.last.1) ∧ w'.cell? ⟨lb, 5, none⟩ = some (.string s.last.2) ∧ w'.cell? ⟨b, o + j * 2, none⟩ = some (.int .i64 x.1) ∧ w'.cell? ⟨b, o + j * 2 + 1, none⟩ = some (.string x.2) ∧ w'.cell? ⟨b, o + i * 2, none⟩ = some (.int .i64 y.1) ∧ w'.cell? ⟨b, o + i * 2 + 1, none⟩ = some (.string y.2))) (by kernel_rfl) (by exact ⟨(HGB.out.cell (p := ⟨lb, 0, none⟩) hlbr).trans HYX.out.1, (HGB.out.cell (p := ⟨lb, 3, none⟩) hlbr).trans HYX.out.2.1, (HGB.out.cell (p := ⟨lb, 4, none⟩) hlbr).trans HYX.out.2.2.1, (HGB.out.cell (p := ⟨lb, 5, none⟩) hlbr).trans HYX.out.2.2.2.1, (HGB.out.cell (p := ⟨b, o + j * 2, none⟩) hbr).trans HYX.out.2.2.2.2.1, (HGB.out.cell (p := ⟨b, o + j * 2 + 1, none⟩) hbr).trans HYX.out.2.2.2.2.2, (HGB.out.cell (p := ⟨b, o + i * 2, none⟩) hbr).trans HY2.out.1, (HGB.out.cell (p := ⟨b, o + i * 2 + 1, none⟩) hbr).trans HY2.out.2⟩) (fun hHeld => ?_)
                          refine takeH 0 (some 74) (v := ?_) rfl rfl (by kernel_rfl) (by kernel_rfl) (by kernel_rfl) (fun _ _ _ h => h) (Or.inl ⟨by rfl, ?_⟩) (by assumption) ?_
                          rotate_left 1
                          · intro w hSw; (try dsimp only at hSw); go_simp; all_goals with_reducible rfl
                          try simp only [Act.put, List.setIfInBounds_toArray, List.set_cons_zero, List.set_cons_succ]
                          refine takeH 1 (some 75) (v := ?_) rfl rfl (by kernel_rfl) (by kernel_rfl) (by kernel_rfl) (fun _ _ _ h => h) (Or.inl ⟨by rfl, ?_⟩) (by assumption) ?_
                          rotate_left 1
                          · intro w hSw; (try dsimp only at hSw); go_simp; all_goals with_reducible rfl
                          try simp only [Act.put, List.setIfInBounds_toArray, List.set_cons_zero, List.set_cons_succ]
                          refine takeH 2 (some 76) (v := ?_) rfl rfl (by kernel_rfl) (by kernel_rfl) (by kernel_rfl) (fun _ _ _ h => h) (Or.inl ⟨by rfl, ?_⟩) (by assumption) ?_
                          rotate_left 1
                          · intro w hSw; (try dsimp only at hSw); go_simp; all_goals with_reducible rfl
                          try simp only [Act.put, List.setIfInBounds_toArray, List.set_cons_zero, List.set_cons_succ]
                          refine takeH 3 (some 77) (v := ?_) rfl rfl (by kernel_rfl) (by kernel_rfl) (by kernel_rfl) (fun _ _ _ h => h) (Or.inl ⟨by rfl, ?_⟩) (by assumption) ?_
                          rotate_left 1
                          · intro w hSw; (try dsimp only at hSw); go_simp; all_goals with_reducible rfl
                          try simp only [Act.put, List.setIfInBounds_toArray, List.set_cons_zero, List.set_cons_succ]
                          refine takeH 4 (some 78) (v := ?_) rfl rfl (by kernel_rfl) (by kernel_rfl) (by kernel_rfl) (fun _ _ _ h => h) (Or.inl ⟨by rfl, ?_⟩) (by assumption) ?_
                          rotate_left 1
                          · intro w hSw; (try dsimp only at hSw); go_simp; all_goals with_reducible rfl
                          try simp only [Act.put, List.setIfInBounds_toArray, List.set_cons_zero, List.set_cons_succ]
                          refine takeH 5 (some 79) (v := ?_) rfl rfl (by kernel_rfl) (by kernel_rfl) (by kernel_rfl) (fun _ _ _ h => h) (Or.inl ⟨by rfl, ?_⟩) (by assumption) ?_
                          rotate_left 1
                          · intro w hSw; (try dsimp only at hSw); go_simp; all_goals with_reducible rfl
                          try simp only [Act.put, List.setIfInBounds_toArray, List.set_cons_zero, List.set_cons_succ]
                          refine takeH 6 (some 80) (v := ?_) rfl rfl (by kernel_rfl) (by kernel_rfl) (by kernel_rfl) (fun _ _ _ h => h) (Or.inl ⟨by rfl, ?_⟩) (by assumption) ?_
                          rotate_left 1
                          · intro w hSw; (try dsimp only at hSw); go_simp; all_goals with_reducible rfl
                          try simp only [Act.put, List.setIfInBounds_toArray, List.set_cons_zero, List.set_cons_succ]
                          refine takeH 7 (some 81) (v := ?_) rfl rfl (by kernel_rfl) (by kernel_rfl) (by kernel_rfl) (fun _ _ _ h => h) (Or.inl ⟨by rfl, ?_⟩) (by assumption) ?_
                          rotate_left 1
                          · intro w hSw; (try dsimp only at hSw); go_simp; all_goals with_reducible rfl
                          try simp only [Act.put, List.setIfInBounds_toArray, List.set_cons_zero, List.set_cons_succ]
                          refine takeH 8 (some 82) (v := ?_) rfl rfl (by kernel_rfl) (by kernel_rfl) (by kernel_rfl) (fun _ _ _ h => h) (Or.inl ⟨by rfl, ?_⟩) (by assumption) ?_
                          rotate_left 1
                          · intro w hSw; (try dsimp only at hSw); go_simp; all_goals with_reducible rfl
                          try simp only [Act.put, List.setIfInBounds_toArray, List.set_cons_zero, List.set_cons_succ]
                          refine takeH 9 (some 83) (v := ?_) rfl rfl (by kernel_rfl) (by kernel_rfl) (by kernel_rfl) (fun _ _ _ h => h) (Or.inl ⟨by rfl, ?_⟩) (by assumption) ?_
                          rotate_left 1
                          · intro w hSw; (try dsimp only at hSw); go_simp; all_goals with_reducible rfl
                          try simp only [Act.put, List.setIfInBounds_toArray, List.set_cons_zero, List.set_cons_succ]
                          refine takeH 10 (some 84) (v := ?_) rfl rfl (by kernel_rfl) (by kernel_rfl) (by kernel_rfl) (fun _ _ _ h => h) (Or.inl ⟨by rfl, ?_⟩) (by assumption) ?_
                          rotate_left 1
                          · intro w hSw; (try dsimp only at hSw); go_simp; all_goals with_reducible rfl
                          try simp only [Act.put, List.setIfInBounds_toArray, List.set_cons_zero, List.set_cons_succ]
                          refine takeH 11 (some 85) (v := ?_) rfl rfl (by kernel_rfl) (by kernel_rfl) (by kernel_rfl) (fun _ _ _ h => h) (Or.inl ⟨by rfl, ?_⟩) (by assumption) ?_
                          rotate_left 1
                          · intro w hSw; (try dsimp only at hSw); go_simp; all_goals with_reducible rfl
                          try simp only [Act.put, List.setIfInBounds_toArray, List.set_cons_zero, List.set_cons_succ]
                          refine takeH 12 (some 86) (v := ?_) rfl rfl (by kernel_rfl) (by kernel_rfl) (by kernel_rfl) (fun _ _ _ h => h) (Or.inl ⟨by rfl, ?_⟩) (by assumption) ?_
                          rotate_left 1
                          · intro w hSw; (try dsimp only at hSw); go_simp; all_goals with_reducible rfl
                          try simp only [Act.put, List.setIfInBounds_toArray, List.set_cons_zero, List.set_cons_succ]
                          refine takeH 13 (some 87) (v := ?_) rfl rfl (by kernel_rfl) (by kernel_rfl) (by kernel_rfl) (fun _ _ _ h => h) (Or.inl ⟨by rfl, ?_⟩) (by assumption) ?_
                          rotate_left 1
                          · intro w hSw; (try dsimp only at hSw); go_simp; all_goals with_reducible rfl
                          try simp only [Act.put, List.setIfInBounds_toArray, List.set_cons_zero, List.set_cons_succ]
                          refine takeH 14 (some 88) (v := ?_) rfl rfl (by kernel_rfl) (by kernel_rfl) (by kernel_rfl) (fun _ _ _ h => h) (Or.inl ⟨by rfl, ?_⟩) (by assumption) ?_
                          rotate_left 1
                          · intro w hSw; (try dsimp only at hSw); go_simp; all_goals with_reducible rfl
                          try simp only [Act.put, List.setIfInBounds_toArray, List.set_cons_zero, List.set_cons_succ]
                          refine takeH 15 (some 89) (v := ?_) rfl rfl (by kernel_rfl) (by kernel_rfl) (by kernel_rfl) (fun _ _ _ h => h) (Or.inl ⟨by rfl, ?_⟩) (by assumption) ?_
                          rotate_left 1
                          · intro w hSw; (try dsimp only at hSw); go_simp; all_goals with_reducible rfl
                          try simp only [Act.put, List.setIfInBounds_toArray, List.set_cons_zero, List.set_cons_succ]
                          refine takeH 16 (some 90) (v := ?_) rfl rfl (by kernel_rfl) (by kernel_rfl) (by kernel_rfl) (fun _ _ _ h => h) (Or.inl ⟨by rfl, ?_⟩) (by assumption) ?_
                          rotate_left 1
                          · intro w hSw; (try dsimp only at hSw); go_simp; all_goals with_reducible rfl
                          try simp only [Act.put, List.setIfInBounds_toArray, List.set_cons_zero, List.set_cons_succ]
                          refine takeH 17 (some 91) (v := ?_) rfl rfl (by kernel_rfl) (by kernel_rfl) (by kernel_rfl) (fun _ _ _ h => h) (Or.inl ⟨by rfl, ?_⟩) (by assumption) ?_
                          rotate_left 1
                          · intro w hSw; (try dsimp only at hSw); go_simp; all_goals with_reducible rfl
                          try simp only [Act.put, List.setIfInBounds_toArray, List.set_cons_zero, List.set_cons_succ]
                          refine takeH 18 (some 92) (v := ?_) rfl rfl (by kernel_rfl) (by kernel_rfl) (by kernel_rfl) (fun _ _ _ h => h) (Or.inl ⟨by rfl, ?_⟩) (by assumption) ?_
                          rotate_left 1
                          · intro w hSw; (try dsimp only at hSw); go_simp; all_goals with_reducible rfl
                          try simp only [Act.put, List.setIfInBounds_toArray, List.set_cons_zero, List.set_cons_succ]
                          refine takeH 19 (some 93) (v := ?_) rfl rfl (by kernel_rfl) (by kernel_rfl) (by kernel_rfl) (fun _ _ _ h => h) (Or.inl ⟨by rfl, ?_⟩) (by assumption) ?_
                          rotate_left 1
                          · intro w hSw; (try dsimp only at hSw); go_simp; all_goals with_reducible rfl
                          try simp only [Act.put, List.setIfInBounds_toArray, List.set_cons_zero, List.set_cons_succ]
                          refine takeH 20 (some 94) (v := ?_) rfl rfl (by kernel_rfl) (by kernel_rfl) (by kernel_rfl) (fun _ _ _ h => h) (Or.inl ⟨by rfl, ?_⟩) (by assumption) ?_
                          rotate_left 1
                          · intro w hSw; (try dsimp only at hSw); go_simp; all_goals with_reducible rfl
                          try simp only [Act.put, List.setIfInBounds_toArray, List.set_cons_zero, List.set_cons_succ]
                          refine wpAnyH_ready (rs := [21]) (by kernel_rfl) (by simp) ?_
                          refine AllReadyH.cons rfl (fun K hK => ?_) AllReadyH.nil
                          go_simp
                          go_at_call 43; refine (HLS.out _).mono ?_; rintro e' uHLS ⟨rfl, hb⟩; have HSN := Lib.hid (HGB.out.trans (hb.mono HGB.out.size)); clear HGB; have HGB := HSN; clear HSN; clear hb
                          go_wp2_with fail
                          refine hK.out _ _ (by exact ⟨(HGB.out.cell (p := ⟨lb, 0, none⟩) hlbr).trans HYX.out.1, (HGB.out.cell (p := ⟨lb, 3, none⟩) hlbr).trans HYX.out.2.1, (HGB.out.cell (p := ⟨lb, 4, none⟩) hlbr).trans HYX.out.2.2.1, (HGB.out.cell (p := ⟨lb, 5, none⟩) hlbr).trans HYX.out.2.2.2.1, (HGB.out.cell (p := ⟨b, o + j * 2, none⟩) hbr).trans HYX.out.2.2.2.2.1, (HGB.out.cell (p := ⟨b, o + j * 2 + 1, none⟩) hbr).trans HYX.out.2.2.2.2.2, (HGB.out.cell (p := ⟨b, o + i * 2, none⟩) hbr).trans HY2.out.1, (HGB.out.cell (p := ⟨b, o + i * 2 + 1, none⟩) hbr).trans HY2.out.2⟩) (fun hHeld => ?_)
                          clear hK K
                          try simp only [Act.put, List.setIfInBounds_toArray, List.set_cons_zero, List.set_cons_succ]
                          refine takeH 22 (some 96) (v := ?_) rfl rfl (by kernel_rfl) (by kernel_rfl) (by kernel_rfl) (fun _ _ _ h => h) (Or.inl ⟨by rfl, ?_⟩) (by assumption) ?_
                          rotate_left 1
                          · intro w hSw; (try dsimp only at hSw); go_simp; all_goals with_reducible rfl
                          try simp only [Act.put, List.setIfInBounds_toArray, List.set_cons_zero, List.set_cons_succ]
                          refine takeH 23 (some 97) (v := ?_) rfl rfl (by kernel_rfl) (by kernel_rfl) (by kernel_rfl) (fun _ _ _ h => h) (Or.inl ⟨by rfl, ?_⟩) (by assumption) ?_
                          rotate_left 1
                          · intro w hSw; (try dsimp only at hSw); go_simp; all_goals with_reducible rfl
                          try simp only [Act.put, List.setIfInBounds_toArray, List.set_cons_zero, List.set_cons_succ]
                          refine takeH 24 (some 98) (v := ?_) rfl rfl (by kernel_rfl) (by kernel_rfl) (by kernel_rfl) (fun _ _ _ h => h) (Or.inl ⟨by rfl, ?_⟩) (by assumption) ?_
                          rotate_left 1
                          · intro w hSw; (try dsimp only at hSw); go_simp; all_goals with_reducible rfl
                          try simp only [Act.put, List.setIfInBounds_toArray, List.set_cons_zero, List.set_cons_succ]
                          refine takeH 25 (some 99) (v := ?_) rfl rfl (by kernel_rfl) (by kernel_rfl) (by kernel_rfl) (fun _ _ _ h => h) (Or.inl ⟨by rfl, ?_⟩) (by assumption) ?_
                          rotate_left 1
                          · intro w hSw; (try dsimp only at hSw); go_simp; all_goals with_reducible rfl
                          try simp only [Act.put, List.setIfInBounds_toArray, List.set_cons_zero, List.set_cons_succ]
                          refine takeH 26 (some 100) (v := ?_) rfl rfl (by kernel_rfl) (by kernel_rfl) (by kernel_rfl) (fun _ _ _ h => h) (Or.inl ⟨by rfl, ?_⟩) (by assumption) ?_
                          rotate_left 1
                          · intro w hSw; (try dsimp only at hSw); go_simp; all_goals with_reducible rfl
                          try simp only [Act.put, List.setIfInBounds_toArray, List.set_cons_zero, List.set_cons_succ]
                          refine takeH 27 (some 101) (v := ?_) rfl rfl (by kernel_rfl) (by kernel_rfl) (by kernel_rfl) (fun _ _ _ h => h) (Or.inl ⟨by rfl, ?_⟩) (by assumption) ?_
                          rotate_left 1
                          · intro w hSw; (try dsimp only at hSw); go_simp; all_goals with_reducible rfl
                          try simp only [Act.put, List.setIfInBounds_toArray, List.set_cons_zero, List.set_cons_succ]
                          refine takeH 28 (some 102) (v := ?_) rfl rfl (by kernel_rfl) (by kernel_rfl) (by kernel_rfl) (fun _ _ _ h => h) (Or.inl ⟨by rfl, ?_⟩) (by assumption) ?_
                          rotate_left 1
                          · intro w hSw; (try dsimp only at hSw); go_simp; all_goals with_reducible rfl
                          try simp only [Act.put, List.setIfInBounds_toArray, List.set_cons_zero, List.set_cons_succ]
                          refine takeH 29 (some 103) (v := undef) rfl rfl (by kernel_rfl) (by kernel_rfl) (by kernel_rfl) (fun _ _ _ h => h) (Or.inr ⟨by rfl, rfl⟩) (by assumption) ?_
                          try simp only [Act.put, List.setIfInBounds_toArray, List.set_cons_zero, List.set_cons_succ]
                          refine takeH 30 (some 104) (v := undef) rfl rfl (by kernel_rfl) (by kernel_rfl) (by kernel_rfl) (fun _ _ _ h => h) (Or.inr ⟨by rfl, rfl⟩) (by assumption) ?_
                          try simp only [Act.put, List.setIfInBounds_toArray, List.set_cons_zero, List.set_cons_succ]
                          refine takeH 31 (some 105) (v := undef) rfl rfl (by kernel_rfl) (by kernel_rfl) (by kernel_rfl) (fun _ _ _ h => h) (Or.inr ⟨by rfl, rfl⟩) (by assumption) ?_
                          try simp only [Act.put, List.setIfInBounds_toArray, List.set_cons_zero, List.set_cons_succ]
                          refine takeH 32 (some 106) (v := undef) rfl rfl (by kernel_rfl) (by kernel_rfl) (by kernel_rfl) (fun _ _ _ h => h) (Or.inr ⟨by rfl, rfl⟩) (by assumption) ?_
                          try simp only [Act.put, List.setIfInBounds_toArray, List.set_cons_zero, List.set_cons_succ]
                          refine takeH 33 (some 107) (v := undef) rfl rfl (by kernel_rfl) (by kernel_rfl) (by kernel_rfl) (fun _ _ _ h => h) (Or.inr ⟨by rfl, rfl⟩) (by assumption) ?_
                          try simp only [Act.put, List.setIfInBounds_toArray, List.set_cons_zero, List.set_cons_succ]
                          refine takeH 34 (some 108) (v := undef) rfl rfl (by kernel_rfl) (by kernel_rfl) (by kernel_rfl) (fun _ _ _ h => h) (Or.inr ⟨by rfl, rfl⟩) (by assumption) ?_
                          try simp only [Act.put, List.setIfInBounds_toArray, List.set_cons_zero, List.set_cons_succ]
                          refine takeH 35 (some 109) (v := undef) rfl rfl (by kernel_rfl) (by kernel_rfl) (by kernel_rfl) (fun _ _ _ h => h) (Or.inr ⟨by rfl, rfl⟩) (by assumption) ?_
                          try simp only [Act.put, List.setIfInBounds_toArray, List.set_cons_zero, List.set_cons_succ]
                          refine takeH 36 (some 110) (v := undef) rfl rfl (by kernel_rfl) (by kernel_rfl) (by kernel_rfl) (fun _ _ _ h => h) (Or.inr ⟨by rfl, rfl⟩) (by assumption) ?_
                          try simp only [Act.put, List.setIfInBounds_toArray, List.set_cons_zero, List.set_cons_succ]
                          refine takeH 37 (some 111) (v := ?_) rfl rfl (by kernel_rfl) (by kernel_rfl) (by kernel_rfl) (fun _ _ _ h => h) (Or.inl ⟨by rfl, ?_⟩) (by assumption) ?_
                          rotate_left 1
                          · intro w hSw; (try dsimp only at hSw); go_simp; all_goals with_reducible rfl
                          try simp only [Act.put, List.setIfInBounds_toArray, List.set_cons_zero, List.set_cons_succ]
                          refine takeH 38 (some 112) (v := ?_) rfl rfl (by kernel_rfl) (by kernel_rfl) (by kernel_rfl) (fun _ _ _ h => h) (Or.inl ⟨by rfl, ?_⟩) (by assumption) ?_
                          rotate_left 1
                          · intro w hSw; (try dsimp only at hSw); go_simp; all_goals with_reducible rfl
                          try simp only [Act.put, List.setIfInBounds_toArray, List.set_cons_zero, List.set_cons_succ]
                          refine wpAnyH_done (by kernel_rfl) ?_ _
                          go_wp2_with fail
                          go_roundw
                          case rel => exact ⟨j + 1, by rw [HLM.out]; omega, by go_num, HO2.out, HIN2.out, HBB.out.trans (HGB.out.mono HBB.out.size)⟩
                          case measure => simp [intOf]; omega
                        | true =>
                          rw [hh] at l3
                          have hkl2 : kless s.last x = true := kless_trans (hin hh (by omega)) hk
                          have HLT := Lib.hid (fun W => ritless s.last x W HSZ.out.1 HXZ.out)
                          rw [hkl2] at HLT
                          have HIN2 : RowKit.Hid (s.heard = true → 0 < j + 1 → kless s.last ((l.take (j + 1)).getLastD s.last) = true) := fun _ _ => by rw [hlx]; exact hkl2
                          have HYX := Lib.hid (And.intro l0 (And.intro l3 (And.intro l4 (And.intro l5 (And.intro z0 z1)))))
                          clear hO hlx htr hin hly hjp HIN hk hy hi hh hkl2
                          go_wp2_with fail
                          refine wp_region_held_drew (S := (fun w' => w'.cell? ⟨lb, 0, none⟩ = some (.int .i64 s.least) ∧ w'.cell? ⟨lb, 3, none⟩ = some (.bool true) ∧ w'.cell? ⟨lb, 4, none⟩ = some (.int .i64 s.last.1) ∧ w'.cell? ⟨lb, 5, none⟩ = some (.string s.last.2) ∧ w'.cell? ⟨b, o + j * 2, none⟩ = some (.int .i64 x.1) ∧ w'.cell? ⟨b, o + j * 2 + 1, none⟩ = some (.string x.2) ∧ w'.cell? ⟨b, o + i * 2, none⟩ = some (.int .i64 y.1) ∧ w'.cell? ⟨b, o + i * 2 + 1, none⟩ = some (.string y.2))) (by kernel_rfl) (by exact ⟨(HGB.out.cell (p := ⟨lb, 0, none⟩) hlbr).trans HYX.out.1, (HGB.out.cell (p := ⟨lb, 3, none⟩) hlbr).trans HYX.out.2.1, (HGB.out.cell (p := ⟨lb, 4, none⟩) hlbr).trans HYX.out.2.2.1, (HGB.out.cell (p := ⟨lb, 5, none⟩) hlbr).trans HYX.out.2.2.2.1, (HGB.out.cell (p := ⟨b, o + j * 2, none⟩) hbr).trans HYX.out.2.2.2.2.1, (HGB.out.cell (p := ⟨b, o + j * 2 + 1, none⟩) hbr).trans HYX.out.2.2.2.2.2, (HGB.out.cell (p := ⟨b, o + i * 2, none⟩) hbr).trans HY2.out.1, (HGB.out.cell (p := ⟨b, o + i * 2 + 1, none⟩) hbr).trans HY2.out.2⟩) (fun hHeld => ?_)
                          refine takeH 0 (some 74) (v := ?_) rfl rfl (by kernel_rfl) (by kernel_rfl) (by kernel_rfl) (fun _ _ _ h => h) (Or.inl ⟨by rfl, ?_⟩) (by assumption) ?_
                          rotate_left 1
                          · intro w hSw; (try dsimp only at hSw); go_simp; all_goals with_reducible rfl
                          try simp only [Act.put, List.setIfInBounds_toArray, List.set_cons_zero, List.set_cons_succ]
                          refine takeH 1 (some 75) (v := ?_) rfl rfl (by kernel_rfl) (by kernel_rfl) (by kernel_rfl) (fun _ _ _ h => h) (Or.inl ⟨by rfl, ?_⟩) (by assumption) ?_
                          rotate_left 1
                          · intro w hSw; (try dsimp only at hSw); go_simp; all_goals with_reducible rfl
                          try simp only [Act.put, List.setIfInBounds_toArray, List.set_cons_zero, List.set_cons_succ]
                          refine takeH 2 (some 76) (v := ?_) rfl rfl (by kernel_rfl) (by kernel_rfl) (by kernel_rfl) (fun _ _ _ h => h) (Or.inl ⟨by rfl, ?_⟩) (by assumption) ?_
                          rotate_left 1
                          · intro w hSw; (try dsimp only at hSw); go_simp; all_goals with_reducible rfl
                          try simp only [Act.put, List.setIfInBounds_toArray, List.set_cons_zero, List.set_cons_succ]
                          refine takeH 3 (some 77) (v := ?_) rfl rfl (by kernel_rfl) (by kernel_rfl) (by kernel_rfl) (fun _ _ _ h => h) (Or.inl ⟨by rfl, ?_⟩) (by assumption) ?_
                          rotate_left 1
                          · intro w hSw; (try dsimp only at hSw); go_simp; all_goals with_reducible rfl
                          try simp only [Act.put, List.setIfInBounds_toArray, List.set_cons_zero, List.set_cons_succ]
                          refine takeH 4 (some 78) (v := ?_) rfl rfl (by kernel_rfl) (by kernel_rfl) (by kernel_rfl) (fun _ _ _ h => h) (Or.inl ⟨by rfl, ?_⟩) (by assumption) ?_
                          rotate_left 1
                          · intro w hSw; (try dsimp only at hSw); go_simp; all_goals with_reducible rfl
                          try simp only [Act.put, List.setIfInBounds_toArray, List.set_cons_zero, List.set_cons_succ]
                          refine takeH 5 (some 79) (v := ?_) rfl rfl (by kernel_rfl) (by kernel_rfl) (by kernel_rfl) (fun _ _ _ h => h) (Or.inl ⟨by rfl, ?_⟩) (by assumption) ?_
                          rotate_left 1
                          · intro w hSw; (try dsimp only at hSw); go_simp; all_goals with_reducible rfl
                          try simp only [Act.put, List.setIfInBounds_toArray, List.set_cons_zero, List.set_cons_succ]
                          refine takeH 6 (some 80) (v := ?_) rfl rfl (by kernel_rfl) (by kernel_rfl) (by kernel_rfl) (fun _ _ _ h => h) (Or.inl ⟨by rfl, ?_⟩) (by assumption) ?_
                          rotate_left 1
                          · intro w hSw; (try dsimp only at hSw); go_simp; all_goals with_reducible rfl
                          try simp only [Act.put, List.setIfInBounds_toArray, List.set_cons_zero, List.set_cons_succ]
                          refine takeH 7 (some 81) (v := ?_) rfl rfl (by kernel_rfl) (by kernel_rfl) (by kernel_rfl) (fun _ _ _ h => h) (Or.inl ⟨by rfl, ?_⟩) (by assumption) ?_
                          rotate_left 1
                          · intro w hSw; (try dsimp only at hSw); go_simp; all_goals with_reducible rfl
                          try simp only [Act.put, List.setIfInBounds_toArray, List.set_cons_zero, List.set_cons_succ]
                          refine takeH 8 (some 82) (v := ?_) rfl rfl (by kernel_rfl) (by kernel_rfl) (by kernel_rfl) (fun _ _ _ h => h) (Or.inl ⟨by rfl, ?_⟩) (by assumption) ?_
                          rotate_left 1
                          · intro w hSw; (try dsimp only at hSw); go_simp; all_goals with_reducible rfl
                          try simp only [Act.put, List.setIfInBounds_toArray, List.set_cons_zero, List.set_cons_succ]
                          refine takeH 9 (some 83) (v := ?_) rfl rfl (by kernel_rfl) (by kernel_rfl) (by kernel_rfl) (fun _ _ _ h => h) (Or.inl ⟨by rfl, ?_⟩) (by assumption) ?_
                          rotate_left 1
                          · intro w hSw; (try dsimp only at hSw); go_simp; all_goals with_reducible rfl
                          try simp only [Act.put, List.setIfInBounds_toArray, List.set_cons_zero, List.set_cons_succ]
                          refine takeH 10 (some 84) (v := ?_) rfl rfl (by kernel_rfl) (by kernel_rfl) (by kernel_rfl) (fun _ _ _ h => h) (Or.inl ⟨by rfl, ?_⟩) (by assumption) ?_
                          rotate_left 1
                          · intro w hSw; (try dsimp only at hSw); go_simp; all_goals with_reducible rfl
                          try simp only [Act.put, List.setIfInBounds_toArray, List.set_cons_zero, List.set_cons_succ]
                          refine takeH 11 (some 85) (v := ?_) rfl rfl (by kernel_rfl) (by kernel_rfl) (by kernel_rfl) (fun _ _ _ h => h) (Or.inl ⟨by rfl, ?_⟩) (by assumption) ?_
                          rotate_left 1
                          · intro w hSw; (try dsimp only at hSw); go_simp; all_goals with_reducible rfl
                          try simp only [Act.put, List.setIfInBounds_toArray, List.set_cons_zero, List.set_cons_succ]
                          refine takeH 12 (some 86) (v := ?_) rfl rfl (by kernel_rfl) (by kernel_rfl) (by kernel_rfl) (fun _ _ _ h => h) (Or.inl ⟨by rfl, ?_⟩) (by assumption) ?_
                          rotate_left 1
                          · intro w hSw; (try dsimp only at hSw); go_simp; all_goals with_reducible rfl
                          try simp only [Act.put, List.setIfInBounds_toArray, List.set_cons_zero, List.set_cons_succ]
                          refine takeH 13 (some 87) (v := ?_) rfl rfl (by kernel_rfl) (by kernel_rfl) (by kernel_rfl) (fun _ _ _ h => h) (Or.inl ⟨by rfl, ?_⟩) (by assumption) ?_
                          rotate_left 1
                          · intro w hSw; (try dsimp only at hSw); go_simp; all_goals with_reducible rfl
                          try simp only [Act.put, List.setIfInBounds_toArray, List.set_cons_zero, List.set_cons_succ]
                          refine takeH 14 (some 88) (v := ?_) rfl rfl (by kernel_rfl) (by kernel_rfl) (by kernel_rfl) (fun _ _ _ h => h) (Or.inl ⟨by rfl, ?_⟩) (by assumption) ?_
                          rotate_left 1
                          · intro w hSw; (try dsimp only at hSw); go_simp; all_goals with_reducible rfl
                          try simp only [Act.put, List.setIfInBounds_toArray, List.set_cons_zero, List.set_cons_succ]
                          refine takeH 15 (some 89) (v := ?_) rfl rfl (by kernel_rfl) (by kernel_rfl) (by kernel_rfl) (fun _ _ _ h => h) (Or.inl ⟨by rfl, ?_⟩) (by assumption) ?_
                          rotate_left 1
                          · intro w hSw; (try dsimp only at hSw); go_simp; all_goals with_reducible rfl
                          try simp only [Act.put, List.setIfInBounds_toArray, List.set_cons_zero, List.set_cons_succ]
                          refine takeH 16 (some 90) (v := ?_) rfl rfl (by kernel_rfl) (by kernel_rfl) (by kernel_rfl) (fun _ _ _ h => h) (Or.inl ⟨by rfl, ?_⟩) (by assumption) ?_
                          rotate_left 1
                          · intro w hSw; (try dsimp only at hSw); go_simp; all_goals with_reducible rfl
                          try simp only [Act.put, List.setIfInBounds_toArray, List.set_cons_zero, List.set_cons_succ]
                          refine takeH 17 (some 91) (v := ?_) rfl rfl (by kernel_rfl) (by kernel_rfl) (by kernel_rfl) (fun _ _ _ h => h) (Or.inl ⟨by rfl, ?_⟩) (by assumption) ?_
                          rotate_left 1
                          · intro w hSw; (try dsimp only at hSw); go_simp; all_goals with_reducible rfl
                          try simp only [Act.put, List.setIfInBounds_toArray, List.set_cons_zero, List.set_cons_succ]
                          refine takeH 18 (some 92) (v := ?_) rfl rfl (by kernel_rfl) (by kernel_rfl) (by kernel_rfl) (fun _ _ _ h => h) (Or.inl ⟨by rfl, ?_⟩) (by assumption) ?_
                          rotate_left 1
                          · intro w hSw; (try dsimp only at hSw); go_simp; all_goals with_reducible rfl
                          try simp only [Act.put, List.setIfInBounds_toArray, List.set_cons_zero, List.set_cons_succ]
                          refine takeH 19 (some 93) (v := ?_) rfl rfl (by kernel_rfl) (by kernel_rfl) (by kernel_rfl) (fun _ _ _ h => h) (Or.inl ⟨by rfl, ?_⟩) (by assumption) ?_
                          rotate_left 1
                          · intro w hSw; (try dsimp only at hSw); go_simp; all_goals with_reducible rfl
                          try simp only [Act.put, List.setIfInBounds_toArray, List.set_cons_zero, List.set_cons_succ]
                          refine takeH 20 (some 94) (v := ?_) rfl rfl (by kernel_rfl) (by kernel_rfl) (by kernel_rfl) (fun _ _ _ h => h) (Or.inl ⟨by rfl, ?_⟩) (by assumption) ?_
                          rotate_left 1
                          · intro w hSw; (try dsimp only at hSw); go_simp; all_goals with_reducible rfl
                          try simp only [Act.put, List.setIfInBounds_toArray, List.set_cons_zero, List.set_cons_succ]
                          refine wpAnyH_ready (rs := [21]) (by kernel_rfl) (by simp) ?_
                          refine AllReadyH.cons rfl (fun K hK => ?_) AllReadyH.nil
                          go_simp
                          go_at_call 43; refine (HLS.out _).mono ?_; rintro e' uHLS ⟨rfl, hb⟩; have HSN := Lib.hid (HGB.out.trans (hb.mono HGB.out.size)); clear HGB; have HGB := HSN; clear HSN; clear hb
                          go_wp2_with fail
                          refine hK.out _ _ (by exact ⟨(HGB.out.cell (p := ⟨lb, 0, none⟩) hlbr).trans HYX.out.1, (HGB.out.cell (p := ⟨lb, 3, none⟩) hlbr).trans HYX.out.2.1, (HGB.out.cell (p := ⟨lb, 4, none⟩) hlbr).trans HYX.out.2.2.1, (HGB.out.cell (p := ⟨lb, 5, none⟩) hlbr).trans HYX.out.2.2.2.1, (HGB.out.cell (p := ⟨b, o + j * 2, none⟩) hbr).trans HYX.out.2.2.2.2.1, (HGB.out.cell (p := ⟨b, o + j * 2 + 1, none⟩) hbr).trans HYX.out.2.2.2.2.2, (HGB.out.cell (p := ⟨b, o + i * 2, none⟩) hbr).trans HY2.out.1, (HGB.out.cell (p := ⟨b, o + i * 2 + 1, none⟩) hbr).trans HY2.out.2⟩) (fun hHeld => ?_)
                          clear hK K
                          try simp only [Act.put, List.setIfInBounds_toArray, List.set_cons_zero, List.set_cons_succ]
                          refine takeH 22 (some 96) (v := ?_) rfl rfl (by kernel_rfl) (by kernel_rfl) (by kernel_rfl) (fun _ _ _ h => h) (Or.inl ⟨by rfl, ?_⟩) (by assumption) ?_
                          rotate_left 1
                          · intro w hSw; (try dsimp only at hSw); go_simp; all_goals with_reducible rfl
                          try simp only [Act.put, List.setIfInBounds_toArray, List.set_cons_zero, List.set_cons_succ]
                          refine takeH 23 (some 97) (v := ?_) rfl rfl (by kernel_rfl) (by kernel_rfl) (by kernel_rfl) (fun _ _ _ h => h) (Or.inl ⟨by rfl, ?_⟩) (by assumption) ?_
                          rotate_left 1
                          · intro w hSw; (try dsimp only at hSw); go_simp; all_goals with_reducible rfl
                          try simp only [Act.put, List.setIfInBounds_toArray, List.set_cons_zero, List.set_cons_succ]
                          refine takeH 24 (some 98) (v := ?_) rfl rfl (by kernel_rfl) (by kernel_rfl) (by kernel_rfl) (fun _ _ _ h => h) (Or.inl ⟨by rfl, ?_⟩) (by assumption) ?_
                          rotate_left 1
                          · intro w hSw; (try dsimp only at hSw); go_simp; all_goals with_reducible rfl
                          try simp only [Act.put, List.setIfInBounds_toArray, List.set_cons_zero, List.set_cons_succ]
                          refine takeH 25 (some 99) (v := ?_) rfl rfl (by kernel_rfl) (by kernel_rfl) (by kernel_rfl) (fun _ _ _ h => h) (Or.inl ⟨by rfl, ?_⟩) (by assumption) ?_
                          rotate_left 1
                          · intro w hSw; (try dsimp only at hSw); go_simp; all_goals with_reducible rfl
                          try simp only [Act.put, List.setIfInBounds_toArray, List.set_cons_zero, List.set_cons_succ]
                          refine takeH 26 (some 100) (v := ?_) rfl rfl (by kernel_rfl) (by kernel_rfl) (by kernel_rfl) (fun _ _ _ h => h) (Or.inl ⟨by rfl, ?_⟩) (by assumption) ?_
                          rotate_left 1
                          · intro w hSw; (try dsimp only at hSw); go_simp; all_goals with_reducible rfl
                          try simp only [Act.put, List.setIfInBounds_toArray, List.set_cons_zero, List.set_cons_succ]
                          refine takeH 27 (some 101) (v := ?_) rfl rfl (by kernel_rfl) (by kernel_rfl) (by kernel_rfl) (fun _ _ _ h => h) (Or.inl ⟨by rfl, ?_⟩) (by assumption) ?_
                          rotate_left 1
                          · intro w hSw; (try dsimp only at hSw); go_simp; all_goals with_reducible rfl
                          try simp only [Act.put, List.setIfInBounds_toArray, List.set_cons_zero, List.set_cons_succ]
                          refine takeH 28 (some 102) (v := ?_) rfl rfl (by kernel_rfl) (by kernel_rfl) (by kernel_rfl) (fun _ _ _ h => h) (Or.inl ⟨by rfl, ?_⟩) (by assumption) ?_
                          rotate_left 1
                          · intro w hSw; (try dsimp only at hSw); go_simp; all_goals with_reducible rfl
                          try simp only [Act.put, List.setIfInBounds_toArray, List.set_cons_zero, List.set_cons_succ]
                          refine takeH 29 (some 103) (v := ?_) rfl rfl (by kernel_rfl) (by kernel_rfl) (by kernel_rfl) (fun _ _ _ h => h) (Or.inl ⟨by rfl, ?_⟩) (by assumption) ?_
                          rotate_left 1
                          · intro w hSw; (try dsimp only at hSw); go_simp; all_goals with_reducible rfl
                          try simp only [Act.put, List.setIfInBounds_toArray, List.set_cons_zero, List.set_cons_succ]
                          refine takeH 30 (some 104) (v := ?_) rfl rfl (by kernel_rfl) (by kernel_rfl) (by kernel_rfl) (fun _ _ _ h => h) (Or.inl ⟨by rfl, ?_⟩) (by assumption) ?_
                          rotate_left 1
                          · intro w hSw; (try dsimp only at hSw); go_simp; all_goals with_reducible rfl
                          try simp only [Act.put, List.setIfInBounds_toArray, List.set_cons_zero, List.set_cons_succ]
                          refine takeH 31 (some 105) (v := ?_) rfl rfl (by kernel_rfl) (by kernel_rfl) (by kernel_rfl) (fun _ _ _ h => h) (Or.inl ⟨by rfl, ?_⟩) (by assumption) ?_
                          rotate_left 1
                          · intro w hSw; (try dsimp only at hSw); go_simp; all_goals with_reducible rfl
                          try simp only [Act.put, List.setIfInBounds_toArray, List.set_cons_zero, List.set_cons_succ]
                          refine takeH 32 (some 106) (v := ?_) rfl rfl (by kernel_rfl) (by kernel_rfl) (by kernel_rfl) (fun _ _ _ h => h) (Or.inl ⟨by rfl, ?_⟩) (by assumption) ?_
                          rotate_left 1
                          · intro w hSw; (try dsimp only at hSw); go_simp; all_goals with_reducible rfl
                          try simp only [Act.put, List.setIfInBounds_toArray, List.set_cons_zero, List.set_cons_succ]
                          refine takeH 33 (some 107) (v := ?_) rfl rfl (by kernel_rfl) (by kernel_rfl) (by kernel_rfl) (fun _ _ _ h => h) (Or.inl ⟨by rfl, ?_⟩) (by assumption) ?_
                          rotate_left 1
                          · intro w hSw; (try dsimp only at hSw); go_simp; all_goals with_reducible rfl
                          try simp only [Act.put, List.setIfInBounds_toArray, List.set_cons_zero, List.set_cons_succ]
                          refine takeH 34 (some 108) (v := ?_) rfl rfl (by kernel_rfl) (by kernel_rfl) (by kernel_rfl) (fun _ _ _ h => h) (Or.inl ⟨by rfl, ?_⟩) (by assumption) ?_
                          rotate_left 1
                          · intro w hSw; (try dsimp only at hSw); go_simp; all_goals with_reducible rfl
                          try simp only [Act.put, List.setIfInBounds_toArray, List.set_cons_zero, List.set_cons_succ]
                          refine wpAnyH_ready (rs := [35]) (by kernel_rfl) (by simp) ?_
                          refine AllReadyH.cons rfl (fun K hK => ?_) AllReadyH.nil
                          go_simp
                          go_at_call 43; refine (HLT.out _).mono ?_; rintro e' uHLT ⟨rfl, hb⟩; have HSN := Lib.hid (HGB.out.trans (hb.mono HGB.out.size)); clear HGB; have HGB := HSN; clear HSN; clear hb
                          go_wp2_with fail
                          refine hK.out _ _ (by exact ⟨(HGB.out.cell (p := ⟨lb, 0, none⟩) hlbr).trans HYX.out.1, (HGB.out.cell (p := ⟨lb, 3, none⟩) hlbr).trans HYX.out.2.1, (HGB.out.cell (p := ⟨lb, 4, none⟩) hlbr).trans HYX.out.2.2.1, (HGB.out.cell (p := ⟨lb, 5, none⟩) hlbr).trans HYX.out.2.2.2.1, (HGB.out.cell (p := ⟨b, o + j * 2, none⟩) hbr).trans HYX.out.2.2.2.2.1, (HGB.out.cell (p := ⟨b, o + j * 2 + 1, none⟩) hbr).trans HYX.out.2.2.2.2.2, (HGB.out.cell (p := ⟨b, o + i * 2, none⟩) hbr).trans HY2.out.1, (HGB.out.cell (p := ⟨b, o + i * 2 + 1, none⟩) hbr).trans HY2.out.2⟩) (fun hHeld => ?_)
                          clear hK K
                          try simp only [Act.put, List.setIfInBounds_toArray, List.set_cons_zero, List.set_cons_succ]
                          refine takeH 36 (some 110) (v := ?_) rfl rfl (by kernel_rfl) (by kernel_rfl) (by kernel_rfl) (fun _ _ _ h => h) (Or.inl ⟨by rfl, ?_⟩) (by assumption) ?_
                          rotate_left 1
                          · intro w hSw; (try dsimp only at hSw); go_simp; all_goals with_reducible rfl
                          try simp only [Act.put, List.setIfInBounds_toArray, List.set_cons_zero, List.set_cons_succ]
                          refine takeH 37 (some 111) (v := ?_) rfl rfl (by kernel_rfl) (by kernel_rfl) (by kernel_rfl) (fun _ _ _ h => h) (Or.inl ⟨by rfl, ?_⟩) (by assumption) ?_
                          rotate_left 1
                          · intro w hSw; (try dsimp only at hSw); go_simp; all_goals with_reducible rfl
                          try simp only [Act.put, List.setIfInBounds_toArray, List.set_cons_zero, List.set_cons_succ]
                          refine takeH 38 (some 112) (v := ?_) rfl rfl (by kernel_rfl) (by kernel_rfl) (by kernel_rfl) (fun _ _ _ h => h) (Or.inl ⟨by rfl, ?_⟩) (by assumption) ?_
                          rotate_left 1
                          · intro w hSw; (try dsimp only at hSw); go_simp; all_goals with_reducible rfl
                          try simp only [Act.put, List.setIfInBounds_toArray, List.set_cons_zero, List.set_cons_succ]
                          refine wpAnyH_done (by kernel_rfl) ?_ _
                          go_wp2_with fail
                          go_roundw
                          case rel => exact ⟨j + 1, by rw [HLM.out]; omega, by go_num, HO2.out, HIN2.out, HBB.out.trans (HGB.out.mono HBB.out.size)⟩
                          case measure => simp [intOf]; omega
                · have hjm : j = m := by omega
                  subst hjm
                  clear hlt
                  obtain rfl : OK = true := by
                    rw [← HO.out, List.drop_eq_nil_of_le (by rw [HLM.out]; exact Nat.le_refl _)]; rfl
                  have hP := HYES.out hsqe (by rw [HLM.out]; exact h5) h03 HOK.out
                  clear HO HIN HNO HYES
                  have hlr := HBL.out.below HBB.out hlb2
                  have hrr := (HR.out.below HB2.out rfl).below HBB.out rfl
                  have hB3 := HB2.out.trans (HBB.out.mono HB2.out.size)
                  have HSR := Lib.hid (show Src Try.prog 2 22 (.slice a j cap) j (l.flatMap KeyL.cells) wr from Src.ofRdE (enc := KeyL.cells) (size := 2) Try.underlying22 (fun _ => rfl) itemOne hrr)
                  have HLR := Lib.hid hlr
                  have HB3 := Lib.hid hB3
                  have A1 : 0 + j ≤ maxLen := by unfold maxLen; omega
                  have A2 : (0 + j) * 24 ≤ 140737488355328 := by omega
                  have A3 : w.heap.size ≤ wr.heap.size := hB3.size
                  obtain ⟨i, hi⟩ : ∃ i, j = i + 1 := ⟨j - 1, by omega⟩
                  obtain ⟨y, hy⟩ : ∃ y, l[i]? = some y := ⟨_, List.getElem?_eq_getElem (show i < l.length by rw [HLM.out]; omega)⟩
                  have hly : l.getLastD s.last = y := by
                    have h7 := last_take (d := s.last) hy
                    rw [← hi, List.take_of_length_le (by rw [HLM.out]; exact Nat.le_refl _)] at h7
                    exact h7
                  obtain ⟨b, o, rfl, p0, p1, hbr⟩ := hrr.atI hy
                  obtain ⟨b2, o2, hab, _, _, hbw⟩ := HR.out.atI hy
                  cases hab
                  have hlbb : lb ≠ b := by omega
                  have hlbb' : b ≠ lb := by omega
                  clear hbw
                  have HLY := Lib.hid hly
                  have HY := Lib.hid hy
                  have i1 : (0 : Int) ≤ (i : Int) := by omega
                  have i2 : (i : Int) < (j : Int) := by omega
                  have e3 : IntKind.i64.wrap ((j : Int) - 1) = (i : Int) := by rw [show ((j : Int) - 1) = (i : Int) from by omega]; exact IntWalk.i64_in _ (by omega)
                  have e4 : decide ((0 : Int) < (j : Int)) = true := by simp; omega
                  have e4' : decide (0 < j) = true := by simp; omega
                  clear hly hy hi
                  have hs1 : 0 ≤ seq := by rw [← hsqe]; exact hsq.1
                  have hs2 : seq ≤ 1000000 := by rw [← hsqe]; exact hsq.2
                  have hql : qs ≠ lb := by omega
                  have hql' : lb ≠ qs := by omega
                  have hqq : q < w.heap.size := HX.out.P.lt
                  have hqq1 : lb ≠ q := by omega
                  clear hlr hB3
                  go_wp2_with (at_builtin; refine wpList_app rfl _ _ 22 22 rfl w.heap.size 31 i0 (.agg #[.int .i64 0, .string ⟨#[]⟩]) 2 24 Try.underlying22 HI.out HZ0.out HZ1.out HZ2.out rfl (by decide) none 0 0 [] rfl (World.ownsRow_nil _ _ _ _) (.slice (some ⟨b, o, none⟩) j cap) j (l.flatMap KeyL.cells) rfl HSR.out A1 A2 A3 ?_; intro ao2 c2 u hown hg; rw [Nat.zero_add, List.nil_append] at hown; have hFu : Frm (fun _ => False) wr u := Frm.grown (S := fun _ => False) hg (fun g h => by simp [Value.ownBlock] at h); have hlu := HLR.out.frm hFu (fun h => h); have HLU := Lib.hid hlu; have hBu := HB3.out.trans (hFu.toBelow A3 (fun _ _ h => h)); have HBU := Lib.hid hBu; have HOU := Lib.hid hown; have hxu := HX.out.below hBu; have HXU := Lib.hid hxu; have hshu := ShAt.of_row2 hxu.G HMS.out; have n0 := (hlu.cell 0).trans (show _ = some (.int .i64 s.least) from rfl); have n1 := (hlu.cell 1).trans (show _ = some (.int .i64 seq) from rfl); have n2 := (hlu.cell 2).trans (show _ = some (.bool s.ended) from rfl); have n3 := (hlu.cell 3).trans (show _ = some (.bool s.heard) from rfl); have n4 := (hlu.cell 4).trans (show _ = some (.int .i64 s.last.1) from rfl); have n5 := (hlu.cell 5).trans (show _ = some (.string s.last.2) from rfl); have n6 := (hlu.cell 6).trans (show _ = some (.slice ms.wa ms.wn ms.wc) from rfl); have g1 := hlu.frozen 1; have g2 := hlu.frozen 2; have g3 := hlu.frozen 3; have g4 := hlu.frozen 4; have g5 := hlu.frozen 5; have g6 := hlu.frozen 6; obtain ⟨t0, t1, t2, t3, t4, t5, t6⟩ := hshu.c2; have f0 := hxu.G.frozen (k * 7); have f1 := hxu.G.frozen (k * 7 + 1); have f2 := hxu.G.frozen (k * 7 + 2); have f3 := hxu.G.frozen (k * 7 + 3); have f4 := hxu.G.frozen (k * 7 + 4); have f5 := hxu.G.frozen (k * 7 + 5); have f6 := hxu.G.frozen (k * 7 + 6); have c0 := hxu.c3.1; rw [HSL.out] at c0; have hB9 := hFu.toBelow (B := wr.heap.size) (Nat.le_refl _) (fun _ _ h => h); have q0 := (hB9.cell (p := ⟨b, o + i * 2, none⟩) hbr).trans p0; have q1 := (hB9.cell (p := ⟨b, o + i * 2 + 1, none⟩) hbr).trans p1; clear hB9; clear hown hg hFu hlu hBu hxu hshu)
                  go_region
                  all_goals
                    go_wp2_with fail
                    go_ret
                    rw [Int.toNat_natCast] at hP
                    have hF0 : Frm (fun i => i = lb) u ((((((u.setCell ⟨lb, 6, none⟩ (.slice ao2 j c2)).setCell ⟨lb, 4, none⟩ (.int .i64 y.1)).setCell ⟨lb, 4 + 1, none⟩ (.string y.2)).setCell ⟨lb, 3, none⟩ (.bool true)).setCell ⟨lb, 1, none⟩ (.int .i64 (seq + 1))).setCell ⟨lb, 2, none⟩ (.bool e)) := ((((((Frm.refl (fun i => i = lb) u).setCell _ _ (.inl rfl)).setCell _ _ (.inl rfl)).setCell _ _ (.inl rfl)).setCell _ _ (.inl rfl)).setCell _ _ (.inl rfl)).setCell _ _ (.inl rfl)
                    have hEQ : (⟨s.least, seq + 1, e, true, y, ao2, j, c2⟩ : MS) = ⟨s.least, s.seq + 1, e, s.heard || decide (0 < l.length), l.getLastD s.last, ao2, j, c2⟩ := by rw [HLY.out, hsqe, show (s.heard || decide (0 < l.length)) = true from by rw [HLM.out]; simp; omega]
                    have key : RPEnd q n S T qs c R sp ta tc w PP (.returned (.bool true)) (put7 ((((((u.setCell ⟨lb, 6, none⟩ (.slice ao2 j c2)).setCell ⟨lb, 4, none⟩ (.int .i64 y.1)).setCell ⟨lb, 4 + 1, none⟩ (.string y.2)).setCell ⟨lb, 3, none⟩ (.bool true)).setCell ⟨lb, 1, none⟩ (.int .i64 (seq + 1))).setCell ⟨lb, 2, none⟩ (.bool e)) qs (k * 7) ⟨s.least, seq + 1, e, true, y, ao2, j, c2⟩).drew :=
                      rp_fin (u := u) (W0 := (((((u.setCell ⟨lb, 6, none⟩ (.slice ao2 j c2)).setCell ⟨lb, 4, none⟩ (.int .i64 y.1)).setCell ⟨lb, 4 + 1, none⟩ (.string y.2)).setCell ⟨lb, 3, none⟩ (.bool true)).setCell ⟨lb, 1, none⟩ (.int .i64 (seq + 1))).setCell ⟨lb, 2, none⟩ (.bool e)) (W' := (put7 ((((((u.setCell ⟨lb, 6, none⟩ (.slice ao2 j c2)).setCell ⟨lb, 4, none⟩ (.int .i64 y.1)).setCell ⟨lb, 4 + 1, none⟩ (.string y.2)).setCell ⟨lb, 3, none⟩ (.bool true)).setCell ⟨lb, 1, none⟩ (.int .i64 (seq + 1))).setCell ⟨lb, 2, none⟩ (.bool e)) qs (k * 7) ⟨s.least, seq + 1, e, true, y, ao2, j, c2⟩).drew) HX.out HRI.out HMS.out HKS.out hlbw HLU.out HBU.out HOU.out HLM.out (by omega) HZ.out hF0 (Frm.put7 ((((((u.setCell ⟨lb, 6, none⟩ (.slice ao2 j c2)).setCell ⟨lb, 4, none⟩ (.int .i64 y.1)).setCell ⟨lb, 4 + 1, none⟩ (.string y.2)).setCell ⟨lb, 3, none⟩ (.bool true)).setCell ⟨lb, 1, none⟩ (.int .i64 (seq + 1))).setCell ⟨lb, 2, none⟩ (.bool e)) qs (k * 7) ⟨s.least, seq + 1, e, true, y, ao2, j, c2⟩).drew hEQ (fun h => (Blk.put7 h (k * 7) ⟨s.least, seq + 1, e, true, y, ao2, j, c2⟩).drew1) hP
                    exact key
        · have d1 : (s.seq != seq) = true := by simp [hsqe]
          have HE := Lib.hid (HNO.out (.inl hsqe))
          clear HNO HYES hsqe
          go_wp2_with fail
          go_ret
          exact HE.out _ HB.out
end Go.Proofs.Ytjacebnjmhbcbaa
