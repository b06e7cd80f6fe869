/- The walks of what the statements share: SameBytes, LendBytes, KeptBytes. -/
import Derived.Test.YtjhkdbcfkaaffaaRows
import Derived.Test.YtjhkdbcfkaaffaaKit
namespace Go.Proofs.Ytjhkdbcfkaaffaa
open Go.RowKit
set_option linter.unusedVariables false

set_option maxRecDepth 100000 in
set_option maxHeartbeats 600000 in
theorem sameB_any (a : Option Addr) (n cap : Nat) (b : Option Addr) (m bcap : Nat) (l r : List Nat) (w : World) (hr : Rd w a n cap (u8s l)) (hr2 : Rd w b m bcap (u8s r)) :
    Calls Try.prog 17 #[.slice a n cap, .slice b m bcap] w fun e w' => e = .returned (.bool (eqL l r)) ∧ Drew w w' := by
  obtain ⟨hn, hcap, hm, hz, hcell⟩ := hr
  obtain ⟨hn2, hcap2, hm2, hz2, hcell2⟩ := hr2
  rw [u8s_length] at hn hn2
  subst hn hn2
  unfold maxLen at hm hm2
  have HC := Lib.hid hcell; clear hcell
  have HC2 := Lib.hid hcell2; clear hcell2
  clear hz hz2
  by_cases hlen : l.length = r.length
  · have HL := Lib.hid hlen
    have h1 : ((l.length : Int) != r.length) = false := by simp; omega
    have hlen1 : l.length ≤ r.length := by omega
    have hlen2 : r.length ≤ l.length := by omega
    clear hlen
    go_enter Try.func17, Try.ntmps17
    go_wp2
    go_loopw [4, 5] (fun u i wr => ∃ k : Nat, k ≤ l.length ∧ i = .int .i64 k ∧ u = .bool false ∧ RowKit.Hid (l.take k = r.take k) ∧ Drew w wr) (fun _ i _ => l.length - (intOf i).toNat)
    case atStart => exact ⟨0, by omega, rfl, rfl, by simp [RowKit.Hid], 0, rfl⟩
    case round =>
      obtain ⟨k, hk, rfl, rfl, htk, nq, rfl⟩ := hrel
      by_cases hlt : k < l.length
      · have hlt2 : k < r.length := by omega
        obtain ⟨ba, offa, rfl, hbl, hc1⟩ := HC.out k hlt
        obtain ⟨bb, offb, rfl, hbl2, hc2⟩ := HC2.out k hlt2
        rw [u8s_get l k hlt] at hc1
        rw [u8s_get r k hlt2] at hc2
        by_cases heq : l[k] = r[k]
        · have ht : ((((l[k] : Nat)) : Int) != ((r[k] : Nat) : Int)) = false := by rw [heq]; simp
          have hsn : RowKit.Hid (l.take (k + 1) = r.take (k + 1)) := by
            unfold RowKit.Hid
            rw [List.take_succ_eq_append_getElem hlt, List.take_succ_eq_append_getElem hlt2, htk.out, heq]
          clear heq
          go_wp2
          go_quiet (fail)
          go_wp2
          go_roundw
          case rel => exact ⟨k + 1, by omega, by go_num, rfl, hsn, by first | exact Drew.one _ _ | exact Drew.two _ _ _⟩
          case measure => simp [intOf]; omega
        · have ht : ((((l[k] : Nat)) : Int) != ((r[k] : Nat) : Int)) = true := by simp; omega
          have hne : RowKit.Hid (eqL l r = false) := by
            unfold RowKit.Hid eqL
            rw [decide_eq_false_iff_not]; intro e; subst e; exact heq rfl
          clear heq
          go_wp2
          go_quiet (fail)
          go_wp2
          go_ret
          exact ⟨by rw [hne.out]; rfl, by first | exact Drew.one _ _ | exact Drew.two _ _ _⟩
      · obtain rfl : k = l.length := by omega
        have hfin : RowKit.Hid (eqL l r = true) := by
          unfold RowKit.Hid eqL
          have := htk.out
          rw [List.take_length, HL.out, List.take_length] at this
          rw [decide_eq_true_iff]; exact this
        go_wp2
        go_ret
        exact ⟨by rw [hfin.out]; rfl, by first | exact Drew.one _ _ | exact Drew.two _ _ _⟩
  · have h1 : ((l.length : Int) != r.length) = true := by simp; omega
    have hne : RowKit.Hid (eqL l r = false) := by
      unfold RowKit.Hid eqL
      rw [decide_eq_false_iff_not]; intro e; subst e; exact hlen rfl
    clear hlen
    go_enter Try.func17, Try.ntmps17
    go_wp2
    go_ret
    exact ⟨by rw [hne.out]; rfl, 0, rfl⟩

set_option maxRecDepth 100000 in
theorem info5 : (Try.prog.info? 5).map (fun i => (i.zero, i.size, i.bytes)) = some (some (.int .u8 0), 1, 1) := by kernel_rfl

/-- the spare room while it is marked -/
def Spare (w wr : World) (g : Nat) (l : List Nat) (k : Nat) : Prop :=
  ∃ cs : List Value, Blk wr g 5 (u8s l ++ cs) ∧ cs.length = 3 ∧ cs.take k = List.replicate k (.int .u8 119) ∧ Below w.heap.size w wr
set_option maxRecDepth 100000 in
theorem Spare.next {w wr : World} {g : Nat} {l : List Nat} {k : Nat} {cs : List Value} (hb : Blk wr g 5 (u8s l ++ cs)) (h3 : cs.length = 3) (ht : cs.take k = List.replicate k (.int .u8 119)) (hbel : Below w.heap.size w wr)
    (hk : k < 3) (hg : w.heap.size ≤ g) : Spare w (wr.setCell ⟨g, l.length + k, none⟩ (.int .u8 119)) g l (k + 1) := by
  refine ⟨cs.set k (.int .u8 119), ?_, by simp [h3], ?_, hbel.setCell hg _⟩
  · have := hb.set (l.length + k) (.int .u8 119)
    rw [List.set_append_right _ _ (by rw [u8s_length]; omega), u8s_length, show l.length + k - l.length = k from by omega] at this
    exact this
  · rw [List.take_succ_eq_append_getElem (by simp; omega), List.take_set_of_le (by omega), ht, List.replicate_succ']
    simp
set_option maxRecDepth 100000 in
theorem spare_cell {w : World} {g : Nat} {l : List Nat} {k : Nat} {cs : List Value} (hb : Blk w g 5 (u8s l ++ cs)) (hk : k < cs.length) : ∃ v, w.cell? ⟨g, l.length + k, none⟩ = some v := by
  refine ⟨cs[k], ?_⟩
  rw [hb.cell, List.getElem?_append_right (by rw [u8s_length]; omega), u8s_length, show l.length + k - l.length = k from by omega, List.getElem?_eq_getElem hk]

set_option maxRecDepth 100000 in
set_option maxHeartbeats 600000 in
theorem lendB_any (a : Option Addr) (n cap : Nat) (l : List Nat) (w : World) (hr : Rd w a n cap (u8s l)) (hn9 : n ≤ 1000000) :
    Calls Try.prog 24 #[.slice a n cap] w fun e w' => ∃ g, e = .returned (.slice (some ⟨g, 0, none⟩) n (n + 3)) ∧ w.heap.size ≤ g ∧ Blk w' g 5 (u8s l ++ List.replicate 3 (.int .u8 119)) ∧ Below w.heap.size w w' := by
  obtain ⟨i0, hi, hz0, hz1, hz2⟩ := info_parts info5
  have HR := Lib.hid hr
  have hln : RowKit.Hid ((u8s l).length = n) := hr.1
  clear hr
  have HI := Lib.hid hi
  have HZ0 := Lib.hid hz0
  have HZ1 := Lib.hid hz1
  clear hi hz0 hz1 
  have HZ2 : RowKit.Hid (i0.bytes = 1) := hz2
  clear hz2
  go_enter Try.func24, Try.ntmps24
  go_wp2_with (first | (at_make; refine wpList_make_own w rfl _ _ 39 rfl w.heap.size 5 i0 (.int .u8 0) 1 Try.underlying39 HI.out HZ0.out HZ1.out .i64 .i64 _ (n + 3) rfl rfl (by omega) (by rw [HZ2.out]; omega) (by unfold maxLen; omega) (Nat.le_refl _) ?_; intro w1 hown1 hg1; have HO1 := Lib.hid hown1; have HG1 := Lib.hid hg1; clear hown1 hg1) | (at_builtin; refine wpList_append_fits_any w1 rfl _ _ 39 rfl w.heap.size 5 i0 1 Try.underlying39 HI.out HZ1.out w.heap.size 0 (n + 3) [] rfl HO1.out a n cap (u8s l) rfl (by rw [hln.out]; omega) HR.out.nil0 ?_ (u8s_one l) (by omega) ?_))
  · exact (HR.out.below ((Below.refl _ _).grown HG1.out (Nat.le_refl _) (by simp)) rfl).src
  · intro w2 hown2 hg2
    obtain ⟨spare, hsl, hblk⟩ := ownsRow_blk hown2
    have hb2 : Below w.heap.size w w2 := ((Below.refl _ _).grown HG1.out (Nat.le_refl _) (by simp)).grown hg2 HG1.out.size (by intro k hk; simp at hk; omega)
    have hs3 : spare.length = 3 := by omega
    have HB2 := Lib.hid hb2
    have HBLK := Lib.hid hblk
    have HS3 := Lib.hid hs3
    clear hown2 hg2 hsl hblk hb2 hs3 HO1 HG1
    go_wp2
    rw [show n + 3 - n = 3 from by omega]
    go_loopw [5] (fun i wr => ∃ k : Nat, k ≤ 3 ∧ i = .int .i64 k ∧ Spare w wr w.heap.size l k) (fun i _ => 3 - (intOf i).toNat)
    case atStart => exact ⟨0, by omega, rfl, spare, HBLK.out, HS3.out, rfl, HB2.out⟩
    case round =>
      obtain ⟨k, hk, rfl, cs, hblk, hcs, htk, hbel⟩ := hrel
      have HBL := Lib.hid hblk
      have HBE := Lib.hid hbel
      have HTK := Lib.hid htk
      have HCS := Lib.hid hcs
      by_cases hlt : k < 3
      · obtain ⟨v0, hc⟩ := spare_cell HBL.out (k := k) (by rw [HCS.out]; exact hlt)
        rw [← u8s_length, hln.out] at hc
        have hf := hblk.frozen (n + k)
        have hnext := Lib.hid (Spare.next HBL.out HCS.out HTK.out HBE.out hlt (Nat.le_refl _) : Spare w (wr.setCell ⟨w.heap.size, l.length + k, none⟩ (.int .u8 119)) w.heap.size l (k + 1))
        rw [← u8s_length, hln.out] at hnext
        clear hblk hbel htk hcs
        go_wp2
        go_roundw
        case rel => exact ⟨k + 1, by omega, by go_num, hnext.out⟩
        case measure => simp [intOf]; omega
      · obtain rfl : k = 3 := by omega
        clear hblk hbel htk hcs
        go_wp2
        go_ret
        refine ⟨_, rfl, Nat.le_refl _, ?_, HBE.out⟩
        have h3 : cs = List.replicate 3 (.int .u8 119) := by
          have := HTK.out; rw [List.take_of_length_le (by rw [HCS.out]; exact Nat.le_refl _)] at this; exact this
        rw [← h3]; exact HBL.out

end Go.Proofs.Ytjhkdbcfkaaffaa
