/- The walks of LendTexts, KeptTexts. -/
import Derived.Test.YtiohngcmojkheaaTexts4
namespace Go.Proofs.Ytiohngcmojkheaa
open Go.RowKit
set_option linter.unusedVariables false

theorem infoTx : (Try.prog.info? 9).map (fun i => (i.zero, i.size, i.bytes)) = some (some (.string ⟨#[]⟩), 1, 16) := by kernel_rfl
theorem txt_one (l : List ByteArray) : ∀ u ∈ l.map Value.string, u.oneCell' = true := by
  intro u hu; simp only [List.mem_map] at hu; obtain ⟨x, _, rfl⟩ := hu; rfl
def markT : Value := .string ⟨#[108, 101, 110, 116]⟩
/-- the spare room while it is marked -/
def SpareT (w wr : World) (g : Nat) (l : List ByteArray) (k : Nat) : Prop :=
  ∃ cs : List Value, Blk wr g 9 (l.map Value.string ++ cs) ∧ cs.length = 3 ∧ cs.take k = List.replicate k markT ∧ Below w.heap.size w wr
theorem SpareT.next {w wr : World} {g : Nat} {l : List ByteArray} {k : Nat} {cs : List Value} (hb : Blk wr g 9 (l.map Value.string ++ cs)) (h3 : cs.length = 3) (ht : cs.take k = List.replicate k markT) (hbel : Below w.heap.size w wr)
    (hk : k < 3) (hg : w.heap.size ≤ g) : SpareT w (wr.setCell ⟨g, l.length + k, none⟩ (.string ⟨#[108, 101, 110, 116]⟩)) g l (k + 1) := by
  refine ⟨cs.set k markT, ?_, by simp [h3], ?_, hbel.setCell hg _⟩
  · have := hb.set (l.length + k) markT
    rw [List.set_append_right _ _ (by simp), List.length_map, show l.length + k - l.length = k from by omega] at this
    exact this
  · rw [List.take_succ_eq_append_getElem (by simp; omega), List.take_set_of_le (by omega), ht, List.replicate_succ']
    simp
theorem spareT_cell {w : World} {g : Nat} {l : List ByteArray} {k : Nat} {cs : List Value} (hb : Blk w g 9 (l.map Value.string ++ cs)) (hk : k < cs.length) : ∃ v, w.cell? ⟨g, l.length + k, none⟩ = some v := by
  refine ⟨cs[k], ?_⟩
  rw [hb.cell, List.getElem?_append_right (by simp), List.length_map, show l.length + k - l.length = k from by omega, List.getElem?_eq_getElem hk]

set_option maxRecDepth 100000 in
set_option maxHeartbeats 1000000 in
theorem lendT_any (a : Option Addr) (n cap : Nat) (l : List ByteArray) (w : World) (hr : RdT w a n cap l) (hn9 : n ≤ 1000000) :
    Calls Try.prog 16 #[.slice a n cap] w fun e w' => e = .returned (.slice (some ⟨w.heap.size, 0, none⟩) n (n + 3)) ∧ Blk w' w.heap.size 9 (l.map Value.string ++ List.replicate 3 markT) ∧ Below w.heap.size w w' := by
  obtain ⟨i0, hi, hz0, hz1, hz2⟩ := info_parts infoTx
  have hln := hr.len
  subst hln
  have HR := Lib.hid hr
  clear hr
  have HI := Lib.hid hi
  have HZ0 := Lib.hid hz0
  have HZ1 := Lib.hid hz1
  have HZ2 := Lib.hid hz2
  clear hi hz0 hz1 hz2
  go_enter Try.func16, Try.ntmps16
  go_wp2_with (first | (at_make; refine wpList_make_own w rfl _ _ 22 rfl w.heap.size 9 i0 (.string ⟨#[]⟩) 1 Try.underlying22 HI.out HZ0.out HZ1.out .i64 .i64 _ (l.length + 3) rfl rfl (by omega) (by rw [HZ2.out]; omega) (by unfold maxLen; omega) (Nat.le_refl _) ?_; intro w1 hown1 hg1; have HO1 := Lib.hid hown1; have HG1 := Lib.hid hg1; clear hown1 hg1) | (at_builtin; refine wpList_append_fits_any w1 rfl _ _ 22 rfl w.heap.size 9 i0 1 Try.underlying22 HI.out HZ1.out w.heap.size 0 (l.length + 3) [] rfl HO1.out a l.length cap (l.map Value.string) rfl (by simp) HR.out.nil0 ?_ (txt_one l) (by omega) ?_))
  · exact (Rd.below HR.out ((Below.refl _ _).grown HG1.out (Nat.le_refl _) (by simp)) rfl).src
  · intro w2 hown2 hg2
    obtain ⟨spare, hsl, hblk⟩ := ownsRow_blk hown2
    have hb2 : Below w.heap.size w w2 := ((Below.refl _ _).grown HG1.out (Nat.le_refl _) (by simp)).grown hg2 HG1.out.size (by intro k hk; simp at hk; omega)
    have hs3 : spare.length = 3 := by omega
    have HB2 := Lib.hid hb2
    have HBLK := Lib.hid hblk
    have HS3 := Lib.hid hs3
    clear hown2 hg2 hsl hblk hb2 hs3 HO1 HG1
    go_wp2
    rw [show l.length + 3 - l.length = 3 from by omega]
    go_loopw [5] (fun i wr => ∃ k : Nat, k ≤ 3 ∧ i = .int .i64 k ∧ SpareT w wr w.heap.size l k) (fun i _ => 3 - (intOf i).toNat)
    case atStart => exact ⟨0, by omega, rfl, spare, HBLK.out, HS3.out, rfl, HB2.out⟩
    case round =>
      obtain ⟨k, hk, rfl, cs, hblk, hcs, htk, hbel⟩ := hrel
      have HBL := Lib.hid hblk
      have HBE := Lib.hid hbel
      have HTK := Lib.hid htk
      have HCS := Lib.hid hcs
      by_cases hlt : k < 3
      · obtain ⟨v0, hc⟩ := spareT_cell HBL.out (k := k) (by rw [HCS.out]; exact hlt)
        have hf := hblk.frozen (l.length + k)
        have hnext := Lib.hid (SpareT.next HBL.out HCS.out HTK.out HBE.out hlt (Nat.le_refl _))
        clear hblk hbel htk hcs
        go_wp2
        go_roundw
        case rel => exact ⟨k + 1, by omega, by go_num, hnext.out⟩
        case measure => simp [intOf]; omega
      · obtain rfl : k = 3 := by omega
        clear hblk hbel htk hcs
        go_wp2
        go_ret
        refine ⟨rfl, ?_, HBE.out⟩
        have h3 : cs = List.replicate 3 markT := by
          have := HTK.out; rw [List.take_of_length_le (by rw [HCS.out]; exact Nat.le_refl _)] at this; exact this
        rw [← h3]; exact HBL.out

theorem lentT {w : World} {g : Nat} {l : List ByteArray} (hk : Blk w g 9 (l.map Value.string ++ List.replicate 3 markT)) (hn9 : l.length ≤ 1000000) : RdT w (some ⟨g, 0, none⟩) l.length (l.length + 3) l :=
  hk.rd l.length (l.length + 3) (l.map Value.string) (by simp) (by omega) (by unfold maxLen; omega) (fun i hi => List.getElem?_append_left (by simpa using hi))
set_option maxRecDepth 100000 in
set_option maxHeartbeats 1000000 in
theorem keptT_any (g : Nat) (b : Option Addr) (m bcap : Nat) (l r : List ByteArray) (w : World) (hn9 : l.length ≤ 1000000) (hk : Blk w g 9 (l.map Value.string ++ List.replicate 3 markT)) (hr2 : RdT w b m bcap r) :
    Calls Try.prog 24 #[.slice (some ⟨g, 0, none⟩) l.length (l.length + 3), .slice b m bcap] w fun e w' => e = .returned (.bool (eqTs l r)) ∧ Drew w w' := by
  have HR := Lib.hid (lentT hk hn9)
  have HR2 := Lib.hid hr2; clear hr2
  have HC : RowKit.Hid (∀ i, i < 3 → w.cell? ⟨g, l.length + i, none⟩ = some (.string ⟨#[108, 101, 110, 116]⟩)) := by
    intro i hi
    rw [hk.cell, List.getElem?_append_right (by simp), List.length_map, show l.length + i - l.length = i from by omega]
    rw [List.getElem?_replicate, if_pos hi]
    rfl
  clear hk
  go_enter Try.func24, Try.ntmps24
  go_wp2
  rw [show l.length + 3 - l.length = 3 from by omega]
  go_loop [6] (fun i => ∃ k : Nat, k ≤ 3 ∧ i = .int .i64 k) (fun i => 3 - (intOf i).toNat)
  case atStart => exact ⟨0, by omega, rfl⟩
  case round =>
    obtain ⟨k, hk, rfl⟩ := hrel
    by_cases hlt : k < 3
    · have hc := HC.out k hlt
      go_wp2
      go_round
      case rel => exact ⟨k + 1, by omega, by go_num⟩
      case measure => simp [intOf]; omega
    · obtain rfl : k = 3 := by omega
      go_wp2_with fail
      refine (sameT_any _ l.length (l.length + 3) b m bcap l r _ HR.out HR2.out).mono ?_
      rintro e w' ⟨rfl, hd⟩
      have HD := Lib.hid hd
      clear hd
      go_wp2_with fail
      go_ret
      exact ⟨rfl, HD.out⟩
end Go.Proofs.Ytiohngcmojkheaa
