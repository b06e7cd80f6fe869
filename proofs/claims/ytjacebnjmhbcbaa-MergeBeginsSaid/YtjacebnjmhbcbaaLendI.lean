/- The walks of LendItems, SameItems, KeptItems. -/
import Derived.Test.YtjacebnjmhbcbaaKeyL
import Derived.Test.YtjacebnjmhbcbaaStrs
import Derived.Test.YtjacebnjmhbcbaaKit2
import Derived.Laws.StructEq
namespace Go.Proofs.Ytjacebnjmhbcbaa
open Go.RowKit
set_option linter.unusedVariables false

theorem infoI2 : (Try.prog.info? 31).map (fun i => (i.zero, i.size, i.bytes)) = some (some (.agg #[.int .i64 0, .string ⟨#[]⟩]), 2, 24) := by kernel_rfl
theorem itemOne (x : KeyL) : ∀ u ∈ x.cells, u.oneCell' = true := by
  intro u hu; unfold KeyL.cells at hu; simp at hu; rcases hu with rfl | rfl <;> rfl
def markI : List Value := [.int .i64 (-7), .string ⟨#[]⟩]
def marksI (k : Nat) : List Value := (List.replicate k markI).flatten
theorem marksI_len (k : Nat) : (marksI k).length = 2 * k := by
  unfold marksI
  induction k with
  | zero => rfl
  | succ k ih => rw [List.replicate_succ, List.flatten_cons, List.length_append, ih]; simp [markI]; omega
theorem marksI_succ (k : Nat) : marksI (k + 1) = marksI k ++ markI := by
  unfold marksI; rw [List.replicate_succ', List.flatten_append]; simp
theorem ilen (l : List KeyL) : (l.flatMap KeyL.cells).length = l.length * 2 := flatMap_len KeyL.cells 2 (fun _ => rfl) l
/-- the spare room while it is marked -/
def SpareI (w wr : World) (g : Nat) (l : List KeyL) (k : Nat) : Prop :=
  ∃ cs : List Value, Blk wr g 31 (l.flatMap KeyL.cells ++ cs) ∧ cs.length = 6 ∧ cs.take (2 * k) = marksI k ∧ Below w.heap.size w wr
theorem SpareI.next {w wr : World} {g : Nat} {l : List KeyL} {k : Nat} {cs : List Value} (hb : Blk wr g 31 (l.flatMap KeyL.cells ++ cs)) (h3 : cs.length = 6) (ht : cs.take (2 * k) = marksI k) (hbel : Below w.heap.size w wr)
    (hk : k < 3) (hg : w.heap.size ≤ g) : SpareI w ((wr.setCell ⟨g, l.length * 2 + k * 2, none⟩ (.int .i64 (-7))).setCell ⟨g, l.length * 2 + k * 2 + 1, none⟩ (.string ⟨#[]⟩)) g l (k + 1) := by
  refine ⟨(cs.set (2 * k) (.int .i64 (-7))).set (2 * k + 1) (.string ⟨#[]⟩), ?_, by simp [h3], ?_, (hbel.setCell hg _).setCell hg _⟩
  · have := (hb.set (l.length * 2 + k * 2) (.int .i64 (-7))).set (l.length * 2 + k * 2 + 1) (.string ⟨#[]⟩)
    rw [List.set_append_right _ _ (by rw [ilen]; omega), List.set_append_right _ _ (by rw [ilen]; omega), ilen, show l.length * 2 + k * 2 - l.length * 2 = 2 * k from by omega, show l.length * 2 + k * 2 + 1 - l.length * 2 = 2 * k + 1 from by omega] at this
    exact this
  · rw [marksI_succ, ← ht]
    apply List.ext_getElem?
    intro j
    rw [List.getElem?_take]
    by_cases hj : j < 2 * k
    · rw [if_pos (by omega), List.getElem?_set_ne (by omega), List.getElem?_set_ne (by omega), List.getElem?_append_left (by simp; omega), List.getElem?_take, if_pos hj]
    · have hl : (cs.take (2 * k)).length = 2 * k := by simp; omega
      rw [List.getElem?_append_right (by omega), hl]
      by_cases e0 : j = 2 * k
      · subst e0
        rw [if_pos (by omega), List.getElem?_set_ne (by omega), List.getElem?_set_self (by omega)]
        simp [markI]
      · by_cases e1 : j = 2 * k + 1
        · subst e1
          rw [if_pos (by omega), List.getElem?_set_self (by simp; omega), show 2 * k + 1 - 2 * k = 1 from by omega]
          simp [markI]
        · rw [if_neg (by omega), List.getElem?_eq_none (by simp [markI]; omega)]
theorem spareI_cell {w : World} {g : Nat} {l : List KeyL} {j : Nat} {cs : List Value} (hb : Blk w g 31 (l.flatMap KeyL.cells ++ cs)) (hk : j < cs.length) : ∃ v, w.cell? ⟨g, l.length * 2 + j, none⟩ = some v := by
  refine ⟨cs[j], ?_⟩
  rw [hb.cell, List.getElem?_append_right (by rw [ilen]; omega), ilen, show l.length * 2 + j - l.length * 2 = j from by omega, List.getElem?_eq_getElem hk]

set_option maxRecDepth 100000 in
set_option maxHeartbeats 1000000 in
theorem lendI_any (a : Option Addr) (n cap : Nat) (l : List KeyL) (w : World) (hr : RdE KeyL.cells 2 w a n cap l) (hn9 : n ≤ 1000000) :
    Calls Try.prog 21 #[.slice a n cap] w fun e w' => e = .returned (.slice (some ⟨w.heap.size, 0, none⟩) n (n + 3)) ∧ Blk w' w.heap.size 31 (l.flatMap KeyL.cells ++ marksI 3) ∧ Below w.heap.size w w' := by
  have hln := hr.1
  subst hln
  obtain ⟨i0, hi, hz0, hz1, hz2⟩ := info_parts infoI2
  have HR := Lib.hid hr
  clear hr
  have HI := Lib.hid hi
  have HZ0 := Lib.hid hz0
  have HZ1 := Lib.hid hz1
  have HZ2 := Lib.hid hz2
  clear hi hz0 hz1 hz2
  go_enter Try.func21, Try.ntmps21
  go_wp2_with (first | (at_make; refine wpList_make_own w rfl _ _ 22 rfl w.heap.size 31 i0 (.agg #[.int .i64 0, .string ⟨#[]⟩]) 2 Try.underlying22 HI.out HZ0.out HZ1.out .i64 .i64 _ (l.length + 3) rfl rfl (by omega) (by rw [HZ2.out]; omega) (by unfold maxLen; omega) (Nat.le_refl _) ?_; intro w1 hown1 hg1; have HO1 := Lib.hid hown1; have HG1 := Lib.hid hg1; clear hown1 hg1) | (at_builtin; refine wpList_append_fits_any w1 rfl _ _ 22 rfl w.heap.size 31 i0 2 Try.underlying22 HI.out HZ1.out w.heap.size 0 (l.length + 3) [] rfl HO1.out a l.length cap (l.flatMap KeyL.cells) rfl (by rw [ilen]) HR.out.nil0 ?_ (by intro u hu; simp only [List.mem_flatMap] at hu; obtain ⟨x, _, hx⟩ := hu; exact itemOne x u hx) (by omega) ?_))
  · intro ad had j u hu
    have hrd := HR.out.below ((Below.refl _ _).grown HG1.out (Nat.le_refl _) (by simp)) rfl
    subst had
    exact RdE.cells (enc := KeyL.cells) (size := 2) (fun _ => rfl) hrd j u hu
  · intro w2 hown2 hg2
    obtain ⟨spare, hsl, hblk⟩ := ownsRow_blk hown2
    have hb2 : Below w.heap.size w w2 := ((Below.refl _ _).grown HG1.out (Nat.le_refl _) (by simp)).grown hg2 HG1.out.size (by intro k hk; simp at hk; omega)
    have hs3 : spare.length = 6 := by omega
    have HB2 := Lib.hid hb2
    have HBLK := Lib.hid hblk
    have HS3 := Lib.hid hs3
    clear hown2 hg2 hsl hblk hb2 hs3 HO1 HG1
    go_wp2
    rw [show l.length + 3 - l.length = 3 from by omega]
    go_loopw [5] (fun i wr => ∃ k : Nat, k ≤ 3 ∧ i = .int .i64 k ∧ SpareI w wr w.heap.size l k) (fun i _ => 3 - (intOf i).toNat)
    case atStart => exact ⟨0, by omega, rfl, spare, HBLK.out, HS3.out, rfl, HB2.out⟩
    case round =>
      obtain ⟨k, hk, rfl, cs, hblk, hcs, htk, hbel⟩ := hrel
      have HBL := Lib.hid hblk
      have HBE := Lib.hid hbel
      have HTK := Lib.hid htk
      have HCS := Lib.hid hcs
      by_cases hlt : k < 3
      · obtain ⟨v0, hc0⟩ := spareI_cell HBL.out (j := k * 2) (by rw [HCS.out]; omega)
        obtain ⟨v1, hc1⟩ := spareI_cell HBL.out (j := k * 2 + 1) (by rw [HCS.out]; omega)
        rw [← Nat.add_assoc] at hc1
        have hf := hblk.frozen (l.length * 2 + k * 2)
        have hf1 := hblk.frozen (l.length * 2 + k * 2 + 1)
        have hnext := Lib.hid (SpareI.next HBL.out HCS.out HTK.out HBE.out hlt (Nat.le_refl _))
        clear hblk hbel htk hcs
        go_wp2
        go_roundw
        case rel => exact ⟨k + 1, by omega, by go_num, hnext.out⟩
        case measure => simp [intOf]; omega
      · obtain rfl : k = 3 := by omega
        clear hblk hbel htk hcs
        go_wp2
        go_ret
        refine ⟨rfl, ?_, HBE.out⟩
        have h3 : cs = marksI 3 := by
          have := HTK.out; rw [List.take_of_length_le (by rw [HCS.out]; omega)] at this; exact this
        rw [← h3]; exact HBL.out

def eqIs (a b : List KeyL) : Bool := decide (a = b)
set_option maxRecDepth 100000 in
set_option maxHeartbeats 2000000 in
theorem sameI_any (a : Option Addr) (n cap : Nat) (b : Option Addr) (m bcap : Nat) (l r : List KeyL) (w : World) (hr : RdE KeyL.cells 2 w a n cap l) (hr2 : RdE KeyL.cells 2 w b m bcap r) :
    Calls Try.prog 26 #[.slice a n cap, .slice b m bcap] w fun e w' => e = .returned (.bool (eqIs l r)) ∧ Drew w w' := by
  have hn := hr.1
  have hn2 := hr2.1
  subst hn hn2
  have hm := Nat.le_trans hr.2.1 hr.2.2.1
  have hm2 := Nat.le_trans hr2.2.1 hr2.2.2.1
  unfold maxLen at hm hm2
  have HR := Lib.hid hr
  have HR2 := Lib.hid hr2
  clear hr hr2
  by_cases hlen : l.length = r.length
  · have HL := Lib.hid hlen
    have h1 : ((l.length : Int) != r.length) = false := by simp; omega
    have hlen1 : l.length ≤ r.length := by omega
    have hlen2 : r.length ≤ l.length := by omega
    clear hlen
    go_enter Try.func26, Try.ntmps26
    go_wp2
    go_loopw [4, 5] (fun u i wr => ∃ k : Nat, k ≤ l.length ∧ i = .int .i64 k ∧ u = .bool false ∧ RowKit.Hid (l.take k = r.take k) ∧ Drew w wr) (fun _ i _ => l.length - (intOf i).toNat)
    case atStart => exact ⟨0, by omega, rfl, rfl, by simp [RowKit.Hid], 0, rfl⟩
    case round =>
      obtain ⟨k, hk, rfl, rfl, htk, nq, rfl⟩ := hrel
      by_cases hlt : k < l.length
      · have hlt2 : k < r.length := by omega
        obtain ⟨⟨lx, tx⟩, hx⟩ : ∃ x, l[k]? = some x := ⟨l[k], List.getElem?_eq_getElem hlt⟩
        obtain ⟨⟨ly, ty⟩, hy⟩ : ∃ x, r[k]? = some x := ⟨r[k], List.getElem?_eq_getElem hlt2⟩
        obtain ⟨ba, offa, rfl, hbl, hc1⟩ := HR.out.2.2.2.2 k _ hx
        obtain ⟨bb, offb, rfl, hbl2, hc2⟩ := HR2.out.2.2.2.2 k _ hy
        have x0 : w.cell? ⟨ba, offa + k * 2, none⟩ = some (.int .i64 lx) := hc1 0 (by decide)
        have x1 : w.cell? ⟨ba, offa + k * 2 + 1, none⟩ = some (.string tx) := hc1 1 (by decide)
        have y0 : w.cell? ⟨bb, offb + k * 2, none⟩ = some (.int .i64 ly) := hc2 0 (by decide)
        have y1 : w.cell? ⟨bb, offb + k * 2 + 1, none⟩ = some (.string ty) := hc2 1 (by decide)
        have HX := Lib.hid hx
        have HY := Lib.hid hy
        clear hx hy hc1 hc2
        by_cases heq : lx = ly ∧ tx = ty
        · obtain ⟨rfl, rfl⟩ := heq
          have ht : (tx.toList == tx.toList) = true := by simp
          have hl : (lx == lx) = true := by simp
          have hsn : RowKit.Hid (l.take (k + 1) = r.take (k + 1)) := by
            unfold RowKit.Hid
            rw [List.take_add_one, List.take_add_one, htk.out, HX.out, HY.out]
          go_wp2
          go_quiet (fail)
          go_wp2
          go_roundw
          case rel => exact ⟨k + 1, by omega, by go_num, rfl, hsn, by first | exact Drew.one _ _ | exact Drew.two _ _ _⟩
          case measure => simp [intOf]; omega
        · have hne : RowKit.Hid (eqIs l r = false) := by
            unfold RowKit.Hid eqIs
            rw [decide_eq_false_iff_not]; intro e; subst e; apply heq
            have := Option.some.inj (HX.out.symm.trans HY.out)
            simpa using this
          by_cases hl : lx = ly
          · have ht := str_ne (fun e => heq ⟨hl, e⟩)
            subst hl
            have hl : (lx == lx) = true := by simp
            clear heq
            go_wp2
            go_quiet (fail)
            go_wp2
            go_ret
            rw [hne.out]
            exact ⟨rfl, by first | exact Drew.one _ _ | exact Drew.two _ _ _⟩
          · have hl' : (lx == ly) = false := by simpa using hl
            clear heq
            go_wp2
            go_quiet (fail)
            go_wp2
            go_ret
            rw [hne.out]
            exact ⟨rfl, by first | exact Drew.one _ _ | exact Drew.two _ _ _⟩
      · obtain rfl : k = l.length := by omega
        have he : RowKit.Hid (eqIs l r = true) := by
          unfold RowKit.Hid eqIs
          have := htk.out
          rw [List.take_length, HL.out, List.take_length] at this
          simp [this]
        go_wp2
        go_ret
        rw [he.out]
        exact ⟨rfl, nq, rfl⟩
  · have h1 : ((l.length : Int) != r.length) = true := by simp; omega
    have he : RowKit.Hid (eqIs l r = false) := by
      unfold RowKit.Hid eqIs
      rw [decide_eq_false_iff_not]; intro e; exact hlen (by rw [e])
    clear hlen
    go_enter Try.func26, Try.ntmps26
    go_wp2
    go_ret
    rw [he.out]
    exact ⟨rfl, 0, rfl⟩
theorem marksI_at (k : Nat) (hk : k < 3) : (marksI 3)[k * 2]? = some (.int .i64 (-7)) ∧ (marksI 3)[k * 2 + 1]? = some (.string ⟨#[]⟩) := by
  rcases (by omega : k = 0 ∨ k = 1 ∨ k = 2) with rfl | rfl | rfl <;> exact ⟨rfl, rfl⟩
set_option maxRecDepth 100000 in
set_option maxHeartbeats 2000000 in
theorem keptI_any (g : Nat) (b : Option Addr) (m bcap : Nat) (l r : List KeyL) (w : World) (hn9 : l.length ≤ 1000000) (hk : Blk w g 31 (l.flatMap KeyL.cells ++ marksI 3)) (hr2 : RdE KeyL.cells 2 w b m bcap r) :
    Calls Try.prog 23 #[.slice (some ⟨g, 0, none⟩) l.length (l.length + 3), .slice b m bcap] w fun e w' => e = .returned (.bool (eqIs l r)) ∧ Drew w w' := by
  have HR := Lib.hid (Blk.rdE (enc := KeyL.cells) (size := 2) (fun _ => rfl) hk (l.length + 3) (by omega) (by unfold maxLen; omega))
  have HR2 := Lib.hid hr2; clear hr2
  have HC : RowKit.Hid (∀ i, i < 3 → w.cell? ⟨g, l.length * 2 + i * 2, none⟩ = some (.int .i64 (-7)) ∧ w.cell? ⟨g, l.length * 2 + i * 2 + 1, none⟩ = some (.string ⟨#[]⟩)) := by
    intro i hi
    rw [hk.cell, hk.cell, List.getElem?_append_right (by rw [ilen]; omega), List.getElem?_append_right (by rw [ilen]; omega), ilen, show l.length * 2 + i * 2 - l.length * 2 = i * 2 from by omega, show l.length * 2 + i * 2 + 1 - l.length * 2 = i * 2 + 1 from by omega]
    exact marksI_at i hi
  clear hk
  go_enter Try.func23, Try.ntmps23
  go_wp2
  rw [show l.length + 3 - l.length = 3 from by omega]
  go_loop [6] (fun i => ∃ k : Nat, k ≤ 3 ∧ i = .int .i64 k) (fun i => 3 - (intOf i).toNat)
  case atStart => exact ⟨0, by omega, rfl⟩
  case round =>
    obtain ⟨k, hk, rfl⟩ := hrel
    by_cases hlt : k < 3
    · obtain ⟨hc, hc1⟩ := HC.out k hlt
      go_wp2
      go_round
      case rel => exact ⟨k + 1, by omega, by go_num⟩
      case measure => simp [intOf]; omega
    · obtain rfl : k = 3 := by omega
      go_wp2_with fail
      refine (sameI_any _ l.length (l.length + 3) b m bcap l r _ HR.out HR2.out).mono ?_
      rintro e w' ⟨rfl, hd⟩
      have HD := Lib.hid hd
      clear hd
      go_wp2_with fail
      go_ret
      exact ⟨rfl, HD.out⟩
end Go.Proofs.Ytjacebnjmhbcbaa
