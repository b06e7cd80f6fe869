/- slices.Grow, slices.Concat of records. -/
import Derived.Test.YtjdanngkmkgidaaFr7
import Derived.Lib.AppendZeros
namespace Go.Proofs.Ytjdanngkmkgidaa
open Go.RowKit
set_option linter.unusedVariables false

theorem info_rec : (Try.prog.info? 70).map (fun i => (i.zero, i.size, i.bytes)) = some (some (Value.agg #[.int .i64 0, .int .i64 0, .int .i64 0, .int .i64 0, .string ⟨#[]⟩, .int .i64 0, .int .i64 0, .int .i64 0, .int .i64 0, .slice none 0 0, .int .i64 0, .slice none 0 0]), 12, 136) := by kernel_rfl
set_option maxRecDepth 100000 in
set_option maxHeartbeats 2000000 in
theorem grow_any (n : Nat) (w : World) (hn : n ≤ 2000) :
    Calls Try.prog 74 #[.slice none 0 0, .int .i64 n] w fun e w' => ∃ ao cap, e = .returned (.slice ao 0 cap) ∧ w'.ownsRow w.heap.size 70 12 (.slice ao 0 cap) 0 [] ∧ Below w.heap.size w w' := by
  obtain ⟨i0, hi, hz0, hz1, hz2⟩ := info_parts info_rec
  have HI := Lib.hid hi
  have HZ0 := Lib.hid hz0
  have HZ1 := Lib.hid hz1
  have HZ2 := Lib.hid hz2
  clear hi hz0 hz1 hz2
  by_cases h0 : n = 0
  · subst h0
    go_enter Try.func74, Try.ntmps74
    go_wp2_with fail
    go_ret
    exact ⟨none, 0, rfl, World.ownsRow_nil _ _ _ _, Below.refl _ _⟩
  · have hrun := Lib.run_append_nil_zeros (P := Try.prog) w 61 3 61 70 i0 (Value.agg #[.int .i64 0, .int .i64 0, .int .i64 0, .int .i64 0, .string ⟨#[]⟩, .int .i64 0, .int .i64 0, .int .i64 0, .int .i64 0, .slice none 0 0, .int .i64 0, .slice none 0 0]) .i64 .i64 Try.underlying61 Try.underlying3 HI.out HZ0.out n (by omega) (by rw [HZ1.out]; decide) (by omega) (by rw [HZ2.out]; omega)
    have hown := World.ownsRow_made (base := w.heap.size) (e := 70) w.drew (Builtin.zeroCells (Value.agg #[.int .i64 0, .int .i64 0, .int .i64 0, .int .i64 0, .string ⟨#[]⟩, .int .i64 0, .int .i64 0, .int .i64 0, .int .i64 0, .slice none 0 0, .int .i64 0, .slice none 0 0]).cells n ++ Builtin.zeroCells (Value.agg #[.int .i64 0, .int .i64 0, .int .i64 0, .int .i64 0, .string ⟨#[]⟩, .int .i64 0, .int .i64 0, .int .i64 0, .int .i64 0, .slice none 0 0, .int .i64 0, .slice none 0 0]).cells (grownCap w n 0 70 - n)) (grownCap w n 0 70) (size := 12) (Nat.le_refl _) (grownCap_le_maxLen w _ 0 70 (by unfold maxLen; omega)) (by
      have hge := grownCap_ge w n 0 70
      rw [Array.size_append, size_zeroCells, size_zeroCells]
      simp only [Value.cells]
      simp
      omega)
    have HO := Lib.hid hown
    have HB := Lib.hid (((Below.refl w.heap.size w).drew).alloc (Nat.le_refl _) (.cells (Builtin.zeroCells (Value.agg #[.int .i64 0, .int .i64 0, .int .i64 0, .int .i64 0, .string ⟨#[]⟩, .int .i64 0, .int .i64 0, .int .i64 0, .int .i64 0, .slice none 0 0, .int .i64 0, .slice none 0 0]).cells n ++ Builtin.zeroCells (Value.agg #[.int .i64 0, .int .i64 0, .int .i64 0, .int .i64 0, .string ⟨#[]⟩, .int .i64 0, .int .i64 0, .int .i64 0, .int .i64 0, .slice none 0 0, .int .i64 0, .slice none 0 0]).cells (grownCap w n 0 70 - n)) 70))
    have HCAP := Lib.hid (show grownCap w n 0 70 ≤ maxLen from grownCap_le_maxLen w _ 0 70 (by unfold maxLen; omega))
    have HRUN := Lib.hid hrun
    have hpos : 0 < (n : Int) := by omega
    clear hrun hown
    generalize grownCap w n 0 70 = cap at *
    generalize w.drew.alloc (.cells (Builtin.zeroCells (Value.agg #[.int .i64 0, .int .i64 0, .int .i64 0, .int .i64 0, .string ⟨#[]⟩, .int .i64 0, .int .i64 0, .int .i64 0, .int .i64 0, .slice none 0 0, .int .i64 0, .slice none 0 0]).cells n ++ Builtin.zeroCells (Value.agg #[.int .i64 0, .int .i64 0, .int .i64 0, .int .i64 0, .string ⟨#[]⟩, .int .i64 0, .int .i64 0, .int .i64 0, .int .i64 0, .slice none 0 0, .int .i64 0, .slice none 0 0]).cells (cap - n)) 70) = W1 at *
    have hc := HCAP.out
    unfold maxLen at hc
    go_enter Try.func74, Try.ntmps74
    go_wp2_with (at_builtin; refine Lib.wpList_append_run w rfl _ _ 61 3 rfl _ _ rfl rfl _ _ HRUN.out ?_)
    go_ret
    exact ⟨_, cap, rfl, HO.out, HB.out⟩
theorem recOne (r : RecM) : ∀ u ∈ r.cells, u.oneCell' = true := by
  intro u hu
  simp only [RecM.cells, List.mem_cons, List.not_mem_nil, or_false] at hu
  rcases hu with rfl | rfl | rfl | rfl | rfl | rfl | rfl | rfl | rfl | rfl | rfl | rfl <;> rfl
def catN (n m i : Nat) : Nat := if i = 0 then 0 else if i = 1 then n else n + m
def catL (l k : List RecM) (i : Nat) : List RecM := if i = 0 then [] else if i = 1 then l else l ++ k
def CaA (n m : Nat) (v3 v11 : Value) : Prop := ∃ i : Nat, i ≤ 2 ∧ v11 = .int .i64 i ∧ v3 = .int .i64 (catN n m i)
def CaB (w : World) (l k : List RecM) (n m : Nat) (v6 v27 : Value) (wr : World) : Prop := ∃ (i : Nat) (ao : Option Addr) (cap : Nat), i ≤ 2 ∧ v27 = .int .i64 i ∧ v6 = .slice ao (catN n m i) cap ∧ RowKit.Hid (wr.ownsRow w.heap.size 70 12 (.slice ao (catN n m i) cap) (catN n m i) ((catL l k i).flatMap RecM.cells)) ∧ RowKit.Hid (Below w.heap.size w wr)
set_option maxRecDepth 100000 in
set_option maxHeartbeats 4000000 in
theorem concat_any (g : Nat) (a b : Option Addr) (n c m d : Nat) (l k : List RecM) (w : World) (hg : Blk w g 61 [.slice a n c, .slice b m d]) (ha : Recs w a n c l) (hb : Recs w b m d k) (h1 : l.length ≤ 1000) (h2 : k.length ≤ 1000) :
    Calls Try.prog 66 #[.slice (some ⟨g, 0, none⟩) 2 2] w fun e w' => ∃ ao cap, e = .returned (.slice ao (n + m) cap) ∧ RdE RecM.cells 12 w' ao (n + m) cap (l ++ k) ∧ Below w.heap.size w w' := by
  obtain ⟨i0, hi, hz0, hz1, hz2⟩ := info_parts info_rec
  have HI := Lib.hid hi
  have HZ0 := Lib.hid hz0
  have HZ1 := Lib.hid hz1
  have HZ2 := Lib.hid hz2
  clear hi hz0 hz1 hz2
  have hn := ha.rd.1
  have hm := hb.rd.1
  rw [hn] at h1
  rw [hm] at h2
  have HA := Lib.hid ha
  have HB := Lib.hid hb
  have HG := Lib.hid hg
  have HLN := Lib.hid hn
  have HLM := Lib.hid hm
  have HGR := Lib.hid (fun q w h => grow_any q w h)
  have cg0 : w.cell? ⟨g, 0, none⟩ = some (.slice a n c) := hg.cell 0
  have cg1 : w.cell? ⟨g, 1, none⟩ = some (.slice b m d) := hg.cell 1
  clear ha hb hg hn hm
  go_enter Try.func66, Try.ntmps66
  go_wp2_with fail
  go_loop [3, 11] (fun v3 v11 => CaA n m v3 v11) (fun _ v => 2 - (intOf v).toNat)
  case atStart => exact ⟨0, by omega, rfl, rfl⟩
  case round =>
    obtain ⟨i, hi, rfl, rfl⟩ := hrel
    rcases (by omega : i = 0 ∨ i = 1 ∨ i = 2) with rfl | rfl | rfl
    · have hs : (catN n m 0 : Int) = 0 := rfl
      have w1 : IntKind.i64.wrap (0 + (n : Int)) = (n : Int) := by rw [wr_in _ (by omega) (by omega)]; omega
      rw [hs]
      clear hs
      go_wp2_with fail
      go_round
      case rel => exact ⟨1, by omega, by go_num, rfl⟩
      case measure => simp [intOf]
    · have hs : (catN n m 1 : Int) = (n : Int) := rfl
      obtain ⟨q, hq⟩ : ∃ q, n + m = q := ⟨_, rfl⟩
      have w1 : IntKind.i64.wrap ((n : Int) + (m : Int)) = (q : Int) := by rw [wr_in _ (by omega) (by omega)]; omega
      have HQ := Lib.hid (show Value.int .i64 (q : Int) = .int .i64 (catN n m 2 : Nat) from by rw [← hq]; rfl)
      clear hq
      rw [hs]
      clear hs
      go_wp2_with fail
      go_round
      case rel => exact ⟨2, by omega, by go_num, HQ.out⟩
      case measure => simp [intOf]
    · have hs : (catN n m 2 : Int) = ((n + m : Nat) : Int) := rfl
      rw [hs]
      clear hs
      obtain ⟨q, hq⟩ : ∃ q, n + m = q := ⟨_, rfl⟩
      rw [hq]
      have HQ := Lib.hid hq
      have hq2 : q ≤ 2000 := by omega
      clear hq
      go_wp2_with fail
      refine (HGR.out q w hq2).mono ?_
      rintro e w1 ⟨ao, cap, rfl, hown, hb⟩
      have HO := Lib.hid hown
      have HB1 := Lib.hid hb
      clear hown hb
      go_wp2_with fail
      go_loopw [6, 27] (fun v6 v27 wr => CaB w l k n m v6 v27 wr) (fun _ v _ => 2 - (intOf v).toNat)
      case atStart => exact ⟨0, ao, cap, by omega, rfl, rfl, HO.out, HB1.out⟩
      case round =>
        clear HO HB1
        obtain ⟨i, ao2, cap2, hi2, rfl, rfl, HO, HBW⟩ := hrel
        rcases (by omega : i = 0 ∨ i = 1 ∨ i = 2) with rfl | rfl | rfl
        · have f0 := (HBW.out.cell (p := ⟨g, 0, none⟩) HG.out.lt).trans cg0
          have HS := Lib.hid (HA.out.rd.below HBW.out rfl)
          have A1 : 0 + n ≤ maxLen := by unfold maxLen; omega
          have A2 : (0 + n) * 136 ≤ 140737488355328 := by omega
          have hz := HBW.out.size
          rw [show catN n m 0 = 0 from rfl] at HO ⊢
          rw [show catL l k 0 = [] from rfl] at HO
          go_wp2_with (at_builtin; refine wpList_app rfl _ _ 61 61 rfl w.heap.size 70 i0 (Value.agg #[.int .i64 0, .int .i64 0, .int .i64 0, .int .i64 0, .string ⟨#[]⟩, .int .i64 0, .int .i64 0, .int .i64 0, .int .i64 0, .slice none 0 0, .int .i64 0, .slice none 0 0]) 12 136 Try.underlying61 HI.out HZ0.out HZ1.out HZ2.out rfl (by decide) ao2 0 cap2 [] rfl HO.out _ n (l.flatMap RecM.cells) rfl (Src.ofRdE Try.underlying61 RecM.cells_len recOne HS.out) A1 A2 hz ?_; intro ao3 c3 w5 hown5 hg5; rw [Nat.zero_add, List.nil_append] at hown5; rw [Nat.zero_add]; have HO5 := Lib.hid hown5; have HB5 := Lib.hid (HBW.out.grown hg5 hz (fun b hb => (HO.out.lt b hb).1)); clear hown5 hg5)
          go_roundw
          case rel => exact ⟨1, ao3, c3, by omega, by go_num, rfl, HO5.out, HB5.out⟩
          case measure => simp [intOf]
        · have f0 := (HBW.out.cell (p := ⟨g, 1, none⟩) HG.out.lt).trans cg1
          have HS := Lib.hid (HB.out.rd.below HBW.out rfl)
          have A1 : n + m ≤ maxLen := by unfold maxLen; omega
          have A2 : (n + m) * 136 ≤ 140737488355328 := by omega
          have hz := HBW.out.size
          rw [show catN n m 1 = n from rfl] at HO ⊢
          rw [show catL l k 1 = l from rfl] at HO
          go_wp2_with (at_builtin; refine wpList_app rfl _ _ 61 61 rfl w.heap.size 70 i0 (Value.agg #[.int .i64 0, .int .i64 0, .int .i64 0, .int .i64 0, .string ⟨#[]⟩, .int .i64 0, .int .i64 0, .int .i64 0, .int .i64 0, .slice none 0 0, .int .i64 0, .slice none 0 0]) 12 136 Try.underlying61 HI.out HZ0.out HZ1.out HZ2.out rfl (by decide) ao2 n cap2 (l.flatMap RecM.cells) rfl HO.out _ m (k.flatMap RecM.cells) rfl (Src.ofRdE Try.underlying61 RecM.cells_len recOne HS.out) A1 A2 hz ?_; intro ao3 c3 w5 hown5 hg5; rw [← List.flatMap_append] at hown5; have HO5 := Lib.hid hown5; have HB5 := Lib.hid (HBW.out.grown hg5 hz (fun b hb => (HO.out.lt b hb).1)); clear hown5 hg5)
          go_roundw
          case rel => exact ⟨2, ao3, c3, by omega, by go_num, rfl, HO5.out, HB5.out⟩
          case measure => simp [intOf]
        · have hrd := ownsRow_rdE RecM.cells_len (show (l ++ k).length = n + m from by rw [List.length_append, HLN.out, HLM.out]) HO.out
          have HRD := Lib.hid hrd
          clear HO hrd
          rw [show catN n m 2 = n + m from rfl]
          go_wp2_with fail
          go_ret
          exact ⟨ao2, cap2, rfl, HRD.out, HBW.out⟩
end Go.Proofs.Ytjdanngkmkgidaa
