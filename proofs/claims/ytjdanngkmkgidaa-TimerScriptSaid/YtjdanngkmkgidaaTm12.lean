/- The walks of slices.Clone, Due. -/
import Derived.Test.YtjdanngkmkgidaaTm11
namespace Go.Proofs.Ytjdanngkmkgidaa
open Go.RowKit
set_option linter.unusedVariables false

set_option maxRecDepth 100000 in
theorem clone_any (w : World) (ao : Option Addr) (n c : Nat) (f : Nat → One) (h : w.ownsRow 0 81 2 (.slice ao n c) n (fl n f)) (hn : n ≤ 1000) :
   Calls Try.prog 39 #[.slice ao n c] w fun e w' => ∃ ao' c', e = .returned (.slice ao' n c') ∧ w'.ownsRow w.heap.size 81 2 (.slice ao' n c') n (fl n f) ∧ Below w.heap.size w w' := by
  obtain ⟨i0, hi, hz0, hz1, hz2⟩ := info_parts info_one
  have HI := Lib.hid hi
  have HZ0 := Lib.hid hz0
  have HZ1 := Lib.hid hz1
  have HZ2 := Lib.hid hz2
  clear hi hz0 hz1 hz2
  have HO := Lib.hid h
  cases ao with
  | none =>
    have hn0 : n = 0 := by
      rcases h.2 with ⟨h', h0⟩ | ⟨g, cap, cur, h', _⟩
      · exact h0
      · simp at h'
    subst hn0
    have hc0 : c = 0 := by
      rcases h.2 with ⟨h', h0⟩ | ⟨g, cap, cur, h', _⟩
      · simp at h'; exact h'
      · simp at h'
    subst hc0
    clear h
    have he : ∀ W, (binOp .eql 76 (.slice none 0 0) (.slice none 0 0)).run Try.prog W = .ok (.bool true) W := fun W => by kernel_rfl
    go_enter Try.func39, Try.ntmps39
    go_wp2_with fail
    go_ret
    exact ⟨none, 0, rfl, World.ownsRow_nil _ _ _ _, Below.refl _ _⟩
  | some a =>
    obtain ⟨g, rfl⟩ : ∃ g, a = ⟨g, 0, none⟩ := by
      rcases h.2 with ⟨h', h0⟩ | ⟨g, cap, cur, h', _⟩
      · simp at h'
      · simp only [Value.slice.injEq, Option.some.injEq] at h'; exact ⟨g, h'.1⟩
    have hsrc : Src Try.prog 2 76 (.slice (some ⟨g, 0, none⟩) n c) n (fl n f) (w.alloc (.cells #[] 81)) :=
      Src.ofSlice _ Try.underlying76 ⟨g, 0, none⟩ n c (fl n f) (fl_len n f) ((h.alloc (.cells #[] 81)).cells (g := g) rfl) (by
        intro u hu
        simp only [fl, List.mem_flatMap, oneCells, List.mem_cons, List.not_mem_nil, or_false] at hu
        obtain ⟨k, _, rfl | rfl⟩ := hu <;> rfl)
    have hown : (w.alloc (.cells #[] 81)).ownsRow w.heap.size 81 2 (.slice (some ⟨w.heap.size, 0, none⟩) 0 0) 0 [] :=
      ⟨rfl, .inr ⟨w.heap.size, 0, #[], rfl, Nat.le_refl _, heap_alloc_new w _, Nat.le_refl _, Nat.zero_le _, rfl, rfl⟩⟩
    have HS := Lib.hid hsrc
    have HN := Lib.hid hown
    clear h hsrc hown
    have he : ∀ W, (binOp .eql 76 (.slice (some ⟨g, 0, none⟩) n c) (.slice none 0 0)).run Try.prog W = .ok (.bool false) W := fun W => by kernel_rfl
    go_enter Try.func39, Try.ntmps39
    go_wp2_with (at_builtin; refine wpList_app rfl _ _ 76 76 rfl w.heap.size 81 i0 (.agg #[.int .i64 0, .int .i64 0]) 2 16 Try.underlying76 HI.out HZ0.out HZ1.out HZ2.out rfl (by decide) (some ⟨w.heap.size, 0, none⟩) 0 0 [] rfl HN.out (.slice (some ⟨g, 0, none⟩) n c) n (fl n f) rfl HS.out (by unfold maxLen; omega) (by omega) (by simp) ?_; intro ao2 c2 w2 hown2 hg2; rw [Nat.zero_add, List.nil_append] at hown2; have HO2 := Lib.hid hown2; have HB2 := Lib.hid (((Below.refl _ w).alloc (Nat.le_refl _) (.cells #[] 81)).grown hg2 (by simp) (fun k hk => by simp only [Value.ownBlock, Option.some.injEq] at hk; omega)); clear hown2 hg2)
    go_ret
    exact ⟨ao2, c2, rfl, HO2.out, HB2.out⟩
theorem ownsRow_ne2 {w : World} {base e size n base' e' size' n' : Nat} {v v' : Value} {xs xs' : List Value} (h : w.ownsRow base e size v n xs) (h' : w.ownsRow base' e' size' v' n' xs') (hT : e ≠ e') : ∀ k, v.ownBlock = some k → v'.ownBlock ≠ some k := by
  intro k hk e1
  rcases h.2 with h2 | ⟨g, cap, cur, hv, hb, hg, h3⟩
  · rw [h2.1] at hk; simp [Value.ownBlock] at hk
  · rcases h'.2 with h2' | ⟨g', cap', cur', hv', hb', hg', h3'⟩
    · rw [h2'.1] at e1; simp [Value.ownBlock] at e1
    · rw [hv] at hk
      rw [hv'] at e1
      simp only [Value.ownBlock, Option.some.injEq] at hk e1
      subst hk
      subst e1
      rw [hg] at hg'
      simp at hg'
      exact hT hg'.2
def popF (f : Nat → One) (n : Nat) : Nat → One := (downF n (swapF f 0 n) 0 n).1
def dueF : (Nat → One) → Nat → Int → List Int
  | f, 0, now => []
  | f, n + 1, now => if now < (f 0).1 then [] else (f 0).2 :: dueF (popF f n) n now
theorem info_int : (Try.prog.info? 3).map (fun i => (i.zero, i.size, i.bytes)) = some (some (.int .i64 0), 1, 8) := by kernel_rfl
def sliceLen : Value → Nat
  | .slice _ n _ => n
  | _ => 0
/-- a variable that holds pairs, told without its block -/
def VE (w : World) (q : Nat) (ao : Option Addr) (n c : Nat) (f : Nat → One) : Prop := VO w q 0 76 [.slice ao n c] ao n c f
def DuR (w : World) (q : Nat) (now : Int) (R : List Int) (N : Nat) (v : Value) (wr : World) : Prop := ∃ (m : Nat) (f : Nat → One) (ao : Option Addr) (c : Nat) (ao2 : Option Addr) (k c2 : Nat) (acc : List Int), v = .slice ao2 k c2 ∧ RowKit.Hid (acc.length = k) ∧ k + m = N ∧ RowKit.Hid (VE wr q ao m c f) ∧ RowKit.Hid (∀ g, (Value.slice ao m c).ownBlock = some g → w.heap.size ≤ g) ∧ RowKit.Hid (wr.ownsRow w.heap.size 3 1 (.slice ao2 k c2) k (acc.map (Value.int .i64))) ∧ RowKit.Hid (acc ++ dueF f m now = R) ∧ RowKit.Hid (Below w.heap.size w wr)
set_option maxRecDepth 100000 in
set_option maxHeartbeats 4000000 in
theorem due_any (p : Nat) (now : Int) (w : World) (most : Int) (ao : Option Addr) (n c : Nat) (f : Nat → One) (h : TM w p most ao n c f) (hn : n ≤ 1000) :
   Calls Try.prog 16 #[.pointer (some ⟨p, 0, none⟩), .int .i64 now] w fun e w' => ∃ ao2 k c2 R, e = .returned (.slice ao2 k c2) ∧ R = dueF f n now ∧ R.length = k ∧ w'.ownsRow w.heap.size 3 1 (.slice ao2 k c2) k (R.map (Value.int .i64)) ∧ Below w.heap.size w w' := by
  obtain ⟨i0, hi, hz0, hz1, hz2⟩ := info_parts info_int
  have HI := Lib.hid hi
  have HZ0 := Lib.hid hz0
  have HZ1 := Lib.hid hz1
  have HZ2 := Lib.hid hz2
  clear hi hz0 hz1 hz2
  have c1 := h.cell
  have HO := Lib.hid h.own
  clear h
  obtain ⟨R, hR⟩ : ∃ R, dueF f n now = R := ⟨_, rfl⟩
  have HR := Lib.hid hR
  have HR0 := Lib.hid hR
  clear hR
  have hta : ∀ (a b : Int) (W : World), (Instr.typeAssert (.iface 81 (.agg #[.int .i64 a, .int .i64 b])) 20 81 false).run Try.prog W = .ok (.agg #[.int .i64 a, .int .i64 b]) W := fun _ _ _ => by kernel_rfl
  have HTA := Lib.hid hta
  clear hta
  go_enter Try.func16, Try.ntmps16
  go_wp2_with fail
  refine (clone_any _ ao n c f HO.out hn).mono ?_
  rintro e w1 ⟨ao1, cc1, rfl, hown1, hb1⟩
  have HO1 := Lib.hid hown1
  have HB1 := Lib.hid hb1
  clear hown1 hb1 c1 HO
  go_wp2_with fail
  have hq : Blk (w1.alloc (.cells #[.slice ao1 n cc1] 76)) w1.heap.size 76 [.slice ao1 n cc1] := heap_alloc_new w1 _
  have hown2 := HO1.out.alloc (.cells #[.slice ao1 n cc1] 76)
  have hV : VE (w1.alloc (.cells #[.slice ao1 n cc1] 76)) w1.heap.size ao1 n cc1 f := ⟨hq, rfl, ⟨hown2.1, hown2.2.imp id (fun ⟨g, cap, cur, h1, h2, h3⟩ => ⟨g, cap, cur, h1, Nat.zero_le _, h3⟩)⟩, by decide⟩
  have HV := Lib.hid hV
  have HG : RowKit.Hid (∀ g, (Value.slice ao1 n cc1).ownBlock = some g → w.heap.size ≤ g) := fun g hg => (HO1.out.lt g hg).1
  have HB2 : RowKit.Hid (Below w.heap.size w (w1.alloc (.cells #[.slice ao1 n cc1] 76))) := HB1.out.alloc HB1.out.size _
  have hqw : w.heap.size ≤ w1.heap.size := HB1.out.size
  clear hq hown2 hV HO1 HB1
  generalize w1.alloc (.cells #[.slice ao1 n cc1] 76) = w2 at *
  generalize w1.heap.size = q at *
  go_loopw [6] (fun v wr => DuR w q now R n v wr) (fun v _ => n - sliceLen v)
  case atStart => exact ⟨n, f, ao1, cc1, none, 0, 0, [], rfl, rfl, by omega, HV.out, HG.out, World.ownsRow_nil _ _ _ _, HR.out, HB2.out⟩
  case round =>
    clear HV HG HB2 HR
    obtain ⟨m, f, ao1, c, ao2, k, c2, acc, rfl, HL, hkm, HV, HG, HO, HR, HB⟩ := hrel
    have c1 : wr.cell? ⟨q, 0, none⟩ = some (.slice ao1 m c) := VO.cell HV.out
    cases m with
    | zero =>
      have hR : acc = R := by rw [← HR.out]; simp [dueF]
      have HR2 := Lib.hid hR
      clear hR
      go_wp2_with fail
      go_ret
      exact ⟨ao2, k, c2, R, rfl, HR0.out.symm, by rw [← HR2.out]; exact HL.out, by rw [← HR2.out]; exact HO.out, HB.out⟩
    | succ m =>
      obtain ⟨g, sp, rfl, hb, hsp, hnc, hcm, hqg⟩ := VO.open_ HV.out (Nat.succ_pos m)
      have hgB : w.heap.size ≤ g := HG.out g rfl
      have hne1 : ∀ b, (Value.slice ao2 k c2).ownBlock = some b → b ≠ q := ownsRow_ne HO.out HV.out.blk (by decide)
      have hne2 : ∀ b, (Value.slice ao2 k c2).ownBlock = some b → b ≠ g := ownsRow_ne HO.out hb (by decide)
      have HNE := Lib.hid hne1
      have HNE2 := Lib.hid hne2
      have hp : decide (0 < m + 1) = true := by simp
      have hp1 : (0 : Int) < ((m : Int) + 1) := by omega
      clear hb hsp hnc hcm hne1 hne2
      have hdue : dueF f (m + 1) now = if now < (f 0).1 then [] else (f 0).2 :: dueF (popF f m) m now := rfl
      have HD := Lib.hid hdue
      clear hdue
      go_wp2_with fail
      refine (hpop_any q 0 g m c 76 _ f _ HV.out (by omega)).mono ?_
      rintro e w3 ⟨rfl, hV3, hF3⟩
      have HV3 := Lib.hid (show VE w3 q (some ⟨g, 0, none⟩) m c (popF f m) from hV3)
      have HB3 := Lib.hid (HB.out.trans (hF3.toBelow HB.out.size (fun i hi h => by rcases h with h | h <;> omega)))
      have HO3 := Lib.hid (ownsRow_frm HO.out hF3 (fun b hb h => by rcases h with h | h; exact HNE.out b hb h; exact HNE2.out b hb h))
      have HT := HTA.out (f 0).1 (f 0).2
      clear hV3 hF3 HV HB HO c1 HNE HNE2
      have hx0 : (w3.alloc (.cells #[.int .i64 (f 0).1, .int .i64 (f 0).2] 81)).cell? ⟨w3.heap.size, 0, none⟩ = some (.int .i64 (f 0).1) := by rw [cell_of_row _ _ _ _ _ _ (heap_alloc_new w3 _)]; rfl
      have hx1 : (w3.alloc (.cells #[.int .i64 (f 0).1, .int .i64 (f 0).2] 81)).cell? ⟨w3.heap.size, 1, none⟩ = some (.int .i64 (f 0).2) := by rw [cell_of_row _ _ _ _ _ _ (heap_alloc_new w3 _)]; rfl
      have HB4 : RowKit.Hid (Below w.heap.size w (w3.alloc (.cells #[.int .i64 (f 0).1, .int .i64 (f 0).2] 81))) := HB3.out.alloc HB3.out.size _
      have HO4 : RowKit.Hid ((w3.alloc (.cells #[.int .i64 (f 0).1, .int .i64 (f 0).2] 81)).ownsRow w.heap.size 3 1 (.slice ao2 k c2) k (acc.map (Value.int .i64))) := HO3.out.alloc _
      have HV4 : RowKit.Hid (VE (w3.alloc (.cells #[.int .i64 (f 0).1, .int .i64 (f 0).2] 81)) q (some ⟨g, 0, none⟩) m c (popF f m)) := VO.below HV3.out ((Below.refl _ _).alloc (Nat.le_refl _) _)
      clear HB3 HO3 HV3
      by_cases hlt : now < (f 0).1
      · have hR : acc = R := by rw [← HR.out, HD.out, if_pos hlt, List.append_nil]
        have HR2 := Lib.hid hR
        clear hR HR HD
        go_wp2_with fail
        go_ret
        exact ⟨ao2, k, c2, R, rfl, HR0.out.symm, by rw [← HR2.out]; exact HL.out, by rw [← HR2.out]; exact HO4.out, HB4.out⟩
      · have HR2 : RowKit.Hid ((acc ++ [(f 0).2]) ++ dueF (popF f m) m now = R) := by have := HR.out; rw [HD.out, if_neg hlt] at this; unfold RowKit.Hid; rw [← this]; simp
        have hge : (f 0).1 ≤ now := by omega
        have d1 : decide (now < (f 0).1) = false := by simpa using hge
        clear HR HD hlt
        have HO5 : RowKit.Hid (((w3.alloc (.cells #[.int .i64 (f 0).1, .int .i64 (f 0).2] 81)).alloc (.cells #[.int .i64 (f 0).2] 3)).ownsRow w.heap.size 3 1 (.slice ao2 k c2) k (acc.map (Value.int .i64))) := HO4.out.alloc _
        have HB5 : RowKit.Hid (Below w.heap.size w ((w3.alloc (.cells #[.int .i64 (f 0).1, .int .i64 (f 0).2] 81)).alloc (.cells #[.int .i64 (f 0).2] 3))) := HB4.out.alloc HB4.out.size _
        have HV5 : RowKit.Hid (VE ((w3.alloc (.cells #[.int .i64 (f 0).1, .int .i64 (f 0).2] 81)).alloc (.cells #[.int .i64 (f 0).2] 3)) q (some ⟨g, 0, none⟩) m c (popF f m)) := VO.below HV4.out ((Below.refl _ _).alloc (Nat.le_refl _) _)
        have HS5 : RowKit.Hid (Src Try.prog 1 22 (.slice (some ⟨w3.heap.size + 1, 0, none⟩) 1 1) 1 [.int .i64 (f 0).2] ((w3.alloc (.cells #[.int .i64 (f 0).1, .int .i64 (f 0).2] 81)).alloc (.cells #[.int .i64 (f 0).2] 3))) := by
          have := Src.one' Try.underlying22 (w3.alloc (.cells #[.int .i64 (f 0).1, .int .i64 (f 0).2] 81)) (.int .i64 (f 0).2) 3 rfl
          unfold RowKit.Hid; simpa using this
        clear HB4 HO4 HV4
        have A3 : w.heap.size ≤ ((w3.alloc (.cells #[.int .i64 (f 0).1, .int .i64 (f 0).2] 81)).alloc (.cells #[.int .i64 (f 0).2] 3)).heap.size := HB5.out.size
        have HA3 := Lib.hid A3
        clear A3
        have A1 : k + 1 ≤ maxLen := by unfold maxLen; omega
        have A2 : (k + 1) * 8 ≤ 140737488355328 := by omega
        go_wp2_with (at_builtin; refine wpList_app rfl _ _ 22 22 rfl w.heap.size 3 i0 (.int .i64 0) 1 8 Try.underlying22 HI.out HZ0.out HZ1.out HZ2.out rfl (by decide) ao2 k c2 (acc.map (Value.int .i64)) rfl HO5.out (.slice (some ⟨w3.heap.size + 1, 0, none⟩) 1 1) 1 [.int .i64 (f 0).2] rfl HS5.out A1 A2 HA3.out ?_; intro ao3 c3 w5 hown5 hg5; have HO6 := Lib.hid hown5; have HB6 := Lib.hid (HB5.out.grown hg5 HA3.out (fun b hb => (HO5.out.lt b hb).1)); have HV6 := Lib.hid (VO.frm HV5.out (Frm.grown (S := fun i => (Value.slice ao2 k c2).ownBlock = some i) hg5 (fun g h => h)) (fun e => ownsRow_ne HO5.out HV5.out.blk (by decide) _ e rfl) (fun i h e => ownsRow_ne2 HO5.out HV5.out.own (by decide) i e h)); clear hown5 hg5)
        go_roundw
        case rel => exact ⟨m, popF f m, some ⟨g, 0, none⟩, c, ao3, k + 1, c3, acc ++ [(f 0).2], rfl, (by unfold RowKit.Hid; rw [List.length_append, HL.out]; rfl), by omega, HV6.out, (fun b hb => HG.out b hb), (by unfold RowKit.Hid; rw [List.map_append]; exact HO6.out), HR2.out, HB6.out⟩
        case measure => simp [sliceLen]; omega
end Go.Proofs.Ytjdanngkmkgidaa
