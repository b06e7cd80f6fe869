/- The document's New. -/
import Derived.Test.YtjacebnjmhbcbaaMh2
namespace Go.Proofs.Ytjacebnjmhbcbaa
open Go.RowKit
set_option linter.unusedVariables false

theorem info_rs : (Try.prog.info? 82).map (fun i => (i.zero, i.size, i.bytes)) = some (some (.agg #[.int .i64 0, .int .i64 0, .bool false, .bool false, .int .i64 0, .string ⟨#[]⟩, .slice none 0 0]), 7, 72) := by kernel_rfl
def RwR (w : World) (p : Nat) (n : Int) (l : List Int) (v7 : Value) (wr : World) : Prop := ∃ (k c : Nat) (ao : Option Addr), k ≤ l.length ∧ v7 = .int .i64 k ∧ RowKit.Hid (Blk wr p 80 [.slice ao k c, .int .i64 n, .slice none 0 0]) ∧ RowKit.Hid (wr.ownsRow w.heap.size 82 7 (.slice ao k c) k (((l.take k).map newMS).flatMap MS.cells)) ∧ RowKit.Hid (Below w.heap.size w wr)
theorem rnew_no (a : Option Addr) (m cap : Nat) (n : Int) (w : World) (h : m = 0 ∨ 6 < m ∨ n < 1 ∨ 10 < n) :
    Calls Try.prog 19 #[.slice a m cap, .int .i64 n] w fun e w' => e = .returned (.tuple #[.pointer none, .int .i64 2]) ∧ w = w' := by
  by_cases h0 : m = 0
  · subst h0
    clear h
    go_enter Try.func19, Try.ntmps19
    go_wp2_with fail
    go_ret2
    exact ⟨rfl, rfl⟩
  · have e1 : decide ((m : Int) < 1) = false := by simp; omega
    by_cases h1 : 6 < m
    · have e2 : decide (6 < m) = true := by simp; omega
      clear h
      go_enter Try.func19, Try.ntmps19
      go_wp2_with fail
      go_ret2
      exact ⟨rfl, rfl⟩
    · have e2 : decide (6 < m) = false := by simp; omega
      by_cases h2 : n < 1
      · clear h
        go_enter Try.func19, Try.ntmps19
        go_wp2_with fail
        go_ret2
        exact ⟨rfl, rfl⟩
      · have h3 : 10 < n := by omega
        clear h
        go_enter Try.func19, Try.ntmps19
        go_wp2_with fail
        go_ret2
        exact ⟨rfl, rfl⟩
set_option maxRecDepth 100000 in
set_option maxHeartbeats 2000000 in
theorem rnew_any (a : Option Addr) (m cap : Nat) (l : List Int) (n : Int) (w : World) (hr : Rd w a m cap (ints l)) (h1 : 1 ≤ m) (h2 : m ≤ 6) (h3 : 1 ≤ n) (h4 : n ≤ 10) :
    Calls Try.prog 19 #[.slice a m cap, .int .i64 n] w fun e w' => e = .returned (.tuple #[.pointer (some ⟨w.heap.size, 0, none⟩), .int .i64 0]) ∧ (∃ qs c R sp ta tc, RMx w' w.heap.size n (l.map newPS) [] qs c R sp ta tc ∧ w.heap.size ≤ qs ∧ ta = none ∧ ∀ (i : Nat) (m : MS), R[i]? = some m → m.wa = none) ∧ Below w.heap.size w w' := by
  obtain ⟨i0, hi, hz0, hz1, hz2⟩ := info_parts info_rs
  have HI := Lib.hid hi
  have HZ0 := Lib.hid hz0
  have HZ1 := Lib.hid hz1
  have HZ2 := Lib.hid hz2
  clear hi hz0 hz1 hz2
  have hnl : l.length = m := by rw [← hr.1, ints_len]
  have HR := Lib.hid hr
  have HN := Lib.hid hnl
  clear hr hnl
  have e1 : decide ((m : Int) < 1) = false := by simp; omega
  have e2 : decide (6 < m) = false := by simp; omega
  have e2' : decide ((6 : Int) < (m : Int)) = false := by simp; omega
  have hb0 : Below w.heap.size w (w.alloc (.cells #[.slice none 0 0, .int .i64 n, .slice none 0 0] 80)) := (Below.refl _ _).alloc (Nat.le_refl _) _
  have hp0 : Blk (w.alloc (.cells #[.slice none 0 0, .int .i64 n, .slice none 0 0] 80)) w.heap.size 80 [.slice none 0 0, .int .i64 n, .slice none 0 0] := heap_alloc_new w _
  have HB0 := Lib.hid hb0
  have HP0 := Lib.hid hp0
  clear hb0 hp0
  go_enter Try.func19, Try.ntmps19
  go_wp2_with fail
  generalize w.alloc (.cells #[.slice none 0 0, .int .i64 n, .slice none 0 0] 80) = w1 at *
  obtain ⟨p, hp⟩ : ∃ p, w.heap.size = p := ⟨_, rfl⟩
  rw [hp] at HP0 ⊢
  have HPP := Lib.hid hp
  clear hp
  go_loopw [7] (fun v wr => RwR w p n l v wr) (fun v _ => m - (intOf v).toNat)
  case atStart => exact ⟨0, 0, none, Nat.zero_le _, rfl, HP0.out, World.ownsRow_nil _ _ _ _, HB0.out⟩
  case round =>
    clear HP0 HB0
    obtain ⟨k, c, ao, hk, rfl, HP, HO, HB⟩ := hrel
    rw [HN.out] at hk
    have c1 := HP.out.cell 0
    rw [show ([.slice ao k c, .int .i64 n, .slice none 0 0] : List Value)[0]? = some (.slice ao k c) from rfl] at c1
    by_cases hlt : k < m
    · obtain ⟨b, o, rfl, hb1, hc1⟩ := (HR.out.below HB.out rfl).2.2.2.2 k hlt
      rw [ints_get l k (by rw [HN.out]; exact hlt)] at hc1
      obtain ⟨d, hd⟩ : ∃ d, l[k]'(by rw [HN.out]; exact hlt) = d := ⟨_, rfl⟩
      rw [hd] at hc1
      have htk : l.take (k + 1) = l.take k ++ [d] := by rw [List.take_add_one, List.getElem?_eq_getElem (by rw [HN.out]; exact hlt), hd]; rfl
      have HTK := Lib.hid htk
      have k1 : (0 : Int) ≤ (k : Int) := by omega
      have k2 : (k : Int) < (m : Int) := by omega
      have A1 : k + 1 ≤ maxLen := by unfold maxLen; omega
      have A2 : (k + 1) * 72 ≤ 140737488355328 := by omega
      have hz := HB.out.size
      have HS : RowKit.Hid (Src Try.prog 7 78 (.slice (some ⟨wr.heap.size, 0, none⟩) 1 1) 1 (newMS d).cells (wr.alloc (.cells #[.int .i64 d, .int .i64 0, .bool (decide (d < 0)), .bool false, .int .i64 0, .string ⟨#[]⟩, .slice none 0 0] 82)).drew) :=
        Src.ofSlice _ Try.underlying78 ⟨wr.heap.size, 0, none⟩ 1 1 (newMS d).cells rfl (World.news_of_block (show ((wr.alloc (.cells #[.int .i64 d, .int .i64 0, .bool (decide (d < 0)), .bool false, .int .i64 0, .string ⟨#[]⟩, .slice none 0 0] 82)).drew).heap[wr.heap.size]? = _ from heap_alloc_new wr _)) (shOne _)
      have HO1 : RowKit.Hid ((wr.alloc (.cells #[.int .i64 d, .int .i64 0, .bool (decide (d < 0)), .bool false, .int .i64 0, .string ⟨#[]⟩, .slice none 0 0] 82)).drew.ownsRow w.heap.size 82 7 (.slice ao k c) k (((l.take k).map newMS).flatMap MS.cells)) := HO.out.alloc _
      have HP1 : RowKit.Hid (Blk (wr.alloc (.cells #[.int .i64 d, .int .i64 0, .bool (decide (d < 0)), .bool false, .int .i64 0, .string ⟨#[]⟩, .slice none 0 0] 82)).drew p 80 [.slice ao k c, .int .i64 n, .slice none 0 0]) := Blk.alloc HP.out _
      have HB1 : RowKit.Hid (Below w.heap.size w (wr.alloc (.cells #[.int .i64 d, .int .i64 0, .bool (decide (d < 0)), .bool false, .int .i64 0, .string ⟨#[]⟩, .slice none 0 0] 82)).drew) := below_drewN (HB.out.alloc hz _) 1
      have A3 : w.heap.size ≤ (wr.alloc (.cells #[.int .i64 d, .int .i64 0, .bool (decide (d < 0)), .bool false, .int .i64 0, .string ⟨#[]⟩, .slice none 0 0] 82)).drew.heap.size := HB1.out.size
      have hcA : (wr.alloc (.cells #[.int .i64 d, .int .i64 0, .bool (decide (d < 0)), .bool false, .int .i64 0, .string ⟨#[]⟩, .slice none 0 0] 82)).cell? ⟨p, 0, none⟩ = some (.slice ao k c) := (HP1.out.cell 0).trans rfl
      clear hd htk
      go_wp2_with fail
      go_region_law (first | (refine step_app rfl (.tmp 37) (.tmp 48) 78 78 rfl w.heap.size 82 i0 (.agg #[.int .i64 0, .int .i64 0, .bool false, .bool false, .int .i64 0, .string ⟨#[]⟩, .slice none 0 0]) 7 72 Try.underlying78 HI.out HZ0.out HZ1.out HZ2.out rfl (by decide) ao k c (((l.take k).map newMS).flatMap MS.cells) (by kernel_rfl) HO1.out (.slice (some ⟨wr.heap.size, 0, none⟩) 1 1) 1 (newMS d).cells (by kernel_rfl) HS.out A1 A2 A3 ?_; intro ao2 c2 w5 hown5 hg5; have hP5 := HP1.out.frm (Frm.grown (S := fun i => (Value.slice ao k c).ownBlock = some i) hg5 (fun g h => h)) (fun e => ownsRow_ne HO1.out HP1.out (by decide) _ e rfl); have c15 := (hP5.cell 0).trans (show _ = some (.slice ao k c) from rfl); have fz5 := hP5.frozen 0; have HP5 := Lib.hid hP5; have HO5 := Lib.hid hown5; have HB5 := Lib.hid (HB1.out.grown hg5 A3 (fun b hb => (HO1.out.lt b hb).1)); clear hP5 hown5 hg5))
      all_goals
        have hne := ownsRow_ne HO5.out HP5.out (by decide)
        have hset : Frm (fun i => i = p) w5 (w5.setCell ⟨p, 0, none⟩ (.slice ao2 (k + 1 : Nat) c2)) := (Frm.refl _ _).setCell _ _ (.inl rfl)
        have HO6 := Lib.hid (ownsRow_frm HO5.out hset hne)
        have HB6 := Lib.hid (HB5.out.trans (hset.toBelow HB5.out.size (fun i hi e => by have := HPP.out; omega)))
        have HP6 := Lib.hid (HP5.out.set 0 (.slice ao2 (k + 1 : Nat) c2))
        clear hne hset HO5 HB5 HP5
        go_wp2_with fail
        go_roundw
        case rel => exact ⟨k + 1, c2, ao2, by rw [HN.out]; omega, by go_num, HP6.out, by unfold RowKit.Hid; rw [HTK.out, List.map_append, List.flatMap_append]; simpa using HO6.out, HB6.out⟩
        case measure => simp [intOf]; omega
    · have hkm : k = m := by omega
      subst hkm
      clear hlt
      have hfull : l.take k = l := List.take_of_length_le (by rw [HN.out]; exact Nat.le_refl _)
      have hmg : ∃ qs c R sp ta tc, RMx wr p n (l.map newPS) [] qs c R sp ta tc ∧ w.heap.size ≤ qs ∧ ta = none ∧ ∀ (i : Nat) (m : MS), R[i]? = some m → m.wa = none := by
        have ho := HO.out
        rw [hfull] at ho
        obtain ⟨g, cap, hv, hbg, _⟩ := ho.form (by omega)
        simp only [Value.slice.injEq, true_and] at hv
        obtain ⟨rfl, rfl⟩ := hv
        obtain ⟨sp, hsp, hbk⟩ := ownsRow_blk ho
        have hcc : k ≤ c ∧ c ≤ maxLen := by
          rcases ho.2 with ⟨h', _⟩ | ⟨g', cap', cur, h', _, _, hnc, hmx, _⟩
          · simp at h'
          · simp only [Value.slice.injEq] at h'; obtain ⟨_, _, rfl⟩ := h'; exact ⟨hnc, hmx⟩
        have hlk := HN.out
        refine ⟨g, c, l.map newMS, sp, none, 0, ⟨?_, hbk, by simp; omega, hcc.2, ⟨rfl, Nat.le_refl _, Nat.zero_le _, fun _ => rfl, fun i x hx => by simp at hx⟩, (fun b o s e => by cases e), by simp, ?_, ⟨by simp; omega, by simp, h3, h4⟩, ?_⟩, hbg, rfl, ?_⟩
        · rw [List.length_map, hlk]; exact HP.out
        · intro i ms s hm hs
          rw [List.getElem?_map, Option.map_eq_some_iff] at hm hs
          obtain ⟨d, hd, rfl⟩ := hm
          obtain ⟨d', hd', rfl⟩ := hs
          rw [hd] at hd'
          cases hd'
          exact ⟨rfl, rfl, rfl, rfl, rfl, ⟨rfl, Nat.le_refl _, Nat.zero_le _, fun _ => rfl, fun i x hx => by simp [newPS] at hx⟩, fun b o sp e => by simp [newMS] at e, Nat.zero_le _⟩
        · intro s hs
          obtain ⟨d, _, rfl⟩ := List.mem_map.1 hs
          exact ⟨by show (0 : Nat) ≤ 1000000; omega, fun x hx => by simp [newPS] at hx⟩
        · intro i ms hm
          rw [List.getElem?_map, Option.map_eq_some_iff] at hm
          obtain ⟨d, hd, rfl⟩ := hm
          rfl
      have HMG := Lib.hid hmg
      clear hmg
      go_wp2_with fail
      go_ret2
      refine ⟨by rw [HPP.out]; rfl, ?_, HB.out⟩
      have := HMG.out
      rw [← HPP.out] at this
      exact this
end Go.Proofs.Ytjacebnjmhbcbaa
