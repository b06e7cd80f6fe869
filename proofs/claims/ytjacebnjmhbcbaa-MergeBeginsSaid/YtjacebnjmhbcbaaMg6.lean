/- The walk of merge.New. -/
import Derived.Test.YtjacebnjmhbcbaaMg5
namespace Go.Proofs.Ytjacebnjmhbcbaa
open Go.RowKit
set_option linter.unusedVariables false

theorem info_sh : (Try.prog.info? 74).map (fun i => (i.zero, i.size, i.bytes)) = some (some (.agg #[.int .i64 0, .int .i64 0, .bool false, .bool false, .int .i64 0, .string ⟨#[]⟩, .slice none 0 0]), 7, 72) := by kernel_rfl
def ints (l : List Int) : List Value := l.map (Value.int .i64)
theorem ints_len (l : List Int) : (ints l).length = l.length := by simp [ints]
theorem ints_get (l : List Int) (i : Nat) (h : i < l.length) : (ints l)[i]? = some (.int .i64 l[i]) := by simp [ints, h]
def newMS (d : Int) : MS := ⟨d, 0, decide (d < 0), false, (0, ⟨#[]⟩), none, 0, 0⟩
def newPS (d : Int) : PS := ⟨d, 0, decide (d < 0), false, (0, ⟨#[]⟩), []⟩
theorem shOne (m : MS) : ∀ u ∈ m.cells, u.oneCell' = true := by
  intro u hu
  unfold MS.cells at hu
  simp only [List.mem_cons, List.not_mem_nil, or_false] at hu
  rcases hu with rfl | rfl | rfl | rfl | rfl | rfl | rfl <;> rfl
theorem MG.base {B B' : Nat} {W : World} {p : Nat} {n : Int} {S : List PS} {T : List KeyL} (h : MG B W p n S T) (hB : B' ≤ B) : MG B' W p n S T := by
  obtain ⟨gs, c, M, sp, ta, tc, h1, h2, h3, h4, h5, h6, h7, h8, h9, h10⟩ := h
  exact ⟨gs, c, M, sp, ta, tc, h1, h2, h3, h4, own0 h5 hB, h6, fun i m s hm hs => by
    obtain ⟨a1, a2, a3, a4, a5, a6, a7, a8, a9, a10⟩ := h7 i m s hm hs
    exact ⟨a1, a2, a3, a4, a5, a6, fun b o sp e => Nat.le_trans hB (a7 b o sp e), a8, a9, a10⟩, by omega, by omega, h10⟩
def NwR (w : World) (p : Nat) (n : Int) (l : List Int) (v30 : Value) (wr : World) : Prop := ∃ (k c : Nat) (ao : Option Addr), k ≤ l.length ∧ v30 = .int .i64 k ∧ RowKit.Hid (Blk wr p 72 [.int .i64 n, .slice ao k c, .slice none 0 0]) ∧ RowKit.Hid (wr.ownsRow w.heap.size 74 7 (.slice ao k c) k (((l.take k).map newMS).flatMap MS.cells)) ∧ RowKit.Hid (Below w.heap.size w wr)
set_option maxRecDepth 100000 in
set_option maxHeartbeats 2000000 in
theorem mnew_any (a : Option Addr) (m cap : Nat) (l : List Int) (n : Int) (w : World) (hr : Rd w a m cap (ints l)) (h1 : 1 ≤ m) (h2 : m ≤ 6) (h3 : 1 ≤ n) (h4 : n ≤ 10) :
    Calls Try.prog 11 #[.slice a m cap, .int .i64 n] w fun e w' => e = .returned (.tuple #[.pointer (some ⟨w.heap.size, 0, none⟩), .int .i64 0]) ∧ MG w.heap.size w' w.heap.size n (l.map newPS) [] ∧ Below w.heap.size w w' := by
  obtain ⟨i0, hi, hz0, hz1, hz2⟩ := info_parts info_sh
  have HI := Lib.hid hi
  have HZ0 := Lib.hid hz0
  have HZ1 := Lib.hid hz1
  have HZ2 := Lib.hid hz2
  clear hi hz0 hz1 hz2
  have hnl : l.length = m := by rw [← hr.1, ints_len]
  have HR := Lib.hid hr
  have HN := Lib.hid hnl
  clear hr hnl
  have e1 : ((m : Int) == 0) = false := by rw [beq_eq_false_iff_ne]; omega
  have e2 : decide (6 < m) = false := by simp; omega
  have hb0 : Below w.heap.size w (w.alloc (.cells #[.int .i64 n, .slice none 0 0, .slice none 0 0] 72)) := (Below.refl _ _).alloc (Nat.le_refl _) _
  have hp0 : Blk (w.alloc (.cells #[.int .i64 n, .slice none 0 0, .slice none 0 0] 72)) w.heap.size 72 [.int .i64 n, .slice none 0 0, .slice none 0 0] := heap_alloc_new w _
  have HB0 := Lib.hid hb0
  have HP0 := Lib.hid hp0
  clear hb0 hp0
  go_enter Try.func11, Try.ntmps11
  go_wp2_with fail
  generalize w.alloc (.cells #[.int .i64 n, .slice none 0 0, .slice none 0 0] 72) = w1 at *
  obtain ⟨p, hp⟩ : ∃ p, w.heap.size = p := ⟨_, rfl⟩
  rw [hp] at HP0 ⊢
  have HPP := Lib.hid hp
  clear hp
  go_loopw [30] (fun v wr => NwR w p n l v wr) (fun v _ => m - (intOf v).toNat)
  case atStart => exact ⟨0, 0, none, Nat.zero_le _, rfl, HP0.out, World.ownsRow_nil _ _ _ _, HB0.out⟩
  case round =>
    clear HP0 HB0
    obtain ⟨k, c, ao, hk, rfl, HP, HO, HB⟩ := hrel
    rw [HN.out] at hk
    have c1 := HP.out.cell 1
    rw [show ([.int .i64 n, .slice ao k c, .slice none 0 0] : List Value)[1]? = some (.slice ao k c) from rfl] at c1
    by_cases hlt : k < m
    · obtain ⟨b, o, rfl, hb1, hc1⟩ := (HR.out.below HB.out rfl).2.2.2.2 k hlt
      rw [ints_get l k (by rw [HN.out]; exact hlt)] at hc1
      obtain ⟨d, hd⟩ : ∃ d, l[k]'(by rw [HN.out]; exact hlt) = d := ⟨_, rfl⟩
      rw [hd] at hc1
      have htk : l.take (k + 1) = l.take k ++ [d] := by rw [List.take_add_one, List.getElem?_eq_getElem (by rw [HN.out]; exact hlt), hd]; rfl
      have HTK := Lib.hid htk
      have k1 : (0 : Int) ≤ (k : Int) := by omega
      have k2 : (k : Int) < (m : Int) := by omega
      have A1 : k + 1 ≤ maxLen := by unfold maxLen; omega
      have A2 : (k + 1) * 72 ≤ 140737488355328 := by omega
      have hz := HB.out.size
      have hsrc : Src Try.prog 7 70 (.slice (some ⟨wr.heap.size, 0, none⟩) 1 1) 1 (newMS d).cells (wr.alloc (.cells #[.int .i64 d, .int .i64 0, .bool (decide (d < 0)), .bool false, .int .i64 0, .string ⟨#[]⟩, .slice none 0 0] 74)) :=
        Src.ofSlice _ Try.underlying70 ⟨wr.heap.size, 0, none⟩ 1 1 (newMS d).cells rfl (World.news_of_block (heap_alloc_new wr _)) (shOne _)
      have HS := Lib.hid hsrc
      clear hd htk hsrc
      have fz1 := HP.out.frozen 1
      clear fz1
      go_wp2_with (at_builtin; refine wpList_app rfl _ _ 70 70 rfl w.heap.size 74 i0 (.agg #[.int .i64 0, .int .i64 0, .bool false, .bool false, .int .i64 0, .string ⟨#[]⟩, .slice none 0 0]) 7 72 Try.underlying70 HI.out HZ0.out HZ1.out HZ2.out rfl (by decide) ao k c (((l.take k).map newMS).flatMap MS.cells) rfl (HO.out.alloc _) (.slice (some ⟨wr.heap.size, 0, none⟩) 1 1) 1 (newMS d).cells rfl HS.out A1 A2 (by simp; omega) ?_; intro ao2 c2 w5 hown5 hg5; have hbl0 := Blk.alloc HP.out (.cells #[.int .i64 d, .int .i64 0, .bool (decide (d < 0)), .bool false, .int .i64 0, .string ⟨#[]⟩, .slice none 0 0] 74); have hP5 := hbl0.frm (Frm.grown (S := fun i => (Value.slice ao k c).ownBlock = some i) hg5 (fun g h => h)) (fun e => ownsRow_ne HO.out HP.out (by decide) _ e rfl); have c15 := hP5.cell 1; have fz5 := hP5.frozen 1; rw [show ([.int .i64 n, .slice ao k c, .slice none 0 0] : List Value)[1]? = some (.slice ao k c) from rfl] at c15; have HP5 := Lib.hid hP5; have HO5 := Lib.hid hown5; have HB5 := Lib.hid ((HB.out.alloc hz _).grown hg5 (by simp; omega) (fun b hb => (HO.out.lt b hb).1)); clear hbl0 hP5 hown5 hg5)
      have hne := ownsRow_ne HO5.out HP5.out (by decide)
      have hset : Frm (fun i => i = p) w5 (w5.setCell ⟨p, 1, none⟩ (.slice ao2 (k + 1 : Nat) c2)) := (Frm.refl _ _).setCell _ _ (.inl rfl)
      have HO6 := Lib.hid (ownsRow_frm HO5.out hset hne)
      have HB6 := Lib.hid (HB5.out.trans (hset.toBelow HB5.out.size (fun i hi e => by have := HPP.out; omega)))
      have HP6 := Lib.hid (HP5.out.set 1 (.slice ao2 (k + 1 : Nat) c2))
      clear hne hset HO5 HB5 HP5
      go_roundw
      case rel => exact ⟨k + 1, c2, ao2, by rw [HN.out]; omega, by go_num, HP6.out, by unfold RowKit.Hid; rw [HTK.out, List.map_append, List.flatMap_append]; simpa using HO6.out, HB6.out⟩
      case measure => simp [intOf]; omega
    · have hkm : k = m := by omega
      subst hkm
      clear hlt
      have hfull : l.take k = l := List.take_of_length_le (by rw [HN.out]; exact Nat.le_refl _)
      have hmg : MG w.heap.size wr p n (l.map newPS) [] := by
        have ho := HO.out
        rw [hfull] at ho
        obtain ⟨g, cap, hv, hbg, _⟩ := ho.form (by omega)
        simp only [Value.slice.injEq, true_and] at hv
        obtain ⟨rfl, rfl⟩ := hv
        obtain ⟨sp, hsp, hbk⟩ := ownsRow_blk ho
        have hcc : k ≤ c ∧ c ≤ maxLen := by
          rcases ho.2 with ⟨h', _⟩ | ⟨g', cap', cur, h', _, _, hnc, hmx, _⟩
          · simp at h'
          · simp only [Value.slice.injEq] at h'; obtain ⟨_, _, rfl⟩ := h'; exact ⟨hnc, hmx⟩
        have hlk := HN.out
        refine ⟨g, c, l.map newMS, sp, none, 0, ?_, hbk, by simp; omega, hcc.2, World.ownsRow_nil _ _ _ _, by simp, ?_, by have := HPP.out; omega, hbg, by simp; omega, by simp, h3, h4⟩
        · rw [List.length_map, hlk]; exact HP.out
        · intro i ms s hm hs
          rw [List.getElem?_map, Option.map_eq_some_iff] at hm hs
          obtain ⟨d, hd, rfl⟩ := hm
          obtain ⟨d', hd', rfl⟩ := hs
          rw [hd] at hd'
          cases hd'
          exact ⟨rfl, rfl, rfl, rfl, rfl, ⟨rfl, Nat.le_refl _, Nat.zero_le _, fun _ => rfl, fun i x hx => by simp [newPS] at hx⟩, fun b o sp e => by simp [newMS] at e, fun b o sp e => by simp [newMS] at e, Nat.zero_le _, fun b o sp e => by simp [newMS] at e⟩
      have HMG := Lib.hid hmg
      clear hmg
      go_wp2_with fail
      go_ret2
      refine ⟨by rw [HPP.out]; rfl, ?_, HB.out⟩
      have := HMG.out
      rw [← HPP.out] at this
      exact this
end Go.Proofs.Ytjacebnjmhbcbaa
