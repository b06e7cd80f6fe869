/- The document's Wants. -/
import Derived.Test.YtjacebnjmhbcbaaMh0
namespace Go.Proofs.Ytjacebnjmhbcbaa
open Go.RowKit
set_option linter.unusedVariables false

theorem World.alloc_size_le (w : World) (o : Obj) : w.heap.size ≤ (w.alloc o).heap.size := by simp
set_option maxRecDepth 100000 in
set_option maxHeartbeats 2000000 in
theorem rwants_any (q : Nat) (n : Int) (S : List PS) (T : List KeyL) (w : World) (qs c : Nat) (R : List MS) (sp : List Value) (ta : Option Addr) (tc : Nat) (hX : RMx w q n S T qs c R sp ta tc) (hT : (T.length : Int) ≤ n) :
    Calls Try.prog 42 #[.pointer (some ⟨q, 0, none⟩)] w fun e w' => ∃ ao c', e = .returned (.slice ao (wantsP n S T).length c') ∧ w'.ownsRow w.heap.size 3 1 (.slice ao (wantsP n S T).length c') (wantsP n S T).length ((wantsP n S T).map (Value.int .i64)) ∧ Below w.heap.size w w' := by
  obtain ⟨i0, hi, hz0, hz1, hz2⟩ := info_parts info_int
  have HI := Lib.hid hi
  have HZ0 := Lib.hid hz0
  have HZ1 := Lib.hid hz1
  have HZ2 := Lib.hid hz2
  clear hi hz0 hz1 hz2
  have hbd := hX.bd
  have HX := Lib.hid hX
  have HD := Lib.hid (fun (W : World) (hb : Below w.heap.size w W) => rdone_any q n S T W qs c R sp ta tc (hX.below hb) hT)
  have hql := hX.P.lt
  have c0 := hX.c3.1
  unfold wantsP
  cases hd : doneP n S T with
  | true =>
    rw [hd] at HD
    rw [if_pos rfl]
    obtain ⟨m, hm⟩ : ∃ m, S.length = m := ⟨_, rfl⟩
    rw [hm] at c0 hbd
    clear hX hd HX hm
    go_enter Try.func42, Try.ntmps42
    go_wp2_with fail
    go_loopw [3, 4] (fun v3 v4 wr => v3 = .slice none 0 0 ∧ v4 = .int .i64 0 ∧ wr = w) (fun _ v _ => 0)
    case atStart => exact ⟨rfl, rfl, rfl⟩
    case round =>
      obtain ⟨rfl, rfl, rfl⟩ := hrel
      by_cases hm0 : 0 < m
      · have k1 : (0 : Int) < (m : Int) := by omega
        go_wp2_with fail
        refine (HD.out _ (Below.refl _ _)).mono ?_
        rintro e w1 ⟨rfl, hb⟩
        have HB := Lib.hid (hb.below wr.heap.size)
        clear hb
        go_wp2_with fail
        go_ret
        exact ⟨none, 0, rfl, World.ownsRow_nil _ _ _ _, HB.out⟩
      · have h0 : m = 0 := by omega
        subst h0
        go_wp2_with fail
        go_ret
        exact ⟨none, 0, rfl, World.ownsRow_nil _ _ _ _, Below.refl _ _⟩
  | false =>
    rw [hd] at HD
    rw [if_neg (by exact Bool.false_ne_true)]
    clear hX hd
    obtain ⟨Q, hQ⟩ : ∃ Q, wantK S S.length = Q := ⟨_, rfl⟩
    rw [hQ]
    have HR := Lib.hid hQ
    clear hQ
    obtain ⟨m, hm⟩ : ∃ m, S.length = m := ⟨_, rfl⟩
    have HM := Lib.hid hm
    rw [hm] at c0 hbd
    clear hm
    have HC0 := Lib.hid c0
    have hm6 := hbd.1
    clear hbd c0
    go_enter Try.func42, Try.ntmps42
    go_wp2_with fail
    go_loopw [3, 4] (fun v3 v4 wr => WaR w S v3 v4 wr) (fun _ v _ => m - (intOf v).toNat)
    case atStart => exact ⟨0, 0, 0, none, Nat.zero_le _, rfl, rfl, rfl, World.ownsRow_nil _ _ _ _, Below.refl _ _⟩
    case round =>
      obtain ⟨i, k, c2, ao2, hi, rfl, rfl, HL, HO, HBB⟩ := hrel
      rw [HM.out] at hi
      have c0 := (HBB.out.cell (p := ⟨q, 0, none⟩) hql).trans HC0.out
      have k1 : (0 : Int) ≤ (i : Int) := by omega
      by_cases hlt : i < m
      · obtain ⟨ms, s, hms, hs, hsh, hat⟩ := (HX.out.below HBB.out).at (show i < S.length by rw [HM.out]; exact hlt)
        obtain ⟨_, _, y2, _, _, _, y6⟩ := hat.c2
        have hqs := (HX.out.below HBB.out).G.lt
        have hkl : k ≤ i := by have := wantK_len S i; have := HL.out; omega
        have HS := Lib.hid hs
        have hz := HBB.out.size
        have HSU := Lib.hid (wantK_succ hs)
        have hE := hsh.ended
        have hW := hsh.wlen
        have hwn : ms.wn ≤ 5 := by rw [hW]; exact hsh.small
        have HWT : RowKit.Hid (s.wanted = (!ms.ended && decide (ms.wn = 0))) := by unfold RowKit.Hid PS.wanted; rw [hE, hW]
        have k2 : (i : Int) < (m : Int) := by omega
        clear hsh hat hs hms hE hW
        go_wp2_with fail
        refine (HD.out _ HBB.out).mono ?_
        rintro e w1 ⟨rfl, nq, rfl⟩
        have HBB1 := Lib.hid (below_drewN HBB.out nq)
        have HO1 : RowKit.Hid ((wr.drewN nq).ownsRow w.heap.size 3 1 (.slice ao2 k c2) k ((wantK S i).map (Value.int .i64))) := HO.out
        have hz1 : w.heap.size ≤ (wr.drewN nq).heap.size := hz
        clear HBB HO hz
        cases he : ms.ended with
        | true =>
          have hsw : s.wanted = false := by rw [HWT.out, he]; rfl
          rw [hsw, if_neg (by exact Bool.false_ne_true), List.append_nil] at HSU
          rw [he] at y2
          clear hsw HWT he
          go_wp2_with fail
          go_roundw
          case rel => exact ⟨i + 1, k, c2, ao2, by rw [HM.out]; omega, by go_num, rfl, by unfold RowKit.Hid; rw [HSU.out]; exact HL.out, by unfold RowKit.Hid; rw [HSU.out]; exact HO1.out, HBB1.out⟩
          case measure => simp [intOf]; omega
        | false =>
          rw [he] at y2
          by_cases hw : ms.wn = 0
          · have hsw : s.wanted = true := by rw [HWT.out, he]; simp [hw]
            rw [hsw, if_pos rfl] at HSU
            rw [hw] at y6
            clear hsw HWT he hw hwn
            have A1 : k + 1 ≤ maxLen := by unfold maxLen; omega
            have A2 : (k + 1) * 8 ≤ 140737488355328 := by omega
            have A3 : w.heap.size ≤ ((wr.drewN nq).alloc (.cells #[.int .i64 (i : Int)] 3)).heap.size := Nat.le_trans hz1 (World.alloc_size_le _ _)
            go_wp2_with (at_builtin; refine wpList_app rfl _ _ 29 29 rfl w.heap.size 3 i0 (.int .i64 0) 1 8 Try.underlying29 HI.out HZ0.out HZ1.out HZ2.out rfl (by decide) ao2 k c2 ((wantK S i).map (Value.int .i64)) rfl (HO1.out.alloc _) _ 1 _ rfl (Src.one' Try.underlying29 (wr.drewN nq) _ 3 rfl) A1 A2 A3 ?_; intro ao3 c3 w5 hown5 hg5; have HO6 := Lib.hid hown5; have HB6 := Lib.hid ((HBB1.out.alloc hz1 _).grown hg5 A3 (fun b hb => (HO1.out.lt b hb).1)); clear hown5 hg5)
            go_roundw
            case rel => exact ⟨i + 1, k + 1, c3, ao3, by rw [HM.out]; omega, by go_num, rfl, by unfold RowKit.Hid; rw [HSU.out, List.length_append, HL.out]; rfl, by unfold RowKit.Hid; rw [HSU.out, List.map_append]; exact HO6.out, HB6.out⟩
            case measure => simp [intOf]; omega
          · have hsw : s.wanted = false := by rw [HWT.out, he]; simp [hw]
            rw [hsw, if_neg (by exact Bool.false_ne_true), List.append_nil] at HSU
            have d1 : ((ms.wn : Int) == 0) = false := by rw [beq_eq_false_iff_ne]; omega
            clear hsw HWT he
            go_wp2_with fail
            go_roundw
            case rel => exact ⟨i + 1, k, c2, ao2, by rw [HM.out]; omega, by go_num, rfl, by unfold RowKit.Hid; rw [HSU.out]; exact HL.out, by unfold RowKit.Hid; rw [HSU.out]; exact HO1.out, HBB1.out⟩
            case measure => simp [intOf]; omega
      · have him : i = m := by omega
        subst him
        clear hlt
        have hrr : wantK S i = Q := by rw [← HR.out, HM.out]
        have hl := HL.out
        rw [hrr] at HL HO
        have hkk : Q.length = k := HL.out
        subst hkk
        clear HL hl hrr
        go_wp2_with fail
        go_ret
        exact ⟨ao2, c2, rfl, HO.out, HBB.out⟩
end Go.Proofs.Ytjacebnjmhbcbaa
