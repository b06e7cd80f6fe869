/- The walks of Wants, ahead. -/
import Derived.Test.YtjacebnjmhbcbaaMg3
namespace Go.Proofs.Ytjacebnjmhbcbaa
open Go.RowKit
set_option linter.unusedVariables false

theorem info_int : (Try.prog.info? 3).map (fun i => (i.zero, i.size, i.bytes)) = some (some (.int .i64 0), 1, 8) := by kernel_rfl
theorem wants_nil (w : World) : Calls Try.prog 14 #[.pointer none] w fun e w' => e = .returned (.slice none 0 0) ∧ w = w' := by
  go_enter Try.func14, Try.ntmps14
  go_wp2_with fail
  go_ret
  exact ⟨rfl, rfl⟩
theorem wantK_succ {S : List PS} {k : Nat} {s : PS} (h : S[k]? = some s) : wantK S (k + 1) = wantK S k ++ (if s.wanted = true then [(k : Int)] else []) := by
  unfold wantK
  rw [List.range_succ, List.filter_append, List.map_append]
  congr 1
  cases hw : s.wanted with
  | true => simp [h, hw]
  | false => simp [h, hw]
theorem wantK_len (S : List PS) (k : Nat) : (wantK S k).length ≤ k := by unfold wantK; rw [List.length_map]; exact Nat.le_trans (List.length_filter_le _ _) (by simp)
def WaR (w : World) (S : List PS) (v3 v16 : Value) (wr : World) : Prop := ∃ (i k c2 : Nat) (ao2 : Option Addr), i ≤ S.length ∧ v16 = .int .i64 i ∧ v3 = .slice ao2 k c2 ∧ RowKit.Hid ((wantK S i).length = k) ∧ RowKit.Hid (wr.ownsRow w.heap.size 3 1 (.slice ao2 k c2) k ((wantK S i).map (Value.int .i64))) ∧ RowKit.Hid (Below w.heap.size w wr)
set_option maxRecDepth 100000 in
set_option maxHeartbeats 2000000 in
theorem wants_any (B p : Nat) (n : Int) (S : List PS) (T : List KeyL) (w : World) (h : MG B w p n S T) :
    Calls Try.prog 14 #[.pointer (some ⟨p, 0, none⟩)] w fun e w' => ∃ ao c', e = .returned (.slice ao (wantsP n S T).length c') ∧ w'.ownsRow w.heap.size 3 1 (.slice ao (wantsP n S T).length c') (wantsP n S T).length ((wantsP n S T).map (Value.int .i64)) ∧ Below w.heap.size w w' := by
  obtain ⟨i0, hi, hz0, hz1, hz2⟩ := info_parts info_int
  have HI := Lib.hid hi
  have HZ0 := Lib.hid hz0
  have HZ1 := Lib.hid hz1
  have HZ2 := Lib.hid hz2
  clear hi hz0 hz1 hz2
  have hbd := h.bd
  have HG := Lib.hid h
  have HD := Lib.hid (done_any B p n S T w h)
  have hq1 := fun W => ptr_ne p 0 W
  unfold wantsP
  cases hd : doneP n S T with
  | true =>
    rw [hd] at HD
    rw [if_pos rfl]
    clear h hd hbd
    go_enter Try.func14, Try.ntmps14
    go_wp2_with fail
    refine HD.out.mono ?_
    rintro e w1 ⟨rfl, hb⟩
    have HB := Lib.hid hb
    clear hb HD
    go_wp2_with fail
    go_ret
    exact ⟨none, 0, rfl, World.ownsRow_nil _ _ _ _, HB.out⟩
  | false =>
    rw [hd] at HD
    rw [if_neg (by exact Bool.false_ne_true)]
    clear h hd
    obtain ⟨R, hR⟩ : ∃ R, wantK S S.length = R := ⟨_, rfl⟩
    rw [hR]
    have HR := Lib.hid hR
    clear hR
    obtain ⟨m, hm⟩ : ∃ m, S.length = m := ⟨_, rfl⟩
    have HM := Lib.hid hm
    clear hm
    go_enter Try.func14, Try.ntmps14
    go_wp2_with fail
    refine HD.out.mono ?_
    rintro e w1 ⟨rfl, hb⟩
    have HB := Lib.hid hb
    have hG1 := HG.out.below hb
    obtain ⟨gs, c, M, ta, tc, c0, c1, c2, hml, hMM, hok, hT, hp, hg, hSc⟩ := hG1.read
    rw [HM.out] at c1 hml
    have HMM := Lib.hid hMM
    have HOK := Lib.hid hok
    have HML := Lib.hid hml
    have HC1 := Lib.hid c1
    have hm6 : m ≤ 6 := by have := HM.out; omega
    clear hb HD hG1 hMM hok hml hT c0 c2 hbd hSc
    go_wp2_with fail
    clear c1
    go_loopw [3, 16] (fun v3 v16 wr => WaR w1 S v3 v16 wr) (fun _ v _ => m - (intOf v).toNat)
    case atStart => exact ⟨0, 0, 0, none, Nat.zero_le _, rfl, rfl, rfl, World.ownsRow_nil _ _ _ _, Below.refl _ _⟩
    case round =>
      obtain ⟨i, k, c2, ao2, hi, rfl, rfl, HL, HO, HBB⟩ := hrel
      rw [HM.out] at hi
      have c1 := (HBB.out.cell (p := ⟨p, 1, none⟩) hp).trans HC1.out
      by_cases hlt : i < m
      · obtain ⟨s, hs⟩ : ∃ s, S[i]? = some s := ⟨_, List.getElem?_eq_getElem (show i < S.length by have := HM.out; omega)⟩
        obtain ⟨ms, hms⟩ : ∃ ms, M[i]? = some ms := ⟨_, List.getElem?_eq_getElem (show i < M.length by have := HML.out; omega)⟩
        have hsh := (HMM.out i ms hms).below HBB.out hg
        have hwt := (HOK.out i ms s hms hs).wanted
        have hkl : k ≤ i := by have := wantK_len S i; have := HL.out; omega
        have HSH := Lib.hid hsh
        have HS := Lib.hid hs
        have HWT := Lib.hid hwt
        have hz := HBB.out.size
        clear hsh hs hwt hms
        have k1 : (0 : Int) ≤ (i : Int) := by omega
        have k2 : (i : Int) < (m : Int) := by omega
        go_wp2_with fail
        refine (wanted_any gs (i * 7) ms _ HSH.out).mono ?_
        rintro e w' ⟨rfl, rfl⟩
        rw [HWT.out]
        have HSU := Lib.hid (wantK_succ HS.out)
        cases hsw : s.wanted with
        | false =>
          rw [hsw, if_neg (by exact Bool.false_ne_true), List.append_nil] at HSU
          clear hsw HWT
          go_wp2_with fail
          go_roundw
          case rel => exact ⟨i + 1, k, c2, ao2, by rw [HM.out]; omega, by go_num, rfl, by unfold RowKit.Hid; rw [HSU.out]; exact HL.out, by unfold RowKit.Hid; rw [HSU.out]; exact HO.out, HBB.out⟩
          case measure => simp [intOf]; omega
        | true =>
          rw [hsw, if_pos rfl] at HSU
          clear hsw HWT
          have A1 : k + 1 ≤ maxLen := by unfold maxLen; omega
          have A2 : (k + 1) * 8 ≤ 140737488355328 := by omega
          go_wp2_with (at_builtin; refine wpList_app rfl _ _ 29 29 rfl w1.heap.size 3 i0 (.int .i64 0) 1 8 Try.underlying29 HI.out HZ0.out HZ1.out HZ2.out rfl (by decide) ao2 k c2 ((wantK S i).map (Value.int .i64)) rfl (HO.out.alloc _) _ 1 _ rfl (Src.one' Try.underlying29 wr _ 3 rfl) A1 A2 (by simp; omega) ?_; intro ao3 c3 w5 hown5 hg5; have HO6 := Lib.hid hown5; have HB6 := Lib.hid ((HBB.out.alloc hz _).grown hg5 (by simp; omega) (fun b hb => (HO.out.lt b hb).1)); clear hown5 hg5)
          go_roundw
          case rel => exact ⟨i + 1, k + 1, c3, ao3, by rw [HM.out]; omega, by go_num, rfl, by unfold RowKit.Hid; rw [HSU.out, List.length_append, HL.out]; rfl, by unfold RowKit.Hid; rw [HSU.out, List.map_append]; exact HO6.out, HB6.out⟩
          case measure => simp [intOf]; omega
      · have him : i = m := by omega
        subst him
        clear hlt
        have hrr : wantK S i = R := by rw [← HR.out, HM.out]
        have hl := HL.out
        rw [hrr] at HL HO
        have hkk : R.length = k := HL.out
        subst hkk
        clear HL hl hrr
        go_wp2_with fail
        go_ret
        exact ⟨ao2, c2, rfl, own0 HO.out HB.out.size, HB.out.trans (HBB.out.mono HB.out.size)⟩
end Go.Proofs.Ytjacebnjmhbcbaa
