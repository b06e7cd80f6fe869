/- The walks of heap.Pop. -/
import Derived.Test.YtjdanngkmkgidaaTm7
namespace Go.Proofs.Ytjdanngkmkgidaa
open Go.RowKit
set_option linter.unusedVariables false

theorem set_same {cs : List Value} {k : Nat} {v : Value} (h : cs[k]? = some v) : cs.set k v = cs := by
  apply List.ext_getElem?
  intro q
  rw [List.getElem?_set]
  split
  · rename_i e
    subst e
    have := (List.getElem?_eq_some_iff.1 h).1
    rw [if_pos this, h]
  · rfl
theorem HB.set_same {w : World} {g n : Nat} {f : Nat → One} {sp : List Value} (h : HB w g n f sp) {i : Nat} (hi : i < n) : HB ((w.setCell ⟨g, i * 2, none⟩ (.int .i64 (f i).1)).setCell ⟨g, i * 2 + 1, none⟩ (.int .i64 (f i).2)) g n f sp := by
  have c0 := h.c0 hi
  have c1 := h.c1 hi
  unfold HB at h ⊢
  rw [h.cell] at c0 c1
  have := (h.set (i * 2) (.int .i64 (f i).1)).set (i * 2 + 1) (.int .i64 (f i).2)
  rw [Go.Proofs.Ytjdanngkmkgidaa.set_same c0, Go.Proofs.Ytjdanngkmkgidaa.set_same c1] at this
  exact this
theorem swapF_self (f : Nat → One) (i : Nat) : swapF f i i = f := by
  funext k
  unfold swapF
  split
  · rename_i e; rw [e]
  · rfl
set_option maxRecDepth 100000 in
set_option maxHeartbeats 2000000 in
theorem mswap_eq (g n c i : Nat) (f : Nat → One) (sp : List Value) (w : World) (h : HB w g n f sp) (hi : i < n) (hn : n ≤ 1000) :
    Calls Try.prog 99 #[.slice (some ⟨g, 0, none⟩) n c, .int .i64 i, .int .i64 i] w fun e w' => e = .returned (.tuple #[]) ∧ HB w' g n f sp ∧ w.grownBy w' (some g) := by
  have x0 := h.c0 hi
  have x1 := h.c1 hi
  have fz : ∀ k, w.frozen? ⟨g, k, none⟩ = false := fun k => h.frozen k
  have HH := Lib.hid ((h.set_same hi).set_same hi)
  generalize f i = x at *
  clear h
  go_enter Try.func99, Try.ntmps99
  go_wp2_with fail
  go_region
  all_goals go_end0
  all_goals
    refine ⟨rfl, HH.out, ?_⟩
    have h4 := grownBy_trans (grownBy_trans (grownBy_trans (grown_set w g (i * 2) (.int .i64 x.1)) (grown_set _ g (i * 2 + 1) (.int .i64 x.2))) (grown_set _ g (i * 2) (.int .i64 x.1))) (grown_set _ g (i * 2 + 1) (.int .i64 x.2))
    exact ⟨h4.os, h4.tape, h4.output, h4.size, h4.block⟩
theorem mswap_all (g n c i j : Nat) (f : Nat → One) (sp : List Value) (w : World) (h : HB w g n f sp) (hi : i < n) (hj : j < n) (hn : n ≤ 1000) :
    Calls Try.prog 99 #[.slice (some ⟨g, 0, none⟩) n c, .int .i64 i, .int .i64 j] w fun e w' => e = .returned (.tuple #[]) ∧ HB w' g n (swapF f i j) sp ∧ w.grownBy w' (some g) := by
  by_cases hij : i = j
  · subst hij
    rw [swapF_self]
    exact mswap_eq g n c i f sp w h hi hn
  · exact mswap_any g n c i j f sp w h hi hj hn hij
theorem downF_out : ∀ (q : Nat) (f : Nat → One) (i n k : Nat), n ≤ k → (downF q f i n).1 k = f k
  | 0, f, i, n, k, h => rfl
  | q + 1, f, i, n, k, h => by
    unfold downF
    split
    · rfl
    · rename_i hn
      obtain ⟨_, h2, _, h4, _⟩ := childF_cases f i n (by omega)
      split
      · rfl
      · rw [downF_out q _ _ n k h, swapF_o _ _ _ _ (by omega) (by omega)]
theorem VO.frmBack {w w' : World} {p o : Nat} {T : TypeId} {cs : List Value} {g n c : Nat} {f f' : Nat → One} {sp : List Value} (h : VO w p o T cs (some ⟨g, 0, none⟩) n c f) (hpg : p ≠ g) (hb : HB w' g n f' sp) (hsp : sp.length + n * 2 = c * 2) (hnc : n ≤ c) (hcm : c ≤ maxLen) (hg : w.grownBy w' (some g)) : VO w' p o T cs (some ⟨g, 0, none⟩) n c f' :=
  VO.mk_ (h.blk.frm (Frm.grown (S := fun k => k = g) hg (fun g h => (Option.some.inj h).symm)) hpg) h.var hb hsp hnc hcm h.ty
set_option maxRecDepth 100000 in
set_option maxHeartbeats 2000000 in
theorem hpop_any (p o g n c : Nat) (T : TypeId) (cs : List Value) (f : Nat → One) (w : World) (h : VO w p o T cs (some ⟨g, 0, none⟩) (n + 1) c f) (hn : n ≤ 999) :
    Calls Try.prog 40 #[.iface 83 (.pointer (some ⟨p, o, none⟩))] w fun e w' => e = .returned (.iface 81 (.agg #[.int .i64 (f 0).1, .int .i64 (f 0).2])) ∧ VO w' p o T (cs.set o (.slice (some ⟨g, 0, none⟩) n c)) (some ⟨g, 0, none⟩) n c (downF n (swapF f 0 n) 0 n).1 ∧ Frm (fun k => k = p ∨ k = g) w w' := by
  obtain ⟨g1, sp, hg1, hb, hsp, hnc, hcm, hpg⟩ := h.open_ (Nat.succ_pos n)
  simp only [Option.some.injEq, Addr.mk.injEq, and_true] at hg1
  subst hg1
  have hml := m_len h.cell
  have hMH : MH w p o g (n + 1) c f sp := ⟨h.cell, hb, hpg, h.blk.lt⟩
  have hol : o < cs.length := (List.getElem?_eq_some_iff.1 h.var).1
  have HMH := Lib.hid hMH
  have HV := Lib.hid h
  have HSP := Lib.hid hsp
  have HCM := Lib.hid hcm
  clear h hb hMH hsp hcm
  have k1 : IntKind.i64.wrap (n : Int) = n := IntWalk.i64_in _ (by omega)
  have k2 : (0 : Int) ≤ n := by omega
  have hmp := m_pop ⟨p, o, none⟩
  go_enter Try.func40, Try.ntmps40
  go_wp2_with fail
  refine (mlen_any _ _ _ _).mono ?_
  rintro e w' ⟨rfl, rfl⟩
  have hms := m_swap HMH.out.1
  clear hml
  go_wp2_with fail
  refine (mswap_all g (n + 1) c 0 n f sp _ HMH.out.2.1 (by omega) (by omega) (by omega)).mono ?_
  rintro e w1 ⟨rfl, hb, hg⟩
  have HM1 := Lib.hid (HMH.out.grown hg hb)
  have HG1 := Lib.hid hg
  clear hb hg hms
  go_wp2_with fail
  refine (down_any p o g (n + 1) c 0 n (swapF f 0 n) sp _ HM1.out (by omega) (by omega) (by omega)).mono ?_
  rintro e w2 ⟨rfl, hM2, hG2⟩
  have HM2 := Lib.hid hM2
  have HG2 := Lib.hid (grownBy_trans HG1.out hG2)
  clear hM2 hG2 HG1 HM1
  go_wp2_with fail
  have hV2 := HV.out.frmBack hpg HM2.out.2.1 HSP.out hnc HCM.out HG2.out
  refine (mpop_any p o g n c T cs _ sp _ hV2.blk hV2.var HM2.out.2.1 hpg hnc (by omega)).mono ?_
  rintro e w3 ⟨rfl, hB3, hF3⟩
  rw [downF_out _ _ _ _ _ (Nat.le_refl n), swapF_j]
  have HV2 := Lib.hid hV2
  have HB3 := Lib.hid hB3
  have HF3 := Lib.hid hF3
  clear hV2 hB3 hF3
  go_wp2_with fail
  go_ret
  refine ⟨rfl, ?_, ?_⟩
  · have h3 := HB_last HM2.out.2.1
    exact VO.mk_ HB3.out (by rw [List.getElem?_set_self (by omega)]) (h3.frm HF3.out (fun e => hpg e.symm)) (by have := HSP.out; simp [oneCells]; omega) (by omega) HCM.out HV.out.ty
  · exact (Frm.grown (S := fun k => k = p ∨ k = g) HG2.out (fun k h => .inr (Option.some.inj h).symm)).trans HF3.out (fun i h _ => .inl h)
end Go.Proofs.Ytjdanngkmkgidaa
