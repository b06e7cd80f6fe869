/- The walks of heap.Push, heap.Fix. -/
import Derived.Test.YtjdanngkmkgidaaTm6
namespace Go.Proofs.Ytjdanngkmkgidaa
open Go.RowKit
set_option linter.unusedVariables false

def putF (f : Nat → One) (n : Nat) (x : One) : Nat → One := fun k => if k = n then x else f k
theorem putF_eq (f : Nat → One) (n : Nat) (x : One) : putF f n x n = x := by simp [putF]
theorem putF_ne (f : Nat → One) (n k : Nat) (x : One) (h : k ≠ n) : putF f n x k = f k := by simp [putF, h]
theorem fl_put (f : Nat → One) (n : Nat) (x : One) : fl n f ++ oneCells x = fl (n + 1) (putF f n x) := by
  rw [fl_succ, putF_eq, fl_congr n (putF f n x) f (fun k hk => putF_ne _ _ _ _ (by omega))]
/-- what a variable that holds some pairs is, as blocks -/
theorem VO.open_ {w : World} {p o : Nat} {T : TypeId} {cs : List Value} {ao : Option Addr} {n c : Nat} {f : Nat → One} (h : VO w p o T cs ao n c f) (hn : 0 < n) :
    ∃ g sp, ao = some ⟨g, 0, none⟩ ∧ HB w g n f sp ∧ sp.length + n * 2 = c * 2 ∧ n ≤ c ∧ c ≤ maxLen ∧ p ≠ g := by
  obtain ⟨hp, ho, hown, hT⟩ := h
  obtain ⟨g, cap, hv, hb, hlt⟩ := hown.form hn
  simp only [Value.slice.injEq, true_and] at hv
  obtain ⟨rfl, rfl⟩ := hv
  obtain ⟨sp, h1, h2⟩ := ownsRow_blk hown
  have hne := ownsRow_ne hown hp hT g rfl
  rcases hown.2 with ⟨h', _⟩ | ⟨g', cap', cur, h', _, _, hnc, hmx, _, _⟩
  · simp at h'
  · simp only [Value.slice.injEq] at h'
    obtain ⟨_, _, rfl⟩ := h'
    exact ⟨g, sp, rfl, h2, h1, hnc, hmx, fun e => hne e.symm⟩
theorem VO.mk_ {w : World} {p o : Nat} {T : TypeId} {cs : List Value} {g n c : Nat} {f : Nat → One} {sp : List Value} (hp : Blk w p T cs) (ho : cs[o]? = some (.slice (some ⟨g, 0, none⟩) n c)) (hb : HB w g n f sp) (hl : sp.length + n * 2 = c * 2) (hn : n ≤ c) (hc : c ≤ maxLen) (hT : T ≠ 81) : VO w p o T cs (some ⟨g, 0, none⟩) n c f := by
  refine ⟨hp, ho, ⟨fl_len n f, .inr ⟨g, c, ((fl n f) ++ sp).toArray, rfl, Nat.zero_le _, hb, hn, hc, ?_, ?_⟩⟩, hT⟩
  · simp [fl_len]; omega
  · simp [fl_len]
theorem VO.cell {w : World} {p o : Nat} {T : TypeId} {cs : List Value} {ao : Option Addr} {n c : Nat} {f : Nat → One} (h : VO w p o T cs ao n c f) : w.cell? ⟨p, o, none⟩ = some (.slice ao n c) := by rw [h.blk.cell, h.var]
set_option maxRecDepth 100000 in
set_option maxHeartbeats 2000000 in
theorem hpush_any (p o n c : Nat) (T : TypeId) (cs : List Value) (ao : Option Addr) (f : Nat → One) (x : One) (w : World) (h : VO w p o T cs ao n c f) (hn : n ≤ 999) :
    Calls Try.prog 38 #[.iface 83 (.pointer (some ⟨p, o, none⟩)), .iface 81 (.agg #[.int .i64 x.1, .int .i64 x.2])] w fun e w' => ∃ g' c', e = .returned (.tuple #[]) ∧ VO w' p o T (cs.set o (.slice (some ⟨g', 0, none⟩) (n + 1 : Nat) c')) (some ⟨g', 0, none⟩) (n + 1) c' (upF n (putF f n x) n) ∧ Frm (fun k => k = p ∨ (Value.slice ao n c).ownBlock = some k) w w' ∧ ((Value.slice ao n c).ownBlock = some g' ∨ w.heap.size ≤ g') := by
  have hm := m_push ⟨p, o, none⟩
  have HV := Lib.hid h
  clear h
  go_enter Try.func38, Try.ntmps38
  go_wp2_with fail
  refine (mpush_any p o n c T cs ao f x _ HV.out hn).mono ?_
  rintro e w1 ⟨g', c', rfl, hP1, hO1, hF1, hl1⟩
  rw [fl_put] at hO1
  have hol : o < cs.length := (List.getElem?_eq_some_iff.1 HV.out.var).1
  have hV1 : VO w1 p o T (cs.set o (.slice (some ⟨g', 0, none⟩) (n + 1 : Nat) c')) (some ⟨g', 0, none⟩) (n + 1) c' (putF f n x) := ⟨hP1, by rw [List.getElem?_set_self (by omega)], hO1, HV.out.ty⟩
  obtain ⟨g1, sp, hg1, hb1, hsp, hnc, hcm, hpg⟩ := hV1.open_ (Nat.succ_pos n)
  simp only [Option.some.injEq, Addr.mk.injEq, and_true] at hg1
  subst hg1
  have hml := m_len hV1.cell
  have hMH : MH w1 p o g' (n + 1) c' (putF f n x) sp := ⟨hV1.cell, hb1, hpg, hP1.lt⟩
  have HMH := Lib.hid hMH
  have HV1 := Lib.hid hV1
  have HF1 := Lib.hid hF1
  have HL1 := Lib.hid hl1
  have HSP := Lib.hid hsp
  have HCM := Lib.hid hcm
  clear hm hP1 hO1 hF1 hl1 hV1 hb1 hMH hsp hcm
  have k1 : IntKind.i64.wrap (n : Int) = n := IntWalk.i64_in _ (by omega)
  have k2 : (0 : Int) ≤ n := by omega
  go_wp2_with fail
  refine (mlen_any _ _ _ _).mono ?_
  rintro e w' ⟨rfl, rfl⟩
  clear hml
  go_wp2_with fail
  refine (up_any p o g' (n + 1) c' n (putF f n x) sp _ HMH.out (by omega) (by omega)).mono ?_
  rintro e w2 ⟨rfl, hM2, hG2⟩
  have HM2 := Lib.hid hM2
  have HG2 := Lib.hid hG2
  clear hM2 hG2
  go_wp2_with fail
  go_end0
  refine ⟨g', c', rfl, ?_, ?_, HL1.out⟩
  · have hb2 := HV1.out.blk.frm (Frm.grown (S := fun k => k = g') HG2.out (fun g h => (Option.some.inj h).symm)) hpg
    exact VO.mk_ hb2 HV1.out.var HM2.out.2.1 HSP.out (by omega) HCM.out HV1.out.ty
  · refine HF1.out.trans (Frm.grown (S := fun k => k = g') HG2.out (fun g h => (Option.some.inj h).symm)) (fun i h hi => ?_)
    subst h
    rcases HL1.out with h | h
    · exact .inr h
    · omega
end Go.Proofs.Ytjdanngkmkgidaa
