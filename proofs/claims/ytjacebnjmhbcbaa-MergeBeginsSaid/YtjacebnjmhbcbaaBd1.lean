/- band.Within. -/
import Derived.Test.YtjacebnjmhbcbaaBd0
import Derived.Test.YtjacebnjmhbcbaaEdit1
import Derived.Deep.DeepCutAuto
namespace Go.Proofs.Ytjacebnjmhbcbaa
open Go.RowKit
set_option linter.unusedVariables false

theorem run_min_int4 {P : Program} {w : World} (ts : Array TypeId) (t : TypeId) (k k' k2 k3 : IntKind) (x y z u : Int) : (Builtin.min_ ts t #[.int k x, .int k' y, .int k2 z, .int k3 u]).run P w = .ok (.int k (if u < (if z < (if y < x then y else x) then z else (if y < x then y else x)) then u else (if z < (if y < x then y else x) then z else (if y < x then y else x)))) w := by
  simp [Builtin.min_, Builtin.min2]
attribute [local go_sem] run_min_int4
def rowI (R : Nat → Int) (m : Nat) : List Value := (List.range m).map fun j => Value.int .i64 (R j)
theorem rowI_get (R : Nat → Int) {m j : Nat} (h : j < m) : (rowI R m)[j]? = some (.int .i64 (R j)) := by unfold rowI; rw [List.getElem?_map, List.getElem?_range h]; rfl
theorem rowI_set (R : Nat → Int) (m j : Nat) (x : Int) : (rowI R m).set j (.int .i64 x) = rowI (setR R j x) m := by
  apply List.ext_getElem?
  intro q
  rw [List.getElem?_set]
  by_cases hq : q < m
  · by_cases e : j = q
    · subst e; rw [if_pos rfl, if_pos (by simp [rowI]; exact hq), rowI_get _ hq, setR_eq]
    · rw [if_neg e, rowI_get _ hq, rowI_get _ hq, setR_ne _ _ (fun e2 => e e2.symm)]
  · have h1 : (rowI R m).length = m := by simp [rowI]
    rw [List.getElem?_eq_none (l := rowI (setR R j x) m) (by simp [rowI]; omega)]
    split
    · rw [if_neg (by omega)]
    · rw [List.getElem?_eq_none (by omega)]
def BkR (w : World) (g m : Nat) (R : Nat → Int) : Prop := Blk w g 3 (rowI R m)
theorem BkR.cell {w : World} {g m : Nat} {R : Nat → Int} (h : BkR w g m R) {j : Nat} (hj : j < m) : w.cell? ⟨g, j, none⟩ = some (.int .i64 (R j)) := by rw [Blk.cell h, rowI_get _ hj]
theorem BkR.set {w : World} {g m : Nat} {R : Nat → Int} (h : BkR w g m R) (j : Nat) (x : Int) : BkR (w.setCell ⟨g, j, none⟩ (.int .i64 x)) g m (setR R j x) := by
  unfold BkR; rw [← rowI_set]; exact Blk.set h j _
def WiA (w : World) (m : Nat) (far : Int) (v53 : Value) (wr : World) : Prop := ∃ (j : Nat) (R : Nat → Int), j ≤ m ∧ v53 = .int .i64 j ∧ RowKit.Hid (∀ q, q < j → R q = capI far (q : Int)) ∧ RowKit.Hid (BkR wr w.heap.size m R) ∧ RowKit.Hid (Below w.heap.size w wr)
def WiB (w : World) (la lb : List Int) (K : Nat) (v65 : Value) (wr : World) : Prop := ∃ (i : Nat) (R : Nat → Int), i ≤ la.length ∧ v65 = .int .i64 i ∧ RowKit.Hid (BdOK la lb K i R) ∧ RowKit.Hid (BkR wr w.heap.size (lb.length + 1) R) ∧ RowKit.Hid (Below w.heap.size w wr)
def WiC (w : World) (la lb : List Int) (K i f N : Nat) (v14 v102 : Value) (wr : World) : Prop := ∃ (c : Nat) (R : Nat → Int) (was : Int), c ≤ N ∧ v102 = .int .i64 c ∧ v14 = .int .i64 was ∧ RowKit.Hid (was = capI ((K : Int) + 1) (Dm la lb i (f + c - 1))) ∧ RowKit.Hid (MdOK la lb K i (f + c) R) ∧ RowKit.Hid (BkR wr w.heap.size (lb.length + 1) R) ∧ RowKit.Hid (Below w.heap.size w wr)
set_option maxRecDepth 100000 in
theorem within_no (a : Option Addr) (n cap : Nat) (la : List Int) (b : Option Addr) (m bc : Nat) (lb : List Int) (k : Int) (w : World) (ha : RdR w a n cap la) (hb : RdR w b m bc lb) (h1 : la.length ≤ 1000) (h2 : lb.length ≤ 1000) (hk : k < 0 ∨ k < (la.length : Int) - lb.length ∨ k < (lb.length : Int) - la.length) :
    Calls Try.prog 65 #[.slice a n cap, .slice b m bc, .int .i64 k] w fun e w' => e = .returned (.tuple #[.int .i64 0, .bool false]) ∧ w = w' := by
  have hn := ha.len
  subst hn
  have hn := hb.len
  subst hn
  clear ha hb
  obtain ⟨d, hd⟩ : ∃ d : Int, (la.length : Int) - lb.length = d := ⟨_, rfl⟩
  obtain ⟨d', hd'⟩ : ∃ d : Int, (lb.length : Int) - la.length = d := ⟨_, rfl⟩
  have w1 : IntKind.i64.wrap ((la.length : Int) - lb.length) = d := by rw [IntWalk.i64_in _ (by omega)]; exact hd
  have w2 : IntKind.i64.wrap ((lb.length : Int) - la.length) = d' := by rw [IntWalk.i64_in _ (by omega)]; exact hd'
  by_cases k0 : k < 0
  · clear hk hd hd'
    go_enter Try.func65, Try.ntmps65
    go_wp2_with fail
    go_ret2
    exact ⟨rfl, rfl⟩
  · have k0' : decide (k < 0) = false := by simpa using k0
    by_cases k1 : k < d
    · clear hk hd hd'
      go_enter Try.func65, Try.ntmps65
      go_wp2_with fail
      go_ret2
      exact ⟨rfl, rfl⟩
    · have k1' : decide (k < d) = false := by simpa using k1
      have k2 : k < d' := by omega
      clear hk hd hd'
      go_enter Try.func65, Try.ntmps65
      go_wp2_with fail
      go_ret2
      exact ⟨rfl, rfl⟩
set_option maxRecDepth 100000 in
set_option maxHeartbeats 8000000 in
theorem within_any (a : Option Addr) (n cap : Nat) (la : List Int) (b : Option Addr) (m bc : Nat) (lb : List Int) (k : Int) (w : World) (ha : RdR w a n cap la) (hb : RdR w b m bc lb) (h1 : la.length ≤ 1000) (h2 : lb.length ≤ 1000) :
    Calls Try.prog 65 #[.slice a n cap, .slice b m bc, .int .i64 k] w fun e w' => e = .returned (.tuple #[.int .i64 (nearL la lb k).1, .bool (nearL la lb k).2]) ∧ Below w.heap.size w w' := by
  by_cases hk : k < 0 ∨ k < (la.length : Int) - lb.length ∨ k < (lb.length : Int) - la.length
  · have e : nearL la lb k = (0, false) := by
      rcases hk with h | h | h
      · exact nearL_no3 h
      · exact nearL_no1 h
      · exact nearL_no2 h
    rw [e]
    exact (within_no a n cap la b m bc lb k w ha hb h1 h2 hk).mono fun e w' ⟨h1, h2⟩ => by subst h2; exact ⟨h1, Below.refl _ _⟩
  obtain ⟨⟨n1, n2⟩, hNL⟩ : ∃ x, nearL la lb k = x := ⟨_, rfl⟩
  rw [hNL]
  have HNL := Lib.hid hNL
  clear hNL
  have hn := ha.len
  subst hn
  have hn := hb.len
  subst hn
  obtain ⟨i0, hi, hz0, hz1, hz2⟩ := info_parts infoI
  have HI := Lib.hid hi
  have HZ0 := Lib.hid hz0
  have HZ1 := Lib.hid hz1
  have HZ2 := Lib.hid hz2
  have HA := Lib.hid ha
  have HBB := Lib.hid hb
  have hcap := ha.2.1
  have hcap2 := hb.2.1
  have k0 : 0 ≤ k := by omega
  obtain ⟨d, hd⟩ : ∃ d : Int, (la.length : Int) - lb.length = d := ⟨_, rfl⟩
  obtain ⟨d', hd'⟩ : ∃ d : Int, (lb.length : Int) - la.length = d := ⟨_, rfl⟩
  have w1 : IntKind.i64.wrap ((la.length : Int) - lb.length) = d := by rw [IntWalk.i64_in _ (by omega)]; exact hd
  have w2 : IntKind.i64.wrap ((lb.length : Int) - la.length) = d' := by rw [IntWalk.i64_in _ (by omega)]; exact hd'
  have e0 : decide (k < 0) = false := by simp; omega
  have e1 : decide (k < d) = false := by simp; omega
  have e2 : decide (k < d') = false := by simp; omega
  obtain ⟨S, hS⟩ : ∃ S : Int, (la.length : Int) + lb.length = S := ⟨_, rfl⟩
  have w3 : IntKind.i64.wrap ((la.length : Int) + lb.length) = S := by rw [IntWalk.i64_in _ (by omega)]; exact hS
  obtain ⟨K, hK⟩ : ∃ K : Nat, (if S < k then S else k) = (K : Int) := ⟨(if S < k then S else k).toNat, by split <;> omega⟩
  have HK := Lib.hid (show (K : Int) = (if (la.length : Int) + lb.length < k then (la.length : Int) + lb.length else k) from by rw [hS, hK])
  have hK1 : K ≤ 2000 := by split at hK <;> omega
  have hKa : la.length ≤ lb.length + K := by split at hK <;> omega
  have hKb : lb.length ≤ la.length + K := by split at hK <;> omega
  obtain ⟨far, hfar⟩ : ∃ far : Int, (K : Int) + 1 = far := ⟨_, rfl⟩
  have w4 : IntKind.i64.wrap ((K : Int) + 1) = far := by rw [IntWalk.i64_in _ (by omega)]; exact hfar
  have hf1 : 1 ≤ far := by omega
  have hf2 : far ≤ 2001 := by omega
  have HFAR := Lib.hid hfar
  clear hi hz0 hz1 hz2 ha hb hk hd hd' hS hfar
  go_enter Try.func65, Try.ntmps65
  go_wp2_with (at_make; refine wpList_make_full w rfl _ _ 29 rfl w.heap.size 3 i0 (.int .i64 0) 1 Try.underlying29 HI.out HZ0.out HZ1.out .i64 .i64 _ _ (lb.length + 1) rfl rfl (by omega) (by omega) (by rw [HZ2.out]; omega) (by unfold maxLen; omega) (Nat.le_refl _) ?_; intro wb hown1 hg1; have HO1 := Lib.hid (blk_full hown1); have HW1 := Lib.hid ((Below.refl w.heap.size w).grown hg1 (Nat.le_refl _) (fun k hk => by cases hk)); clear hown1 hg1)
  have HM1 : RowKit.Hid (BkR wb w.heap.size (lb.length + 1) (fun _ => 0)) := by
    have := HO1.out
    rw [show (Value.int .i64 0).cells = #[.int .i64 0] from rfl, Nat.mul_one, toList_madeCells_one] at this
    have e : rowI (fun _ => 0) (lb.length + 1) = List.replicate (lb.length + 1) (.int .i64 0) := by
      unfold rowI; rw [List.map_const', List.length_range]
    unfold RowKit.Hid BkR; rw [e]; exact this
  clear HO1 w1 w2 w3 e0 e1 e2 hK
  go_loopw [53] (fun v53 wr => WiA w (lb.length + 1) far v53 wr) (fun v _ => lb.length + 1 - (intOf v).toNat)
  case atStart => exact ⟨0, _, by omega, rfl, fun q hq => by omega, HM1.out, HW1.out⟩
  case round =>
    clear HM1 HW1
    obtain ⟨j, R, hj, rfl, HR, HM, HW⟩ := hrel
    by_cases hlt : j < lb.length + 1
    · obtain ⟨c, hc⟩ : ∃ c, (if far < (j : Int) then far else (j : Int)) = c := ⟨_, rfl⟩
      have HC := Lib.hid (show c = capI far (j : Int) from hc.symm)
      have c0 := HM.out.cell hlt
      have f0 : wr.frozen? ⟨w.heap.size, j, none⟩ = false := Blk.frozen HM.out j
      have HM2 := Lib.hid (HM.out.set j c)
      have HW2 := Lib.hid (HW.out.setCell (p := ⟨w.heap.size, j, none⟩) (Nat.le_refl _) (.int .i64 c))
      have HR2 := Lib.hid (show ∀ q, q < j + 1 → setR R j c q = capI far (q : Int) from fun q hq => by
        by_cases e : q = j
        · rw [e, setR_eq, HC.out]
        · rw [setR_ne _ _ e]; exact HR.out q (by omega))
      generalize R j = r0 at c0
      go_wp2_with fail
      clear hc
      go_roundw
      case rel => exact ⟨j + 1, setR R j c, by omega, by go_num, HR2.out, HM2.out, HW2.out⟩
      case measure => simp [intOf]; omega
    · obtain rfl : j = lb.length + 1 := by omega
      have HBD := Lib.hid (show BdOK la lb K 0 R from BdOK.zero fun q hq => by rw [HFAR.out]; exact HR.out q (by omega))
      clear HR hlt
      go_wp2_with fail
      obtain ⟨wo, rfl⟩ : ∃ wo : World, wo = wr := ⟨_, rfl⟩
      go_loopw [65] (fun v65 wr => WiB w la lb K v65 wr) (fun v _ => la.length - (intOf v).toNat)
      case atStart => exact ⟨0, R, by omega, rfl, HBD.out, HM.out, HW.out⟩
      case round =>
        clear HBD HM HW
        obtain ⟨i, R, hi, rfl, HBD, HM, HW⟩ := hrel
        by_cases hlt : i < la.length
        · obtain ⟨i1, hi1⟩ : ∃ i1, i + 1 = i1 := ⟨_, rfl⟩
          have wi : IntKind.i64.wrap ((i : Int) + 1) = (i1 : Int) := by rw [IntWalk.i64_in _ (by omega)]; omega
          obtain ⟨q, hq⟩ : ∃ q : Int, (i1 : Int) - (K : Int) = q := ⟨_, rfl⟩
          have wq : IntKind.i64.wrap ((i1 : Int) - (K : Int)) = q := by rw [IntWalk.i64_in _ (by omega)]; exact hq
          obtain ⟨f, hf⟩ : ∃ f : Nat, (if q < 1 then 1 else q) = (f : Int) := ⟨(if q < 1 then 1 else q).toNat, by split <;> omega⟩
          obtain ⟨e, he⟩ : ∃ e : Int, (i1 : Int) + (K : Int) = e := ⟨_, rfl⟩
          have we : IntKind.i64.wrap ((i1 : Int) + (K : Int)) = e := by rw [IntWalk.i64_in _ (by omega)]; exact he
          obtain ⟨t, ht⟩ : ∃ t : Nat, (if (lb.length : Int) < e then (lb.length : Int) else e) = (t : Int) := ⟨(if (lb.length : Int) < e then (lb.length : Int) else e).toNat, by split <;> omega⟩
          have f1 : 1 ≤ f := by split at hf <;> omega
          have f2 : i + 1 ≤ f + K := by split at hf <;> omega
          have f3 : f = 1 ∨ f + K = i + 1 := by split at hf <;> omega
          have t1 : t ≤ lb.length := by split at ht <;> omega
          have t2 : t = lb.length ∨ t = i + 1 + K ∧ t < lb.length := by split at ht <;> omega
          have t2' := t2
          have t3 : f ≤ t + 1 := by split at ht <;> omega
          have t4 : t ≤ i + 1 + K := by split at ht <;> omega
          obtain ⟨fp, hfp⟩ : ∃ fp, f - 1 = fp := ⟨_, rfl⟩
          have wf : IntKind.i64.wrap ((f : Int) - 1) = (fp : Int) := by rw [IntWalk.i64_in _ (by omega)]; omega
          obtain ⟨tf, htf⟩ : ∃ tf : Int, (t : Int) - (f : Int) = tf := ⟨_, rfl⟩
          have wt : IntKind.i64.wrap ((t : Int) - (f : Int)) = tf := by rw [IntWalk.i64_in _ (by omega)]; exact htf
          obtain ⟨N, hN⟩ : ∃ N, t + 1 - f = N := ⟨_, rfl⟩
          have wN : IntKind.i64.wrap (tf + 1) = (N : Int) := by rw [IntWalk.i64_in _ (by omega)]; omega
          have cf := HM.out.cell (j := fp) (by omega)
          have ff : wr.frozen? ⟨w.heap.size, fp, none⟩ = false := Blk.frozen HM.out fp
          have HWAS := Lib.hid (show R fp = capI far (Dm la lb i fp) from by rw [← HFAR.out]; exact HBD.out fp (by omega) (by omega) (by omega))
          have HM2 := Lib.hid (HM.out.set fp far)
          have HW2 := Lib.hid (HW.out.setCell (p := ⟨w.heap.size, fp, none⟩) (Nat.le_refl _) (.int .i64 far))
          have hst := MdOK.start HBD.out hlt f1 f2 f3
          rw [hfp, HFAR.out] at hst
          have HST := Lib.hid hst
          have hfN1 : f + N ≤ t + 1 := by omega
          have hfN2 : t + 1 ≤ f + N := by omega
          have HFN := Lib.hid (And.intro hfN1 hfN2)
          have hfp1 : fp + 1 ≤ f := by omega
          have hfp2 : f ≤ fp + 1 := by omega
          have bfp : fp < lb.length + 1 := by omega
          have bfp2 : (fp : Int) < (lb.length : Int) + 1 := by omega
          have hi11 : i1 ≤ i + 1 := by omega
          have hi12 : i + 1 ≤ i1 := by omega
          have HFP := Lib.hid hfp
          have HI1 := Lib.hid hi1
          obtain ⟨was, hwas⟩ : ∃ x, R fp = x := ⟨_, rfl⟩
          rw [hwas] at cf HWAS
          clear hst hq he htf hN hfp hi1 hwas f3 t2 hfN1 hfN2
          have HT2 := Lib.hid t2'
          clear t2'
          go_upto_region 15 with fail
          clear hf ht
          by_cases hf0 : f = 1
          all_goals first
           | (have hff1 : f = 1 := by assumption
              have hff : ((f : Int) == 1) = true := by simp; omega
              have hfp0 : fp = 0 := by omega
              subst hfp0
              obtain ⟨c2, hc2⟩ : ∃ c, (if far < (i1 : Int) then far else (i1 : Int)) = c := ⟨_, rfl⟩
              have HC2 := Lib.hid (show c2 = capI far ((i : Int) + 1) from by rw [← hc2, ← HI1.out]; rfl)
              have HM3 := Lib.hid (show BkR ((wr.setCell ⟨w.heap.size, 0, none⟩ (.int .i64 far)).setCell ⟨w.heap.size, 0, none⟩ (.int .i64 c2)) w.heap.size (lb.length + 1) (if f = 1 then setR (setR R 0 far) 0 (capI far ((i : Int) + 1)) else setR R 0 far) from by rw [if_pos hf0, ← HC2.out]; exact HM2.out.set 0 c2)
              have HW3 := Lib.hid (HW2.out.setCell (p := ⟨w.heap.size, 0, none⟩) (Nat.le_refl _) (.int .i64 c2))
              clear hf0 HC2
              have HF1 := Lib.hid hff1
              clear hff1 hfp1 hfp2
              go_wp2_with fail
              clear hc2 hff cf ff
              generalize (wr.setCell ⟨w.heap.size, 0, none⟩ (.int .i64 far)).setCell ⟨w.heap.size, 0, none⟩ (.int .i64 c2) = W3 at *)
           | (have hff1 : ¬ f = 1 := by assumption
              have hff : ((f : Int) == 1) = false := by simp; omega
              have HM3 := Lib.hid (show BkR (wr.setCell ⟨w.heap.size, fp, none⟩ (.int .i64 far)) w.heap.size (lb.length + 1) (if f = 1 then setR (setR R 0 far) 0 (capI far ((i : Int) + 1)) else setR R fp far) from by rw [if_neg hf0]; exact HM2.out)
              have HW3 := Lib.hid HW2.out
              clear hf0
              have HF1 := Lib.hid hff1
              clear hff1 hfp1 hfp2
              go_wp2_with fail
              clear hff cf ff
              generalize wr.setCell ⟨w.heap.size, fp, none⟩ (.int .i64 far) = W3 at *)
          all_goals
            clear HM2 HW2 HM HW HBD HI1 wi wq we wf
            obtain ⟨hfN1, hfN2⟩ := HFN.out
            have t2 := HT2.out
            clear HFN HT2 HF1
            generalize (if f = 1 then setR (setR R 0 far) 0 (capI far ((i : Int) + 1)) else setR R _ far) = R3 at *
            go_loopw [14, 102] (fun v14 v102 wz => WiC w la lb K i f N v14 v102 wz) (fun _ v102 _ => N - (intOf v102).toNat)
            case atStart => exact ⟨0, R3, was, by omega, rfl, rfl, (by unfold RowKit.Hid; rw [HFAR.out, HWAS.out, Nat.add_zero, HFP.out]), HST.out, HM3.out, HW3.out⟩
            case round =>
              clear HM3 HW3 HST HWAS HFP
              obtain ⟨c, R, wv, hc, rfl, rfl, HWV, HMD, HM, HW⟩ := hrel
              by_cases hltc : c < N
              · obtain ⟨j, hj⟩ : ∃ j, f + c = j := ⟨_, rfl⟩
                have wj : IntKind.i64.wrap ((c : Int) + (f : Int)) = (j : Int) := by rw [IntWalk.i64_in _ (by omega)]; omega
                obtain ⟨jm, hjm⟩ : ∃ jm, j - 1 = jm := ⟨_, rfl⟩
                have wjm : IntKind.i64.wrap ((j : Int) - 1) = (jm : Int) := by rw [IntWalk.i64_in _ (by omega)]; omega
                have hmd := HMD.out
                have hwv := HWV.out
                rw [hj] at hmd
                rw [hj, hjm, HFAR.out] at hwv
                have hu := hmd.2 j (Nat.le_refl j) (by omega) (by omega)
                have hv := hmd.1 jm (by omega) (by omega) (by omega)
                rw [HFAR.out] at hu hv
                have hjm1 : jm + 1 ≤ j := by omega
                have hjm2 : j ≤ jm + 1 := by omega
                have hjj : jm + 1 = j := by omega
                have hnx := MdOK.next (by rw [hjj]; exact hmd : MdOK la lb K i (jm + 1) R) hlt (by omega : jm < lb.length) (by omega)
                rw [HFAR.out, hjj] at hnx
                have hss := Dm_ss la lb jm hlt
                rw [hjj] at hss
                have c1 : i < la.length := hlt
                have c2 : (0 : Int) ≤ (i : Int) := by omega
                have c3 : (i : Int) < (la.length : Int) := by omega
                have c4 : jm < lb.length := by omega
                have c5 : (0 : Int) ≤ (jm : Int) := by omega
                have c6 : (jm : Int) < (lb.length : Int) := by omega
                have c7 : j < lb.length + 1 := by omega
                have c8 : jm < lb.length + 1 := by omega
                have hne : j ≠ jm := by omega
                have bu := Dm_bd la lb (j) (show i ≤ la.length by omega)
                have bv := Dm_bd la lb jm (show i + 1 ≤ la.length from hlt)
                have bt := Dm_bd la lb jm (show i ≤ la.length by omega)
                have cu := HM.out.cell (j := j) (by omega)
                have cv := HM.out.cell (j := jm) (by omega)
                have fu : wr.frozen? ⟨w.heap.size, j, none⟩ = false := Blk.frozen HM.out (j)
                obtain ⟨ga, oa, rfl, hbla, hca⟩ := HA.out.at hlt
                have ca := (HW.out.cell (p := ⟨ga, oa + i, none⟩) hbla).trans hca
                obtain ⟨gb, ob, rfl, hblb, hcb⟩ := HBB.out.at (k := jm) (by omega)
                have cb := (HW.out.cell (p := ⟨gb, ob + jm, none⟩) hblb).trans hcb
                have HC := Lib.hid (cap_step far (Dm la lb i (j)) (Dm la lb (i + 1) jm) (Dm la lb i jm))
                have HNX := Lib.hid (fun z (hz : z = capI far (Dm la lb (i + 1) (j))) => show MdOK la lb K i (j + 1) (setR R j z) from hz ▸ hnx)
                have HSS := Lib.hid hss
                have HJ := Lib.hid hj
                rw [hu] at cu
                rw [hv] at cv
                have HU := Lib.hid hu
                obtain ⟨xu, hxu⟩ : ∃ x, capI far (Dm la lb i (j)) = x := ⟨_, rfl⟩
                obtain ⟨xv, hxv⟩ : ∃ x, capI far (Dm la lb (i + 1) jm) = x := ⟨_, rfl⟩
                have lu := capI_le far (Dm la lb i (j))
                have lv := capI_le far (Dm la lb (i + 1) jm)
                have lt := capI_le far (Dm la lb i jm)
                have l2u : 0 ≤ capI far (Dm la lb i (j)) := by unfold capI; split <;> omega
                have l2v : 0 ≤ capI far (Dm la lb (i + 1) jm) := by unfold capI; split <;> omega
                have l2t : 0 ≤ capI far (Dm la lb i jm) := by unfold capI; split <;> omega
                rw [← hwv] at lt l2t
                rw [hxu] at cu lu l2u
                rw [hxv] at cv lv l2v
                have HXU := Lib.hid hxu
                have lu1 := lu.1
                have lv1 := lv.1
                have lt1 := lt.1
                have HCE := Lib.hid (fun c hc => show (if far < (if wv + c < (if xv < xu then xv + 1 else xu + 1) then wv + c else if xv < xu then xv + 1 else xu + 1) then far else if wv + c < (if xv < xu then xv + 1 else xu + 1) then wv + c else if xv < xu then xv + 1 else xu + 1) = capI far (min3 (Dm la lb (i + 1) jm + 1) (Dm la lb i j + 1) (Dm la lb i jm + c)) from by rw [hwv, ← hxu, ← hxv]; exact HC.out c hc)
                have HMB := Lib.hid (fun z nq => (show BkR (wr.drewN nq) w.heap.size (lb.length + 1) R from HM.out).set (j) z)
                have HWB := Lib.hid (fun z nq => (below_drewN HW.out nq).setCell (p := ⟨w.heap.size, j, none⟩) (Nat.le_refl _) (.int .i64 z))
                clear hjj hmd hnx hss bu bv bt hca hcb HC hxu hxv lu lv lt hwv hu hv hj hjm HM HW HMD HWV
                generalize la.getD i 0 = qa at *
                generalize lb.getD jm 0 = qb at *
                by_cases hqr : qa = qb
                · subst hqr
                  have dq : (qa != qa) = false := by simp
                  obtain ⟨z, hz2⟩ : ∃ z, (if far < (if wv < (if xv < xu then xv + 1 else xu + 1) then wv else if xv < xu then xv + 1 else xu + 1) then far else if wv < (if xv < xu then xv + 1 else xu + 1) then wv else if xv < xu then xv + 1 else xu + 1) = z := ⟨_, rfl⟩
                  have hz : (if far < (if wv < (if xv + 1 < xu + 1 then xv + 1 else xu + 1) then wv else if xv + 1 < xu + 1 then xv + 1 else xu + 1) then far else if wv < (if xv + 1 < xu + 1 then xv + 1 else xu + 1) then wv else if xv + 1 < xu + 1 then xv + 1 else xu + 1) = z := by rw [← hz2]; simp only [Int.add_lt_add_iff_right]
                  have hM : ¬ far < (if wv < (if xv < xu then xv + 1 else xu + 1) then wv else if xv < xu then xv + 1 else xu + 1) := by (repeat' split) <;> omega
                  have hz3 : (if wv < (if xv < xu then xv + 1 else xu + 1) then wv else if xv < xu then xv + 1 else xu + 1) = z := by rw [← hz2, if_neg hM]
                  clear hM
                  have HZ := Lib.hid (show z = capI far (Dm la lb (i + 1) (j)) from by
                    rw [HSS.out, if_pos rfl, ← HCE.out 0 (.inl rfl), ← hz2]; simp only [Int.add_zero])
                  have HMD2 := Lib.hid (HNX.out z HZ.out)
                  clear HNX HCE HSS HZ
                  go_wp2_with fail
                  go_quiet (fail)
                  have HM2 := Lib.hid (HMB.out z nq)
                  have HW2 := Lib.hid (HWB.out z nq)
                  clear HMB HWB
                  go_wp2_with fail
                  clear hz hz2 hz3 wj wjm
                  go_roundw
                  case rel => exact ⟨c + 1, setR R (j) z, xu, by omega, by go_num, rfl, (by unfold RowKit.Hid; rw [HFAR.out, ← HXU.out]; congr 2; have := HJ.out; omega), (by have := HMD2.out; unfold RowKit.Hid; rw [show f + (c + 1) = j + 1 from by have := HJ.out; omega]; exact this), HM2.out, HW2.out⟩
                  case measure => simp [intOf]; omega
                · have dq : (qa != qb) = true := by simpa using hqr
                  obtain ⟨z, hz2⟩ : ∃ z, (if far < (if wv + 1 < (if xv < xu then xv + 1 else xu + 1) then wv + 1 else if xv < xu then xv + 1 else xu + 1) then far else if wv + 1 < (if xv < xu then xv + 1 else xu + 1) then wv + 1 else if xv < xu then xv + 1 else xu + 1) = z := ⟨_, rfl⟩
                  have hz : (if far < (if wv + 1 < (if xv + 1 < xu + 1 then xv + 1 else xu + 1) then wv + 1 else if xv + 1 < xu + 1 then xv + 1 else xu + 1) then far else if wv + 1 < (if xv + 1 < xu + 1 then xv + 1 else xu + 1) then wv + 1 else if xv + 1 < xu + 1 then xv + 1 else xu + 1) = z := by rw [← hz2]; simp only [Int.add_lt_add_iff_right]
                  have HZ := Lib.hid (show z = capI far (Dm la lb (i + 1) (j)) from by
                    rw [HSS.out, if_neg hqr, ← HCE.out 1 (.inr rfl), ← hz2])
                  have HMD2 := Lib.hid (HNX.out z HZ.out)
                  clear HNX HCE HSS HZ hqr
                  go_wp2_with fail
                  go_quiet (fail)
                  have HM2 := Lib.hid (HMB.out z nq)
                  have HW2 := Lib.hid (HWB.out z nq)
                  clear HMB HWB
                  go_wp2_with fail
                  clear hz hz2 wj wjm
                  go_roundw
                  case rel => exact ⟨c + 1, setR R (j) z, xu, by omega, by go_num, rfl, (by unfold RowKit.Hid; rw [HFAR.out, ← HXU.out]; congr 2; have := HJ.out; omega), (by have := HMD2.out; unfold RowKit.Hid; rw [show f + (c + 1) = j + 1 from by have := HJ.out; omega]; exact this), HM2.out, HW2.out⟩
                  case measure => simp [intOf]; omega
              · obtain rfl : c = N := by omega
                have hmd := HMD.out
                rw [show f + c = t + 1 by omega] at hmd
                have hdn := MdOK.done f2 hmd hlt t2
                by_cases htl : t < lb.length
                · rw [if_pos htl, HFAR.out] at hdn
                  have HDN := Lib.hid hdn
                  obtain ⟨t1', ht1'⟩ : ∃ x, t + 1 = x := ⟨_, rfl⟩
                  have wt1 : IntKind.i64.wrap ((t : Int) + 1) = (t1' : Int) := by rw [IntWalk.i64_in _ (by omega)]; omega
                  have ct := HM.out.cell (j := t1') (by omega)
                  have ft : wr.frozen? ⟨w.heap.size, t1', none⟩ = false := Blk.frozen HM.out t1'
                  have HM2 := Lib.hid (show BkR (wr.setCell ⟨w.heap.size, t1', none⟩ (.int .i64 far)) w.heap.size (lb.length + 1) (setR R (t + 1) far) from by rw [ht1']; exact HM.out.set t1' far)
                  have HW2 := Lib.hid (HW.out.setCell (p := ⟨w.heap.size, t1', none⟩) (Nat.le_refl _) (.int .i64 far))
                  have b1 : t1' < lb.length + 1 := by omega
                  clear hmd hdn ht1' HMD HWV HM HW
                  generalize R t1' = rt at ct
                  go_wp2_with fail
                  clear wt1
                  go_roundw
                  case rel => first | exact ⟨i + 1, _, by omega, by go_num, HDN.out, HM2.out, HW2.out⟩ | ((repeat apply Exists.intro); exact ⟨⟨i + 1, _, by omega, by go_num, HDN.out, HM2.out, HW2.out⟩, rfl⟩)
                  case measure => simp [intOf]; omega
                · rw [if_neg htl] at hdn
                  have HDN := Lib.hid hdn
                  have dt : decide ((t : Int) < (lb.length : Int)) = false := by simp; omega
                  have dt2 : decide (t < lb.length) = false := by simpa using htl
                  clear hmd hdn HMD HWV htl
                  go_wp2_with fail
                  go_roundw
                  case rel => first | exact ⟨i + 1, R, by omega, by go_num, HDN.out, HM.out, HW.out⟩ | ((repeat apply Exists.intro); exact ⟨⟨i + 1, R, by omega, by go_num, HDN.out, HM.out, HW.out⟩, rfl⟩)
                  case measure => simp [intOf]; omega
        · obtain rfl : i = la.length := by omega
          have hx := HBD.out lb.length (Nat.le_refl _) (by omega) (by omega)
          have hnear := nearL_cap HK.out (x := R lb.length) (by rw [hx]; rfl)
          have cx := HM.out.cell (j := lb.length) (by omega)
          obtain ⟨x, hxx⟩ : ∃ x, R lb.length = x := ⟨_, rfl⟩
          rw [hxx] at cx hnear
          have hnl := HNL.out.symm.trans hnear
          clear hx hnear hxx
          by_cases hKx : (K : Int) < x
          · rw [if_pos hKx] at hnl
            obtain ⟨rfl, rfl⟩ := Prod.mk.inj hnl
            clear hnl
            go_wp2_with fail
            go_ret2
            exact ⟨rfl, HW.out⟩
          · rw [if_neg hKx] at hnl
            obtain ⟨rfl, rfl⟩ := Prod.mk.inj hnl
            clear hnl
            have dK : decide ((K : Int) < n1) = false := by simpa using hKx
            go_wp2_with fail
            go_ret2
            exact ⟨rfl, HW.out⟩
end Go.Proofs.Ytjacebnjmhbcbaa
