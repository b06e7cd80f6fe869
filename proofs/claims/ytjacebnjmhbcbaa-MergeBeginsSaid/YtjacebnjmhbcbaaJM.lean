/- cut: items by shards, as bytes say. -/
import Derived.Test.YtjacebnjmhbcbaaMb0
import Derived.Test.YtjacebnjmhbcbaaMo1
import Derived.Deep.AppendLies
import Derived.Deep.RegionLaw
import Derived.Laws.MakeOwn
import Derived.Test.YtjacebnjmhbcbaaMg13
import Derived.Test.YtjacebnjmhbcbaaJR
import Derived.Test.YtjacebnjmhbcbaaHand
namespace Go.Proofs.Ytjacebnjmhbcbaa
open Go.RowKit
set_option linter.unusedVariables false

/-- whose the i-th item is -/
def clsF (ws : List Nat) (n i : Nat) : Nat := if i < ws.length then ws.getD i 0 % n else 0
theorem clsF_lt {ws : List Nat} {n i : Nat} (h : 0 < n) : clsF ws n i < n := by
  unfold clsF
  split
  · exact Nat.mod_lt _ h
  · exact h
/-- a row of rows of items, each a row of its own -/
structure PartsAt (B : Nat) (w : World) (g n : Nat) (cl : Nat → Nat) (L : List KeyL) (m : Nat) (M : List Value) : Prop where
  blk : Blk w g 22 M
  ml : M.length = n
  gb : B ≤ g
  row : ∀ (k : Nat) (v : Value), M[k]? = some v → ∃ ao c, v = .slice ao (partF cl L k m).length c ∧ w.ownsRow B 31 2 v (partF cl L k m).length ((partF cl L k m).flatMap KeyL.cells)
  apart : ∀ (k j : Nat) (u v : Value) (q : Nat), k ≠ j → M[k]? = some u → M[j]? = some v → u.ownBlock = some q → v.ownBlock ≠ some q
theorem PartsAt.below {B : Nat} {w w' : World} {g n : Nat} {cl : Nat → Nat} {L : List KeyL} {m : Nat} {M : List Value} (h : PartsAt B w g n cl L m M) (hb : Below w.heap.size w w') : PartsAt B w' g n cl L m M :=
  ⟨h.blk.below hb h.blk.lt, h.ml, h.gb, fun k v hv => by
    obtain ⟨ao, c, e, ho⟩ := h.row k v hv
    exact ⟨ao, c, e, ownsRow_frm (S := fun _ => False) ho (Frm.below hb) (fun _ _ h => h.elim)⟩, h.apart⟩
/-- one item more -/
theorem PartsAt.step {B : Nat} {w w2 : World} {g n : Nat} {cl : Nat → Nat} {L : List KeyL} {m : Nat} {M : List Value} (h : PartsAt B w g n cl L m M) {k : Nat} (hk : cl m = k) {x : KeyL} (hx : L[m]? = some x) {ao : Option Addr} {c g' c' : Nat}
    (hv : M[k]? = some (.slice ao (partF cl L k m).length c)) (hf : Frm (fun i => (Value.slice ao (partF cl L k m).length c).ownBlock = some i) w w2) (hat : (Value.slice ao (partF cl L k m).length c).ownBlock = some g' ∨ w.heap.size ≤ g')
    (ho : w2.ownsRow B 31 2 (.slice (some ⟨g', 0, none⟩) ((partF cl L k m).length + 1 : Nat) c') ((partF cl L k m).length + 1) ((partF cl L k m).flatMap KeyL.cells ++ KeyL.cells x)) :
    PartsAt B (w2.setCell ⟨g, k, none⟩ (.slice (some ⟨g', 0, none⟩) ((partF cl L k m).length + 1 : Nat) c')) g n cl L (m + 1) (M.set k (.slice (some ⟨g', 0, none⟩) ((partF cl L k m).length + 1 : Nat) c')) := by
  have hkl := (List.getElem?_eq_some_iff.1 hv).1
  obtain ⟨ao0, c0, e0, hown⟩ := h.row k _ hv
  have hgne : ∀ q, (Value.slice ao (partF cl L k m).length c).ownBlock = some q → q ≠ g := fun q hq => ownsRow_ne hown h.blk (by decide) q hq
  have hb2 : Blk w2 g 22 M := h.blk.frm hf (fun e => hgne g e rfl)
  have hne : g' ≠ g := by
    rcases hat with e | e
    · exact hgne g' e
    · have := h.blk.lt; omega
  have hset : Frm (fun i => i = g) w2 (w2.setCell ⟨g, k, none⟩ (.slice (some ⟨g', 0, none⟩) ((partF cl L k m).length + 1 : Nat) c')) := (Frm.refl _ _).setCell _ _ (.inl rfl)
  have hh := partF_hit (cl := cl) (L := L) hk hx
  refine ⟨hb2.set k _, by rw [List.length_set]; exact h.ml, h.gb, fun j v hj => ?_, fun j i u v q hne2 hu hv2 huq hvq => ?_⟩
  · by_cases e : j = k
    · subst e
      rw [List.getElem?_set_self hkl] at hj
      cases hj
      rw [hh, List.length_append, List.flatMap_append]
      refine ⟨_, _, rfl, ?_⟩
      have q := ownsRow_frm ho hset (fun i hi e => by simp only [Value.ownBlock, Option.some.injEq] at hi; omega)
      simpa using q
    · rw [List.getElem?_set_ne (fun e2 => e e2.symm)] at hj
      obtain ⟨aj, cj, ej, hoj⟩ := h.row j v hj
      have hm : partF cl L j (m + 1) = partF cl L j m := partF_miss (by omega)
      rw [hm]
      refine ⟨aj, cj, ej, ownsRow_frm (ownsRow_frm hoj hf (fun i hi e2 => h.apart j k _ _ i e hj hv hi e2)) hset (fun i hi e2 => ?_)⟩
      have := ownsRow_ne hoj h.blk (by decide) i hi
      exact this e2
  · by_cases e : j = k
    · subst e
      rw [List.getElem?_set_self hkl] at hu
      cases hu
      rw [List.getElem?_set_ne hne2] at hv2
      simp only [Value.ownBlock, Option.some.injEq] at huq
      subst huq
      rcases hat with e2 | e2
      · exact h.apart j i _ _ g' hne2 hv hv2 e2 hvq
      · obtain ⟨ai, ci, ei, hoi⟩ := h.row i v hv2
        have := (hoi.lt g' hvq).2
        omega
    · rw [List.getElem?_set_ne (fun e2 => e e2.symm)] at hu
      by_cases e3 : i = k
      · subst e3
        rw [List.getElem?_set_self hkl] at hv2
        cases hv2
        simp only [Value.ownBlock, Option.some.injEq] at hvq
        subst hvq
        rcases hat with e2 | e2
        · exact h.apart j i _ _ g' hne2 hu hv huq e2
        · obtain ⟨ai, ci, ei, hoi⟩ := h.row j u hu
          have := (hoi.lt g' huq).2
          omega
      · rw [List.getElem?_set_ne (fun e2 => e3 e2.symm)] at hv2
        exact h.apart j i u v q hne2 hu hv2 huq hvq
theorem infoS22 : (Try.prog.info? 22).map (fun i => (i.zero, i.size, i.bytes)) = some (some (.slice none 0 0), 1, 24) := by kernel_rfl
theorem made_one (z : Value) (n : Nat) (hz : z.cells = #[z]) : (madeCells z.cells n).toList = List.replicate n z := by
  unfold madeCells
  rw [hz]
  apply List.ext_getElem?
  intro i
  by_cases h : i < n
  · simp [h, Nat.mod_one]
  · simp [h]
/-- what cut's loop keeps -/
def CutR (w : World) (n : Nat) (cl : Nat → Nat) (L : List KeyL) (v : Value) (wr : World) : Prop := ∃ (i : Nat) (M : List Value), i ≤ L.length ∧ v = .int .i64 i ∧ RowKit.Hid (PartsAt w.heap.size wr w.heap.size n cl L i M) ∧ RowKit.Hid (Below w.heap.size w wr)
def CutE (w : World) (n : Nat) (cl : Nat → Nat) (L : List KeyL) (e : Ending) (w' : World) : Prop := ∃ M, e = .returned (.slice (some ⟨w.heap.size, 0, none⟩) n n) ∧ PartsAt w.heap.size w' w.heap.size n cl L L.length M ∧ Below w.heap.size w w'
set_option maxRecDepth 100000 in
set_option maxHeartbeats 8000000 in
theorem cut_any (a : Option Addr) (c : Nat) (L : List KeyL) (wa : Option Addr) (wc : Nat) (ws : List Nat) (n : Nat) (w : World) (hr : RdE KeyL.cells 2 w a L.length c L) (hw : Rd w wa ws.length wc (u8s ws)) (hwb : ∀ x ∈ ws, x < 256) (h1 : 1 ≤ n) (h6 : n ≤ 6) (hL : L.length ≤ 1000) :
    Calls Try.prog 37 #[.slice a L.length c, .slice wa ws.length wc, .int .i64 n] w fun e w' => CutE w n (clsF ws n) L e w' := by
  obtain ⟨i0, hi, hz0, hz1, hz2⟩ := info_parts infoI2
  have HI := Lib.hid hi
  have HZ0 := Lib.hid hz0
  have HZ1 := Lib.hid hz1
  have HZ2 : RowKit.Hid (i0.bytes = 24) := hz2
  clear hi hz0 hz1 hz2
  obtain ⟨j0, hj, hy0, hy1, hy2⟩ := info_parts infoS22
  have hmk : ∀ V : World, (Instr.makeSlice 66 (.int .i64 (n : Int)) (.int .i64 (n : Int))).run Try.prog V = .ok (.slice (some ⟨V.heap.size, 0, none⟩) n n) (V.alloc (.cells (madeCells (Value.slice none 0 0).cells (n * 1)) 22)) := by
    intro V
    have q := run_make (P := Try.prog) V 66 22 j0 _ Try.underlying66 hj hy0 .i64 .i64 n n (by omega) (Int.le_refl _) (by rw [hy2]; omega) (by omega)
    rw [hy1] at q
    simpa using q
  clear hj hy0 hy1 hy2
  have HMC := Lib.hid (made_one (.slice none 0 0) (n * 1) rfl)
  generalize madeCells (Value.slice none 0 0).cells (n * 1) = mc at *
  rw [Nat.mul_one] at HMC
  have HB0 := Lib.hid ((Below.refl w.heap.size w).alloc (Nat.le_refl _) (.cells mc 22))
  have HP0 := Lib.hid (show PartsAt w.heap.size (w.alloc (.cells mc 22)) w.heap.size n (clsF ws n) L 0 (List.replicate n (.slice none 0 0)) from by
    refine ⟨?_, by simp, Nat.le_refl _, fun k v hv => ?_, fun k j u v q _ hu _ hq => ?_⟩
    · have q := heap_alloc_new w (.cells mc 22)
      unfold Blk
      rw [← HMC.out]
      simpa using q
    · have e := List.eq_of_mem_replicate (List.mem_of_getElem? hv)
      subst e
      exact ⟨none, 0, rfl, World.ownsRow_nil _ _ _ _⟩
    · have e := List.eq_of_mem_replicate (List.mem_of_getElem? hu)
      subst e
      cases hq)
  have HR := Lib.hid hr
  have HWR := Lib.hid hw
  have HWB := Lib.hid hwb
  have hcap := hr.2.1
  have hcm := hr.2.2.1
  have hcap2 := hw.2.1
  have hcm2 := hw.2.2.1
  unfold maxLen at hcm hcm2
  obtain ⟨W, hW⟩ : ∃ W, w.alloc (.cells mc 22) = W := ⟨_, rfl⟩
  rw [hW] at HB0 HP0
  have HQ := Lib.hid hW
  clear hr hw hwb hW HMC
  unfold CutE
  go_enter Try.func37, Try.ntmps37
  go_wp2_with (rw [HQ.out])
  clear hmk HQ
  go_loopw [8] (fun v wr => CutR w n (clsF ws n) L v wr) (fun v _ => L.length - (intOf v).toNat)
  case atStart => exact ⟨0, _, by omega, rfl, HP0.out, HB0.out⟩
  case round =>
    clear HP0 HB0
    obtain ⟨i, M, hi, rfl, HP, HB⟩ := hrel
    by_cases hlt : i < L.length
    · obtain ⟨x, hx⟩ : ∃ x, L[i]? = some x := ⟨_, List.getElem?_eq_getElem hlt⟩
      have HXI := Lib.hid hx
      have HRW := Lib.hid (HR.out.below HB.out rfl)
      obtain ⟨bg, og, rfl, hbg, hcx⟩ := HRW.out.2.2.2.2 i x hx
      obtain ⟨k, hk⟩ : ∃ k, clsF ws n i = k := ⟨_, rfl⟩
      have hkn : k < n := by rw [← hk]; exact clsF_lt (by omega)
      have HK := Lib.hid hk
      obtain ⟨v0, hv0⟩ : ∃ v, M[k]? = some v := ⟨_, List.getElem?_eq_getElem (by rw [HP.out.ml]; exact hkn)⟩
      obtain ⟨ao, c0, rfl, ho⟩ := HP.out.row k v0 hv0
      have HV0 := Lib.hid hv0
      have HO := Lib.hid ho
      have hgl := HP.out.blk.lt
      have hpl : (partF (clsF ws n) L k i).length ≤ i := by
        have : ∀ m, (partF (clsF ws n) L k m).length ≤ m := by
          intro m
          induction m with
          | zero => exact Nat.le_refl _
          | succ m ih =>
            unfold partF
            rw [List.length_append]
            split
            · have : (L[m]?).toList.length ≤ 1 := by cases L[m]? <;> simp
              omega
            · simp; omega
        exact this i
      obtain ⟨pn, hpn⟩ : ∃ q, (partF (clsF ws n) L k i).length = q := ⟨_, rfl⟩
      have HPN := Lib.hid hpn
      rw [hpn] at HV0 HO hpl
      clear hv0 ho hk hx hpn
      have x0 : wr.cell? ⟨bg, og + i * 2, none⟩ = some (.int .i64 x.1) := hcx 0 (by decide)
      have x1 : wr.cell? ⟨bg, og + i * 2 + 1, none⟩ = some (.string x.2) := hcx 1 (by decide)
      have c0' : wr.cell? ⟨w.heap.size, k, none⟩ = some (.slice ao pn c0) := by rw [HP.out.blk.cell]; exact HV0.out
      have hbgl : bg < wr.heap.size := hbg
      have cA : (wr.alloc (.cells #[.int .i64 x.1, .string x.2] 31)).cell? ⟨w.heap.size, k, none⟩ = some (.slice ao pn c0) := by rw [World.cell?_alloc_lt _ _ _ (by exact hgl)]; exact c0'
      have HO1 : RowKit.Hid ((wr.alloc (.cells #[.int .i64 x.1, .string x.2] 31)).drew.ownsRow w.heap.size 31 2 (.slice ao pn c0) pn ((partF (clsF ws n) L k i).flatMap KeyL.cells)) := HO.out.alloc _
      have HN1 : RowKit.Hid (∀ j u, ([.int .i64 x.1, .string x.2] : List Value)[j]? = some u → (wr.alloc (.cells #[.int .i64 x.1, .string x.2] 31)).drew.cell? ((⟨wr.heap.size, 0, none⟩ : Addr).add j) = some u) := World.news_of_block (show ((wr.alloc (.cells #[.int .i64 x.1, .string x.2] 31)).drew).heap[wr.heap.size]? = _ from heap_alloc_new wr _)
      have HP1 : RowKit.Hid (PartsAt w.heap.size (wr.alloc (.cells #[.int .i64 x.1, .string x.2] 31)).drew w.heap.size n (clsF ws n) L i M) := HP.out.below (((Below.refl _ wr).alloc (Nat.le_refl _) _).drew)
      have HB1 : RowKit.Hid (Below w.heap.size w (wr.alloc (.cells #[.int .i64 x.1, .string x.2] 31)).drew) := (HB.out.alloc HB.out.size _).drew
      have A1 : pn + 1 ≤ maxLen := by unfold maxLen; omega
      have A2 : (pn + 1) * 24 ≤ 140737488355328 := by omega
      have A3 : w.heap.size ≤ (wr.alloc (.cells #[.int .i64 x.1, .string x.2] 31)).drew.heap.size := HB1.out.size
      have A4 : ∀ u ∈ ([.int .i64 x.1, .string x.2] : List Value), u.oneCell' = true := by simp [Value.oneCell']
      have HA4 := Lib.hid A4
      have k2 : (i : Int) < (L.length : Int) := by omega
      have k3 : (k : Int) < (n : Int) := by omega
      have hsz1 : (wr.alloc (.cells #[.int .i64 x.1, .string x.2] 31)).drew.heap.size = wr.heap.size + 1 := by simp
      have HS1 := Lib.hid hsz1
      clear A4 hcx HRW hsz1
      by_cases hiw : i < ws.length
      · have k4 : (i : Int) < (ws.length : Int) := by omega
        obtain ⟨bw, ow, rfl, hbw, hcw⟩ := (HWR.out.below HB.out rfl).2.2.2.2 i hiw
        rw [u8s_get ws i hiw] at hcw
        have hwk : ws[i] % n = k := by rw [← HK.out]; unfold clsF; rw [if_pos hiw]; simp [List.getD, hiw]
        have hwl : ws[i] < 256 := HWB.out _ (List.getElem_mem hiw)
        generalize ws[i] = bv at *
        have kk : IntKind.i64.wrap (bv : Int) = (bv : Int) := IntWalk.i64_in _ (by omega)
        have km : (bv : Int) % (n : Int) = (k : Int) := by rw [← hwk]; exact (Int.natCast_emod _ _).symm
        have k5 : (0 : Int) ≤ (bv : Int) := by omega
        have k6 : (1 : Int) ≤ (n : Int) := by omega
        have HWK := Lib.hid hwk
        clear hwk
        go_upto_region 8 with fail
        clear HWR HWB hcap2 hcm2
        go_region_law (first | (refine step_append_lies _ rfl (.tmp 34) (.tmp 39) 22 rfl w.heap.size 31 i0 (.agg #[.int .i64 0, .string ⟨#[]⟩]) 2 24 Try.underlying22 HI.out HZ0.out HZ1.out HZ2.out rfl (by decide) (.slice ao pn c0) pn ((partF (clsF ws n) L k i).flatMap KeyL.cells) (by kernel_rfl) HO1.out ⟨wr.heap.size, 0, none⟩ 1 1 [.int .i64 x.1, .string x.2] (by kernel_rfl) rfl HN1.out HA4.out (by decide) A1 A2 A3 (wr.heap.size + 1) HS1.out ?_; intro g' c' w2 hown2 hg2 hat hlt2; have hf2 : Frm (fun i => (Value.slice ao pn c0).ownBlock = some i) (wr.alloc (.cells #[.int .i64 x.1, .string x.2] 31)).drew w2 := Frm.grown hg2 (fun _ h => h); have hP2 := HP1.out.blk.frm hf2 (fun e => ownsRow_ne HO1.out HP1.out.blk (by decide) _ e rfl); have hc2 : w2.cell? ⟨w.heap.size, k, none⟩ = some (.slice ao pn c0) := (hP2.cell k).trans HV0.out; have fz2 := fz_of (o := k) hP2; have HF2 := Lib.hid hf2; have HO2 := Lib.hid hown2; have HAT := Lib.hid (show (Value.slice ao pn c0).ownBlock = some g' ∨ (wr.alloc (.cells #[.int .i64 x.1, .string x.2] 31)).drew.heap.size ≤ g' from hat.imp id (fun e => by rw [e, HS1.out]; exact Nat.le_refl _)); clear hP2 hown2 hg2 hat hf2))
        all_goals
          have hPz := PartsAt.step HP1.out HK.out HXI.out (by rw [HPN.out]; exact HV0.out) (by rw [HPN.out]; exact HF2.out) (by rw [HPN.out]; exact HAT.out) (by rw [HPN.out]; exact HO2.out)
          rw [HPN.out] at hPz
          have hge := own_ge HO1.out
          have hBz := (HB1.out.trans (Frm.toBelow HF2.out HB1.out.size (fun i hi e => by have := hge i e; omega))).setCell (p := ⟨w.heap.size, k, none⟩) (show w.heap.size ≤ w.heap.size from Nat.le_refl _) (.slice (some ⟨g', 0, none⟩) (pn + 1 : Nat) c')
          obtain ⟨wz, hwz⟩ : ∃ wz, w2.setCell ⟨w.heap.size, k, none⟩ (.slice (some ⟨g', 0, none⟩) (pn + 1 : Nat) c') = wz := ⟨_, rfl⟩
          rw [hwz] at hPz hBz ⊢
          have HPz := Lib.hid hPz
          have HBz := Lib.hid hBz
          clear hPz hBz hwz hge c0' cA x0 x1
          go_wp2_with fail
          go_roundw
          case rel => exact ⟨i + 1, _, by omega, by go_num, HPz.out, HBz.out⟩
          case measure => simp [intOf]; omega
      · have k4 : ¬ (i : Int) < (ws.length : Int) := by omega
        have hk0 : k = 0 := by rw [← HK.out]; unfold clsF; rw [if_neg hiw]
        subst hk0
        go_upto_region 8 with fail
        clear HWR HWB hcap2 hcm2
        go_region_law (first | (refine step_append_lies _ rfl (.tmp 34) (.tmp 39) 22 rfl w.heap.size 31 i0 (.agg #[.int .i64 0, .string ⟨#[]⟩]) 2 24 Try.underlying22 HI.out HZ0.out HZ1.out HZ2.out rfl (by decide) (.slice ao pn c0) pn ((partF (clsF ws n) L 0 i).flatMap KeyL.cells) (by kernel_rfl) HO1.out ⟨wr.heap.size, 0, none⟩ 1 1 [.int .i64 x.1, .string x.2] (by kernel_rfl) rfl HN1.out HA4.out (by decide) A1 A2 A3 (wr.heap.size + 1) HS1.out ?_; intro g' c' w2 hown2 hg2 hat hlt2; have hf2 : Frm (fun i => (Value.slice ao pn c0).ownBlock = some i) (wr.alloc (.cells #[.int .i64 x.1, .string x.2] 31)).drew w2 := Frm.grown hg2 (fun _ h => h); have hP2 := HP1.out.blk.frm hf2 (fun e => ownsRow_ne HO1.out HP1.out.blk (by decide) _ e rfl); have hc2 : w2.cell? ⟨w.heap.size, 0, none⟩ = some (.slice ao pn c0) := (hP2.cell 0).trans HV0.out; have fz2 := fz_of (o := 0) hP2; have HF2 := Lib.hid hf2; have HO2 := Lib.hid hown2; have HAT := Lib.hid (show (Value.slice ao pn c0).ownBlock = some g' ∨ (wr.alloc (.cells #[.int .i64 x.1, .string x.2] 31)).drew.heap.size ≤ g' from hat.imp id (fun e => by rw [e, HS1.out]; exact Nat.le_refl _)); clear hP2 hown2 hg2 hat hf2))
        all_goals
          have hPz := PartsAt.step HP1.out HK.out HXI.out (by rw [HPN.out]; exact HV0.out) (by rw [HPN.out]; exact HF2.out) (by rw [HPN.out]; exact HAT.out) (by rw [HPN.out]; exact HO2.out)
          rw [HPN.out] at hPz
          have hge := own_ge HO1.out
          have hBz := (HB1.out.trans (Frm.toBelow HF2.out HB1.out.size (fun i hi e => by have := hge i e; omega))).setCell (p := ⟨w.heap.size, 0, none⟩) (show w.heap.size ≤ w.heap.size from Nat.le_refl _) (.slice (some ⟨g', 0, none⟩) (pn + 1 : Nat) c')
          obtain ⟨wz, hwz⟩ : ∃ wz, w2.setCell ⟨w.heap.size, 0, none⟩ (.slice (some ⟨g', 0, none⟩) (pn + 1 : Nat) c') = wz := ⟨_, rfl⟩
          rw [hwz] at hPz hBz ⊢
          have HPz := Lib.hid hPz
          have HBz := Lib.hid hBz
          clear hPz hBz hwz hge c0' cA x0 x1
          go_wp2_with fail
          go_roundw
          case rel => exact ⟨i + 1, _, by omega, by go_num, HPz.out, HBz.out⟩
          case measure => simp [intOf]; omega
    · obtain rfl : i = L.length := by omega
      go_wp2_with fail
      go_ret
      exact ⟨M, rfl, HP.out, HB.out⟩
end Go.Proofs.Ytjacebnjmhbcbaa
/- A Merge beside a row of one's own: Put, Tell, and the row grown. -/
namespace Go.Proofs.Ytjacebnjmhbcbaa
open Go.RowKit
set_option linter.unusedVariables false

theorem ownsRow_blk' {w : World} {base e size n g : Nat} {v : Value} {xs : List Value} (h : w.ownsRow base e size v n xs) (hg : v.ownBlock = some g) : ∃ cs : List Value, True ∧ Blk w g e cs := by
  rcases h.2 with ⟨rfl, _⟩ | ⟨g', cap, cur, rfl, _, hc, _⟩
  · cases hg
  · simp only [Value.ownBlock, Option.some.injEq] at hg
    subst hg
    exact ⟨cur.toList, trivial, by unfold Blk; simpa using hc⟩
theorem tellA_len {n : Int} : ∀ (f : Nat) (S : List PS) (T out : List KeyL), (T.length : Int) ≤ n → ((tellA n f S T out).2.2.length : Int) ≤ n
  | 0, S, T, out, h => h
  | f + 1, S, T, out, h => by
    unfold tellA
    cases hs : stepP n S T with
    | none => exact h
    | some y =>
      obtain ⟨x, b, s⟩ := y
      simp only
      refine tellA_len f _ _ _ ?_
      have hd : doneP n S T = false := by
        cases hd : doneP n S T with
        | false => rfl
        | true => rw [step_done hd] at hs; cases hs
      have := not_done hd h
      rw [List.length_append, List.length_singleton]
      omega
/-- what may have changed is no array of six -/
def NoArr (w w' : World) : Prop := Frm (fun i => ∃ t cs, Blk w i t cs ∧ t ≠ 68) w w'
theorem NoArr.blk {w w' : World} (h : NoArr w w') {k : Nat} {cs : List Value} (hb : Blk w k 68 cs) : Blk w' k 68 cs := hb.frm h (fun ⟨t, cs', h', hn⟩ => blk_ne h' hb hn rfl)
theorem NoArr.below {w w' : World} (h : Below w.heap.size w w') : NoArr w w' := Frm.below h
/-- a Merge; the row l lies apart from it -/
def J1 (w0 W : World) (p : Nat) (n : Int) (S : List PS) (T : List KeyL) (l : Value) (k : Nat) (xs : List Value) : Prop := W.ownsRow w0.heap.size 31 2 l k xs ∧ ∃ (gs c : Nat) (M : List MS) (sp : List Value) (ta : Option Addr) (tc : Nat),
  MGx w0.heap.size W p n S T gs c M sp ta tc ∧ Below w0.heap.size w0 W ∧ (T.length : Int) ≤ n ∧ ApartL l (.slice ta T.length tc) M
theorem J1.own {w0 W : World} {p : Nat} {n : Int} {S : List PS} {T : List KeyL} {l : Value} {k : Nat} {xs : List Value} (h : J1 w0 W p n S T l k xs) : OwnM w0 W p n S T := by
  obtain ⟨_, gs, c, M, sp, ta, tc, hx, hb, _⟩ := h
  exact ⟨⟨gs, c, M, sp, ta, tc, hx.P, hx.G, hx.hc, hx.hm, hx.told, hx.len, hx.sh, hx.bp, hx.bg, hx.bd⟩, hb⟩
theorem J1.below {w0 W W' : World} {p : Nat} {n : Int} {S : List PS} {T : List KeyL} {l : Value} {k : Nat} {xs : List Value} (h : J1 w0 W p n S T l k xs) (hb : Below W.heap.size W W') : J1 w0 W' p n S T l k xs := by
  obtain ⟨ho, gs, c, M, sp, ta, tc, h1, h2, h3, h4⟩ := h
  exact ⟨ownsRow_frm (S := fun _ => False) ho (Frm.below hb) (fun _ _ h => h.elim), gs, c, M, sp, ta, tc, h1.below hb, h2.trans (hb.mono h2.size), h3, h4⟩
/-- a block of another type may change -/
theorem J1.far {w0 W W' : World} {p : Nat} {n : Int} {S : List PS} {T : List KeyL} {l : Value} {k : Nat} {xs : List Value} (h : J1 w0 W p n S T l k xs) {g : Nat} {cs : List Value} (hg : Blk W g 68 cs) (hb0 : w0.heap.size ≤ g) (hf : Frm (fun i => i = g) W W') : J1 w0 W' p n S T l k xs := by
  obtain ⟨ho, gs, c, M, sp, ta, tc, h1, h2, h3, h4⟩ := h
  refine ⟨ownsRow_frm ho hf (fun i hi e => ownsRow_ne ho hg (by decide) i hi e), gs, c, M, sp, ta, tc, ?_, h2.trans (hf.toBelow h2.size (fun i hi e => by have e' : i = g := e; omega)), h3, h4⟩
  refine h1.keep hf (fun k hk => ?_)
  subst hk
  refine ⟨blk_ne hg h1.P (by decide), blk_ne hg h1.G (by decide), fun e => ownsRow_ne h1.told hg (by decide) _ e rfl, fun i m hm b o s e => ?_⟩
  obtain ⟨s', hs'⟩ : ∃ s', S[i]? = some s' := ⟨_, List.getElem?_eq_getElem (by rw [← h1.len]; exact (List.getElem?_eq_some_iff.1 hm).1)⟩
  obtain ⟨cs2, hb2⟩ := (h1.sh i m s' hm hs').ty b o s e
  exact fun e2 => blk_ne hg hb2 (by decide) e2.symm
/-- the row was grown -/
theorem J1.grow {w0 W W' : World} {p : Nat} {n : Int} {S : List PS} {T : List KeyL} {l l' : Value} {k k' g' : Nat} {xs xs' : List Value} (h : J1 w0 W p n S T l k xs) (hf : Frm (fun i => l.ownBlock = some i) W W') (hl : l'.ownBlock = some g') (hat : l.ownBlock = some g' ∨ W.heap.size ≤ g')
    (ho' : W'.ownsRow w0.heap.size 31 2 l' k' xs') : J1 w0 W' p n S T l' k' xs' := by
  obtain ⟨ho, gs, c, M, sp, ta, tc, h1, h2, h3, h4⟩ := h
  refine ⟨ho', gs, c, M, sp, ta, tc, ?_, h2.trans (hf.toBelow h2.size (fun i hi e => by have := own_ge ho i e; omega)), h3, ?_⟩
  · exact h1.far ho h4 hf
  · exact ApartL.step h1 h4 hl hat
theorem b_put {w0 w : World} {p : Nat} {n : Int} {S S2 : List PS} {T l : List KeyL} {i seq : Int} {e r : Bool} {a : Option Addr} {m cap k : Nat} {lv : Value} {xs : List Value} (h : J1 w0 w p n S T lv k xs) (hr : RdE KeyL.cells 2 w a m cap l) (hs : ∀ s ∈ S, 0 ≤ s.seq ∧ s.seq ≤ 1000000) (he : putP n S T i seq l e = (r, S2)) :
    Calls Try.prog 13 #[.pointer (some ⟨p, 0, none⟩), .int .i64 i, .int .i64 seq, .slice a m cap, .bool e] w fun e' w' => e' = .returned (.bool r) ∧ J1 w0 w' p n S2 T lv k xs ∧ NoArr w w' := by
  obtain ⟨ho, gs, c, M, sp, ta, tc, h1, h6, h7, h9⟩ := h
  refine (put_any w0.heap.size p n i seq S T l e a m cap w gs c M sp ta tc h1 hr hs h6.size).mono ?_
  rw [he]
  rintro e' w' ⟨rfl, ⟨M', hM, hW⟩, hf, _⟩
  refine ⟨rfl, ⟨ownsRow_frm ho hf (fun j hj e => ownsRow_ne ho h1.G (by decide) j hj e), gs, c, M', sp, ta, tc, hM, h6.trans (hf.toBelow h6.size (fun i hi e => by have := h1.bg; omega)), h7, fun j hj => ⟨(h9 j hj).1, fun i x hx b o s e => ?_⟩⟩, hf.mono (fun i e _ => by subst e; exact ⟨_, _, h1.G, by decide⟩)⟩
  rcases hW i x hx b o s e with ⟨i2, y, hy, e2⟩ | hge
  · exact (h9 j hj).2 i2 y hy b o s e2
  · have := (ho.lt j hj).2; omega
theorem b_tell {w0 w : World} {p : Nat} {n : Int} {S S2 : List PS} {T T2 l : List KeyL} {lv : Value} {k : Nat} {xs : List Value} (h : J1 w0 w p n S T lv k xs) (he : tellP n S T = (l, S2, T2)) :
    Calls Try.prog 25 #[.pointer (some ⟨p, 0, none⟩)] w fun e w' => ∃ ao c, e = .returned (.slice ao l.length c) ∧ w'.ownsRow w.heap.size 31 2 (.slice ao l.length c) l.length (l.flatMap KeyL.cells) ∧ J1 w0 w' p n S2 T2 lv k xs ∧ NoArr w w' := by
  obtain ⟨ho, gs, c, M, sp, ta, tc, h1, h6, h7, h9⟩ := h
  refine (tell_any2 w0.heap.size p n S T w gs c M sp ta tc h1 h7 h6.size).mono ?_
  have hl : (T2.length : Int) ≤ n := by
    have := tellA_len (n := n) (n.toNat - T.length) S T [] h7
    rw [show tellA n (n.toNat - T.length) S T [] = (l, S2, T2) from he] at this
    exact this
  rw [he]
  rintro e w' ⟨ao, c2, rfl, ho2, ⟨M', ta2, tc2, hM, htb, hap, hws⟩, hf⟩
  refine ⟨ao, c2, rfl, ho2, ⟨ownsRow_frm ho hf (fun i hi e => ?_), gs, c, M', sp, ta2, tc2, hM, h6.trans (hf.toBelow h6.size (fun i hi e => ?_)), hl, fun j hj => ⟨fun e => ?_, fun i x hx b o s e => ?_⟩⟩, hf.mono (fun i e _ => ?_)⟩
  · rcases e with e | e | e
    · exact ownsRow_ne ho h1.P (by decide) i hi e
    · exact ownsRow_ne ho h1.G (by decide) i hi e
    · exact (h9 i hi).1 e
  · rcases e with e | e | e
    · have := h1.bp; omega
    · have := h1.bg; omega
    · have := own_ge h1.told i e; omega
  · rcases htb j e with e2 | e2
    · exact (h9 j hj).1 e2
    · have := (ho.lt j hj).2; omega
  · obtain ⟨i2, y, o2, s2, hy, e2⟩ := hws i x hx b o s e
    exact (h9 j hj).2 i2 y hy b o2 s2 e2
  · rcases e with rfl | rfl | e
    · exact ⟨_, _, h1.P, by decide⟩
    · exact ⟨_, _, h1.G, by decide⟩
    · obtain ⟨sp2, hsp2, hblk⟩ := ownsRow_blk' h1.told e
      exact ⟨_, _, hblk, by decide⟩
end Go.Proofs.Ytjacebnjmhbcbaa
/- MergeBegins. -/
namespace Go.Proofs.Ytjacebnjmhbcbaa
open Go.RowKit
set_option linter.unusedVariables false

theorem allL_sort {words : List ByteArray} (s : ByteArray) (k : Int) (h : RiseT words) : SortL (allL words s k) := by
  refine ⟨fun i j x y hij hx hy => ?_, fun i x hx => (allL_mem.1 (List.mem_of_getElem? hx)).2.2.1⟩
  have hs := sortL_sorted (nearI words s k)
  have hn := allL_nodup s k h
  unfold allL at *
  generalize sortL (nearI words s k) = S at *
  have h1 := List.pairwise_iff_getElem.1 hs i j (List.getElem?_eq_some_iff.1 hx).1 (List.getElem?_eq_some_iff.1 hy).1 hij
  rw [(List.getElem?_eq_some_iff.1 hx).2, (List.getElem?_eq_some_iff.1 hy).2] at h1
  cases h2 : kless x y
  · exfalso
    have e : x = y := kless_tri h2 h1
    subst e
    have := (List.pairwise_iff_getElem.1 hn) i j (by simpa using (List.getElem?_eq_some_iff.1 hx).1) (by simpa using (List.getElem?_eq_some_iff.1 hy).1) hij
    simp only [List.getElem_map, (List.getElem?_eq_some_iff.1 hx).2, (List.getElem?_eq_some_iff.1 hy).2] at this
    exact this rfl
  · rfl
set_option maxRecDepth 100000 in
/-- the end of a row, from a place on -/
theorem cut_from {W0 : World} {ao : Option Addr} {n c a : Nat} {L : List KeyL} (h : RdE KeyL.cells 2 W0 ao n c L) (hsp : ao = none ∨ ∃ g o, ao = some ⟨g, o, none⟩) (han : a ≤ n) :
    ∃ an, (an = none ∨ ∃ g o, an = some ⟨g, o, none⟩) ∧ (∀ W, (Instr.sliceAt 22 (.slice ao n c) (some (.int .i64 a)) none none).run Try.prog W = .ok (.slice an (n - a) (c - a)) W) ∧ ∀ W, RdE KeyL.cells 2 W ao n c L → RdE KeyL.cells 2 W an (n - a) (c - a) (L.drop a) := by
  have hc := h.2.1
  have t1 : (0 : Int) ≤ (a : Int) := by omega
  have t2 : (a : Int) ≤ (n : Int) := by omega
  have t3 : (n : Int) ≤ (c : Int) := by omega
  have t5 : (a : Int) ≤ (c : Int) := by omega
  have t4 : a ≤ c := by omega
  rcases hsp with rfl | ⟨g, o, rfl⟩
  · refine ⟨none, .inl rfl, fun W => ?_, fun W hW => ?_⟩
    · go_simp
    · have hc0 : c = 0 := hW.2.2.2.1 rfl
      have hn0 : n = 0 := by have := hW.2.1; omega
      have hL : L = [] := List.eq_nil_of_length_eq_zero (by rw [hW.1]; exact hn0)
      subst hL
      refine ⟨by simp; omega, by omega, by unfold maxLen; omega, fun _ => by omega, fun i x hx => by simp at hx⟩
  · refine ⟨some ⟨g, if c = a then o else o + a * 2, none⟩, .inr ⟨_, _, rfl⟩, fun W => ?_, fun W hW => ?_⟩
    · by_cases e : c = a
      · subst e
        go_simp
      · go_simp
    · exact hW.drop a han _ (fun hlt => by rw [if_neg (by have := hW.2.1; omega)])
set_option maxRecDepth 100000 in
/-- the beginning of a row, up to a place -/
theorem cut_to (ao : Option Addr) (n c t : Nat) (htc : t ≤ c) : ∀ W, (Instr.sliceAt 22 (.slice ao n c) none (some (.int .i64 t)) none).run Try.prog W = .ok (.slice ao t c) W := by
  have t1 : (0 : Int) ≤ (t : Int) := by omega
  have t3 : (t : Int) ≤ (c : Int) := by omega
  intro W
  cases ao with
  | none => go_simp
  | some x => go_simp
/-- append of nothing -/
theorem run_append_zero {P : Program} {w : World} (base : Nat) (t ty e : TypeId) (i : TypeInfo) (size : Nat) (ht : P.underlying t = some (.slice e)) (hi : P.info? e = some i)
    (v : Value) (n : Nat) (xs : List Value) (hown : w.ownsRow base e size v n xs) (ao : Option Addr) (c : Nat) :
    (Builtin.append_ #[t, t] ty #[v, .slice ao 0 c]).run P w = .ok v w := by
  have hl : ∀ x, (loadCells x 0).run P w = .ok #[] w := fun x => run_loadCells_list (P := P) w x [] (fun j v h => by simp at h)
  rcases hown.2 with ⟨rfl, rfl⟩ | ⟨g, cap, cur, rfl, _, _, hnc, _⟩
  · cases ao <;> simp [Builtin.append_, run_underlying ht, sizeOf, typeInfo, hi, Builtin.lenOf, Builtin.firstCells, hl]
  · cases ao <;> simp [Builtin.append_, run_underlying ht, sizeOf, typeInfo, hi, Builtin.lenOf, Builtin.firstCells, hnc, storeCells, hl]
theorem wpList_app_zero {P : Program} {w : World} {ops : Array Oper} {rest : List Oper} {o : Oper} {a : Act} {Q : Exit → Act → World → Prop} (hgd : o.guard = none) (s x : Operand) (t : TypeId)
    (ho : o.op = .call { callee := .builtin .append, args := #[s, x], argTypes := #[t, t] })
    (base : Nat) (e : TypeId) (i : TypeInfo) (size : Nat) (ht : P.underlying t = some (.slice e)) (hi : P.info? e = some i)
    (v : Value) (n : Nat) (xs : List Value) (hs : a.eval s = v) (hown : w.ownsRow base e size v n xs) (ao : Option Addr) (c : Nat) (hx : a.eval x = .slice ao 0 c)
    (h : wpList P ops Q rest (a.put o.dst v) w) : wpList P ops Q (o :: rest) a w := by
  refine wpList_plain hgd fun K hK => ?_
  have hr := run_append_zero (P := P) base t o.type e i size ht hi v n xs hown ao c
  unfold Oper.wp execOp
  simp only [ho, resolve, invoke, builtin, Sem.run_bind, Sem.run_pure, Result.andThen_ok, List.map_toArray, List.map_cons, List.map_nil, hs, hx, hr]
  exact hK _ _ h
theorem ints_at {l : List Int} {i : Nat} {x : Int} (h : l[i]? = some x) : (ints l)[i]? = some (.int .i64 x) := by simp [ints, h]
def arrV (A : Nat → Nat) : List Value := [.int .i64 (A 0), .int .i64 (A 1), .int .i64 (A 2), .int .i64 (A 3), .int .i64 (A 4), .int .i64 (A 5)]
theorem arrV_get {A : Nat → Nat} {k : Nat} (h : k < 6) : (arrV A)[k]? = some (.int .i64 (A k)) := by
  unfold arrV
  match k, h with
  | 0, _ => rfl
  | 1, _ => rfl
  | 2, _ => rfl
  | 3, _ => rfl
  | 4, _ => rfl
  | 5, _ => rfl
theorem arrV_set {A : Nat → Nat} {k c : Nat} (h : k < 6) : (arrV A).set k (.int .i64 ((A k + c : Nat) : Int)) = arrV (upA A k c) := by
  unfold arrV upA
  match k, h with
  | 0, _ => rfl
  | 1, _ => rfl
  | 2, _ => rfl
  | 3, _ => rfl
  | 4, _ => rfl
  | 5, _ => rfl
theorem own_spot {w : World} {base e size n m c : Nat} {a : Option Addr} {xs : List Value} (h : w.ownsRow base e size (.slice a m c) n xs) : a = none ∨ ∃ g o, a = some ⟨g, o, none⟩ := by
  rcases h.2 with ⟨h', _⟩ | ⟨g', cap', cur, h', _⟩
  · left; simpa using congrArg (fun v => match v with | Value.slice a _ _ => a | _ => none) h'
  · right; exact ⟨g', 0, by simpa using congrArg (fun v => match v with | Value.slice a _ _ => a | _ => none) h'⟩
/-- what the loop keeps -/
def BgR (W0 : World) (N : Int) (cl : Nat → Nat) (L : List KeyL) (n ga : Nat) (v16 v18 : Value) (wr : World) : Prop := ∃ (i mm : Nat) (S : List PS) (A : Nat → Nat) (a : Option Addr) (c : Nat), v18 = .int .i64 i ∧ v16 = .slice a mm c ∧ RowKit.Hid (J1 W0 wr W0.heap.size N S (L.take mm) (.slice a mm c) mm ((L.take mm).flatMap KeyL.cells)) ∧
  RowKit.Hid (BgI cl L n S A mm i) ∧ RowKit.Hid (stepP N S (L.take mm) = none) ∧ RowKit.Hid (i ≤ mm + nw S) ∧ RowKit.Hid ((mm : Int) ≤ N) ∧ RowKit.Hid (Blk wr ga 68 (arrV A))
/-- which shard is put in, and how much -/
def BgC (V : World) (S : List PS) (v20 : Value) (wx : World) : Prop := ∃ (k : Nat) (s : PS), v20 = .int .i64 k ∧ RowKit.Hid (S[k]? = some s) ∧ RowKit.Hid (s.wanted = true) ∧ V = wx
def BgE (W0 : World) (N : Int) (S : List PS) (L : List KeyL) (m2 ga : Nat) (A : Nat → Nat) (v16 : Value) (wx : World) : Prop := ∃ (wy : World) (a : Option Addr) (c : Nat), wy = wx ∧ v16 = .slice a m2 c ∧ J1 W0 wx W0.heap.size N S (L.take m2) (.slice a m2 c) m2 ((L.take m2).flatMap KeyL.cells) ∧ Blk wx ga 68 (arrV A)
def BgD (V : World) (v21 : Value) (wx : World) : Prop := ∃ (c : Nat), v21 = .int .i64 c ∧ 1 ≤ c ∧ c ≤ 5 ∧ V = wx
set_option maxRecDepth 100000 in
set_option maxHeartbeats 64000000 in
theorem begins_law (w : World) (ao : Option Addr) (na ca : Nat) (la : List ByteArray) (q : ByteArray) (k m : Int) (wa : Option Addr) (wc : Nat) (ws : List Nat) (tu : Option Addr) (tc : Nat) (ts : List Int) (zu : Option Addr) (zc : Nat) (zs : List Int) (ha : RdT w ao na ca la) (hwa : ∀ s ∈ la, s.size ≤ maxLen) (hq : q.size ≤ maxLen)
    (hw : Rd w wa ws.length wc (u8s ws)) (hwb : ∀ x ∈ ws, x < 256) (ht : Rd w tu ts.length tc (ints ts)) (hz : Rd w zu zs.length zc (ints zs)) :
    Calls Try.prog 8 #[.slice ao na ca, .agg #[.string q, .int .i64 k, .int .i64 m], .slice wa ws.length wc, .slice tu ts.length tc, .slice zu zs.length zc] w fun e w' => e = .returned (.bool true) ∧ Below w.heap.size w w' := by
  have hna := ha.len
  subst hna
  obtain ⟨j0, hinf, hz0, hz1, hz2⟩ := info_parts infoI2
  have HJ0 := Lib.hid hinf
  have HY0 := Lib.hid hz0
  have HY1 := Lib.hid hz1
  have HY2 : RowKit.Hid (j0.bytes = 24) := hz2
  clear hinf hz0 hz1 hz2
  have HB := Lib.hid ((Below.refl _ w).alloc (Nat.le_refl _) (.cells #[.string q, .int .i64 k, .int .i64 m] 59))
  have HK := Lib.hid (show Blk (w.alloc (.cells #[.string q, .int .i64 k, .int .i64 m] 59)) w.heap.size 59 [.string q, .int .i64 k, .int .i64 m] from heap_alloc_new w _)
  obtain ⟨W, hW⟩ : ∃ W, w.alloc (.cells #[.string q, .int .i64 k, .int .i64 m] 59) = W := ⟨_, rfl⟩
  rw [hW] at HB HK
  have hcapA := ha.2.1
  have hcmA := ha.2.2.1
  unfold maxLen at hcmA
  have hcapW := hw.2.1
  have hcmW := hw.2.2.1
  unfold maxLen at hcmW
  have hcapT := ht.2.1
  have hcmT := ht.2.2.1
  unfold maxLen at hcmT
  have hcapZ := hz.2.1
  have hcmZ := hz.2.2.1
  unfold maxLen at hcmZ
  have HGA := Lib.hid (fun V h => greatT_any ao la.length ca la V h hwa)
  have HOA := Lib.hid (fun V h => lgood_any ao la.length ca la V h hwa)
  have HMA := Lib.hid (fun V => rmay_any q k m V hq)
  have HZ : RowKit.Hid (∀ V, Calls Try.prog 10 #[] V fun e w' => e = .returned (.bool true) ∧ Below V.heap.size V w') := fun V => awake_any V
  have HA := Lib.hid (RdT.below ha HB.out rfl)
  have HWR := Lib.hid (Rd.below hw HB.out rfl)
  have HTR := Lib.hid (Rd.below ht HB.out rfl)
  have HZR := Lib.hid (Rd.below hz HB.out rfl)
  have HWB := Lib.hid hwb
  clear ha hwa hw ht hz hwb
  unfold maxLen at hq
  have t0 : W.cell? ⟨w.heap.size, 0, none⟩ = some (.string q) := HK.out.cell 0
  have t1 : W.cell? ⟨w.heap.size, 1, none⟩ = some (.int .i64 k) := HK.out.cell 1
  have t2 : W.cell? ⟨w.heap.size, 2, none⟩ = some (.int .i64 m) := HK.out.cell 2
  go_enter Try.func8, Try.ntmps8
  go_wp2_with (rw [hW])
  clear hW
  refine (HGA.out _ HA.out).mono ?_
  rintro e w1 ⟨rfl, rfl⟩
  cases hg : greatT la
  case true =>
    clear hg
    go_wp2_with fail
    refine (HZ.out _).mono ?_
    rintro e w1 ⟨rfl, hb⟩
    have HB3 := Lib.hid (HB.out.trans (hb.mono HB.out.size))
    clear hb
    go_wp2_with fail
    go_ret
    exact ⟨rfl, HB3.out⟩
  have hla := (greatT_false hg).1
  have HWA := Lib.hid (fun s hs => Nat.le_trans ((greatT_false hg).2 s hs) (by decide : 100 ≤ 1000))
  clear hg HGA
  by_cases hqs : 100 < q.size
  · have d1 : decide ((100 : Int) < (q.size : Int)) = true := by simp; omega
    have d2 : decide (100 < q.size) = true := by simpa using hqs
    go_wp2_with fail
    refine (HZ.out _).mono ?_
    rintro e w1 ⟨rfl, hb⟩
    have HB3 := Lib.hid (HB.out.trans (hb.mono HB.out.size))
    clear hb
    go_wp2_with fail
    go_ret
    exact ⟨rfl, HB3.out⟩
  have d1 : decide ((100 : Int) < (q.size : Int)) = false := by simp; omega
  have d2 : decide (100 < q.size) = false := by simpa using hqs
  have hq1 : q.size ≤ 1000 := by omega
  cases hm : mayQ q k m
  case false =>
    rw [hm] at HMA
    clear hm
    go_wp2_with fail
    refine (HMA.out _).mono ?_
    rintro e V3 ⟨rfl, hb⟩
    clear t0 t1 t2
    have ZZ := Lib.hid (HB.out.trans ((hb).mono HB.out.size))
    clear HB
    have HB := ZZ
    clear ZZ
    clear hb
    go_wp2_with fail
    refine (HZ.out _).mono ?_
    rintro e w1 ⟨rfl, hb⟩
    have HB3 := Lib.hid (HB.out.trans (hb.mono HB.out.size))
    clear hb
    go_wp2_with fail
    go_ret
    exact ⟨rfl, HB3.out⟩
  have hm4 : (0 : Int) ≤ k ∧ k ≤ 4 ∧ 1 ≤ m ∧ m ≤ 10 := by
    unfold mayQ at hm
    simp only [Bool.and_eq_true, decide_eq_true_eq] at hm
    obtain ⟨⟨⟨⟨_, a⟩, b⟩, c⟩, d⟩ := hm
    exact ⟨a, b, c, d⟩
  rw [hm] at HMA
  clear hm
  go_wp2_with fail
  refine (HMA.out _).mono ?_
  rintro e V3 ⟨rfl, hb⟩
  clear t0 t1 t2
  have ZZ := Lib.hid (HB.out.trans ((hb).mono HB.out.size))
  clear HB
  have HB := ZZ
  clear ZZ
  have ZZ := Lib.hid (HK.out.below hb HK.out.lt)
  clear HK
  have HK := ZZ
  clear ZZ
  have ZZ := Lib.hid (RdT.below HA.out hb rfl)
  clear HA
  have HA := ZZ
  clear ZZ
  have ZZ := Lib.hid (Rd.below HWR.out hb rfl)
  clear HWR
  have HWR := ZZ
  clear ZZ
  have ZZ := Lib.hid (Rd.below HTR.out hb rfl)
  clear HTR
  have HTR := ZZ
  clear ZZ
  have ZZ := Lib.hid (Rd.below HZR.out hb rfl)
  clear HZR
  have HZR := ZZ
  clear ZZ
  clear hb HMA
  obtain ⟨ga, hga⟩ : ∃ g, goodT la = g := ⟨_, rfl⟩
  have HGV := Lib.hid hga
  rw [hga] at HOA
  clear hga
  go_wp2_with fail
  refine (HOA.out _ HA.out).mono ?_
  rintro e V4 ⟨rfl, hb⟩
  clear HOA
  have ZZ := Lib.hid (HB.out.trans ((hb).mono HB.out.size))
  clear HB
  have HB := ZZ
  clear ZZ
  have ZZ := Lib.hid (HK.out.below hb HK.out.lt)
  clear HK
  have HK := ZZ
  clear ZZ
  have ZZ := Lib.hid (RdT.below HA.out hb rfl)
  clear HA
  have HA := ZZ
  clear ZZ
  have ZZ := Lib.hid (Rd.below HWR.out hb rfl)
  clear HWR
  have HWR := ZZ
  clear ZZ
  have ZZ := Lib.hid (Rd.below HTR.out hb rfl)
  clear HTR
  have HTR := ZZ
  clear ZZ
  have ZZ := Lib.hid (Rd.below HZR.out hb rfl)
  clear HZR
  have HZR := ZZ
  clear ZZ
  clear hb
  by_cases h0 : ga = 0
  rotate_left
  · have d3 : (ga != 0) = true := by simpa using h0
    clear h0 HGV
    go_wp2_with fail
    refine (HZ.out _).mono ?_
    rintro e w1 ⟨rfl, hb⟩
    have HB3 := Lib.hid (HB.out.trans (hb.mono HB.out.size))
    clear hb
    go_wp2_with fail
    go_ret
    exact ⟨rfl, HB3.out⟩
  subst h0
  have RS := Lib.hid (show RiseT la from (goodT_of HGV.out).2.2)
  clear HGV
  obtain ⟨hk0, hk4, hm1, hm10⟩ := hm4
  by_cases hts : 100 < ts.length
  · have d3 : decide ((100 : Int) < (ts.length : Int)) = true := by simp; omega
    have d4 : decide (100 < ts.length) = true := by simpa using hts
    go_wp2_with fail
    refine (HZ.out _).mono ?_
    rintro e w1 ⟨rfl, hb⟩
    have HB3 := Lib.hid (HB.out.trans (hb.mono HB.out.size))
    clear hb
    go_wp2_with fail
    go_ret
    exact ⟨rfl, HB3.out⟩
  have d3ts : decide ((100 : Int) < (ts.length : Int)) = false := by simp; omega
  have d4ts : decide (100 < ts.length) = false := by simpa using hts
  by_cases hzs : 100 < zs.length
  · have d3 : decide ((100 : Int) < (zs.length : Int)) = true := by simp; omega
    have d4 : decide (100 < zs.length) = true := by simpa using hzs
    go_wp2_with fail
    refine (HZ.out _).mono ?_
    rintro e w1 ⟨rfl, hb⟩
    have HB3 := Lib.hid (HB.out.trans (hb.mono HB.out.size))
    clear hb
    go_wp2_with fail
    go_ret
    exact ⟨rfl, HB3.out⟩
  have d3zs : decide ((100 : Int) < (zs.length : Int)) = false := by simp; omega
  have d4zs : decide (100 < zs.length) = false := by simpa using hzs
  obtain ⟨j, hj, hjl⟩ := @low_six (ws.length : Int) 6 (by omega)
  have HL1 := Lib.hid (fun V => low_any (ws.length : Int) 6 V (by omega) (by omega))
  rw [show (6 : Int) = ((6 : Nat) : Int) from rfl, hj] at HL1
  clear hj
  obtain ⟨n, hn1⟩ : ∃ n, j + 1 = n := ⟨_, rfl⟩
  have g1 : (1 : Int) + (j : Int) = (n : Int) := by omega
  have nA : 1 ≤ n := by omega
  have nB : n ≤ 6 := by omega
  go_wp2_with fail
  refine (HL1.out _).mono ?_
  rintro e w1 ⟨rfl, rfl⟩
  clear HL1 d1 d2 d3ts d4ts d3zs d4zs hqs
  have t0 : V4.cell? ⟨w.heap.size, 0, none⟩ = some (.string q) := HK.out.cell 0
  have t1 : V4.cell? ⟨w.heap.size, 1, none⟩ = some (.int .i64 k) := HK.out.cell 1
  have t2 : V4.cell? ⟨w.heap.size, 2, none⟩ = some (.int .i64 m) := HK.out.cell 2
  have AL := Lib.hid (fun V h => rall_any V ao la.length ca la q k h (by omega) HWA.out hq1)
  have hal := allL_len la q k
  have HSL := Lib.hid (allL_sort (words := la) q k RS.out)
  generalize allL la q k = L at *
  go_upto_region 4 with fail
  try rw [g1]
  clear g1 hn1 hjl
  go_wp2_with fail
  refine (AL.out _ HA.out).mono ?_
  rintro e V5 ⟨aL, cL, rfl, hown, hb⟩
  clear t0 t1 t2 AL
  have HX := Lib.hid (ownsRow_rdE (enc := KeyL.cells) (fun _ => rfl) rfl hown)
  have HXS := Lib.hid (own_spot hown)
  have ZZ := Lib.hid (HB.out.trans ((hb).mono HB.out.size))
  clear HB
  have HB := ZZ
  clear ZZ
  have ZZ := Lib.hid (HK.out.below hb HK.out.lt)
  clear HK
  have HK := ZZ
  clear ZZ
  have ZZ := Lib.hid (RdT.below HA.out hb rfl)
  clear HA
  have HA := ZZ
  clear ZZ
  have ZZ := Lib.hid (Rd.below HWR.out hb rfl)
  clear HWR
  have HWR := ZZ
  clear ZZ
  have ZZ := Lib.hid (Rd.below HTR.out hb rfl)
  clear HTR
  have HTR := ZZ
  clear ZZ
  have ZZ := Lib.hid (Rd.below HZR.out hb rfl)
  clear HZR
  have HZR := ZZ
  clear ZZ
  clear hown hb HA RS HWA
  have hL80 : L.length ≤ 80 := by omega
  go_wp2_with fail
  refine (cut_any aL cL L wa wc ws n V5 HX.out HWR.out HWB.out nA nB (by omega)).mono ?_
  rintro e V6 ⟨M, rfl, hpa, hb⟩
  have HPA := Lib.hid hpa
  have ZZ := Lib.hid (HB.out.trans ((hb).mono HB.out.size))
  clear HB
  have HB := ZZ
  clear ZZ
  have ZZ := Lib.hid (HK.out.below hb HK.out.lt)
  clear HK
  have HK := ZZ
  clear ZZ
  have ZZ := Lib.hid (Rd.below HWR.out hb rfl)
  clear HWR
  have HWR := ZZ
  clear ZZ
  have ZZ := Lib.hid (Rd.below HTR.out hb rfl)
  clear HTR
  have HTR := ZZ
  clear ZZ
  have ZZ := Lib.hid (Rd.below HZR.out hb rfl)
  clear HZR
  have HZR := ZZ
  clear ZZ
  have ZZ := Lib.hid (HX.out.below hb rfl)
  clear HX
  have HX := ZZ
  clear ZZ
  clear hpa hb
  have HCL := Lib.hid (fun j (_ : j < L.length) => clsF_lt (ws := ws) (i := j) (show 0 < n by omega))
  generalize clsF ws n = cl at *
  obtain ⟨i0, hi, hy0, hy1, hy2⟩ := info_parts info_int
  have hmk : ∀ V : World, (Instr.makeSlice 29 (.int .i64 (n : Int)) (.int .i64 (n : Int))).run Try.prog V = .ok (.slice (some ⟨V.heap.size, 0, none⟩) n n) (V.alloc (.cells (madeCells (Value.int .i64 0).cells (n * 1)) 3)) := by
    intro V
    have q := run_make (P := Try.prog) V 29 3 i0 _ Try.underlying29 hi hy0 .i64 .i64 n n (by omega) (Int.le_refl _) (by rw [hy2]; omega) (by omega)
    rw [hy1] at q
    simpa using q
  clear hi hy0 hy1 hy2
  have HMC := Lib.hid (made_one (.int .i64 0) (n * 1) rfl)
  generalize madeCells (Value.int .i64 0).cells (n * 1) = mc at *
  rw [Nat.mul_one] at HMC
  go_upto_region 6 with fail
  have HK6 := Lib.hid (HK.out)
  have HGB : RowKit.Hid (Below V6.heap.size V6 V6.drew) := below_drewN (Below.refl _ _) 1
  refine wp_region_held_drew (S := (fun w' => w'.cell? ⟨w.heap.size, 2, none⟩ = some (.int .i64 m))) (by kernel_rfl) (by first | exact HW0c.out | exact (Blk.below HK6.out HGB.out (Blk.lt HK6.out)).cell 2) (fun hHeld => ?_)
  refine takeO 0 (some 68) (v := ?_) rfl rfl (by kernel_rfl) (by kernel_rfl) (by kernel_rfl) (fun _ _ _ h => h) (Or.inl ⟨by rfl, ?_⟩) (by assumption) ?_
  rotate_left 1
  · intro w hSw; (try dsimp only at hSw); go_simp; all_goals with_reducible rfl
  try simp only [Act.put, List.setIfInBounds_toArray, List.set_cons_zero, List.set_cons_succ]
  refine takeO 2 (some 70) (v := ?_) rfl rfl (by kernel_rfl) (by kernel_rfl) (by kernel_rfl) (fun _ _ _ h => h) (Or.inl ⟨by rfl, ?_⟩) (by assumption) ?_
  rotate_left 1
  · intro w hSw; (try dsimp only at hSw); go_simp; all_goals with_reducible rfl
  try simp only [Act.put, List.setIfInBounds_toArray, List.set_cons_zero, List.set_cons_succ]
  refine takeO 3 (some 71) (v := ?_) rfl rfl (by kernel_rfl) (by kernel_rfl) (by kernel_rfl) (fun _ _ _ h => h) (Or.inl ⟨by rfl, ?_⟩) (by assumption) ?_
  rotate_left 1
  · intro w hSw; (try dsimp only at hSw); go_simp; all_goals with_reducible rfl
  try simp only [Act.put, List.setIfInBounds_toArray, List.set_cons_zero, List.set_cons_succ]
  refine wpAnyH_ready (rs := [1]) (by kernel_rfl) (by simp) ?_
  refine AllReadyH.cons rfl (fun K hK => ?_) AllReadyH.nil
  go_simp
  have HKa := Lib.hid (show Blk (V6.drew.alloc (.cells mc 3)) w.heap.size 59 [.string q, .int .i64 k, .int .i64 m] from HK6.out.alloc _)
  have HW0c := Lib.hid (HKa.out.cell 2)
  have HM0 := Lib.hid (show Rd (V6.drew.alloc (.cells mc 3)) (some ⟨V6.drew.heap.size, 0, none⟩) n n (ints (List.replicate n 0)) from rd_new V6.drew 3 (0, 0) mc n _ (by rw [HMC.out]; simp [ints]) (by simp [ints]) (by unfold maxLen; omega))
  refine hK.out _ _ (by first | exact HW0c.out | exact (Blk.below HK6.out HGB.out (Blk.lt HK6.out)).cell 2) (fun hHeld => ?_)
  clear hK K
  try simp only [Act.put, List.setIfInBounds_toArray, List.set_cons_zero, List.set_cons_succ]
  refine wpAnyH_ready (rs := [4]) (by kernel_rfl) (by simp) ?_
  refine AllReadyH.cons rfl (fun K hK => ?_) AllReadyH.nil
  go_simp
  refine (mnew_any _ n n (List.replicate n 0) m _ HM0.out nA nB hm1 hm10).mono ?_; rintro e V7 ⟨rfl, hMG, hb⟩; have HMG := Lib.hid hMG; have HBN := Lib.hid hb; have HW0c := Lib.hid (show V7.cell? ⟨w.heap.size, 2, none⟩ = some (.int .i64 m) from (HKa.out.below hb HKa.out.lt).cell 2); clear hMG hb
  go_wp2_with fail
  refine hK.out _ _ (by first | exact HW0c.out | exact (Blk.below HK6.out HGB.out (Blk.lt HK6.out)).cell 2) (fun hHeld => ?_)
  clear hK K
  try simp only [Act.put, List.setIfInBounds_toArray, List.set_cons_zero, List.set_cons_succ]
  refine takeO 5 (some 67) (v := ?_) rfl rfl (by kernel_rfl) (by kernel_rfl) (by kernel_rfl) (fun _ _ _ h => h) (Or.inl ⟨by rfl, ?_⟩) (by assumption) ?_
  rotate_left 1
  · intro w hSw; (try dsimp only at hSw); go_simp; all_goals with_reducible rfl
  try simp only [Act.put, List.setIfInBounds_toArray, List.set_cons_zero, List.set_cons_succ]
  refine takeO 6 (some 73) (v := ?_) rfl rfl (by kernel_rfl) (by kernel_rfl) (by kernel_rfl) (fun _ _ _ h => h) (Or.inl ⟨by rfl, ?_⟩) (by assumption) ?_
  rotate_left 1
  · intro w hSw; (try dsimp only at hSw); go_simp; all_goals with_reducible rfl
  try simp only [Act.put, List.setIfInBounds_toArray, List.set_cons_zero, List.set_cons_succ]
  refine takeO 7 (some 74) (v := ?_) rfl rfl (by kernel_rfl) (by kernel_rfl) (by kernel_rfl) (fun _ _ _ h => h) (Or.inl ⟨by rfl, ?_⟩) (by assumption) ?_
  rotate_left 1
  · intro w hSw; (try dsimp only at hSw); go_simp; all_goals with_reducible rfl
  try simp only [Act.put, List.setIfInBounds_toArray, List.set_cons_zero, List.set_cons_succ]
  refine takeO 8 (some 14) (v := ?_) rfl rfl (by kernel_rfl) (by kernel_rfl) (by kernel_rfl) (fun _ _ _ h => h) (Or.inl ⟨by rfl, ?_⟩) (by assumption) ?_
  rotate_left 1
  · intro w hSw; (try dsimp only at hSw); go_simp; all_goals with_reducible rfl
  try simp only [Act.put, List.setIfInBounds_toArray, List.set_cons_zero, List.set_cons_succ]
  refine takeO 9 (some 15) (v := ?_) rfl rfl (by kernel_rfl) (by kernel_rfl) (by kernel_rfl) (fun _ _ _ h => h) (Or.inl ⟨by rfl, ?_⟩) (by assumption) ?_
  rotate_left 1
  · intro w hSw; (try dsimp only at hSw); go_simp; all_goals with_reducible rfl
  try simp only [Act.put, List.setIfInBounds_toArray, List.set_cons_zero, List.set_cons_succ]
  refine wpAnyH_done (by kernel_rfl) ?_ _
  have hs0 : (V6.drew.alloc (.cells mc 3)).heap.size = V6.heap.size + 1 := by simp
  have HB0 := Lib.hid ((HB.out.drew).alloc (HB.out.drew).size (.cells mc 3))
  have HPA0 := Lib.hid (HPA.out.below (((Below.refl _ V6).drew).alloc (Nat.le_refl _) (.cells mc 3)))
  have HX0 := Lib.hid (HX.out.below (((Below.refl _ V6).drew).alloc (Nat.le_refl _) (.cells mc 3)) rfl)
  have HT0 := Lib.hid (Rd.below HTR.out (((Below.refl _ V6).drew).alloc (Nat.le_refl _) (.cells mc 3)) rfl)
  have HZ0 := Lib.hid (Rd.below HZR.out (((Below.refl _ V6).drew).alloc (Nat.le_refl _) (.cells mc 3)) rfl)
  obtain ⟨W0, hW0⟩ : ∃ V, (V6.drew.alloc (.cells mc 3)) = V := ⟨_, rfl⟩
  rw [hW0] at hs0 HMG HBN HKa HB0 HPA0 HX0 HT0 HZ0
  have HK0 := Lib.hid HKa.out
  clear hW0 HM0 HKa HK6 HGB hmk HMC HB HPA HX HTR HZR HWR HK HW0c
  rw [← hs0]
  clear hs0
  have HJ := Lib.hid (show J1 W0 V7 W0.heap.size m ((List.replicate n (0 : Int)).map newPS) (L.take 0) (.slice none 0 0) 0 ((L.take 0).flatMap KeyL.cells) from by
    obtain ⟨gs, c, M, sp, ta, tc, h1, h2, h3, h4, h5, h6, h7, h8, h9, h10⟩ := HMG.out
    exact ⟨World.ownsRow_nil _ _ _ _, gs, c, M, sp, ta, tc, ⟨h1, h2, h3, h4, h5, h6, h7, h8, h9, h10⟩, HBN.out, by simp; omega, fun k hk => by cases hk⟩)
  clear HMG HBN
  have HAR := Lib.hid (show Blk (V7.alloc (.cells #[.int .i64 0, .int .i64 0, .int .i64 0, .int .i64 0, .int .i64 0, .int .i64 0] 68)) V7.heap.size 68 (arrV (fun _ => 0)) from heap_alloc_new V7 _)
  have HJ' := Lib.hid (HJ.out.below ((Below.refl _ V7).alloc (Nat.le_refl _) (.cells #[.int .i64 0, .int .i64 0, .int .i64 0, .int .i64 0, .int .i64 0, .int .i64 0] 68)))
  have HGA0 := Lib.hid (show W0.heap.size ≤ V7.heap.size from HJ.out.own.2.size)
  clear HJ
  have hq2 := fun V => ptr_ne W0.heap.size 0 V
  go_wp2_with fail
  clear hq2
  obtain ⟨gA, hgA⟩ : ∃ g, V7.heap.size = g := ⟨_, rfl⟩
  rw [hgA] at HAR HGA0 ⊢
  clear hgA
  go_loopw [16, 18] (fun v16 v18 wr => BgR W0 m cl L n gA v16 v18 wr) (fun _ v _ => 40 - (intOf v).toNat)
  case atStart => exact ⟨0, 0, _, _, none, 0, rfl, rfl, HJ'.out, (bg_init cl L n m).1, (bg_init cl L n m).2, Nat.zero_le _, by unfold RowKit.Hid; omega, HAR.out⟩
  case round =>
    clear HJ' HAR
    obtain ⟨i, mm, S, A, a16, c16, rfl, rfl, HJ, HG, HST, HI, HM, HARR⟩ := hrel
    have hi16 : i ≤ 16 := by
      have h1 := HI.out
      have h2 := nw_le S
      have h3 := HG.out.len
      have h4 := HM.out
      omega
    have hmm : mm ≤ L.length := HG.out.le
    have hmN : (mm : Int) ≤ m := HM.out
    have k1 : (i : Int) < (ts.length : Int) + 70 := by omega
    have HBW := Lib.hid HJ.out.own.2
    have HWA := Lib.hid (wants_any W0.heap.size W0.heap.size m S (L.take mm) wr HJ.out.own.1)
    have hwln := wants_len m S (L.take mm)
    obtain ⟨wl, hwl⟩ : ∃ l, wantsP m S (L.take mm) = l := ⟨_, rfl⟩
    rw [hwl] at HWA hwln
    rw [HG.out.len] at hwln
    have HWL := Lib.hid hwl
    clear hwl
    go_wp2_with fail
    refine HWA.out.mono ?_
    clear HWA
    rintro e U1 ⟨aw, cw, rfl, hown, hb⟩
    have HRW := Lib.hid (ownI hown)
    have HJ1 := Lib.hid (HJ.out.below hb)
    have HAR1 := Lib.hid (HARR.out.below hb HARR.out.lt)
    clear hown hb HJ HARR HBW
    by_cases h0 : wl.length = 0
    · have e1 : ((wl.length : Int) == 0) = true := by rw [h0]; rfl
      have HE := Lib.hid (bg_end HCL.out HG.out hmN HST.out (by rw [HWL.out]; exact List.eq_nil_of_length_eq_zero h0))
      clear h0 HRW HWL HST HI HM
      have HD := Lib.hid (done_any W0.heap.size W0.heap.size m S (L.take mm) U1 HJ1.out.own.1)
      rw [HE.out.1] at HD
      go_wp2_with fail
      refine HD.out.mono ?_
      rintro e U2 ⟨rfl, hb⟩
      have HJ2 := Lib.hid (HJ1.out.below hb)
      clear hb HD HJ1 e1
      have t2 : U2.cell? ⟨w.heap.size, 2, none⟩ = some (.int .i64 m) := (HK0.out.below HJ2.out.own.2 HK0.out.lt).cell 2
      have hm2 : (if m < (L.length : Int) then m else (L.length : Int)) = (mm : Int) := by have q := HE.out.2; split <;> omega
      have HTL := Lib.hid (told_any W0.heap.size W0.heap.size m S (L.take mm) U2 HJ2.out.own.1)
      have hlt : (L.take mm).length = mm := by rw [List.length_take]; omega
      generalize hT : L.take mm = T at *
      rw [hlt] at HTL
      have HLT := Lib.hid hlt
      have HTT := Lib.hid hT
      clear hlt hT
      go_wp2_with fail
      refine HTL.out.mono ?_
      clear HTL
      rintro e U3 ⟨a7, c7, rfl, hown, hb⟩
      have HR7 := Lib.hid (ownsRow_rdE (enc := KeyL.cells) (fun _ => rfl) HLT.out hown)
      have HJ3 := Lib.hid (HJ2.out.below hb)
      clear hown hb HJ2 hm2 t2
      have HR8 := Lib.hid (ownsRow_rdE (enc := KeyL.cells) (fun _ => rfl) HLT.out HJ3.out.1)
      go_wp2_with fail
      refine (sameI_any a7 mm c7 a16 mm c16 T T U3 HR7.out HR8.out).mono ?_
      rintro e U4 ⟨rfl, hd⟩
      rw [show eqIs T T = true from eqIs_same T]
      have HB9 := Lib.hid (HB0.out.trans ((HJ3.out.below (hd.below _)).own.2.mono HB0.out.size))
      clear hd HJ3 HR7 HR8
      go_wp2_with fail
      refine (HZ.out _).mono ?_
      rintro e w1 ⟨rfl, hb⟩
      have HB3 := Lib.hid (HB9.out.trans (hb.mono HB9.out.size))
      clear hb
      go_wp2_with fail
      go_ret
      exact ⟨rfl, HB3.out⟩
    · have e1 : ((wl.length : Int) == 0) = false := by rw [beq_eq_false_iff_ne]; omega
      have hwl1 : 0 < wl.length := by omega
      clear h0
      obtain ⟨x0, hx0⟩ : ∃ x, wl[0]? = some x := ⟨_, List.getElem?_eq_getElem hwl1⟩
      have HW0 := Lib.hid (fun (j : Nat) (v : Int) (h : wl[j]? = some v) => bg_wants HWL.out h)
      have HDN := Lib.hid (show doneP m S (L.take mm) = false from by obtain ⟨_, _, _, _, _, h⟩ := HW0.out 0 x0 hx0; exact h)
      obtain ⟨bw, ow, rfl, hbw, hcw⟩ := HRW.out.2.2.2.2 0 hwl1
      rw [ints_at hx0, Nat.add_zero] at hcw
      obtain ⟨k0, s0, rfl, hs0, hw0, _⟩ := HW0.out 0 x0 hx0
      have HS0 := Lib.hid hs0
      have HW1 := Lib.hid hw0
      clear hs0 hw0 hx0 k1
      have z1 : (0 : Int) < (wl.length : Int) := by omega
      go_upto_if 99 with fail
      clear hcw
      go_cut [20] from 96 to 109 (fun v20 wx => BgC U1 S v20 wx)
      case first =>
        by_cases hti : i < ts.length
        · have z4 : (i : Int) < (ts.length : Int) := by omega
          obtain ⟨bt, ot, rfl, hbt, hct⟩ := (HT0.out.below HJ1.out.own.2 rfl).2.2.2.2 i hti
          obtain ⟨vt, hvt⟩ : ∃ x, ts[i]? = some x := ⟨_, List.getElem?_eq_getElem hti⟩
          rw [ints_at hvt] at hct
          obtain ⟨jt, hjt, hjtl⟩ := @low_six vt wl.length hwl1
          have HLT := Lib.hid (fun V => low_any vt (wl.length : Int) V (by omega) (by omega))
          rw [hjt] at HLT
          obtain ⟨x2, hx2⟩ : ∃ x, wl[jt]? = some x := ⟨_, List.getElem?_eq_getElem hjtl⟩
          obtain ⟨b3, o3, e3, hb3, hc3⟩ := HRW.out.2.2.2.2 jt hjtl
          cases e3
          rw [ints_at hx2] at hc3
          obtain ⟨k2, s2, rfl, hs2, hw2, _⟩ := HW0.out jt x2 hx2
          have HS2 := Lib.hid hs2
          have HW2 := Lib.hid hw2
          clear hs2 hw2 hx2 hvt hjt
          have z6 : (jt : Int) < (wl.length : Int) := by omega
          go_wp2_with fail
          refine (HLT.out _).mono ?_
          rintro e w1 ⟨rfl, rfl⟩
          go_wp2_with fail
          go_meet
          exact ⟨k2, s2, rfl, HS2.out, HW2.out, rfl⟩
        · have z4 : ¬ (i : Int) < (ts.length : Int) := by omega
          go_wp2_with fail
          go_meet
          exact ⟨k0, s0, rfl, HS0.out, HW1.out, rfl⟩
      case rest =>
        obtain ⟨kk, s, rfl, HS, HW, rfl⟩ := hcut
        clear HW0 e1 hwl1 HS0 HW1 z1 HRW hbw HT0 hcapT hcmT
        go_upto_if 113 with fail
        go_cut [21] from 110 to 119 (fun v21 wx => BgD U1 v21 wx)
        case first =>
          by_cases hzi : i < zs.length
          · have z5 : (i : Int) < (zs.length : Int) := by omega
            obtain ⟨bz, oz, rfl, hbz, hcz⟩ := (HZ0.out.below HJ1.out.own.2 rfl).2.2.2.2 i hzi
            obtain ⟨vz, hvz⟩ : ∃ x, zs[i]? = some x := ⟨_, List.getElem?_eq_getElem hzi⟩
            rw [ints_at hvz] at hcz
            obtain ⟨j5, hj5, hj5l⟩ := @low_six vz 5 (by omega)
            have HL5 := Lib.hid (fun V => low_any vz 5 V (by omega) (by omega))
            rw [show (5 : Int) = ((5 : Nat) : Int) from rfl, hj5] at HL5
            obtain ⟨c5, hc5⟩ : ∃ c, j5 + 1 = c := ⟨_, rfl⟩
            have g5 : (1 : Int) + (j5 : Int) = (c5 : Int) := by omega
            have c5a : 1 ≤ c5 := by omega
            have c5b : c5 ≤ 5 := by omega
            clear hj5 hc5 hvz
            go_wp2_with fail
            refine (HL5.out _).mono ?_
            rintro e w1 ⟨rfl, rfl⟩
            go_wp2_with fail
            go_meet
            exact ⟨c5, rfl, c5a, c5b, rfl⟩
          · have z5 : ¬ (i : Int) < (zs.length : Int) := by omega
            go_wp2_with fail
            go_meet
            exact ⟨5, rfl, by omega, by omega, rfl⟩
        case rest =>
          obtain ⟨cc, rfl, hc1, hc5, rfl⟩ := hcut
          clear HZ0 hcapZ hcmZ
          have hkn : kk < n := by rw [← HG.out.len]; exact (List.getElem?_eq_some_iff.1 HS.out).1
          have HSH := Lib.hid (HG.out.sh kk s HS.out)
          obtain ⟨pv, hpv⟩ : ∃ v, M[kk]? = some v := ⟨_, List.getElem?_eq_getElem (by rw [HPA0.out.ml]; exact hkn)⟩
          obtain ⟨ap, cp, rfl, hop⟩ := HPA0.out.row kk pv hpv
          obtain ⟨pl, hpl⟩ : ∃ q, (partF cl L kk L.length).length = q := ⟨_, rfl⟩
          have hpll : pl ≤ L.length := by
            rw [← hpl]
            have : ∀ z, (partF cl L kk z).length ≤ z := by
              intro z
              induction z with
              | zero => exact Nat.le_refl _
              | succ z ih =>
                unfold partF
                rw [List.length_append]
                split
                · have : (L[z]?).toList.length ≤ 1 := by cases L[z]? <;> simp
                  omega
                · simp; omega
            exact this _
          have HPL := Lib.hid hpl
          have HPR0 := Lib.hid (ownsRow_rdE (enc := KeyL.cells) (fun _ => rfl) rfl hop)
          have HPS := Lib.hid (own_spot hop)
          have HPC := Lib.hid (show U1.drew.cell? ⟨V5.heap.size, kk, none⟩ = some (.slice ap pl cp) from by rw [← hpl]; exact ((HPA0.out.below HJ1.out.own.2).blk.cell kk).trans hpv)
          rw [hpl] at HPR0
          clear hpv hop hpl
          obtain ⟨a, hA⟩ : ∃ a, A kk = a := ⟨_, rfl⟩
          have ha : a ≤ pl := by rw [← hA, ← HPL.out]; exact HSH.out.hi
          have HAC := Lib.hid (show U1.drew.cell? ⟨gA, kk, none⟩ = some (.int .i64 (a : Nat)) from by rw [← hA]; exact (HAR1.out.cell kk).trans (arrV_get (by omega)))
          have HAK := Lib.hid hA
          clear hA
          obtain ⟨an, hsp, hrun, hrd⟩ := cut_from HPR0.out HPS.out ha
          have hcp := HPR0.out.2.1
          have hcp2 := HPR0.out.2.2.1
          unfold maxLen at hcp2
          obtain ⟨rl, hrl⟩ : ∃ q, pl - a = q := ⟨_, rfl⟩
          obtain ⟨rc, hrc⟩ : ∃ q, cp - a = q := ⟨_, rfl⟩
          have hrlc : rl ≤ rc := by omega
          rw [hrl, hrc] at hrun hrd
          have HRD := Lib.hid hrd
          clear hrd hsp
          have z1 : (0 : Int) ≤ (a : Int) := by omega
          have z2 : (a : Int) ≤ (pl : Int) := by omega
          have z3 : (kk : Int) < (n : Int) := by omega
          have z4 : (kk : Int) < 6 := by omega
          go_upto_region 22 with fail
          refine wp_region_held_drew (S := (fun w' => w'.cell? ⟨V5.heap.size, kk, none⟩ = some (.slice ap pl cp) ∧ w'.cell? ⟨gA, kk, none⟩ = some (.int .i64 (a : Nat)))) (by kernel_rfl) (by exact ⟨HPC.out, HAC.out⟩) (fun hHeld => ?_)
          refine takeO 0 (some 120) (v := ?_) rfl rfl (by kernel_rfl) (by kernel_rfl) (by kernel_rfl) (fun _ _ _ h => h) (Or.inl ⟨by rfl, ?_⟩) (by assumption) ?_
          rotate_left 1
          · intro w hSw; (try dsimp only at hSw); go_simp; all_goals with_reducible rfl
          try simp only [Act.put, List.setIfInBounds_toArray, List.set_cons_zero, List.set_cons_succ]
          refine takeO 1 (some 121) (v := ?_) rfl rfl (by kernel_rfl) (by kernel_rfl) (by kernel_rfl) (fun _ _ _ h => h) (Or.inl ⟨by rfl, ?_⟩) (by assumption) ?_
          rotate_left 1
          · intro w hSw; (try dsimp only at hSw); go_simp; all_goals with_reducible rfl
          try simp only [Act.put, List.setIfInBounds_toArray, List.set_cons_zero, List.set_cons_succ]
          refine takeO 2 (some 122) (v := ?_) rfl rfl (by kernel_rfl) (by kernel_rfl) (by kernel_rfl) (fun _ _ _ h => h) (Or.inl ⟨by rfl, ?_⟩) (by assumption) ?_
          rotate_left 1
          · intro w hSw; (try dsimp only at hSw); go_simp; all_goals with_reducible rfl
          try simp only [Act.put, List.setIfInBounds_toArray, List.set_cons_zero, List.set_cons_succ]
          refine takeO 3 (some 123) (v := ?_) rfl rfl (by kernel_rfl) (by kernel_rfl) (by kernel_rfl) (fun _ _ _ h => h) (Or.inl ⟨by rfl, ?_⟩) (by assumption) ?_
          rotate_left 1
          · intro w hSw; (try dsimp only at hSw); go_simp; all_goals with_reducible rfl
          try simp only [Act.put, List.setIfInBounds_toArray, List.set_cons_zero, List.set_cons_succ]
          refine takeO 4 (some 124) (v := ?_) rfl rfl (by kernel_rfl) (by kernel_rfl) (by kernel_rfl) (fun _ _ _ h => h) (Or.inl ⟨by rfl, ?_⟩) (by assumption) ?_
          rotate_left 1
          · intro w hSw; (try dsimp only at hSw); go_simp; all_goals with_reducible rfl
          try simp only [Act.put, List.setIfInBounds_toArray, List.set_cons_zero, List.set_cons_succ]
          refine takeO 5 (some 125) (v := ?_) rfl rfl (by kernel_rfl) (by kernel_rfl) (by kernel_rfl) (fun _ _ _ h => h) (Or.inl ⟨by rfl, ?_⟩) (by assumption) ?_
          rotate_left 1
          · intro w hSw; (try dsimp only at hSw); go_simp; all_goals with_reducible rfl
          try simp only [Act.put, List.setIfInBounds_toArray, List.set_cons_zero, List.set_cons_succ]
          refine takeO 6 (some 126) (v := ?_) rfl rfl (by kernel_rfl) (by kernel_rfl) (by kernel_rfl) (fun _ _ _ h => h) (Or.inl ⟨by rfl, ?_⟩) (by assumption) ?_
          rotate_left 1
          · intro w hSw; (try dsimp only at hSw); go_simp; all_goals with_reducible rfl
          try simp only [Act.put, List.setIfInBounds_toArray, List.set_cons_zero, List.set_cons_succ]
          refine takeO 7 (some 127) (v := ?_) rfl rfl (by kernel_rfl) (by kernel_rfl) (by kernel_rfl) (fun _ _ _ h => h) (Or.inl ⟨by rfl, ?_⟩) (by assumption) ?_
          rotate_left 1
          · intro w hSw; (try dsimp only at hSw); go_simp; all_goals with_reducible rfl
          try simp only [Act.put, List.setIfInBounds_toArray, List.set_cons_zero, List.set_cons_succ]
          refine takeO 8 (some 22) (v := ?_) rfl rfl (by kernel_rfl) (by kernel_rfl) (by kernel_rfl) (fun _ _ _ h => h) (Or.inl ⟨by rfl, ?_⟩) (by assumption) ?_
          rotate_left 1
          · intro w hSw; (try dsimp only at hSw); go_simp; all_goals with_reducible rfl
          try simp only [Act.put, List.setIfInBounds_toArray, List.set_cons_zero, List.set_cons_succ]
          refine wpAnyH_done (by kernel_rfl) ?_ _
          clear hrun
          obtain ⟨bl, hbl⟩ : ∃ q, min cc rl = q := ⟨_, rfl⟩
          have hmin1 : (if (rl : Int) < (cc : Int) then (rl : Int) else (cc : Int)) = (bl : Int) := by split <;> omega
          have hmin2 : (if rl < cc then (rl : Int) else (cc : Int)) = (bl : Int) := by split <;> omega
          have hct := cut_to an rl rc bl (by omega)
          have y1 : (0 : Int) ≤ (bl : Int) := by omega
          have y2 : bl ≤ rc := by omega
          have y3 : bl ≤ 5 := by omega
          have c2 : U1.drew.cell? ⟨gA, kk, none⟩ = some (.int .i64 (a : Nat)) := HAC.out
          have fz : ∀ o, U1.drew.frozen? ⟨gA, o, none⟩ = false := fun o => fz_of (o := o) HAR1.out
          go_upto_region 25 with fail
          clear hmin1 hmin2 hct c2 fz
          have hset : Frm (fun i => i = gA) U1 (U1.setCell ⟨gA, kk, none⟩ (.int .i64 ((a : Int) + (bl : Int)))).drew := ((Frm.refl (fun i => i = gA) U1).setCell ⟨gA, kk, none⟩ (.int .i64 ((a : Int) + (bl : Int))) (.inl rfl)).drew
          have HJ2 := Lib.hid (HJ1.out.far HAR1.out HGA0.out hset)
          have HAR2 := Lib.hid (show Blk (U1.setCell ⟨gA, kk, none⟩ (.int .i64 ((a : Int) + (bl : Int)))).drew gA 68 (arrV (upA A kk bl)) from by have q := Blk.set HAR1.out kk (.int .i64 ((A kk + bl : Nat) : Int)); rw [arrV_set (by omega), HAK.out, Int.natCast_add] at q; exact q)
          obtain ⟨U2, hU2⟩ : ∃ U, (U1.setCell ⟨gA, kk, none⟩ (.int .i64 ((a : Int) + (bl : Int)))).drew = U := ⟨_, rfl⟩
          rw [hU2] at HJ2 HAR2 ⊢
          clear hU2 hset HJ1 HAR1 HPC HAC
          obtain ⟨bL, hbL⟩ : ∃ b, ((partF cl L kk L.length).drop (A kk)).take cc = b := ⟨_, rfl⟩
          have hbLl : bL.length = bl := by rw [← hbL, List.length_take, List.length_drop, HPL.out, HAK.out, hrl]; omega
          obtain ⟨ee, hee⟩ : ∃ e, decide (bl = rl) = e := ⟨_, rfl⟩
          have HPU := Lib.hid (bg_put (T := L.take mm) (N := m) HSL.out HG.out HDN.out HS.out HW.out hc1 hc5 HI.out hbL (e := ee) (by rw [hbLl, HPL.out, HAK.out, hrl]; exact hee))
          rw [hbLl] at HPU
          have HBR := Lib.hid (show RdE KeyL.cells 2 U2 an bl rc bL from by
            have q := HRD.out U2 (HPR0.out.below HJ2.out.own.2 rfl)
            have q2 := q.take bl (by omega)
            have e : (((partF cl L kk L.length).drop a).take bl) = bL := by rw [← hbL, HAK.out]; rw [List.take_eq_take_iff, List.length_drop, HPL.out]; omega
            rw [e] at q2
            exact q2)
          have hsq := HSH.out.seq
          have HSQ := Lib.hid (show ∀ s ∈ S, 0 ≤ s.seq ∧ s.seq ≤ 1000000 from fun s hs => by
            obtain ⟨j, hj⟩ := List.mem_iff_getElem?.1 hs
            have q := (HG.out.sh j s hj).seq
            omega)
          have HSE := Lib.hid (seq_any W0.heap.size W0.heap.size m kk S (L.take mm) U2 HJ2.out.own.1)
          rw [show seqP S (kk : Int) = s.seq from by unfold seqP atS; rw [if_neg (by omega), Int.toNat_natCast, HS.out]] at HSE
          have e5 : ((bl : Int) == (rl : Int)) = ee := by
            rw [← hee]
            by_cases h : bl = rl
            · subst h; simp
            · rw [decide_eq_false h, beq_eq_false_iff_ne]; omega
          obtain ⟨sq, hsq2⟩ : ∃ q, s.seq = q := ⟨_, rfl⟩
          rw [hsq2] at HSE HPU
          clear hee hsq hsq2 hbL
          go_wp2_with fail
          refine HSE.out.mono ?_
          clear HSE
          rintro e w1 ⟨rfl, rfl⟩
          go_wp2_with fail
          obtain ⟨hpe, hpg, hpi⟩ := HPU.out
          obtain ⟨S2, hS2⟩ : ∃ q, S.set kk (s.put bL ee) = q := ⟨_, rfl⟩
          rw [hS2] at hpe hpg hpi
          obtain ⟨A2, hA2⟩ : ∃ q, upA A kk bl = q := ⟨_, rfl⟩
          rw [hA2] at hpg HAR2
          obtain ⟨m2, S3, hte, hg3, hmm3, hmN3, hst3, hi3⟩ := bg_tellP HSL.out HCL.out hpg hmN hpi
          have HPE := Lib.hid hpe
          have HTE := Lib.hid hte
          have HG3 := Lib.hid hg3
          have HST3 := Lib.hid hst3
          have HI3 := Lib.hid hi3
          have hm2L := hg3.le
          clear hpe hpg hpi hte hg3 hst3 hi3 hS2 hA2 HPU HS HW HG HI HST HWL HDN HSH
          refine (b_put HJ2.out HBR.out HSQ.out HPE.out).mono ?_
          rintro e U3 ⟨rfl, hJ, hna⟩
          have HJ3 := Lib.hid hJ
          have HAR3 := Lib.hid (hna.blk HAR2.out)
          clear hJ hna HJ2 HAR2 HPE HBR HSQ HRD e5
          go_upto_region 27 with fail
          go_cut [16] from 155 to 158 (fun v16 wx => BgE W0 m S3 L m2 gA A2 v16 wx)
          case first =>
            go_wp2_with fail
            refine (b_tell HJ3.out HTE.out).mono ?_
            rintro e U4 ⟨ao4, c4, rfl, ho4, hJ4, hna4⟩
            have HAR4 := Lib.hid (hna4.blk HAR3.out)
            have HJ4 := Lib.hid hJ4
            have HO4 := Lib.hid ho4
            have hd : ((L.take m2).drop mm).length = m2 - mm := by rw [List.length_drop, List.length_take]; omega
            have HAP := Lib.hid (show L.take m2 = L.take mm ++ (L.take m2).drop mm from by
              conv => lhs; rw [← List.take_append_drop mm (L.take m2)]
              rw [List.take_take, Nat.min_eq_left hmm3])
            generalize (L.take m2).drop mm = l4 at *
            obtain ⟨d, hdd⟩ : ∃ d, l4.length = d := ⟨_, rfl⟩
            rw [hdd] at HO4 hd ⊢
            have HDD := Lib.hid hdd
            have HDM := Lib.hid hd
            have hd1 : d ≤ m2 - mm := by omega
            have hd2 : m2 - mm ≤ d := by omega
            clear hd ho4 hJ4 hna4 HJ3 HAR3 HTE hdd
            by_cases h0 : d = 0
            · subst h0
              obtain rfl : m2 = mm := by omega
              clear hd1 hd2 HDM HDD HAP
              go_wp2_with (at_builtin; refine wpList_app_zero rfl _ _ 22 rfl W0.heap.size 31 j0 2 Try.underlying22 HJ0.out (.slice a16 m2 c16) m2 _ rfl HJ4.out.1 ao4 c4 rfl ?_)
              go_meet
              exact ⟨_, a16, c16, rfl, rfl, HJ4.out, HAR4.out⟩
            · obtain ⟨g4, rfl, hg4⟩ := ownsRow_some HO4.out (by omega)
              have hws : W0.heap.size ≤ U4.heap.size := HJ4.out.own.2.size
              have hnl : (l4.flatMap KeyL.cells).length = d * 2 := by rw [flatMap_len _ 2 (fun _ => rfl), HDD.out]
              have HNW := Lib.hid (show ∀ j u, (l4.flatMap KeyL.cells)[j]? = some u → U4.cell? ((⟨g4, 0, none⟩ : Addr).add j) = some u from by
                obtain ⟨sp, hsp, hblk⟩ := ownsRow_blk HO4.out
                intro j u hu
                have hadd : (⟨g4, 0, none⟩ : Addr).add j = ⟨g4, j, none⟩ := by unfold Addr.add; split <;> simp_all
                rw [hadd, hblk.cell, List.getElem?_append_left (List.getElem?_eq_some_iff.1 hu).1]
                exact hu)
              have HON := Lib.hid (show ∀ u ∈ l4.flatMap KeyL.cells, u.oneCell' = true from fun u hu => by
                obtain ⟨x, _, hx⟩ := List.mem_flatMap.1 hu
                exact itemOne x u hx)
              go_wp2_with (at_builtin; refine wpList_append_lies _ rfl _ _ 22 rfl W0.heap.size 31 j0 (.agg #[.int .i64 0, .string ⟨#[]⟩]) 2 24 Try.underlying22 HJ0.out HY0.out HY1.out HY2.out rfl (by decide) (.slice a16 mm c16) mm ((L.take mm).flatMap KeyL.cells) rfl HJ4.out.1 ⟨g4, 0, none⟩ d c4 (l4.flatMap KeyL.cells) rfl hnl HNW.out HON.out (by omega) (by unfold maxLen; omega) (by omega) hws U4.heap.size rfl ?_; intro g5 c5 U5 hown hgr hat hlt; have HO5 := Lib.hid hown; have HF5 := Lib.hid (Frm.grown (S := fun b => (Value.slice a16 mm c16).ownBlock = some b) hgr (fun b hb => hb)); have HAT5 := Lib.hid hat; clear hown hgr hat hlt)
              have hm2e : mm + d = m2 := by omega
              rw [hm2e] at HO5 ⊢
              clear hm2e
              have hJ5 := HJ4.out.grow (l' := .slice (some ⟨g5, 0, none⟩) m2 c5) (k' := m2) (g' := g5) (xs' := (L.take m2).flatMap KeyL.cells) HF5.out rfl (HAT5.out.imp id (fun e => by omega)) (by have q := HO5.out; rw [HAP.out, List.flatMap_append]; exact q)
              have hA5 := HAR4.out.frm HF5.out (fun e => ownsRow_ne HJ4.out.1 HAR4.out (by decide) _ e rfl)
              go_meet
              exact ⟨_, some ⟨g5, 0, none⟩, c5, rfl, rfl, hJ5, hA5⟩
          case rest =>
            obtain ⟨U5, a5, c5, rfl, rfl, hJ5, hA5⟩ := hcut
            have HJ5 := Lib.hid hJ5
            have HA5 := Lib.hid hA5
            clear hJ5 hA5 HJ3 HAR3 HTE
            have HRT := Lib.hid (ownsRow_rdE (enc := KeyL.cells) (fun _ => rfl) (by rw [List.length_take]; omega) HJ5.out.1)
            have hx2 := HX0.out.2.1
            have hx3 := HX0.out.2.2.1
            unfold maxLen at hx3
            have hct := cut_to aL L.length cL m2 (by omega)
            have HRL := Lib.hid ((HX0.out.below HJ5.out.own.2 rfl).take m2 hm2L)
            have t2 : U5.cell? ⟨w.heap.size, 2, none⟩ = some (.int .i64 m) := (HK0.out.below HJ5.out.own.2 HK0.out.lt).cell 2
            have d1 : decide ((L.length : Int) < (m2 : Int)) = false := by simp; omega
            have d2 : decide (L.length < m2) = false := by simp; omega
            have d3 : ¬ m < (m2 : Int) := by omega
            have d5 : (0 : Int) ≤ (m2 : Int) := by omega
            have d6 : m2 ≤ cL := by omega
            go_wp2_with fail
            refine (sameI_any a5 m2 c5 aL m2 cL (L.take m2) (L.take m2) U5 HRT.out HRL.out).mono ?_
            rintro e U6 ⟨rfl, hd⟩
            rw [show eqIs (L.take m2) (L.take m2) = true from eqIs_same _]
            have HJ6 := Lib.hid (HJ5.out.below (hd.below _))
            have HA6 := Lib.hid (HA5.out.below (hd.below U5.heap.size) HA5.out.lt)
            have t3 : U6.cell? ⟨w.heap.size, 2, none⟩ = some (.int .i64 m) := (HK0.out.below HJ6.out.own.2 HK0.out.lt).cell 2
            clear hd HJ5 HA5 t2 HRT HRL
            go_wp2_with fail
            clear t3 d1 d2 d3 hct
            exact ⟨⟨i + 1, m2, S3, A2, a5, c5, by go_num, rfl, HJ6.out, HG3.out, HST3.out, HI3.out, hmN3, HA6.out⟩, by simp [intOf]; omega⟩
theorem begins_law_f (w : World) (ao : Option Addr) (na ca : Nat) (la : List ByteArray) (q : ByteArray) (k m : Int) (wa : Option Addr) (wn wc : Nat) (ws : List Nat) (tu : Option Addr) (tn tc : Nat) (ts : List Int) (zu : Option Addr) (zn zc : Nat) (zs : List Int) (ha : Rd w ao na ca (la.map Value.string)) (hwa : ∀ s ∈ la, s.size ≤ maxLen) (hq : q.size ≤ maxLen)
    (hw : Rd w wa wn wc (u8s ws)) (hwb : ∀ x ∈ ws, x < 256) (ht : Rd w tu tn tc (ts.map (Value.int .i64))) (hz : Rd w zu zn zc (zs.map (Value.int .i64))) :
    Calls Try.prog 8 #[.slice ao na ca, .agg #[.string q, .int .i64 k, .int .i64 m], .slice wa wn wc, .slice tu tn tc, .slice zu zn zc] w fun e w' => e = .returned (.bool true) ∧ Below w.heap.size w w' := by
  obtain rfl : wn = ws.length := by rw [← hw.1, u8s_length]
  obtain rfl : tn = ts.length := by rw [← ht.1, List.length_map]
  obtain rfl : zn = zs.length := by rw [← hz.1, List.length_map]
  exact begins_law w ao na ca la q k m wa wc ws tu tc ts zu zc zs ha hwa hq hw hwb ht hz
end Go.Proofs.Ytjacebnjmhbcbaa
