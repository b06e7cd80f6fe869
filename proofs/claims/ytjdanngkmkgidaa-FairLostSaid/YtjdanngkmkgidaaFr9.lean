/- fair.got: what was sent was got. -/
import Derived.Test.YtjdanngkmkgidaaFr8
namespace Go.Proofs.Ytjdanngkmkgidaa
open Go.RowKit
set_option linter.unusedVariables false

def cameB (L : List RecM) (k : Int) : Bool := decide (0 ≤ k) && L.any (fun r => decide (r.got = k))
theorem cameB_nil (k : Int) : cameB [] k = false := by unfold cameB; simp
theorem cameB_snoc (L : List RecM) (r : RecM) (k : Int) : putB (cameB L) r.got (decide (0 ≤ r.got)) k = cameB (L ++ [r]) k := by
  unfold putB cameB
  rw [List.any_append]
  split
  · rename_i e; subst e; simp
  · rename_i e
    have : [r].any (fun r => decide (r.got = k)) = false := by simp; exact fun h => e h.symm
    rw [this, Bool.or_false]
def misB (f g : Int → Bool) (s : SentL) : Bool := f s.1 && !(g s.1)
def gotB (l k : List RecM) (f : Int → Bool) : Bool := l.all fun r => !(r.sent.any (misB f (cameB (l ++ k))))
theorem anyS_take (p : SentL → Bool) : ∀ (l : List SentL) (k : Nat) (x : SentL), l[k]? = some x → (l.take (k + 1)).any p = ((l.take k).any p || p x) := fun l k x h => by
  rw [List.take_add_one, h, List.any_append]; simp
theorem anyS_of (p : SentL → Bool) (l : List SentL) (k : Nat) (x : SentL) (h : l[k]? = some x) (hp : p x = true) : l.any p = true := List.any_eq_true.2 ⟨x, List.mem_iff_getElem?.2 ⟨k, h⟩, hp⟩
set_option maxRecDepth 100000 in
theorem gotc_any (pw pc bw bc nw nc : Nat) (f g : Int → Bool) (s : SentL) (w : World) (hw : w.cell? ⟨pw, 0, none⟩ = some (.map (some bw))) (hc : w.cell? ⟨pc, 0, none⟩ = some (.map (some bc))) (hm : MapB w bw nw f) (hm2 : MapB w bc nc g) (hk : wf64 s.1) :
    Calls Try.prog 68 #[.agg #[.int .i64 s.1, .int .i64 s.2.1, .int .i64 s.2.2], .pointer (some ⟨pw, 0, none⟩), .pointer (some ⟨pc, 0, none⟩)] w fun e w' => e = .returned (.bool (misB f g s)) ∧ Below w.heap.size w w' := by
  have HB := Lib.hid ((Below.refl _ w).alloc (Nat.le_refl _) (.cells #[.int .i64 s.1, .int .i64 s.2.1, .int .i64 s.2.2] 72))
  have HM1 := (hm.below HB.out).look hk
  have HM2 := (hm2.below HB.out).look hk
  have c1 := (HB.out.cell (p := ⟨pw, 0, none⟩) (cell?_lt hw)).trans hw
  have c2 := (HB.out.cell (p := ⟨pc, 0, none⟩) (cell?_lt hc)).trans hc
  have HK := (show Blk (w.alloc (.cells #[.int .i64 s.1, .int .i64 s.2.1, .int .i64 s.2.2] 72)) w.heap.size 72 [.int .i64 s.1, .int .i64 s.2.1, .int .i64 s.2.2] from heap_alloc_new w _)
  have k0 := HK.cell 0
  obtain ⟨R, hR⟩ : ∃ R, misB f g s = R := ⟨_, rfl⟩
  rw [hR]
  have HR := Lib.hid hR
  clear hR
  clear hm hm2 hw hc HK
  go_enter Try.func68, Try.ntmps68
  go_upto_region 1 with fail
  generalize (w.alloc (.cells #[.int .i64 s.1, .int .i64 s.2.1, .int .i64 s.2.2] 72)) = W at *
  cases hf : f s.1
  · have HF := Lib.hid hf
    rw [hf] at HM1
    clear hf
    go_wp2
    go_ret
    obtain rfl : R = false := by rw [← HR.out]; unfold misB; rw [HF.out]; rfl
    exact ⟨rfl, HB.out⟩
  · have HF := Lib.hid hf
    rw [hf] at HM1
    clear hf
    go_wp2
    go_ret
    obtain rfl : R = !(g s.1) := by rw [← HR.out]; unfold misB; rw [HF.out]; rfl
    exact ⟨rfl, HB.out⟩
set_option maxRecDepth 100000 in
set_option maxHeartbeats 2000000 in
theorem ixs_any (a : Option Addr) (n cap : Nat) (l : List SentL) (pw pc bw bc nw nc : Nat) (f g : Int → Bool) (w : World) (hr : RdE SentL.cells 3 w a n cap l) (hw : w.cell? ⟨pw, 0, none⟩ = some (.map (some bw))) (hc : w.cell? ⟨pc, 0, none⟩ = some (.map (some bc))) (hm : MapB w bw nw f) (hm2 : MapB w bc nc g) (hk : ∀ s ∈ l, wf64 s.1) :
    Calls Try.prog 75 #[.slice a n cap, .func (Fn.func 68) #[] #[.pointer (some ⟨pw, 0, none⟩), .pointer (some ⟨pc, 0, none⟩)]] w fun e w' => ∃ r : Int, e = .returned (.int .i64 r) ∧ IxOK r (l.any (misB f g)) ∧ Below w.heap.size w w' := by
  have hn := hr.1
  have hcm := hr.2.2.1
  have hcap := hr.2.1
  unfold maxLen at hcm
  subst hn
  have HR := Lib.hid hr
  have HC := Lib.hid (fun (s : SentL) (W : World) (hk : wf64 s.1) (hb : Below w.heap.size w W) => gotc_any pw pc bw bc nw nc f g s W ((hb.cell (p := ⟨pw, 0, none⟩) (cell?_lt hw)).trans hw) ((hb.cell (p := ⟨pc, 0, none⟩) (cell?_lt hc)).trans hc) (hm.below hb) (hm2.below hb) hk)
  have HK := Lib.hid hk
  clear hr hm hm2 hk hw hc
  generalize misB f g = h at *
  go_enter Try.func75, Try.ntmps75
  go_wp2_with fail
  go_loopw [8] (fun v wr => ∃ k : Nat, v = .int .i64 k ∧ k ≤ l.length ∧ RowKit.Hid ((l.take k).any h = false) ∧ RowKit.Hid (Below w.heap.size w wr)) (fun v _ => l.length - (intOf v).toNat)
  case atStart => exact ⟨0, rfl, by omega, by simp [RowKit.Hid], Below.refl _ _⟩
  case round =>
    obtain ⟨k, rfl, hk, HA, HB⟩ := hrel
    by_cases hlt : k < l.length
    · obtain ⟨x, hx⟩ : ∃ x, l[k]? = some x := ⟨l[k], List.getElem?_eq_getElem hlt⟩
      obtain ⟨b2, off2, rfl, hbl2, hc⟩ := (HR.out.below HB.out rfl).at_ hx
      have f0 : wr.cell? ⟨b2, off2 + k * 3, none⟩ = some (.int .i64 x.1) := hc 0 (by decide)
      have f1 : wr.cell? ⟨b2, off2 + k * 3 + 1, none⟩ = some (.int .i64 x.2.1) := hc 1 (by decide)
      have f2 : wr.cell? ⟨b2, off2 + k * 3 + 2, none⟩ = some (.int .i64 x.2.2) := hc 2 (by decide)
      have HX := Lib.hid hx
      have HAT := Lib.hid (anyS_take h l k x hx)
      have HAO := Lib.hid (anyS_of h l k x hx)
      have HKX := Lib.hid (HK.out x (List.mem_iff_getElem?.2 ⟨k, hx⟩))
      clear hx hc hbl2
      go_wp2_with fail
      refine (HC.out x wr HKX.out HB.out).mono ?_
      rintro e w1 ⟨rfl, hb⟩
      have HB1 := Lib.hid (HB.out.trans (hb.mono HB.out.size))
      clear hb f0 f1 f2
      cases hf : h x
      · have HF := Lib.hid hf
        clear hf
        go_wp2_with fail
        go_roundw
        case rel => exact ⟨k + 1, by go_num, by omega, (by unfold RowKit.Hid; rw [HAT.out, HA.out, HF.out]; rfl), HB1.out⟩
        case measure => simp [intOf]; omega
      · have HF := Lib.hid hf
        clear hf
        go_wp2_with fail
        go_ret
        exact ⟨k, rfl, ⟨fun _ => by omega, fun h => by rw [HAO.out HF.out] at h; exact absurd h (by decide)⟩, HB1.out⟩
    · obtain rfl : k = l.length := by omega
      have hq := Lib.hid (show l.any h = false from by have := HA.out; rwa [List.take_length] at this)
      go_wp2_with fail
      go_ret
      exact ⟨-1, rfl, ⟨fun h => by rw [hq.out] at h; exact absurd h (by decide), fun _ => by omega⟩, HB.out⟩
set_option maxRecDepth 100000 in
theorem cfs_any (a : Option Addr) (n cap : Nat) (l : List SentL) (pw pc bw bc nw nc : Nat) (f g : Int → Bool) (w : World) (hr : RdE SentL.cells 3 w a n cap l) (hw : w.cell? ⟨pw, 0, none⟩ = some (.map (some bw))) (hc : w.cell? ⟨pc, 0, none⟩ = some (.map (some bc))) (hm : MapB w bw nw f) (hm2 : MapB w bc nc g) (hk : ∀ s ∈ l, wf64 s.1) :
    Calls Try.prog 67 #[.slice a n cap, .func (Fn.func 68) #[] #[.pointer (some ⟨pw, 0, none⟩), .pointer (some ⟨pc, 0, none⟩)]] w fun e w' => e = .returned (.bool (l.any (misB f g))) ∧ Below w.heap.size w w' := by
  have HC := Lib.hid (ixs_any a n cap l pw pc bw bc nw nc f g w hr hw hc hm hm2 hk)
  clear hr hm hm2 hk hw hc
  obtain ⟨R, hR⟩ : ∃ R, l.any (misB f g) = R := ⟨_, rfl⟩
  rw [hR] at HC ⊢
  clear hR
  go_enter Try.func67, Try.ntmps67
  go_wp2_with fail
  refine HC.out.mono ?_
  rintro e w' ⟨r, rfl, hd, hb⟩
  have HB := Lib.hid hb
  clear hb
  cases R
  · have hd' : r < 0 := hd.2 rfl
    have d1 : decide (0 ≤ r) = false := by simpa using hd'
    go_wp2_with fail
    go_ret
    exact ⟨by congr 2, HB.out⟩
  · have hd' : 0 ≤ r := hd.1 rfl
    have d1 : decide (0 ≤ r) = true := by simpa using hd'
    go_wp2_with fail
    go_ret
    exact ⟨by congr 2, HB.out⟩
theorem RdE.map {α : Type} {en : α → List Value} {size : Nat} {w w' : World} {a : Option Addr} {n c B m : Nat} {l : List α} {f : Int → Bool} (hl : ∀ x, (en x).length = size) (h : RdE en size w a n c l) (hm : MapB w B m f) (hg : w.grownBy w' (some B)) : RdE en size w' a n c l := by
  obtain ⟨h1, h2, h3, h4, h5⟩ := h
  refine ⟨h1, h2, h3, h4, fun i x hx => ?_⟩
  obtain ⟨b, off, e, hb, hc⟩ := h5 i x hx
  have hne : 0 < size → some b ≠ some B := by
    intro hs e
    simp only [Option.some.injEq] at e
    subst e
    obtain ⟨D, ⟨es, clock, hbk, _⟩, _⟩ := hm
    have := hc 0 hs
    rw [List.getElem?_eq_getElem (by rw [hl]; exact hs)] at this
    simp [World.cell?, hbk] at this
  refine ⟨b, off, e, Nat.lt_of_lt_of_le hb hg.size, fun j hj => ?_⟩
  rw [World.cell?_of_block (w := w) (hg.block b hb (hne (by omega))), hc j hj]
def GtA (w : World) (K : List RecM) (ao : Option Addr) (oc pw pc bc bm : Nat) (v18 : Value) (wr : World) : Prop := ∃ i : Nat, i ≤ K.length ∧ v18 = .int .i64 i ∧ RowKit.Hid (MapB wr bc i (cameB (K.take i))) ∧ RowKit.Hid (Blk wr pc 100 [.map (some bc)]) ∧ RowKit.Hid (Blk wr pw 100 [.map (some bm)]) ∧ RowKit.Hid (RdE RecM.cells 12 wr ao K.length oc K) ∧ RowKit.Hid (Below w.heap.size w wr)
def GtB (w : World) (l : List RecM) (g : Int → Bool) (N : Nat) (f : Int → Bool) (pw pc bc bm : Nat) (v31 : Value) (wr : World) : Prop := ∃ j : Nat, j ≤ l.length ∧ v31 = .int .i64 j ∧ RowKit.Hid ((l.take j).all (fun r => !(r.sent.any (misB f g))) = true) ∧ RowKit.Hid (MapB wr bc N g) ∧ RowKit.Hid (Blk wr pc 100 [.map (some bc)]) ∧ RowKit.Hid (Blk wr pw 100 [.map (some bm)]) ∧ RowKit.Hid (Below w.heap.size w wr)
set_option maxRecDepth 100000 in
set_option maxHeartbeats 8000000 in
theorem got_any (a b : Option Addr) (n cap m d : Nat) (l k : List RecM) (bm q : Nat) (f : Int → Bool) (w : World) (hr : Recs w a n cap l) (hk : Recs w b m d k) (hm : MapB w bm q f) (h1 : l.length ≤ 1000) (h2 : k.length ≤ 1000) :
    Calls Try.prog 51 #[.slice a n cap, .slice b m d, .map (some bm)] w fun e w' => e = .returned (.bool (gotB l k f)) ∧ Below w.heap.size w w' := by
  have hn := hr.rd.1
  have hmn := hk.rd.1
  have hcm := hr.rd.2.2.1
  have hcap := hr.rd.2.1
  have hcm2 := hk.rd.2.2.1
  have hcap2 := hk.rd.2.1
  unfold maxLen at hcm hcm2
  have HR := Lib.hid hr
  have HK := Lib.hid hk
  have HM := Lib.hid hm
  have HL := Lib.hid hn
  have HL2 := Lib.hid hmn
  have hn1 : n ≤ 1000 := by omega
  have hn2 : m ≤ 1000 := by omega
  have HCC := Lib.hid (fun g w hg ha hb => concat_any g a b n cap m d l k w hg ha hb h1 h2)
  obtain ⟨R, hR⟩ : ∃ R, gotB l k f = R := ⟨_, rfl⟩
  rw [hR]
  have HRR := Lib.hid hR
  clear hr hk hm hR hn hmn h1 h2
  have hmk := run_makeMap (P := Try.prog) 100 (w.alloc (.cells #[.map (some bm)] 100))
  go_enter Try.func51, Try.ntmps51
  go_upto_region 2 with fail
  have HP := Lib.hid (show Blk ((((((w.alloc (.cells #[.map (some bm)] 100))).alloc (.map #[] 0))).alloc (.cells #[.map (some (w.heap.size + 1))] 100))) w.heap.size 100 [.map (some bm)] from Blk.alloc (Blk.alloc (heap_alloc_new w _) _) _)
  have hs1 : ((w.alloc (.cells #[.map (some bm)] 100))).heap.size = w.heap.size + 1 := by simp
  have hs2 : ((((w.alloc (.cells #[.map (some bm)] 100))).alloc (.map #[] 0))).heap.size = w.heap.size + 1 + 1 := by simp
  have HMC := Lib.hid (show MapB ((((((w.alloc (.cells #[.map (some bm)] 100))).alloc (.map #[] 0))).alloc (.cells #[.map (some (w.heap.size + 1))] 100))) (w.heap.size + 1) 0 (cameB []) from by
    have h := MapB.made ((w.alloc (.cells #[.map (some bm)] 100)))
    rw [hs1] at h
    exact (h.below ((Below.refl _ _).alloc (Nat.le_refl _) _)).cong (fun k => (cameB_nil k).symm))
  have HPC := Lib.hid (show Blk ((((((w.alloc (.cells #[.map (some bm)] 100))).alloc (.map #[] 0))).alloc (.cells #[.map (some (w.heap.size + 1))] 100))) (w.heap.size + 1 + 1) 100 [.map (some (w.heap.size + 1))] from by rw [← hs2]; exact heap_alloc_new _ _)
  have HB := Lib.hid (show Below w.heap.size w ((((((w.alloc (.cells #[.map (some bm)] 100))).alloc (.map #[] 0))).alloc (.cells #[.map (some (w.heap.size + 1))] 100))) from (((Below.refl _ w).alloc (Nat.le_refl _) _).alloc (Nat.le_of_lt (by rw [hs1]; exact Nat.lt_succ_self _)) _).alloc (Nat.le_of_lt (by rw [hs2]; omega)) _)
  clear hmk hs1 hs2
  generalize ((((((w.alloc (.cells #[.map (some bm)] 100))).alloc (.map #[] 0))).alloc (.cells #[.map (some (w.heap.size + 1))] 100))) = W3 at *
  have HG1 := Lib.hid (show w.heap.size ≤ w.heap.size + 1 from by omega)
  have HN1 := Lib.hid (show w.heap.size ≠ w.heap.size + 1 ∧ w.heap.size + 1 + 1 ≠ w.heap.size + 1 from by omega)
  obtain ⟨bc, hbc⟩ : ∃ x, w.heap.size + 1 = x := ⟨_, rfl⟩
  obtain ⟨pc, hpc⟩ : ∃ x, w.heap.size + 1 + 1 = x := ⟨_, rfl⟩
  rw [hpc] at HPC HN1
  rw [hbc] at HMC HPC HG1 HN1
  rw [hpc]
  rw [hbc]
  have HG2 := Lib.hid (show w.heap.size ≤ pc from by omega)
  clear hbc hpc
  obtain ⟨pw, hpw⟩ : ∃ x, w.heap.size = x := ⟨_, rfl⟩
  rw [hpw] at HP HN1
  rw [hpw]
  have HPW := Lib.hid hpw
  clear hpw
  have hz3 := HB.out.size
  have HB3 := Lib.hid (show Below W3.heap.size W3 (W3.alloc (.cells #[.slice a n cap, .slice b m d] 61)) from (Below.refl _ _).alloc (Nat.le_refl _) _)
  have HB4 := Lib.hid (HB.out.trans (HB3.out.mono hz3))
  have HGK := Lib.hid (show Blk (W3.alloc (.cells #[.slice a n cap, .slice b m d] 61)) W3.heap.size 61 [.slice a n cap, .slice b m d] from heap_alloc_new _ _)
  clear hz3
  go_wp2_with fail
  refine (HCC.out _ _ HGK.out (HR.out.below HB4.out rfl) (HK.out.below HB4.out rfl)).mono ?_
  rintro e w4 ⟨ao, oc, rfl, hrd, hb⟩
  obtain ⟨K, hK⟩ : ∃ K, l ++ k = K := ⟨_, rfl⟩
  rw [hK] at hrd
  have HKK := Lib.hid hK
  have HIN := Lib.hid (show ∀ r ∈ K, wf64 r.got from by intro r hr; rw [← hK] at hr; exact (List.mem_append.1 hr).elim (fun h => (HR.out.all r h).got) (fun h => (HK.out.all r h).got))
  clear hK
  have hb3 := HB3.out.trans (hb.mono HB3.out.size)
  have HB5 := Lib.hid (HB.out.trans (hb3.mono HB.out.size))
  have HMC5 := Lib.hid (HMC.out.below hb3)
  have HPC5 := Lib.hid (HPC.out.below hb3 HPC.out.lt)
  have HP5 := Lib.hid (HP.out.below hb3 HP.out.lt)
  have hKn := hrd.1
  have hKm := hrd.2.2.1
  have hKc := hrd.2.1
  unfold maxLen at hKm
  have HRD := Lib.hid hrd
  clear hb hb3 HB HB3 HB4 HMC HPC HP HGK hrd HCC
  obtain ⟨N, hN⟩ : ∃ N, n + m = N := ⟨_, rfl⟩
  rw [hN] at hKn hKc HRD
  rw [hN]
  have hN2 : N ≤ 2000 := by omega
  clear hN
  subst hKn
  go_wp2_with fail
  go_loopw [18] (fun v18 wr => GtA w K ao oc pw pc bc bm v18 wr) (fun v _ => K.length - (intOf v).toNat)
  case atStart => exact ⟨0, Nat.zero_le _, rfl, HMC5.out, HPC5.out, HP5.out, HRD.out, HB5.out⟩
  case round =>
    clear HMC5 HPC5 HP5 HRD HB5
    obtain ⟨i, hi, rfl, HMC, HPC, HP, HRD, HB⟩ := hrel
    by_cases hlt : i < K.length
    · obtain ⟨r, hx⟩ : ∃ r, K[i]? = some r := ⟨_, List.getElem?_eq_getElem hlt⟩
      obtain ⟨b1, off, rfl, hbl, hc⟩ := HRD.out.at_ hx
      have e0 : wr.cell? ⟨b1, off + i * 12, none⟩ = some (.int .i64 r.kind) := hc 0 (by decide)
      have e1 : wr.cell? ⟨b1, off + i * 12 + 1, none⟩ = some (.int .i64 r.node) := hc 1 (by decide)
      have e2 : wr.cell? ⟨b1, off + i * 12 + 2, none⟩ = some (.int .i64 r.at_) := hc 2 (by decide)
      have e3 : wr.cell? ⟨b1, off + i * 12 + 3, none⟩ = some (.int .i64 r.x) := hc 3 (by decide)
      have e4 : wr.cell? ⟨b1, off + i * 12 + 4, none⟩ = some (.string r.q) := hc 4 (by decide)
      have e5 : wr.cell? ⟨b1, off + i * 12 + 5, none⟩ = some (.int .i64 r.qk) := hc 5 (by decide)
      have e6 : wr.cell? ⟨b1, off + i * 12 + 6, none⟩ = some (.int .i64 r.qn) := hc 6 (by decide)
      have e7 : wr.cell? ⟨b1, off + i * 12 + 7, none⟩ = some (.int .i64 r.ver) := hc 7 (by decide)
      have e8 : wr.cell? ⟨b1, off + i * 12 + 8, none⟩ = some (.int .i64 r.id) := hc 8 (by decide)
      have e9 : wr.cell? ⟨b1, off + i * 12 + 9, none⟩ = some (.slice r.sa r.sn r.sc) := hc 9 (by decide)
      have e10 : wr.cell? ⟨b1, off + i * 12 + 10, none⟩ = some (.int .i64 r.got) := hc 10 (by decide)
      have e11 : wr.cell? ⟨b1, off + i * 12 + 11, none⟩ = some (.slice r.la r.ln r.lc) := hc 11 (by decide)
      have HX := Lib.hid hx
      have HGT := Lib.hid (HIN.out r (List.mem_iff_getElem?.2 ⟨i, hx⟩))
      have hz := HB.out.size
      have A1 : i < maxLen := by unfold maxLen; omega
      clear hc hx hbl
      go_upto_region 5 with fail
      have HA := Lib.hid ((Below.refl _ wr).alloc (Nat.le_refl _) (.cells #[.int .i64 r.kind, .int .i64 r.node, .int .i64 r.at_, .int .i64 r.x, .string r.q, .int .i64 r.qk, .int .i64 r.qn, .int .i64 r.ver, .int .i64 r.id, .slice r.sa r.sn r.sc, .int .i64 r.got, .slice r.la r.ln r.lc] 70))
      have HMC2 := Lib.hid (HMC.out.below HA.out)
      have HPC2 := Lib.hid (HPC.out.below HA.out HPC.out.lt)
      have HP2 := Lib.hid (HP.out.below HA.out HP.out.lt)
      have HRD2 := Lib.hid (HRD.out.below HA.out rfl)
      have HB2 := Lib.hid (HB.out.trans (HA.out.mono hz))
      have HQ := Lib.hid (show Blk (wr.alloc (.cells #[.int .i64 r.kind, .int .i64 r.node, .int .i64 r.at_, .int .i64 r.x, .string r.q, .int .i64 r.qk, .int .i64 r.qn, .int .i64 r.ver, .int .i64 r.id, .slice r.sa r.sn r.sc, .int .i64 r.got, .slice r.la r.ln r.lc] 70)) wr.heap.size 70 [.int .i64 r.kind, .int .i64 r.node, .int .i64 r.at_, .int .i64 r.x, .string r.q, .int .i64 r.qk, .int .i64 r.qn, .int .i64 r.ver, .int .i64 r.id, .slice r.sa r.sn r.sc, .int .i64 r.got, .slice r.la r.ln r.lc] from heap_alloc_new wr _)
      generalize (wr.alloc (.cells #[.int .i64 r.kind, .int .i64 r.node, .int .i64 r.at_, .int .i64 r.x, .string r.q, .int .i64 r.qk, .int .i64 r.qn, .int .i64 r.ver, .int .i64 r.id, .slice r.sa r.sn r.sc, .int .i64 r.got, .slice r.la r.ln r.lc] 70)) = W2 at *
      generalize wr.heap.size = pr at *
      have g0 : W2.cell? ⟨pr, 10, none⟩ = some (.int .i64 r.got) := HQ.out.cell 10
      have g1 : W2.cell? ⟨pc, 0, none⟩ = some (.map (some bc)) := HPC2.out.cell 0
      clear e0 e1 e2 e3 e4 e5 e6 e7 e8 e9 e10 e11 HQ HMC HPC HP HRD HB HA hz
      have hz := Lib.hid HB2.out.size
      go_wp2_with (at_mapUpdate; refine wpList_mapB rfl _ _ _ rfl bc i _ rfl HMC2.out A1 r.got (decide (0 ≤ r.got)) rfl HGT.out rfl ?_; intro w5 hm5 hg5; have HM5 := Lib.hid hm5; have HB5 := Lib.hid (HB2.out.grown hg5 hz.out (fun b hb => by cases hb; exact HG1.out)); have HRD5 := Lib.hid (HRD2.out.map RecM.cells_len HMC2.out hg5); have HPC5 := Lib.hid (show Blk w5 pc 100 [.map (some bc)] from (hg5.block _ HPC2.out.lt (fun e => HN1.out.2 (Option.some.inj e))).trans HPC2.out); have HP5 := Lib.hid (show Blk w5 pw 100 [.map (some bm)] from (hg5.block _ HP2.out.lt (fun e => HN1.out.1 (Option.some.inj e))).trans HP2.out); clear hm5 hg5)
      go_roundw
      case rel => exact ⟨i + 1, by omega, by go_num, HM5.out.cong (fun k => by rw [cameB_snoc, List.take_add_one, HX.out]; rfl), HPC5.out, HP5.out, HRD5.out, HB5.out⟩
      case measure => simp [intOf]; omega
    · obtain rfl : i = K.length := by omega
      have HMC2 := HMC.out
      rw [List.take_length] at HMC2
      have HM9 := Lib.hid HMC2
      clear HMC HMC2 HRD
      have hls := HL.out
      subst hls
      go_wp2_with fail
      go_loopw [31] (fun v31 wr => GtB w l (cameB K) K.length f pw pc bc bm v31 wr) (fun v _ => l.length - (intOf v).toNat)
      case atStart => exact ⟨0, Nat.zero_le _, rfl, by unfold RowKit.Hid; rfl, HM9.out, HPC.out, HP.out, HB.out⟩
      case round =>
        clear HM9 HPC HP HB
        obtain ⟨j, hj, rfl, HA, HMC, HPC, HP, HB⟩ := hrel
        by_cases hlj : j < l.length
        · obtain ⟨r, hx⟩ : ∃ r, l[j]? = some r := ⟨_, List.getElem?_eq_getElem hlj⟩
          have hmem : r ∈ l := List.mem_iff_getElem?.2 ⟨j, hx⟩
          obtain ⟨b1, off, rfl, hbl, hc⟩ := (HR.out.below HB.out rfl).rd.at_ hx
          have e0 : wr.cell? ⟨b1, off + j * 12, none⟩ = some (.int .i64 r.kind) := hc 0 (by decide)
          have e1 : wr.cell? ⟨b1, off + j * 12 + 1, none⟩ = some (.int .i64 r.node) := hc 1 (by decide)
          have e2 : wr.cell? ⟨b1, off + j * 12 + 2, none⟩ = some (.int .i64 r.at_) := hc 2 (by decide)
          have e3 : wr.cell? ⟨b1, off + j * 12 + 3, none⟩ = some (.int .i64 r.x) := hc 3 (by decide)
          have e4 : wr.cell? ⟨b1, off + j * 12 + 4, none⟩ = some (.string r.q) := hc 4 (by decide)
          have e5 : wr.cell? ⟨b1, off + j * 12 + 5, none⟩ = some (.int .i64 r.qk) := hc 5 (by decide)
          have e6 : wr.cell? ⟨b1, off + j * 12 + 6, none⟩ = some (.int .i64 r.qn) := hc 6 (by decide)
          have e7 : wr.cell? ⟨b1, off + j * 12 + 7, none⟩ = some (.int .i64 r.ver) := hc 7 (by decide)
          have e8 : wr.cell? ⟨b1, off + j * 12 + 8, none⟩ = some (.int .i64 r.id) := hc 8 (by decide)
          have e9 : wr.cell? ⟨b1, off + j * 12 + 9, none⟩ = some (.slice r.sa r.sn r.sc) := hc 9 (by decide)
          have e10 : wr.cell? ⟨b1, off + j * 12 + 10, none⟩ = some (.int .i64 r.got) := hc 10 (by decide)
          have e11 : wr.cell? ⟨b1, off + j * 12 + 11, none⟩ = some (.slice r.la r.ln r.lc) := hc 11 (by decide)
          have HX := Lib.hid hx
          have HRI := Lib.hid (HR.out.all r hmem)
          have hz := HB.out.size
          clear hc hx hbl hmem
          go_upto_region 10 with fail
          have HAB := Lib.hid ((Below.refl _ wr).alloc (Nat.le_refl _) (.cells #[.int .i64 r.kind, .int .i64 r.node, .int .i64 r.at_, .int .i64 r.x, .string r.q, .int .i64 r.qk, .int .i64 r.qn, .int .i64 r.ver, .int .i64 r.id, .slice r.sa r.sn r.sc, .int .i64 r.got, .slice r.la r.ln r.lc] 70))
          have HMC2 := Lib.hid (HMC.out.below HAB.out)
          have HPC2 := Lib.hid (HPC.out.below HAB.out HPC.out.lt)
          have HP2 := Lib.hid (HP.out.below HAB.out HP.out.lt)
          have HB2 := Lib.hid (HB.out.trans (HAB.out.mono hz))
          have HQ := Lib.hid (show Blk (wr.alloc (.cells #[.int .i64 r.kind, .int .i64 r.node, .int .i64 r.at_, .int .i64 r.x, .string r.q, .int .i64 r.qk, .int .i64 r.qn, .int .i64 r.ver, .int .i64 r.id, .slice r.sa r.sn r.sc, .int .i64 r.got, .slice r.la r.ln r.lc] 70)) wr.heap.size 70 [.int .i64 r.kind, .int .i64 r.node, .int .i64 r.at_, .int .i64 r.x, .string r.q, .int .i64 r.qk, .int .i64 r.qn, .int .i64 r.ver, .int .i64 r.id, .slice r.sa r.sn r.sc, .int .i64 r.got, .slice r.la r.ln r.lc] from heap_alloc_new wr _)
          generalize (wr.alloc (.cells #[.int .i64 r.kind, .int .i64 r.node, .int .i64 r.at_, .int .i64 r.x, .string r.q, .int .i64 r.qk, .int .i64 r.qn, .int .i64 r.ver, .int .i64 r.id, .slice r.sa r.sn r.sc, .int .i64 r.got, .slice r.la r.ln r.lc] 70)) = W2 at *
          generalize wr.heap.size = pr at *
          have g0 : W2.cell? ⟨pr, 9, none⟩ = some (.slice r.sa r.sn r.sc) := HQ.out.cell 9
          clear e0 e1 e2 e3 e4 e5 e6 e7 e8 e9 e10 e11 HQ HMC HPC HP HB HAB hz
          go_wp2_with fail
          refine (cfs_any r.sa r.sn r.sc r.sent pw pc bm bc q K.length f (cameB K) W2 (HRI.out.sent.below HB2.out rfl) (HP2.out.cell 0) (HPC2.out.cell 0) (HM.out.below HB2.out) HMC2.out HRI.out.ids).mono ?_
          rintro e w6 ⟨rfl, hb⟩
          have HMC6 := Lib.hid (HMC2.out.below hb)
          have HPC6 := Lib.hid (HPC2.out.below hb HPC2.out.lt)
          have HP6 := Lib.hid (HP2.out.below hb HP2.out.lt)
          have HB6 := Lib.hid (HB2.out.trans (hb.mono HB2.out.size))
          clear hb g0 HMC2 HPC2 HP2 HB2
          cases hf : r.sent.any (misB f (cameB K))
          · have HF := Lib.hid hf
            clear hf
            go_wp2_with fail
            go_roundw
            case rel => exact ⟨j + 1, by omega, by go_num, (by unfold RowKit.Hid; rw [List.take_add_one, HX.out, Option.toList_some, List.all_append, HA.out, List.all_cons, HF.out]; rfl), HMC6.out, HPC6.out, HP6.out, HB6.out⟩
            case measure => simp [intOf]; omega
          · obtain rfl : R = false := by
              rw [← HRR.out]; unfold gotB
              rw [HKK.out]
              exact List.all_eq_false.2 ⟨r, List.mem_iff_getElem?.2 ⟨j, HX.out⟩, by rw [hf]; decide⟩
            clear hf
            go_wp2_with fail
            go_ret
            exact ⟨rfl, HB6.out⟩
        · obtain rfl : j = l.length := by omega
          obtain rfl : R = true := by
            rw [← HRR.out]; unfold gotB
            rw [HKK.out]
            have h := HA.out
            rwa [List.take_length] at h
          go_wp2_with fail
          go_ret
          exact ⟨rfl, HB.out⟩
end Go.Proofs.Ytjdanngkmkgidaa
