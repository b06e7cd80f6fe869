/- trace.Between, fair.ways. -/
import Derived.Test.YtjdanngkmkgidaaFr0
import Derived.Deep.DeepCutAuto
namespace Go.Proofs.Ytjdanngkmkgidaa
open Go.RowKit
set_option linter.unusedVariables false

theorem betw_of {x y : Int} {s : SentL} {a b c d : Bool} (h1 : (s.2.1 == x) = a) (h2 : (s.2.2 == y) = b) (h3 : (s.2.1 == y) = c) (h4 : (s.2.2 == x) = d) : betw x y s = ((a && b) || (c && d)) := by
  unfold betw; subst h1 h2 h3 h4; rfl
def BtO (w : World) (l : List RecM) (x y : Int) (v7 v14 : Value) (wr : World) : Prop := ∃ (i k : Nat) (ao : Option Addr) (c : Nat), i ≤ l.length ∧ k ≤ i * 1000 ∧ v14 = .int .i64 i ∧ v7 = .slice ao k c ∧ RowKit.Hid (wr.ownsRow w.heap.size 3 1 (.slice ao k c) k (ints (betweenL (l.take i) x y))) ∧ RowKit.Hid (Below w.heap.size w wr)
def BtI (w : World) (l : List RecM) (i : Nat) (S : List SentL) (x y : Int) (v7 v21 : Value) (wr : World) : Prop := ∃ (j k : Nat) (ao : Option Addr) (c : Nat), j ≤ S.length ∧ k ≤ i * 1000 + j ∧ v21 = .int .i64 j ∧ v7 = .slice ao k c ∧ RowKit.Hid (wr.ownsRow w.heap.size 3 1 (.slice ao k c) k (ints (betweenL (l.take i) x y ++ sentIDs x y (S.take j)))) ∧ RowKit.Hid (Below w.heap.size w wr)
theorem RdE.at_ {α : Type} {en : α → List Value} {size : Nat} {w : World} {a : Option Addr} {n c : Nat} {l : List α} (h : RdE en size w a n c l) {i : Nat} {x : α} (hx : l[i]? = some x) : ∃ b off, a = some ⟨b, off, none⟩ ∧ b < w.heap.size ∧ ∀ j, j < size → w.cell? ⟨b, off + i * size + j, none⟩ = (en x)[j]? := h.2.2.2.2 i x hx
set_option maxRecDepth 100000 in
set_option maxHeartbeats 4000000 in
theorem between_any (a : Option Addr) (n cap : Nat) (l : List RecM) (x y : Int) (w : World) (hr : Recs w a n cap l) (h1 : l.length ≤ 1000) (h2 : ∀ r ∈ l, r.sent.length ≤ 1000) :
    Calls Try.prog 65 #[.slice a n cap, .int .i64 x, .int .i64 y] w fun e w' => ∃ ao m c, e = .returned (.slice ao m c) ∧ Rd w' ao m c (ints (betweenL l x y)) ∧ Below w.heap.size w w' := by
  obtain ⟨i0, hi, hz0, hz1, hz2⟩ := info_parts info_int
  have HI := Lib.hid hi
  have HZ0 := Lib.hid hz0
  have HZ1 := Lib.hid hz1
  have HZ2 := Lib.hid hz2
  clear hi hz0 hz1 hz2
  have hn := hr.rd.1
  subst hn
  have hcm := hr.rd.2.2.1
  have hcap := hr.rd.2.1
  unfold maxLen at hcm
  have HR := Lib.hid hr
  have H2 := Lib.hid h2
  clear hr h2
  go_enter Try.func65, Try.ntmps65
  go_wp2_with fail
  go_loopw [7, 14] (fun v7 v14 wr => BtO w l x y v7 v14 wr) (fun _ v _ => l.length - (intOf v).toNat)
  case atStart => exact ⟨0, 0, none, 0, Nat.zero_le _, Nat.zero_le _, rfl, rfl, World.ownsRow_nil _ _ _ _, Below.refl _ _⟩
  case round =>
    obtain ⟨i, k, ao, c, hi, hk, rfl, rfl, HO, HB⟩ := hrel
    by_cases hlt : i < l.length
    · obtain ⟨r, hx⟩ : ∃ r, l[i]? = some r := ⟨_, List.getElem?_eq_getElem hlt⟩
      have hmem : r ∈ l := List.mem_iff_getElem?.2 ⟨i, hx⟩
      obtain ⟨b, off, rfl, hbl, hc⟩ := (HR.out.below HB.out rfl).rd.at_ hx
      have e0 : wr.cell? ⟨b, off + i * 12, none⟩ = some (.int .i64 r.kind) := hc 0 (by decide)
      have e1 : wr.cell? ⟨b, off + i * 12 + 1, none⟩ = some (.int .i64 r.node) := hc 1 (by decide)
      have e2 : wr.cell? ⟨b, off + i * 12 + 2, none⟩ = some (.int .i64 r.at_) := hc 2 (by decide)
      have e3 : wr.cell? ⟨b, off + i * 12 + 3, none⟩ = some (.int .i64 r.x) := hc 3 (by decide)
      have e4 : wr.cell? ⟨b, off + i * 12 + 4, none⟩ = some (.string r.q) := hc 4 (by decide)
      have e5 : wr.cell? ⟨b, off + i * 12 + 5, none⟩ = some (.int .i64 r.qk) := hc 5 (by decide)
      have e6 : wr.cell? ⟨b, off + i * 12 + 6, none⟩ = some (.int .i64 r.qn) := hc 6 (by decide)
      have e7 : wr.cell? ⟨b, off + i * 12 + 7, none⟩ = some (.int .i64 r.ver) := hc 7 (by decide)
      have e8 : wr.cell? ⟨b, off + i * 12 + 8, none⟩ = some (.int .i64 r.id) := hc 8 (by decide)
      have e9 : wr.cell? ⟨b, off + i * 12 + 9, none⟩ = some (.slice r.sa r.sn r.sc) := hc 9 (by decide)
      have e10 : wr.cell? ⟨b, off + i * 12 + 10, none⟩ = some (.int .i64 r.got) := hc 10 (by decide)
      have e11 : wr.cell? ⟨b, off + i * 12 + 11, none⟩ = some (.slice r.la r.ln r.lc) := hc 11 (by decide)
      have hm := ((HR.out.all r hmem).sent).1
      have HS := Lib.hid ((HR.out.all r hmem).sent)
      have hs := H2.out r hmem
      have HX := Lib.hid hx
      have hz := Lib.hid HB.out.size
      obtain ⟨m, hmm⟩ : ∃ m, r.sn = m := ⟨_, rfl⟩
      rw [hmm] at e9 hm HS
      obtain ⟨S, hS⟩ : ∃ S, r.sent = S := ⟨_, rfl⟩
      rw [hS] at hm hs HS
      obtain ⟨sa, hsa⟩ : ∃ sa, r.sa = sa := ⟨_, rfl⟩
      rw [hsa] at e9 HS
      have HSS := Lib.hid hS
      clear hc hx hmem hbl hmm hS hsa
      subst hm
      go_wp2_with fail
      go_loopw [7, 21] (fun v7 v21 wr => BtI w l i S x y v7 v21 wr) (fun _ v _ => S.length - (intOf v).toNat)
      case atStart => exact ⟨0, k, ao, c, Nat.zero_le _, by omega, rfl, rfl, (by unfold RowKit.Hid; rw [List.take_zero]; simpa [sentIDs] using HO.out.alloc _), HB.out.alloc hz.out _⟩
      case round =>
        clear HO HB hk e0 e1 e2 e3 e4 e5 e6 e7 e8 e9 e10 e11 hz
        obtain ⟨j, k2, ao2, c2, hj, hk2, rfl, rfl, HO, HB⟩ := hrel
        by_cases hlj : j < S.length
        · obtain ⟨s, hsx⟩ : ∃ s, S[j]? = some s := ⟨_, List.getElem?_eq_getElem hlj⟩
          obtain ⟨b2, off2, rfl, hbl2, hc⟩ := (HS.out.below HB.out rfl).at_ hsx
          have f0 : wr.cell? ⟨b2, off2 + j * 3, none⟩ = some (.int .i64 s.1) := hc 0 (by decide)
          have f1 : wr.cell? ⟨b2, off2 + j * 3 + 1, none⟩ = some (.int .i64 s.2.1) := hc 1 (by decide)
          have f2 : wr.cell? ⟨b2, off2 + j * 3 + 2, none⟩ = some (.int .i64 s.2.2) := hc 2 (by decide)
          have HSX := Lib.hid hsx
          have hz := HB.out.size
          clear hc hsx hbl2
          go_upto_region 8 with fail
          have hz2 : wr.heap.size ≤ (wr.alloc (.cells #[.int .i64 s.1, .int .i64 s.2.1, .int .i64 s.2.2] 72)).heap.size := by simp
          have HOA := Lib.hid (HO.out.alloc (.cells #[.int .i64 s.1, .int .i64 s.2.1, .int .i64 s.2.2] 72))
          have HBA := Lib.hid (HB.out.alloc hz (.cells #[.int .i64 s.1, .int .i64 s.2.1, .int .i64 s.2.2] 72))
          have HK := Lib.hid (show Blk (wr.alloc (.cells #[.int .i64 s.1, .int .i64 s.2.1, .int .i64 s.2.2] 72)) wr.heap.size 72 [.int .i64 s.1, .int .i64 s.2.1, .int .i64 s.2.2] from heap_alloc_new wr _)
          generalize (wr.alloc (.cells #[.int .i64 s.1, .int .i64 s.2.1, .int .i64 s.2.2] 72)) = W at *
          generalize wr.heap.size = p at *
          have g0 : W.cell? ⟨p, 0, none⟩ = some (.int .i64 s.1) := HK.out.cell 0
          have g1 : W.cell? ⟨p, 1, none⟩ = some (.int .i64 s.2.1) := HK.out.cell 1
          have g2 : W.cell? ⟨p, 2, none⟩ = some (.int .i64 s.2.2) := HK.out.cell 2
          clear HO HB HK f0 f1 f2
          go_cut [46] from 25 to 46 (fun v wx => v = .bool (betw x y s) ∧ W = wx)
          case first =>
            rcases Bool.eq_false_or_eq_true (s.2.1 == x) with q1 | q1 <;> rcases Bool.eq_false_or_eq_true (s.2.2 == y) with q2 | q2 <;> rcases Bool.eq_false_or_eq_true (s.2.1 == y) with q3 | q3 <;> rcases Bool.eq_false_or_eq_true (s.2.2 == x) with q4 | q4
            all_goals
              have hq := Lib.hid (betw_of q1 q2 q3 q4)
              go_wp2_with fail
              go_meet
              exact ⟨by rw [hq.out]; rfl, rfl⟩
          case rest =>
            obtain ⟨rfl, rfl⟩ := hcut
            cases hq : betw x y s
            · have HQ := Lib.hid hq
              clear hq
              go_wp2_with fail
              go_roundw
              case rel => exact ⟨j + 1, k2, ao2, c2, by omega, by omega, by go_num, rfl, (by unfold RowKit.Hid; rw [List.take_add_one, HSX.out]; simp only [Option.toList_some]; rw [sentIDs_snoc, HQ.out]; simpa using HOA.out), HBA.out⟩
              case measure => simp [intOf]; omega
            · have HQ := Lib.hid hq
              clear hq
              have A1 : k2 + 1 ≤ maxLen := by unfold maxLen; omega
              have A2 : (k2 + 1) * 8 ≤ 140737488355328 := by omega
              have hz3 : w.heap.size ≤ W.heap.size := by omega
              go_wp2_with (at_builtin; refine wpList_app rfl _ _ 22 22 rfl w.heap.size 3 i0 (.int .i64 0) 1 8 Try.underlying22 HI.out HZ0.out HZ1.out HZ2.out rfl (by decide) ao2 k2 c2 _ rfl (HOA.out.alloc _) _ 1 _ rfl (Src.one' Try.underlying22 W _ 3 rfl) A1 A2 (by simp; omega) ?_; intro ao3 c3 w5 hown5 hg5; have HO6 := Lib.hid hown5; have HB6 := Lib.hid ((HBA.out.alloc hz3 _).grown hg5 (by simp; omega) (fun b hb => (HOA.out.lt b hb).1)); clear hown5 hg5)
              go_roundw
              case rel => exact ⟨j + 1, k2 + 1, ao3, c3, by omega, by omega, by go_num, rfl, (by unfold RowKit.Hid; rw [List.take_add_one, HSX.out]; simp only [Option.toList_some]; rw [sentIDs_snoc, HQ.out, ← List.append_assoc, ints_app]; exact HO6.out), HB6.out⟩
              case measure => simp [intOf]; omega
        · obtain rfl : j = S.length := by omega
          have HX2 := Lib.hid (show betweenL (l.take (i + 1)) x y = betweenL (l.take i) x y ++ sentIDs x y (S.take S.length) from by rw [List.take_add_one, HX.out]; simp only [Option.toList_some]; rw [betweenL_snoc, List.take_length, HSS.out])
          go_wp2_with fail
          go_roundw
          case rel => exact ⟨i + 1, k2, ao2, c2, by omega, by omega, by go_num, rfl, (by unfold RowKit.Hid; rw [HX2.out]; exact HO.out), HB.out⟩
          case measure => simp [intOf]; omega
    · obtain rfl : i = l.length := by omega
      have hown := ownsRow_rd HO.out
      rw [List.take_length] at hown
      have HO2 := Lib.hid hown
      clear hown HO
      go_wp2_with fail
      go_ret
      exact ⟨ao, k, c, rfl, HO2.out, HB.out⟩

theorem has_app (a b : List Int) (k : Int) : has (a ++ b) k = (has a k || has b k) := by unfold has; simp
theorem Rd.map {w w' : World} {a : Option Addr} {n c B m : Nat} {xs : List Value} {f : Int → Bool} (h : Rd w a n c xs) (hm : MapB w B m f) (hg : w.grownBy w' (some B)) : Rd w' a n c xs := by
  obtain ⟨h1, h2, h3, h4, h5⟩ := h
  refine ⟨h1, h2, h3, h4, fun i hi => ?_⟩
  obtain ⟨b, off, e, hl, hc⟩ := h5 i hi
  have hne : some b ≠ some B := by
    intro e
    simp only [Option.some.injEq] at e
    subst e
    obtain ⟨D, ⟨es, clock, hb, _⟩, _⟩ := hm
    rw [List.getElem?_eq_getElem (by omega)] at hc
    simp [World.cell?, hb] at hc
  refine ⟨b, off, e, Nat.lt_of_lt_of_le hl hg.size, ?_⟩
  rw [World.cell?_of_block (w := w) (hg.block b hl hne), hc]
theorem flatMap_le {α β : Type} (f : α → List β) (M : Nat) : ∀ (l : List α), (∀ x ∈ l, (f x).length ≤ M) → (l.flatMap f).length ≤ l.length * M
  | [], _ => by simp
  | x :: l, h => by
    have h1 := flatMap_le f M l (fun y hy => h y (by simp [hy]))
    have h2 := h x (by simp)
    rw [List.flatMap_cons, List.length_append, List.length_cons, Nat.add_mul]; omega
theorem betweenL_len {l : List RecM} (x y : Int) (h1 : l.length ≤ 1000) (h2 : ∀ r ∈ l, r.sent.length ≤ 1000) : (betweenL l x y).length ≤ 1000000 := by
  have := flatMap_le (fun r : RecM => sentIDs x y r.sent) 1000 l (fun r hr => Nat.le_trans (sentIDs_len _ _ _) (h2 r hr))
  have h3 := Nat.mul_le_mul_right 1000 h1
  unfold betweenL; omega
theorem betweenL_wf {w : World} {l : List RecM} (x y : Int) (h : ∀ r ∈ l, RecIn w r) : ∀ k ∈ betweenL l x y, wf64 k := by
  intro k hk
  unfold betweenL sentIDs at hk
  simp only [List.mem_flatMap, List.mem_map, List.mem_filter] at hk
  obtain ⟨r, hr, s, ⟨hs, _⟩, rfl⟩ := hk
  exact (h r hr).ids s hs
def WyO (M : Nat) (w : World) (l : List RecM) (good : List Int) (v13 : Value) (wr : World) : Prop := ∃ (i n : Nat), i ≤ good.length ∧ n ≤ i * M ∧ v13 = .int .i64 i ∧ RowKit.Hid (MapB wr w.heap.size n (has ((good.take i).flatMap (betweenL l 0)))) ∧ RowKit.Hid (Below w.heap.size w wr)
def WyI (M : Nat) (w : World) (l : List RecM) (good : List Int) (i : Nat) (ids : List Int) (ao : Option Addr) (m c : Nat) (v21 : Value) (wr : World) : Prop := ∃ (j n : Nat), j ≤ ids.length ∧ n ≤ i * M + j ∧ v21 = .int .i64 j ∧ RowKit.Hid (MapB wr w.heap.size n (has ((good.take i).flatMap (betweenL l 0) ++ ids.take j))) ∧ RowKit.Hid (Rd wr ao m c (ints ids)) ∧ RowKit.Hid (Below w.heap.size w wr)
theorem has_snoc (F ids : List Int) (j : Nat) (x : Int) (hx : ids[j]? = some x) (k : Int) : putB (has (F ++ ids.take j)) x true k = has (F ++ ids.take (j + 1)) k := by
  unfold putB
  rw [List.take_add_one, hx]
  simp only [Option.toList_some, ← List.append_assoc]
  rw [has_app _ [x]]
  split
  · rename_i e; subst e; unfold has; simp
  · rename_i e; have : has [x] k = false := by unfold has; simpa using e
    rw [this, Bool.or_false]
set_option maxRecDepth 100000 in
set_option maxHeartbeats 4000000 in
theorem ways_any (a : Option Addr) (n cap : Nat) (l : List RecM) (ag : Option Addr) (ng cg : Nat) (good : List Int) (w : World) (hr : Recs w a n cap l) (hg : Rd w ag ng cg (ints good)) (h1 : l.length ≤ 1000) (h2 : ∀ r ∈ l, r.sent.length ≤ 1000) (h3 : good.length ≤ 1000) :
    Calls Try.prog 50 #[.slice a n cap, .slice ag ng cg] w fun e w' => ∃ m, e = .returned (.map (some w.heap.size)) ∧ MapB w' w.heap.size m (wayB l good) ∧ Below w.heap.size w w' := by
  have hn := hg.1
  rw [ints_len] at hn
  subst hn
  have hcm := hg.2.2.1
  have hcap := hg.2.1
  unfold maxLen at hcm
  have HR := Lib.hid hr
  have HG := Lib.hid hg
  have HBT := Lib.hid (fun g w h => between_any a n cap l 0 g w h h1 h2)
  obtain ⟨M, hM⟩ : ∃ M, 1000000 = M := ⟨_, rfl⟩
  have HLN := Lib.hid (fun g => show (betweenL l 0 g).length ≤ M from by rw [← hM]; exact betweenL_len (l := l) 0 g h1 h2)
  have HMM := Lib.hid hM
  clear hM
  have HWF := Lib.hid (fun g => betweenL_wf 0 g hr.all)
  clear hr hg h1 h2
  have HM0 := Lib.hid (MapB.made w)
  have hmk := run_makeMap (P := Try.prog) 100 w
  have HB0 := Lib.hid ((Below.refl _ w).alloc (Nat.le_refl _) (.map #[] 0))
  go_enter Try.func50, Try.ntmps50
  go_wp2_with fail
  go_loopw [13] (fun v wr => WyO M w l good v wr) (fun v _ => good.length - (intOf v).toNat)
  case atStart => exact ⟨0, 0, Nat.zero_le _, Nat.zero_le _, rfl, HM0.out.cong (fun k => rfl), HB0.out⟩
  case round =>
    obtain ⟨i, q, hi, hq, rfl, HM, HB⟩ := hrel
    by_cases hlt : i < good.length
    · obtain ⟨x, hx⟩ : ∃ x, good[i]? = some x := ⟨_, List.getElem?_eq_getElem hlt⟩
      obtain ⟨b, off, rfl, hbl, hc⟩ := (HG.out.below HB.out rfl).2.2.2.2 i hlt
      have hc' : wr.cell? ⟨b, off + i, none⟩ = some (.int .i64 x) := by rw [hc]; unfold ints; rw [List.getElem?_map, hx]; rfl
      have HX := Lib.hid hx
      clear hc hx hbl
      go_wp2_with fail
      refine (HBT.out x wr (HR.out.below HB.out rfl)).mono ?_
      rintro e W1 ⟨ao, m, c, rfl, hrd, hb⟩
      have HL := Lib.hid (HLN.out x)
      have HW := Lib.hid (HWF.out x)
      obtain ⟨ids, hids⟩ : ∃ ids, betweenL l 0 x = ids := ⟨_, rfl⟩
      rw [hids] at hrd HL HW
      have HIDS := Lib.hid hids
      have hm := hrd.1
      rw [ints_len] at hm
      subst hm
      have hcm2 := hrd.2.2.1
      have hcap2 := hrd.2.1
      unfold maxLen at hcm2
      have HRD := Lib.hid hrd
      have HB1 := Lib.hid (HB.out.trans (hb.mono HB.out.size))
      have HM1 := Lib.hid (HM.out.below hb)
      clear hrd hb hids hc' HM HB
      go_wp2_with fail
      go_loopw [21] (fun v wr => WyI M w l good i ids ao ids.length c v wr) (fun v _ => ids.length - (intOf v).toNat)
      case atStart => exact ⟨0, q, Nat.zero_le _, hq, rfl, (by unfold RowKit.Hid; rw [List.take_zero, List.append_nil]; exact HM1.out), HRD.out, HB1.out⟩
      case round =>
        clear HRD HM1 HB1 hq
        obtain ⟨j, q2, hj, hq2, rfl, HM, HRD, HB⟩ := hrel
        by_cases hlj : j < ids.length
        · obtain ⟨y, hy⟩ : ∃ y, ids[j]? = some y := ⟨_, List.getElem?_eq_getElem hlj⟩
          obtain ⟨b2, off2, rfl, hbl, hc⟩ := HRD.out.2.2.2.2 j hlj
          have hc' : wr.cell? ⟨b2, off2 + j, none⟩ = some (.int .i64 y) := by rw [hc]; unfold ints; rw [List.getElem?_map, hy]; rfl
          have HY := Lib.hid hy
          have HWY := Lib.hid (HW.out y (List.mem_iff_getElem?.2 ⟨j, hy⟩))
          have A1 : q2 < maxLen := by
            have h4 := HL.out
            have h5 := Nat.mul_le_mul_right M (show i ≤ 1000 by omega)
            have h6 := HMM.out
            subst h6
            unfold maxLen
            omega
          have hz := Lib.hid HB.out.size
          clear hc hy hbl
          go_wp2_with (at_mapUpdate; refine wpList_mapB rfl _ _ _ rfl w.heap.size q2 _ rfl HM.out A1 y true rfl HWY.out rfl ?_; intro w5 hm5 hg5; have HM5 := Lib.hid hm5; have HG5 := Lib.hid hg5; have HB5 := Lib.hid (HB.out.grown hg5 hz.out (fun b hb => by cases hb; exact Nat.le_refl _)); have HRD5 := Lib.hid (HRD.out.map HM.out hg5); clear hm5 hg5)
          go_roundw
          case rel => exact ⟨j + 1, q2 + 1, by omega, by omega, by go_num, HM5.out.cong (fun k => has_snoc _ _ _ _ HY.out k), HRD5.out, HB5.out⟩
          case measure => simp [intOf]; omega
        · obtain rfl : j = ids.length := by omega
          have HX2 := Lib.hid (show (good.take (i + 1)).flatMap (betweenL l 0) = (good.take i).flatMap (betweenL l 0) ++ ids.take ids.length from by rw [List.take_add_one, HX.out]; simp only [Option.toList_some]; rw [List.flatMap_append, List.take_length, ← HIDS.out]; simp)
          have hln := HL.out
          have hq3 : q2 ≤ (i + 1) * M := by rw [Nat.add_mul]; omega
          go_wp2_with fail
          go_roundw
          case rel => exact ⟨i + 1, q2, by omega, hq3, by go_num, (by unfold RowKit.Hid; rw [HX2.out]; exact HM.out), HB.out⟩
          case measure => simp [intOf]; omega
    · obtain rfl : i = good.length := by omega
      have HM2 := Lib.hid (show MapB wr w.heap.size q (wayB l good) from HM.out.cong (fun k => by unfold wayB; rw [List.take_length]))
      clear HM
      go_wp2_with fail
      go_ret
      exact ⟨q, rfl, HM2.out, HB.out⟩
end Go.Proofs.Ytjdanngkmkgidaa
