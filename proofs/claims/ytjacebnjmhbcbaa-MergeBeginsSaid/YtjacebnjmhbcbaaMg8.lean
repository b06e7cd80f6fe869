/- The walk of Put, where items may come. -/
import Derived.Test.YtjacebnjmhbcbaaMg7b
namespace Go.Proofs.Ytjacebnjmhbcbaa
open Go.RowKit
set_option linter.unusedVariables false

def PuR (w : World) (s : PS) (R : Bool) (l : List KeyL) (lb : Nat) (v13 v62 : Value) (wr : World) : Prop := ∃ (i : Nat) (hd : Bool) (last : KeyL), i ≤ l.length ∧ v62 = .int .i64 i ∧ v13 = .bool hd ∧ RowKit.Hid (Blk wr lb 31 [.int .i64 last.1, .string last.2]) ∧ RowKit.Hid (Below w.heap.size w wr) ∧ RowKit.Hid (okI s.least hd last (l.drop i) = R) ∧ RowKit.Hid (hd = (s.heard || decide (0 < i))) ∧ RowKit.Hid (last = (l.take i).getLastD s.last)
/-- an operation is taken first, its slot written out -/
theorem takeH {P : Program} {ops : Array Oper} {Q : Exit → Act → World → Prop} {md : Region.Mode} {S : World → Prop} (i : Nat) (d : Option Tmp) {oi : Oper} {v : Value} {fuel : Nat} {listed : Array Bool} {a : Act} {w : World} (hi : ops[i]? = some oi)
    (hd : oi.dst = d) (hs : Region.noSelect ops = true) (hf : Region.free md ops listed i = true) (hr : (Region.ready md ops listed).contains i = true)
    (hQ : ∀ c a w, Q (.panic c) (a.put d v) w → Q (.panic c) a w) (hy : YieldsIf P ops S oi v a) (hS : S w)
    (h : wpAnyH P md ops Q S fuel (listed.setIfInBounds i true) (a.put d v) w) : wpAnyH P md ops Q S (fuel + 1) listed a w := by
  subst hd
  exact wpAnyH_take hi hs hf hr hQ hy hS h
theorem okI_drop {least : Int} {hd : Bool} {last x : KeyL} {l : List KeyL} {i : Nat} (h : l[i]? = some x) : okI least hd last (l.drop i) = if ((hd && !kless last x) || decide (x.1 < least)) = true then false else okI least true x (l.drop (i + 1)) := by
  obtain ⟨hlt, e⟩ := List.getElem?_eq_some_iff.1 h
  rw [List.drop_eq_getElem_cons hlt, e]
  rfl
theorem last_take {l : List KeyL} {i : Nat} {x d : KeyL} (h : l[i]? = some x) : (l.take (i + 1)).getLastD d = x := by
  rw [List.take_add_one, h]
  simp
def PutEnd (B p k : Nat) (n : Int) (S : List PS) (T : List KeyL) (s : PS) (l : List KeyL) (e : Bool) (gs c : Nat) (M : List MS) (sp : List Value) (ta : Option Addr) (tc : Nat) (w : World) (R : Bool) (e' : Ending) (w' : World) : Prop := (R = false → e' = .returned (.bool false) ∧ Below w.heap.size w w') ∧ (R = true → e' = .returned (.bool true) ∧ (∃ M', MGx B w' p n (S.set k (s.put l e)) T gs c M' sp ta tc ∧ WOld w.heap.size M M') ∧ Frm (fun i => i = gs) w w')
set_option linter.unusedSimpArgs false in
set_option maxRecDepth 100000 in
set_option maxHeartbeats 8000000 in
theorem put_go (B p k : Nat) (n seq : Int) (S : List PS) (T : List KeyL) (s : PS) (l : List KeyL) (e : Bool) (a : Option Addr) (m cap : Nat) (w : World) (gs c : Nat) (M : List MS) (sp : List Value) (ta : Option Addr) (tc : Nat) (hX : MGx B w p n S T gs c M sp ta tc) (hr : RdE KeyL.cells 2 w a m cap l)
    (hs : S[k]? = some s) (hd : doneP n S T = false) (hw : s.wanted = true) (hq : s.seq = seq) (h5 : l.length ≤ 5) (h0 : ¬ (l.length = 0 ∧ e = false)) (hsq : 0 ≤ seq ∧ seq ≤ 1000000) (hB : B ≤ w.heap.size) :
    Calls Try.prog 13 #[.pointer (some ⟨p, 0, none⟩), .int .i64 k, .int .i64 seq, .slice a m cap, .bool e] w (PutEnd B p k n S T s l e gs c M sp ta tc w (okI s.least s.heard s.last l)) := by
  have hlm := hr.1
  obtain ⟨c0, c1, c2, hml, hM, hok, hT, hp, hg, hSc⟩ := hX.read
  have HXX := Lib.hid hX
  have hk : k < S.length := (List.getElem?_eq_some_iff.1 hs).1
  obtain ⟨ms, hm⟩ : ∃ m, M[k]? = some m := ⟨_, List.getElem?_eq_getElem (show k < M.length by omega)⟩
  have hokk := hok k ms s hm hs
  have hdn := done_any B p n S T w hX.mg
  rw [hd] at hdn
  have HD := Lib.hid hdn
  have HW := Lib.hid (hokk.wanted.trans hw)
  have HSH := Lib.hid (hM k ms hm)
  have HSQ := Lib.hid (hokk.seq.trans hq)
  have HHD := Lib.hid hokk.heard
  have HLA := Lib.hid hokk.last
  have HLE := Lib.hid hokk.least
  have HC1 := Lib.hid c1
  have HR := Lib.hid hr
  have HS := Lib.hid hs
  have HLM := Lib.hid hlm
  obtain ⟨R, hR⟩ : ∃ R, okI s.least s.heard s.last l = R := ⟨_, rfl⟩
  rw [hR]
  have HRR := Lib.hid hR
  have h0' : ¬ (m = 0 ∧ e = false) := by rw [← hlm]; exact h0
  have h5' : m ≤ 5 := by omega
  have d2 : decide (5 < m) = false := by simp; omega
  have d2' : decide ((5 : Int) < (m : Int)) = false := by simp; omega
  have d1 : (ms.seq != seq) = false := by rw [HSQ.out]; simp
  have HM := Lib.hid hm
  have HQ := Lib.hid hq
  clear hX hok hokk hM hT c0 c1 c2 hr hm hs hd hw hq h0 h5 hR hdn hml hlm
  have hq1 := fun o W => sptr_eq gs o W
  generalize S.length = k2 at *
  have d3 : m = 0 → e = true := by
    intro e1
    cases e with
    | true => rfl
    | false => exact absurd ⟨e1, rfl⟩ h0'
  clear h0'
  have HD3 := Lib.hid d3
  clear d3
  -- GEN
  by_cases hm0 : m = 0
  · obtain rfl := HD3.out hm0
    subst hm0
    have d4 : (((0 : Nat) : Int) == 0) = true := rfl
    go_enter Try.func13, Try.ntmps13
    go_wp2_with fail
    refine (get_yes p gs k2 c k _ HC1.out hk).mono ?_
    rintro e w' ⟨rfl, rfl⟩
    go_wp2_with fail
    refine HD.out.mono ?_
    rintro e w1 ⟨rfl, hb⟩
    have HB := Lib.hid hb
    have HSH1 := Lib.hid (HSH.out.below hb hg)
    obtain ⟨s0, s1, s2, s3, s4, s5, s6⟩ := (HSH.out.below hb hg).c2
    have hg1 : gs < w1.heap.size := Nat.lt_of_lt_of_le hg hb.size
    clear hb HD
    go_wp2_with fail
    refine (wanted_any gs (k * 7) ms _ HSH1.out).mono ?_
    rintro e w' ⟨rfl, rfl⟩
    rw [HW.out]
    go_wp2_with fail
    rw [HLA.out] at s4 s5
    rw [HHD.out] at s3
    rw [HLE.out] at s0
    clear s1 s2 s6
    have hx0 : ∀ x : KeyL, (w1.alloc (.cells #[.int .i64 x.1, .string x.2] 31)).cell? ⟨gs, k * 7 + 3, none⟩ = some (.bool s.heard) := fun x => by rw [World.cell?_alloc_lt _ _ _ (by exact hg1)]; exact s3
    have hx1 := hx0 s.last
    have hx2 := hx0 (0, ⟨#[]⟩)
    have hx3 : (w1.alloc (.cells #[.int .i64 0, .string ⟨#[]⟩] 31)).cell? ⟨gs, k * 7 + 4, none⟩ = some (.int .i64 s.last.1) := by rw [World.cell?_alloc_lt _ _ _ (by exact hg1)]; exact s4
    have hx4 : (w1.alloc (.cells #[.int .i64 0, .string ⟨#[]⟩] 31)).cell? ⟨gs, k * 7 + 5, none⟩ = some (.string s.last.2) := by rw [World.cell?_alloc_lt _ _ _ (by exact hg1)]; exact s5
    clear hx0
    go_region
    have hlb : Blk (w1.alloc (.cells #[.int .i64 s.last.1, .string s.last.2] 31)).drew w1.heap.size 31 [.int .i64 s.last.1, .string s.last.2] := heap_alloc_new w1 _
    have hB2 : Below w.heap.size w (w1.alloc (.cells #[.int .i64 s.last.1, .string s.last.2] 31)).drew := below_drewN (HB.out.alloc HB.out.size _) 1
    have HLB := Lib.hid hlb
    have HB2 := Lib.hid hB2
    have hlw : w.heap.size ≤ w1.heap.size := HB.out.size
    have hgl : gs ≠ w1.heap.size := by omega
    clear hlb hB2 hx1 hx2 hx3 hx4 s0 s3 s4 s5 hg1 HSH1 HB
    generalize (w1.alloc (.cells #[.int .i64 s.last.1, .string s.last.2] 31)).drew = w2 at HLB HB2 ⊢
    generalize w1.heap.size = lb at HLB hlw hgl ⊢
    go_wp2_with fail
    go_loopw [13, 62] (fun v13 v62 wr => PuR w s R l lb v13 v62 wr) (fun _ v _ => 0 - (intOf v).toNat)
    case atStart => exact ⟨0, s.heard, s.last, Nat.zero_le _, rfl, rfl, HLB.out, HB2.out, HRR.out, (by unfold RowKit.Hid; simp), rfl⟩
    case round =>
      clear HLB HB2
      obtain ⟨i, hd, last, hi, rfl, rfl, HLB, HB, HO, HHH, HLL⟩ := hrel
      rw [HLM.out] at hi
      by_cases hlt : i < 0
      · exact absurd hlt (by omega)
      · have him : i = 0 := by omega
        subst him
        have hr : R = true := by
          rw [← HO.out, List.drop_eq_nil_of_le (by rw [HLM.out]; exact Nat.le_refl _)]; rfl
        subst hr
        have hlast : last = l.getLastD s.last := by rw [HLL.out, List.take_of_length_le (by rw [HLM.out]; exact Nat.le_refl _)]
        subst hlast
        have hhd : hd = (s.heard || decide (0 < l.length)) := by rw [HHH.out, HLM.out]
        subst hhd
        clear HO HLL HHH hlt
        have y0 := HLB.out.cell 0
        have y1 := HLB.out.cell 1
        rw [show ([.int .i64 (l.getLastD s.last).1, .string (l.getLastD s.last).2] : List Value)[0]? = some (.int .i64 (l.getLastD s.last).1) from rfl] at y0
        rw [show ([.int .i64 (l.getLastD s.last).1, .string (l.getLastD s.last).2] : List Value)[1]? = some (.string (l.getLastD s.last).2) from rfl] at y1
        have HCL := Lib.hid (fun W h => cloneI_any W a 0 cap l h (by omega))
        have HRD : RowKit.Hid (RdE KeyL.cells 2 wr.drew a 0 cap l) := HR.out.below (below_drewN HB.out 1) rfl
        have HGR : RowKit.Hid (Blk wr.drew gs 74 (M.flatMap MS.cells ++ sp)) := HXX.out.G.below (below_drewN HB.out 1) hg
        have hgw : gs < wr.drew.heap.size := HGR.out.lt
        clear HR
        go_wp2_with fail
        obtain ⟨la, hla⟩ : ∃ la, l.getLastD s.last = la := ⟨_, rfl⟩
        obtain ⟨hd, hhd⟩ : ∃ hd, (s.heard || decide (0 < l.length)) = hd := ⟨_, rfl⟩
        rw [hla] at y0 y1
        rw [hhd]
        have HLA := Lib.hid hla
        have HHD := Lib.hid hhd
        clear hla hhd
        have hlw2 : lb < wr.drew.heap.size := HLB.out.lt
        go_region_held3 (fun w' => w'.cell? ⟨lb, 0, none⟩ = some (.int .i64 la.1) ∧ w'.cell? ⟨lb, 1, none⟩ = some (.string la.2)) (exact ⟨by (try simp only [World.cell?_setCell_far, ne_eq, hgl, not_false_eq_true]); first | exact yu0 | exact y0, by (try simp only [World.cell?_setCell_far, ne_eq, hgl, not_false_eq_true]); first | exact yu1 | exact y1⟩) (first | (go_at_call 41; refine (HCL.out _ HRD.out).mono ?_; rintro e u ⟨ao', c', rfl, hown, hbu⟩; have HOU := Lib.hid hown; have HBU := Lib.hid hbu; have HRU := Lib.hid (HGR.out.below hbu hgw); have yu0 := (hbu.cell (p := ⟨lb, 0, none⟩) hlw2).trans y0; have yu1 := (hbu.cell (p := ⟨lb, 1, none⟩) hlw2).trans y1; obtain ⟨t0, t1, t2, t3, t4, t5, t6⟩ := (ShAt.of_row HRU.out HM.out).c2; have f4 := HRU.out.frozen (k * 7 + 4); have f5 := HRU.out.frozen (k * 7 + 5); have f3 := HRU.out.frozen (k * 7 + 3); have f6 := HRU.out.frozen (k * 7 + 6); clear hown hbu))
        all_goals
          have hle : w.heap.size ≤ wr.drew.heap.size := HB.out.size
          have hgw0 : gs < w.heap.size := hg
          have HR3 := Lib.hid (Blk.set (Blk.set (Blk.set (Blk.set HRU.out (k * 7 + 4) (.int .i64 la.1)) (k * 7 + 4 + 1) (.string la.2)) (k * 7 + 3) (.bool hd)) (k * 7 + 6) (.slice ao' 0 c'))
          have HF0 : RowKit.Hid (Frm (fun i => i = gs) u ((((u.setCell ⟨gs, k * 7 + 4, none⟩ (.int .i64 la.1)).setCell ⟨gs, k * 7 + 4 + 1, none⟩ (.string la.2)).setCell ⟨gs, k * 7 + 3, none⟩ (.bool hd)).setCell ⟨gs, k * 7 + 6, none⟩ (.slice ao' 0 c'))) := ((((Frm.refl (fun i => i = gs) u).setCell _ _ (.inl rfl)).setCell _ _ (.inl rfl)).setCell _ _ (.inl rfl)).setCell _ _ (.inl rfl)
          have HF3 := Lib.hid ((Frm.below (S := fun i => i = gs) ((below_drewN HB.out 1).trans (HBU.out.mono hle))).trans HF0.out (fun i h _ => h))
          have HO3 := Lib.hid (ownsRow_frm (own0 HOU.out hle) HF0.out (fun g hg' e => by have := own_ge HOU.out g hg'; omega))
          have q1 : ((((u.setCell ⟨gs, k * 7 + 4, none⟩ (.int .i64 la.1)).setCell ⟨gs, k * 7 + 4 + 1, none⟩ (.string la.2)).setCell ⟨gs, k * 7 + 3, none⟩ (.bool hd)).setCell ⟨gs, k * 7 + 6, none⟩ (.slice ao' 0 c')).cell? ⟨gs, k * 7 + 1, none⟩ = some (.int .i64 seq) := by
            rw [HR3.out.cell, List.getElem?_set_ne (by omega), List.getElem?_set_ne (by omega), List.getElem?_set_ne (by omega), List.getElem?_set_ne (by omega), ← HRU.out.cell, t1, HSQ.out]
          have q2 : ((((u.setCell ⟨gs, k * 7 + 4, none⟩ (.int .i64 la.1)).setCell ⟨gs, k * 7 + 4 + 1, none⟩ (.string la.2)).setCell ⟨gs, k * 7 + 3, none⟩ (.bool hd)).setCell ⟨gs, k * 7 + 6, none⟩ (.slice ao' 0 c')).cell? ⟨gs, k * 7 + 2, none⟩ = some (.bool ms.ended) := by
            rw [HR3.out.cell, List.getElem?_set_ne (by omega), List.getElem?_set_ne (by omega), List.getElem?_set_ne (by omega), List.getElem?_set_ne (by omega), ← HRU.out.cell, t2]
          have g1 := HR3.out.frozen (k * 7 + 1)
          have g2 := HR3.out.frozen (k * 7 + 2)
          rename_i hHeld
          clear hHeld yu0 yu1 t0 t1 t2 t3 t4 t5 t6 f3 f4 f5 f6 HF0 HOU HBU HRU HRD HGR y0 y1
          generalize (((u.setCell ⟨gs, k * 7 + 4, none⟩ (.int .i64 la.1)).setCell ⟨gs, k * 7 + 4 + 1, none⟩ (.string la.2)).setCell ⟨gs, k * 7 + 3, none⟩ (.bool hd)).setCell ⟨gs, k * 7 + 6, none⟩ (.slice ao' 0 c') = w3 at HR3 HF3 HO3 q1 q2 g1 g2 ⊢
          obtain ⟨hs1, hs2⟩ := hsq
          go_wp2_with fail
          go_ret
          have HF4 : RowKit.Hid (Frm (fun i => i = gs) w3 ((w3.setCell ⟨gs, k * 7 + 1, none⟩ (.int .i64 (seq + 1))).setCell ⟨gs, k * 7 + 2, none⟩ (.bool true))) := ((Frm.refl (fun i => i = gs) w3).setCell _ _ (.inl rfl)).setCell _ _ (.inl rfl)
          refine ⟨(fun h => by cases h), fun _ => ⟨rfl, mg_put HXX.out HM.out HS.out HLM.out h5' hB (HF3.out.trans HF4.out (fun i h _ => h)) (ownsRow_frm HO3.out HF4.out (fun g hg' e => by have := own_ge HO3.out g hg'; omega)) (hd := hd) (la := la) (by have h7 := HHD.out; rw [HLM.out] at h7; exact h7.symm) HLA.out.symm ?_, HF3.out.trans HF4.out (fun i h _ => h)⟩⟩
          rw [HQ.out]
          exact Blk.set (Blk.set HR3.out _ _) _ _
  · have d4 : ((m : Int) == 0) = false := by rw [beq_eq_false_iff_ne]; omega
    have hm1 : 1 ≤ m := by omega
    clear hm0
    go_enter Try.func13, Try.ntmps13
    go_wp2_with fail
    refine (get_yes p gs k2 c k _ HC1.out hk).mono ?_
    rintro e w' ⟨rfl, rfl⟩
    go_wp2_with fail
    refine HD.out.mono ?_
    rintro e w1 ⟨rfl, hb⟩
    have HB := Lib.hid hb
    have HSH1 := Lib.hid (HSH.out.below hb hg)
    obtain ⟨s0, s1, s2, s3, s4, s5, s6⟩ := (HSH.out.below hb hg).c2
    have hg1 : gs < w1.heap.size := Nat.lt_of_lt_of_le hg hb.size
    clear hb HD
    go_wp2_with fail
    refine (wanted_any gs (k * 7) ms _ HSH1.out).mono ?_
    rintro e w' ⟨rfl, rfl⟩
    rw [HW.out]
    go_wp2_with fail
    rw [HLA.out] at s4 s5
    rw [HHD.out] at s3
    rw [HLE.out] at s0
    clear s1 s2 s6
    have hx0 : ∀ x : KeyL, (w1.alloc (.cells #[.int .i64 x.1, .string x.2] 31)).cell? ⟨gs, k * 7 + 3, none⟩ = some (.bool s.heard) := fun x => by rw [World.cell?_alloc_lt _ _ _ (by exact hg1)]; exact s3
    have hx1 := hx0 s.last
    have hx2 := hx0 (0, ⟨#[]⟩)
    have hx3 : (w1.alloc (.cells #[.int .i64 0, .string ⟨#[]⟩] 31)).cell? ⟨gs, k * 7 + 4, none⟩ = some (.int .i64 s.last.1) := by rw [World.cell?_alloc_lt _ _ _ (by exact hg1)]; exact s4
    have hx4 : (w1.alloc (.cells #[.int .i64 0, .string ⟨#[]⟩] 31)).cell? ⟨gs, k * 7 + 5, none⟩ = some (.string s.last.2) := by rw [World.cell?_alloc_lt _ _ _ (by exact hg1)]; exact s5
    clear hx0
    go_region
    have hlb : Blk (w1.alloc (.cells #[.int .i64 s.last.1, .string s.last.2] 31)).drew w1.heap.size 31 [.int .i64 s.last.1, .string s.last.2] := heap_alloc_new w1 _
    have hB2 : Below w.heap.size w (w1.alloc (.cells #[.int .i64 s.last.1, .string s.last.2] 31)).drew := below_drewN (HB.out.alloc HB.out.size _) 1
    have HLB := Lib.hid hlb
    have HB2 := Lib.hid hB2
    have hlw : w.heap.size ≤ w1.heap.size := HB.out.size
    have hgl : gs ≠ w1.heap.size := by omega
    clear hlb hB2 hx1 hx2 hx3 hx4 s0 s3 s4 s5 hg1 HSH1 HB
    generalize (w1.alloc (.cells #[.int .i64 s.last.1, .string s.last.2] 31)).drew = w2 at HLB HB2 ⊢
    generalize w1.heap.size = lb at HLB hlw hgl ⊢
    go_wp2_with fail
    go_loopw [13, 62] (fun v13 v62 wr => PuR w s R l lb v13 v62 wr) (fun _ v _ => m - (intOf v).toNat)
    case atStart => exact ⟨0, s.heard, s.last, Nat.zero_le _, rfl, rfl, HLB.out, HB2.out, HRR.out, (by unfold RowKit.Hid; simp), rfl⟩
    case round =>
      clear HLB HB2
      obtain ⟨i, hd, last, hi, rfl, rfl, HLB, HB, HO, HHH, HLL⟩ := hrel
      rw [HLM.out] at hi
      by_cases hlt : i < m
      · obtain ⟨x, hx⟩ : ∃ x, l[i]? = some x := ⟨_, List.getElem?_eq_getElem (show i < l.length by have := HLM.out; omega)⟩
        obtain ⟨b, o, rfl, z0, z1, _⟩ := (HR.out.below HB.out rfl).atI hx
        have ho := HO.out
        rw [okI_drop hx] at ho
        have HO2 := Lib.hid ho
        have HX := Lib.hid hx
        have k1 : (0 : Int) ≤ (i : Int) := by omega
        have k2' : (i : Int) < (m : Int) := by omega
        have hls := (HLB.out.alloc (.cells #[.int .i64 x.1, .string x.2] 31))
        have y0 := hls.cell 0
        have y1 := hls.cell 1
        have fy0 := hls.frozen 0
        have fy1 := hls.frozen 1
        rw [show ([.int .i64 last.1, .string last.2] : List Value)[0]? = some (.int .i64 last.1) from rfl] at y0
        rw [show ([.int .i64 last.1, .string last.2] : List Value)[1]? = some (.string last.2) from rfl] at y1
        have hxb : Blk (wr.alloc (.cells #[.int .i64 x.1, .string x.2] 31)) wr.heap.size 31 [.int .i64 x.1, .string x.2] := heap_alloc_new wr _
        have x0 := hxb.cell 0
        have x1 := hxb.cell 1
        rw [show ([.int .i64 x.1, .string x.2] : List Value)[0]? = some (.int .i64 x.1) from rfl] at x0
        rw [show ([.int .i64 x.1, .string x.2] : List Value)[1]? = some (.string x.2) from rfl] at x1
        have HBA := Lib.hid (HB.out.alloc HB.out.size (.cells #[.int .i64 x.1, .string x.2] 31))
        obtain ⟨r0, _⟩ := (HSH.out.below HBA.out hg).c2
        rw [HLE.out] at r0
        have HLSB := Lib.hid hls
        have hxl : wr.heap.size < (wr.alloc (.cells #[.int .i64 x.1, .string x.2] 31)).heap.size := by simp
        have hne : lb ≠ wr.heap.size := by have := HLB.out.lt; omega
        clear hx ho HO hls hxb HLB HB
        have HHD2 : RowKit.Hid (true = (s.heard || decide (0 < i + 1))) := by unfold RowKit.Hid; simp
        have HLL2 : RowKit.Hid (x = (l.take (i + 1)).getLastD s.last) := (last_take HX.out).symm
        cases hd with
        | false =>
          by_cases hlo : x.1 < s.least
          · have hr : R = false := by rw [← HO2.out]; simp [hlo]
            have d5 : decide (x.1 < s.least) = true := by simpa using hlo
            clear HO2 hlo
            subst hr
            go_wp2_with fail
            generalize wr.alloc (.cells #[.int .i64 x.1, .string x.2] 31) = wA at *
            go_quiet (fail)
            go_wp2_with fail
            go_ret
            exact ⟨fun _ => ⟨rfl, below_drewN HBA.out _⟩, fun h => by cases h⟩
          · have HO3 : RowKit.Hid (okI s.least true x (l.drop (i + 1)) = R) := by rw [← HO2.out]; unfold RowKit.Hid; simp [hlo]
            have d5 : decide (x.1 < s.least) = false := by simpa using hlo
            clear HO2 hlo
            go_wp2_with fail
            generalize wr.alloc (.cells #[.int .i64 x.1, .string x.2] 31) = wA at *
            go_quiet (fail)
            go_wp2_with fail
            go_roundw
            case rel =>
              exact ⟨i + 1, true, x, by rw [HLM.out]; omega, by go_num, rfl, (Blk.set (Blk.set (Blk.drewN HLSB.out nq) 0 (.int .i64 x.1)) 1 (.string x.2)), (Below.setCell (Below.setCell (below_drewN HBA.out nq) hlw _) hlw _), HO3.out, HHD2.out, HLL2.out⟩
            case measure => simp [intOf]; omega
        | true =>
          have HGB : RowKit.Hid (Below (wr.alloc (.cells #[.int .i64 x.1, .string x.2] 31)).heap.size (wr.alloc (.cells #[.int .i64 x.1, .string x.2] 31)) (wr.alloc (.cells #[.int .i64 x.1, .string x.2] 31)).drew) := below_drewN (Below.refl _ _) 1
          have HXS := Lib.hid (And.intro y0 (And.intro y1 (And.intro x0 (And.intro x1 r0))))
          have hgr := cell?_lt r0
          have hlbl := cell?_lt y0
          have HLS := Lib.hid (itless last x)
          clear y0 y1 x0 x1 r0 fy0 fy1
          go_wp2_with fail
          generalize hwA : wr.alloc (.cells #[.int .i64 x.1, .string x.2] 31) = wA at *
          clear hwA
          cases hk2 : kless last x with
          | false =>
            have hr : R = false := by rw [← HO2.out]; simp [hk2]
            rw [hk2] at HLS
            clear HO2 hk2
            subst hr
            refine wp_region_held_drew (S := (fun w' => w'.cell? ⟨lb, 0, none⟩ = some (.int .i64 last.1) ∧ w'.cell? ⟨lb, 1, none⟩ = some (.string last.2) ∧ w'.cell? ⟨wr.heap.size, 0, none⟩ = some (.int .i64 x.1) ∧ w'.cell? ⟨wr.heap.size, 1, none⟩ = some (.string x.2) ∧ w'.cell? ⟨gs, k * 7, none⟩ = some (.int .i64 s.least))) (by kernel_rfl) (by exact ⟨(HGB.out.cell (p := ⟨lb, 0, none⟩) hlbl).trans HXS.out.1, (HGB.out.cell (p := ⟨lb, 1, none⟩) hlbl).trans HXS.out.2.1, (HGB.out.cell (p := ⟨wr.heap.size, 0, none⟩) hxl).trans HXS.out.2.2.1, (HGB.out.cell (p := ⟨wr.heap.size, 1, none⟩) hxl).trans HXS.out.2.2.2.1, (HGB.out.cell (p := ⟨gs, k * 7, none⟩) hgr).trans HXS.out.2.2.2.2⟩) (fun hHeld => ?_)
            refine takeH 0 (some 66) (v := ?_) rfl rfl (by kernel_rfl) (by kernel_rfl) (by kernel_rfl) (fun _ _ _ h => h) (Or.inl ⟨by rfl, ?_⟩) (by assumption) ?_
            rotate_left 1
            · intro w hSw; (try dsimp only at hSw); go_simp; all_goals with_reducible rfl
            try simp only [Act.put, List.setIfInBounds_toArray, List.set_cons_zero, List.set_cons_succ]
            refine takeH 1 (some 67) (v := ?_) rfl rfl (by kernel_rfl) (by kernel_rfl) (by kernel_rfl) (fun _ _ _ h => h) (Or.inl ⟨by rfl, ?_⟩) (by assumption) ?_
            rotate_left 1
            · intro w hSw; (try dsimp only at hSw); go_simp; all_goals with_reducible rfl
            try simp only [Act.put, List.setIfInBounds_toArray, List.set_cons_zero, List.set_cons_succ]
            refine takeH 2 (some 68) (v := ?_) rfl rfl (by kernel_rfl) (by kernel_rfl) (by kernel_rfl) (fun _ _ _ h => h) (Or.inl ⟨by rfl, ?_⟩) (by assumption) ?_
            rotate_left 1
            · intro w hSw; (try dsimp only at hSw); go_simp; all_goals with_reducible rfl
            try simp only [Act.put, List.setIfInBounds_toArray, List.set_cons_zero, List.set_cons_succ]
            refine takeH 3 (some 69) (v := ?_) rfl rfl (by kernel_rfl) (by kernel_rfl) (by kernel_rfl) (fun _ _ _ h => h) (Or.inl ⟨by rfl, ?_⟩) (by assumption) ?_
            rotate_left 1
            · intro w hSw; (try dsimp only at hSw); go_simp; all_goals with_reducible rfl
            try simp only [Act.put, List.setIfInBounds_toArray, List.set_cons_zero, List.set_cons_succ]
            refine wpAnyH_ready (rs := [4]) (by kernel_rfl) (by simp) ?_
            refine AllReadyH.cons rfl (fun K hK => ?_) AllReadyH.nil
            go_simp
            go_at_call 12; refine (HLS.out _).mono ?_; rintro e u ⟨rfl, hb⟩; have HSN := Lib.hid (HGB.out.trans (hb.mono HGB.out.size)); clear HGB; have HGB := HSN; clear HSN; clear hb
            go_wp2_with fail
            refine hK.out _ _ (by exact ⟨(HGB.out.cell (p := ⟨lb, 0, none⟩) hlbl).trans HXS.out.1, (HGB.out.cell (p := ⟨lb, 1, none⟩) hlbl).trans HXS.out.2.1, (HGB.out.cell (p := ⟨wr.heap.size, 0, none⟩) hxl).trans HXS.out.2.2.1, (HGB.out.cell (p := ⟨wr.heap.size, 1, none⟩) hxl).trans HXS.out.2.2.2.1, (HGB.out.cell (p := ⟨gs, k * 7, none⟩) hgr).trans HXS.out.2.2.2.2⟩) (fun hHeld => ?_)
            clear hK K
            try simp only [Act.put, List.setIfInBounds_toArray, List.set_cons_zero, List.set_cons_succ]
            refine takeH 5 (some 71) (v := ?_) rfl rfl (by kernel_rfl) (by kernel_rfl) (by kernel_rfl) (fun _ _ _ h => h) (Or.inl ⟨by rfl, ?_⟩) (by assumption) ?_
            rotate_left 1
            · intro w hSw; (try dsimp only at hSw); go_simp; all_goals with_reducible rfl
            try simp only [Act.put, List.setIfInBounds_toArray, List.set_cons_zero, List.set_cons_succ]
            refine takeH 6 (some 72) (v := ?_) rfl rfl (by kernel_rfl) (by kernel_rfl) (by kernel_rfl) (fun _ _ _ h => h) (Or.inl ⟨by rfl, ?_⟩) (by assumption) ?_
            rotate_left 1
            · intro w hSw; (try dsimp only at hSw); go_simp; all_goals with_reducible rfl
            try simp only [Act.put, List.setIfInBounds_toArray, List.set_cons_zero, List.set_cons_succ]
            refine takeH 7 (some 73) (v := ?_) rfl rfl (by kernel_rfl) (by kernel_rfl) (by kernel_rfl) (fun _ _ _ h => h) (Or.inl ⟨by rfl, ?_⟩) (by assumption) ?_
            rotate_left 1
            · intro w hSw; (try dsimp only at hSw); go_simp; all_goals with_reducible rfl
            try simp only [Act.put, List.setIfInBounds_toArray, List.set_cons_zero, List.set_cons_succ]
            refine takeH 8 (some 74) (v := undef) rfl rfl (by kernel_rfl) (by kernel_rfl) (by kernel_rfl) (fun _ _ _ h => h) (Or.inr ⟨by rfl, rfl⟩) (by assumption) ?_
            try simp only [Act.put, List.setIfInBounds_toArray, List.set_cons_zero, List.set_cons_succ]
            refine takeH 9 (some 75) (v := undef) rfl rfl (by kernel_rfl) (by kernel_rfl) (by kernel_rfl) (fun _ _ _ h => h) (Or.inr ⟨by rfl, rfl⟩) (by assumption) ?_
            try simp only [Act.put, List.setIfInBounds_toArray, List.set_cons_zero, List.set_cons_succ]
            refine takeH 10 (some 76) (v := undef) rfl rfl (by kernel_rfl) (by kernel_rfl) (by kernel_rfl) (fun _ _ _ h => h) (Or.inr ⟨by rfl, rfl⟩) (by assumption) ?_
            try simp only [Act.put, List.setIfInBounds_toArray, List.set_cons_zero, List.set_cons_succ]
            refine takeH 11 (some 77) (v := undef) rfl rfl (by kernel_rfl) (by kernel_rfl) (by kernel_rfl) (fun _ _ _ h => h) (Or.inr ⟨by rfl, rfl⟩) (by assumption) ?_
            try simp only [Act.put, List.setIfInBounds_toArray, List.set_cons_zero, List.set_cons_succ]
            refine takeH 12 (some 78) (v := undef) rfl rfl (by kernel_rfl) (by kernel_rfl) (by kernel_rfl) (fun _ _ _ h => h) (Or.inr ⟨by rfl, rfl⟩) (by assumption) ?_
            try simp only [Act.put, List.setIfInBounds_toArray, List.set_cons_zero, List.set_cons_succ]
            refine takeH 13 (some 79) (v := undef) rfl rfl (by kernel_rfl) (by kernel_rfl) (by kernel_rfl) (fun _ _ _ h => h) (Or.inr ⟨by rfl, rfl⟩) (by assumption) ?_
            try simp only [Act.put, List.setIfInBounds_toArray, List.set_cons_zero, List.set_cons_succ]
            refine takeH 14 (some 80) (v := undef) rfl rfl (by kernel_rfl) (by kernel_rfl) (by kernel_rfl) (fun _ _ _ h => h) (Or.inr ⟨by rfl, rfl⟩) (by assumption) ?_
            try simp only [Act.put, List.setIfInBounds_toArray, List.set_cons_zero, List.set_cons_succ]
            refine takeH 15 (some 81) (v := ?_) rfl rfl (by kernel_rfl) (by kernel_rfl) (by kernel_rfl) (fun _ _ _ h => h) (Or.inl ⟨by rfl, ?_⟩) (by assumption) ?_
            rotate_left 1
            · intro w hSw; (try dsimp only at hSw); go_simp; all_goals with_reducible rfl
            try simp only [Act.put, List.setIfInBounds_toArray, List.set_cons_zero, List.set_cons_succ]
            refine wpAnyH_done (by kernel_rfl) ?_ _
            all_goals
              go_wp2_with fail
              go_ret
              exact ⟨fun _ => ⟨rfl, HBA.out.trans (HGB.out.mono HBA.out.size)⟩, fun h => by cases h⟩
          | true =>
            rw [hk2] at HLS
            by_cases hlo : x.1 < s.least
            · have hr : R = false := by rw [← HO2.out]; simp [hlo]
              have d5 : decide (x.1 < s.least) = true := by simpa using hlo
              clear HO2 hlo hk2
              subst hr
              go_region_held3 (fun w' => w'.cell? ⟨lb, 0, none⟩ = some (.int .i64 last.1) ∧ w'.cell? ⟨lb, 1, none⟩ = some (.string last.2) ∧ w'.cell? ⟨wr.heap.size, 0, none⟩ = some (.int .i64 x.1) ∧ w'.cell? ⟨wr.heap.size, 1, none⟩ = some (.string x.2) ∧ w'.cell? ⟨gs, k * 7, none⟩ = some (.int .i64 s.least)) (exact ⟨(HGB.out.cell (p := ⟨lb, 0, none⟩) hlbl).trans HXS.out.1, (HGB.out.cell (p := ⟨lb, 1, none⟩) hlbl).trans HXS.out.2.1, (HGB.out.cell (p := ⟨wr.heap.size, 0, none⟩) hxl).trans HXS.out.2.2.1, (HGB.out.cell (p := ⟨wr.heap.size, 1, none⟩) hxl).trans HXS.out.2.2.2.1, (HGB.out.cell (p := ⟨gs, k * 7, none⟩) hgr).trans HXS.out.2.2.2.2⟩) (first | (go_at_call 12; refine (HLS.out _).mono ?_; rintro e u ⟨rfl, hb⟩; have HSN := Lib.hid (HGB.out.trans (hb.mono HGB.out.size)); clear HGB; have HGB := HSN; clear HSN; clear hb))
              all_goals
                go_wp2_with fail
                go_ret
                exact ⟨fun _ => ⟨rfl, HBA.out.trans (HGB.out.mono HBA.out.size)⟩, fun h => by cases h⟩
            · have HO3 : RowKit.Hid (okI s.least true x (l.drop (i + 1)) = R) := by rw [← HO2.out]; unfold RowKit.Hid; simp [hlo, hk2]
              have d5 : decide (x.1 < s.least) = false := by simpa using hlo
              clear HO2 hlo hk2
              go_region_held3 (fun w' => w'.cell? ⟨lb, 0, none⟩ = some (.int .i64 last.1) ∧ w'.cell? ⟨lb, 1, none⟩ = some (.string last.2) ∧ w'.cell? ⟨wr.heap.size, 0, none⟩ = some (.int .i64 x.1) ∧ w'.cell? ⟨wr.heap.size, 1, none⟩ = some (.string x.2) ∧ w'.cell? ⟨gs, k * 7, none⟩ = some (.int .i64 s.least)) (exact ⟨(HGB.out.cell (p := ⟨lb, 0, none⟩) hlbl).trans HXS.out.1, (HGB.out.cell (p := ⟨lb, 1, none⟩) hlbl).trans HXS.out.2.1, (HGB.out.cell (p := ⟨wr.heap.size, 0, none⟩) hxl).trans HXS.out.2.2.1, (HGB.out.cell (p := ⟨wr.heap.size, 1, none⟩) hxl).trans HXS.out.2.2.2.1, (HGB.out.cell (p := ⟨gs, k * 7, none⟩) hgr).trans HXS.out.2.2.2.2⟩) (first | (go_at_call 12; refine (HLS.out _).mono ?_; rintro e u ⟨rfl, hb⟩; have HSN := Lib.hid (HGB.out.trans (hb.mono HGB.out.size)); clear HGB; have HGB := HSN; clear HSN; clear hb))
              all_goals
                have HLS2 := Lib.hid (HLSB.out.below HGB.out hlbl)
                have f0 := HLS2.out.frozen 0
                have f1 := HLS2.out.frozen 1
                have HBB := Lib.hid (HBA.out.trans (HGB.out.mono HBA.out.size))
                go_wp2_with fail
                go_roundw
                case rel =>
                  exact ⟨i + 1, true, x, by rw [HLM.out]; omega, by go_num, rfl, (Blk.set (Blk.set HLS2.out 0 (.int .i64 x.1)) 1 (.string x.2)), (Below.setCell (Below.setCell HBB.out hlw _) hlw _), HO3.out, HHD2.out, HLL2.out⟩
                case measure => simp [intOf]; omega
      · have him : i = m := by omega
        subst him
        have hr : R = true := by
          rw [← HO.out, List.drop_eq_nil_of_le (by rw [HLM.out]; exact Nat.le_refl _)]; rfl
        subst hr
        have hlast : last = l.getLastD s.last := by rw [HLL.out, List.take_of_length_le (by rw [HLM.out]; exact Nat.le_refl _)]
        subst hlast
        have hhd : hd = (s.heard || decide (0 < l.length)) := by rw [HHH.out, HLM.out]
        subst hhd
        clear HO HLL HHH hlt
        have y0 := HLB.out.cell 0
        have y1 := HLB.out.cell 1
        rw [show ([.int .i64 (l.getLastD s.last).1, .string (l.getLastD s.last).2] : List Value)[0]? = some (.int .i64 (l.getLastD s.last).1) from rfl] at y0
        rw [show ([.int .i64 (l.getLastD s.last).1, .string (l.getLastD s.last).2] : List Value)[1]? = some (.string (l.getLastD s.last).2) from rfl] at y1
        have HCL := Lib.hid (fun W h => cloneI_any W a i cap l h (by omega))
        have HRD : RowKit.Hid (RdE KeyL.cells 2 wr.drew a i cap l) := HR.out.below (below_drewN HB.out 1) rfl
        have HGR : RowKit.Hid (Blk wr.drew gs 74 (M.flatMap MS.cells ++ sp)) := HXX.out.G.below (below_drewN HB.out 1) hg
        have hgw : gs < wr.drew.heap.size := HGR.out.lt
        clear HR
        go_wp2_with fail
        obtain ⟨la, hla⟩ : ∃ la, l.getLastD s.last = la := ⟨_, rfl⟩
        obtain ⟨hd, hhd⟩ : ∃ hd, (s.heard || decide (0 < l.length)) = hd := ⟨_, rfl⟩
        rw [hla] at y0 y1
        rw [hhd]
        have HLA := Lib.hid hla
        have HHD := Lib.hid hhd
        clear hla hhd
        have hlw2 : lb < wr.drew.heap.size := HLB.out.lt
        go_region_held3 (fun w' => w'.cell? ⟨lb, 0, none⟩ = some (.int .i64 la.1) ∧ w'.cell? ⟨lb, 1, none⟩ = some (.string la.2)) (exact ⟨by (try simp only [World.cell?_setCell_far, ne_eq, hgl, not_false_eq_true]); first | exact yu0 | exact y0, by (try simp only [World.cell?_setCell_far, ne_eq, hgl, not_false_eq_true]); first | exact yu1 | exact y1⟩) (first | (go_at_call 41; refine (HCL.out _ HRD.out).mono ?_; rintro e u ⟨ao', c', rfl, hown, hbu⟩; have HOU := Lib.hid hown; have HBU := Lib.hid hbu; have HRU := Lib.hid (HGR.out.below hbu hgw); have yu0 := (hbu.cell (p := ⟨lb, 0, none⟩) hlw2).trans y0; have yu1 := (hbu.cell (p := ⟨lb, 1, none⟩) hlw2).trans y1; obtain ⟨t0, t1, t2, t3, t4, t5, t6⟩ := (ShAt.of_row HRU.out HM.out).c2; have f4 := HRU.out.frozen (k * 7 + 4); have f5 := HRU.out.frozen (k * 7 + 5); have f3 := HRU.out.frozen (k * 7 + 3); have f6 := HRU.out.frozen (k * 7 + 6); clear hown hbu))
        all_goals
          have hle : w.heap.size ≤ wr.drew.heap.size := HB.out.size
          have hgw0 : gs < w.heap.size := hg
          have HR3 := Lib.hid (Blk.set (Blk.set (Blk.set (Blk.set HRU.out (k * 7 + 4) (.int .i64 la.1)) (k * 7 + 4 + 1) (.string la.2)) (k * 7 + 3) (.bool hd)) (k * 7 + 6) (.slice ao' i c'))
          have HF0 : RowKit.Hid (Frm (fun i => i = gs) u ((((u.setCell ⟨gs, k * 7 + 4, none⟩ (.int .i64 la.1)).setCell ⟨gs, k * 7 + 4 + 1, none⟩ (.string la.2)).setCell ⟨gs, k * 7 + 3, none⟩ (.bool hd)).setCell ⟨gs, k * 7 + 6, none⟩ (.slice ao' i c'))) := ((((Frm.refl (fun i => i = gs) u).setCell _ _ (.inl rfl)).setCell _ _ (.inl rfl)).setCell _ _ (.inl rfl)).setCell _ _ (.inl rfl)
          have HF3 := Lib.hid ((Frm.below (S := fun i => i = gs) ((below_drewN HB.out 1).trans (HBU.out.mono hle))).trans HF0.out (fun i h _ => h))
          have HO3 := Lib.hid (ownsRow_frm (own0 HOU.out hle) HF0.out (fun g hg' e => by have := own_ge HOU.out g hg'; omega))
          have q1 : ((((u.setCell ⟨gs, k * 7 + 4, none⟩ (.int .i64 la.1)).setCell ⟨gs, k * 7 + 4 + 1, none⟩ (.string la.2)).setCell ⟨gs, k * 7 + 3, none⟩ (.bool hd)).setCell ⟨gs, k * 7 + 6, none⟩ (.slice ao' i c')).cell? ⟨gs, k * 7 + 1, none⟩ = some (.int .i64 seq) := by
            rw [HR3.out.cell, List.getElem?_set_ne (by omega), List.getElem?_set_ne (by omega), List.getElem?_set_ne (by omega), List.getElem?_set_ne (by omega), ← HRU.out.cell, t1, HSQ.out]
          have q2 : ((((u.setCell ⟨gs, k * 7 + 4, none⟩ (.int .i64 la.1)).setCell ⟨gs, k * 7 + 4 + 1, none⟩ (.string la.2)).setCell ⟨gs, k * 7 + 3, none⟩ (.bool hd)).setCell ⟨gs, k * 7 + 6, none⟩ (.slice ao' i c')).cell? ⟨gs, k * 7 + 2, none⟩ = some (.bool ms.ended) := by
            rw [HR3.out.cell, List.getElem?_set_ne (by omega), List.getElem?_set_ne (by omega), List.getElem?_set_ne (by omega), List.getElem?_set_ne (by omega), ← HRU.out.cell, t2]
          have g1 := HR3.out.frozen (k * 7 + 1)
          have g2 := HR3.out.frozen (k * 7 + 2)
          rename_i hHeld
          clear hHeld yu0 yu1 t0 t1 t2 t3 t4 t5 t6 f3 f4 f5 f6 HF0 HOU HBU HRU HRD HGR y0 y1
          generalize (((u.setCell ⟨gs, k * 7 + 4, none⟩ (.int .i64 la.1)).setCell ⟨gs, k * 7 + 4 + 1, none⟩ (.string la.2)).setCell ⟨gs, k * 7 + 3, none⟩ (.bool hd)).setCell ⟨gs, k * 7 + 6, none⟩ (.slice ao' i c') = w3 at HR3 HF3 HO3 q1 q2 g1 g2 ⊢
          obtain ⟨hs1, hs2⟩ := hsq
          go_wp2_with fail
          go_ret
          have HF4 : RowKit.Hid (Frm (fun i => i = gs) w3 ((w3.setCell ⟨gs, k * 7 + 1, none⟩ (.int .i64 (seq + 1))).setCell ⟨gs, k * 7 + 2, none⟩ (.bool e))) := ((Frm.refl (fun i => i = gs) w3).setCell _ _ (.inl rfl)).setCell _ _ (.inl rfl)
          refine ⟨(fun h => by cases h), fun _ => ⟨rfl, mg_put HXX.out HM.out HS.out HLM.out h5' hB (HF3.out.trans HF4.out (fun i h _ => h)) (ownsRow_frm HO3.out HF4.out (fun g hg' e => by have := own_ge HO3.out g hg'; omega)) (hd := hd) (la := la) (by have h7 := HHD.out; rw [HLM.out] at h7; exact h7.symm) HLA.out.symm ?_, HF3.out.trans HF4.out (fun i h _ => h)⟩⟩
          rw [HQ.out]
          exact Blk.set (Blk.set HR3.out _ _) _ _
end Go.Proofs.Ytjacebnjmhbcbaa
