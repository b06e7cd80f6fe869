/- The walk of the document's Set. -/
import Derived.Test.YtjdanngkmkgidaaTm22
namespace Go.Proofs.Ytjdanngkmkgidaa
open Go.RowKit
set_option linter.unusedVariables false

theorem Src.two {P : Program} {tx e' : TypeId} (hk : P.underlying tx = some (.slice e')) (w : World) (u v : Value) (e : TypeId) (h1 : u.oneCell' = true) (h2 : v.oneCell' = true) : Src P 2 tx (.slice (some ⟨w.heap.size, 0, none⟩) 1 1) 1 [u, v] (w.alloc (.cells #[u, v] e)) :=
  Src.ofSlice _ hk ⟨w.heap.size, 0, none⟩ 1 1 [u, v] rfl (World.news_of_block (heap_alloc_new w _)) (by
    intro x hx
    simp only [List.mem_cons, List.not_mem_nil, or_false] at hx
    rcases hx with rfl | rfl
    · exact h1
    · exact h2)
def SeR (B : Nat) (w4 : World) (n : Nat) (K : List One) (x : One) (R : List One) (v10 v11 v12 : Value) (wr : World) : Prop := ∃ (i k c2 : Nat) (ao2 : Option Addr) (acc : List One) (is : Bool), i ≤ n ∧ k ≤ i + is.toNat ∧ v12 = .int .i64 i ∧ v11 = .bool is ∧ v10 = .slice ao2 k c2 ∧ RowKit.Hid (acc.length = k) ∧ RowKit.Hid (wr.ownsRow B 90 2 (.slice ao2 k c2) k (acc.flatMap refCells)) ∧ RowKit.Hid (acc ++ (if is = true then K.drop i else insL x (K.drop i)) = R) ∧ RowKit.Hid (Below B w4 wr)
theorem insL_drop {K : List One} {i : Nat} {x y : One} (h : K[i]? = some y) : insL x (K.drop i) = if ltO x y = true then x :: y :: K.drop (i + 1) else y :: insL x (K.drop (i + 1)) := by
  obtain ⟨hlt, e⟩ := List.getElem?_eq_some_iff.1 h
  rw [List.drop_eq_getElem_cons hlt, e]
  rfl
theorem drop_at {K : List One} {i : Nat} {y : One} (h : K[i]? = some y) : K.drop i = y :: K.drop (i + 1) := by
  obtain ⟨hlt, e⟩ := List.getElem?_eq_some_iff.1 h
  rw [List.drop_eq_getElem_cons hlt, e]
set_option maxRecDepth 100000 in
set_option maxHeartbeats 4000000 in
theorem r_set_old (w0 : World) (q : Nat) (id at_ : Int) (w : World) (most : Int) (L : List One) (h : RT w0 w q most L) (hL : L.length ≤ 24) (h1 : 0 ≤ id) (h2 : 0 ≤ at_) (h3 : at_ ≤ 1099511627776) (hx : hasL id L = true) :
   Calls Try.prog 23 #[.pointer (some ⟨q, 0, none⟩), .int .i64 id, .int .i64 at_] w fun e w' => e = .returned (.int .i64 0) ∧ RT w0 w' q most (insL (at_, id) (cancelL id L)) ∧ Frm (fun k => k = q) w w' := by
  obtain ⟨i0, hi, hz0, hz1, hz2⟩ := info_parts info_rone
  have HI := Lib.hid hi
  have HZ0 := Lib.hid hz0
  have HZ1 := Lib.hid hz1
  have HZ2 := Lib.hid hz2
  clear hi hz0 hz1 hz2
  have HT0 := Lib.hid h
  have HB0 : RowKit.Hid (Below w0.heap.size w0 w) := by obtain ⟨_, _, _, _, _, hb⟩ := h; exact hb
  have hq0 : w0.heap.size ≤ q := by obtain ⟨_, _, _, _, hq, _⟩ := h; exact hq
  obtain ⟨a1, a2⟩ : (atL id L).2 = true ∧ True := by
    refine ⟨?_, trivial⟩
    unfold hasL at hx
    unfold atL
    cases hf : L.find? (fun y => decide (y.2 = id)) with
    | none =>
      first
        | rfl
        | (exfalso
           rw [List.find?_eq_none] at hf
           rw [List.any_eq_true] at hx
           obtain ⟨y, hy, e⟩ := hx
           exact hf y hy e)
    | some y =>
      first
        | rfl
        | (exfalso
           rw [List.any_eq_false] at hx
           exact hx y (List.mem_of_find?_eq_some hf) (by simpa using List.find?_some hf))
  obtain ⟨ao, c, c0, c1, _, _, _⟩ := h.cell
  clear h hx a2
  have hA : ∃ a, atL id L = (a, true) := ⟨(atL id L).1, by rw [← a1]⟩
  obtain ⟨av, hav⟩ := hA
  have HAV := Lib.hid hav
  clear hav a1
  have hc1 := r_at w0 q id w most L HT0.out hL
  rw [HAV.out] at hc1
  have HC1 := Lib.hid hc1
  clear hc1
  go_enter Try.func23, Try.ntmps23
  go_wp2_with fail
  refine HC1.out.mono ?_
  rintro e w' ⟨rfl, rfl⟩
  obtain ⟨n0, hn0⟩ : ∃ n0, L.length = n0 := ⟨_, rfl⟩
  rw [hn0] at c0
  have HN0 := Lib.hid hn0
  clear hn0 HC1 HAV
  go_wp2_with fail
  go_quiet (fail)
  have HT := Lib.hid (HT0.out.below (below_drewN (Below.refl w.heap.size w) nq))
  have HFW : RowKit.Hid (Frm (fun k => k = q) w (w.drewN nq)) := Frm.below (below_drewN (Below.refl _ _) _)
  clear c0 c1 HT0
  generalize w.drewN nq = wA at HT HFW ⊢
  go_wp2_with fail
  refine (r_cancel w0 q id _ most L HT.out hL).mono ?_
  rintro e w3 ⟨rfl, hT3, hF3⟩
  have HT3 := Lib.hid hT3
  have HF3 := Lib.hid (HFW.out.trans hF3 (fun i h _ => h))
  clear hT3 hF3 HT HFW
  have hKl : (cancelL id L).length ≤ 24 := Nat.le_trans ((List.eraseP_sublist ..).length_le) hL
  generalize hK : cancelL id L = K at HT3 hKl
  have HK := Lib.hid hK
  clear hK
  generalize hasL id L = hs
  go_wp2_with fail
  have hb4 : Below w3.heap.size w3 (w3.alloc (.cells #[.int .i64 id, .int .i64 at_] 90)) := (Below.refl _ _).alloc (Nat.le_refl _) _
  have HT4 := Lib.hid (HT3.out.below hb4)
  have HF4 := Lib.hid (HF3.out.trans (Frm.below (S := fun k => k = q) hb4) (fun i h _ => h))
  have hx0 : (w3.alloc (.cells #[.int .i64 id, .int .i64 at_] 90)).cell? ⟨w3.heap.size, 0, none⟩ = some (.int .i64 id) := by rw [cell_of_row _ _ _ _ _ _ (heap_alloc_new w3 _)]; rfl
  have hx1 : (w3.alloc (.cells #[.int .i64 id, .int .i64 at_] 90)).cell? ⟨w3.heap.size, 1, none⟩ = some (.int .i64 at_) := by rw [cell_of_row _ _ _ _ _ _ (heap_alloc_new w3 _)]; rfl
  have hxl : w3.heap.size < (w3.alloc (.cells #[.int .i64 id, .int .i64 at_] 90)).heap.size := by simp
  clear hb4 HT3 HF3
  generalize w3.alloc (.cells #[.int .i64 id, .int .i64 at_] 90) = w4 at HT4 HF4 hx0 hx1 hxl ⊢
  generalize w3.heap.size = xb at hx0 hx1 hxl ⊢
  have HX0 := Lib.hid hx0
  have HX1 := Lib.hid hx1
  clear hx0 hx1
  obtain ⟨ao, c, c0, c1, fz, hr, hq⟩ := HT4.out.cell
  obtain ⟨n, hn⟩ : ∃ n, K.length = n := ⟨_, rfl⟩
  rw [hn] at c0 hr hKl
  have HR := Lib.hid hr
  have HC0 := Lib.hid c0
  have HN := Lib.hid hn
  clear c0 c1 fz hr hn
  obtain ⟨B, hB⟩ : ∃ B, w4.heap.size = B := ⟨_, rfl⟩
  rw [hB] at hq hxl
  have HBB := Lib.hid hB
  clear hB
  go_loopw [10, 11, 12] (fun v10 v11 v12 wr => SeR B w4 n K (at_, id) (insL (at_, id) K) v10 v11 v12 wr) (fun _ _ v _ => n - (intOf v).toNat)
  case atStart => exact ⟨0, 0, 0, none, [], false, Nat.zero_le _, Nat.zero_le _, rfl, rfl, rfl, rfl, World.ownsRow_nil _ _ _ _, (by unfold RowKit.Hid; simp), Below.refl _ _⟩
  case round =>
    obtain ⟨i, k, c2, ao2, acc, is, hi, hk, rfl, rfl, rfl, HL, HO, HA, HB⟩ := hrel
    have hz : B ≤ wr.heap.size := by have := HB.out.size; rw [HBB.out] at this; exact this
    have hk9 : k ≤ i + 1 := Nat.le_trans hk (by cases is <;> simp)
    have c0 := (HB.out.cell (p := ⟨q, 0, none⟩) hq).trans HC0.out
    have y0 := (HB.out.cell (p := ⟨xb, 0, none⟩) hxl).trans HX0.out
    have y1 := (HB.out.cell (p := ⟨xb, 1, none⟩) hxl).trans HX1.out
    by_cases hlt : i < n
    · have hx : K[i]? = some (K[i]'(by rw [HN.out]; exact hlt)) := List.getElem?_eq_getElem _
      obtain ⟨y, hxe⟩ : ∃ y, K[i]'(by rw [HN.out]; exact hlt) = y := ⟨_, rfl⟩
      rw [hxe] at hx
      obtain ⟨b, o, rfl, z0, z1⟩ := (HR.out.below HB.out (by rw [HBB.out])).at_ hx
      have HX := Lib.hid hx
      clear hxe hx
      have k1 : (0 : Int) ≤ (i : Int) := by omega
      have k2 : (i : Int) < (n : Int) := by omega
      have A1 : k + 1 ≤ maxLen := by unfold maxLen; omega
      have A2 : (k + 1) * 16 ≤ 140737488355328 := by omega
      have A3 : k + 1 + 1 ≤ maxLen := by unfold maxLen; omega
      have A4 : (k + 1 + 1) * 16 ≤ 140737488355328 := by omega
      have hza : ∀ u v : Value, B ≤ (wr.alloc (.cells #[u, v] 90)).heap.size := fun u v => by simp; omega
      have HZA := Lib.hid hza
      clear hza
      have ONEY : RowKit.Hid (∀ w : World, Src Try.prog 2 47 (.slice (some ⟨w.heap.size, 0, none⟩) 1 1) 1 [.int .i64 y.2, .int .i64 y.1] (w.alloc (.cells #[.int .i64 y.2, .int .i64 y.1] 90))) := fun w => Src.two Try.underlying47 w _ _ _ rfl rfl
      have ONEX : RowKit.Hid (∀ w : World, Src Try.prog 2 47 (.slice (some ⟨w.heap.size, 0, none⟩) 1 1) 1 [.int .i64 id, .int .i64 at_] (w.alloc (.cells #[.int .i64 id, .int .i64 at_] 90))) := fun w => Src.two Try.underlying47 w _ _ _ rfl rfl
      cases is with
      | true =>
        have hk1 : k ≤ i + 1 := hk
        have HA2 : RowKit.Hid ((acc ++ [y]) ++ (if true = true then K.drop (i + 1) else insL (at_, id) (K.drop (i + 1))) = insL (at_, id) K) := by
          have := HA.out
          rw [if_pos rfl, drop_at HX.out] at this
          unfold RowKit.Hid
          rw [if_pos rfl, ← this]; simp
        clear HA
        go_wp2_with (at_builtin; refine wpList_app rfl (.tmp 100) (.tmp 108) 47 47 rfl B 90 i0 (.agg #[.int .i64 0, .int .i64 0]) 2 16 Try.underlying47 HI.out HZ0.out HZ1.out HZ2.out rfl (by decide) ao2 k c2 (acc.flatMap refCells) rfl (HO.out.alloc _) (.slice (some ⟨(wr).heap.size, 0, none⟩) 1 1) 1 [.int .i64 y.2, .int .i64 y.1] rfl (ONEY.out wr) A1 A2 (HZA.out _ _) ?_; intro ao3 c3 w5 hown5 hg5; have HO6 := Lib.hid hown5; have HB6 := Lib.hid (show Below B w4 w5 from (HB.out.alloc hz _).grown hg5 (HZA.out _ _) (fun b hb => (HO.out.lt b hb).1)); clear hown5 hg5)
        go_roundw
        case rel => exact ⟨i + 1, k + 1, c3, ao3, acc ++ [y], true, by omega, (show k + 1 ≤ i + 1 + 1 from by omega), by go_num, rfl, rfl, (by unfold RowKit.Hid; rw [List.length_append, HL.out]; rfl), (by unfold RowKit.Hid; rw [List.flatMap_append]; exact HO6.out), HA2.out, HB6.out⟩
        case measure => simp [intOf]; omega
      | false =>
        have hk1 : k ≤ i := hk
        have ha := HA.out
        rw [if_neg (by exact Bool.false_ne_true), insL_drop HX.out] at ha
        cases hl : ltO (at_, id) y with
        | false =>
          rw [hl, if_neg (by exact Bool.false_ne_true)] at ha
          have HA2 : RowKit.Hid ((acc ++ [y]) ++ (if false = true then K.drop (i + 1) else insL (at_, id) (K.drop (i + 1))) = insL (at_, id) K) := by
            unfold RowKit.Hid
            rw [if_neg (by exact Bool.false_ne_true), ← ha]; simp
          have hnl : ¬ (at_ < y.1 ∨ (at_ = y.1 ∧ id < y.2)) := by unfold ltO at hl; simpa using hl
          clear HA ha hl
          have d1 : decide (at_ < y.1) = false := by simp; omega
          by_cases he : y.1 = at_
          · have d2 : (y.1 == at_) = true := by rw [beq_iff_eq]; exact he
            have d3 : decide (id < y.2) = false := by simp; omega
            clear he hnl
            go_wp2_with (at_builtin; refine wpList_app rfl (.tmp 100) (.tmp 108) 47 47 rfl B 90 i0 (.agg #[.int .i64 0, .int .i64 0]) 2 16 Try.underlying47 HI.out HZ0.out HZ1.out HZ2.out rfl (by decide) ao2 k c2 (acc.flatMap refCells) rfl (HO.out.alloc _) (.slice (some ⟨(wr).heap.size, 0, none⟩) 1 1) 1 [.int .i64 y.2, .int .i64 y.1] rfl (ONEY.out wr) A1 A2 (HZA.out _ _) ?_; intro ao3 c3 w5 hown5 hg5; have HO6 := Lib.hid hown5; have HB6 := Lib.hid (show Below B w4 w5 from (HB.out.alloc hz _).grown hg5 (HZA.out _ _) (fun b hb => (HO.out.lt b hb).1)); clear hown5 hg5)
            go_roundw
            case rel => exact ⟨i + 1, k + 1, c3, ao3, acc ++ [y], false, by omega, (show k + 1 ≤ i + 1 from by omega), by go_num, rfl, rfl, (by unfold RowKit.Hid; rw [List.length_append, HL.out]; rfl), (by unfold RowKit.Hid; rw [List.flatMap_append]; exact HO6.out), HA2.out, HB6.out⟩
            case measure => simp [intOf]; omega
          · have d2 : (y.1 == at_) = false := by rw [beq_eq_false_iff_ne]; exact he
            clear he hnl
            go_wp2_with (at_builtin; refine wpList_app rfl (.tmp 100) (.tmp 108) 47 47 rfl B 90 i0 (.agg #[.int .i64 0, .int .i64 0]) 2 16 Try.underlying47 HI.out HZ0.out HZ1.out HZ2.out rfl (by decide) ao2 k c2 (acc.flatMap refCells) rfl (HO.out.alloc _) (.slice (some ⟨(wr).heap.size, 0, none⟩) 1 1) 1 [.int .i64 y.2, .int .i64 y.1] rfl (ONEY.out wr) A1 A2 (HZA.out _ _) ?_; intro ao3 c3 w5 hown5 hg5; have HO6 := Lib.hid hown5; have HB6 := Lib.hid (show Below B w4 w5 from (HB.out.alloc hz _).grown hg5 (HZA.out _ _) (fun b hb => (HO.out.lt b hb).1)); clear hown5 hg5)
            go_roundw
            case rel => exact ⟨i + 1, k + 1, c3, ao3, acc ++ [y], false, by omega, (show k + 1 ≤ i + 1 from by omega), by go_num, rfl, rfl, (by unfold RowKit.Hid; rw [List.length_append, HL.out]; rfl), (by unfold RowKit.Hid; rw [List.flatMap_append]; exact HO6.out), HA2.out, HB6.out⟩
            case measure => simp [intOf]; omega
        | true =>
          rw [hl, if_pos rfl] at ha
          have HA2 : RowKit.Hid (((acc ++ [(at_, id)]) ++ [y]) ++ (if true = true then K.drop (i + 1) else insL (at_, id) (K.drop (i + 1))) = insL (at_, id) K) := by
            unfold RowKit.Hid
            rw [if_pos rfl, ← ha]; simp
          have hnl : at_ < y.1 ∨ (at_ = y.1 ∧ id < y.2) := by unfold ltO at hl; simpa using hl
          clear HA ha hl
          by_cases he : at_ < y.1
          · have d1 : decide (at_ < y.1) = true := by simpa using he
            clear he hnl
            go_wp2_with (first | (at_builtin; refine wpList_app rfl (.tmp 96) (.tmp 98) 47 47 rfl B 90 i0 (.agg #[.int .i64 0, .int .i64 0]) 2 16 Try.underlying47 HI.out HZ0.out HZ1.out HZ2.out rfl (by decide) ao2 k c2 (acc.flatMap refCells) rfl (HO.out.alloc _) (.slice (some ⟨(wr).heap.size, 0, none⟩) 1 1) 1 [.int .i64 id, .int .i64 at_] rfl (ONEX.out wr) A1 A2 (HZA.out _ _) ?_; intro ao3 c3 w5 hown5 hg5; have HO6 := Lib.hid hown5; have HB6 := Lib.hid (show Below B w4 w5 from (HB.out.alloc hz _).grown hg5 (HZA.out _ _) (fun b hb => (HO.out.lt b hb).1)); have hz5 : B ≤ w5.heap.size := Nat.le_trans (HZA.out (.int .i64 id) (.int .i64 at_)) hg5.size; have hza5 : ∀ u v : Value, B ≤ (w5.alloc (.cells #[u, v] 90)).heap.size := (fun u v => by simp; omega); have HZA5 := Lib.hid hza5; have c05 := (HB6.out.cell (p := ⟨q, 0, none⟩) hq).trans HC0.out; obtain ⟨b', o', e1, zz0, zz1⟩ := (HR.out.below HB6.out (by rw [HBB.out])).at_ HX.out; simp only [Option.some.injEq, Addr.mk.injEq, and_true] at e1; obtain ⟨rfl, rfl⟩ := e1; clear hown5 hg5 hza5) | (at_builtin; refine wpList_app rfl (.tmp 100) (.tmp 108) 47 47 rfl B 90 i0 (.agg #[.int .i64 0, .int .i64 0]) 2 16 Try.underlying47 HI.out HZ0.out HZ1.out HZ2.out rfl (by decide) ao3 (k + 1) c3 (acc.flatMap refCells ++ [.int .i64 id, .int .i64 at_]) rfl (HO6.out.alloc _) (.slice (some ⟨(w5).heap.size, 0, none⟩) 1 1) 1 [.int .i64 y.2, .int .i64 y.1] rfl (ONEY.out w5) A3 A4 (HZA5.out _ _) ?_; intro ao4 c4 w6 hown6 hg6; have HO7 := Lib.hid hown6; have HB7 := Lib.hid (show Below B w4 w6 from (HB6.out.alloc hz5 _).grown hg6 (HZA5.out _ _) (fun b hb => (HO6.out.lt b hb).1)); clear hown6 hg6))
            go_roundw
            case rel => exact ⟨i + 1, k + 1 + 1, c4, ao4, acc ++ [(at_, id)] ++ [y], true, by omega, (show k + 1 + 1 ≤ i + 1 + 1 from by omega), by go_num, rfl, rfl, (by unfold RowKit.Hid; rw [List.length_append, List.length_append, HL.out]; rfl), (by unfold RowKit.Hid; rw [List.flatMap_append, List.flatMap_append]; exact HO7.out), HA2.out, HB7.out⟩
            case measure => simp [intOf]; omega
          · have d1 : decide (at_ < y.1) = false := by simpa using he
            have d2 : (y.1 == at_) = true := by rw [beq_iff_eq]; omega
            have d3 : decide (id < y.2) = true := by simp; omega
            clear he hnl
            go_wp2_with (first | (at_builtin; refine wpList_app rfl (.tmp 96) (.tmp 98) 47 47 rfl B 90 i0 (.agg #[.int .i64 0, .int .i64 0]) 2 16 Try.underlying47 HI.out HZ0.out HZ1.out HZ2.out rfl (by decide) ao2 k c2 (acc.flatMap refCells) rfl (HO.out.alloc _) (.slice (some ⟨(wr).heap.size, 0, none⟩) 1 1) 1 [.int .i64 id, .int .i64 at_] rfl (ONEX.out wr) A1 A2 (HZA.out _ _) ?_; intro ao3 c3 w5 hown5 hg5; have HO6 := Lib.hid hown5; have HB6 := Lib.hid (show Below B w4 w5 from (HB.out.alloc hz _).grown hg5 (HZA.out _ _) (fun b hb => (HO.out.lt b hb).1)); have hz5 : B ≤ w5.heap.size := Nat.le_trans (HZA.out (.int .i64 id) (.int .i64 at_)) hg5.size; have hza5 : ∀ u v : Value, B ≤ (w5.alloc (.cells #[u, v] 90)).heap.size := (fun u v => by simp; omega); have HZA5 := Lib.hid hza5; have c05 := (HB6.out.cell (p := ⟨q, 0, none⟩) hq).trans HC0.out; obtain ⟨b', o', e1, zz0, zz1⟩ := (HR.out.below HB6.out (by rw [HBB.out])).at_ HX.out; simp only [Option.some.injEq, Addr.mk.injEq, and_true] at e1; obtain ⟨rfl, rfl⟩ := e1; clear hown5 hg5 hza5) | (at_builtin; refine wpList_app rfl (.tmp 100) (.tmp 108) 47 47 rfl B 90 i0 (.agg #[.int .i64 0, .int .i64 0]) 2 16 Try.underlying47 HI.out HZ0.out HZ1.out HZ2.out rfl (by decide) ao3 (k + 1) c3 (acc.flatMap refCells ++ [.int .i64 id, .int .i64 at_]) rfl (HO6.out.alloc _) (.slice (some ⟨(w5).heap.size, 0, none⟩) 1 1) 1 [.int .i64 y.2, .int .i64 y.1] rfl (ONEY.out w5) A3 A4 (HZA5.out _ _) ?_; intro ao4 c4 w6 hown6 hg6; have HO7 := Lib.hid hown6; have HB7 := Lib.hid (show Below B w4 w6 from (HB6.out.alloc hz5 _).grown hg6 (HZA5.out _ _) (fun b hb => (HO6.out.lt b hb).1)); clear hown6 hg6))
            go_roundw
            case rel => exact ⟨i + 1, k + 1 + 1, c4, ao4, acc ++ [(at_, id)] ++ [y], true, by omega, (show k + 1 + 1 ≤ i + 1 + 1 from by omega), by go_num, rfl, rfl, (by unfold RowKit.Hid; rw [List.length_append, List.length_append, HL.out]; rfl), (by unfold RowKit.Hid; rw [List.flatMap_append, List.flatMap_append]; exact HO7.out), HA2.out, HB7.out⟩
            case measure => simp [intOf]; omega
    · have hin : i = n := by omega
      subst hin
      have hbq := (show Blk w4 q 49 [.slice ao i c, .int .i64 most] from by
        obtain ⟨ao', c', h1, h2, _⟩ := HT4.out
        have := h1.cell 0
        rw [HC0.out] at this
        simp only [List.getElem?_cons_zero, Option.some.injEq, Value.slice.injEq] at this
        obtain ⟨rfl, e2, rfl⟩ := this
        rw [e2]; exact h1)
      have hq4 : q < w4.heap.size := hbq.lt
      cases is with
      | true =>
        have ha := HA.out
        rw [if_pos rfl, List.drop_eq_nil_of_le (by rw [HN.out]; exact Nat.le_refl _), List.append_nil] at ha
        have HA2 := Lib.hid ha
        clear HA ha hlt
        have cq := hbq.below HB.out hq
        have fz2 := cq.frozen 0
        have HCQ := Lib.hid cq
        clear cq hbq
        go_wp2_with fail
        go_ret
        have hl3 : (insL (at_, id) K).length = k := by rw [← HA2.out]; first | exact HL.out | (rw [List.length_append, HL.out]; rfl)
        have hset : Frm (fun z => z = q) wr (wr.setCell ⟨q, 0, none⟩ (.slice ao2 (k : Nat) c2)) := (Frm.refl _ _).setCell _ _ (.inl rfl)
        have hf0 : Frm (fun z => z = q) w4 wr := Frm.below (by rw [HBB.out]; exact HB.out)
        have hf : Frm (fun z => z = q) w (wr.setCell ⟨q, 0, none⟩ (.slice ao2 (k : Nat) c2)) := (HF4.out.trans hf0 (fun i h _ => h)).trans hset (fun i h _ => h)
        refine ⟨rfl, ⟨ao2, c2, ?_, ?_, hq0, HB0.out.trans (hf.toBelow HB0.out.size (fun i hi h => by omega))⟩, hf⟩
        · rw [HK.out, hl3]; exact HCQ.out.set 0 _
        · rw [HK.out, hl3, ← HA2.out]
          refine own0 (ownsRow_frm HO.out hset (fun kk hk e => ?_)) (by have := HF4.out.size; have := HB0.out.size; have := HBB.out; omega)
          have := own_ge HO.out kk hk
          omega
      | false =>
        have ha := HA.out
        rw [if_neg (by exact Bool.false_ne_true), List.drop_eq_nil_of_le (by rw [HN.out]; exact Nat.le_refl _)] at ha
        have HA2 := Lib.hid (show acc ++ [(at_, id)] = insL (at_, id) K from ha)
        clear HA ha hlt
        have A1 : k + 1 ≤ maxLen := by unfold maxLen; omega
        have A2 : (k + 1) * 16 ≤ 140737488355328 := by omega
        have hza : B ≤ (wr.alloc (.cells #[.int .i64 id, .int .i64 at_] 90)).heap.size := by simp; omega
        have HZA := Lib.hid hza
        clear hza
        have HBQ := Lib.hid hbq
        clear hbq
        have ONEX : RowKit.Hid (∀ w : World, Src Try.prog 2 47 (.slice (some ⟨w.heap.size, 0, none⟩) 1 1) 1 [.int .i64 id, .int .i64 at_] (w.alloc (.cells #[.int .i64 id, .int .i64 at_] 90))) := fun w => Src.two Try.underlying47 w _ _ _ rfl rfl
        go_wp2_with (at_builtin; refine wpList_app rfl (.tmp 112) (.tmp 114) 47 47 rfl B 90 i0 (.agg #[.int .i64 0, .int .i64 0]) 2 16 Try.underlying47 HI.out HZ0.out HZ1.out HZ2.out rfl (by decide) ao2 k c2 (acc.flatMap refCells) rfl (HO.out.alloc _) (.slice (some ⟨(wr).heap.size, 0, none⟩) 1 1) 1 [.int .i64 id, .int .i64 at_] rfl (ONEX.out wr) A1 A2 HZA.out ?_; intro ao3 c3 w5 hown5 hg5; have HO6 := Lib.hid (show w5.ownsRow B 90 2 (.slice ao3 (k + 1) c3) (k + 1) ((acc ++ [(at_, id)]).flatMap refCells) from by rw [List.flatMap_append]; exact hown5); have HB6 := Lib.hid (show Below B w4 w5 from (HB.out.alloc hz _).grown hg5 HZA.out (fun b hb => (HO.out.lt b hb).1)); have cq := HBQ.out.below HB6.out hq; have c05 := cq.cell 0; have fz2 := cq.frozen 0; rw [show ([.slice ao i c, .int .i64 most] : List Value)[0]? = some (.slice ao i c) from rfl] at c05; have HCQ := Lib.hid cq; clear cq hown5 hg5)
        go_ret
        have hl3 : (insL (at_, id) K).length = k + 1 := by rw [← HA2.out]; first | exact HL.out | (rw [List.length_append, HL.out]; rfl)
        have hset : Frm (fun z => z = q) w5 (w5.setCell ⟨q, 0, none⟩ (.slice ao3 (k + 1 : Nat) c3)) := (Frm.refl _ _).setCell _ _ (.inl rfl)
        have hf0 : Frm (fun z => z = q) w4 w5 := Frm.below (by rw [HBB.out]; exact HB6.out)
        have hf : Frm (fun z => z = q) w (w5.setCell ⟨q, 0, none⟩ (.slice ao3 (k + 1 : Nat) c3)) := (HF4.out.trans hf0 (fun i h _ => h)).trans hset (fun i h _ => h)
        refine ⟨rfl, ⟨ao3, c3, ?_, ?_, hq0, HB0.out.trans (hf.toBelow HB0.out.size (fun i hi h => by omega))⟩, hf⟩
        · rw [HK.out, hl3]; exact HCQ.out.set 0 _
        · rw [HK.out, hl3, ← HA2.out]
          refine own0 (ownsRow_frm HO6.out hset (fun kk hk e => ?_)) (by have := HF4.out.size; have := HB0.out.size; have := HBB.out; omega)
          have := own_ge HO6.out kk hk
          omega
set_option maxRecDepth 100000 in
set_option maxHeartbeats 4000000 in
theorem r_set_new (w0 : World) (q : Nat) (id at_ : Int) (w : World) (most : Int) (L : List One) (h : RT w0 w q most L) (hL : L.length ≤ 24) (h1 : 0 ≤ id) (h2 : 0 ≤ at_) (h3 : at_ ≤ 1099511627776) (hx : hasL id L = false) (hm : (L.length : Int) < most) :
   Calls Try.prog 23 #[.pointer (some ⟨q, 0, none⟩), .int .i64 id, .int .i64 at_] w fun e w' => e = .returned (.int .i64 0) ∧ RT w0 w' q most (insL (at_, id) (cancelL id L)) ∧ Frm (fun k => k = q) w w' := by
  obtain ⟨i0, hi, hz0, hz1, hz2⟩ := info_parts info_rone
  have HI := Lib.hid hi
  have HZ0 := Lib.hid hz0
  have HZ1 := Lib.hid hz1
  have HZ2 := Lib.hid hz2
  clear hi hz0 hz1 hz2
  have HT0 := Lib.hid h
  have HB0 : RowKit.Hid (Below w0.heap.size w0 w) := by obtain ⟨_, _, _, _, _, hb⟩ := h; exact hb
  have hq0 : w0.heap.size ≤ q := by obtain ⟨_, _, _, _, hq, _⟩ := h; exact hq
  obtain ⟨a1, a2⟩ : (atL id L).2 = false ∧ True := by
    refine ⟨?_, trivial⟩
    unfold hasL at hx
    unfold atL
    cases hf : L.find? (fun y => decide (y.2 = id)) with
    | none =>
      first
        | rfl
        | (exfalso
           rw [List.find?_eq_none] at hf
           rw [List.any_eq_true] at hx
           obtain ⟨y, hy, e⟩ := hx
           exact hf y hy e)
    | some y =>
      first
        | rfl
        | (exfalso
           rw [List.any_eq_false] at hx
           exact hx y (List.mem_of_find?_eq_some hf) (by simpa using List.find?_some hf))
  obtain ⟨ao, c, c0, c1, _, _, _⟩ := h.cell
  clear h hx a2
  have hA : ∃ a, atL id L = (a, false) := ⟨(atL id L).1, by rw [← a1]⟩
  obtain ⟨av, hav⟩ := hA
  have HAV := Lib.hid hav
  clear hav a1
  have hc1 := r_at w0 q id w most L HT0.out hL
  rw [HAV.out] at hc1
  have HC1 := Lib.hid hc1
  clear hc1
  go_enter Try.func23, Try.ntmps23
  go_wp2_with fail
  refine HC1.out.mono ?_
  rintro e w' ⟨rfl, rfl⟩
  obtain ⟨n0, hn0⟩ : ∃ n0, L.length = n0 := ⟨_, rfl⟩
  rw [hn0] at c0 hm
  have HN0 := Lib.hid hn0
  clear hn0 HC1 HAV
  go_wp2_with fail
  go_quiet (fail)
  have HT := Lib.hid (HT0.out.below (below_drewN (Below.refl w.heap.size w) nq))
  have HFW : RowKit.Hid (Frm (fun k => k = q) w (w.drewN nq)) := Frm.below (below_drewN (Below.refl _ _) _)
  clear c0 c1 HT0
  generalize w.drewN nq = wA at HT HFW ⊢
  go_wp2_with fail
  refine (r_cancel w0 q id _ most L HT.out hL).mono ?_
  rintro e w3 ⟨rfl, hT3, hF3⟩
  have HT3 := Lib.hid hT3
  have HF3 := Lib.hid (HFW.out.trans hF3 (fun i h _ => h))
  clear hT3 hF3 HT HFW
  have hKl : (cancelL id L).length ≤ 24 := Nat.le_trans ((List.eraseP_sublist ..).length_le) hL
  generalize hK : cancelL id L = K at HT3 hKl
  have HK := Lib.hid hK
  clear hK
  generalize hasL id L = hs
  go_wp2_with fail
  have hb4 : Below w3.heap.size w3 (w3.alloc (.cells #[.int .i64 id, .int .i64 at_] 90)) := (Below.refl _ _).alloc (Nat.le_refl _) _
  have HT4 := Lib.hid (HT3.out.below hb4)
  have HF4 := Lib.hid (HF3.out.trans (Frm.below (S := fun k => k = q) hb4) (fun i h _ => h))
  have hx0 : (w3.alloc (.cells #[.int .i64 id, .int .i64 at_] 90)).cell? ⟨w3.heap.size, 0, none⟩ = some (.int .i64 id) := by rw [cell_of_row _ _ _ _ _ _ (heap_alloc_new w3 _)]; rfl
  have hx1 : (w3.alloc (.cells #[.int .i64 id, .int .i64 at_] 90)).cell? ⟨w3.heap.size, 1, none⟩ = some (.int .i64 at_) := by rw [cell_of_row _ _ _ _ _ _ (heap_alloc_new w3 _)]; rfl
  have hxl : w3.heap.size < (w3.alloc (.cells #[.int .i64 id, .int .i64 at_] 90)).heap.size := by simp
  clear hb4 HT3 HF3
  generalize w3.alloc (.cells #[.int .i64 id, .int .i64 at_] 90) = w4 at HT4 HF4 hx0 hx1 hxl ⊢
  generalize w3.heap.size = xb at hx0 hx1 hxl ⊢
  have HX0 := Lib.hid hx0
  have HX1 := Lib.hid hx1
  clear hx0 hx1
  obtain ⟨ao, c, c0, c1, fz, hr, hq⟩ := HT4.out.cell
  obtain ⟨n, hn⟩ : ∃ n, K.length = n := ⟨_, rfl⟩
  rw [hn] at c0 hr hKl
  have HR := Lib.hid hr
  have HC0 := Lib.hid c0
  have HN := Lib.hid hn
  clear c0 c1 fz hr hn
  obtain ⟨B, hB⟩ : ∃ B, w4.heap.size = B := ⟨_, rfl⟩
  rw [hB] at hq hxl
  have HBB := Lib.hid hB
  clear hB
  go_loopw [10, 11, 12] (fun v10 v11 v12 wr => SeR B w4 n K (at_, id) (insL (at_, id) K) v10 v11 v12 wr) (fun _ _ v _ => n - (intOf v).toNat)
  case atStart => exact ⟨0, 0, 0, none, [], false, Nat.zero_le _, Nat.zero_le _, rfl, rfl, rfl, rfl, World.ownsRow_nil _ _ _ _, (by unfold RowKit.Hid; simp), Below.refl _ _⟩
  case round =>
    obtain ⟨i, k, c2, ao2, acc, is, hi, hk, rfl, rfl, rfl, HL, HO, HA, HB⟩ := hrel
    have hz : B ≤ wr.heap.size := by have := HB.out.size; rw [HBB.out] at this; exact this
    have hk9 : k ≤ i + 1 := Nat.le_trans hk (by cases is <;> simp)
    have c0 := (HB.out.cell (p := ⟨q, 0, none⟩) hq).trans HC0.out
    have y0 := (HB.out.cell (p := ⟨xb, 0, none⟩) hxl).trans HX0.out
    have y1 := (HB.out.cell (p := ⟨xb, 1, none⟩) hxl).trans HX1.out
    by_cases hlt : i < n
    · have hx : K[i]? = some (K[i]'(by rw [HN.out]; exact hlt)) := List.getElem?_eq_getElem _
      obtain ⟨y, hxe⟩ : ∃ y, K[i]'(by rw [HN.out]; exact hlt) = y := ⟨_, rfl⟩
      rw [hxe] at hx
      obtain ⟨b, o, rfl, z0, z1⟩ := (HR.out.below HB.out (by rw [HBB.out])).at_ hx
      have HX := Lib.hid hx
      clear hxe hx
      have k1 : (0 : Int) ≤ (i : Int) := by omega
      have k2 : (i : Int) < (n : Int) := by omega
      have A1 : k + 1 ≤ maxLen := by unfold maxLen; omega
      have A2 : (k + 1) * 16 ≤ 140737488355328 := by omega
      have A3 : k + 1 + 1 ≤ maxLen := by unfold maxLen; omega
      have A4 : (k + 1 + 1) * 16 ≤ 140737488355328 := by omega
      have hza : ∀ u v : Value, B ≤ (wr.alloc (.cells #[u, v] 90)).heap.size := fun u v => by simp; omega
      have HZA := Lib.hid hza
      clear hza
      have ONEY : RowKit.Hid (∀ w : World, Src Try.prog 2 47 (.slice (some ⟨w.heap.size, 0, none⟩) 1 1) 1 [.int .i64 y.2, .int .i64 y.1] (w.alloc (.cells #[.int .i64 y.2, .int .i64 y.1] 90))) := fun w => Src.two Try.underlying47 w _ _ _ rfl rfl
      have ONEX : RowKit.Hid (∀ w : World, Src Try.prog 2 47 (.slice (some ⟨w.heap.size, 0, none⟩) 1 1) 1 [.int .i64 id, .int .i64 at_] (w.alloc (.cells #[.int .i64 id, .int .i64 at_] 90))) := fun w => Src.two Try.underlying47 w _ _ _ rfl rfl
      cases is with
      | true =>
        have hk1 : k ≤ i + 1 := hk
        have HA2 : RowKit.Hid ((acc ++ [y]) ++ (if true = true then K.drop (i + 1) else insL (at_, id) (K.drop (i + 1))) = insL (at_, id) K) := by
          have := HA.out
          rw [if_pos rfl, drop_at HX.out] at this
          unfold RowKit.Hid
          rw [if_pos rfl, ← this]; simp
        clear HA
        go_wp2_with (at_builtin; refine wpList_app rfl (.tmp 100) (.tmp 108) 47 47 rfl B 90 i0 (.agg #[.int .i64 0, .int .i64 0]) 2 16 Try.underlying47 HI.out HZ0.out HZ1.out HZ2.out rfl (by decide) ao2 k c2 (acc.flatMap refCells) rfl (HO.out.alloc _) (.slice (some ⟨(wr).heap.size, 0, none⟩) 1 1) 1 [.int .i64 y.2, .int .i64 y.1] rfl (ONEY.out wr) A1 A2 (HZA.out _ _) ?_; intro ao3 c3 w5 hown5 hg5; have HO6 := Lib.hid hown5; have HB6 := Lib.hid (show Below B w4 w5 from (HB.out.alloc hz _).grown hg5 (HZA.out _ _) (fun b hb => (HO.out.lt b hb).1)); clear hown5 hg5)
        go_roundw
        case rel => exact ⟨i + 1, k + 1, c3, ao3, acc ++ [y], true, by omega, (show k + 1 ≤ i + 1 + 1 from by omega), by go_num, rfl, rfl, (by unfold RowKit.Hid; rw [List.length_append, HL.out]; rfl), (by unfold RowKit.Hid; rw [List.flatMap_append]; exact HO6.out), HA2.out, HB6.out⟩
        case measure => simp [intOf]; omega
      | false =>
        have hk1 : k ≤ i := hk
        have ha := HA.out
        rw [if_neg (by exact Bool.false_ne_true), insL_drop HX.out] at ha
        cases hl : ltO (at_, id) y with
        | false =>
          rw [hl, if_neg (by exact Bool.false_ne_true)] at ha
          have HA2 : RowKit.Hid ((acc ++ [y]) ++ (if false = true then K.drop (i + 1) else insL (at_, id) (K.drop (i + 1))) = insL (at_, id) K) := by
            unfold RowKit.Hid
            rw [if_neg (by exact Bool.false_ne_true), ← ha]; simp
          have hnl : ¬ (at_ < y.1 ∨ (at_ = y.1 ∧ id < y.2)) := by unfold ltO at hl; simpa using hl
          clear HA ha hl
          have d1 : decide (at_ < y.1) = false := by simp; omega
          by_cases he : y.1 = at_
          · have d2 : (y.1 == at_) = true := by rw [beq_iff_eq]; exact he
            have d3 : decide (id < y.2) = false := by simp; omega
            clear he hnl
            go_wp2_with (at_builtin; refine wpList_app rfl (.tmp 100) (.tmp 108) 47 47 rfl B 90 i0 (.agg #[.int .i64 0, .int .i64 0]) 2 16 Try.underlying47 HI.out HZ0.out HZ1.out HZ2.out rfl (by decide) ao2 k c2 (acc.flatMap refCells) rfl (HO.out.alloc _) (.slice (some ⟨(wr).heap.size, 0, none⟩) 1 1) 1 [.int .i64 y.2, .int .i64 y.1] rfl (ONEY.out wr) A1 A2 (HZA.out _ _) ?_; intro ao3 c3 w5 hown5 hg5; have HO6 := Lib.hid hown5; have HB6 := Lib.hid (show Below B w4 w5 from (HB.out.alloc hz _).grown hg5 (HZA.out _ _) (fun b hb => (HO.out.lt b hb).1)); clear hown5 hg5)
            go_roundw
            case rel => exact ⟨i + 1, k + 1, c3, ao3, acc ++ [y], false, by omega, (show k + 1 ≤ i + 1 from by omega), by go_num, rfl, rfl, (by unfold RowKit.Hid; rw [List.length_append, HL.out]; rfl), (by unfold RowKit.Hid; rw [List.flatMap_append]; exact HO6.out), HA2.out, HB6.out⟩
            case measure => simp [intOf]; omega
          · have d2 : (y.1 == at_) = false := by rw [beq_eq_false_iff_ne]; exact he
            clear he hnl
            go_wp2_with (at_builtin; refine wpList_app rfl (.tmp 100) (.tmp 108) 47 47 rfl B 90 i0 (.agg #[.int .i64 0, .int .i64 0]) 2 16 Try.underlying47 HI.out HZ0.out HZ1.out HZ2.out rfl (by decide) ao2 k c2 (acc.flatMap refCells) rfl (HO.out.alloc _) (.slice (some ⟨(wr).heap.size, 0, none⟩) 1 1) 1 [.int .i64 y.2, .int .i64 y.1] rfl (ONEY.out wr) A1 A2 (HZA.out _ _) ?_; intro ao3 c3 w5 hown5 hg5; have HO6 := Lib.hid hown5; have HB6 := Lib.hid (show Below B w4 w5 from (HB.out.alloc hz _).grown hg5 (HZA.out _ _) (fun b hb => (HO.out.lt b hb).1)); clear hown5 hg5)
            go_roundw
            case rel => exact ⟨i + 1, k + 1, c3, ao3, acc ++ [y], false, by omega, (show k + 1 ≤ i + 1 from by omega), by go_num, rfl, rfl, (by unfold RowKit.Hid; rw [List.length_append, HL.out]; rfl), (by unfold RowKit.Hid; rw [List.flatMap_append]; exact HO6.out), HA2.out, HB6.out⟩
            case measure => simp [intOf]; omega
        | true =>
          rw [hl, if_pos rfl] at ha
          have HA2 : RowKit.Hid (((acc ++ [(at_, id)]) ++ [y]) ++ (if true = true then K.drop (i + 1) else insL (at_, id) (K.drop (i + 1))) = insL (at_, id) K) := by
            unfold RowKit.Hid
            rw [if_pos rfl, ← ha]; simp
          have hnl : at_ < y.1 ∨ (at_ = y.1 ∧ id < y.2) := by unfold ltO at hl; simpa using hl
          clear HA ha hl
          by_cases he : at_ < y.1
          · have d1 : decide (at_ < y.1) = true := by simpa using he
            clear he hnl
            go_wp2_with (first | (at_builtin; refine wpList_app rfl (.tmp 96) (.tmp 98) 47 47 rfl B 90 i0 (.agg #[.int .i64 0, .int .i64 0]) 2 16 Try.underlying47 HI.out HZ0.out HZ1.out HZ2.out rfl (by decide) ao2 k c2 (acc.flatMap refCells) rfl (HO.out.alloc _) (.slice (some ⟨(wr).heap.size, 0, none⟩) 1 1) 1 [.int .i64 id, .int .i64 at_] rfl (ONEX.out wr) A1 A2 (HZA.out _ _) ?_; intro ao3 c3 w5 hown5 hg5; have HO6 := Lib.hid hown5; have HB6 := Lib.hid (show Below B w4 w5 from (HB.out.alloc hz _).grown hg5 (HZA.out _ _) (fun b hb => (HO.out.lt b hb).1)); have hz5 : B ≤ w5.heap.size := Nat.le_trans (HZA.out (.int .i64 id) (.int .i64 at_)) hg5.size; have hza5 : ∀ u v : Value, B ≤ (w5.alloc (.cells #[u, v] 90)).heap.size := (fun u v => by simp; omega); have HZA5 := Lib.hid hza5; have c05 := (HB6.out.cell (p := ⟨q, 0, none⟩) hq).trans HC0.out; obtain ⟨b', o', e1, zz0, zz1⟩ := (HR.out.below HB6.out (by rw [HBB.out])).at_ HX.out; simp only [Option.some.injEq, Addr.mk.injEq, and_true] at e1; obtain ⟨rfl, rfl⟩ := e1; clear hown5 hg5 hza5) | (at_builtin; refine wpList_app rfl (.tmp 100) (.tmp 108) 47 47 rfl B 90 i0 (.agg #[.int .i64 0, .int .i64 0]) 2 16 Try.underlying47 HI.out HZ0.out HZ1.out HZ2.out rfl (by decide) ao3 (k + 1) c3 (acc.flatMap refCells ++ [.int .i64 id, .int .i64 at_]) rfl (HO6.out.alloc _) (.slice (some ⟨(w5).heap.size, 0, none⟩) 1 1) 1 [.int .i64 y.2, .int .i64 y.1] rfl (ONEY.out w5) A3 A4 (HZA5.out _ _) ?_; intro ao4 c4 w6 hown6 hg6; have HO7 := Lib.hid hown6; have HB7 := Lib.hid (show Below B w4 w6 from (HB6.out.alloc hz5 _).grown hg6 (HZA5.out _ _) (fun b hb => (HO6.out.lt b hb).1)); clear hown6 hg6))
            go_roundw
            case rel => exact ⟨i + 1, k + 1 + 1, c4, ao4, acc ++ [(at_, id)] ++ [y], true, by omega, (show k + 1 + 1 ≤ i + 1 + 1 from by omega), by go_num, rfl, rfl, (by unfold RowKit.Hid; rw [List.length_append, List.length_append, HL.out]; rfl), (by unfold RowKit.Hid; rw [List.flatMap_append, List.flatMap_append]; exact HO7.out), HA2.out, HB7.out⟩
            case measure => simp [intOf]; omega
          · have d1 : decide (at_ < y.1) = false := by simpa using he
            have d2 : (y.1 == at_) = true := by rw [beq_iff_eq]; omega
            have d3 : decide (id < y.2) = true := by simp; omega
            clear he hnl
            go_wp2_with (first | (at_builtin; refine wpList_app rfl (.tmp 96) (.tmp 98) 47 47 rfl B 90 i0 (.agg #[.int .i64 0, .int .i64 0]) 2 16 Try.underlying47 HI.out HZ0.out HZ1.out HZ2.out rfl (by decide) ao2 k c2 (acc.flatMap refCells) rfl (HO.out.alloc _) (.slice (some ⟨(wr).heap.size, 0, none⟩) 1 1) 1 [.int .i64 id, .int .i64 at_] rfl (ONEX.out wr) A1 A2 (HZA.out _ _) ?_; intro ao3 c3 w5 hown5 hg5; have HO6 := Lib.hid hown5; have HB6 := Lib.hid (show Below B w4 w5 from (HB.out.alloc hz _).grown hg5 (HZA.out _ _) (fun b hb => (HO.out.lt b hb).1)); have hz5 : B ≤ w5.heap.size := Nat.le_trans (HZA.out (.int .i64 id) (.int .i64 at_)) hg5.size; have hza5 : ∀ u v : Value, B ≤ (w5.alloc (.cells #[u, v] 90)).heap.size := (fun u v => by simp; omega); have HZA5 := Lib.hid hza5; have c05 := (HB6.out.cell (p := ⟨q, 0, none⟩) hq).trans HC0.out; obtain ⟨b', o', e1, zz0, zz1⟩ := (HR.out.below HB6.out (by rw [HBB.out])).at_ HX.out; simp only [Option.some.injEq, Addr.mk.injEq, and_true] at e1; obtain ⟨rfl, rfl⟩ := e1; clear hown5 hg5 hza5) | (at_builtin; refine wpList_app rfl (.tmp 100) (.tmp 108) 47 47 rfl B 90 i0 (.agg #[.int .i64 0, .int .i64 0]) 2 16 Try.underlying47 HI.out HZ0.out HZ1.out HZ2.out rfl (by decide) ao3 (k + 1) c3 (acc.flatMap refCells ++ [.int .i64 id, .int .i64 at_]) rfl (HO6.out.alloc _) (.slice (some ⟨(w5).heap.size, 0, none⟩) 1 1) 1 [.int .i64 y.2, .int .i64 y.1] rfl (ONEY.out w5) A3 A4 (HZA5.out _ _) ?_; intro ao4 c4 w6 hown6 hg6; have HO7 := Lib.hid hown6; have HB7 := Lib.hid (show Below B w4 w6 from (HB6.out.alloc hz5 _).grown hg6 (HZA5.out _ _) (fun b hb => (HO6.out.lt b hb).1)); clear hown6 hg6))
            go_roundw
            case rel => exact ⟨i + 1, k + 1 + 1, c4, ao4, acc ++ [(at_, id)] ++ [y], true, by omega, (show k + 1 + 1 ≤ i + 1 + 1 from by omega), by go_num, rfl, rfl, (by unfold RowKit.Hid; rw [List.length_append, List.length_append, HL.out]; rfl), (by unfold RowKit.Hid; rw [List.flatMap_append, List.flatMap_append]; exact HO7.out), HA2.out, HB7.out⟩
            case measure => simp [intOf]; omega
    · have hin : i = n := by omega
      subst hin
      have hbq := (show Blk w4 q 49 [.slice ao i c, .int .i64 most] from by
        obtain ⟨ao', c', h1, h2, _⟩ := HT4.out
        have := h1.cell 0
        rw [HC0.out] at this
        simp only [List.getElem?_cons_zero, Option.some.injEq, Value.slice.injEq] at this
        obtain ⟨rfl, e2, rfl⟩ := this
        rw [e2]; exact h1)
      have hq4 : q < w4.heap.size := hbq.lt
      cases is with
      | true =>
        have ha := HA.out
        rw [if_pos rfl, List.drop_eq_nil_of_le (by rw [HN.out]; exact Nat.le_refl _), List.append_nil] at ha
        have HA2 := Lib.hid ha
        clear HA ha hlt
        have cq := hbq.below HB.out hq
        have fz2 := cq.frozen 0
        have HCQ := Lib.hid cq
        clear cq hbq
        go_wp2_with fail
        go_ret
        have hl3 : (insL (at_, id) K).length = k := by rw [← HA2.out]; first | exact HL.out | (rw [List.length_append, HL.out]; rfl)
        have hset : Frm (fun z => z = q) wr (wr.setCell ⟨q, 0, none⟩ (.slice ao2 (k : Nat) c2)) := (Frm.refl _ _).setCell _ _ (.inl rfl)
        have hf0 : Frm (fun z => z = q) w4 wr := Frm.below (by rw [HBB.out]; exact HB.out)
        have hf : Frm (fun z => z = q) w (wr.setCell ⟨q, 0, none⟩ (.slice ao2 (k : Nat) c2)) := (HF4.out.trans hf0 (fun i h _ => h)).trans hset (fun i h _ => h)
        refine ⟨rfl, ⟨ao2, c2, ?_, ?_, hq0, HB0.out.trans (hf.toBelow HB0.out.size (fun i hi h => by omega))⟩, hf⟩
        · rw [HK.out, hl3]; exact HCQ.out.set 0 _
        · rw [HK.out, hl3, ← HA2.out]
          refine own0 (ownsRow_frm HO.out hset (fun kk hk e => ?_)) (by have := HF4.out.size; have := HB0.out.size; have := HBB.out; omega)
          have := own_ge HO.out kk hk
          omega
      | false =>
        have ha := HA.out
        rw [if_neg (by exact Bool.false_ne_true), List.drop_eq_nil_of_le (by rw [HN.out]; exact Nat.le_refl _)] at ha
        have HA2 := Lib.hid (show acc ++ [(at_, id)] = insL (at_, id) K from ha)
        clear HA ha hlt
        have A1 : k + 1 ≤ maxLen := by unfold maxLen; omega
        have A2 : (k + 1) * 16 ≤ 140737488355328 := by omega
        have hza : B ≤ (wr.alloc (.cells #[.int .i64 id, .int .i64 at_] 90)).heap.size := by simp; omega
        have HZA := Lib.hid hza
        clear hza
        have HBQ := Lib.hid hbq
        clear hbq
        have ONEX : RowKit.Hid (∀ w : World, Src Try.prog 2 47 (.slice (some ⟨w.heap.size, 0, none⟩) 1 1) 1 [.int .i64 id, .int .i64 at_] (w.alloc (.cells #[.int .i64 id, .int .i64 at_] 90))) := fun w => Src.two Try.underlying47 w _ _ _ rfl rfl
        go_wp2_with (at_builtin; refine wpList_app rfl (.tmp 112) (.tmp 114) 47 47 rfl B 90 i0 (.agg #[.int .i64 0, .int .i64 0]) 2 16 Try.underlying47 HI.out HZ0.out HZ1.out HZ2.out rfl (by decide) ao2 k c2 (acc.flatMap refCells) rfl (HO.out.alloc _) (.slice (some ⟨(wr).heap.size, 0, none⟩) 1 1) 1 [.int .i64 id, .int .i64 at_] rfl (ONEX.out wr) A1 A2 HZA.out ?_; intro ao3 c3 w5 hown5 hg5; have HO6 := Lib.hid (show w5.ownsRow B 90 2 (.slice ao3 (k + 1) c3) (k + 1) ((acc ++ [(at_, id)]).flatMap refCells) from by rw [List.flatMap_append]; exact hown5); have HB6 := Lib.hid (show Below B w4 w5 from (HB.out.alloc hz _).grown hg5 HZA.out (fun b hb => (HO.out.lt b hb).1)); have cq := HBQ.out.below HB6.out hq; have c05 := cq.cell 0; have fz2 := cq.frozen 0; rw [show ([.slice ao i c, .int .i64 most] : List Value)[0]? = some (.slice ao i c) from rfl] at c05; have HCQ := Lib.hid cq; clear cq hown5 hg5)
        go_ret
        have hl3 : (insL (at_, id) K).length = k + 1 := by rw [← HA2.out]; first | exact HL.out | (rw [List.length_append, HL.out]; rfl)
        have hset : Frm (fun z => z = q) w5 (w5.setCell ⟨q, 0, none⟩ (.slice ao3 (k + 1 : Nat) c3)) := (Frm.refl _ _).setCell _ _ (.inl rfl)
        have hf0 : Frm (fun z => z = q) w4 w5 := Frm.below (by rw [HBB.out]; exact HB6.out)
        have hf : Frm (fun z => z = q) w (w5.setCell ⟨q, 0, none⟩ (.slice ao3 (k + 1 : Nat) c3)) := (HF4.out.trans hf0 (fun i h _ => h)).trans hset (fun i h _ => h)
        refine ⟨rfl, ⟨ao3, c3, ?_, ?_, hq0, HB0.out.trans (hf.toBelow HB0.out.size (fun i hi h => by omega))⟩, hf⟩
        · rw [HK.out, hl3]; exact HCQ.out.set 0 _
        · rw [HK.out, hl3, ← HA2.out]
          refine own0 (ownsRow_frm HO6.out hset (fun kk hk e => ?_)) (by have := HF4.out.size; have := HB0.out.size; have := HBB.out; omega)
          have := own_ge HO6.out kk hk
          omega
set_option maxRecDepth 100000 in
set_option maxHeartbeats 1000000 in
theorem r_set_full (w0 : World) (q : Nat) (id at_ : Int) (w : World) (most : Int) (L : List One) (h : RT w0 w q most L) (hL : L.length ≤ 24) (h1 : 0 ≤ id) (h2 : 0 ≤ at_) (h3 : at_ ≤ 1099511627776) (hx : hasL id L = false) (hm : most ≤ (L.length : Int)) :
   Calls Try.prog 23 #[.pointer (some ⟨q, 0, none⟩), .int .i64 id, .int .i64 at_] w fun e w' => e = .returned (.int .i64 3) ∧ Below w.heap.size w w' := by
  have HT0 := Lib.hid h
  have a1 : atL id L = (0, false) := by
    unfold hasL at hx
    unfold atL
    cases hf : L.find? (fun y => decide (y.2 = id)) with
    | none => rfl
    | some y =>
      exfalso
      rw [List.any_eq_false] at hx
      exact hx y (List.mem_of_find?_eq_some hf) (by simpa using List.find?_some hf)
  obtain ⟨ao, c, c0, c1, _, _, _⟩ := h.cell
  clear h hx
  have hc1 := r_at w0 q id w most L HT0.out hL
  rw [a1] at hc1
  have HC1 := Lib.hid hc1
  clear hc1 a1
  go_enter Try.func23, Try.ntmps23
  go_wp2_with fail
  refine HC1.out.mono ?_
  rintro e w' ⟨rfl, rfl⟩
  obtain ⟨n0, hn0⟩ : ∃ n0, L.length = n0 := ⟨_, rfl⟩
  rw [hn0] at c0 hm
  have HN0 := Lib.hid hn0
  clear hn0 HC1
  go_wp2_with fail
  go_quiet (fail)
  go_wp2_with fail
  go_ret
  exact ⟨rfl, below_drewN (Below.refl _ _) _⟩
theorem r_set_arg (q : Nat) (id at_ : Int) (w : World) (hx : id < 0 ∨ at_ < 0 ∨ 1099511627776 < at_) :
   Calls Try.prog 23 #[.pointer (some ⟨q, 0, none⟩), .int .i64 id, .int .i64 at_] w fun e w' => e = .returned (.int .i64 2) ∧ w = w' := by
  by_cases h1 : id < 0
  · clear hx
    go_enter Try.func23, Try.ntmps23
    go_wp2_with fail
    go_ret
    exact ⟨rfl, rfl⟩
  · have h1' : 0 ≤ id := by omega
    by_cases h2 : at_ < 0
    · clear hx
      go_enter Try.func23, Try.ntmps23
      go_wp2_with fail
      go_ret
      exact ⟨rfl, rfl⟩
    · have h3 : 1099511627776 < at_ := by omega
      have h2' : 0 ≤ at_ := by omega
      clear hx
      go_enter Try.func23, Try.ntmps23
      go_wp2_with fail
      go_ret
      exact ⟨rfl, rfl⟩
theorem r_set (w0 : World) (q : Nat) (id at_ : Int) (w : World) (most : Int) (L : List One) (h : RT w0 w q most L) (hL : L.length ≤ 24) (hm : (L.length : Int) ≤ most) :
   Calls Try.prog 23 #[.pointer (some ⟨q, 0, none⟩), .int .i64 id, .int .i64 at_] w fun e w' => e = .returned (.int .i64 (setL most L id at_).1) ∧ RT w0 w' q most (setL most L id at_).2 ∧ Frm (fun k => k = q) w w' := by
  unfold setL
  by_cases hx : id < 0 ∨ at_ < 0 ∨ 1099511627776 < at_
  · rw [if_pos hx]
    refine (r_set_arg q id at_ w hx).mono ?_
    rintro e w' ⟨rfl, rfl⟩
    exact ⟨rfl, h, Frm.refl _ _⟩
  · rw [if_neg hx]
    cases hh : hasL id L with
    | true =>
      rw [if_pos rfl]
      exact r_set_old w0 q id at_ w most L h hL (by omega) (by omega) (by omega) hh
    | false =>
      rw [if_neg (by exact Bool.false_ne_true)]
      by_cases hf : (L.length : Int) = most
      · rw [if_pos hf]
        refine (r_set_full w0 q id at_ w most L h hL (by omega) (by omega) (by omega) hh (by omega)).mono ?_
        rintro e w' ⟨rfl, hb⟩
        exact ⟨rfl, h.below hb, Frm.below hb⟩
      · rw [if_neg hf]
        have := r_set_new w0 q id at_ w most L h hL (by omega) (by omega) (by omega) hh (by omega)
        rw [cancelL_no hh] at this
        exact this
end Go.Proofs.Ytjdanngkmkgidaa
