/- The walk of the document's Cancel. -/
import Derived.Test.YtjdanngkmkgidaaTm21
namespace Go.Proofs.Ytjdanngkmkgidaa
open Go.RowKit
set_option linter.unusedVariables false

theorem info_rone : (Try.prog.info? 90).map (fun i => (i.zero, i.size, i.bytes)) = some (some (.agg #[.int .i64 0, .int .i64 0]), 2, 16) := by kernel_rfl
theorem cancel_at : ∀ {L : List One} {i : Nat} {x : One} {id : Int}, L[i]? = some x → x.2 = id → (∀ j y, j < i → L[j]? = some y → y.2 ≠ id) → cancelL id L = L.take i ++ L.drop (i + 1) ∧ hasL id L = true
  | [], i, x, id, h, _, _ => by simp at h
  | y :: L, 0, x, id, h, hx, _ => by
    simp only [List.getElem?_cons_zero, Option.some.injEq] at h
    subst h
    unfold cancelL hasL
    rw [List.eraseP_cons, List.any_cons, decide_eq_true hx]
    simp
  | y :: L, i + 1, x, id, h, hx, hj => by
    have hy := hj 0 y (by omega) rfl
    obtain ⟨h1, h2⟩ := cancel_at (L := L) (i := i) (x := x) (by simpa using h) hx (fun j z hz hzz => hj (j + 1) z (by omega) (by simpa using hzz))
    unfold cancelL hasL at *
    rw [List.eraseP_cons, List.any_cons, decide_eq_false hy, cond_false, h1, h2]
    simp
theorem cancel_none {L : List One} {id : Int} (h : ∀ j y, j < L.length → L[j]? = some y → y.2 ≠ id) : hasL id L = false := by
  rw [Bool.eq_false_iff]
  intro e
  obtain ⟨x, hx, he⟩ := has_iff.1 e
  obtain ⟨j, hj, e2⟩ := List.mem_iff_getElem.1 hx
  exact h j x hj (by rw [← e2]; exact List.getElem?_eq_getElem hj) he
theorem own0 {w : World} {base : Nat} {e : TypeId} {size n c : Nat} {ao : Option Addr} {xs : List Value} (h : w.ownsRow base e size (.slice ao n c) n xs) {B : Nat} (hB : B ≤ base) : w.ownsRow B e size (.slice ao n c) n xs :=
  ⟨h.1, h.2.imp id (fun ⟨g, cap, cur, h1, h2, h3⟩ => ⟨g, cap, cur, h1, by omega, h3⟩)⟩
theorem own_ge {w : World} {base : Nat} {e : TypeId} {size n : Nat} {v : Value} {xs : List Value} (h : w.ownsRow base e size v n xs) : ∀ k, v.ownBlock = some k → base ≤ k := fun k hk => (h.lt k hk).1
set_option maxRecDepth 100000 in
set_option maxHeartbeats 2000000 in
theorem r_cancel (w0 : World) (q : Nat) (id : Int) (w : World) (most : Int) (L : List One) (h : RT w0 w q most L) (hL : L.length ≤ 24) :
   Calls Try.prog 22 #[.pointer (some ⟨q, 0, none⟩), .int .i64 id] w fun e w' => e = .returned (.bool (hasL id L)) ∧ RT w0 w' q most (cancelL id L) ∧ Frm (fun k => k = q) w w' := by
  obtain ⟨i0, hi, hz0, hz1, hz2⟩ := info_parts info_rone
  have HI := Lib.hid hi
  have HZ0 := Lib.hid hz0
  have HZ1 := Lib.hid hz1
  have HZ2 := Lib.hid hz2
  clear hi hz0 hz1 hz2
  have HT0 := Lib.hid h
  have hb0 : Below w0.heap.size w0 w := by obtain ⟨_, _, _, _, _, hb⟩ := h; exact hb
  have hq0 : w0.heap.size ≤ q := by obtain ⟨_, _, _, _, hq, _⟩ := h; exact hq
  have hBq : ∃ ao c, Blk w q 49 [.slice ao L.length c, .int .i64 most] ∧ w.cell? ⟨q, 0, none⟩ = some (.slice ao L.length c) ∧ RdE refCells 2 w ao L.length c L := by
    obtain ⟨ao, c, h1, h2, _⟩ := h
    exact ⟨ao, c, h1, by rw [h1.cell]; rfl, ownsRow_rdE refCells_len rfl h2⟩
  obtain ⟨ao, c, hbq, c0, hr⟩ := hBq
  have hcm := hr.2.2.1
  have hnc := hr.2.1
  unfold maxLen at hcm
  have hqw := hbq.lt
  have HR := Lib.hid hr
  have HBQ := Lib.hid hbq
  have HB0 := Lib.hid hb0
  obtain ⟨L', hL'⟩ : ∃ L', cancelL id L = L' := ⟨_, rfl⟩
  obtain ⟨R, hR⟩ : ∃ R, hasL id L = R := ⟨_, rfl⟩
  rw [hL', hR]
  have HL' := Lib.hid hL'
  have HRR := Lib.hid hR
  obtain ⟨n, hn⟩ : ∃ n, L.length = n := ⟨_, rfl⟩
  rw [hn] at c0 HR hL HBQ hnc
  have HN := Lib.hid hn
  clear h hbq hb0 hr hL' hR hn
  go_enter Try.func22, Try.ntmps22
  go_wp2_with fail
  go_loop [5] (fun v => ∃ i : Nat, i ≤ n ∧ v = .int .i64 i ∧ RowKit.Hid (∀ j y, j < i → L[j]? = some y → y.2 ≠ id)) (fun v => n - (intOf v).toNat)
  case atStart => exact ⟨0, Nat.zero_le _, rfl, fun j y hj _ => by omega⟩
  case round =>
    obtain ⟨i, hi, rfl, HT⟩ := hrel
    by_cases hlt : i < n
    · have hx : L[i]? = some (L[i]'(by rw [HN.out]; exact hlt)) := List.getElem?_eq_getElem _
      obtain ⟨x, hxe⟩ : ∃ x, L[i]'(by rw [HN.out]; exact hlt) = x := ⟨_, rfl⟩
      rw [hxe] at hx
      obtain ⟨b, o, rfl, x0, x1⟩ := HR.out.at_ hx
      have HX := Lib.hid hx
      clear hxe hx x1
      have k1 : (0 : Int) ≤ (i : Int) := by omega
      have k2 : (i : Int) < (n : Int) := by omega
      by_cases hid : x.2 = id
      · obtain ⟨hc1, hc2⟩ := cancel_at HX.out hid HT.out
        have hr1 : R = true := by rw [← HRR.out]; exact hc2
        have hl1 : L' = L.take i ++ L.drop (i + 1) := by rw [← HL'.out]; exact hc1
        subst hr1
        have HL2 := Lib.hid hl1
        have d1 : (x.2 == id) = true := by rw [beq_iff_eq]; exact hid
        have HID := Lib.hid hid
        clear hid HL' HRR hc1 hc2 hl1 HT
        go_wp2_with fail
        have HTK := Lib.hid (RdE.take HR.out i (by omega))
        have HD := Lib.hid (RdE.drop HR.out (i + 1) (by omega))
        have X1 := Lib.hid (show Src Try.prog 2 47 (.slice (some ⟨b, o, none⟩) i c) i ((L.take i).flatMap refCells) w.drew from Src.ofRdE (enc := refCells) (size := 2) Try.underlying47 refCells_len refCells_one (HTK.out.below (below_drewN (Below.refl _ w) 1) rfl))
        have A1 : 0 + i ≤ maxLen := by unfold maxLen; omega
        have A2 : (0 + i) * 16 ≤ 140737488355328 := by omega
        have A3 : i + (n - (i + 1)) ≤ maxLen := by unfold maxLen; omega
        have A4 : (i + (n - (i + 1))) * 16 ≤ 140737488355328 := by omega
        have w2 : ((i : Int) + 1).toNat = i + 1 := by omega
        have w3 : (0 : Int) ≤ (i : Int) + 1 := by omega
        have w4 : (i : Int) + 1 ≤ n := by omega
        have w5 : (i : Int) ≤ c := by omega
        have w6 : (n : Int) ≤ c := by omega
        have w1 : IntKind.i64.wrap ((i : Int) + 1) = (i : Int) + 1 := IntWalk.i64_in _ (by omega)
        by_cases hkc : c = i + 1
        · have e1 : n - (i + 1) = 0 := by omega
          have e2 : c - (i + 1) = 0 := by omega
          have hd := HD.out o (fun h => by omega)
          rw [e1, e2] at hd
          have HD1 := Lib.hid hd
          rw [e1] at A3 A4
          clear hd e1 e2 HD
          have hkc' := hkc.symm
          clear hkc
          go_region_law (first | (refine step_app rfl (.const (.slice none 0 0)) (.tmp 31) 47 47 rfl w.heap.size 90 i0 (.agg #[.int .i64 0, .int .i64 0]) 2 16 Try.underlying47 HI.out HZ0.out HZ1.out HZ2.out rfl (by decide) none 0 0 [] rfl (World.ownsRow_nil _ _ _ _) (.slice (some ⟨b, o, none⟩) i c) i ((L.take i).flatMap refCells) (by kernel_rfl) X1.out A1 A2 (Nat.le_refl _) ?_; intro a1 cc1 u1 hown1 hgr1; rw [Nat.zero_add, List.nil_append] at hown1; have B1 := Lib.hid ((below_drewN (Below.refl w.heap.size w) 1).grown hgr1 (Nat.le_refl _) (fun k hk => by cases hk)); have hz1 := B1.out.size; have cu := (B1.out.cell (p := ⟨q, 0, none⟩) hqw).trans c0; have X2 := Lib.hid (show Src Try.prog 2 47 (.slice (some ⟨b, o, none⟩) 0 0) (0) ((L.drop (i + 1)).flatMap refCells) u1 from Src.ofRdE (enc := refCells) (size := 2) Try.underlying47 refCells_len refCells_one (HD1.out.below B1.out rfl))) | (refine step_app rfl (.tmp 32) (.tmp 39) 47 47 rfl w.heap.size 90 i0 (.agg #[.int .i64 0, .int .i64 0]) 2 16 Try.underlying47 HI.out HZ0.out HZ1.out HZ2.out rfl (by decide) a1 i cc1 ((L.take i).flatMap refCells) (by kernel_rfl) hown1 (.slice (some ⟨b, o, none⟩) 0 0) (0) ((L.drop (i + 1)).flatMap refCells) (by kernel_rfl) X2.out A3 A4 hz1 ?_; intro a2 cc2 u2 hown2 hgr2; have B2 := Lib.hid (B1.out.grown hgr2 hz1 (own_ge hown1)); have hb2 := HBQ.out.below B2.out hqw; have cu2 := hb2.cell 0; have fz2 := hb2.frozen 0; rw [show ([.slice (some ⟨b, o, none⟩) n c, .int .i64 most] : List Value)[0]? = some (.slice (some ⟨b, o, none⟩) n c) from rfl] at cu2; have HB2 := Lib.hid hb2; have HO2 := Lib.hid hown2; clear hb2 hown2 hgr2))
          all_goals clear w1 w2 w3 w4
          all_goals go_wp2_with fail
          all_goals go_ret
          all_goals
            have hl2 := HL2.out
            subst hl2
            have hln : (L.take i ++ L.drop (i + 1)).length = i + (0) := by have := HN.out; simp; omega
            have hset : Frm (fun k => k = q) u2 (u2.setCell ⟨q, 0, none⟩ (.slice a2 (i + (0) : Nat) cc2)) := (Frm.refl _ _).setCell _ _ (.inl rfl)
            have hf : Frm (fun k => k = q) w (u2.setCell ⟨q, 0, none⟩ (.slice a2 (i + (0) : Nat) cc2)) := (Frm.below B2.out).trans hset (fun i h _ => h)
            refine ⟨rfl, ⟨a2, cc2, ?_, ?_, hq0, HB0.out.trans (hf.toBelow HB0.out.size (fun i hi h => by omega))⟩, hf⟩
            · rw [hln]; exact HB2.out.set 0 _
            · rw [hln, List.flatMap_append]
              refine own0 (ownsRow_frm HO2.out hset (fun k hk e => ?_)) HB0.out.size
              have := own_ge HO2.out k hk
              omega
        · have hd := HD.out (o + (i + 1) * 2) (fun _ => rfl)
          have HD1 := Lib.hid hd
          clear hd HD
          have hkc' : ¬ i + 1 = c := fun e => hkc e.symm
          go_region_law (first | (refine step_app rfl (.const (.slice none 0 0)) (.tmp 31) 47 47 rfl w.heap.size 90 i0 (.agg #[.int .i64 0, .int .i64 0]) 2 16 Try.underlying47 HI.out HZ0.out HZ1.out HZ2.out rfl (by decide) none 0 0 [] rfl (World.ownsRow_nil _ _ _ _) (.slice (some ⟨b, o, none⟩) i c) i ((L.take i).flatMap refCells) (by kernel_rfl) X1.out A1 A2 (Nat.le_refl _) ?_; intro a1 cc1 u1 hown1 hgr1; rw [Nat.zero_add, List.nil_append] at hown1; have B1 := Lib.hid ((below_drewN (Below.refl w.heap.size w) 1).grown hgr1 (Nat.le_refl _) (fun k hk => by cases hk)); have hz1 := B1.out.size; have cu := (B1.out.cell (p := ⟨q, 0, none⟩) hqw).trans c0; have X2 := Lib.hid (show Src Try.prog 2 47 (.slice (some ⟨b, o + (i + 1) * 2, none⟩) (n - (i + 1)) (c - (i + 1))) ((n - (i + 1))) ((L.drop (i + 1)).flatMap refCells) u1 from Src.ofRdE (enc := refCells) (size := 2) Try.underlying47 refCells_len refCells_one (HD1.out.below B1.out rfl))) | (refine step_app rfl (.tmp 32) (.tmp 39) 47 47 rfl w.heap.size 90 i0 (.agg #[.int .i64 0, .int .i64 0]) 2 16 Try.underlying47 HI.out HZ0.out HZ1.out HZ2.out rfl (by decide) a1 i cc1 ((L.take i).flatMap refCells) (by kernel_rfl) hown1 (.slice (some ⟨b, o + (i + 1) * 2, none⟩) (n - (i + 1)) (c - (i + 1))) ((n - (i + 1))) ((L.drop (i + 1)).flatMap refCells) (by kernel_rfl) X2.out A3 A4 hz1 ?_; intro a2 cc2 u2 hown2 hgr2; have B2 := Lib.hid (B1.out.grown hgr2 hz1 (own_ge hown1)); have hb2 := HBQ.out.below B2.out hqw; have cu2 := hb2.cell 0; have fz2 := hb2.frozen 0; rw [show ([.slice (some ⟨b, o, none⟩) n c, .int .i64 most] : List Value)[0]? = some (.slice (some ⟨b, o, none⟩) n c) from rfl] at cu2; have HB2 := Lib.hid hb2; have HO2 := Lib.hid hown2; clear hb2 hown2 hgr2))
          all_goals clear w1 w2 w3 w4
          all_goals go_wp2_with fail
          all_goals go_ret
          all_goals
            have hl2 := HL2.out
            subst hl2
            have hln : (L.take i ++ L.drop (i + 1)).length = i + (n - (i + 1)) := by have := HN.out; simp; omega
            have hset : Frm (fun k => k = q) u2 (u2.setCell ⟨q, 0, none⟩ (.slice a2 (i + (n - (i + 1)) : Nat) cc2)) := (Frm.refl _ _).setCell _ _ (.inl rfl)
            have hf : Frm (fun k => k = q) w (u2.setCell ⟨q, 0, none⟩ (.slice a2 (i + (n - (i + 1)) : Nat) cc2)) := (Frm.below B2.out).trans hset (fun i h _ => h)
            refine ⟨rfl, ⟨a2, cc2, ?_, ?_, hq0, HB0.out.trans (hf.toBelow HB0.out.size (fun i hi h => by omega))⟩, hf⟩
            · rw [hln]; exact HB2.out.set 0 _
            · rw [hln, List.flatMap_append]
              refine own0 (ownsRow_frm HO2.out hset (fun k hk e => ?_)) HB0.out.size
              have := own_ge HO2.out k hk
              omega
      · have HT2 : RowKit.Hid (∀ j y, j < i + 1 → L[j]? = some y → y.2 ≠ id) := by
          intro j y hj hy
          rcases (by omega : j < i ∨ j = i) with h | h
          · exact HT.out j y h hy
          · subst h
            rw [HX.out] at hy
            cases hy
            exact hid
        have d1 : (x.2 == id) = false := by rw [beq_eq_false_iff_ne]; exact hid
        clear hid HT
        go_wp2_with fail
        go_round
        case rel => exact ⟨i + 1, by omega, by go_num, HT2.out⟩
        case measure => simp [intOf]; omega
    · have hin : i = n := by omega
      subst hin
      have hf := cancel_none (L := L) (id := id) (fun j y hj hy => HT.out j y (by rw [← HN.out]; exact hj) hy)
      have hr1 : R = false := by rw [← HRR.out]; exact hf
      have hl1 : L' = L := by rw [← HL'.out]; exact cancelL_no hf
      subst hr1
      subst hl1
      clear HL' HRR hf hlt HT
      go_wp2_with fail
      go_ret
      exact ⟨rfl, HT0.out, Frm.refl _ _⟩
end Go.Proofs.Ytjdanngkmkgidaa
