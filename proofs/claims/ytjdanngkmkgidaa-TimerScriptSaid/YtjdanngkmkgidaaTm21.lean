/- The walks of the document's timers: New, At, Due. -/
import Derived.Test.YtjdanngkmkgidaaTm15
namespace Go.Proofs.Ytjdanngkmkgidaa
open Go.RowKit
set_option linter.unusedVariables false

def refCells (x : One) : List Value := [.int .i64 x.2, .int .i64 x.1]
theorem refCells_len (x : One) : (refCells x).length = 2 := rfl
theorem refCells_one (x : One) : ∀ u ∈ refCells x, u.oneCell' = true := by
  intro u hu
  simp only [refCells, List.mem_cons, List.not_mem_nil, or_false] at hu
  rcases hu with rfl | rfl <;> rfl
/-- the document's Timers at q: the list itself -/
def RT (w0 w : World) (q : Nat) (most : Int) (L : List One) : Prop := ∃ ao c, Blk w q 49 [.slice ao L.length c, .int .i64 most] ∧ w.ownsRow w0.heap.size 90 2 (.slice ao L.length c) L.length (L.flatMap refCells) ∧ w0.heap.size ≤ q ∧ Below w0.heap.size w0 w
theorem RT.frm {S : Nat → Prop} {w0 w w' : World} {q : Nat} {most : Int} {L : List One} (h : RT w0 w q most L) (hf : Frm S w w') (hb : Below w0.heap.size w0 w') (hq : ¬ S q) (hr : ∀ k T cs, S k → Blk w k T cs → T ≠ 90) (hs : ∀ k, S k → ∃ T cs, Blk w k T cs) : RT w0 w' q most L := by
  obtain ⟨ao, c, h1, h2, h3, h4⟩ := h
  refine ⟨ao, c, h1.frm hf hq, ownsRow_frm h2 hf (fun k hk hS => ?_), h3, hb⟩
  obtain ⟨T, cs, hB⟩ := hs k hS
  exact ownsRow_ne h2 hB (hr k T cs hS hB) k hk rfl
theorem RT.below {w0 w w' : World} {q : Nat} {most : Int} {L : List One} (h : RT w0 w q most L) (hb : Below w.heap.size w w') : RT w0 w' q most L := by
  obtain ⟨ao, c, h1, h2, h3, h4⟩ := h
  exact ⟨ao, c, h1.frm (Frm.below (S := fun _ => False) hb) id, ownsRow_frm h2 (Frm.below (S := fun _ => False) hb) (fun _ _ => id), h3, h4.trans (hb.mono h4.size)⟩
theorem RT.cell {w0 w : World} {q : Nat} {most : Int} {L : List One} (h : RT w0 w q most L) : ∃ ao c, w.cell? ⟨q, 0, none⟩ = some (.slice ao L.length c) ∧ w.cell? ⟨q, 1, none⟩ = some (.int .i64 most) ∧ w.frozen? ⟨q, 0, none⟩ = false ∧ RdE refCells 2 w ao L.length c L ∧ q < w.heap.size := by
  obtain ⟨ao, c, h1, h2, h3, h4⟩ := h
  exact ⟨ao, c, by rw [h1.cell]; rfl, by rw [h1.cell]; rfl, h1.frozen 0, ownsRow_rdE refCells_len rfl h2, h1.lt⟩
theorem RdE.at_ {w : World} {a : Option Addr} {n c : Nat} {L : List One} (h : RdE refCells 2 w a n c L) {i : Nat} {x : One} (hx : L[i]? = some x) : ∃ b o, a = some ⟨b, o, none⟩ ∧ w.cell? ⟨b, o + i * 2, none⟩ = some (.int .i64 x.2) ∧ w.cell? ⟨b, o + i * 2 + 1, none⟩ = some (.int .i64 x.1) := by
  obtain ⟨b, o, e, hb, hc⟩ := h.2.2.2.2 i x hx
  exact ⟨b, o, e, hc 0 (by omega), hc 1 (by omega)⟩
theorem rnew_any (most : Int) (w : World) (h1 : 1 ≤ most) (h2 : most ≤ 24) :
   Calls Try.prog 20 #[.int .i64 most] w fun e w' => e = .returned (.tuple #[.pointer (some ⟨w.heap.size, 0, none⟩), .int .i64 0]) ∧ w' = w.alloc (.cells #[.slice none 0 0, .int .i64 most] 49) := by
  go_enter Try.func20, Try.ntmps20
  go_wp2_with fail
  go_ret2
  exact ⟨rfl, rfl⟩
theorem rnew_no (most : Int) (w : World) (h1 : ¬ (1 ≤ most ∧ most ≤ 24)) :
   Calls Try.prog 20 #[.int .i64 most] w fun e w' => e = .returned (.tuple #[.pointer none, .int .i64 2]) ∧ w = w' := by
  by_cases h : most < 1
  · go_enter Try.func20, Try.ntmps20
    go_wp2_with fail
    go_ret2
    exact ⟨rfl, rfl⟩
  · have h' : 24 < most := by omega
    have h3 : 1 ≤ most := by omega
    clear h1 h
    go_enter Try.func20, Try.ntmps20
    go_wp2_with fail
    go_ret2
    exact ⟨rfl, rfl⟩
theorem atL_drop {L : List One} {i : Nat} {x : One} {id : Int} (h : L[i]? = some x) : atL id (L.drop i) = if x.2 = id then (x.1, true) else atL id (L.drop (i + 1)) := by
  obtain ⟨hlt, e⟩ := List.getElem?_eq_some_iff.1 h
  rw [List.drop_eq_getElem_cons hlt, e]
  unfold atL
  rw [List.find?_cons]
  by_cases hx : x.2 = id
  · rw [decide_eq_true hx, if_pos hx]
  · rw [decide_eq_false hx, if_neg hx]
set_option maxRecDepth 100000 in
set_option maxHeartbeats 1000000 in
theorem r_at (w0 : World) (q : Nat) (id : Int) (w : World) (most : Int) (L : List One) (h : RT w0 w q most L) (hL : L.length ≤ 24) :
   Calls Try.prog 24 #[.pointer (some ⟨q, 0, none⟩), .int .i64 id] w fun e w' => e = .returned (.tuple #[.int .i64 (atL id L).1, .bool (atL id L).2]) ∧ w = w' := by
  obtain ⟨ao, c, c0, c1, fz, hr, hq⟩ := h.cell
  clear h
  have HR := Lib.hid hr
  obtain ⟨R, hR⟩ : ∃ R, atL id L = R := ⟨_, rfl⟩
  rw [hR]
  have HRR := Lib.hid hR
  obtain ⟨n, hn⟩ : ∃ n, L.length = n := ⟨_, rfl⟩
  rw [hn] at c0 HR hL
  have HN := Lib.hid hn
  clear hr hR hn
  go_enter Try.func24, Try.ntmps24
  go_wp2_with fail
  go_loop [6] (fun v => ∃ i : Nat, i ≤ n ∧ v = .int .i64 i ∧ RowKit.Hid (atL id (L.drop i) = R)) (fun v => n - (intOf v).toNat)
  case atStart => exact ⟨0, Nat.zero_le _, rfl, HRR.out⟩
  case round =>
    clear HRR
    obtain ⟨i, hi, rfl, HT⟩ := hrel
    by_cases hlt : i < n
    · have hx : L[i]? = some (L[i]'(by rw [HN.out]; exact hlt)) := List.getElem?_eq_getElem _
      obtain ⟨x, hxe⟩ : ∃ x, L[i]'(by rw [HN.out]; exact hlt) = x := ⟨_, rfl⟩
      rw [hxe] at hx
      have ht := HT.out
      rw [atL_drop hx] at ht
      obtain ⟨b, o, rfl, x0, x1⟩ := HR.out.at_ hx
      have HX := Lib.hid hx
      clear hxe hx HT
      have k1 : (0 : Int) ≤ (i : Int) := by omega
      have k2 : (i : Int) < (n : Int) := by omega
      by_cases hid : x.2 = id
      · rw [if_pos hid] at ht
        subst ht
        have d1 : (x.2 == id) = true := by rw [beq_iff_eq]; exact hid
        have HID := Lib.hid hid
        clear hid
        go_wp2_with fail
        go_ret2
        exact ⟨rfl, rfl⟩
      · rw [if_neg hid] at ht
        have HT := Lib.hid ht
        have d1 : (x.2 == id) = false := by rw [beq_eq_false_iff_ne]; exact hid
        clear hid ht
        go_wp2_with fail
        go_round
        case rel => exact ⟨i + 1, by omega, by go_num, HT.out⟩
        case measure => simp [intOf]; omega
    · have ht := HT.out
      rw [List.drop_eq_nil_of_le (by rw [HN.out]; omega)] at ht
      have hr : R = (0, false) := ht.symm
      subst hr
      clear HT ht
      go_wp2_with fail
      go_ret2
      exact ⟨rfl, rfl⟩
theorem dueL_take {L : List One} {i : Nat} {x : One} {now : Int} (h : L[i]? = some x) : dueL now (L.drop i) = if x.1 ≤ now then x.2 :: dueL now (L.drop (i + 1)) else [] := by
  obtain ⟨hlt, e⟩ := List.getElem?_eq_some_iff.1 h
  rw [List.drop_eq_getElem_cons hlt, e]
  unfold dueL
  rw [List.takeWhile_cons]
  by_cases hx : x.1 ≤ now
  · rw [if_pos (by simpa using hx), if_pos hx]; rfl
  · rw [if_neg (by simpa using hx), if_neg hx]; rfl
def RdR (w : World) (n : Nat) (L : List One) (now : Int) (R : List Int) (v5 v6 : Value) (wr : World) : Prop := ∃ (i : Nat) (ao2 : Option Addr) (k c2 : Nat) (acc : List Int), i ≤ n ∧ k ≤ i ∧ v6 = .int .i64 i ∧ v5 = .slice ao2 k c2 ∧ RowKit.Hid (acc.length = k) ∧ RowKit.Hid (wr.ownsRow w.heap.size 3 1 (.slice ao2 k c2) k (acc.map (Value.int .i64))) ∧ RowKit.Hid (acc ++ dueL now (L.drop i) = R) ∧ RowKit.Hid (Below w.heap.size w wr)
set_option maxRecDepth 100000 in
set_option maxHeartbeats 2000000 in
theorem r_due (w0 : World) (q : Nat) (now : Int) (w : World) (most : Int) (L : List One) (h : RT w0 w q most L) (hL : L.length ≤ 24) :
   Calls Try.prog 25 #[.pointer (some ⟨q, 0, none⟩), .int .i64 now] w fun e w' => ∃ ao2 c2, e = .returned (.slice ao2 (dueL now L).length c2) ∧ w'.ownsRow w.heap.size 3 1 (.slice ao2 (dueL now L).length c2) (dueL now L).length ((dueL now L).map (Value.int .i64)) ∧ Below w.heap.size w w' := by
  obtain ⟨i0, hi, hz0, hz1, hz2⟩ := info_parts info_int
  have HI := Lib.hid hi
  have HZ0 := Lib.hid hz0
  have HZ1 := Lib.hid hz1
  have HZ2 := Lib.hid hz2
  clear hi hz0 hz1 hz2
  obtain ⟨ao, c, c0, c1, fz, hr, hq⟩ := h.cell
  clear h fz c1
  have HR := Lib.hid hr
  obtain ⟨R, hR⟩ : ∃ R, dueL now L = R := ⟨_, rfl⟩
  rw [hR]
  have HRR := Lib.hid hR
  obtain ⟨n, hn⟩ : ∃ n, L.length = n := ⟨_, rfl⟩
  rw [hn] at c0 HR hL
  have HN := Lib.hid hn
  have HC := Lib.hid c0
  clear hr hR hn c0
  go_enter Try.func25, Try.ntmps25
  go_wp2_with fail
  go_loopw [5, 6] (fun v5 v6 wr => RdR w n L now R v5 v6 wr) (fun _ v _ => n - (intOf v).toNat)
  case atStart => exact ⟨0, none, 0, 0, [], Nat.zero_le _, Nat.le_refl _, rfl, rfl, rfl, World.ownsRow_nil _ _ _ _, HRR.out, Below.refl _ _⟩
  case round =>
    clear HRR
    obtain ⟨i, ao2, k, c2, acc, hi, hk, rfl, rfl, HL, HO, HT, HB⟩ := hrel
    have c0 := (HB.out.cell (p := ⟨q, 0, none⟩) hq).trans HC.out
    by_cases hlt : i < n
    · have hx : L[i]? = some (L[i]'(by rw [HN.out]; exact hlt)) := List.getElem?_eq_getElem _
      obtain ⟨x, hxe⟩ : ∃ x, L[i]'(by rw [HN.out]; exact hlt) = x := ⟨_, rfl⟩
      rw [hxe] at hx
      have ht := HT.out
      rw [dueL_take hx] at ht
      obtain ⟨b, o, rfl, x0, x1⟩ := (HR.out.below HB.out rfl).at_ hx
      have HX := Lib.hid hx
      clear hxe hx HT
      have k1 : (0 : Int) ≤ (i : Int) := by omega
      have k2 : (i : Int) < (n : Int) := by omega
      by_cases hle : x.1 ≤ now
      · rw [if_pos hle] at ht
        have HT : RowKit.Hid ((acc ++ [x.2]) ++ dueL now (L.drop (i + 1)) = R) := by unfold RowKit.Hid; rw [← ht]; simp
        have d1 : decide (x.1 ≤ now) = true := by simpa using hle
        have A1 : k + 1 ≤ maxLen := by unfold maxLen; omega
        have A2 : (k + 1) * 8 ≤ 140737488355328 := by omega
        have hz := HB.out.size
        clear hle ht
        go_wp2_with (at_builtin; refine wpList_app rfl _ _ 22 22 rfl w.heap.size 3 i0 (.int .i64 0) 1 8 Try.underlying22 HI.out HZ0.out HZ1.out HZ2.out rfl (by decide) ao2 k c2 (acc.map (Value.int .i64)) rfl (HO.out.alloc _) _ 1 _ rfl (Src.one' Try.underlying22 wr _ 3 rfl) A1 A2 (by simp; omega) ?_; intro ao3 c3 w5 hown5 hg5; have HO6 := Lib.hid hown5; have HB6 := Lib.hid ((HB.out.alloc hz _).grown hg5 (by simp; omega) (fun b hb => (HO.out.lt b hb).1)); clear hown5 hg5)
        go_roundw
        case rel => exact ⟨i + 1, ao3, k + 1, c3, acc ++ [x.2], by omega, by omega, by go_num, rfl, (by unfold RowKit.Hid; rw [List.length_append, HL.out]; rfl), (by unfold RowKit.Hid; rw [List.map_append]; exact HO6.out), HT.out, HB6.out⟩
        case measure => simp [intOf]; omega
      · rw [if_neg hle, List.append_nil] at ht
        subst ht
        have d1 : decide (x.1 ≤ now) = false := by simpa using hle
        clear hle
        have hl := HL.out
        subst hl
        go_wp2_with fail
        go_ret
        exact ⟨ao2, c2, rfl, HO.out, HB.out⟩
    · have ht := HT.out
      rw [List.drop_eq_nil_of_le (by rw [HN.out]; omega), show dueL now [] = [] from rfl, List.append_nil] at ht
      subst ht
      have hl := HL.out
      subst hl
      have hin : i = n := by omega
      subst hin
      clear HT HL
      go_wp2_with fail
      go_ret
      exact ⟨ao2, c2, rfl, HO.out, HB.out⟩
end Go.Proofs.Ytjdanngkmkgidaa
