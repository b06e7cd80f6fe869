/- The walks of GreatItems, OverItems, Clone of items; the document's Less of items. -/
import Derived.Test.YtjacebnjmhbcbaaLendI
import Derived.Test.YtjacebnjmhbcbaaRank1
import Derived.Test.YtjacebnjmhbcbaaRefC
import Derived.Test.YtjacebnjmhbcbaaFrm
namespace Go.Proofs.Ytjacebnjmhbcbaa
open Go.RowKit
set_option linter.unusedVariables false

def RdI (w : World) (a : Option Addr) (n c : Nat) (l : List KeyL) : Prop := RdE KeyL.cells 2 w a n c l
def greatI (l : List KeyL) : Bool := decide (80 < l.length) || l.any fun k => decide (100 < k.2.size)
theorem greatI_false {l : List KeyL} (h : greatI l = false) : l.length ≤ 80 ∧ ∀ x ∈ l, x.2.size ≤ 100 := by
  unfold greatI at h
  rw [Bool.or_eq_false_iff] at h
  refine ⟨by simpa using h.1, fun x hx => ?_⟩
  have := h.2
  rw [List.any_eq_false] at this
  simpa using this x hx
theorem RdE.atI {w : World} {a : Option Addr} {n c : Nat} {L : List KeyL} (h : RdE KeyL.cells 2 w a n c L) {i : Nat} {x : KeyL} (hx : L[i]? = some x) : ∃ b o, a = some ⟨b, o, none⟩ ∧ w.cell? ⟨b, o + i * 2, none⟩ = some (.int .i64 x.1) ∧ w.cell? ⟨b, o + i * 2 + 1, none⟩ = some (.string x.2) ∧ b < w.heap.size := by
  obtain ⟨b, o, e, hb, hc⟩ := h.2.2.2.2 i x hx
  exact ⟨b, o, e, hc 0 (by omega), hc 1 (by omega), hb⟩
set_option maxRecDepth 100000 in
set_option maxHeartbeats 1000000 in
theorem greatI_any (a : Option Addr) (n cap : Nat) (l : List KeyL) (w : World) (hr : RdE KeyL.cells 2 w a n cap l) (hs : ∀ x ∈ l, x.2.size ≤ maxLen) :
    Calls Try.prog 9 #[.slice a n cap] w fun e w' => e = .returned (.bool (greatI l)) ∧ w = w' := by
  have hln := hr.1
  have hm1 := hr.2.1
  have hm2 := hr.2.2.1
  unfold maxLen at hm2
  have HR := Lib.hid hr
  have HN := Lib.hid hln
  have HS := Lib.hid hs
  clear hr hln hs
  obtain ⟨R, hR⟩ : ∃ R, greatI l = R := ⟨_, rfl⟩
  rw [hR]
  have HRR := Lib.hid hR
  clear hR
  by_cases hbig : 80 < n
  · have hr : R = true := by rw [← HRR.out]; unfold greatI; rw [HN.out]; simp [hbig]
    subst hr
    have d1 : decide (n ≤ 80) = false := by simp; omega
    have d1' : decide ((n : Int) ≤ 80) = false := by simp; omega
    have d2 : decide ((80 : Int) < (n : Int)) = true := by simp; omega
    clear HRR
    go_enter Try.func9, Try.ntmps9
    go_wp2_with fail
    go_loop [3] (fun v => v = .int .i64 0) (fun v => 0)
    case atStart => rfl
    case round =>
      subst hrel
      go_wp2_with fail
      go_ret
      exact ⟨rfl, rfl⟩
  · have hle : n ≤ 80 := by omega
    clear hbig
    go_enter Try.func9, Try.ntmps9
    go_wp2_with fail
    go_loop [3] (fun v => ∃ i : Nat, i ≤ n ∧ v = .int .i64 i ∧ RowKit.Hid (∀ j y, j < i → l[j]? = some y → y.2.size ≤ 100)) (fun v => n - (intOf v).toNat)
    case atStart => exact ⟨0, Nat.zero_le _, rfl, fun j y hj _ => by omega⟩
    case round =>
      obtain ⟨i, hi, rfl, HT⟩ := hrel
      by_cases hlt : i < n
      · have hx : l[i]? = some (l[i]'(by rw [HN.out]; exact hlt)) := List.getElem?_eq_getElem _
        obtain ⟨x, hxe⟩ : ∃ x, l[i]'(by rw [HN.out]; exact hlt) = x := ⟨_, rfl⟩
        rw [hxe] at hx
        have hsz := HS.out x (List.mem_of_getElem? hx)
        unfold maxLen at hsz
        obtain ⟨b, o, rfl, x0, x1, _⟩ := HR.out.atI hx
        have HX := Lib.hid hx
        clear hx hxe
        have k1 : (0 : Int) ≤ (i : Int) := by omega
        have k2 : (i : Int) < (n : Int) := by omega
        have k3 : (n : Int) ≤ 80 := by omega
        by_cases hb : 100 < x.2.size
        · have hr : R = true := by
            rw [← HRR.out]
            unfold greatI
            rw [Bool.or_eq_true, List.any_eq_true]
            exact .inr ⟨x, List.mem_of_getElem? HX.out, by simpa using hb⟩
          subst hr
          clear HRR
          go_wp2_with fail
          go_ret
          exact ⟨rfl, rfl⟩
        · have d3 : decide (100 < x.2.size) = false := by simpa using hb
          have hle2 : x.2.size ≤ 100 := by omega
          have HT2 : RowKit.Hid (∀ j y, j < i + 1 → l[j]? = some y → y.2.size ≤ 100) := by
            intro j y hj hy
            rcases (by omega : j < i ∨ j = i) with h | h
            · exact HT.out j y h hy
            · subst h; rw [HX.out] at hy; cases hy; exact hle2
          clear HT hb
          go_wp2_with fail
          go_round
          case rel => exact ⟨i + 1, by omega, by go_num, HT2.out⟩
          case measure => simp [intOf]; omega
      · have hin : i = n := by omega
        subst hin
        have hr : R = false := by
          rw [← HRR.out]
          unfold greatI
          rw [Bool.or_eq_false_iff, List.any_eq_false]
          refine ⟨by rw [HN.out]; simp; omega, fun x hx => ?_⟩
          obtain ⟨j, hj, e⟩ := List.mem_iff_getElem.1 hx
          have := HT.out j x (by rw [← HN.out]; exact hj) (by rw [← e]; exact List.getElem?_eq_getElem hj)
          simp; omega
        subst hr
        clear HRR HT hlt
        have k3 : (i : Int) ≤ 80 := by omega
        have d4 : decide ((80 : Int) < (i : Int)) = false := by simp; omega
        go_wp2_with fail
        go_ret
        exact ⟨rfl, rfl⟩
set_option maxRecDepth 100000 in
theorem cloneI_any (w : World) (ao : Option Addr) (n c : Nat) (l : List KeyL) (h : RdE KeyL.cells 2 w ao n c l) (hn : n ≤ 1000) :
   Calls Try.prog 41 #[.slice ao n c] w fun e w' => ∃ ao' c', e = .returned (.slice ao' n c') ∧ w'.ownsRow w.heap.size 31 2 (.slice ao' n c') n (l.flatMap KeyL.cells) ∧ Below w.heap.size w w' := by
  obtain ⟨i0, hi, hz0, hz1, hz2⟩ := info_parts infoI2
  have HI := Lib.hid hi
  have HZ0 := Lib.hid hz0
  have HZ1 := Lib.hid hz1
  have HZ2 := Lib.hid hz2
  clear hi hz0 hz1 hz2
  have hl := h.1
  cases ao with
  | none =>
    obtain ⟨rfl, rfl⟩ := h.nil0 rfl
    obtain rfl : l = [] := List.eq_nil_of_length_eq_zero hl
    clear h hl
    have he : ∀ W, (binOp .eql 22 (.slice none 0 0) (.slice none 0 0)).run Try.prog W = .ok (.bool true) W := fun W => by kernel_rfl
    go_enter Try.func41, Try.ntmps41
    go_wp2_with fail
    go_ret
    exact ⟨none, 0, rfl, World.ownsRow_nil _ _ _ _, Below.refl _ _⟩
  | some a =>
    have HS := Lib.hid (show Src Try.prog 2 22 (.slice (some a) n c) n (l.flatMap KeyL.cells) (w.alloc (.cells #[] 31)) from Src.ofRdE (enc := KeyL.cells) (size := 2) Try.underlying22 (fun _ => rfl) itemOne (h.below ((Below.refl w.heap.size w).alloc (Nat.le_refl _) _) rfl))
    have HN := Lib.hid (show (w.alloc (.cells #[] 31)).ownsRow w.heap.size 31 2 (.slice (some ⟨w.heap.size, 0, none⟩) 0 0) 0 [] from
      ⟨rfl, .inr ⟨w.heap.size, 0, #[], rfl, Nat.le_refl _, heap_alloc_new w _, Nat.le_refl _, Nat.zero_le _, rfl, rfl⟩⟩)
    clear h hl
    have he : ∀ W, (binOp .eql 22 (.slice (some a) n c) (.slice none 0 0)).run Try.prog W = .ok (.bool false) W := fun W => by kernel_rfl
    go_enter Try.func41, Try.ntmps41
    go_wp2_with (at_builtin; refine wpList_app rfl _ _ 22 22 rfl w.heap.size 31 i0 (.agg #[.int .i64 0, .string ⟨#[]⟩]) 2 24 Try.underlying22 HI.out HZ0.out HZ1.out HZ2.out rfl (by decide) (some ⟨w.heap.size, 0, none⟩) 0 0 [] rfl HN.out (.slice (some a) n c) n (l.flatMap KeyL.cells) rfl HS.out (by unfold maxLen; omega) (by omega) (by simp) ?_; intro ao2 c2 w2 hown2 hg2; rw [Nat.zero_add, List.nil_append] at hown2; have HO2 := Lib.hid hown2; have HB2 := Lib.hid (((Below.refl _ w).alloc (Nat.le_refl _) (.cells #[] 31)).grown hg2 (by simp) (fun k hk => by simp only [Value.ownBlock, Option.some.injEq] at hk; omega)); clear hown2 hg2)
    go_ret
    exact ⟨ao2, c2, rfl, HO2.out, HB2.out⟩
set_option maxRecDepth 100000 in
set_option maxHeartbeats 1000000 in
theorem overI_any (base n c : Nat) (ao : Option Addr) (xs : List Value) (w : World) (h : w.ownsRow base 31 2 (.slice ao n c) n xs) (hn : n ≤ 1000) :
   Calls Try.prog 24 #[.slice ao n c] w fun e w' => e = .returned (.tuple #[]) ∧ Frm (fun i => (Value.slice ao n c).ownBlock = some i) w w' := by
  obtain ⟨i0, hi, hz0, hz1, hz2⟩ := info_parts infoI2
  have HI := Lib.hid hi
  have HZ0 := Lib.hid hz0
  have HZ1 := Lib.hid hz1
  have HZ2 := Lib.hid hz2
  clear hi hz0 hz1 hz2
  have HO := Lib.hid (own0 h (Nat.zero_le _))
  clear h
  go_enter Try.func24, Try.ntmps24
  go_wp2_with fail
  go_loopw [2] (fun v wr => ∃ (i : Nat) (ys : List Value), i ≤ n ∧ v = .int .i64 i ∧ RowKit.Hid (wr.ownsRow 0 31 2 (.slice ao n c) n ys) ∧ RowKit.Hid (Frm (fun i => (Value.slice ao n c).ownBlock = some i) w wr)) (fun v _ => n - (intOf v).toNat)
  case atStart => exact ⟨0, xs, Nat.zero_le _, rfl, HO.out, Frm.refl _ _⟩
  case round =>
    clear HO
    obtain ⟨i, ys, hi, rfl, HO, HF⟩ := hrel
    by_cases hlt : i < n
    · obtain ⟨g, cap, hv, _, _⟩ := HO.out.form (by omega)
      simp only [Value.slice.injEq, true_and] at hv
      obtain ⟨rfl, rfl⟩ := hv
      obtain ⟨sp, hsp, hb⟩ := ownsRow_blk HO.out
      have hylen : ys.length = n * 2 := HO.out.1
      obtain ⟨yv, hci⟩ : ∃ yv, wr.cell? ⟨g, i * 2, none⟩ = some yv := ⟨ys[i * 2]'(by omega), by rw [hb.cell, List.getElem?_append_left (by omega)]; exact List.getElem?_eq_getElem _⟩
      obtain ⟨yv2, hci2⟩ : ∃ yv, wr.cell? ⟨g, i * 2 + 1, none⟩ = some yv := ⟨ys[i * 2 + 1]'(by omega), by rw [hb.cell, List.getElem?_append_left (by omega)]; exact List.getElem?_eq_getElem _⟩
      have fz := fz_of (o := i * 2) hb
      have fz2 := fz_of (o := i * 2 + 1) hb
      have hnc : n ≤ c := by
        rcases HO.out.2 with ⟨h', _⟩ | ⟨g', cap', cur, h', _, _, hnc, _⟩
        · simp at h'
        · simp only [Value.slice.injEq] at h'; omega
      have hcm : c ≤ maxLen := by
        rcases HO.out.2 with ⟨h', _⟩ | ⟨g', cap', cur, h', _, _, _, hnc, _⟩
        · simp at h'
        · simp only [Value.slice.injEq] at h'; obtain ⟨_, _, rfl⟩ := h'; exact hnc
      have hO2 : ((wr.setCell ⟨g, i * 2, none⟩ (.int .i64 (-9))).setCell ⟨g, i * 2 + 1, none⟩ (.string ⟨#[]⟩)).ownsRow 0 31 2 (.slice (some ⟨g, 0, none⟩) n c) n ((ys.set (i * 2) (.int .i64 (-9))).set (i * 2 + 1) (.string ⟨#[]⟩)) := by
        have hb2 := (hb.set (i * 2) (.int .i64 (-9))).set (i * 2 + 1) (.string ⟨#[]⟩)
        rw [List.set_append_left _ _ (by omega), List.set_append_left _ _ (by rw [List.length_set]; omega)] at hb2
        refine ⟨by simp [hylen], .inr ⟨g, c, (((ys.set (i * 2) (.int .i64 (-9))).set (i * 2 + 1) (.string ⟨#[]⟩)) ++ sp).toArray, rfl, Nat.zero_le _, hb2, hnc, hcm, ?_, ?_⟩⟩
        · simp; omega
        · simp [← hylen]
      have HO2 := Lib.hid hO2
      have HF2 := Lib.hid ((HF.out.setCell ⟨g, i * 2, none⟩ (.int .i64 (-9)) (.inl rfl)).setCell ⟨g, i * 2 + 1, none⟩ (.string ⟨#[]⟩) (.inl rfl))
      clear hb hO2 hsp hnc hcm hylen HF HO
      have k1 : (0 : Int) ≤ (i : Int) := by omega
      have k2 : (i : Int) < (n : Int) := by omega
      go_wp2_with fail
      go_roundw
      case rel => exact ⟨i + 1, _, by omega, by go_num, HO2.out, HF2.out⟩
      case measure => simp [intOf]; omega
    · have hin : i = n := by omega
      subst hin
      clear hlt
      have A1 : i + 1 ≤ maxLen := by unfold maxLen; omega
      have A2 : (i + 1) * 24 ≤ 140737488355328 := by omega
      go_wp2_with (at_builtin; refine wpList_app rfl _ _ 22 22 rfl 0 31 i0 (.agg #[.int .i64 0, .string ⟨#[]⟩]) 2 24 Try.underlying22 HI.out HZ0.out HZ1.out HZ2.out rfl (by decide) ao i c ys rfl (HO.out.alloc _) _ 1 _ rfl (Src.two Try.underlying22 wr _ _ 31 rfl rfl) A1 A2 (Nat.zero_le _) ?_; intro ao3 c3 w5 hown5 hg5; have HG5 := Lib.hid hg5; clear hown5 hg5)
      go_end0
      exact ⟨rfl, (HF.out.alloc _).trans (Frm.grown (S := fun j => (Value.slice ao i c).ownBlock = some j) HG5.out (fun g h => h)) (fun i h _ => h)⟩
end Go.Proofs.Ytjacebnjmhbcbaa
