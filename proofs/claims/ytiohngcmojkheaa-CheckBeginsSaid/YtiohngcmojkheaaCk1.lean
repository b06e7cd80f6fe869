/- check.Prefix, Complete, Right, Later, and the document's. -/
import Derived.Test.YtiohngcmojkheaaCk0
import Derived.Test.YtiohngcmojkheaaHand
import Derived.Test.YtiohngcmojkheaaR10b
import Derived.Test.YtiohngcmojkheaaRk1
namespace Go.Proofs.Ytiohngcmojkheaa
open Go.RowKit
set_option linter.unusedVariables false

def compT (its tl : List KeyL) : Bool := begI its tl && decide (its.length = tl.length)
def rightT (its tl : List KeyL) (d cc : Bool) : Bool := begI its tl && (!d || compT its tl && !cc)
def qEq (q : ByteArray) (k m : Int) (q2 : ByteArray) (k2 m2 : Int) : Bool := decide ((q, k, m) = (q2, k2, m2))
def laterT (same beg len d cc d2 cc2 : Bool) : Bool := same && beg && (!d && !cc || len && (d == d2) && (cc == cc2))
theorem neqQ_run (q : ByteArray) (k m : Int) (q2 : ByteArray) (k2 m2 : Int) (W : World) : (binOp .neq 24 (.agg #[.string q, .int .i64 k, .int .i64 m]) (.agg #[.string q2, .int .i64 k2, .int .i64 m2])).run Try.prog W = .ok (.bool (!qEq q k m q2 k2 m2)) W := by
  unfold qEq
  by_cases heq : (q, k, m) = (q2, k2, m2)
  · rw [decide_eq_true heq]
    cases heq
    have ht : (q.toList == q.toList) = true := by simp
    have h1 : (k == k) = true := by simp
    have h2 : (m == m) = true := by simp
    go_simp
  · rw [decide_eq_false heq]
    by_cases h0 : q = q2
    · subst h0
      have ht : (q.toList == q.toList) = true := by simp
      by_cases h1 : k = k2
      · subst h1
        have h1 : (k == k) = true := by simp
        have h2 : (m == m2) = false := by rw [beq_eq_false_iff_ne]; intro e; exact heq (by rw [e])
        clear heq
        go_simp
      · have h1 : (k == k2) = false := by simpa using h1
        clear heq
        go_simp
    · have ht := str_ne h0
      clear heq
      go_simp

set_option maxRecDepth 100000 in
set_option maxHeartbeats 4000000 in
theorem cprefix_any (w : World) (ao : Option Addr) (n c : Nat) (words : List ByteArray) (id : Int) (q : ByteArray) (k m : Int) (b : Option Addr) (bc : Nat) (its : List KeyL) (d cc : Bool) (h : RdT w ao n c words) (hn : words.length ≤ 1000) (hw : ∀ x ∈ words, x.size ≤ 1000) (hs : q.size ≤ 1000) (hi : RdE KeyL.cells 2 w b its.length bc its) :
    Calls Try.prog 36 #[.slice ao n c, .agg #[.int .i64 id, .string q, .int .i64 k, .int .i64 m, .slice b its.length bc, .bool d, .bool cc]] w fun e w' => e = .returned (.bool (begI its (topL words q k m))) ∧ Below w.heap.size w w' := by
  have HT := Lib.hid (fun W h => rtop_any W ao n c words q k m h hn hw hs)
  have htl := Nat.le_trans (topL_len words q k m) hn
  generalize topL words q k m = tl at *
  have HR := Lib.hid h
  have HI := Lib.hid hi
  have HBE := Lib.hid ((Below.refl _ w).alloc (Nat.le_refl _) (.cells #[.int .i64 id, .string q, .int .i64 k, .int .i64 m, .slice b its.length bc, .bool d, .bool cc] 46))
  have HK := Lib.hid (show Blk (w.alloc (.cells #[.int .i64 id, .string q, .int .i64 k, .int .i64 m, .slice b its.length bc, .bool d, .bool cc] 46)) w.heap.size 46 [.int .i64 id, .string q, .int .i64 k, .int .i64 m, .slice b its.length bc, .bool d, .bool cc] from heap_alloc_new w _)
  clear h hi hn hw hs
  go_enter Try.func36, Try.ntmps36
  go_wp2_with fail
  generalize w.alloc (.cells #[.int .i64 id, .string q, .int .i64 k, .int .i64 m, .slice b its.length bc, .bool d, .bool cc] 46) = W at *
  have HGB : RowKit.Hid (Below W.heap.size W W.drew) := below_drewN (Below.refl _ _) 1
  have HRW := Lib.hid (fun V (h : Below W.heap.size W V) => show RdT V ao n c words from Rd.below (Rd.below HR.out HBE.out rfl) h rfl)
  have HIW := Lib.hid (fun V (h : Below W.heap.size W V) => (HI.out.below HBE.out rfl).below h rfl)
  go_region_held3 (fun w' => w'.cell? ⟨w.heap.size, 0, none⟩ = some (.int .i64 id) ∧ w'.cell? ⟨w.heap.size, 1, none⟩ = some (.string q) ∧ w'.cell? ⟨w.heap.size, 2, none⟩ = some (.int .i64 k) ∧ w'.cell? ⟨w.heap.size, 3, none⟩ = some (.int .i64 m) ∧ w'.cell? ⟨w.heap.size, 4, none⟩ = some (.slice b its.length bc) ∧ w'.cell? ⟨w.heap.size, 5, none⟩ = some (.bool d) ∧ w'.cell? ⟨w.heap.size, 6, none⟩ = some (.bool cc)) (exact ⟨(Blk.below HK.out HGB.out (Blk.lt HK.out)).cell 0, (Blk.below HK.out HGB.out (Blk.lt HK.out)).cell 1, (Blk.below HK.out HGB.out (Blk.lt HK.out)).cell 2, (Blk.below HK.out HGB.out (Blk.lt HK.out)).cell 3, (Blk.below HK.out HGB.out (Blk.lt HK.out)).cell 4, (Blk.below HK.out HGB.out (Blk.lt HK.out)).cell 5, (Blk.below HK.out HGB.out (Blk.lt HK.out)).cell 6⟩) (first | (go_at_call 17; (with_reducible refine (HT.out _ (HRW.out _ HGB.out)).mono ?_); rintro e u ⟨a1, ca1, rfl, hown, hb⟩; have HX1 := Lib.hid (ownsRow_rdE (enc := KeyL.cells) (fun _ => rfl) rfl hown); have HSN := Lib.hid (HGB.out.trans (hb.mono HGB.out.size)); clear HGB; have HGB := HSN; clear HSN; clear hb; clear hown) | (go_at_call 59; (with_reducible refine (begins_any b _ bc its a1 _ ca1 tl _ (HIW.out _ HGB.out) HX1.out).mono ?_); rintro e u ⟨rfl, hb⟩; have HSN := Lib.hid (HGB.out.trans (hb.mono HGB.out.size)); clear HGB; have HGB := HSN; clear HSN; clear hb; clear HX1))
  have HB6 := Lib.hid (HBE.out.trans (HGB.out.mono HBE.out.size))
  go_wp2_with fail
  go_ret
  exact ⟨rfl, HB6.out⟩

set_option maxRecDepth 100000 in
set_option maxHeartbeats 4000000 in
theorem ccomplete_any (w : World) (ao : Option Addr) (n c : Nat) (words : List ByteArray) (id : Int) (q : ByteArray) (k m : Int) (b : Option Addr) (bc : Nat) (its : List KeyL) (d cc : Bool) (h : RdT w ao n c words) (hn : words.length ≤ 1000) (hw : ∀ x ∈ words, x.size ≤ 1000) (hs : q.size ≤ 1000) (hi : RdE KeyL.cells 2 w b its.length bc its) :
    Calls Try.prog 38 #[.slice ao n c, .agg #[.int .i64 id, .string q, .int .i64 k, .int .i64 m, .slice b its.length bc, .bool d, .bool cc]] w fun e w' => e = .returned (.bool (compT its (topL words q k m))) ∧ Below w.heap.size w w' := by
  have HP := Lib.hid (fun W h h2 => cprefix_any W ao n c words id q k m b bc its d cc h hn hw hs h2)
  have HT := Lib.hid (fun W h => rtop_any W ao n c words q k m h hn hw hs)
  have htl := Nat.le_trans (topL_len words q k m) hn
  generalize topL words q k m = tl at *
  have hcl : compT its tl = (begI its tl && decide (its.length = tl.length)) := rfl
  generalize compT its tl = R at *
  generalize begI its tl = x at *
  have HCL := Lib.hid hcl
  clear hcl
  have htm := Nat.le_trans hi.2.1 hi.2.2.1
  unfold maxLen at htm
  have e1 : ((its.length : Int) == (tl.length : Int)) = decide (its.length = tl.length) := by rw [Bool.eq_iff_iff]; simp; omega
  have HR := Lib.hid h
  have HI := Lib.hid hi
  have HBE := Lib.hid ((Below.refl _ w).alloc (Nat.le_refl _) (.cells #[.int .i64 id, .string q, .int .i64 k, .int .i64 m, .slice b its.length bc, .bool d, .bool cc] 46))
  have HK := Lib.hid (show Blk (w.alloc (.cells #[.int .i64 id, .string q, .int .i64 k, .int .i64 m, .slice b its.length bc, .bool d, .bool cc] 46)) w.heap.size 46 [.int .i64 id, .string q, .int .i64 k, .int .i64 m, .slice b its.length bc, .bool d, .bool cc] from heap_alloc_new w _)
  clear h hi hn hw hs
  go_enter Try.func38, Try.ntmps38
  go_wp2_with fail
  generalize w.alloc (.cells #[.int .i64 id, .string q, .int .i64 k, .int .i64 m, .slice b its.length bc, .bool d, .bool cc] 46) = W at *
  have HGB : RowKit.Hid (Below W.heap.size W W.drew) := below_drewN (Below.refl _ _) 1
  have HRW := Lib.hid (fun V (h : Below W.heap.size W V) => show RdT V ao n c words from Rd.below (Rd.below HR.out HBE.out rfl) h rfl)
  have HIW := Lib.hid (fun V (h : Below W.heap.size W V) => (HI.out.below HBE.out rfl).below h rfl)
  cases x
  · obtain rfl : R = false := by rw [HCL.out]; rfl
    refine wp_region_held_drew (S := (fun w' => w'.cell? ⟨w.heap.size, 0, none⟩ = some (.int .i64 id) ∧ w'.cell? ⟨w.heap.size, 1, none⟩ = some (.string q) ∧ w'.cell? ⟨w.heap.size, 2, none⟩ = some (.int .i64 k) ∧ w'.cell? ⟨w.heap.size, 3, none⟩ = some (.int .i64 m) ∧ w'.cell? ⟨w.heap.size, 4, none⟩ = some (.slice b its.length bc) ∧ w'.cell? ⟨w.heap.size, 5, none⟩ = some (.bool d) ∧ w'.cell? ⟨w.heap.size, 6, none⟩ = some (.bool cc))) (by kernel_rfl) (by exact ⟨(Blk.below HK.out HGB.out (Blk.lt HK.out)).cell 0, (Blk.below HK.out HGB.out (Blk.lt HK.out)).cell 1, (Blk.below HK.out HGB.out (Blk.lt HK.out)).cell 2, (Blk.below HK.out HGB.out (Blk.lt HK.out)).cell 3, (Blk.below HK.out HGB.out (Blk.lt HK.out)).cell 4, (Blk.below HK.out HGB.out (Blk.lt HK.out)).cell 5, (Blk.below HK.out HGB.out (Blk.lt HK.out)).cell 6⟩) (fun hHeld => ?_)
    refine takeO 0 (some 5) (v := ?_) rfl rfl (by kernel_rfl) (by kernel_rfl) (by kernel_rfl) (fun _ _ _ h => h) (Or.inl ⟨by rfl, ?_⟩) (by assumption) ?_
    rotate_left 1
    · intro w hSw; (try dsimp only at hSw); go_simp; all_goals with_reducible rfl
    try simp only [Act.put, List.setIfInBounds_toArray, List.set_cons_zero, List.set_cons_succ]
    refine takeO 1 (some 6) (v := ?_) rfl rfl (by kernel_rfl) (by kernel_rfl) (by kernel_rfl) (fun _ _ _ h => h) (Or.inl ⟨by rfl, ?_⟩) (by assumption) ?_
    rotate_left 1
    · intro w hSw; (try dsimp only at hSw); go_simp; all_goals with_reducible rfl
    try simp only [Act.put, List.setIfInBounds_toArray, List.set_cons_zero, List.set_cons_succ]
    refine wpAnyH_ready (rs := [2]) (by kernel_rfl) (by simp) ?_
    refine AllReadyH.cons rfl (fun K hK => ?_) AllReadyH.nil
    go_simp
    go_at_call 36; (with_reducible refine (HP.out _ (HRW.out _ HGB.out) (HIW.out _ HGB.out)).mono ?_); rintro e u ⟨rfl, hb⟩; have HSN := Lib.hid (HGB.out.trans (hb.mono HGB.out.size)); clear HGB; have HGB := HSN; clear HSN; clear hb
    go_wp2_with fail
    refine hK.out _ _ (by exact ⟨(Blk.below HK.out HGB.out (Blk.lt HK.out)).cell 0, (Blk.below HK.out HGB.out (Blk.lt HK.out)).cell 1, (Blk.below HK.out HGB.out (Blk.lt HK.out)).cell 2, (Blk.below HK.out HGB.out (Blk.lt HK.out)).cell 3, (Blk.below HK.out HGB.out (Blk.lt HK.out)).cell 4, (Blk.below HK.out HGB.out (Blk.lt HK.out)).cell 5, (Blk.below HK.out HGB.out (Blk.lt HK.out)).cell 6⟩) (fun hHeld => ?_)
    clear hK K
    try simp only [Act.put, List.setIfInBounds_toArray, List.set_cons_zero, List.set_cons_succ]
    refine takeO 3 (some 8) (v := ?_) rfl rfl (by kernel_rfl) (by kernel_rfl) (by kernel_rfl) (fun _ _ _ h => h) (Or.inl ⟨by rfl, ?_⟩) (by assumption) ?_
    rotate_left 1
    · intro w hSw; (try dsimp only at hSw); go_simp; all_goals with_reducible rfl
    try simp only [Act.put, List.setIfInBounds_toArray, List.set_cons_zero, List.set_cons_succ]
    refine takeO 4 (some 9) (v := undef) rfl rfl (by kernel_rfl) (by kernel_rfl) (by kernel_rfl) (fun _ _ _ h => h) (Or.inr ⟨by rfl, rfl⟩) (by assumption) ?_
    try simp only [Act.put, List.setIfInBounds_toArray, List.set_cons_zero, List.set_cons_succ]
    refine takeO 5 (some 10) (v := undef) rfl rfl (by kernel_rfl) (by kernel_rfl) (by kernel_rfl) (fun _ _ _ h => h) (Or.inr ⟨by rfl, rfl⟩) (by assumption) ?_
    try simp only [Act.put, List.setIfInBounds_toArray, List.set_cons_zero, List.set_cons_succ]
    refine takeO 6 (some 11) (v := undef) rfl rfl (by kernel_rfl) (by kernel_rfl) (by kernel_rfl) (fun _ _ _ h => h) (Or.inr ⟨by rfl, rfl⟩) (by assumption) ?_
    try simp only [Act.put, List.setIfInBounds_toArray, List.set_cons_zero, List.set_cons_succ]
    refine takeO 7 (some 12) (v := undef) rfl rfl (by kernel_rfl) (by kernel_rfl) (by kernel_rfl) (fun _ _ _ h => h) (Or.inr ⟨by rfl, rfl⟩) (by assumption) ?_
    try simp only [Act.put, List.setIfInBounds_toArray, List.set_cons_zero, List.set_cons_succ]
    refine takeO 8 (some 13) (v := undef) rfl rfl (by kernel_rfl) (by kernel_rfl) (by kernel_rfl) (fun _ _ _ h => h) (Or.inr ⟨by rfl, rfl⟩) (by assumption) ?_
    try simp only [Act.put, List.setIfInBounds_toArray, List.set_cons_zero, List.set_cons_succ]
    refine takeO 9 (some 14) (v := undef) rfl rfl (by kernel_rfl) (by kernel_rfl) (by kernel_rfl) (fun _ _ _ h => h) (Or.inr ⟨by rfl, rfl⟩) (by assumption) ?_
    try simp only [Act.put, List.setIfInBounds_toArray, List.set_cons_zero, List.set_cons_succ]
    refine takeO 10 (some 15) (v := undef) rfl rfl (by kernel_rfl) (by kernel_rfl) (by kernel_rfl) (fun _ _ _ h => h) (Or.inr ⟨by rfl, rfl⟩) (by assumption) ?_
    try simp only [Act.put, List.setIfInBounds_toArray, List.set_cons_zero, List.set_cons_succ]
    refine takeO 11 (some 16) (v := undef) rfl rfl (by kernel_rfl) (by kernel_rfl) (by kernel_rfl) (fun _ _ _ h => h) (Or.inr ⟨by rfl, rfl⟩) (by assumption) ?_
    try simp only [Act.put, List.setIfInBounds_toArray, List.set_cons_zero, List.set_cons_succ]
    refine takeO 12 (some 17) (v := undef) rfl rfl (by kernel_rfl) (by kernel_rfl) (by kernel_rfl) (fun _ _ _ h => h) (Or.inr ⟨by rfl, rfl⟩) (by assumption) ?_
    try simp only [Act.put, List.setIfInBounds_toArray, List.set_cons_zero, List.set_cons_succ]
    refine takeO 13 (some 18) (v := ?_) rfl rfl (by kernel_rfl) (by kernel_rfl) (by kernel_rfl) (fun _ _ _ h => h) (Or.inl ⟨by rfl, ?_⟩) (by assumption) ?_
    rotate_left 1
    · intro w hSw; (try dsimp only at hSw); go_simp; all_goals with_reducible rfl
    try simp only [Act.put, List.setIfInBounds_toArray, List.set_cons_zero, List.set_cons_succ]
    refine takeO 14 (some 4) (v := ?_) rfl rfl (by kernel_rfl) (by kernel_rfl) (by kernel_rfl) (fun _ _ _ h => h) (Or.inl ⟨by rfl, ?_⟩) (by assumption) ?_
    rotate_left 1
    · intro w hSw; (try dsimp only at hSw); go_simp; all_goals with_reducible rfl
    try simp only [Act.put, List.setIfInBounds_toArray, List.set_cons_zero, List.set_cons_succ]
    refine wpAnyH_done (by kernel_rfl) ?_ _
    have HB6 := Lib.hid (HBE.out.trans (HGB.out.mono HBE.out.size))
    go_wp2_with fail
    go_ret
    exact ⟨rfl, HB6.out⟩
  · replace e1 : ((its.length : Int) == (tl.length : Int)) = R := by rw [e1, HCL.out]; rfl
    refine wp_region_held_drew (S := (fun w' => w'.cell? ⟨w.heap.size, 0, none⟩ = some (.int .i64 id) ∧ w'.cell? ⟨w.heap.size, 1, none⟩ = some (.string q) ∧ w'.cell? ⟨w.heap.size, 2, none⟩ = some (.int .i64 k) ∧ w'.cell? ⟨w.heap.size, 3, none⟩ = some (.int .i64 m) ∧ w'.cell? ⟨w.heap.size, 4, none⟩ = some (.slice b its.length bc) ∧ w'.cell? ⟨w.heap.size, 5, none⟩ = some (.bool d) ∧ w'.cell? ⟨w.heap.size, 6, none⟩ = some (.bool cc))) (by kernel_rfl) (by exact ⟨(Blk.below HK.out HGB.out (Blk.lt HK.out)).cell 0, (Blk.below HK.out HGB.out (Blk.lt HK.out)).cell 1, (Blk.below HK.out HGB.out (Blk.lt HK.out)).cell 2, (Blk.below HK.out HGB.out (Blk.lt HK.out)).cell 3, (Blk.below HK.out HGB.out (Blk.lt HK.out)).cell 4, (Blk.below HK.out HGB.out (Blk.lt HK.out)).cell 5, (Blk.below HK.out HGB.out (Blk.lt HK.out)).cell 6⟩) (fun hHeld => ?_)
    refine takeO 0 (some 5) (v := ?_) rfl rfl (by kernel_rfl) (by kernel_rfl) (by kernel_rfl) (fun _ _ _ h => h) (Or.inl ⟨by rfl, ?_⟩) (by assumption) ?_
    rotate_left 1
    · intro w hSw; (try dsimp only at hSw); go_simp; all_goals with_reducible rfl
    try simp only [Act.put, List.setIfInBounds_toArray, List.set_cons_zero, List.set_cons_succ]
    refine takeO 1 (some 6) (v := ?_) rfl rfl (by kernel_rfl) (by kernel_rfl) (by kernel_rfl) (fun _ _ _ h => h) (Or.inl ⟨by rfl, ?_⟩) (by assumption) ?_
    rotate_left 1
    · intro w hSw; (try dsimp only at hSw); go_simp; all_goals with_reducible rfl
    try simp only [Act.put, List.setIfInBounds_toArray, List.set_cons_zero, List.set_cons_succ]
    refine wpAnyH_ready (rs := [2]) (by kernel_rfl) (by simp) ?_
    refine AllReadyH.cons rfl (fun K hK => ?_) AllReadyH.nil
    go_simp
    go_at_call 36; (with_reducible refine (HP.out _ (HRW.out _ HGB.out) (HIW.out _ HGB.out)).mono ?_); rintro e u ⟨rfl, hb⟩; have HSN := Lib.hid (HGB.out.trans (hb.mono HGB.out.size)); clear HGB; have HGB := HSN; clear HSN; clear hb
    go_wp2_with fail
    refine hK.out _ _ (by exact ⟨(Blk.below HK.out HGB.out (Blk.lt HK.out)).cell 0, (Blk.below HK.out HGB.out (Blk.lt HK.out)).cell 1, (Blk.below HK.out HGB.out (Blk.lt HK.out)).cell 2, (Blk.below HK.out HGB.out (Blk.lt HK.out)).cell 3, (Blk.below HK.out HGB.out (Blk.lt HK.out)).cell 4, (Blk.below HK.out HGB.out (Blk.lt HK.out)).cell 5, (Blk.below HK.out HGB.out (Blk.lt HK.out)).cell 6⟩) (fun hHeld => ?_)
    clear hK K
    try simp only [Act.put, List.setIfInBounds_toArray, List.set_cons_zero, List.set_cons_succ]
    refine takeO 3 (some 8) (v := ?_) rfl rfl (by kernel_rfl) (by kernel_rfl) (by kernel_rfl) (fun _ _ _ h => h) (Or.inl ⟨by rfl, ?_⟩) (by assumption) ?_
    rotate_left 1
    · intro w hSw; (try dsimp only at hSw); go_simp; all_goals with_reducible rfl
    try simp only [Act.put, List.setIfInBounds_toArray, List.set_cons_zero, List.set_cons_succ]
    refine takeO 4 (some 9) (v := ?_) rfl rfl (by kernel_rfl) (by kernel_rfl) (by kernel_rfl) (fun _ _ _ h => h) (Or.inl ⟨by rfl, ?_⟩) (by assumption) ?_
    rotate_left 1
    · intro w hSw; (try dsimp only at hSw); go_simp; all_goals with_reducible rfl
    try simp only [Act.put, List.setIfInBounds_toArray, List.set_cons_zero, List.set_cons_succ]
    refine takeO 5 (some 10) (v := ?_) rfl rfl (by kernel_rfl) (by kernel_rfl) (by kernel_rfl) (fun _ _ _ h => h) (Or.inl ⟨by rfl, ?_⟩) (by assumption) ?_
    rotate_left 1
    · intro w hSw; (try dsimp only at hSw); go_simp; all_goals with_reducible rfl
    try simp only [Act.put, List.setIfInBounds_toArray, List.set_cons_zero, List.set_cons_succ]
    refine takeO 6 (some 11) (v := ?_) rfl rfl (by kernel_rfl) (by kernel_rfl) (by kernel_rfl) (fun _ _ _ h => h) (Or.inl ⟨by rfl, ?_⟩) (by assumption) ?_
    rotate_left 1
    · intro w hSw; (try dsimp only at hSw); go_simp; all_goals with_reducible rfl
    try simp only [Act.put, List.setIfInBounds_toArray, List.set_cons_zero, List.set_cons_succ]
    refine takeO 7 (some 12) (v := ?_) rfl rfl (by kernel_rfl) (by kernel_rfl) (by kernel_rfl) (fun _ _ _ h => h) (Or.inl ⟨by rfl, ?_⟩) (by assumption) ?_
    rotate_left 1
    · intro w hSw; (try dsimp only at hSw); go_simp; all_goals with_reducible rfl
    try simp only [Act.put, List.setIfInBounds_toArray, List.set_cons_zero, List.set_cons_succ]
    refine takeO 8 (some 13) (v := ?_) rfl rfl (by kernel_rfl) (by kernel_rfl) (by kernel_rfl) (fun _ _ _ h => h) (Or.inl ⟨by rfl, ?_⟩) (by assumption) ?_
    rotate_left 1
    · intro w hSw; (try dsimp only at hSw); go_simp; all_goals with_reducible rfl
    try simp only [Act.put, List.setIfInBounds_toArray, List.set_cons_zero, List.set_cons_succ]
    refine takeO 9 (some 14) (v := ?_) rfl rfl (by kernel_rfl) (by kernel_rfl) (by kernel_rfl) (fun _ _ _ h => h) (Or.inl ⟨by rfl, ?_⟩) (by assumption) ?_
    rotate_left 1
    · intro w hSw; (try dsimp only at hSw); go_simp; all_goals with_reducible rfl
    try simp only [Act.put, List.setIfInBounds_toArray, List.set_cons_zero, List.set_cons_succ]
    refine wpAnyH_ready (rs := [10]) (by kernel_rfl) (by simp) ?_
    refine AllReadyH.cons rfl (fun K hK => ?_) AllReadyH.nil
    go_simp
    go_at_call 17; (with_reducible refine (HT.out _ (HRW.out _ HGB.out)).mono ?_); rintro e u ⟨a1, ca1, rfl, hown, hb⟩; have HSN := Lib.hid (HGB.out.trans (hb.mono HGB.out.size)); clear HGB; have HGB := HSN; clear HSN; clear hb; clear hown
    go_wp2_with fail
    refine hK.out _ _ (by exact ⟨(Blk.below HK.out HGB.out (Blk.lt HK.out)).cell 0, (Blk.below HK.out HGB.out (Blk.lt HK.out)).cell 1, (Blk.below HK.out HGB.out (Blk.lt HK.out)).cell 2, (Blk.below HK.out HGB.out (Blk.lt HK.out)).cell 3, (Blk.below HK.out HGB.out (Blk.lt HK.out)).cell 4, (Blk.below HK.out HGB.out (Blk.lt HK.out)).cell 5, (Blk.below HK.out HGB.out (Blk.lt HK.out)).cell 6⟩) (fun hHeld => ?_)
    clear hK K
    try simp only [Act.put, List.setIfInBounds_toArray, List.set_cons_zero, List.set_cons_succ]
    refine takeO 11 (some 16) (v := ?_) rfl rfl (by kernel_rfl) (by kernel_rfl) (by kernel_rfl) (fun _ _ _ h => h) (Or.inl ⟨by rfl, ?_⟩) (by assumption) ?_
    rotate_left 1
    · intro w hSw; (try dsimp only at hSw); go_simp; all_goals with_reducible rfl
    try simp only [Act.put, List.setIfInBounds_toArray, List.set_cons_zero, List.set_cons_succ]
    refine takeO 12 (some 17) (v := ?_) rfl rfl (by kernel_rfl) (by kernel_rfl) (by kernel_rfl) (fun _ _ _ h => h) (Or.inl ⟨by rfl, ?_⟩) (by assumption) ?_
    rotate_left 1
    · intro w hSw; (try dsimp only at hSw); go_simp; all_goals with_reducible rfl
    try simp only [Act.put, List.setIfInBounds_toArray, List.set_cons_zero, List.set_cons_succ]
    refine takeO 13 (some 18) (v := ?_) rfl rfl (by kernel_rfl) (by kernel_rfl) (by kernel_rfl) (fun _ _ _ h => h) (Or.inl ⟨by rfl, ?_⟩) (by assumption) ?_
    rotate_left 1
    · intro w hSw; (try dsimp only at hSw); go_simp; all_goals with_reducible rfl
    try simp only [Act.put, List.setIfInBounds_toArray, List.set_cons_zero, List.set_cons_succ]
    refine takeO 14 (some 4) (v := ?_) rfl rfl (by kernel_rfl) (by kernel_rfl) (by kernel_rfl) (fun _ _ _ h => h) (Or.inl ⟨by rfl, ?_⟩) (by assumption) ?_
    rotate_left 1
    · intro w hSw; (try dsimp only at hSw); go_simp; all_goals with_reducible rfl
    try simp only [Act.put, List.setIfInBounds_toArray, List.set_cons_zero, List.set_cons_succ]
    refine wpAnyH_done (by kernel_rfl) ?_ _
    have HB6 := Lib.hid (HBE.out.trans (HGB.out.mono HBE.out.size))
    go_wp2_with fail
    go_ret
    exact ⟨rfl, HB6.out⟩

set_option maxRecDepth 100000 in
set_option maxHeartbeats 4000000 in
theorem cright_any (w : World) (ao : Option Addr) (n c : Nat) (words : List ByteArray) (id : Int) (q : ByteArray) (k m : Int) (b : Option Addr) (bc : Nat) (its : List KeyL) (d cc : Bool) (h : RdT w ao n c words) (hn : words.length ≤ 1000) (hw : ∀ x ∈ words, x.size ≤ 1000) (hs : q.size ≤ 1000) (hi : RdE KeyL.cells 2 w b its.length bc its) :
    Calls Try.prog 40 #[.slice ao n c, .agg #[.int .i64 id, .string q, .int .i64 k, .int .i64 m, .slice b its.length bc, .bool d, .bool cc]] w fun e w' => e = .returned (.bool (rightT its (topL words q k m) d cc)) ∧ Below w.heap.size w w' := by
  have HP := Lib.hid (fun W h h2 => cprefix_any W ao n c words id q k m b bc its d cc h hn hw hs h2)
  have HC := Lib.hid (fun W h h2 => ccomplete_any W ao n c words id q k m b bc its d cc h hn hw hs h2)
  have hrl : rightT its (topL words q k m) d cc = (begI its (topL words q k m) && (!d || compT its (topL words q k m) && !cc)) := rfl
  generalize rightT its (topL words q k m) d cc = R at *
  generalize begI its (topL words q k m) = x at *
  generalize compT its (topL words q k m) = y at *
  have HRL := Lib.hid hrl
  clear hrl
  have HR := Lib.hid h
  have HI := Lib.hid hi
  have HBE := Lib.hid ((Below.refl _ w).alloc (Nat.le_refl _) (.cells #[.int .i64 id, .string q, .int .i64 k, .int .i64 m, .slice b its.length bc, .bool d, .bool cc] 46))
  have HK := Lib.hid (show Blk (w.alloc (.cells #[.int .i64 id, .string q, .int .i64 k, .int .i64 m, .slice b its.length bc, .bool d, .bool cc] 46)) w.heap.size 46 [.int .i64 id, .string q, .int .i64 k, .int .i64 m, .slice b its.length bc, .bool d, .bool cc] from heap_alloc_new w _)
  clear h hi hn hw hs
  obtain ⟨W, hW⟩ : ∃ W, w.alloc (.cells #[.int .i64 id, .string q, .int .i64 k, .int .i64 m, .slice b its.length bc, .bool d, .bool cc] 46) = W := ⟨_, rfl⟩
  rw [hW] at HBE HK
  have t0 : W.cell? ⟨w.heap.size, 0, none⟩ = some (.int .i64 id) := HK.out.cell 0
  have t1 : W.cell? ⟨w.heap.size, 1, none⟩ = some (.string q) := HK.out.cell 1
  have t2 : W.cell? ⟨w.heap.size, 2, none⟩ = some (.int .i64 k) := HK.out.cell 2
  have t3 : W.cell? ⟨w.heap.size, 3, none⟩ = some (.int .i64 m) := HK.out.cell 3
  have t4 : W.cell? ⟨w.heap.size, 4, none⟩ = some (.slice b its.length bc) := HK.out.cell 4
  have t5 : W.cell? ⟨w.heap.size, 5, none⟩ = some (.bool d) := HK.out.cell 5
  have t6 : W.cell? ⟨w.heap.size, 6, none⟩ = some (.bool cc) := HK.out.cell 6
  go_enter Try.func40, Try.ntmps40
  go_wp2_with (rw [hW])
  clear hW
  refine (HP.out _ (Rd.below HR.out HBE.out rfl) (HI.out.below HBE.out rfl)).mono ?_
  rintro e W1 ⟨rfl, hb⟩
  have HB1 := Lib.hid (HBE.out.trans (hb.mono HBE.out.size))
  have HK1 := Lib.hid (HK.out.below hb (Blk.lt HK.out))
  clear hb t0 t1 t2 t3 t4 t5 t6 HBE HK
  have t0 : W1.cell? ⟨w.heap.size, 0, none⟩ = some (.int .i64 id) := HK1.out.cell 0
  have t1 : W1.cell? ⟨w.heap.size, 1, none⟩ = some (.string q) := HK1.out.cell 1
  have t2 : W1.cell? ⟨w.heap.size, 2, none⟩ = some (.int .i64 k) := HK1.out.cell 2
  have t3 : W1.cell? ⟨w.heap.size, 3, none⟩ = some (.int .i64 m) := HK1.out.cell 3
  have t4 : W1.cell? ⟨w.heap.size, 4, none⟩ = some (.slice b its.length bc) := HK1.out.cell 4
  have t5 : W1.cell? ⟨w.heap.size, 5, none⟩ = some (.bool _) := HK1.out.cell 5
  have t6 : W1.cell? ⟨w.heap.size, 6, none⟩ = some (.bool _) := HK1.out.cell 6
  cases x
  · obtain rfl : R = false := by rw [HRL.out]; rfl
    go_wp2_with fail
    go_ret
    exact ⟨rfl, HB1.out⟩
  · cases d
    · obtain rfl : R = true := by rw [HRL.out]; rfl
      go_wp2_with fail
      go_ret
      exact ⟨rfl, HB1.out⟩
    · go_wp2_with fail
      refine (HC.out _ (Rd.below HR.out HB1.out rfl) (HI.out.below HB1.out rfl)).mono ?_
      rintro e W2 ⟨rfl, hb⟩
      have HB2 := Lib.hid (HB1.out.trans (hb.mono HB1.out.size))
      have HK2 := Lib.hid (HK1.out.below hb (Blk.lt HK1.out))
      clear hb t0 t1 t2 t3 t4 t5 t6 HB1 HK1
      have t0 : W2.cell? ⟨w.heap.size, 0, none⟩ = some (.int .i64 id) := HK2.out.cell 0
      have t1 : W2.cell? ⟨w.heap.size, 1, none⟩ = some (.string q) := HK2.out.cell 1
      have t2 : W2.cell? ⟨w.heap.size, 2, none⟩ = some (.int .i64 k) := HK2.out.cell 2
      have t3 : W2.cell? ⟨w.heap.size, 3, none⟩ = some (.int .i64 m) := HK2.out.cell 3
      have t4 : W2.cell? ⟨w.heap.size, 4, none⟩ = some (.slice b its.length bc) := HK2.out.cell 4
      have t5 : W2.cell? ⟨w.heap.size, 5, none⟩ = some (.bool _) := HK2.out.cell 5
      have t6 : W2.cell? ⟨w.heap.size, 6, none⟩ = some (.bool _) := HK2.out.cell 6
      cases y
      · obtain rfl : R = false := by rw [HRL.out]; rfl
        go_wp2_with fail
        go_ret
        exact ⟨rfl, HB2.out⟩
      · cases cc
        · obtain rfl : R = true := by rw [HRL.out]; rfl
          go_wp2_with fail
          go_ret
          exact ⟨rfl, HB2.out⟩
        · obtain rfl : R = false := by rw [HRL.out]; rfl
          go_wp2_with fail
          go_ret
          exact ⟨rfl, HB2.out⟩

set_option maxRecDepth 100000 in
set_option maxHeartbeats 8000000 in
theorem clater_any (w : World) (id : Int) (q : ByteArray) (k m : Int) (b : Option Addr) (bc : Nat) (its : List KeyL) (d cc : Bool) (id2 : Int) (q2 : ByteArray) (k2 m2 : Int) (b2 : Option Addr) (bc2 : Nat) (its2 : List KeyL) (d2 cc2 : Bool) (hi : RdE KeyL.cells 2 w b its.length bc its) (hi2 : RdE KeyL.cells 2 w b2 its2.length bc2 its2) :
    Calls Try.prog 42 #[.agg #[.int .i64 id, .string q, .int .i64 k, .int .i64 m, .slice b its.length bc, .bool d, .bool cc], .agg #[.int .i64 id2, .string q2, .int .i64 k2, .int .i64 m2, .slice b2 its2.length bc2, .bool d2, .bool cc2]] w fun e w' => e = .returned (.bool (laterT (decide (id = id2) && qEq q k m q2 k2 m2) (begI its its2) (decide (its.length = its2.length)) d cc d2 cc2)) ∧ Below w.heap.size w w' := by
  have HI := Lib.hid hi
  have HI2 := Lib.hid hi2
  have hl1 := Nat.le_trans hi.2.1 hi.2.2.1
  have hl2 := Nat.le_trans hi2.2.1 hi2.2.2.1
  unfold maxLen at hl1 hl2
  have e1 : ((its.length : Int) == (its2.length : Int)) = decide (its.length = its2.length) := by rw [Bool.eq_iff_iff]; simp; omega
  have eq1 := neqQ_run q k m q2 k2 m2
  have ei : (id != id2) = !decide (id = id2) := rfl
  have HBG := Lib.hid (fun W h1 h2 => begins_any b its.length bc its b2 its2.length bc2 its2 W h1 h2)
  clear hi hi2
  generalize qEq q k m q2 k2 m2 = y at *
  generalize begI its its2 = z at *
  generalize decide (id = id2) = x at *
  generalize decide (its.length = its2.length) = v at *
  obtain ⟨R, hR⟩ : ∃ R, laterT (x && y) z v d cc d2 cc2 = R := ⟨_, rfl⟩
  rw [hR]
  have HRL := Lib.hid hR.symm
  clear hR
  have HB := Lib.hid ((Below.refl _ w).alloc (Nat.le_refl _) (.cells #[.int .i64 id, .string q, .int .i64 k, .int .i64 m, .slice b its.length bc, .bool d, .bool cc] 46))
  have HK := Lib.hid (show Blk (w.alloc (.cells #[.int .i64 id, .string q, .int .i64 k, .int .i64 m, .slice b its.length bc, .bool d, .bool cc] 46)) w.heap.size 46 [.int .i64 id, .string q, .int .i64 k, .int .i64 m, .slice b its.length bc, .bool d, .bool cc] from heap_alloc_new w _)
  obtain ⟨W, hW⟩ : ∃ W, w.alloc (.cells #[.int .i64 id, .string q, .int .i64 k, .int .i64 m, .slice b its.length bc, .bool d, .bool cc] 46) = W := ⟨_, rfl⟩
  rw [hW] at HB HK
  have HB1 := Lib.hid (HB.out.alloc HB.out.size (.cells #[.int .i64 id2, .string q2, .int .i64 k2, .int .i64 m2, .slice b2 its2.length bc2, .bool d2, .bool cc2] 46))
  have HK1 := Lib.hid (HK.out.below ((Below.refl _ W).alloc (Nat.le_refl _) (.cells #[.int .i64 id2, .string q2, .int .i64 k2, .int .i64 m2, .slice b2 its2.length bc2, .bool d2, .bool cc2] 46)) (Blk.lt HK.out))
  have HK2 := Lib.hid (show Blk (W.alloc (.cells #[.int .i64 id2, .string q2, .int .i64 k2, .int .i64 m2, .slice b2 its2.length bc2, .bool d2, .bool cc2] 46)) W.heap.size 46 [.int .i64 id2, .string q2, .int .i64 k2, .int .i64 m2, .slice b2 its2.length bc2, .bool d2, .bool cc2] from heap_alloc_new W _)
  obtain ⟨W1, hW1⟩ : ∃ V, W.alloc (.cells #[.int .i64 id2, .string q2, .int .i64 k2, .int .i64 m2, .slice b2 its2.length bc2, .bool d2, .bool cc2] 46) = V := ⟨_, rfl⟩
  rw [hW1] at HB1 HK1 HK2
  clear HB HK
  have t0 : W1.cell? ⟨w.heap.size, 0, none⟩ = some (.int .i64 id) := HK1.out.cell 0
  have t1 : W1.cell? ⟨w.heap.size, 1, none⟩ = some (.string q) := HK1.out.cell 1
  have t2 : W1.cell? ⟨w.heap.size, 2, none⟩ = some (.int .i64 k) := HK1.out.cell 2
  have t3 : W1.cell? ⟨w.heap.size, 3, none⟩ = some (.int .i64 m) := HK1.out.cell 3
  have t4 : W1.cell? ⟨w.heap.size, 4, none⟩ = some (.slice b its.length bc) := HK1.out.cell 4
  have t5 : W1.cell? ⟨w.heap.size, 5, none⟩ = some (.bool d) := HK1.out.cell 5
  have t6 : W1.cell? ⟨w.heap.size, 6, none⟩ = some (.bool cc) := HK1.out.cell 6
  have s0 : W1.cell? ⟨W.heap.size, 0, none⟩ = some (.int .i64 id2) := HK2.out.cell 0
  have s1 : W1.cell? ⟨W.heap.size, 1, none⟩ = some (.string q2) := HK2.out.cell 1
  have s2 : W1.cell? ⟨W.heap.size, 2, none⟩ = some (.int .i64 k2) := HK2.out.cell 2
  have s3 : W1.cell? ⟨W.heap.size, 3, none⟩ = some (.int .i64 m2) := HK2.out.cell 3
  have s4 : W1.cell? ⟨W.heap.size, 4, none⟩ = some (.slice b2 its2.length bc2) := HK2.out.cell 4
  have s5 : W1.cell? ⟨W.heap.size, 5, none⟩ = some (.bool d2) := HK2.out.cell 5
  have s6 : W1.cell? ⟨W.heap.size, 6, none⟩ = some (.bool cc2) := HK2.out.cell 6
  cases x
  · obtain rfl : R = false := by rw [HRL.out]; rfl
    go_enter Try.func42, Try.ntmps42
    go_wp2_with (first | rw [hW] | rw [hW1])
    go_ret
    exact ⟨rfl, HB1.out⟩
  cases y
  · obtain rfl : R = false := by rw [HRL.out]; rfl
    go_enter Try.func42, Try.ntmps42
    go_wp2_with (first | rw [hW] | rw [hW1])
    go_ret
    exact ⟨rfl, HB1.out⟩
  go_enter Try.func42, Try.ntmps42
  go_wp2_with (first | rw [hW] | rw [hW1])
  clear hW hW1
  refine (HBG.out _ (HI.out.below HB1.out rfl) (HI2.out.below HB1.out rfl)).mono ?_
  rintro e W2 ⟨rfl, hb⟩
  have HB2 := Lib.hid (HB1.out.trans (hb.mono HB1.out.size))
  have HK3 := Lib.hid (HK1.out.below hb (Blk.lt HK1.out))
  have HK4 := Lib.hid (HK2.out.below hb (Blk.lt HK2.out))
  clear t0 s0 t1 s1 t2 s2 t3 s3 t4 s4 t5 s5 t6 s6
  clear hb HB1 HK1 HK2
  have t0 : W2.cell? ⟨w.heap.size, 0, none⟩ = some (.int .i64 id) := HK3.out.cell 0
  have t1 : W2.cell? ⟨w.heap.size, 1, none⟩ = some (.string q) := HK3.out.cell 1
  have t2 : W2.cell? ⟨w.heap.size, 2, none⟩ = some (.int .i64 k) := HK3.out.cell 2
  have t3 : W2.cell? ⟨w.heap.size, 3, none⟩ = some (.int .i64 m) := HK3.out.cell 3
  have t4 : W2.cell? ⟨w.heap.size, 4, none⟩ = some (.slice b its.length bc) := HK3.out.cell 4
  have t5 : W2.cell? ⟨w.heap.size, 5, none⟩ = some (.bool d) := HK3.out.cell 5
  have t6 : W2.cell? ⟨w.heap.size, 6, none⟩ = some (.bool cc) := HK3.out.cell 6
  have s0 : W2.cell? ⟨W.heap.size, 0, none⟩ = some (.int .i64 id2) := HK4.out.cell 0
  have s1 : W2.cell? ⟨W.heap.size, 1, none⟩ = some (.string q2) := HK4.out.cell 1
  have s2 : W2.cell? ⟨W.heap.size, 2, none⟩ = some (.int .i64 k2) := HK4.out.cell 2
  have s3 : W2.cell? ⟨W.heap.size, 3, none⟩ = some (.int .i64 m2) := HK4.out.cell 3
  have s4 : W2.cell? ⟨W.heap.size, 4, none⟩ = some (.slice b2 its2.length bc2) := HK4.out.cell 4
  have s5 : W2.cell? ⟨W.heap.size, 5, none⟩ = some (.bool d2) := HK4.out.cell 5
  have s6 : W2.cell? ⟨W.heap.size, 6, none⟩ = some (.bool cc2) := HK4.out.cell 6
  cases z
  · obtain rfl : R = false := by rw [HRL.out]; rfl
    go_wp2_with fail
    go_ret
    exact ⟨rfl, HB2.out⟩
  cases d <;> cases cc
  · obtain rfl : R = true := by rw [HRL.out]; rfl
    go_wp2_with fail
    go_ret
    exact ⟨rfl, HB2.out⟩
  all_goals
    cases v <;> cases d2 <;> cases cc2
    all_goals
      go_wp2_with fail
      go_ret
      exact ⟨congrArg (fun r => Ending.returned (.bool r)) (by rw [HRL.out]; rfl), HB2.out⟩

set_option maxRecDepth 100000 in
set_option maxHeartbeats 4000000 in
theorem rprefix_any (w : World) (ao : Option Addr) (n c : Nat) (words : List ByteArray) (id : Int) (q : ByteArray) (k m : Int) (b : Option Addr) (bc : Nat) (its : List KeyL) (d cc : Bool) (h : RdT w ao n c words) (hn : words.length ≤ 1000) (hw : ∀ x ∈ words, x.size ≤ 1000) (hs : q.size ≤ 1000) (hi : RdE KeyL.cells 2 w b its.length bc its) :
    Calls Try.prog 37 #[.slice ao n c, .agg #[.int .i64 id, .string q, .int .i64 k, .int .i64 m, .slice b its.length bc, .bool d, .bool cc]] w fun e w' => e = .returned (.bool (begI its (topL words q k m))) ∧ Below w.heap.size w w' := by
  have HT := Lib.hid (fun W h => rrtop_any W ao n c words q k m h hn hw hs)
  have htl := Nat.le_trans (topL_len words q k m) hn
  generalize topL words q k m = tl at *
  have HR := Lib.hid h
  have HI := Lib.hid hi
  have HBE := Lib.hid ((Below.refl _ w).alloc (Nat.le_refl _) (.cells #[.int .i64 id, .string q, .int .i64 k, .int .i64 m, .slice b its.length bc, .bool d, .bool cc] 46))
  have HK := Lib.hid (show Blk (w.alloc (.cells #[.int .i64 id, .string q, .int .i64 k, .int .i64 m, .slice b its.length bc, .bool d, .bool cc] 46)) w.heap.size 46 [.int .i64 id, .string q, .int .i64 k, .int .i64 m, .slice b its.length bc, .bool d, .bool cc] from heap_alloc_new w _)
  clear h hi hn hw hs
  go_enter Try.func37, Try.ntmps37
  go_wp2_with fail
  generalize w.alloc (.cells #[.int .i64 id, .string q, .int .i64 k, .int .i64 m, .slice b its.length bc, .bool d, .bool cc] 46) = W at *
  have HGB : RowKit.Hid (Below W.heap.size W W.drew) := below_drewN (Below.refl _ _) 1
  have HRW := Lib.hid (fun V (h : Below W.heap.size W V) => show RdT V ao n c words from Rd.below (Rd.below HR.out HBE.out rfl) h rfl)
  have HIW := Lib.hid (fun V (h : Below W.heap.size W V) => (HI.out.below HBE.out rfl).below h rfl)
  go_region_held3 (fun w' => w'.cell? ⟨w.heap.size, 0, none⟩ = some (.int .i64 id) ∧ w'.cell? ⟨w.heap.size, 1, none⟩ = some (.string q) ∧ w'.cell? ⟨w.heap.size, 2, none⟩ = some (.int .i64 k) ∧ w'.cell? ⟨w.heap.size, 3, none⟩ = some (.int .i64 m) ∧ w'.cell? ⟨w.heap.size, 4, none⟩ = some (.slice b its.length bc) ∧ w'.cell? ⟨w.heap.size, 5, none⟩ = some (.bool d) ∧ w'.cell? ⟨w.heap.size, 6, none⟩ = some (.bool cc)) (exact ⟨(Blk.below HK.out HGB.out (Blk.lt HK.out)).cell 0, (Blk.below HK.out HGB.out (Blk.lt HK.out)).cell 1, (Blk.below HK.out HGB.out (Blk.lt HK.out)).cell 2, (Blk.below HK.out HGB.out (Blk.lt HK.out)).cell 3, (Blk.below HK.out HGB.out (Blk.lt HK.out)).cell 4, (Blk.below HK.out HGB.out (Blk.lt HK.out)).cell 5, (Blk.below HK.out HGB.out (Blk.lt HK.out)).cell 6⟩) (first | (go_at_call 22; (with_reducible refine (HT.out _ (HRW.out _ HGB.out)).mono ?_); rintro e u ⟨a1, ca1, rfl, hown, hb⟩; have HX1 := Lib.hid (ownsRow_rdE (enc := KeyL.cells) (fun _ => rfl) rfl hown); have HSN := Lib.hid (HGB.out.trans (hb.mono HGB.out.size)); clear HGB; have HGB := HSN; clear HSN; clear hb; clear hown) | (go_at_call 60; (with_reducible refine (rbegins_any b _ bc its a1 _ ca1 tl _ (HIW.out _ HGB.out) HX1.out).mono ?_); rintro e u ⟨rfl, hb⟩; have HSN := Lib.hid (HGB.out.trans (hb.mono HGB.out.size)); clear HGB; have HGB := HSN; clear HSN; clear hb; clear HX1))
  have HB6 := Lib.hid (HBE.out.trans (HGB.out.mono HBE.out.size))
  go_wp2_with fail
  go_ret
  exact ⟨rfl, HB6.out⟩

set_option maxRecDepth 100000 in
set_option maxHeartbeats 4000000 in
theorem rcomplete_any (w : World) (ao : Option Addr) (n c : Nat) (words : List ByteArray) (id : Int) (q : ByteArray) (k m : Int) (b : Option Addr) (bc : Nat) (its : List KeyL) (d cc : Bool) (h : RdT w ao n c words) (hn : words.length ≤ 1000) (hw : ∀ x ∈ words, x.size ≤ 1000) (hs : q.size ≤ 1000) (hi : RdE KeyL.cells 2 w b its.length bc its) :
    Calls Try.prog 39 #[.slice ao n c, .agg #[.int .i64 id, .string q, .int .i64 k, .int .i64 m, .slice b its.length bc, .bool d, .bool cc]] w fun e w' => e = .returned (.bool (compT its (topL words q k m))) ∧ Below w.heap.size w w' := by
  have HT := Lib.hid (fun W h => rrtop_any W ao n c words q k m h hn hw hs)
  have htl := Nat.le_trans (topL_len words q k m) hn
  generalize topL words q k m = tl at *
  have HBG := Lib.hid (fun a ca W h1 h2 => rbegins_any b its.length bc its a tl.length ca tl W h1 h2)
  have hcl : compT its tl = (begI its tl && decide (its.length = tl.length)) := rfl
  generalize compT its tl = R at *
  generalize begI its tl = x at *
  have HCL := Lib.hid hcl
  clear hcl
  have htm := Nat.le_trans hi.2.1 hi.2.2.1
  unfold maxLen at htm
  have e1 : ((its.length : Int) == (tl.length : Int)) = decide (its.length = tl.length) := by rw [Bool.eq_iff_iff]; simp; omega
  have HR := Lib.hid h
  have HI := Lib.hid hi
  have HBE := Lib.hid ((Below.refl _ w).alloc (Nat.le_refl _) (.cells #[.int .i64 id, .string q, .int .i64 k, .int .i64 m, .slice b its.length bc, .bool d, .bool cc] 46))
  have HK := Lib.hid (show Blk (w.alloc (.cells #[.int .i64 id, .string q, .int .i64 k, .int .i64 m, .slice b its.length bc, .bool d, .bool cc] 46)) w.heap.size 46 [.int .i64 id, .string q, .int .i64 k, .int .i64 m, .slice b its.length bc, .bool d, .bool cc] from heap_alloc_new w _)
  clear h hi hn hw hs
  go_enter Try.func39, Try.ntmps39
  go_wp2_with fail
  generalize w.alloc (.cells #[.int .i64 id, .string q, .int .i64 k, .int .i64 m, .slice b its.length bc, .bool d, .bool cc] 46) = W at *
  refine (HT.out _ (Rd.below HR.out HBE.out rfl)).mono ?_
  rintro e W1 ⟨a1, ca1, rfl, hown, hb⟩
  have HX1 := Lib.hid (ownsRow_rdE (enc := KeyL.cells) (fun _ => rfl) rfl hown)
  have HB1 := Lib.hid (HBE.out.trans (hb.mono HBE.out.size))
  have HK1 := Lib.hid (HK.out.below hb (Blk.lt HK.out))
  have HI1 := Lib.hid (HI.out.below HB1.out rfl)
  clear hown hb HBE HK
  have t0 : W1.cell? ⟨w.heap.size, 0, none⟩ = some (.int .i64 id) := HK1.out.cell 0
  have t1 : W1.cell? ⟨w.heap.size, 1, none⟩ = some (.string q) := HK1.out.cell 1
  have t2 : W1.cell? ⟨w.heap.size, 2, none⟩ = some (.int .i64 k) := HK1.out.cell 2
  have t3 : W1.cell? ⟨w.heap.size, 3, none⟩ = some (.int .i64 m) := HK1.out.cell 3
  have t4 : W1.cell? ⟨w.heap.size, 4, none⟩ = some (.slice b its.length bc) := HK1.out.cell 4
  have t5 : W1.cell? ⟨w.heap.size, 5, none⟩ = some (.bool d) := HK1.out.cell 5
  have t6 : W1.cell? ⟨w.heap.size, 6, none⟩ = some (.bool cc) := HK1.out.cell 6
  go_wp2_with fail
  refine (HBG.out _ _ _ HI1.out HX1.out).mono ?_
  rintro e W2 ⟨rfl, hb⟩
  have HB2 := Lib.hid (HB1.out.trans (hb.mono HB1.out.size))
  have HK2 := Lib.hid (HK1.out.below hb (Blk.lt HK1.out))
  clear hb HB1 HK1
  clear t0 t1 t2 t3 t4 t5 t6
  have t0 : W2.cell? ⟨w.heap.size, 0, none⟩ = some (.int .i64 id) := HK2.out.cell 0
  have t1 : W2.cell? ⟨w.heap.size, 1, none⟩ = some (.string q) := HK2.out.cell 1
  have t2 : W2.cell? ⟨w.heap.size, 2, none⟩ = some (.int .i64 k) := HK2.out.cell 2
  have t3 : W2.cell? ⟨w.heap.size, 3, none⟩ = some (.int .i64 m) := HK2.out.cell 3
  have t4 : W2.cell? ⟨w.heap.size, 4, none⟩ = some (.slice b its.length bc) := HK2.out.cell 4
  have t5 : W2.cell? ⟨w.heap.size, 5, none⟩ = some (.bool d) := HK2.out.cell 5
  have t6 : W2.cell? ⟨w.heap.size, 6, none⟩ = some (.bool cc) := HK2.out.cell 6
  cases x
  · obtain rfl : R = false := by rw [HCL.out]; rfl
    go_wp2_with fail
    go_ret
    exact ⟨rfl, HB2.out⟩
  · replace e1 : ((its.length : Int) == (tl.length : Int)) = R := by rw [e1, HCL.out]; rfl
    go_wp2_with fail
    go_ret
    exact ⟨rfl, HB2.out⟩

set_option maxRecDepth 100000 in
set_option maxHeartbeats 4000000 in
theorem rright_any (w : World) (ao : Option Addr) (n c : Nat) (words : List ByteArray) (id : Int) (q : ByteArray) (k m : Int) (b : Option Addr) (bc : Nat) (its : List KeyL) (d cc : Bool) (h : RdT w ao n c words) (hn : words.length ≤ 1000) (hw : ∀ x ∈ words, x.size ≤ 1000) (hs : q.size ≤ 1000) (hi : RdE KeyL.cells 2 w b its.length bc its) :
    Calls Try.prog 41 #[.slice ao n c, .agg #[.int .i64 id, .string q, .int .i64 k, .int .i64 m, .slice b its.length bc, .bool d, .bool cc]] w fun e w' => e = .returned (.bool (rightT its (topL words q k m) d cc)) ∧ Below w.heap.size w w' := by
  have HP := Lib.hid (fun W h h2 => rprefix_any W ao n c words id q k m b bc its d cc h hn hw hs h2)
  have HC := Lib.hid (fun W h h2 => rcomplete_any W ao n c words id q k m b bc its d cc h hn hw hs h2)
  have hrl : rightT its (topL words q k m) d cc = (begI its (topL words q k m) && (!d || compT its (topL words q k m) && !cc)) := rfl
  generalize rightT its (topL words q k m) d cc = R at *
  generalize begI its (topL words q k m) = x at *
  generalize compT its (topL words q k m) = y at *
  have HRL := Lib.hid hrl
  clear hrl
  have HR := Lib.hid h
  have HI := Lib.hid hi
  have HBE := Lib.hid ((Below.refl _ w).alloc (Nat.le_refl _) (.cells #[.int .i64 id, .string q, .int .i64 k, .int .i64 m, .slice b its.length bc, .bool d, .bool cc] 46))
  have HK := Lib.hid (show Blk (w.alloc (.cells #[.int .i64 id, .string q, .int .i64 k, .int .i64 m, .slice b its.length bc, .bool d, .bool cc] 46)) w.heap.size 46 [.int .i64 id, .string q, .int .i64 k, .int .i64 m, .slice b its.length bc, .bool d, .bool cc] from heap_alloc_new w _)
  clear h hi hn hw hs
  obtain ⟨W, hW⟩ : ∃ W, w.alloc (.cells #[.int .i64 id, .string q, .int .i64 k, .int .i64 m, .slice b its.length bc, .bool d, .bool cc] 46) = W := ⟨_, rfl⟩
  rw [hW] at HBE HK
  have t0 : W.cell? ⟨w.heap.size, 0, none⟩ = some (.int .i64 id) := HK.out.cell 0
  have t1 : W.cell? ⟨w.heap.size, 1, none⟩ = some (.string q) := HK.out.cell 1
  have t2 : W.cell? ⟨w.heap.size, 2, none⟩ = some (.int .i64 k) := HK.out.cell 2
  have t3 : W.cell? ⟨w.heap.size, 3, none⟩ = some (.int .i64 m) := HK.out.cell 3
  have t4 : W.cell? ⟨w.heap.size, 4, none⟩ = some (.slice b its.length bc) := HK.out.cell 4
  have t5 : W.cell? ⟨w.heap.size, 5, none⟩ = some (.bool d) := HK.out.cell 5
  have t6 : W.cell? ⟨w.heap.size, 6, none⟩ = some (.bool cc) := HK.out.cell 6
  go_enter Try.func41, Try.ntmps41
  go_wp2_with (rw [hW])
  clear hW
  refine (HP.out _ (Rd.below HR.out HBE.out rfl) (HI.out.below HBE.out rfl)).mono ?_
  rintro e W1 ⟨rfl, hb⟩
  have HB1 := Lib.hid (HBE.out.trans (hb.mono HBE.out.size))
  have HK1 := Lib.hid (HK.out.below hb (Blk.lt HK.out))
  clear hb t0 t1 t2 t3 t4 t5 t6 HBE HK
  have t0 : W1.cell? ⟨w.heap.size, 0, none⟩ = some (.int .i64 id) := HK1.out.cell 0
  have t1 : W1.cell? ⟨w.heap.size, 1, none⟩ = some (.string q) := HK1.out.cell 1
  have t2 : W1.cell? ⟨w.heap.size, 2, none⟩ = some (.int .i64 k) := HK1.out.cell 2
  have t3 : W1.cell? ⟨w.heap.size, 3, none⟩ = some (.int .i64 m) := HK1.out.cell 3
  have t4 : W1.cell? ⟨w.heap.size, 4, none⟩ = some (.slice b its.length bc) := HK1.out.cell 4
  have t5 : W1.cell? ⟨w.heap.size, 5, none⟩ = some (.bool _) := HK1.out.cell 5
  have t6 : W1.cell? ⟨w.heap.size, 6, none⟩ = some (.bool _) := HK1.out.cell 6
  cases x
  · obtain rfl : R = false := by rw [HRL.out]; rfl
    go_wp2_with fail
    go_ret
    exact ⟨rfl, HB1.out⟩
  · cases d
    · obtain rfl : R = true := by rw [HRL.out]; rfl
      go_wp2_with fail
      go_ret
      exact ⟨rfl, HB1.out⟩
    · go_wp2_with fail
      refine (HC.out _ (Rd.below HR.out HB1.out rfl) (HI.out.below HB1.out rfl)).mono ?_
      rintro e W2 ⟨rfl, hb⟩
      have HB2 := Lib.hid (HB1.out.trans (hb.mono HB1.out.size))
      have HK2 := Lib.hid (HK1.out.below hb (Blk.lt HK1.out))
      clear hb t0 t1 t2 t3 t4 t5 t6 HB1 HK1
      have t0 : W2.cell? ⟨w.heap.size, 0, none⟩ = some (.int .i64 id) := HK2.out.cell 0
      have t1 : W2.cell? ⟨w.heap.size, 1, none⟩ = some (.string q) := HK2.out.cell 1
      have t2 : W2.cell? ⟨w.heap.size, 2, none⟩ = some (.int .i64 k) := HK2.out.cell 2
      have t3 : W2.cell? ⟨w.heap.size, 3, none⟩ = some (.int .i64 m) := HK2.out.cell 3
      have t4 : W2.cell? ⟨w.heap.size, 4, none⟩ = some (.slice b its.length bc) := HK2.out.cell 4
      have t5 : W2.cell? ⟨w.heap.size, 5, none⟩ = some (.bool _) := HK2.out.cell 5
      have t6 : W2.cell? ⟨w.heap.size, 6, none⟩ = some (.bool _) := HK2.out.cell 6
      cases y
      · obtain rfl : R = false := by rw [HRL.out]; rfl
        go_wp2_with fail
        go_ret
        exact ⟨rfl, HB2.out⟩
      · cases cc
        · obtain rfl : R = true := by rw [HRL.out]; rfl
          go_wp2_with fail
          go_ret
          exact ⟨rfl, HB2.out⟩
        · obtain rfl : R = false := by rw [HRL.out]; rfl
          go_wp2_with fail
          go_ret
          exact ⟨rfl, HB2.out⟩

set_option maxRecDepth 100000 in
set_option maxHeartbeats 8000000 in
theorem rlater_any (w : World) (id : Int) (q : ByteArray) (k m : Int) (b : Option Addr) (bc : Nat) (its : List KeyL) (d cc : Bool) (id2 : Int) (q2 : ByteArray) (k2 m2 : Int) (b2 : Option Addr) (bc2 : Nat) (its2 : List KeyL) (d2 cc2 : Bool) (hi : RdE KeyL.cells 2 w b its.length bc its) (hi2 : RdE KeyL.cells 2 w b2 its2.length bc2 its2) :
    Calls Try.prog 43 #[.agg #[.int .i64 id, .string q, .int .i64 k, .int .i64 m, .slice b its.length bc, .bool d, .bool cc], .agg #[.int .i64 id2, .string q2, .int .i64 k2, .int .i64 m2, .slice b2 its2.length bc2, .bool d2, .bool cc2]] w fun e w' => e = .returned (.bool (laterT (decide (id = id2) && qEq q k m q2 k2 m2) (begI its its2) (decide (its.length = its2.length)) d cc d2 cc2)) ∧ Below w.heap.size w w' := by
  have HI := Lib.hid hi
  have HI2 := Lib.hid hi2
  have hl1 := Nat.le_trans hi.2.1 hi.2.2.1
  have hl2 := Nat.le_trans hi2.2.1 hi2.2.2.1
  unfold maxLen at hl1 hl2
  have e1 : ((its.length : Int) == (its2.length : Int)) = decide (its.length = its2.length) := by rw [Bool.eq_iff_iff]; simp; omega
  have eq1 := neqQ_run q k m q2 k2 m2
  have ei : (id != id2) = !decide (id = id2) := rfl
  have HBG := Lib.hid (fun W h1 h2 => rbegins_any b its.length bc its b2 its2.length bc2 its2 W h1 h2)
  clear hi hi2
  generalize qEq q k m q2 k2 m2 = y at *
  generalize begI its its2 = z at *
  generalize decide (id = id2) = x at *
  generalize decide (its.length = its2.length) = v at *
  obtain ⟨R, hR⟩ : ∃ R, laterT (x && y) z v d cc d2 cc2 = R := ⟨_, rfl⟩
  rw [hR]
  have HRL := Lib.hid hR.symm
  clear hR
  have HB := Lib.hid ((Below.refl _ w).alloc (Nat.le_refl _) (.cells #[.int .i64 id, .string q, .int .i64 k, .int .i64 m, .slice b its.length bc, .bool d, .bool cc] 46))
  have HK := Lib.hid (show Blk (w.alloc (.cells #[.int .i64 id, .string q, .int .i64 k, .int .i64 m, .slice b its.length bc, .bool d, .bool cc] 46)) w.heap.size 46 [.int .i64 id, .string q, .int .i64 k, .int .i64 m, .slice b its.length bc, .bool d, .bool cc] from heap_alloc_new w _)
  obtain ⟨W, hW⟩ : ∃ W, w.alloc (.cells #[.int .i64 id, .string q, .int .i64 k, .int .i64 m, .slice b its.length bc, .bool d, .bool cc] 46) = W := ⟨_, rfl⟩
  rw [hW] at HB HK
  have HB1 := Lib.hid (HB.out.alloc HB.out.size (.cells #[.int .i64 id2, .string q2, .int .i64 k2, .int .i64 m2, .slice b2 its2.length bc2, .bool d2, .bool cc2] 46))
  have HK1 := Lib.hid (HK.out.below ((Below.refl _ W).alloc (Nat.le_refl _) (.cells #[.int .i64 id2, .string q2, .int .i64 k2, .int .i64 m2, .slice b2 its2.length bc2, .bool d2, .bool cc2] 46)) (Blk.lt HK.out))
  have HK2 := Lib.hid (show Blk (W.alloc (.cells #[.int .i64 id2, .string q2, .int .i64 k2, .int .i64 m2, .slice b2 its2.length bc2, .bool d2, .bool cc2] 46)) W.heap.size 46 [.int .i64 id2, .string q2, .int .i64 k2, .int .i64 m2, .slice b2 its2.length bc2, .bool d2, .bool cc2] from heap_alloc_new W _)
  obtain ⟨W1, hW1⟩ : ∃ V, W.alloc (.cells #[.int .i64 id2, .string q2, .int .i64 k2, .int .i64 m2, .slice b2 its2.length bc2, .bool d2, .bool cc2] 46) = V := ⟨_, rfl⟩
  rw [hW1] at HB1 HK1 HK2
  clear HB HK
  have t0 : W1.cell? ⟨w.heap.size, 0, none⟩ = some (.int .i64 id) := HK1.out.cell 0
  have t1 : W1.cell? ⟨w.heap.size, 1, none⟩ = some (.string q) := HK1.out.cell 1
  have t2 : W1.cell? ⟨w.heap.size, 2, none⟩ = some (.int .i64 k) := HK1.out.cell 2
  have t3 : W1.cell? ⟨w.heap.size, 3, none⟩ = some (.int .i64 m) := HK1.out.cell 3
  have t4 : W1.cell? ⟨w.heap.size, 4, none⟩ = some (.slice b its.length bc) := HK1.out.cell 4
  have t5 : W1.cell? ⟨w.heap.size, 5, none⟩ = some (.bool d) := HK1.out.cell 5
  have t6 : W1.cell? ⟨w.heap.size, 6, none⟩ = some (.bool cc) := HK1.out.cell 6
  have s0 : W1.cell? ⟨W.heap.size, 0, none⟩ = some (.int .i64 id2) := HK2.out.cell 0
  have s1 : W1.cell? ⟨W.heap.size, 1, none⟩ = some (.string q2) := HK2.out.cell 1
  have s2 : W1.cell? ⟨W.heap.size, 2, none⟩ = some (.int .i64 k2) := HK2.out.cell 2
  have s3 : W1.cell? ⟨W.heap.size, 3, none⟩ = some (.int .i64 m2) := HK2.out.cell 3
  have s4 : W1.cell? ⟨W.heap.size, 4, none⟩ = some (.slice b2 its2.length bc2) := HK2.out.cell 4
  have s5 : W1.cell? ⟨W.heap.size, 5, none⟩ = some (.bool d2) := HK2.out.cell 5
  have s6 : W1.cell? ⟨W.heap.size, 6, none⟩ = some (.bool cc2) := HK2.out.cell 6
  cases x
  · obtain rfl : R = false := by rw [HRL.out]; rfl
    go_enter Try.func43, Try.ntmps43
    go_wp2_with (first | rw [hW] | rw [hW1])
    go_ret
    exact ⟨rfl, HB1.out⟩
  cases y
  · obtain rfl : R = false := by rw [HRL.out]; rfl
    go_enter Try.func43, Try.ntmps43
    go_wp2_with (first | rw [hW] | rw [hW1])
    go_ret
    exact ⟨rfl, HB1.out⟩
  go_enter Try.func43, Try.ntmps43
  go_wp2_with (first | rw [hW] | rw [hW1])
  clear hW hW1
  refine (HBG.out _ (HI.out.below HB1.out rfl) (HI2.out.below HB1.out rfl)).mono ?_
  rintro e W2 ⟨rfl, hb⟩
  have HB2 := Lib.hid (HB1.out.trans (hb.mono HB1.out.size))
  have HK3 := Lib.hid (HK1.out.below hb (Blk.lt HK1.out))
  have HK4 := Lib.hid (HK2.out.below hb (Blk.lt HK2.out))
  clear t0 s0 t1 s1 t2 s2 t3 s3 t4 s4 t5 s5 t6 s6
  clear hb HB1 HK1 HK2
  have t0 : W2.cell? ⟨w.heap.size, 0, none⟩ = some (.int .i64 id) := HK3.out.cell 0
  have t1 : W2.cell? ⟨w.heap.size, 1, none⟩ = some (.string q) := HK3.out.cell 1
  have t2 : W2.cell? ⟨w.heap.size, 2, none⟩ = some (.int .i64 k) := HK3.out.cell 2
  have t3 : W2.cell? ⟨w.heap.size, 3, none⟩ = some (.int .i64 m) := HK3.out.cell 3
  have t4 : W2.cell? ⟨w.heap.size, 4, none⟩ = some (.slice b its.length bc) := HK3.out.cell 4
  have t5 : W2.cell? ⟨w.heap.size, 5, none⟩ = some (.bool d) := HK3.out.cell 5
  have t6 : W2.cell? ⟨w.heap.size, 6, none⟩ = some (.bool cc) := HK3.out.cell 6
  have s0 : W2.cell? ⟨W.heap.size, 0, none⟩ = some (.int .i64 id2) := HK4.out.cell 0
  have s1 : W2.cell? ⟨W.heap.size, 1, none⟩ = some (.string q2) := HK4.out.cell 1
  have s2 : W2.cell? ⟨W.heap.size, 2, none⟩ = some (.int .i64 k2) := HK4.out.cell 2
  have s3 : W2.cell? ⟨W.heap.size, 3, none⟩ = some (.int .i64 m2) := HK4.out.cell 3
  have s4 : W2.cell? ⟨W.heap.size, 4, none⟩ = some (.slice b2 its2.length bc2) := HK4.out.cell 4
  have s5 : W2.cell? ⟨W.heap.size, 5, none⟩ = some (.bool d2) := HK4.out.cell 5
  have s6 : W2.cell? ⟨W.heap.size, 6, none⟩ = some (.bool cc2) := HK4.out.cell 6
  cases z
  · obtain rfl : R = false := by rw [HRL.out]; rfl
    go_wp2_with fail
    go_ret
    exact ⟨rfl, HB2.out⟩
  cases d <;> cases cc
  · obtain rfl : R = true := by rw [HRL.out]; rfl
    go_wp2_with fail
    go_ret
    exact ⟨rfl, HB2.out⟩
  all_goals
    cases v <;> cases d2 <;> cases cc2
    all_goals
      go_wp2_with fail
      go_ret
      exact ⟨congrArg (fun r => Ending.returned (.bool r)) (by rw [HRL.out]; rfl), HB2.out⟩

end Go.Proofs.Ytiohngcmojkheaa
