/- The walks of Done, Told, Seq, After, Wants. -/
import Derived.Test.YtjacebnjmhbcbaaMg2
namespace Go.Proofs.Ytjacebnjmhbcbaa
open Go.RowKit
set_option linter.unusedVariables false

theorem any_two {B : Nat} {W : World} {to : Option Nat} {M : List MS} {S : List PS} (hl : M.length = S.length) (h : ∀ (i : Nat) (m : MS) (s : PS), M[i]? = some m → S[i]? = some s → ShOK B W to m s) (f : MS → Bool) (g : PS → Bool) (hfg : ∀ m s, ShOK B W to m s → f m = g s) : M.any f = S.any g := by
  induction M generalizing S with
  | nil => cases S with
    | nil => rfl
    | cons s S => simp at hl
  | cons m M ih => cases S with
    | nil => simp at hl
    | cons s S =>
      rw [List.any_cons, List.any_cons, hfg m s (h 0 m s rfl rfl), ih (by simpa using hl) (fun i m' s' h1 h2 => h (i + 1) m' s' (by simpa using h1) (by simpa using h2))]
theorem done_nil (w : World) : Calls Try.prog 30 #[.pointer none] w fun e w' => e = .returned (.bool false) ∧ w = w' := by
  go_enter Try.func30, Try.ntmps30
  go_wp2_with fail
  go_ret
  exact ⟨rfl, rfl⟩
theorem ptr_ne (p o : Nat) (W : World) : (binOp .eql 25 (.pointer (some ⟨p, o, none⟩)) (.pointer none)).run Try.prog W = .ok (.bool false) W := by kernel_rfl
set_option maxRecDepth 100000 in
set_option maxHeartbeats 1000000 in
theorem done_any (B p : Nat) (n : Int) (S : List PS) (T : List KeyL) (w : World) (h : MG B w p n S T) :
    Calls Try.prog 30 #[.pointer (some ⟨p, 0, none⟩)] w fun e w' => e = .returned (.bool (doneP n S T)) ∧ Below w.heap.size w w' := by
  have hbd := h.bd
  have HG := Lib.hid h
  obtain ⟨gs, c, M, ta, tc, c0, c1, c2, hml, hM, hok, hT, hp, hg, hSc⟩ := h.read
  have hany := any_two hml hok MS.open_ PS.open_ (fun m s h => h.open_)
  have hc := opn_any gs c M w hM hg (by omega)
  rw [show (fun m : MS => m.open_) = MS.open_ from rfl, hany, hml] at hc
  have HC := Lib.hid hc
  obtain ⟨R, hR⟩ : ∃ R, doneP n S T = R := ⟨_, rfl⟩
  have HR := Lib.hid hR
  rw [hR]
  unfold doneP at HR
  obtain ⟨A, hA⟩ : ∃ A, S.any PS.open_ = A := ⟨_, rfl⟩
  rw [hA] at HR HC
  clear hR hA hc hany hM hok hT h
  obtain ⟨k, hk⟩ : ∃ k, T.length = k := ⟨_, rfl⟩
  rw [hk] at HR c2 hbd
  clear hk
  have hq1 := fun W => ptr_ne p 0 W
  have HC0 := Lib.hid c0
  have HC2 := Lib.hid c2
  clear c0 c2
  go_enter Try.func30, Try.ntmps30
  go_wp2_with fail
  refine HC.out.mono ?_
  rintro e w1 ⟨rfl, hb⟩
  have c0 := (hb.cell (p := ⟨p, 0, none⟩) hp).trans HC0.out
  have c2 := (hb.cell (p := ⟨p, 2, none⟩) hp).trans HC2.out
  have HB := Lib.hid hb
  clear hb HC
  by_cases hkn : (k : Int) = n
  · have hr : R = true := by rw [← HR.out]; simp [hkn]
    subst hr
    have d1 : ((k : Int) == n) = true := by rw [beq_iff_eq]; exact hkn
    clear HR hkn
    go_wp2_with fail
    go_quiet (fail)
    go_wp2_with fail
    go_ret
    exact ⟨rfl, below_drewN HB.out _⟩
  · have hr : R = !A := by rw [← HR.out]; simp [hkn]
    subst hr
    have d1 : ((k : Int) == n) = false := by rw [beq_eq_false_iff_ne]; exact hkn
    clear HR hkn
    go_wp2_with fail
    go_quiet (fail)
    go_wp2_with fail
    go_ret
    exact ⟨rfl, below_drewN HB.out _⟩
theorem told_nil (w : World) : Calls Try.prog 17 #[.pointer none] w fun e w' => e = .returned (.slice none 0 0) ∧ w = w' := by
  go_enter Try.func17, Try.ntmps17
  go_wp2_with fail
  go_ret
  exact ⟨rfl, rfl⟩
theorem told_any (B p : Nat) (n : Int) (S : List PS) (T : List KeyL) (w : World) (h : MG B w p n S T) :
    Calls Try.prog 17 #[.pointer (some ⟨p, 0, none⟩)] w fun e w' => ∃ ao c', e = .returned (.slice ao T.length c') ∧ w'.ownsRow w.heap.size 31 2 (.slice ao T.length c') T.length (T.flatMap KeyL.cells) ∧ Below w.heap.size w w' := by
  have hbd := h.bd
  obtain ⟨gs, c, M, ta, tc, c0, c1, c2, hml, hM, hok, hT, hp, hg, hSc⟩ := h.read
  have HC := Lib.hid (cloneI_any w ta T.length tc T hT (by omega))
  clear hM hok hT h c0 c1 hml hbd
  generalize T.length = k at *
  have hq1 := fun W => ptr_ne p 0 W
  go_enter Try.func17, Try.ntmps17
  go_wp2_with fail
  refine HC.out.mono ?_
  rintro e w1 ⟨ao, c', rfl, ho, hb⟩
  have HO := Lib.hid ho
  have HB := Lib.hid hb
  clear ho hb HC
  go_wp2_with fail
  go_ret
  exact ⟨ao, c', rfl, HO.out, HB.out⟩
def atS (S : List PS) (i : Int) : Option PS := if i < 0 then none else S[i.toNat]?
def seqP (S : List PS) (i : Int) : Int := match atS S i with | some s => s.seq | none => 0
theorem seq_nil (i : Int) (w : World) : Calls Try.prog 15 #[.pointer none, .int .i64 i] w fun e w' => e = .returned (.int .i64 0) ∧ w = w' := by
  go_enter Try.func15, Try.ntmps15
  go_wp2_with fail
  refine (get_nil i _).mono ?_
  rintro e w' ⟨rfl, rfl⟩
  go_wp2_with fail
  go_ret
  exact ⟨rfl, rfl⟩
theorem atS_no {S : List PS} {i : Int} (h : i < 0 ∨ (S.length : Int) ≤ i) : atS S i = none := by
  unfold atS
  split
  · rfl
  · rw [List.getElem?_eq_none (by omega)]
theorem atS_yes {S : List PS} {k : Nat} : atS S (k : Int) = S[k]? := by unfold atS; rw [if_neg (by omega)]; rfl
theorem sptr_ne (p o : Nat) (W : World) : (binOp .neq 76 (.pointer (some ⟨p, o, none⟩)) (.pointer none)).run Try.prog W = .ok (.bool true) W := by kernel_rfl
theorem sptr_eq (p o : Nat) (W : World) : (binOp .eql 76 (.pointer (some ⟨p, o, none⟩)) (.pointer none)).run Try.prog W = .ok (.bool false) W := by kernel_rfl
theorem seq_any (B p : Nat) (n i : Int) (S : List PS) (T : List KeyL) (w : World) (h : MG B w p n S T) :
    Calls Try.prog 15 #[.pointer (some ⟨p, 0, none⟩), .int .i64 i] w fun e w' => e = .returned (.int .i64 (seqP S i)) ∧ w = w' := by
  obtain ⟨gs, c, M, ta, tc, c0, c1, c2, hml, hM, hok, hT, hp, hg, hSc⟩ := h.read
  by_cases hi : i < 0 ∨ (S.length : Int) ≤ i
  · unfold seqP
    rw [atS_no hi]
    clear hM hok hT h c0 c2 hml
    generalize S.length = k at *
    go_enter Try.func15, Try.ntmps15
    go_wp2_with fail
    refine (get_no p gs k c i _ c1 hi).mono ?_
    rintro e w' ⟨rfl, rfl⟩
    go_wp2_with fail
    go_ret
    exact ⟨rfl, rfl⟩
  · obtain ⟨k, rfl⟩ : ∃ k : Nat, i = k := ⟨i.toNat, by omega⟩
    have hk : k < S.length := by omega
    obtain ⟨s, hs⟩ : ∃ s, S[k]? = some s := ⟨_, List.getElem?_eq_getElem hk⟩
    obtain ⟨m, hm⟩ : ∃ m, M[k]? = some m := ⟨_, List.getElem?_eq_getElem (show k < M.length by omega)⟩
    obtain ⟨_, s1, _⟩ := (hM k _ hm).c2
    rw [(hok k _ _ hm hs).seq] at s1
    have e1 : seqP S (k : Int) = s.seq := by unfold seqP; rw [atS_yes, hs]
    rw [e1]
    clear hM hok hT h c0 c2 hml e1 hs hm hi
    generalize s.seq = v at *
    generalize S.length = n at *
    have hq := fun o W => sptr_ne gs o W
    go_enter Try.func15, Try.ntmps15
    go_wp2_with fail
    refine (get_yes p gs n c k _ c1 hk).mono ?_
    rintro e w' ⟨rfl, rfl⟩
    go_wp2_with fail
    go_ret
    exact ⟨rfl, rfl⟩
def afterP (S : List PS) (i : Int) : KeyL × Bool := match atS S i with | some s => (s.last, s.heard) | none => ((0, ⟨#[]⟩), false)
set_option maxRecDepth 100000 in
theorem after_nil (i : Int) (w : World) : Calls Try.prog 29 #[.pointer none, .int .i64 i] w fun e w' => e = .returned (.tuple #[.agg #[.int .i64 0, .string ⟨#[]⟩], .bool false]) ∧ Below w.heap.size w w' := by
  go_enter Try.func29, Try.ntmps29
  go_wp2_with fail
  refine (get_nil i _).mono ?_
  rintro e w' ⟨rfl, rfl⟩
  go_wp2_with fail
  exact bodyPost_ret (v := .tuple #[.agg #[.int .i64 0, .string ⟨#[]⟩], .bool false]) (by simp [results, Try.results29, go_sem]) rfl ⟨rfl, (Below.refl _ _).alloc (Nat.le_refl _) _⟩
set_option maxRecDepth 100000 in
set_option maxHeartbeats 1000000 in
theorem after_any (B p : Nat) (n i : Int) (S : List PS) (T : List KeyL) (w : World) (h : MG B w p n S T) :
    Calls Try.prog 29 #[.pointer (some ⟨p, 0, none⟩), .int .i64 i] w fun e w' => e = .returned (.tuple #[.agg #[.int .i64 (afterP S i).1.1, .string (afterP S i).1.2], .bool (afterP S i).2]) ∧ Below w.heap.size w w' := by
  have hb0 : Below w.heap.size w (w.alloc (.cells #[.int .i64 0, .string ⟨#[]⟩] 31)) := (Below.refl _ _).alloc (Nat.le_refl _) _
  obtain ⟨gs, c, M, ta, tc, c0, c1, c2, hml, hM, hok, hT, hp, hg, hSc⟩ := (h.below hb0).read
  have hg0 : gs < w.heap.size := by
    obtain ⟨gs', c', M', ta', tc', _, c1', _, _, _, _, _, hp', hg', _⟩ := h.read
    have e := (hb0.cell (p := ⟨p, 1, none⟩) hp').trans c1'
    rw [c1] at e
    simp only [Option.some.injEq, Value.slice.injEq, Addr.mk.injEq, and_true] at e
    rw [e.1]; exact hg'
  have HB0 := Lib.hid hb0
  clear hb0
  by_cases hi : i < 0 ∨ (S.length : Int) ≤ i
  · unfold afterP
    rw [atS_no hi]
    clear hM hok hT h c0 c2 hml
    generalize S.length = k at *
    go_enter Try.func29, Try.ntmps29
    go_wp2_with fail
    refine (get_no p gs k c i _ c1 hi).mono ?_
    rintro e w' ⟨rfl, rfl⟩
    go_wp2_with fail
    exact bodyPost_ret (v := .tuple #[.agg #[.int .i64 0, .string ⟨#[]⟩], .bool false]) (by simp [results, Try.results29, go_sem]) rfl ⟨rfl, HB0.out⟩
  · obtain ⟨k, rfl⟩ : ∃ k : Nat, i = k := ⟨i.toNat, by omega⟩
    have hk : k < S.length := by omega
    obtain ⟨s, hs⟩ : ∃ s, S[k]? = some s := ⟨_, List.getElem?_eq_getElem hk⟩
    obtain ⟨m, hm⟩ : ∃ m, M[k]? = some m := ⟨_, List.getElem?_eq_getElem (show k < M.length by omega)⟩
    obtain ⟨_, _, _, s3, s4, s5, _⟩ := (hM k _ hm).c2
    rw [(hok k _ _ hm hs).heard] at s3
    rw [(hok k _ _ hm hs).last] at s4 s5
    have e1 : afterP S (k : Int) = (s.last, s.heard) := by unfold afterP; rw [atS_yes, hs]
    rw [e1]
    clear hM hok hT h c0 c2 hml e1 hs hm hi
    generalize s.last = v at *
    generalize s.heard = hd at *
    generalize S.length = n at *
    have hq := fun o W => sptr_ne gs o W
    have hgw : gs < w.heap.size := hg0
    have s3' : (w.alloc (.cells #[.int .i64 v.1, .string v.2] 31)).cell? ⟨gs, k * 7 + 3, none⟩ = some (.bool hd) := by
      rw [World.cell?_alloc_lt _ _ _ (by exact hgw)] at s3 ⊢
      exact s3
    have hx0 : (w.alloc (.cells #[.int .i64 0, .string ⟨#[]⟩] 31)).cell? ⟨w.heap.size, 0, none⟩ = some (.int .i64 0) := by rw [cell_of_row _ _ _ _ _ _ (heap_alloc_new w _)]; rfl
    have hx1 : (w.alloc (.cells #[.int .i64 0, .string ⟨#[]⟩] 31)).cell? ⟨w.heap.size, 1, none⟩ = some (.string ⟨#[]⟩) := by rw [cell_of_row _ _ _ _ _ _ (heap_alloc_new w _)]; rfl
    go_enter Try.func29, Try.ntmps29
    go_wp2_with fail
    refine (get_yes p gs n c k _ c1 hk).mono ?_
    rintro e w' ⟨rfl, rfl⟩
    go_wp2_with fail
    go_region
    all_goals go_wp2_with fail
    all_goals exact bodyPost_ret (v := .tuple #[.agg #[.int .i64 v.1, .string v.2], .bool hd]) (by simp [results, Try.results29, go_sem]) rfl ⟨rfl, (below_drewN ((Below.refl w.heap.size w).alloc (Nat.le_refl _) _) 1)⟩
end Go.Proofs.Ytjacebnjmhbcbaa
