/- Lemmas for the law (part 4): Heap0, Tm0, Tm1, Tm2, Tm3, Tm4, Tm5, Tm6, Tm7, Tm8, Tm9, Tm10, Tm11, Tm13, Tm14, Lease0 -/
import Derived.Test.YtinkbgeckjbnbaaGreatRows
import Derived.Test.YtinkbgeckjbnbaaGreatQr3
namespace Go.Proofs.YtinkbgeckjbnbaaGreat
section
set_option linter.unusedVariables false

abbrev One := Int × Int
def leO (a b : One) : Prop := a.1 < b.1 ∨ (a.1 = b.1 ∧ a.2 ≤ b.2)
def ltO (a b : One) : Bool := decide (a.1 < b.1 ∨ (a.1 = b.1 ∧ a.2 < b.2))
set_option maxRecDepth 100000 in
theorem ltO_false {a b : One} : ltO a b = false ↔ leO b a := by unfold ltO leO; rw [decide_eq_false_iff_not]; omega
set_option maxRecDepth 100000 in
theorem ltO_true {a b : One} : ltO a b = true ↔ ¬ leO b a := by unfold ltO leO; rw [decide_eq_true_eq]; omega
set_option maxRecDepth 100000 in
theorem leO_refl (a : One) : leO a a := by unfold leO; omega
set_option maxRecDepth 100000 in
theorem leO_trans {a b c : One} (h : leO a b) (k : leO b c) : leO a c := by unfold leO at *; omega
set_option maxRecDepth 100000 in
theorem leO_total (a b : One) : leO a b ∨ leO b a := by unfold leO; omega
set_option maxRecDepth 100000 in
theorem leO_of_lt {a b : One} (h : ltO a b = true) : leO a b := by rw [ltO_true] at h; rcases leO_total a b with k | k; exact k; exact absurd k h
def swapF (f : Nat → One) (i j : Nat) : Nat → One := fun k => if k = i then f j else if k = j then f i else f k
set_option maxRecDepth 100000 in
theorem swapF_i (f : Nat → One) (i j : Nat) : swapF f i j i = f j := by simp [swapF]
set_option maxRecDepth 100000 in
theorem swapF_j (f : Nat → One) (i j : Nat) : swapF f i j j = f i := by unfold swapF; split <;> simp_all
set_option maxRecDepth 100000 in
theorem swapF_o (f : Nat → One) (i j k : Nat) (h : k ≠ i) (h2 : k ≠ j) : swapF f i j k = f k := by simp [swapF, h, h2]
def childF (f : Nat → One) (i n : Nat) : Nat := if 2 * i + 2 < n ∧ ltO (f (2 * i + 2)) (f (2 * i + 1)) = true then 2 * i + 2 else 2 * i + 1
def downF : Nat → (Nat → One) → Nat → Nat → (Nat → One) × Nat
  | 0, f, i, _ => (f, i)
  | q + 1, f, i, n => if n ≤ 2 * i + 1 then (f, i) else if ltO (f (childF f i n)) (f i) = false then (f, i) else downF q (swapF f i (childF f i n)) (childF f i n) n
def upF : Nat → (Nat → One) → Nat → (Nat → One)
  | 0, f, _ => f
  | q + 1, f, j => if (j - 1) / 2 = j ∨ ltO (f j) (f ((j - 1) / 2)) = false then f else upF q (swapF f ((j - 1) / 2) j) ((j - 1) / 2)
def Heap (f : Nat → One) (n : Nat) : Prop := ∀ k, 1 ≤ k → k < n → leO (f ((k - 1) / 2)) (f k)
def DownInv (f : Nat → One) (i n : Nat) : Prop := (∀ k, 1 ≤ k → k < n → (k - 1) / 2 ≠ i → leO (f ((k - 1) / 2)) (f k)) ∧ (∀ k, 1 ≤ k → k < n → (k - 1) / 2 = i → 1 ≤ i → leO (f ((i - 1) / 2)) (f k))
def UpInv (f : Nat → One) (j n : Nat) : Prop := (∀ k, 1 ≤ k → k < n → k ≠ j → leO (f ((k - 1) / 2)) (f k)) ∧ (∀ k, 1 ≤ k → k < n → (k - 1) / 2 = j → 1 ≤ j → leO (f ((j - 1) / 2)) (f k))
def ExInv (f : Nat → One) (i n : Nat) : Prop := (∀ k, 1 ≤ k → k < n → k ≠ i → (k - 1) / 2 ≠ i → leO (f ((k - 1) / 2)) (f k)) ∧ (∀ k, 1 ≤ k → k < n → (k - 1) / 2 = i → 1 ≤ i → leO (f ((i - 1) / 2)) (f k))
set_option maxRecDepth 100000 in
theorem childF_cases (f : Nat → One) (i n : Nat) (h : 2 * i + 1 < n) : (childF f i n = 2 * i + 1 ∨ childF f i n = 2 * i + 2) ∧ childF f i n < n ∧ (childF f i n - 1) / 2 = i ∧ i < childF f i n ∧ (∀ k, 1 ≤ k → k < n → (k - 1) / 2 = i → leO (f (childF f i n)) (f k)) := by
  unfold childF
  split
  · rename_i hc
    refine ⟨.inr rfl, hc.1, by omega, by omega, fun k h1 h2 h3 => ?_⟩
    rcases (by omega : k = 2 * i + 1 ∨ k = 2 * i + 2) with rfl | rfl
    · exact leO_of_lt hc.2
    · exact leO_refl _
  · rename_i hc
    refine ⟨.inl rfl, h, by omega, by omega, fun k h1 h2 h3 => ?_⟩
    rcases (by omega : k = 2 * i + 1 ∨ k = 2 * i + 2) with rfl | rfl
    · exact leO_refl _
    · have : ltO (f (2 * i + 2)) (f (2 * i + 1)) = false := by
        cases hl : ltO (f (2 * i + 2)) (f (2 * i + 1)) with
        | false => rfl
        | true => exact absurd ⟨h2, hl⟩ hc
      exact ltO_false.1 this
set_option maxRecDepth 100000 in
/-- down makes a heap of what is one but for place i and what hangs below it -/
theorem down_heap : ∀ (q : Nat) (f : Nat → One) (i n : Nat), n ≤ i + q → DownInv f i n → Heap (downF q f i n).1 n
  | 0, f, i, n, hq, h => fun k h1 h2 => h.1 k h1 h2 (by omega)
  | q + 1, f, i, n, hq, h => by
    unfold downF
    split
    · rename_i hn
      exact fun k h1 h2 => h.1 k h1 h2 (by omega)
    · rename_i hn
      obtain ⟨c1, c2, c3, c4, c5⟩ := childF_cases f i n (by omega)
      generalize childF f i n = c at *
      split
      · rename_i hl
        have hle := ltO_false.1 hl
        intro k h1 h2
        by_cases hk : (k - 1) / 2 = i
        · rw [hk]; exact leO_trans hle (c5 k h1 h2 hk)
        · exact h.1 k h1 h2 hk
      · rename_i hl
        have hlt : leO (f c) (f i) := by
          cases hb : ltO (f c) (f i) with
          | false => exact absurd hb hl
          | true => exact leO_of_lt hb
        refine down_heap q _ c n (by omega) ⟨fun k h1 h2 hk => ?_, fun k h1 h2 hk hc1 => ?_⟩
        · by_cases k1 : (k - 1) / 2 = i
          · rw [k1, swapF_i]
            by_cases k2 : k = c
            · rw [k2, swapF_j]; exact hlt
            · rw [swapF_o _ _ _ _ (by omega) k2]; exact c5 k h1 h2 k1
          · by_cases k2 : k = i
            · subst k2
              rw [swapF_i, swapF_o _ _ _ _ (by omega) (by omega)]
              exact h.2 c (by omega) c2 c3 h1
            · have k3 : k ≠ c := by intro e; subst e; exact k1 c3
              rw [swapF_o _ _ _ _ k1 hk, swapF_o _ _ _ _ k2 k3]
              exact h.1 k h1 h2 k1
        · rw [c3, swapF_i, swapF_o _ _ _ _ (by omega) (by omega)]
          have := h.1 k h1 h2 (by omega)
          rw [hk] at this; exact this
set_option maxRecDepth 100000 in
theorem up_heap : ∀ (q : Nat) (f : Nat → One) (j n : Nat), j ≤ q → j < n → UpInv f j n → Heap (upF q f j) n
  | 0, f, j, n, hq, hj, h => fun k h1 h2 => h.1 k h1 h2 (by omega)
  | q + 1, f, j, n, hq, hj, h => by
    unfold upF
    split
    · rename_i hc
      intro k h1 h2
      by_cases hk : k = j
      · subst hk
        rcases hc with hc | hc
        · omega
        · exact ltO_false.1 hc
      · exact h.1 k h1 h2 hk
    · rename_i hc
      have hj1 : 1 ≤ j := by
        rcases Nat.eq_zero_or_pos j with h0 | h0
        · exfalso; apply hc; left; omega
        · exact h0
      have hlt : leO (f j) (f ((j - 1) / 2)) := by
        cases hb : ltO (f j) (f ((j - 1) / 2)) with
        | false => exact absurd (.inr hb) hc
        | true => exact leO_of_lt hb
      refine up_heap q _ ((j - 1) / 2) n (by omega) (by omega) ⟨fun k h1 h2 hk => ?_, fun k h1 h2 hk hp => ?_⟩
      · by_cases k1 : k = j
        · subst k1; rw [swapF_i, swapF_j]; exact hlt
        · rw [swapF_o _ _ _ _ hk k1]
          by_cases k2 : (k - 1) / 2 = (j - 1) / 2
          · rw [k2, swapF_i]
            have := h.1 k h1 h2 k1
            rw [k2] at this
            exact leO_trans hlt this
          · by_cases k3 : (k - 1) / 2 = j
            · rw [k3, swapF_j]; exact h.2 k h1 h2 k3 hj1
            · rw [swapF_o _ _ _ _ k2 k3]; exact h.1 k h1 h2 k1
      · have hpp : leO (f (((j - 1) / 2 - 1) / 2)) (f ((j - 1) / 2)) := h.1 ((j - 1) / 2) hp (by omega) (by omega)
        rw [swapF_o _ _ _ _ (by omega) (by omega)]
        by_cases k1 : k = j
        · subst k1; rw [swapF_j]; exact hpp
        · rw [swapF_o _ _ _ _ (by omega) k1]
          have := h.1 k h1 h2 k1
          rw [hk] at this
          exact leO_trans hpp this
set_option maxRecDepth 100000 in
/-- a change at place i: down first; where it does not move, up serves -/
theorem down_ex (q : Nat) (f : Nat → One) (i n : Nat) (hq : n ≤ i + q) (h : ExInv f i n) : ((downF q f i n).2 = i → (downF q f i n).1 = f ∧ UpInv f i n) ∧ ((downF q f i n).2 ≠ i → Heap (downF q f i n).1 n) ∧ i ≤ (downF q f i n).2 := by
  have hge : ∀ (q : Nat) (f : Nat → One) (i n : Nat), i ≤ (downF q f i n).2 := by
    intro q
    induction q with
    | zero => intro f i n; exact Nat.le_refl _
    | succ q ih =>
      intro f i n
      unfold downF
      split
      · exact Nat.le_refl _
      · rename_i hn
        split
        · exact Nat.le_refl _
        · obtain ⟨_, _, _, c4, _⟩ := childF_cases f i n (by omega)
          exact Nat.le_trans (Nat.le_of_lt c4) (ih _ _ _)
  refine ⟨?_, ?_, hge q f i n⟩
  · cases q with
    | zero => intro _; exact ⟨rfl, fun k h1 h2 hk => h.1 k h1 h2 hk (by omega), fun k h1 h2 hk hi => by omega⟩
    | succ q =>
      unfold downF
      split
      · rename_i hn
        intro _; exact ⟨rfl, fun k h1 h2 hk => h.1 k h1 h2 hk (by omega), h.2⟩
      · rename_i hn
        obtain ⟨c1, c2, c3, c4, c5⟩ := childF_cases f i n (by omega)
        generalize childF f i n = c at *
        split
        · rename_i hl
          have hle := ltO_false.1 hl
          intro _
          refine ⟨rfl, fun k h1 h2 hk => ?_, h.2⟩
          by_cases k1 : (k - 1) / 2 = i
          · rw [k1]; exact leO_trans hle (c5 k h1 h2 k1)
          · exact h.1 k h1 h2 hk k1
        · intro e
          have := hge q (swapF f i c) c n
          omega
  · cases q with
    | zero => intro hne; exact absurd rfl hne
    | succ q =>
      unfold downF
      split
      · intro hne; exact absurd rfl hne
      · rename_i hn
        obtain ⟨c1, c2, c3, c4, c5⟩ := childF_cases f i n (by omega)
        generalize childF f i n = c at *
        split
        · intro hne; exact absurd rfl hne
        · rename_i hl
          intro _
          have hlt : leO (f c) (f i) := by
            cases hb : ltO (f c) (f i) with
            | false => exact absurd hb hl
            | true => exact leO_of_lt hb
          refine down_heap q _ c n (by omega) ⟨fun k h1 h2 hk => ?_, fun k h1 h2 hk hc1 => ?_⟩
          · by_cases k1 : (k - 1) / 2 = i
            · rw [k1, swapF_i]
              by_cases k2 : k = c
              · rw [k2, swapF_j]; exact hlt
              · rw [swapF_o _ _ _ _ (by omega) k2]; exact c5 k h1 h2 k1
            · by_cases k2 : k = i
              · subst k2
                rw [swapF_i, swapF_o _ _ _ _ (by omega) (by omega)]
                exact h.2 c (by omega) c2 c3 h1
              · have k3 : k ≠ c := by intro e; subst e; exact k1 c3
                rw [swapF_o _ _ _ _ k1 hk, swapF_o _ _ _ _ k2 k3]
                exact h.1 k h1 h2 k2 k1
          · rw [c3, swapF_i, swapF_o _ _ _ _ (by omega) (by omega)]
            have := h.1 k h1 h2 (by omega) (by omega)
            rw [hk] at this; exact this
end
end Go.Proofs.YtinkbgeckjbnbaaGreat
namespace Go.Proofs.YtinkbgeckjbnbaaGreat
section
open Go.RowKit
set_option linter.unusedVariables false
set_option maxRecDepth 100000 in
theorem run_method_ptr {P : Program} {w : World} {q : Nat} {t elem : TypeId} {name : String} {fid : FuncId} {p o : Nat} {v : Value}
    (hi : (P.info? t).map (fun i => (i.methods.find? (·.name == name)).map fun m => (m.path, m.func)) = some (some (#[], some (fid, false)))) (hu : P.underlying t = some (.pointer elem))
    (hl : (loadVar elem ⟨p, o, none⟩).run P w = .ok v w) : (method (q + 1) t (.pointer (some ⟨p, o, none⟩)) name).run P w = .ok (fid, v) w := by
  cases h : P.info? t with
  | none => rw [h] at hi; simp at hi
  | some i =>
    rw [h] at hi
    simp only [Option.map_some, Option.some.injEq] at hi
    cases hm : i.methods.find? (·.name == name) with
    | none => rw [hm] at hi; simp at hi
    | some m =>
      rw [hm] at hi
      simp only [Option.map_some, Option.some.injEq, Prod.mk.injEq] at hi
      obtain ⟨hp, hf⟩ := hi
      have hs : ∀ xt nm, Builtin.ssaWrapNilChk_ #[xt] xt #[.pointer (some ⟨p, o, none⟩), strVal "", strVal nm] = pure (.pointer (some ⟨p, o, none⟩)) := fun _ _ => rfl
      simp [method, typeInfo, h, hm, hp, hf, follow, receiverAt, run_underlying hu, Place.get, hs, asAddr, hl]
set_option maxRecDepth 100000 in
theorem m_less {w : World} {p o : Nat} {v : Value} (h : w.cell? ⟨p, o, none⟩ = some v) : (method 415 260 (.pointer (some ⟨p, o, none⟩)) "Less").run Tryz.prog w = .ok (233, v) w := by
  refine run_method_ptr (by kernel_rfl) Tryz.underlying260 ?_
  go_simp
set_option maxRecDepth 100000 in
theorem m_len {w : World} {p o : Nat} {v : Value} (h : w.cell? ⟨p, o, none⟩ = some v) : (method 415 260 (.pointer (some ⟨p, o, none⟩)) "Len").run Tryz.prog w = .ok (232, v) w := by
  refine run_method_ptr (by kernel_rfl) Tryz.underlying260 ?_
  go_simp
set_option maxRecDepth 100000 in
theorem m_swap {w : World} {p o : Nat} {v : Value} (h : w.cell? ⟨p, o, none⟩ = some v) : (method 415 260 (.pointer (some ⟨p, o, none⟩)) "Swap").run Tryz.prog w = .ok (234, v) w := by
  refine run_method_ptr (by kernel_rfl) Tryz.underlying260 ?_
  go_simp
set_option maxRecDepth 100000 in
theorem m_push (a : Addr) (w : World) : (method 415 260 (.pointer (some a)) "Push").run Tryz.prog w = .ok (236, .pointer (some a)) w := by kernel_rfl
set_option maxRecDepth 100000 in
theorem m_pop (a : Addr) (w : World) : (method 415 260 (.pointer (some a)) "Pop").run Tryz.prog w = .ok (235, .pointer (some a)) w := by kernel_rfl
end
end Go.Proofs.YtinkbgeckjbnbaaGreat
namespace Go.Proofs.YtinkbgeckjbnbaaGreat
section
open Go.RowKit
set_option linter.unusedVariables false

def oneCells (x : One) : List Value := [.int .i64 x.1, .int .i64 x.2]
/-- block g holds the pairs f 0, .., f (n - 1), behind them what there is -/
def HB (w : World) (g n : Nat) (f : Nat → One) (sp : List Value) : Prop := Blk w g 265 ((List.range n).flatMap (fun k => oneCells (f k)) ++ sp)
set_option maxRecDepth 100000 in
theorem HB.c0 {w : World} {g n : Nat} {f : Nat → One} {sp : List Value} (h : HB w g n f sp) {k : Nat} (hk : k < n) : w.cell? ⟨g, k * 2, none⟩ = some (.int .i64 (f k).1) := by
  unfold HB at h
  rw [h.cell, List.getElem?_append_left (by rw [flatMap_len _ 2 (fun _ => rfl), List.length_range]; omega)]
  have := flatMap_get (fun k => oneCells (f k)) 2 (fun _ => rfl) (List.range n) k 0 (by omega)
  rw [Nat.add_zero] at this
  rw [this, List.getElem?_range hk]; rfl
set_option maxRecDepth 100000 in
theorem HB.c1 {w : World} {g n : Nat} {f : Nat → One} {sp : List Value} (h : HB w g n f sp) {k : Nat} (hk : k < n) : w.cell? ⟨g, k * 2 + 1, none⟩ = some (.int .i64 (f k).2) := by
  unfold HB at h
  rw [h.cell, List.getElem?_append_left (by rw [flatMap_len _ 2 (fun _ => rfl), List.length_range]; omega)]
  rw [flatMap_get (fun k => oneCells (f k)) 2 (fun _ => rfl) (List.range n) k 1 (by omega), List.getElem?_range hk]; rfl
set_option maxRecDepth 100000 in
theorem orI_lt (a b : One) : decide (orI (cmpI a.1 b.1) (cmpI a.2 b.2) < 0) = ltO a b := by
  unfold ltO
  apply decide_eq_decide.2
  unfold orI cmpI
  by_cases h1 : a.1 < b.1
  · simp [h1]
  · by_cases h2 : b.1 < a.1
    · simp [h1, h2]; omega
    · by_cases h3 : a.2 < b.2
      · simp [h1, h2, h3]; omega
      · by_cases h4 : b.2 < a.2
        · simp [h1, h2, h3, h4]
        · simp [h1, h2, h3, h4]
set_option maxRecDepth 100000 in
theorem mlen_any (a : Option Addr) (n c : Nat) (w : World) : Calls Tryz.prog 232 #[.slice a n c] w fun e w' => e = .returned (.int .i64 n) ∧ w = w' := by
  go_enter Tryz.func232, Tryz.ntmps232
  go_wp2
  go_ret
  exact ⟨rfl, rfl⟩
set_option maxRecDepth 100000 in
set_option maxHeartbeats 2000000 in
theorem mless_any (g n c i j : Nat) (f : Nat → One) (sp : List Value) (w : World) (h : HB w g n f sp) (hi : i < n) (hj : j < n) (hn : n ≤ 1000) :
    Calls Tryz.prog 233 #[.slice (some ⟨g, 0, none⟩) n c, .int .i64 i, .int .i64 j] w fun e w' => e = .returned (.bool (ltO (f i) (f j))) ∧ Below w.heap.size w w' := by
  have x0 := h.c0 hi
  have x1 := h.c1 hi
  have y0 := h.c0 hj
  have y1 := h.c1 hj
  rw [← orI_lt]
  generalize f i = x at *
  generalize f j = y at *
  obtain ⟨xa, xb⟩ := x
  obtain ⟨ya, yb⟩ := y
  simp only at x0 x1 y0 y1 ⊢
  have H1 : RowKit.Hid (∀ W, Calls Tryz.prog 189 #[.int .i64 xa, .int .i64 ya] W fun e w' => e = .returned (.int .i64 (cmpI xa ya)) ∧ w' = W) := fun W => (icmp_any xa ya W).mono fun e w' h => ⟨h.1, h.2.symm⟩
  have H2 : RowKit.Hid (∀ W, Calls Tryz.prog 189 #[.int .i64 xb, .int .i64 yb] W fun e w' => e = .returned (.int .i64 (cmpI xb yb)) ∧ w' = W) := fun W => (icmp_any xb yb W).mono fun e w' h => ⟨h.1, h.2.symm⟩
  generalize cmpI xa ya = u at *
  generalize cmpI xb yb = v at *
  clear h
  have i1 : decide (i < n) = true := by simpa using hi
  have i2 : decide (j < n) = true := by simpa using hj
  go_enter Tryz.func233, Tryz.ntmps233
  go_wp2_with fail
  go_still_tail 22, (by kernel_rfl)
  still_call (H1.out _)
  repeat still_step
  still_call (H2.out _)
  repeat still_step
  refine wpStill_nil ?_
  go_wp2_with fail
  refine (or_any _ _ 3 u v ?_).mono ?_
  · have h := heap_alloc_new w.drew (.cells #[.int .i64 u, .int .i64 v] 3)
    exact h
  rintro e w' ⟨rfl, rfl⟩
  go_wp2_with fail
  go_ret
  exact ⟨rfl, (below_drewN (Below.refl w.heap.size w) 1).alloc (Nat.le_refl _) _⟩
end
end Go.Proofs.YtinkbgeckjbnbaaGreat
namespace Go.Proofs.YtinkbgeckjbnbaaGreat
section
open Go.RowKit
set_option linter.unusedVariables false

set_option maxRecDepth 100000 in
theorem grown_set (w : World) (g k : Nat) (v : Value) : w.grownBy (w.setCell ⟨g, k, none⟩ v) (some g) :=
  ⟨rfl, rfl, rfl, by simp [World.setCell], fun b hb hne => Below.heap_setCell _ _ _ _ (by intro e; subst e; exact hne rfl)⟩
set_option maxRecDepth 100000 in
theorem swap_flat (n i j : Nat) (f : Nat → One) (hi : i < n) (hj : j < n) (hij : i ≠ j) (sp : List Value) :
    ((((((List.range n).flatMap (fun k => oneCells (f k)) ++ sp).set (i * 2) (.int .i64 (f j).1)).set (i * 2 + 1) (.int .i64 (f j).2)).set (j * 2) (.int .i64 (f i).1)).set (j * 2 + 1) (.int .i64 (f i).2)) = (List.range n).flatMap (fun k => oneCells (swapF f i j k)) ++ sp := by
  have hlen : ∀ h : Nat → One, ((List.range n).flatMap (fun k => oneCells (h k))).length = n * 2 := fun h => by rw [flatMap_len _ 2 (fun _ => rfl), List.length_range]
  apply List.ext_getElem?
  intro q
  by_cases hq : q < n * 2
  · have hr : q % 2 < 2 := Nat.mod_lt _ (by omega)
    have hk : q / 2 < n := by omega
    have hget : ∀ h : Nat → One, ((List.range n).flatMap (fun k => oneCells (h k)) ++ sp)[q]? = (oneCells (h (q / 2)))[q % 2]? := by
      intro h
      rw [List.getElem?_append_left (by rw [hlen]; exact hq)]
      have := flatMap_get (fun k => oneCells (h k)) 2 (fun _ => rfl) (List.range n) (q / 2) (q % 2) hr
      rw [show q / 2 * 2 + q % 2 = q from by omega, List.getElem?_range hk] at this
      exact this
    rw [hget (swapF f i j)]
    simp only [List.getElem?_set, List.length_set, List.length_append, hlen]
    by_cases e1 : q = j * 2 + 1
    · rw [if_pos e1.symm, if_pos (by omega), show q / 2 = j from by omega, show q % 2 = 1 from by omega, swapF_j]; rfl
    · rw [if_neg (fun e => e1 e.symm)]
      by_cases e2 : q = j * 2
      · rw [if_pos e2.symm, if_pos (by omega), show q / 2 = j from by omega, show q % 2 = 0 from by omega, swapF_j]; rfl
      · rw [if_neg (fun e => e2 e.symm)]
        by_cases e3 : q = i * 2 + 1
        · rw [if_pos e3.symm, if_pos (by omega), show q / 2 = i from by omega, show q % 2 = 1 from by omega, swapF_i]; rfl
        · rw [if_neg (fun e => e3 e.symm)]
          by_cases e4 : q = i * 2
          · rw [if_pos e4.symm, if_pos (by omega), show q / 2 = i from by omega, show q % 2 = 0 from by omega, swapF_i]; rfl
          · rw [if_neg (fun e => e4 e.symm), hget f, swapF_o _ _ _ _ (by omega) (by omega)]
  · simp only [List.getElem?_set]
    rw [if_neg (by omega), if_neg (by omega), if_neg (by omega), if_neg (by omega), List.getElem?_append_right (by rw [hlen]; omega), List.getElem?_append_right (by rw [hlen]; omega), hlen, hlen]
set_option maxRecDepth 100000 in
set_option maxHeartbeats 2000000 in
theorem mswap_any (g n c i j : Nat) (f : Nat → One) (sp : List Value) (w : World) (h : HB w g n f sp) (hi : i < n) (hj : j < n) (hn : n ≤ 1000) (hij : i ≠ j) :
    Calls Tryz.prog 234 #[.slice (some ⟨g, 0, none⟩) n c, .int .i64 i, .int .i64 j] w fun e w' => e = .returned (.tuple #[]) ∧ HB w' g n (swapF f i j) sp ∧ w.grownBy w' (some g) := by
  have x0 := h.c0 hi
  have x1 := h.c1 hi
  have y0 := h.c0 hj
  have y1 := h.c1 hj
  have fz : ∀ k, w.frozen? ⟨g, k, none⟩ = false := fun k => h.frozen k
  have HH := Lib.hid (show HB ((((w.setCell ⟨g, i * 2, none⟩ (.int .i64 (f j).1)).setCell ⟨g, i * 2 + 1, none⟩ (.int .i64 (f j).2)).setCell ⟨g, j * 2, none⟩ (.int .i64 (f i).1)).setCell ⟨g, j * 2 + 1, none⟩ (.int .i64 (f i).2)) g n (swapF f i j) sp from by
    have := (((h.set (i * 2) (.int .i64 (f j).1)).set (i * 2 + 1) (.int .i64 (f j).2)).set (j * 2) (.int .i64 (f i).1)).set (j * 2 + 1) (.int .i64 (f i).2)
    rw [swap_flat n i j f hi hj hij sp] at this; exact this)
  generalize f i = x at *
  generalize f j = y at *
  clear h
  have n1 : i * 2 ≠ j * 2 := by omega
  have n2 : i * 2 + 1 ≠ j * 2 + 1 := by omega
  have n3 : i * 2 ≠ j * 2 + 1 := by omega
  have n4 : i * 2 + 1 ≠ j * 2 := by omega
  go_enter Tryz.func234, Tryz.ntmps234
  go_wp2_with fail
  go_region
  go_end0
  refine ⟨rfl, HH.out, ?_⟩
  have h4 := grownBy_trans (grownBy_trans (grownBy_trans (grown_set w g (i * 2) (.int .i64 y.1)) (grown_set _ g (i * 2 + 1) (.int .i64 y.2))) (grown_set _ g (j * 2) (.int .i64 x.1))) (grown_set _ g (j * 2 + 1) (.int .i64 x.2))
  exact ⟨h4.os, h4.tape, h4.output, h4.size, h4.block⟩
end
end Go.Proofs.YtinkbgeckjbnbaaGreat
namespace Go.Proofs.YtinkbgeckjbnbaaGreat
section
open Go.RowKit
set_option linter.unusedVariables false

/-- a variable at p holds a slice over block g, whose pairs are f -/
def MH (w : World) (p o g n c : Nat) (f : Nat → One) (sp : List Value) : Prop := w.cell? ⟨p, o, none⟩ = some (.slice (some ⟨g, 0, none⟩) n c) ∧ HB w g n f sp ∧ p ≠ g ∧ p < w.heap.size
set_option maxRecDepth 100000 in
theorem MH.grown {w w' : World} {p o g n c : Nat} {f f' : Nat → One} {sp sp' : List Value} (h : MH w p o g n c f sp) (hg : w.grownBy w' (some g)) (hb : HB w' g n f' sp') : MH w' p o g n c f' sp' :=
  ⟨by rw [World.cell?_of_block (w := w) (hg.block p h.2.2.2 (fun e => h.2.2.1 (Option.some.inj e)))]; exact h.1, hb, h.2.2.1, Nat.lt_of_lt_of_le h.2.2.2 hg.size⟩
set_option maxRecDepth 100000 in
theorem MH.below {w w' : World} {p o g n c : Nat} {f : Nat → One} {sp : List Value} (h : MH w p o g n c f sp) (hb : Below w.heap.size w w') : MH w' p o g n c f sp :=
  ⟨(hb.cell (p := ⟨p, o, none⟩) h.2.2.2).trans h.1, h.2.1.below hb h.2.1.lt, h.2.2.1, Nat.lt_of_lt_of_le h.2.2.2 hb.size⟩
set_option maxRecDepth 100000 in
theorem grown_below {w w' : World} (h : Below w.heap.size w w') (row : Option Nat) : w.grownBy w' row := ⟨h.os, h.tape, h.output, h.size, fun k hk _ => h.block k hk⟩
def UpR (w : World) (p o g n c : Nat) (sp : List Value) (r : Nat → One) (v1 : Value) (wr : World) : Prop := ∃ (j q : Nat) (f : Nat → One), j < n ∧ j ≤ q ∧ v1 = .int .i64 j ∧ RowKit.Hid (upF q f j = r) ∧ RowKit.Hid (MH wr p o g n c f sp) ∧ RowKit.Hid (w.grownBy wr (some g))
set_option maxRecDepth 100000 in
set_option maxHeartbeats 2000000 in
theorem up_any (p o g n c j : Nat) (f : Nat → One) (sp : List Value) (w : World) (h : MH w p o g n c f sp) (hj : j < n) (hn : n ≤ 1000) :
    Calls Tryz.prog 199 #[.iface 260 (.pointer (some ⟨p, o, none⟩)), .int .i64 j] w fun e w' => e = .returned (.tuple #[]) ∧ MH w' p o g n c (upF j f j) sp ∧ w.grownBy w' (some g) := by
  have HM := Lib.hid h
  clear h
  obtain ⟨r, hr⟩ : ∃ r, upF j f j = r := ⟨_, rfl⟩
  rw [hr]
  have HR := Lib.hid hr
  clear hr
  go_enter Tryz.func199, Tryz.ntmps199
  go_wp2_with fail
  go_loopw [1] (fun v1 wr => UpR w p o g n c sp r v1 wr) (fun v1 _ => (intOf v1).toNat)
  case atStart => exact ⟨j, j, f, hj, Nat.le_refl _, rfl, HR.out, HM.out, World.grownBy.refl _ _⟩
  case round =>
    clear HM HR hj
    obtain ⟨j, q, f, hj, hq, rfl, HR, HM, HG⟩ := hrel
    by_cases h0 : j = 0
    · subst h0
      have hr : r = f := by rw [← HR.out]; cases q <;> simp [upF]
      subst hr
      clear HR
      go_wp2_with fail
      go_end0
      exact ⟨rfl, HM.out, HG.out⟩
    · have hml := m_less HM.out.1
      obtain ⟨i, hi⟩ : ∃ i, (j - 1) / 2 = i := ⟨_, rfl⟩
      have hij : i < j := by omega
      have hdiv : ((j : Int) - 1) / 2 = (i : Int) := by omega
      have dne : ((i : Int) == (j : Int)) = false := by rw [beq_eq_false_iff_ne]; omega
      have hup : ∀ q', q = q' + 1 → upF q f j = if ltO (f j) (f i) = false then f else upF q' (swapF f i j) i := by
        intro q' e; subst e; rw [upF, hi]; simp [show i ≠ j by omega]
      have HU := Lib.hid (hup (q - 1) (by omega))
      clear hup hi
      go_wp2_with fail
      refine (mless_any g n c j i f sp _ HM.out.2.1 hj (by omega) hn).mono ?_
      rintro e w1 ⟨rfl, hb⟩
      have HM1 := Lib.hid (HM.out.below hb)
      have HG1 := Lib.hid (grownBy_trans HG.out (grown_below hb (some g)))
      clear hb HM HG hml
      cases hl : ltO (f j) (f i) with
      | false =>
        have hr : r = f := by rw [← HR.out, HU.out, hl]; rfl
        subst hr
        clear HR HU hl
        go_wp2_with fail
        go_end0
        exact ⟨rfl, HM1.out, HG1.out⟩
      | true =>
        have HR2 : RowKit.Hid (upF (q - 1) (swapF f i j) i = r) := by rw [← HR.out, HU.out, hl]; rfl
        have hms := m_swap HM1.out.1
        clear HR HU hl
        go_wp2_with fail
        refine (mswap_any g n c i j f sp _ HM1.out.2.1 (by omega) hj hn (by omega)).mono ?_
        rintro e w2 ⟨rfl, hb, hg⟩
        have HM2 := Lib.hid (HM1.out.grown hg hb)
        have HG2 := Lib.hid (grownBy_trans HG1.out hg)
        clear hb hg HM1 HG1 hms
        go_wp2_with fail
        go_roundw
        case rel => exact ⟨i, q - 1, swapF f i j, by omega, by omega, rfl, HR2.out, HM2.out, HG2.out⟩
        case measure => simp [intOf]; omega
end
end Go.Proofs.YtinkbgeckjbnbaaGreat
namespace Go.Proofs.YtinkbgeckjbnbaaGreat
section
open Go.RowKit
set_option linter.unusedVariables false

def DnR (w : World) (p o g m c : Nat) (n : Nat) (sp : List Value) (r : (Nat → One) × Nat) (v7 : Value) (wr : World) : Prop := ∃ (i q : Nat) (f : Nat → One), i ≤ n ∧ n ≤ i + q ∧ v7 = .int .i64 i ∧ RowKit.Hid (downF q f i n = r) ∧ RowKit.Hid (MH wr p o g m c f sp) ∧ RowKit.Hid (w.grownBy wr (some g))
set_option maxRecDepth 100000 in
set_option maxHeartbeats 4000000 in
theorem down_any (p o g m c i n : Nat) (f : Nat → One) (sp : List Value) (w : World) (h : MH w p o g m c f sp) (hi : i ≤ n) (hnm : n ≤ m) (hn : m ≤ 1000) :
    Calls Tryz.prog 198 #[.iface 260 (.pointer (some ⟨p, o, none⟩)), .int .i64 i, .int .i64 n] w fun e w' => e = .returned (.bool (decide (i < (downF n f i n).2))) ∧ MH w' p o g m c (downF n f i n).1 sp ∧ w.grownBy w' (some g) := by
  have HM := Lib.hid h
  clear h
  obtain ⟨r, hr⟩ : ∃ r, downF n f i n = r := ⟨_, rfl⟩
  rw [hr]
  have HR := Lib.hid hr
  clear hr
  go_enter Tryz.func198, Tryz.ntmps198
  go_wp2_with fail
  go_loopw [7] (fun v7 wr => DnR w p o g m c n sp r v7 wr) (fun v7 _ => n - (intOf v7).toNat)
  case atStart => exact ⟨i, n, f, hi, by omega, rfl, HR.out, HM.out, World.grownBy.refl _ _⟩
  case round =>
    clear HM HR hi
    obtain ⟨k, q, f, hk, hq, rfl, HR, HM, HG⟩ := hrel
    by_cases h1 : n ≤ 2 * k + 1
    · have hr : r = (f, k) := by
        rw [← HR.out]
        cases q with
        | zero => rfl
        | succ q => rw [downF, if_pos h1]
      subst hr
      have d1 : decide ((n : Int) ≤ 2 * (k : Int) + 1) = true := by simp; omega
      clear HR
      go_wp2_with fail
      go_ret
      exact ⟨by simp, HM.out, HG.out⟩
    · have hdn : ∀ cc, childF f k n = cc → downF q f k n = if ltO (f cc) (f k) = false then (f, k) else downF (q - 1) (swapF f k cc) cc n := by
        intro cc hc
        cases q with
        | zero => omega
        | succ q => rw [downF, if_neg h1, hc]; rfl
      obtain ⟨j1, hj1⟩ : ∃ j1, 2 * k + 1 = j1 := ⟨_, rfl⟩
      obtain ⟨j2, hj2⟩ : ∃ j2, 2 * k + 2 = j2 := ⟨_, rfl⟩
      have hch : childF f k n = if j2 < n ∧ ltO (f j2) (f j1) = true then j2 else j1 := by unfold childF; rw [hj1, hj2]
      have e0 : 2 * (k : Int) + 1 = (j1 : Int) := by omega
      have e1 : (j1 : Int) + 1 = (j2 : Int) := by omega
      have hjn : j1 < n := by omega
      have hkj : k < j1 := by omega
      have hj12 : j2 = j1 + 1 := by omega
      have d1 : decide (n ≤ j1) = false := by simp; omega
      have HJ12 := Lib.hid hj12
      clear h1 hj1 hj2 hj12
      by_cases h2 : j2 < n
      · have d2 : decide (j2 < n) = true := by simpa using h2
        have hkj2 : k < j2 := by have := HJ12.out; omega
        have hml := m_less HM.out.1
        go_wp2_with fail
        refine (mless_any g m c j2 j1 f sp _ HM.out.2.1 (by omega) (by omega) hn).mono ?_
        rintro e w2 ⟨rfl, hb⟩
        have HM2 := Lib.hid (HM.out.below hb)
        have HG2 := Lib.hid (grownBy_trans HG.out (grown_below hb (some g)))
        clear hb HM HG hml
        cases hl : ltO (f j2) (f j1) with
        | true =>
          rw [hl, if_pos ⟨h2, rfl⟩] at hch
          have HU := Lib.hid (hdn j2 hch)
          clear hdn hch hl
          have hml2 := m_less HM2.out.1
          go_wp2_with fail
          refine (mless_any g m c j2 k f sp _ HM2.out.2.1 (by omega) (by omega) hn).mono ?_
          rintro e w3 ⟨rfl, hb⟩
          have HM3 := Lib.hid (HM2.out.below hb)
          have HG3 := Lib.hid (grownBy_trans HG2.out (grown_below hb (some g)))
          clear hb HM2 HG2 hml2
          cases hl2 : ltO (f j2) (f k) with
          | false =>
            have hr : r = (f, k) := by rw [← HR.out, HU.out, hl2]; rfl
            subst hr
            clear HR HU hl2
            go_wp2_with fail
            go_ret
            exact ⟨by simp, HM3.out, HG3.out⟩
          | true =>
            have HR2 : RowKit.Hid (downF (q - 1) (swapF f k j2) j2 n = r) := by rw [← HR.out, HU.out, hl2]; rfl
            have hms := m_swap HM3.out.1
            clear HR HU hl2
            go_wp2_with fail
            refine (mswap_any g m c k j2 f sp _ HM3.out.2.1 (by omega) (by omega) hn (by omega)).mono ?_
            rintro e w4 ⟨rfl, hb, hg⟩
            have HM4 := Lib.hid (HM3.out.grown hg hb)
            have HG4 := Lib.hid (grownBy_trans HG3.out hg)
            clear hb hg HM3 HG3 hms
            go_wp2_with fail
            go_roundw
            case rel => exact ⟨j2, q - 1, swapF f k j2, by omega, by omega, rfl, HR2.out, HM4.out, HG4.out⟩
            case measure => simp [intOf]; omega
        | false =>
          rw [hl, if_neg (by simp)] at hch
          have HU := Lib.hid (hdn j1 hch)
          clear hdn hch hl
          have hml2 := m_less HM2.out.1
          go_wp2_with fail
          refine (mless_any g m c j1 k f sp _ HM2.out.2.1 (by omega) (by omega) hn).mono ?_
          rintro e w3 ⟨rfl, hb⟩
          have HM3 := Lib.hid (HM2.out.below hb)
          have HG3 := Lib.hid (grownBy_trans HG2.out (grown_below hb (some g)))
          clear hb HM2 HG2 hml2
          cases hl2 : ltO (f j1) (f k) with
          | false =>
            have hr : r = (f, k) := by rw [← HR.out, HU.out, hl2]; rfl
            subst hr
            clear HR HU hl2
            go_wp2_with fail
            go_ret
            exact ⟨by simp, HM3.out, HG3.out⟩
          | true =>
            have HR2 : RowKit.Hid (downF (q - 1) (swapF f k j1) j1 n = r) := by rw [← HR.out, HU.out, hl2]; rfl
            have hms := m_swap HM3.out.1
            clear HR HU hl2
            go_wp2_with fail
            refine (mswap_any g m c k j1 f sp _ HM3.out.2.1 (by omega) (by omega) hn (by omega)).mono ?_
            rintro e w4 ⟨rfl, hb, hg⟩
            have HM4 := Lib.hid (HM3.out.grown hg hb)
            have HG4 := Lib.hid (grownBy_trans HG3.out hg)
            clear hb hg HM3 HG3 hms
            go_wp2_with fail
            go_roundw
            case rel => exact ⟨j1, q - 1, swapF f k j1, by omega, by omega, rfl, HR2.out, HM4.out, HG4.out⟩
            case measure => simp [intOf]; omega
      · have d2 : decide (j2 < n) = false := by simpa using h2
        rw [if_neg (fun h => h2 h.1)] at hch
        have HU := Lib.hid (hdn j1 hch)
        clear hdn hch
        have hml2 := m_less HM.out.1
        go_wp2_with fail
        refine (mless_any g m c j1 k f sp _ HM.out.2.1 (by omega) (by omega) hn).mono ?_
        rintro e w3 ⟨rfl, hb⟩
        have HM3 := Lib.hid (HM.out.below hb)
        have HG3 := Lib.hid (grownBy_trans HG.out (grown_below hb (some g)))
        clear hb HM HG hml2
        cases hl2 : ltO (f j1) (f k) with
        | false =>
          have hr : r = (f, k) := by rw [← HR.out, HU.out, hl2]; rfl
          subst hr
          clear HR HU hl2
          go_wp2_with fail
          go_ret
          exact ⟨by simp, HM3.out, HG3.out⟩
        | true =>
          have HR2 : RowKit.Hid (downF (q - 1) (swapF f k j1) j1 n = r) := by rw [← HR.out, HU.out, hl2]; rfl
          have hms := m_swap HM3.out.1
          clear HR HU hl2
          go_wp2_with fail
          refine (mswap_any g m c k j1 f sp _ HM3.out.2.1 (by omega) (by omega) hn (by omega)).mono ?_
          rintro e w4 ⟨rfl, hb, hg⟩
          have HM4 := Lib.hid (HM3.out.grown hg hb)
          have HG4 := Lib.hid (grownBy_trans HG3.out hg)
          clear hb hg HM3 HG3 hms
          go_wp2_with fail
          go_roundw
          case rel => exact ⟨j1, q - 1, swapF f k j1, by omega, by omega, rfl, HR2.out, HM4.out, HG4.out⟩
          case measure => simp [intOf]; omega
end
end Go.Proofs.YtinkbgeckjbnbaaGreat
namespace Go.Proofs.YtinkbgeckjbnbaaGreat
section
open Go.RowKit
set_option linter.unusedVariables false

set_option maxRecDepth 100000 in
theorem HB_last {w : World} {g n : Nat} {f : Nat → One} {sp : List Value} (h : HB w g (n + 1) f sp) : HB w g n f (oneCells (f n) ++ sp) := by
  unfold HB at *
  rw [List.range_succ, List.flatMap_append, List.append_assoc] at h
  simpa using h
set_option maxRecDepth 100000 in
theorem HB.frm {S : Nat → Prop} {w w' : World} {g n : Nat} {f : Nat → One} {sp : List Value} (h : HB w g n f sp) (hf : Frm S w w') (hg : ¬ S g) : HB w' g n f sp := Blk.frm h hf hg
set_option maxRecDepth 100000 in
set_option maxHeartbeats 2000000 in
theorem mpop_any (p o g n c : Nat) (T : TypeId) (cs : List Value) (f : Nat → One) (sp : List Value) (w : World) (hp : Blk w p T cs) (ho : cs[o]? = some (.slice (some ⟨g, 0, none⟩) (n + 1 : Nat) c)) (hb : HB w g (n + 1) f sp) (hpg : p ≠ g) (hc : n + 1 ≤ c) (hn : n ≤ 1000) :
    Calls Tryz.prog 235 #[.pointer (some ⟨p, o, none⟩)] w fun e w' => e = .returned (.iface 265 (.agg #[.int .i64 (f n).1, .int .i64 (f n).2])) ∧ Blk w' p T (cs.set o (.slice (some ⟨g, 0, none⟩) n c)) ∧ Frm (fun k => k = p) w w' := by
  have cv : w.cell? ⟨p, o, none⟩ = some (.slice (some ⟨g, 0, none⟩) (n + 1 : Nat) c) := by rw [hp.cell, ho]
  have x0 := hb.c0 (Nat.lt_succ_self n)
  have x1 := hb.c1 (Nat.lt_succ_self n)
  have fz := fz_of (o := o) hp
  have HP := Lib.hid hp
  have hpl := hp.lt
  have hgl : g < w.heap.size := Blk.lt hb
  clear hp ho
  generalize hx : f n = x at x0 x1 ⊢
  have HX := Lib.hid hx
  have HBB := Lib.hid hb
  clear hx hb
  have k1 : IntKind.i64.wrap (n : Int) = n := IntWalk.i64_in _ (by omega)
  have k2 : (0 : Int) ≤ n := by omega
  have k3 : (n : Int) < (n : Int) + 1 := by omega
  have k4 : (n : Int) ≤ c := by omega
  go_enter Tryz.func235, Tryz.ntmps235
  go_wp2_with fail
  go_region
  all_goals go_wp2_with fail
  all_goals go_region
  all_goals go_wp2_with fail
  all_goals go_ret
  all_goals
    refine ⟨rfl, ?_, ?_⟩
    · exact (HP.out.set o _).alloc _
    · have hf : Frm (fun k => k = p) w (w.setCell ⟨p, o, none⟩ (.slice (some ⟨g, 0, none⟩) n c)) := (Frm.refl _ _).setCell _ _ (.inl rfl)
      exact ((hf.alloc _).drew).drew
end
end Go.Proofs.YtinkbgeckjbnbaaGreat
namespace Go.Proofs.YtinkbgeckjbnbaaGreat
section
open Go.RowKit
set_option linter.unusedVariables false

/-- the pairs f 0, .., f (n - 1) as cells -/
def fl (n : Nat) (f : Nat → One) : List Value := (List.range n).flatMap (fun k => oneCells (f k))
set_option maxRecDepth 100000 in
theorem fl_len (n : Nat) (f : Nat → One) : (fl n f).length = n * 2 := by unfold fl; rw [flatMap_len _ 2 (fun _ => rfl), List.length_range]
set_option maxRecDepth 100000 in
theorem fl_succ (n : Nat) (f : Nat → One) : fl (n + 1) f = fl n f ++ oneCells (f n) := by unfold fl; rw [List.range_succ, List.flatMap_append]; simp
set_option maxRecDepth 100000 in
theorem fl_congr (n : Nat) (f g : Nat → One) (h : ∀ k, k < n → f k = g k) : fl n f = fl n g := by
  induction n with
  | zero => rfl
  | succ n ih => rw [fl_succ, fl_succ, ih (fun k hk => h k (by omega)), h n (by omega)]
/-- variable o of block p holds a slice of the pairs f 0, .., f (n - 1) -/
structure VO (w : World) (p o : Nat) (T : TypeId) (cs : List Value) (ao : Option Addr) (n c : Nat) (f : Nat → One) : Prop where
  blk : Blk w p T cs
  var : cs[o]? = some (.slice ao n c)
  own : w.ownsRow 0 265 2 (.slice ao n c) n (fl n f)
  ty : T ≠ 265
set_option maxRecDepth 100000 in
theorem info_one : (Tryz.prog.info? 265).map (fun i => (i.zero, i.size, i.bytes)) = some (some (.agg #[.int .i64 0, .int .i64 0]), 2, 16) := by kernel_rfl
set_option maxRecDepth 100000 in
set_option maxHeartbeats 2000000 in
theorem mpush_any (p o n c : Nat) (T : TypeId) (cs : List Value) (ao : Option Addr) (f : Nat → One) (x : One) (w : World) (h : VO w p o T cs ao n c f) (hn : n ≤ 999) :
    Calls Tryz.prog 236 #[.pointer (some ⟨p, o, none⟩), .iface 265 (.agg #[.int .i64 x.1, .int .i64 x.2])] w fun e w' => ∃ g' c', e = .returned (.tuple #[]) ∧ Blk w' p T (cs.set o (.slice (some ⟨g', 0, none⟩) (n + 1 : Nat) c')) ∧ w'.ownsRow 0 265 2 (.slice (some ⟨g', 0, none⟩) (n + 1 : Nat) c') (n + 1) (fl n f ++ oneCells x) ∧ Frm (fun k => k = p ∨ (Value.slice ao n c).ownBlock = some k) w w' ∧ ((Value.slice ao n c).ownBlock = some g' ∨ w.heap.size ≤ g') := by
  obtain ⟨i0, hi, hz0, hz1, hz2⟩ := info_parts info_one
  have HI := Lib.hid hi
  have HZ0 := Lib.hid hz0
  have HZ1 := Lib.hid hz1
  have HZ2 := Lib.hid hz2
  clear hi hz0 hz1 hz2
  obtain ⟨hp, ho, hown, hT⟩ := h
  have cv : w.cell? ⟨p, o, none⟩ = some (.slice ao n c) := by rw [hp.cell, ho]
  have fz := fz_of (o := o) hp
  have hpl := hp.lt
  have HNE := Lib.hid (ownsRow_ne hown hp hT)
  have HP := Lib.hid hp
  have HO := Lib.hid hown
  clear hp ho hown
  have hta : ∀ W : World, (Instr.typeAssert (.iface 265 (.agg #[.int .i64 x.1, .int .i64 x.2])) 20 265 true).run Tryz.prog W = .ok (.tuple #[.agg #[.int .i64 x.1, .int .i64 x.2], .bool true]) W := fun _ => by kernel_rfl
  go_enter Tryz.func236, Tryz.ntmps236
  go_wp2_with fail
  have hF0 : Frm (fun k => k = p ∨ (Value.slice ao n c).ownBlock = some k) w (w.alloc (.cells #[.int .i64 x.1, .int .i64 x.2] 265)) := (Frm.refl _ _).alloc _
  have HF0 := Lib.hid hF0
  have HP0 := Lib.hid (Blk.alloc HP.out (.cells #[.int .i64 x.1, .int .i64 x.2] 265))
  have HO0 := Lib.hid (HO.out.alloc (.cells #[.int .i64 x.1, .int .i64 x.2] 265))
  have hx0 : (w.alloc (.cells #[.int .i64 x.1, .int .i64 x.2] 265)).cell? ⟨w.heap.size, 0, none⟩ = some (.int .i64 x.1) := by rw [cell_of_row _ _ _ _ _ _ (heap_alloc_new w _)]; rfl
  have hx1 : (w.alloc (.cells #[.int .i64 x.1, .int .i64 x.2] 265)).cell? ⟨w.heap.size, 1, none⟩ = some (.int .i64 x.2) := by rw [cell_of_row _ _ _ _ _ _ (heap_alloc_new w _)]; rfl
  have hc0 : (w.alloc (.cells #[.int .i64 x.1, .int .i64 x.2] 265)).cell? ⟨p, o, none⟩ = some (.slice ao n c) := by rw [World.cell?_alloc_lt _ _ _ (by exact hpl)]; exact cv
  have hz : w.heap.size ≤ (w.alloc (.cells #[.int .i64 x.1, .int .i64 x.2] 265)).heap.size := by simp
  clear hF0 HP HO cv fz
  generalize w.alloc (.cells #[.int .i64 x.1, .int .i64 x.2] 265) = W0 at *
  have HO1 : RowKit.Hid ((W0.alloc (.cells #[.int .i64 x.1, .int .i64 x.2] 265)).drew.ownsRow 0 265 2 (.slice ao n c) n (fl n f)) := HO0.out.alloc _
  have HP1 : RowKit.Hid (Blk (W0.alloc (.cells #[.int .i64 x.1, .int .i64 x.2] 265)).drew p T cs) := Blk.alloc HP0.out _
  have HN1 : RowKit.Hid (∀ j u, ([.int .i64 x.1, .int .i64 x.2] : List Value)[j]? = some u → (W0.alloc (.cells #[.int .i64 x.1, .int .i64 x.2] 265)).drew.cell? ((⟨W0.heap.size, 0, none⟩ : Addr).add j) = some u) := World.news_of_block (show ((W0.alloc (.cells #[.int .i64 x.1, .int .i64 x.2] 265)).drew).heap[W0.heap.size]? = _ from heap_alloc_new W0 _)
  have HF1 : RowKit.Hid (Frm (fun k => k = p ∨ (Value.slice ao n c).ownBlock = some k) w (W0.alloc (.cells #[.int .i64 x.1, .int .i64 x.2] 265)).drew) := (HF0.out.alloc _).drew
  have hcA : (W0.alloc (.cells #[.int .i64 x.1, .int .i64 x.2] 265)).cell? ⟨p, o, none⟩ = some (.slice ao n c) := by
    have hp0 : p < W0.heap.size := HP0.out.lt
    rw [World.cell?_alloc_lt _ _ _ (by exact hp0)]; exact hc0
  have A1 : n + 1 ≤ maxLen := by unfold maxLen; omega
  have A2 : (n + 1) * 16 ≤ 140737488355328 := by omega
  have A3 : (0 : Nat) ≤ (W0.alloc (.cells #[.int .i64 x.1, .int .i64 x.2] 265)).drew.heap.size := Nat.zero_le _
  have A4 : ∀ u ∈ ([.int .i64 x.1, .int .i64 x.2] : List Value), u.oneCell' = true := by simp [Value.oneCell']
  have HA4 := Lib.hid A4
  clear A4
  go_region_law (first | (refine step_append_lies _ rfl (.tmp 15) (.tmp 17) 222 rfl 0 265 i0 (.agg #[.int .i64 0, .int .i64 0]) 2 16 Tryz.underlying222 HI.out HZ0.out HZ1.out HZ2.out rfl (by decide) (.slice ao n c) n (fl n f) (by kernel_rfl) HO1.out ⟨W0.heap.size, 0, none⟩ 1 1 [.int .i64 x.1, .int .i64 x.2] (by kernel_rfl) rfl HN1.out HA4.out (by decide) A1 A2 A3 (W0.heap.size + 1) (by simp) ?_; intro g' c' w2 hown2 hg2 hat hlt; have hP2 := HP1.out.frm (Frm.grown (S := fun k => (Value.slice ao n c).ownBlock = some k) hg2 (fun _ h => h)) (fun e => HNE.out _ e rfl); have hc2 : w2.cell? ⟨p, o, none⟩ = some (.slice ao n c) := (hg2.cell_far ⟨p, o, none⟩ HP1.out.lt (fun e => HNE.out _ e.symm rfl)).trans hcA; have fz2 := fz_of (o := o) hP2; have HP2 := Lib.hid hP2; have HO2 := Lib.hid hown2; have HF2 := Lib.hid (HF1.out.trans (Frm.grown (S := fun k => (Value.slice ao n c).ownBlock = some k) hg2 (fun _ h => h)) (fun i h _ => .inr h)); have HAT := Lib.hid hat; clear hP2 hown2 hg2 hat))
  all_goals go_end0
  all_goals
    have hset : Frm (fun k => k = p) w2 (w2.setCell ⟨p, o, none⟩ (.slice (some ⟨g', 0, none⟩) (n + 1 : Nat) c')) := (Frm.refl _ _).setCell _ _ (.inl rfl)
    have hat := HAT.out
    have hnp : g' ≠ p := by
      rcases hat with h | h
      · exact HNE.out g' h
      · have := HP0.out.lt; omega
    exact ⟨g', c', rfl, HP2.out.set o _, ownsRow_frm HO2.out hset (fun k hk => by simp only [Value.ownBlock, Option.some.injEq] at hk; subst hk; exact hnp), HF2.out.trans hset (fun i h _ => .inl h), hat.imp id (fun h => by omega)⟩
end
end Go.Proofs.YtinkbgeckjbnbaaGreat
namespace Go.Proofs.YtinkbgeckjbnbaaGreat
section
open Go.RowKit
set_option linter.unusedVariables false

def putF (f : Nat → One) (n : Nat) (x : One) : Nat → One := fun k => if k = n then x else f k
set_option maxRecDepth 100000 in
theorem putF_eq (f : Nat → One) (n : Nat) (x : One) : putF f n x n = x := by simp [putF]
set_option maxRecDepth 100000 in
theorem putF_ne (f : Nat → One) (n k : Nat) (x : One) (h : k ≠ n) : putF f n x k = f k := by simp [putF, h]
set_option maxRecDepth 100000 in
theorem fl_put (f : Nat → One) (n : Nat) (x : One) : fl n f ++ oneCells x = fl (n + 1) (putF f n x) := by
  rw [fl_succ, putF_eq, fl_congr n (putF f n x) f (fun k hk => putF_ne _ _ _ _ (by omega))]
set_option maxRecDepth 100000 in
/-- what a variable that holds some pairs is, as blocks -/
theorem VO.open_ {w : World} {p o : Nat} {T : TypeId} {cs : List Value} {ao : Option Addr} {n c : Nat} {f : Nat → One} (h : VO w p o T cs ao n c f) (hn : 0 < n) :
    ∃ g sp, ao = some ⟨g, 0, none⟩ ∧ HB w g n f sp ∧ sp.length + n * 2 = c * 2 ∧ n ≤ c ∧ c ≤ maxLen ∧ p ≠ g := by
  obtain ⟨hp, ho, hown, hT⟩ := h
  obtain ⟨g, cap, hv, hb, hlt⟩ := hown.form hn
  simp only [Value.slice.injEq, true_and] at hv
  obtain ⟨rfl, rfl⟩ := hv
  obtain ⟨sp, h1, h2⟩ := ownsRow_blk hown
  have hne := ownsRow_ne hown hp hT g rfl
  rcases hown.2 with ⟨h', _⟩ | ⟨g', cap', cur, h', _, _, hnc, hmx, _, _⟩
  · simp at h'
  · simp only [Value.slice.injEq] at h'
    obtain ⟨_, _, rfl⟩ := h'
    exact ⟨g, sp, rfl, h2, h1, hnc, hmx, fun e => hne e.symm⟩
set_option maxRecDepth 100000 in
theorem VO.mk_ {w : World} {p o : Nat} {T : TypeId} {cs : List Value} {g n c : Nat} {f : Nat → One} {sp : List Value} (hp : Blk w p T cs) (ho : cs[o]? = some (.slice (some ⟨g, 0, none⟩) n c)) (hb : HB w g n f sp) (hl : sp.length + n * 2 = c * 2) (hn : n ≤ c) (hc : c ≤ maxLen) (hT : T ≠ 265) : VO w p o T cs (some ⟨g, 0, none⟩) n c f := by
  refine ⟨hp, ho, ⟨fl_len n f, .inr ⟨g, c, ((fl n f) ++ sp).toArray, rfl, Nat.zero_le _, hb, hn, hc, ?_, ?_⟩⟩, hT⟩
  · simp [fl_len]; omega
  · simp [fl_len]
set_option maxRecDepth 100000 in
theorem VO.cell {w : World} {p o : Nat} {T : TypeId} {cs : List Value} {ao : Option Addr} {n c : Nat} {f : Nat → One} (h : VO w p o T cs ao n c f) : w.cell? ⟨p, o, none⟩ = some (.slice ao n c) := by rw [h.blk.cell, h.var]
set_option maxRecDepth 100000 in
set_option maxHeartbeats 2000000 in
theorem hpush_any (p o n c : Nat) (T : TypeId) (cs : List Value) (ao : Option Addr) (f : Nat → One) (x : One) (w : World) (h : VO w p o T cs ao n c f) (hn : n ≤ 999) :
    Calls Tryz.prog 174 #[.iface 260 (.pointer (some ⟨p, o, none⟩)), .iface 265 (.agg #[.int .i64 x.1, .int .i64 x.2])] w fun e w' => ∃ g' c', e = .returned (.tuple #[]) ∧ VO w' p o T (cs.set o (.slice (some ⟨g', 0, none⟩) (n + 1 : Nat) c')) (some ⟨g', 0, none⟩) (n + 1) c' (upF n (putF f n x) n) ∧ Frm (fun k => k = p ∨ (Value.slice ao n c).ownBlock = some k) w w' ∧ ((Value.slice ao n c).ownBlock = some g' ∨ w.heap.size ≤ g') := by
  have hm := m_push ⟨p, o, none⟩
  have HV := Lib.hid h
  clear h
  go_enter Tryz.func174, Tryz.ntmps174
  go_wp2_with fail
  refine (mpush_any p o n c T cs ao f x _ HV.out hn).mono ?_
  rintro e w1 ⟨g', c', rfl, hP1, hO1, hF1, hl1⟩
  rw [fl_put] at hO1
  have hol : o < cs.length := (List.getElem?_eq_some_iff.1 HV.out.var).1
  have hV1 : VO w1 p o T (cs.set o (.slice (some ⟨g', 0, none⟩) (n + 1 : Nat) c')) (some ⟨g', 0, none⟩) (n + 1) c' (putF f n x) := ⟨hP1, by rw [List.getElem?_set_self (by omega)], hO1, HV.out.ty⟩
  obtain ⟨g1, sp, hg1, hb1, hsp, hnc, hcm, hpg⟩ := hV1.open_ (Nat.succ_pos n)
  simp only [Option.some.injEq, Addr.mk.injEq, and_true] at hg1
  subst hg1
  have hml := m_len hV1.cell
  have hMH : MH w1 p o g' (n + 1) c' (putF f n x) sp := ⟨hV1.cell, hb1, hpg, hP1.lt⟩
  have HMH := Lib.hid hMH
  have HV1 := Lib.hid hV1
  have HF1 := Lib.hid hF1
  have HL1 := Lib.hid hl1
  have HSP := Lib.hid hsp
  have HCM := Lib.hid hcm
  clear hm hP1 hO1 hF1 hl1 hV1 hb1 hMH hsp hcm
  have k1 : IntKind.i64.wrap (n : Int) = n := IntWalk.i64_in _ (by omega)
  have k2 : (0 : Int) ≤ n := by omega
  go_wp2_with fail
  refine (mlen_any _ _ _ _).mono ?_
  rintro e w' ⟨rfl, rfl⟩
  clear hml
  go_wp2_with fail
  refine (up_any p o g' (n + 1) c' n (putF f n x) sp _ HMH.out (by omega) (by omega)).mono ?_
  rintro e w2 ⟨rfl, hM2, hG2⟩
  have HM2 := Lib.hid hM2
  have HG2 := Lib.hid hG2
  clear hM2 hG2
  go_wp2_with fail
  go_end0
  refine ⟨g', c', rfl, ?_, ?_, HL1.out⟩
  · have hb2 := HV1.out.blk.frm (Frm.grown (S := fun k => k = g') HG2.out (fun g h => (Option.some.inj h).symm)) hpg
    exact VO.mk_ hb2 HV1.out.var HM2.out.2.1 HSP.out (by omega) HCM.out HV1.out.ty
  · refine HF1.out.trans (Frm.grown (S := fun k => k = g') HG2.out (fun g h => (Option.some.inj h).symm)) (fun i h hi => ?_)
    subst h
    rcases HL1.out with h | h
    · exact .inr h
    · omega
end
end Go.Proofs.YtinkbgeckjbnbaaGreat
namespace Go.Proofs.YtinkbgeckjbnbaaGreat
section
open Go.RowKit
set_option linter.unusedVariables false

set_option maxRecDepth 100000 in
theorem HB.set_same {w : World} {g n : Nat} {f : Nat → One} {sp : List Value} (h : HB w g n f sp) {i : Nat} (hi : i < n) : HB ((w.setCell ⟨g, i * 2, none⟩ (.int .i64 (f i).1)).setCell ⟨g, i * 2 + 1, none⟩ (.int .i64 (f i).2)) g n f sp := by
  have c0 := h.c0 hi
  have c1 := h.c1 hi
  unfold HB at h ⊢
  rw [h.cell] at c0 c1
  have := (h.set (i * 2) (.int .i64 (f i).1)).set (i * 2 + 1) (.int .i64 (f i).2)
  rw [Go.Proofs.YtinkbgeckjbnbaaGreat.set_same c0, Go.Proofs.YtinkbgeckjbnbaaGreat.set_same c1] at this
  exact this
set_option maxRecDepth 100000 in
theorem swapF_self (f : Nat → One) (i : Nat) : swapF f i i = f := by
  funext k
  unfold swapF
  split
  · rename_i e; rw [e]
  · rfl
set_option maxRecDepth 100000 in
set_option maxHeartbeats 2000000 in
theorem mswap_eq (g n c i : Nat) (f : Nat → One) (sp : List Value) (w : World) (h : HB w g n f sp) (hi : i < n) (hn : n ≤ 1000) :
    Calls Tryz.prog 234 #[.slice (some ⟨g, 0, none⟩) n c, .int .i64 i, .int .i64 i] w fun e w' => e = .returned (.tuple #[]) ∧ HB w' g n f sp ∧ w.grownBy w' (some g) := by
  have x0 := h.c0 hi
  have x1 := h.c1 hi
  have fz : ∀ k, w.frozen? ⟨g, k, none⟩ = false := fun k => h.frozen k
  have HH := Lib.hid ((h.set_same hi).set_same hi)
  generalize f i = x at *
  clear h
  go_enter Tryz.func234, Tryz.ntmps234
  go_wp2_with fail
  go_region
  all_goals go_end0
  all_goals
    refine ⟨rfl, HH.out, ?_⟩
    have h4 := grownBy_trans (grownBy_trans (grownBy_trans (grown_set w g (i * 2) (.int .i64 x.1)) (grown_set _ g (i * 2 + 1) (.int .i64 x.2))) (grown_set _ g (i * 2) (.int .i64 x.1))) (grown_set _ g (i * 2 + 1) (.int .i64 x.2))
    exact ⟨h4.os, h4.tape, h4.output, h4.size, h4.block⟩
set_option maxRecDepth 100000 in
theorem mswap_all (g n c i j : Nat) (f : Nat → One) (sp : List Value) (w : World) (h : HB w g n f sp) (hi : i < n) (hj : j < n) (hn : n ≤ 1000) :
    Calls Tryz.prog 234 #[.slice (some ⟨g, 0, none⟩) n c, .int .i64 i, .int .i64 j] w fun e w' => e = .returned (.tuple #[]) ∧ HB w' g n (swapF f i j) sp ∧ w.grownBy w' (some g) := by
  by_cases hij : i = j
  · subst hij
    rw [swapF_self]
    exact mswap_eq g n c i f sp w h hi hn
  · exact mswap_any g n c i j f sp w h hi hj hn hij
set_option maxRecDepth 100000 in
theorem downF_out : ∀ (q : Nat) (f : Nat → One) (i n k : Nat), n ≤ k → (downF q f i n).1 k = f k
  | 0, f, i, n, k, h => rfl
  | q + 1, f, i, n, k, h => by
    unfold downF
    split
    · rfl
    · rename_i hn
      obtain ⟨_, h2, _, h4, _⟩ := childF_cases f i n (by omega)
      split
      · rfl
      · rw [downF_out q _ _ n k h, swapF_o _ _ _ _ (by omega) (by omega)]
set_option maxRecDepth 100000 in
theorem VO.frmBack {w w' : World} {p o : Nat} {T : TypeId} {cs : List Value} {g n c : Nat} {f f' : Nat → One} {sp : List Value} (h : VO w p o T cs (some ⟨g, 0, none⟩) n c f) (hpg : p ≠ g) (hb : HB w' g n f' sp) (hsp : sp.length + n * 2 = c * 2) (hnc : n ≤ c) (hcm : c ≤ maxLen) (hg : w.grownBy w' (some g)) : VO w' p o T cs (some ⟨g, 0, none⟩) n c f' :=
  VO.mk_ (h.blk.frm (Frm.grown (S := fun k => k = g) hg (fun g h => (Option.some.inj h).symm)) hpg) h.var hb hsp hnc hcm h.ty
end
end Go.Proofs.YtinkbgeckjbnbaaGreat
namespace Go.Proofs.YtinkbgeckjbnbaaGreat
section
open Go.RowKit
set_option linter.unusedVariables false

def fixF (f : Nat → One) (i n : Nat) : Nat → One := if i < (downF n f i n).2 then (downF n f i n).1 else upF i (downF n f i n).1 i
set_option maxRecDepth 100000 in
theorem upF_out : ∀ (q : Nat) (f : Nat → One) (j k : Nat), j < k → upF q f j k = f k
  | 0, f, j, k, h => rfl
  | q + 1, f, j, k, h => by
    unfold upF
    split
    · rfl
    · rw [upF_out q _ _ k (by omega), swapF_o _ _ _ _ (by omega) (by omega)]
set_option maxRecDepth 100000 in
theorem fixF_out (f : Nat → One) (i n k : Nat) (h : n ≤ k) (hi : i < n) : fixF f i n k = f k := by
  unfold fixF
  split
  · exact downF_out _ _ _ _ _ h
  · rw [upF_out _ _ _ _ (by omega), downF_out _ _ _ _ _ h]
set_option maxRecDepth 100000 in
set_option maxHeartbeats 2000000 in
theorem hfix_any (p o g n c i : Nat) (T : TypeId) (cs : List Value) (f : Nat → One) (w : World) (h : VO w p o T cs (some ⟨g, 0, none⟩) n c f) (hi : i < n) (hn : n ≤ 1000) :
    Calls Tryz.prog 173 #[.iface 260 (.pointer (some ⟨p, o, none⟩)), .int .i64 i] w fun e w' => e = .returned (.tuple #[]) ∧ VO w' p o T cs (some ⟨g, 0, none⟩) n c (fixF f i n) ∧ Frm (fun k => k = g) w w' := by
  obtain ⟨g1, sp, hg1, hb, hsp, hnc, hcm, hpg⟩ := h.open_ (by omega)
  simp only [Option.some.injEq, Addr.mk.injEq, and_true] at hg1
  subst hg1
  have hml := m_len h.cell
  have hMH : MH w p o g n c f sp := ⟨h.cell, hb, hpg, h.blk.lt⟩
  have HMH := Lib.hid hMH
  have HV := Lib.hid h
  have HSP := Lib.hid hsp
  have HCM := Lib.hid hcm
  clear h hb hMH hsp hcm
  obtain ⟨R, hR⟩ : ∃ R, fixF f i n = R := ⟨_, rfl⟩
  rw [hR]
  have HR := Lib.hid hR
  clear hR
  go_enter Tryz.func173, Tryz.ntmps173
  go_wp2_with fail
  refine (mlen_any _ _ _ _).mono ?_
  rintro e w' ⟨rfl, rfl⟩
  clear hml
  go_wp2_with fail
  refine (down_any p o g n c i n f sp _ HMH.out (by omega) (by omega) (by omega)).mono ?_
  rintro e w2 ⟨rfl, hM2, hG2⟩
  have HM2 := Lib.hid hM2
  have HG2 := Lib.hid hG2
  clear hM2 hG2 HMH
  unfold fixF at HR
  generalize downF n f i n = r at *
  by_cases hr : i < r.2
  · have d1 : decide (i < r.2) = true := by simpa using hr
    have hx := HR.out
    rw [if_pos hr] at hx
    subst hx
    clear HR
    go_wp2_with fail
    go_end0
    exact ⟨rfl, HV.out.frmBack hpg HM2.out.2.1 HSP.out hnc HCM.out HG2.out, Frm.grown HG2.out (fun g h => (Option.some.inj h).symm)⟩
  · have d1 : decide (i < r.2) = false := by simpa using hr
    have hx := HR.out
    rw [if_neg hr] at hx
    subst hx
    clear HR
    go_wp2_with fail
    refine (up_any p o g n c i r.1 sp _ HM2.out (by omega) (by omega)).mono ?_
    rintro e w3 ⟨rfl, hM3, hG3⟩
    have HM3 := Lib.hid hM3
    have HG3 := Lib.hid (grownBy_trans HG2.out hG3)
    clear hM3 hG3 HM2 HG2
    go_wp2_with fail
    go_end0
    exact ⟨rfl, HV.out.frmBack hpg HM3.out.2.1 HSP.out hnc HCM.out HG3.out, Frm.grown HG3.out (fun g h => (Option.some.inj h).symm)⟩
def remF (f : Nat → One) (i n : Nat) : Nat → One := if i = n then f else fixF (swapF f i n) i n
set_option maxRecDepth 100000 in
set_option maxHeartbeats 2000000 in
theorem hrem_any (p o g n c i : Nat) (T : TypeId) (cs : List Value) (f : Nat → One) (w : World) (h : VO w p o T cs (some ⟨g, 0, none⟩) (n + 1) c f) (hi : i ≤ n) (hn : n ≤ 999) :
    Calls Tryz.prog 165 #[.iface 260 (.pointer (some ⟨p, o, none⟩)), .int .i64 i] w fun e w' => e = .returned (.iface 265 (.agg #[.int .i64 (f i).1, .int .i64 (f i).2])) ∧ VO w' p o T (cs.set o (.slice (some ⟨g, 0, none⟩) n c)) (some ⟨g, 0, none⟩) n c (remF f i n) ∧ Frm (fun k => k = p ∨ k = g) w w' := by
  obtain ⟨g1, sp, hg1, hb, hsp, hnc, hcm, hpg⟩ := h.open_ (Nat.succ_pos n)
  simp only [Option.some.injEq, Addr.mk.injEq, and_true] at hg1
  subst hg1
  have hml := m_len h.cell
  have hMH : MH w p o g (n + 1) c f sp := ⟨h.cell, hb, hpg, h.blk.lt⟩
  have hol : o < cs.length := (List.getElem?_eq_some_iff.1 h.var).1
  have HMH := Lib.hid hMH
  have HV := Lib.hid h
  have HSP := Lib.hid hsp
  have HCM := Lib.hid hcm
  clear h hb hMH hsp hcm
  have k1 : IntKind.i64.wrap (n : Int) = n := IntWalk.i64_in _ (by omega)
  have k2 : (0 : Int) ≤ n := by omega
  have hmp := m_pop ⟨p, o, none⟩
  obtain ⟨R, hR⟩ : ∃ R, remF f i n = R := ⟨_, rfl⟩
  rw [hR]
  unfold remF at hR
  have HR := Lib.hid hR
  clear hR
  go_enter Tryz.func165, Tryz.ntmps165
  go_wp2_with fail
  refine (mlen_any _ _ _ _).mono ?_
  rintro e w' ⟨rfl, rfl⟩
  clear hml
  by_cases hin : i = n
  · subst hin
    have hx := HR.out
    rw [if_pos rfl] at hx
    subst hx
    clear HR
    go_wp2_with fail
    refine (mpop_any p o g i c T cs _ sp _ HV.out.blk HV.out.var HMH.out.2.1 hpg hnc (by omega)).mono ?_
    rintro e w3 ⟨rfl, hB3, hF3⟩
    have HB3 := Lib.hid hB3
    have HF3 := Lib.hid hF3
    clear hB3 hF3
    go_wp2_with fail
    go_ret
    refine ⟨rfl, ?_, HF3.out.mono (fun i h _ => .inl h)⟩
    have h3 := HB_last HMH.out.2.1
    exact VO.mk_ HB3.out (by rw [List.getElem?_set_self (by omega)]) (h3.frm HF3.out (fun e => hpg e.symm)) (by have := HSP.out; simp [oneCells]; omega) (by omega) HCM.out HV.out.ty
  · have HR2 : RowKit.Hid (fixF (swapF f i n) i n = R) := by have := HR.out; rw [if_neg hin] at this; exact this
    clear HR
    have hne : ((n : Int) == (i : Int)) = false := by rw [beq_eq_false_iff_ne]; omega
    have hne2 : ((n : Int) != (i : Int)) = true := by simp [bne, hne]
    have hms := m_swap HMH.out.1
    have hlt : i < n := by omega
    clear hin
    go_wp2_with fail
    refine (mswap_all g (n + 1) c i n f sp _ HMH.out.2.1 (by omega) (by omega) (by omega)).mono ?_
    rintro e w1 ⟨rfl, hb, hg⟩
    have HM1 := Lib.hid (HMH.out.grown hg hb)
    have HG1 := Lib.hid hg
    clear hb hg hms
    go_wp2_with fail
    refine (down_any p o g (n + 1) c i n (swapF f i n) sp _ HM1.out (by omega) (by omega) (by omega)).mono ?_
    rintro e w2 ⟨rfl, hM2, hG2⟩
    have HM2 := Lib.hid hM2
    have HG2 := Lib.hid (grownBy_trans HG1.out hG2)
    clear hM2 hG2 HG1 HM1
    have hout : fixF (swapF f i n) i n n = f i := by rw [fixF_out _ _ _ _ (Nat.le_refl n) hlt, swapF_j]
    have HOUT := Lib.hid hout
    clear hout
    unfold fixF at HOUT HR2
    generalize downF n (swapF f i n) i n = r at *
    by_cases hr : i < r.2
    · have d1 : decide (i < r.2) = true := by simpa using hr
      go_wp2_with fail
      have hV2 := HV.out.frmBack hpg HM2.out.2.1 HSP.out hnc HCM.out HG2.out
      refine (mpop_any p o g n c T cs _ sp _ hV2.blk hV2.var HM2.out.2.1 hpg hnc (by omega)).mono ?_
      rintro e w3 ⟨rfl, hB3, hF3⟩
      have hx := HOUT.out
      have hy := HR2.out
      rw [if_pos hr] at hx hy
      subst hy
      rw [hx]
      clear HR2
      have HB3 := Lib.hid hB3
      have HF3 := Lib.hid hF3
      clear hV2 hB3 hF3 hx
      go_wp2_with fail
      go_ret
      refine ⟨rfl, ?_, ?_⟩
      · have h3 := HB_last HM2.out.2.1
        exact VO.mk_ HB3.out (by rw [List.getElem?_set_self (by omega)]) (h3.frm HF3.out (fun e => hpg e.symm)) (by have := HSP.out; simp [oneCells]; omega) (by omega) HCM.out HV.out.ty
      · exact (Frm.grown (S := fun k => k = p ∨ k = g) HG2.out (fun k h => .inr (Option.some.inj h).symm)).trans HF3.out (fun i h _ => .inl h)
    · have d1 : decide (i < r.2) = false := by simpa using hr
      go_wp2_with fail
      refine (up_any p o g (n + 1) c i r.1 sp _ HM2.out (by omega) (by omega)).mono ?_
      rintro e w3 ⟨rfl, hM3, hG3⟩
      have HM3 := Lib.hid hM3
      have HG3 := Lib.hid (grownBy_trans HG2.out hG3)
      clear hM3 hG3 HM2 HG2
      go_wp2_with fail
      have hV2 := HV.out.frmBack hpg HM3.out.2.1 HSP.out hnc HCM.out HG3.out
      refine (mpop_any p o g n c T cs _ sp _ hV2.blk hV2.var HM3.out.2.1 hpg hnc (by omega)).mono ?_
      rintro e w4 ⟨rfl, hB3, hF3⟩
      have hx := HOUT.out
      have hy := HR2.out
      rw [if_neg hr] at hx hy
      subst hy
      rw [hx]
      clear HR2
      have HB3 := Lib.hid hB3
      have HF3 := Lib.hid hF3
      clear hV2 hB3 hF3 hx
      go_wp2_with fail
      go_ret
      refine ⟨rfl, ?_, ?_⟩
      · have h3 := HB_last HM3.out.2.1
        exact VO.mk_ HB3.out (by rw [List.getElem?_set_self (by omega)]) (h3.frm HF3.out (fun e => hpg e.symm)) (by have := HSP.out; simp [oneCells]; omega) (by omega) HCM.out HV.out.ty
      · exact (Frm.grown (S := fun k => k = p ∨ k = g) HG3.out (fun k h => .inr (Option.some.inj h).symm)).trans HF3.out (fun i h _ => .inl h)
end
end Go.Proofs.YtinkbgeckjbnbaaGreat
namespace Go.Proofs.YtinkbgeckjbnbaaGreat
section
open Go.RowKit
set_option linter.unusedVariables false

set_option maxRecDepth 100000 in
theorem fnd1_any (b : Nat) (id : Int) (x : One) (w : World) (h : w.cell? ⟨b, 0, none⟩ = some (.int .i64 id)) : Calls Tryz.prog 197 #[.agg #[.int .i64 x.1, .int .i64 x.2], .pointer (some ⟨b, 0, none⟩)] w fun e w' => e = .returned (.bool (decide (x.2 = id))) ∧ Below w.heap.size w w' := by
  have hl := cell?_lt h
  have h' : (w.alloc (.cells #[.int .i64 x.1, .int .i64 x.2] 265)).cell? ⟨b, 0, none⟩ = some (.int .i64 id) := by rw [World.cell?_alloc_lt _ _ _ (by exact hl)]; exact h
  go_enter Tryz.func197, Tryz.ntmps197
  go_wp2_with fail
  go_ret
  exact ⟨by congr 2, (Below.refl _ _).alloc (Nat.le_refl _) _⟩
/-- the place of a number; -1: it is not there -/
def fndI (f : Nat → One) (n : Nat) (id : Int) : Int := match (List.range n).find? (fun k => decide ((f k).2 = id)) with
  | some k => k
  | none => -1
set_option maxRecDepth 100000 in
theorem fndI_at (f : Nat → One) (n k : Nat) (id : Int) (hk : k < n) (h : (f k).2 = id) (hj : ∀ j, j < k → (f j).2 ≠ id) : fndI f n id = k := by
  unfold fndI
  have : (List.range n).find? (fun k => decide ((f k).2 = id)) = some k := by
    rw [List.find?_range_eq_some]
    exact ⟨by simpa using h, by simpa using hk, fun j h1 => by simpa using hj j h1⟩
  rw [this]
set_option maxRecDepth 100000 in
theorem fndI_no (f : Nat → One) (n : Nat) (id : Int) (hj : ∀ j, j < n → (f j).2 ≠ id) : fndI f n id = -1 := by
  unfold fndI
  have : (List.range n).find? (fun k => decide ((f k).2 = id)) = none := by
    rw [List.find?_range_eq_none]
    intro j h1
    simpa using hj j h1
  rw [this]
set_option maxRecDepth 100000 in
theorem fndI_cases (f : Nat → One) (n : Nat) (id : Int) : (fndI f n id = -1 ∧ ∀ j, j < n → (f j).2 ≠ id) ∨ (∃ k, fndI f n id = (k : Nat) ∧ k < n ∧ (f k).2 = id) := by
  cases hf : (List.range n).find? (fun k => decide ((f k).2 = id)) with
  | none =>
    rw [List.find?_range_eq_none] at hf
    have h1 : ∀ j, j < n → (f j).2 ≠ id := fun j hj => by simpa using hf j hj
    exact .inl ⟨fndI_no f n id h1, h1⟩
  | some k =>
    rw [List.find?_range_eq_some] at hf
    have h1 : (f k).2 = id := by simpa using hf.1
    have h2 : k < n := by simpa using hf.2.1
    exact .inr ⟨k, fndI_at f n k id h2 h1 (fun j hj => by simpa using hf.2.2 j hj), h2, h1⟩
def Prs (w : World) (ao : Option Addr) (n : Nat) (f : Nat → One) : Prop := ∀ k, k < n → ∃ g, ao = some ⟨g, 0, none⟩ ∧ g < w.heap.size ∧ w.cell? ⟨g, k * 2, none⟩ = some (.int .i64 (f k).1) ∧ w.cell? ⟨g, k * 2 + 1, none⟩ = some (.int .i64 (f k).2)
set_option maxRecDepth 100000 in
theorem Prs.below {w w' : World} {ao : Option Addr} {n : Nat} {f : Nat → One} (h : Prs w ao n f) (hb : Below w.heap.size w w') : Prs w' ao n f := fun k hk => by
  obtain ⟨g, e, hg, h0, h1⟩ := h k hk
  exact ⟨g, e, Nat.lt_of_lt_of_le hg hb.size, (hb.cell (p := ⟨g, k * 2, none⟩) hg).trans h0, (hb.cell (p := ⟨g, k * 2 + 1, none⟩) hg).trans h1⟩
set_option maxRecDepth 100000 in
theorem VO.prs {w : World} {p o : Nat} {T : TypeId} {cs : List Value} {ao : Option Addr} {n c : Nat} {f : Nat → One} (h : VO w p o T cs ao n c f) : Prs w ao n f := fun k hk => by
  obtain ⟨g, sp, e, hb, _, _, _, _⟩ := h.open_ (by omega)
  exact ⟨g, e, Blk.lt hb, hb.c0 hk, hb.c1 hk⟩
def IxR (w : World) (n : Nat) (f : Nat → One) (id : Int) (v : Value) (wr : World) : Prop := ∃ k : Nat, k ≤ n ∧ v = .int .i64 k ∧ RowKit.Hid (∀ j, j < k → (f j).2 ≠ id) ∧ RowKit.Hid (Below w.heap.size w wr)
set_option maxRecDepth 100000 in
set_option maxHeartbeats 2000000 in
theorem ixf_any (ao : Option Addr) (n c b : Nat) (f : Nat → One) (id : Int) (w : World) (h : Prs w ao n f) (hb : w.cell? ⟨b, 0, none⟩ = some (.int .i64 id)) (hn : n ≤ 1000) :
    Calls Tryz.prog 196 #[.slice ao n c, .func (Fn.func 197) #[] #[.pointer (some ⟨b, 0, none⟩)]] w fun e w' => e = .returned (.int .i64 (fndI f n id)) ∧ Below w.heap.size w w' := by
  have HP := Lib.hid h
  have HC := Lib.hid hb
  clear h hb
  obtain ⟨R, hR⟩ : ∃ R, fndI f n id = R := ⟨_, rfl⟩
  rw [hR]
  have HR := Lib.hid hR
  clear hR
  go_enter Tryz.func196, Tryz.ntmps196
  go_wp2_with fail
  go_loopw [8] (fun v wr => IxR w n f id v wr) (fun v _ => n - (intOf v).toNat)
  case atStart => exact ⟨0, Nat.zero_le _, rfl, (fun j hj => by omega), Below.refl _ _⟩
  case round =>
    obtain ⟨k, hk, rfl, HJ, HB⟩ := hrel
    by_cases hlt : k < n
    · obtain ⟨g, rfl, hg, h0, h1⟩ := (HP.out.below HB.out) k hlt
      have hlc := cell?_lt HC.out
      have hcb := (HB.out.cell (p := ⟨b, 0, none⟩) hlc).trans HC.out
      have HCB := Lib.hid hcb
      clear hcb
      go_wp2_with fail
      refine (fnd1_any b id (f k) _ HCB.out).mono ?_
      rintro e w2 ⟨rfl, hb2⟩
      have HB2 := Lib.hid (HB.out.trans (hb2.mono HB.out.size))
      clear hb2 h0 h1
      by_cases hx : (f k).2 = id
      · have d1 : decide ((f k).2 = id) = true := by simpa using hx
        have hr : R = (k : Int) := by rw [← HR.out]; exact fndI_at f n k id hlt hx HJ.out
        have HX := Lib.hid hx
        clear hx HR
        subst hr
        go_wp2_with fail
        go_ret
        exact ⟨rfl, HB2.out⟩
      · have d1 : decide ((f k).2 = id) = false := by simpa using hx
        have HX := Lib.hid hx
        clear hx
        go_wp2_with fail
        go_roundw
        case rel => exact ⟨k + 1, by omega, by go_num, (fun j hj => by
          rcases (by omega : j < k ∨ j = k) with h | h
          · exact HJ.out j h
          · subst h; exact HX.out), HB2.out⟩
        case measure => simp [intOf]; omega
    · have hkn : k = n := by omega
      subst hkn
      have hr : R = -1 := by rw [← HR.out]; exact fndI_no f k id HJ.out
      clear HR hlt
      subst hr
      go_wp2_with fail
      go_ret
      exact ⟨rfl, HB.out⟩
set_option maxRecDepth 100000 in
theorem find_any (p : Nat) (id : Int) (w : World) (most : Int) (ao : Option Addr) (n c : Nat) (f : Nat → One) (h : VO w p 1 224 [.int .i64 most, .slice ao n c] ao n c f) (hn : n ≤ 1000) :
   Calls Tryz.prog 164 #[.pointer (some ⟨p, 0, none⟩), .int .i64 id] w fun e w' => e = .returned (.int .i64 (fndI f n id)) ∧ Below w.heap.size w w' := by
  have c1 := h.cell
  have hl := cell?_lt c1
  have c2 : (w.alloc (.cells #[.int .i64 id] 3)).cell? ⟨p, 1, none⟩ = some (.slice ao n c) := by rw [World.cell?_alloc_lt _ _ _ (by exact hl)]; exact c1
  have HP : RowKit.Hid (Prs (w.alloc (.cells #[.int .i64 id] 3)) ao n f) := h.prs.below ((Below.refl _ _).alloc (Nat.le_refl _) _)
  have HC : RowKit.Hid ((w.alloc (.cells #[.int .i64 id] 3)).cell? ⟨w.heap.size, 0, none⟩ = some (.int .i64 id)) := by unfold RowKit.Hid; rw [cell_of_row _ _ _ _ _ _ (heap_alloc_new w _)]; rfl
  clear h
  go_enter Tryz.func164, Tryz.ntmps164
  go_wp2_with fail
  refine (ixf_any ao n c w.heap.size f id _ HP.out HC.out hn).mono ?_
  rintro e w2 ⟨rfl, hb2⟩
  have HB2 := Lib.hid (((Below.refl _ w).alloc (Nat.le_refl _) _).trans (hb2.mono (by simp)))
  clear hb2
  go_wp2_with fail
  go_ret
  exact ⟨rfl, HB2.out⟩
set_option maxRecDepth 100000 in
theorem tlen_any (p : Nat) (w : World) (most : Int) (ao : Option Addr) (n c : Nat) (f : Nat → One) (h : VO w p 1 224 [.int .i64 most, .slice ao n c] ao n c f) :
   Calls Tryz.prog 76 #[.pointer (some ⟨p, 0, none⟩)] w fun e w' => e = .returned (.int .i64 n) ∧ w = w' := by
  have c1 := h.cell
  clear h
  go_enter Tryz.func76, Tryz.ntmps76
  go_wp2_with fail
  go_ret
  exact ⟨rfl, rfl⟩
set_option maxRecDepth 100000 in
theorem new_any (most : Int) (w : World) (h1 : 1 ≤ most) (h2 : most ≤ 24) :
   Calls Tryz.prog 60 #[.int .i64 most] w fun e w' => e = .returned (.tuple #[.pointer (some ⟨w.heap.size, 0, none⟩), .int .i64 0]) ∧ w' = w.alloc (.cells #[.int .i64 most, .slice none 0 0] 224) := by
  go_enter Tryz.func60, Tryz.ntmps60
  go_wp2_with fail
  go_ret2
  exact ⟨rfl, rfl⟩
end
end Go.Proofs.YtinkbgeckjbnbaaGreat
namespace Go.Proofs.YtinkbgeckjbnbaaGreat
section
open Go.RowKit
set_option linter.unusedVariables false

set_option maxRecDepth 100000 in
theorem VO.frm {S : Nat → Prop} {w w' : World} {p o : Nat} {T : TypeId} {cs : List Value} {ao : Option Addr} {n c : Nat} {f : Nat → One} (h : VO w p o T cs ao n c f) (hf : Frm S w w') (hp : ¬ S p) (hg : ∀ k, (Value.slice ao n c).ownBlock = some k → ¬ S k) : VO w' p o T cs ao n c f :=
  ⟨h.blk.frm hf hp, h.var, ownsRow_frm h.own hf hg, h.ty⟩
set_option maxRecDepth 100000 in
theorem VO.below {w w' : World} {p o : Nat} {T : TypeId} {cs : List Value} {ao : Option Addr} {n c : Nat} {f : Nat → One} (h : VO w p o T cs ao n c f) (hf : Below w.heap.size w w') : VO w' p o T cs ao n c f :=
  h.frm (Frm.below (S := fun _ => False) hf) id (fun _ _ => id)
def atV (f : Nat → One) (n : Nat) (id : Int) : Int × Bool := if fndI f n id < 0 then (0, false) else ((f (fndI f n id).toNat).1, true)
set_option maxRecDepth 100000 in
theorem atV_no {f : Nat → One} {n : Nat} {id : Int} (h : fndI f n id = -1) : atV f n id = (0, false) := by unfold atV; rw [h]; rfl
set_option maxRecDepth 100000 in
theorem atV_yes {f : Nat → One} {n k : Nat} {id : Int} (h : fndI f n id = (k : Nat)) : atV f n id = ((f k).1, true) := by unfold atV; rw [h, if_neg (by omega)]; simp
/-- a Timers at p -/
abbrev TM (w : World) (p : Nat) (most : Int) (ao : Option Addr) (n c : Nat) (f : Nat → One) : Prop := VO w p 1 224 [.int .i64 most, .slice ao n c] ao n c f
set_option maxRecDepth 100000 in
theorem at_any (p : Nat) (id : Int) (w : World) (most : Int) (ao : Option Addr) (n c : Nat) (f : Nat → One) (h : TM w p most ao n c f) (hn : n ≤ 1000) :
   Calls Tryz.prog 116 #[.pointer (some ⟨p, 0, none⟩), .int .i64 id] w fun e w' => e = .returned (.tuple #[.int .i64 (atV f n id).1, .bool (atV f n id).2]) ∧ Below w.heap.size w w' := by
  have HV := Lib.hid h
  clear h
  rcases fndI_cases f n id with ⟨hx, _⟩ | ⟨k, hx, hk, hid⟩
  · rw [atV_no hx]
    have HX := Lib.hid hx
    clear hx
    go_enter Tryz.func116, Tryz.ntmps116
    go_wp2_with fail
    refine (find_any p id _ most ao n c f HV.out hn).mono ?_
    rintro e w1 ⟨rfl, hb⟩
    rw [HX.out]
    have HB := Lib.hid hb
    clear hb
    go_wp2_with fail
    go_ret2
    exact ⟨rfl, HB.out⟩
  · rw [atV_yes hx]
    have HX := Lib.hid hx
    clear hx hid
    go_enter Tryz.func116, Tryz.ntmps116
    go_wp2_with fail
    refine (find_any p id _ most ao n c f HV.out hn).mono ?_
    rintro e w1 ⟨rfl, hb⟩
    rw [HX.out]
    have hV1 := HV.out.below hb
    have c1 := hV1.cell
    obtain ⟨g, rfl, hg, h0, h1⟩ := hV1.prs k hk
    have HB := Lib.hid hb
    clear hb hV1 h1
    have k1 : (0 : Int) ≤ (k : Int) := by omega
    have k2 : (k : Int) < (n : Int) := by omega
    go_wp2_with fail
    go_ret2
    exact ⟨rfl, HB.out⟩
set_option maxRecDepth 100000 in
theorem cancel_no (p : Nat) (id : Int) (w : World) (most : Int) (ao : Option Addr) (n c : Nat) (f : Nat → One) (h : TM w p most ao n c f) (hn : n ≤ 1000) (hx : fndI f n id = -1) :
   Calls Tryz.prog 111 #[.pointer (some ⟨p, 0, none⟩), .int .i64 id] w fun e w' => e = .returned (.bool false) ∧ Below w.heap.size w w' := by
  have HV := Lib.hid h
  have HX := Lib.hid hx
  clear h hx
  go_enter Tryz.func111, Tryz.ntmps111
  go_wp2_with fail
  refine (find_any p id _ most ao n c f HV.out hn).mono ?_
  rintro e w1 ⟨rfl, hb⟩
  rw [HX.out]
  have HB := Lib.hid hb
  clear hb
  go_wp2_with fail
  go_ret
  exact ⟨rfl, HB.out⟩
set_option maxRecDepth 100000 in
set_option maxHeartbeats 1000000 in
theorem cancel_yes (p : Nat) (id : Int) (w : World) (most : Int) (ao : Option Addr) (n c k : Nat) (f : Nat → One) (h : TM w p most ao (n + 1) c f) (hn : n ≤ 999) (hx : fndI f (n + 1) id = (k : Nat)) (hk : k ≤ n) :
   Calls Tryz.prog 111 #[.pointer (some ⟨p, 0, none⟩), .int .i64 id] w fun e w' => e = .returned (.bool true) ∧ TM w' p most ao n c (remF f k n) ∧ Frm (fun i => i = p ∨ (Value.slice ao (n + 1 : Nat) c).ownBlock = some i) w w' := by
  obtain ⟨g, sp, rfl, _⟩ := h.open_ (Nat.succ_pos n)
  have HV := Lib.hid h
  have HX := Lib.hid hx
  clear h hx
  go_enter Tryz.func111, Tryz.ntmps111
  go_wp2_with fail
  refine (find_any p id _ most _ (n + 1) c f HV.out (by omega)).mono ?_
  rintro e w1 ⟨rfl, hb⟩
  rw [HX.out]
  have HB := Lib.hid hb
  have HV1 := Lib.hid (HV.out.below hb)
  clear hb
  have k1 : (0 : Int) ≤ (k : Int) := by omega
  go_wp2_with fail
  refine (hrem_any p 1 g n c k 224 _ f _ HV1.out hk hn).mono ?_
  rintro e w2 ⟨rfl, hV2, hF2⟩
  have HV2 := Lib.hid hV2
  have HF2 := Lib.hid hF2
  clear hV2 hF2
  go_wp2_with fail
  go_ret
  exact ⟨rfl, HV2.out, ((Frm.below (S := fun i => i = p ∨ i = g) HB.out).trans HF2.out (fun i h _ => h)).mono (fun i h _ => h.imp (fun h => h) (fun e => by rw [e]; rfl))⟩
set_option maxRecDepth 100000 in
set_option maxHeartbeats 1000000 in
theorem set_arg (p : Nat) (id at_ : Int) (w : World) (most : Int) (ao : Option Addr) (n c : Nat) (f : Nat → One) (h : TM w p most ao n c f) (hn : n ≤ 1000) (hx : id < 0 ∨ at_ < 0 ∨ 1099511627776 < at_) :
   Calls Tryz.prog 122 #[.pointer (some ⟨p, 0, none⟩), .int .i64 id, .int .i64 at_] w fun e w' => e = .returned (.int .i64 2) ∧ Below w.heap.size w w' := by
  have HV := Lib.hid h
  clear h
  generalize hI : fndI f n id = I
  have HI := Lib.hid hI
  clear hI
  by_cases h1 : id < 0
  · clear hx
    go_enter Tryz.func122, Tryz.ntmps122
    go_wp2_with fail
    refine (find_any p id _ most ao n c f HV.out hn).mono ?_
    rintro e w1 ⟨rfl, hb⟩
    rw [HI.out]
    have HB := Lib.hid hb
    clear hb
    go_wp2_with fail
    go_ret
    exact ⟨rfl, HB.out⟩
  · have h1' : 0 ≤ id := by omega
    by_cases h2 : at_ < 0
    · clear hx
      go_enter Tryz.func122, Tryz.ntmps122
      go_wp2_with fail
      refine (find_any p id _ most ao n c f HV.out hn).mono ?_
      rintro e w1 ⟨rfl, hb⟩
      rw [HI.out]
      have HB := Lib.hid hb
      clear hb
      go_wp2_with fail
      go_ret
      exact ⟨rfl, HB.out⟩
    · have h3 : 1099511627776 < at_ := by omega
      have h2' : 0 ≤ at_ := by omega
      clear hx
      go_enter Tryz.func122, Tryz.ntmps122
      go_wp2_with fail
      refine (find_any p id _ most ao n c f HV.out hn).mono ?_
      rintro e w1 ⟨rfl, hb⟩
      rw [HI.out]
      have HB := Lib.hid hb
      clear hb
      go_wp2_with fail
      go_ret
      exact ⟨rfl, HB.out⟩
set_option maxRecDepth 100000 in
theorem fl_set (n k : Nat) (f : Nat → One) (a : Int) (hk : k < n) : (fl n f).set (k * 2) (.int .i64 a) = fl n (putF f k (a, (f k).2)) := by
  apply List.ext_getElem?
  intro q
  rw [List.getElem?_set]
  by_cases hq : q < n * 2
  · have hr : q % 2 < 2 := Nat.mod_lt _ (by omega)
    have hkk : q / 2 < n := by omega
    have hget : ∀ h : Nat → One, (fl n h)[q]? = (oneCells (h (q / 2)))[q % 2]? := by
      intro h
      have := flatMap_get (fun k => oneCells (h k)) 2 (fun _ => rfl) (List.range n) (q / 2) (q % 2) hr
      rw [show q / 2 * 2 + q % 2 = q from by omega, List.getElem?_range hkk] at this
      exact this
    rw [hget, hget]
    by_cases e : k * 2 = q
    · rw [if_pos e, if_pos (by rw [fl_len]; omega), show q / 2 = k from by omega, show q % 2 = 0 from by omega, putF_eq]; rfl
    · rw [if_neg e]
      by_cases e2 : q / 2 = k
      · rw [e2, show q % 2 = 1 from by omega, putF_eq]; rfl
      · rw [putF_ne _ _ _ _ e2]
  · rw [if_neg (by omega), List.getElem?_eq_none (by rw [fl_len]; omega), List.getElem?_eq_none (by rw [fl_len]; omega)]
set_option maxRecDepth 100000 in
set_option maxHeartbeats 1000000 in
theorem set_old (p : Nat) (id at_ : Int) (w : World) (most : Int) (ao : Option Addr) (n c k : Nat) (f : Nat → One) (h : TM w p most ao n c f) (hn : n ≤ 1000) (h1 : 0 ≤ id) (h2 : 0 ≤ at_) (h3 : at_ ≤ 1099511627776) (hx : fndI f n id = (k : Nat)) (hk : k < n) :
   Calls Tryz.prog 122 #[.pointer (some ⟨p, 0, none⟩), .int .i64 id, .int .i64 at_] w fun e w' => e = .returned (.int .i64 0) ∧ TM w' p most ao n c (fixF (putF f k (at_, (f k).2)) k n) ∧ Frm (fun i => i = p ∨ (Value.slice ao n c).ownBlock = some i) w w' := by
  obtain ⟨g, sp, rfl, _, _⟩ := h.open_ (by omega)
  have HV := Lib.hid h
  have HX := Lib.hid hx
  clear h hx
  go_enter Tryz.func122, Tryz.ntmps122
  go_wp2_with fail
  refine (find_any p id _ most _ n c f HV.out (by omega)).mono ?_
  rintro e w1 ⟨rfl, hb⟩
  rw [HX.out]
  have HB := Lib.hid hb
  have hV1 := HV.out.below hb
  have c1 := hV1.cell
  obtain ⟨g', sp, hg', hb1, hsp, hnc, hcm, hpg⟩ := hV1.open_ (by omega)
  simp only [Option.some.injEq, Addr.mk.injEq, and_true] at hg'
  subst hg'
  have c2 := hb1.c0 hk
  have fz := fz_of (o := k * 2) hb1
  have HV1 := Lib.hid hV1
  have HH : RowKit.Hid (Go.Proofs.YtinkbgeckjbnbaaGreat.HB (w1.setCell ⟨g, k * 2, none⟩ (.int .i64 at_)) g n (putF f k (at_, (f k).2)) sp) := by
    have := Blk.set hb1 (k * 2) (.int .i64 at_)
    unfold RowKit.Hid Go.Proofs.YtinkbgeckjbnbaaGreat.HB
    rw [List.set_append_left _ _ (by have := fl_len n f; unfold fl at this; rw [this]; omega)] at this
    have e := fl_set n k f at_ hk
    unfold fl at e
    rw [e] at this
    exact this
  have HC2 : RowKit.Hid ((w1.setCell ⟨g, k * 2, none⟩ (.int .i64 at_)).cell? ⟨p, 1, none⟩ = some (.slice (some ⟨g, 0, none⟩) n c)) := (World.cell?_setCell_other _ _ _ _ (fun e => by injection e with e; exact hpg e.symm)).trans c1
  clear hb hV1 hb1
  have HSP := Lib.hid hsp
  have HCM := Lib.hid hcm
  clear hsp hcm
  have k1 : (0 : Int) ≤ (k : Int) := by omega
  have k2 : (k : Int) < (n : Int) := by omega
  go_wp2_with fail
  have hset : w1.grownBy (w1.setCell ⟨g, k * 2, none⟩ (.int .i64 at_)) (some g) := grown_set w1 g (k * 2) (.int .i64 at_)
  have hV2 := HV1.out.frmBack hpg HH.out HSP.out hnc HCM.out hset
  refine (hfix_any p 1 g n c k 224 _ _ _ hV2 hk hn).mono ?_
  rintro e w2 ⟨rfl, hV3, hF3⟩
  have HV3 := Lib.hid hV3
  have HF3 := Lib.hid hF3
  have HS := Lib.hid hset
  clear hV2 hV3 hF3 hset
  go_wp2_with fail
  go_ret
  have f1 : Frm (fun i => i = p ∨ (Value.slice (some ⟨g, 0, none⟩) n c).ownBlock = some i) w w1 := Frm.below HB.out
  have f2 : Frm (fun i => i = g) w1 _ := Frm.grown HS.out (fun g h => (Option.some.inj h).symm)
  exact ⟨rfl, HV3.out, (f1.trans f2 (fun i h _ => .inr (by rw [h]; rfl))).trans HF3.out (fun i h _ => .inr (by rw [h]; rfl))⟩
set_option maxRecDepth 100000 in
set_option maxHeartbeats 1000000 in
theorem set_full (p : Nat) (id at_ : Int) (w : World) (most : Int) (ao : Option Addr) (n c : Nat) (f : Nat → One) (h : TM w p most ao n c f) (hn : n ≤ 1000) (h1 : 0 ≤ id) (h2 : 0 ≤ at_) (h3 : at_ ≤ 1099511627776) (hx : fndI f n id = -1) (hm : (n : Int) = most) :
   Calls Tryz.prog 122 #[.pointer (some ⟨p, 0, none⟩), .int .i64 id, .int .i64 at_] w fun e w' => e = .returned (.int .i64 3) ∧ Below w.heap.size w w' := by
  subst hm
  have HV := Lib.hid h
  have HX := Lib.hid hx
  clear h hx
  go_enter Tryz.func122, Tryz.ntmps122
  go_wp2_with fail
  refine (find_any p id _ n _ n c f HV.out (by omega)).mono ?_
  rintro e w1 ⟨rfl, hb⟩
  rw [HX.out]
  have HB := Lib.hid hb
  have hV1 := HV.out.below hb
  have c1 := hV1.cell
  have c0 : w1.cell? ⟨p, 0, none⟩ = some (.int .i64 n) := by rw [hV1.blk.cell]; rfl
  clear hb hV1
  go_wp2_with fail
  go_quiet (fail)
  go_wp2_with fail
  go_ret
  exact ⟨rfl, below_drewN HB.out _⟩
set_option maxRecDepth 100000 in
set_option maxHeartbeats 1000000 in
theorem set_new (p : Nat) (id at_ : Int) (w : World) (most : Int) (ao : Option Addr) (n c : Nat) (f : Nat → One) (h : TM w p most ao n c f) (hn : n ≤ 999) (h1 : 0 ≤ id) (h2 : 0 ≤ at_) (h3 : at_ ≤ 1099511627776) (hx : fndI f n id = -1) (hm : (n : Int) ≠ most) :
   Calls Tryz.prog 122 #[.pointer (some ⟨p, 0, none⟩), .int .i64 id, .int .i64 at_] w fun e w' => ∃ g' c', e = .returned (.int .i64 0) ∧ TM w' p most (some ⟨g', 0, none⟩) (n + 1) c' (upF n (putF f n (at_, id)) n) ∧ Frm (fun i => i = p ∨ (Value.slice ao n c).ownBlock = some i) w w' ∧ ((Value.slice ao n c).ownBlock = some g' ∨ w.heap.size ≤ g') := by
  have HV := Lib.hid h
  have HX := Lib.hid hx
  clear h hx
  have d1 : ((n : Int) == most) = false := by rw [beq_eq_false_iff_ne]; exact hm
  clear hm
  go_enter Tryz.func122, Tryz.ntmps122
  go_wp2_with fail
  refine (find_any p id _ most _ n c f HV.out (by omega)).mono ?_
  rintro e w1 ⟨rfl, hb⟩
  rw [HX.out]
  have HB := Lib.hid hb
  have hV1 := HV.out.below hb
  have c1 := hV1.cell
  have c0 : w1.cell? ⟨p, 0, none⟩ = some (.int .i64 most) := by rw [hV1.blk.cell]; rfl
  have HV1 := Lib.hid hV1
  clear hb hV1
  go_wp2_with fail
  go_quiet (fail)
  go_wp2_with fail
  have hV2 : TM (w1.drewN nq) p most ao n c f := HV1.out.below (below_drewN (Below.refl _ _) _)
  refine (hpush_any p 1 n c 224 _ ao f (at_, id) _ hV2 hn).mono ?_
  rintro e w2 ⟨g', c', rfl, hV3, hF3, hl3⟩
  have HV3 := Lib.hid hV3
  have HF3 := Lib.hid hF3
  have HL3 := Lib.hid hl3
  clear hV2 hV3 hF3 hl3
  go_wp2_with fail
  go_ret
  have f1 : Frm (fun i => i = p ∨ (Value.slice ao n c).ownBlock = some i) w (w1.drewN nq) := Frm.below (below_drewN HB.out _)
  exact ⟨g', c', rfl, HV3.out, f1.trans HF3.out (fun i h _ => h), HL3.out.imp (fun h => h) (fun h => by have := HB.out.size; have : w1.heap.size ≤ g' := h; omega)⟩
end
end Go.Proofs.YtinkbgeckjbnbaaGreat
namespace Go.Proofs.YtinkbgeckjbnbaaGreat
section
open List
set_option linter.unusedVariables false

def rm (n : Nat) (f : Nat → One) : List One := (List.range n).map f
set_option maxRecDepth 100000 in
theorem rm_succ (n : Nat) (f : Nat → One) : rm (n + 1) f = rm n f ++ [f n] := by unfold rm; rw [List.range_succ, List.map_append]; rfl
set_option maxRecDepth 100000 in
theorem rm_congr {n : Nat} {f g : Nat → One} (h : ∀ k, k < n → f k = g k) : rm n f = rm n g := by
  unfold rm; exact List.map_congr_left (fun k hk => h k (List.mem_range.1 hk))
set_option maxRecDepth 100000 in
theorem rm_len (n : Nat) (f : Nat → One) : (rm n f).length = n := by simp [rm]
set_option maxRecDepth 100000 in
theorem mem_rm {n : Nat} {f : Nat → One} {x : One} : x ∈ rm n f ↔ ∃ k, k < n ∧ f k = x := by simp [rm]
set_option maxRecDepth 100000 in
theorem rm_add (a b : Nat) (f : Nat → One) : rm (a + b) f = rm a f ++ rm b (fun i => f (a + i)) := by
  induction b with
  | zero => simp [rm]
  | succ b ih => rw [show a + (b + 1) = (a + b) + 1 from rfl, rm_succ, rm_succ, ih, List.append_assoc]
set_option maxRecDepth 100000 in
theorem rm_split (n k : Nat) (f : Nat → One) (h : k < n) : rm n f = rm k f ++ f k :: rm (n - k - 1) (fun i => f (k + 1 + i)) := by
  have := rm_add (k + 1) (n - k - 1) f
  rw [show k + 1 + (n - k - 1) = n from by omega, rm_succ, List.append_assoc] at this
  exact this
set_option maxRecDepth 100000 in
theorem rm_put (n k : Nat) (f : Nat → One) (h : k < n) : ∃ R, rm n f ~ f k :: R ∧ ∀ x, rm n (putF f k x) ~ x :: R := by
  refine ⟨rm k f ++ rm (n - k - 1) (fun i => f (k + 1 + i)), ?_, fun x => ?_⟩
  · rw [rm_split n k f h]; exact perm_middle
  · rw [rm_split n k _ h, putF_eq, rm_congr (f := putF f k x) (g := f) (fun j hj => putF_ne _ _ _ _ (by omega)), rm_congr (f := fun i => putF f k x (k + 1 + i)) (g := fun i => f (k + 1 + i)) (fun j hj => putF_ne _ _ _ _ (by omega))]
    exact perm_middle
set_option maxRecDepth 100000 in
theorem swapF_put (f : Nat → One) (i j : Nat) : swapF f i j = putF (putF f i (f j)) j (f i) := by
  funext k
  unfold swapF putF
  by_cases h1 : k = i
  · subst h1
    by_cases h2 : k = j
    · subst h2; simp
    · simp [h2]
  · by_cases h2 : k = j
    · subst h2; simp [h1]
    · simp [h1, h2]
set_option maxRecDepth 100000 in
theorem rm_swap (n i j : Nat) (f : Nat → One) (hi : i < n) (hj : j < n) : rm n (swapF f i j) ~ rm n f := by
  by_cases hij : i = j
  · subst hij; rw [swapF_self]
  · rw [swapF_put]
    obtain ⟨R1, h1, h2⟩ := rm_put n i f hi
    obtain ⟨R2, h3, h4⟩ := rm_put n j (putF f i (f j)) hj
    rw [putF_ne _ _ _ _ (fun e => hij e.symm)] at h3
    have h5 : R2 ~ R1 := ((h3.symm.trans (h2 (f j)))).cons_inv
    exact (h4 (f i)).trans ((h5.cons (f i)).trans h1.symm)
set_option maxRecDepth 100000 in
theorem rm_down : ∀ (q : Nat) (f : Nat → One) (i n : Nat), rm n (downF q f i n).1 ~ rm n f
  | 0, f, i, n => Perm.refl _
  | q + 1, f, i, n => by
    unfold downF
    split
    · exact Perm.refl _
    · rename_i hn
      obtain ⟨_, h2, _, h4, _⟩ := childF_cases f i n (by omega)
      split
      · exact Perm.refl _
      · exact (rm_down q _ _ n).trans (rm_swap n _ _ f (by omega) h2)
set_option maxRecDepth 100000 in
theorem rm_up : ∀ (q : Nat) (f : Nat → One) (j n : Nat), j < n → rm n (upF q f j) ~ rm n f
  | 0, f, j, n, h => Perm.refl _
  | q + 1, f, j, n, h => by
    unfold upF
    split
    · exact Perm.refl _
    · exact (rm_up q _ _ n (by omega)).trans (rm_swap n _ _ f (by omega) h)
set_option maxRecDepth 100000 in
theorem rm_fix (f : Nat → One) (i n : Nat) (h : i < n) : rm n (fixF f i n) ~ rm n f := by
  unfold fixF
  split
  · exact rm_down _ _ _ _
  · exact (rm_up _ _ _ _ h).trans (rm_down _ _ _ _)
set_option maxRecDepth 100000 in
theorem heap_fix (f : Nat → One) (i n : Nat) (hi : i < n) (h : ExInv f i n) : Heap (fixF f i n) n := by
  obtain ⟨h1, h2, h3⟩ := down_ex n f i n (by omega) h
  unfold fixF
  split
  · exact h2 (by omega)
  · obtain ⟨h4, h5⟩ := h1 (by omega)
    rw [h4]
    exact up_heap _ _ _ _ (Nat.le_refl _) hi h5
/-- f 0, .., f (n - 1) is a heap of the list L, which is in order -/
structure Rep (f : Nat → One) (n : Nat) (L : List One) : Prop where
  heap : Heap f n
  perm : rm n f ~ L
  sort : L.Pairwise leO
set_option maxRecDepth 100000 in
theorem Rep.len {f : Nat → One} {n : Nat} {L : List One} (h : Rep f n L) : L.length = n := by rw [← h.perm.length_eq, rm_len]
/-- x ahead of the first that is behind it -/
def insL (x : One) : List One → List One
  | [] => [x]
  | y :: l => if ltO x y = true then x :: y :: l else y :: insL x l
set_option maxRecDepth 100000 in
theorem insL_perm (x : One) : ∀ l : List One, insL x l ~ x :: l
  | [] => Perm.refl _
  | y :: l => by
    unfold insL
    split
    · exact Perm.refl _
    · exact ((insL_perm x l).cons y).trans (Perm.swap x y l)
set_option maxRecDepth 100000 in
theorem insL_sort (x : One) : ∀ l : List One, l.Pairwise leO → (insL x l).Pairwise leO
  | [], h => by simp [insL]
  | y :: l, h => by
    unfold insL
    obtain ⟨h1, h2⟩ := List.pairwise_cons.1 h
    split
    · rename_i hl
      have hxy := leO_of_lt hl
      refine List.pairwise_cons.2 ⟨fun z hz => ?_, h⟩
      rcases List.mem_cons.1 hz with e | e
      · rw [e]; exact hxy
      · exact leO_trans hxy (h1 z e)
    · rename_i hl
      have hyx : leO y x := ltO_false.1 (by simpa using hl)
      refine List.pairwise_cons.2 ⟨fun z hz => ?_, insL_sort x l h2⟩
      rcases List.mem_cons.1 ((insL_perm x l).mem_iff.1 hz) with e | e
      · rw [e]; exact hyx
      · exact h1 z e
def cancelL (id : Int) (L : List One) : List One := L.eraseP (fun y => decide (y.2 = id))
def hasL (id : Int) (L : List One) : Bool := L.any (fun y => decide (y.2 = id))
def atL (id : Int) (L : List One) : Int × Bool := match L.find? (fun y => decide (y.2 = id)) with
  | some y => (y.1, true)
  | none => (0, false)
def idsOK (L : List One) : Prop := (L.map (·.2)).Nodup
set_option maxRecDepth 100000 in
theorem idsOK_perm {L L' : List One} (h : L ~ L') : idsOK L ↔ idsOK L' := (h.map (fun x : One => x.2)).nodup_iff
set_option maxRecDepth 100000 in
theorem cancelL_perm {L R : List One} {x : One} {id : Int} (hi : idsOK L) (hx : x.2 = id) (h : L ~ x :: R) : cancelL id L ~ R := by
  have key : ∀ (L R : List One), idsOK L → L ~ x :: R → cancelL id L ~ R := by
    intro L
    induction L with
    | nil => intro R _ h; have := h.length_eq; simp at this
    | cons y L ih =>
      intro R hi h
      unfold cancelL
      rw [List.eraseP_cons]
      by_cases hy : y.2 = id
      · rw [decide_eq_true hy, cond_true]
        have hm : y ∈ x :: R := h.mem_iff.1 (List.mem_cons_self ..)
        have hxm : x ∈ y :: L := h.mem_iff.2 (List.mem_cons_self ..)
        have e : y = x := by
          rcases List.mem_cons.1 hxm with e | e
          · exact e.symm
          · exfalso
            unfold idsOK at hi
            rw [List.map_cons, List.nodup_cons] at hi
            exact hi.1 (by rw [hy, ← hx]; exact List.mem_map.2 ⟨x, e, rfl⟩)
        rw [e] at h
        exact h.cons_inv
      · rw [decide_eq_false hy, cond_false]
        have hym : y ∈ x :: R := h.mem_iff.1 (List.mem_cons_self ..)
        have hyR : y ∈ R := by
          rcases List.mem_cons.1 hym with e | e
          · rw [e] at hy; exact absurd hx hy
          · exact e
        have hi2 : idsOK L := by
          unfold idsOK at hi ⊢
          rw [List.map_cons, List.nodup_cons] at hi
          exact hi.2
        have p1 := perm_cons_erase hyR
        have p2 : L ~ x :: R.erase y := (h.trans ((p1.cons x).trans (Perm.swap y x _))).cons_inv
        exact ((ih _ hi2 p2).cons y).trans p1.symm
  exact key L R hi h
set_option maxRecDepth 100000 in
theorem cancelL_sort {L : List One} (id : Int) (h : L.Pairwise leO) : (cancelL id L).Pairwise leO := h.sublist (List.eraseP_sublist ..)
set_option maxRecDepth 100000 in
theorem cancelL_ids {L : List One} (id : Int) (h : idsOK L) : idsOK (cancelL id L) := by
  unfold idsOK at *
  exact h.sublist ((List.eraseP_sublist ..).map _)
set_option maxRecDepth 100000 in
theorem cancelL_no {L : List One} {id : Int} (h : hasL id L = false) : cancelL id L = L := by
  unfold cancelL
  unfold hasL at h
  exact List.eraseP_of_forall_not (fun y hy => by
    rw [List.any_eq_false] at h
    exact h y hy)
set_option maxRecDepth 100000 in
theorem hasO_iff {L : List One} {id : Int} : hasL id L = true ↔ ∃ x ∈ L, x.2 = id := by simp [hasL]
set_option maxRecDepth 100000 in
theorem has_fnd {f : Nat → One} {n : Nat} {L : List One} (h : Rep f n L) (id : Int) : (hasL id L = false ∧ fndI f n id = -1) ∨ (hasL id L = true ∧ ∃ k, fndI f n id = (k : Nat) ∧ k < n ∧ (f k).2 = id) := by
  rcases fndI_cases f n id with ⟨h1, h2⟩ | ⟨k, h1, h2, h3⟩
  · left
    refine ⟨?_, h1⟩
    rw [Bool.eq_false_iff]
    intro e
    obtain ⟨x, hx, hid⟩ := hasO_iff.1 e
    obtain ⟨k, hk, rfl⟩ := mem_rm.1 (h.perm.mem_iff.2 hx)
    exact h2 k hk hid
  · right
    exact ⟨hasO_iff.2 ⟨f k, h.perm.mem_iff.1 (mem_rm.2 ⟨k, h2, rfl⟩), h3⟩, k, h1, h2, h3⟩
set_option maxRecDepth 100000 in
theorem rep_at {f : Nat → One} {n : Nat} {L : List One} (h : Rep f n L) (hi : idsOK L) (id : Int) : atV f n id = atL id L := by
  unfold atL
  rcases has_fnd h id with ⟨h1, h2⟩ | ⟨h1, k, h2, h3, h4⟩
  · rw [atV_no h2]
    have : L.find? (fun y => decide (y.2 = id)) = none := by
      rw [List.find?_eq_none]
      unfold hasL at h1
      rw [List.any_eq_false] at h1
      exact h1
    rw [this]
  · rw [atV_yes h2]
    have hm : f k ∈ L := h.perm.mem_iff.1 (mem_rm.2 ⟨k, h3, rfl⟩)
    cases hf : L.find? (fun y => decide (y.2 = id)) with
    | none =>
      rw [List.find?_eq_none] at hf
      exact absurd h4 (by simpa using hf _ hm)
    | some y =>
      have hy : y.2 = id := by simpa using List.find?_some hf
      have hym := List.mem_of_find?_eq_some hf
      have e : y = f k := by
        obtain ⟨i, hi1, hi2⟩ := List.mem_iff_getElem.1 hym
        obtain ⟨j, hj1, hj2⟩ := List.mem_iff_getElem.1 hm
        have hij : i = j := by
          unfold idsOK at hi
          have := (List.getElem_inj (h₀ := by simpa using hi1) (h₁ := by simpa using hj1) hi).1 (by simp [hi2, hj2, hy, h4])
          exact this
        subst hij
        rw [← hi2, ← hj2]
      simp only [e]
set_option maxRecDepth 100000 in
theorem rep_new {f : Nat → One} {n : Nat} {L : List One} (h : Rep f n L) (x : One) : Rep (upF n (putF f n x) n) (n + 1) (insL x L) := by
  refine ⟨?_, ?_, insL_sort x L h.sort⟩
  · refine up_heap n _ n (n + 1) (Nat.le_refl _) (by omega) ⟨fun k h1 h2 h3 => ?_, fun k h1 h2 h3 h4 => by omega⟩
    rw [putF_ne _ _ _ _ h3, putF_ne _ _ _ _ (by omega)]
    exact h.heap k h1 (by omega)
  · refine (rm_up _ _ _ _ (by omega)).trans ?_
    rw [rm_succ, putF_eq, rm_congr (f := putF f n x) (g := f) (fun k hk => putF_ne _ _ _ _ (by omega))]
    exact (perm_append_comm).trans ((h.perm.cons x).trans (insL_perm x L).symm)
set_option maxRecDepth 100000 in
theorem rep_old {f : Nat → One} {n k : Nat} {L : List One} (h : Rep f n L) (hi : idsOK L) (id at_ : Int) (hk : k < n) (hid : (f k).2 = id) : Rep (fixF (putF f k (at_, (f k).2)) k n) n (insL (at_, id) (cancelL id L)) := by
  obtain ⟨R, h1, h2⟩ := rm_put n k f hk
  refine ⟨?_, ?_, insL_sort _ _ (cancelL_sort id h.sort)⟩
  · refine heap_fix _ _ _ hk ⟨fun j h1 h2 h3 h4 => ?_, fun j h1 h2 h3 h4 => ?_⟩
    · rw [putF_ne _ _ _ _ h4, putF_ne _ _ _ _ h3]; exact h.heap j h1 h2
    · rw [putF_ne _ _ _ _ (by omega), putF_ne _ _ _ _ (by omega)]
      have := h.heap j h1 h2
      rw [h3] at this
      exact leO_trans (h.heap k h4 hk) this
  · rw [hid]
    exact (rm_fix _ _ _ hk).trans ((h2 _).trans ((((cancelL_perm hi hid (h.perm.symm.trans h1)).symm).cons _).trans (insL_perm _ _).symm))
set_option maxRecDepth 100000 in
theorem rep_cancel {f : Nat → One} {n k : Nat} {L : List One} (h : Rep f (n + 1) L) (hi : idsOK L) (id : Int) (hk : k ≤ n) (hid : (f k).2 = id) : Rep (remF f k n) n (cancelL id L) := by
  have hcs := cancelL_sort id h.sort
  unfold remF
  split
  · rename_i e
    subst e
    refine ⟨fun j h1 h2 => h.heap j h1 (by omega), ?_, hcs⟩
    have p : L ~ f k :: rm k f := by
      have := h.perm
      rw [rm_succ] at this
      exact this.symm.trans perm_append_comm
    exact (cancelL_perm hi hid p).symm
  · rename_i hne
    have hkn : k < n := by omega
    refine ⟨?_, ?_, hcs⟩
    · refine heap_fix _ _ _ hkn ⟨fun j h1 h2 h3 h4 => ?_, fun j h1 h2 h3 h4 => ?_⟩
      · rw [swapF_o _ _ _ _ h4 (by omega), swapF_o _ _ _ _ h3 (by omega)]; exact h.heap j h1 (by omega)
      · rw [swapF_o _ _ _ _ (by omega) (by omega), swapF_o _ _ _ _ (by omega) (by omega)]
        have := h.heap j h1 (by omega)
        rw [h3] at this
        exact leO_trans (h.heap k h4 (by omega)) this
    · refine (rm_fix _ _ _ hkn).trans ?_
      have p1 := rm_swap (n + 1) k n f (by omega) (by omega)
      rw [rm_succ, swapF_j] at p1
      have p2 : L ~ f k :: rm n (swapF f k n) := h.perm.symm.trans (p1.symm.trans perm_append_comm)
      exact (cancelL_perm hi hid p2).symm
set_option maxRecDepth 100000 in
theorem insL_ids {L : List One} {x : One} (h : idsOK L) (hx : hasL x.2 L = false) : idsOK (insL x L) := by
  rw [idsOK_perm (insL_perm x L)]
  unfold idsOK at *
  rw [List.map_cons, List.nodup_cons]
  refine ⟨fun hm => ?_, h⟩
  obtain ⟨y, hy, e⟩ := List.mem_map.1 hm
  rw [hasO_iff.2 ⟨y, hy, e⟩] at hx
  cases hx
set_option maxRecDepth 100000 in
theorem cancel_has {L : List One} (id : Int) (h : idsOK L) : hasL id (cancelL id L) = false := by
  rw [Bool.eq_false_iff]
  intro e
  obtain ⟨x, hx, hid⟩ := hasO_iff.1 e
  cases hh : hasL id L with
  | false => rw [cancelL_no hh] at hx; exact absurd (hasO_iff.2 ⟨x, hx, hid⟩) (by rw [hh]; exact Bool.false_ne_true)
  | true =>
    obtain ⟨y, hy, hyid⟩ := hasO_iff.1 hh
    have p := cancelL_perm h hyid (perm_cons_erase hy)
    have p2 : idsOK (y :: cancelL id L) := (idsOK_perm ((perm_cons_erase hy).trans (p.symm.cons y))).1 h
    unfold idsOK at p2
    rw [List.map_cons, List.nodup_cons] at p2
    exact p2.1 (by rw [hyid]; exact List.mem_map.2 ⟨x, hx, hid⟩)
end
end Go.Proofs.YtinkbgeckjbnbaaGreat
namespace Go.Proofs.YtinkbgeckjbnbaaGreat
section
open Go.RowKit
set_option linter.unusedVariables false

/-- a Timers at p, its moments in order L; go: the block that they lie in -/
def TL (w : World) (p : Nat) (go : Option Nat) (most : Int) (L : List One) : Prop :=
  ∃ ao n c f, TM w p most ao n c f ∧ Rep f n L ∧ idsOK L ∧ go = (Value.slice ao n c).ownBlock ∧ (n : Int) ≤ most ∧ most ≤ 24
def setL (most : Int) (L : List One) (id at_ : Int) : Int × List One :=
  if id < 0 ∨ at_ < 0 ∨ 1099511627776 < at_ then (2, L) else if hasL id L = true then (0, insL (at_, id) (cancelL id L)) else if (L.length : Int) = most then (3, L) else (0, insL (at_, id) L)
set_option maxRecDepth 100000 in
theorem TL.frm {S : Nat → Prop} {w w' : World} {p : Nat} {go : Option Nat} {most : Int} {L : List One} (h : TL w p go most L) (hf : Frm S w w') (hp : ¬ S p) (hg : ∀ k, go = some k → ¬ S k) : TL w' p go most L := by
  obtain ⟨ao, n, c, f, h1, h2, h3, h4, h5⟩ := h
  exact ⟨ao, n, c, f, h1.frm hf hp (fun k hk => hg k (h4.trans hk)), h2, h3, h4, h5⟩
set_option maxRecDepth 100000 in
theorem TL.below {w w' : World} {p : Nat} {go : Option Nat} {most : Int} {L : List One} (h : TL w p go most L) (hb : Below w.heap.size w w') : TL w' p go most L :=
  h.frm (Frm.below (S := fun _ => False) hb) id (fun _ _ => id)
set_option maxRecDepth 100000 in
theorem TL.lt {w : World} {p : Nat} {go : Option Nat} {most : Int} {L : List One} (h : TL w p go most L) : p < w.heap.size ∧ ∀ k, go = some k → k < w.heap.size := by
  obtain ⟨ao, n, c, f, h1, h2, h3, h4, h5⟩ := h
  exact ⟨h1.blk.lt, fun k hk => (h1.own.lt k (h4.symm.trans hk)).2⟩
set_option maxRecDepth 100000 in
theorem TL.len {w : World} {p : Nat} {go : Option Nat} {most : Int} {L : List One} (h : TL w p go most L) : (L.length : Int) ≤ most ∧ most ≤ 24 := by
  obtain ⟨ao, n, c, f, h1, h2, h3, h4, h5⟩ := h
  rw [h2.len]; exact h5
set_option maxRecDepth 100000 in
theorem TL.ids {w : World} {p : Nat} {go : Option Nat} {most : Int} {L : List One} (h : TL w p go most L) : idsOK L ∧ L.Pairwise leO := by
  obtain ⟨ao, n, c, f, h1, h2, h3, h4, h5⟩ := h
  exact ⟨h3, h2.sort⟩
set_option maxRecDepth 100000 in
theorem TL.new (w : World) (most : Int) (h1 : 1 ≤ most) (h2 : most ≤ 24) : TL (w.alloc (.cells #[.int .i64 most, .slice none 0 0] 224)) w.heap.size none most [] :=
  ⟨none, 0, 0, fun _ => (0, 0), ⟨heap_alloc_new w _, rfl, World.ownsRow_nil _ _ _ _, by decide⟩, ⟨fun k h1 h2 => by omega, List.Perm.refl _, List.Pairwise.nil⟩, List.nodup_nil, rfl, by omega, h2⟩
set_option maxRecDepth 100000 in
theorem t_new (most : Int) (w : World) (h1 : 1 ≤ most) (h2 : most ≤ 24) :
   Calls Tryz.prog 60 #[.int .i64 most] w fun e w' => e = .returned (.tuple #[.pointer (some ⟨w.heap.size, 0, none⟩), .int .i64 0]) ∧ TL w' w.heap.size none most [] ∧ Below w.heap.size w w' :=
  (new_any most w h1 h2).mono fun e w' h => ⟨h.1, by rw [h.2]; exact TL.new w most h1 h2, by rw [h.2]; exact (Below.refl _ _).alloc (Nat.le_refl _) _⟩
set_option maxRecDepth 100000 in
theorem t_at (p : Nat) (id : Int) (w : World) (go : Option Nat) (most : Int) (L : List One) (h : TL w p go most L) :
   Calls Tryz.prog 116 #[.pointer (some ⟨p, 0, none⟩), .int .i64 id] w fun e w' => e = .returned (.tuple #[.int .i64 (atL id L).1, .bool (atL id L).2]) ∧ Below w.heap.size w w' := by
  obtain ⟨ao, n, c, f, h1, h2, h3, h4, h5, h6⟩ := h
  have := at_any p id w most ao n c f h1 (by omega)
  rw [rep_at h2 h3 id] at this
  exact this
set_option maxRecDepth 100000 in
theorem t_len (p : Nat) (w : World) (go : Option Nat) (most : Int) (L : List One) (h : TL w p go most L) :
   Calls Tryz.prog 76 #[.pointer (some ⟨p, 0, none⟩)] w fun e w' => e = .returned (.int .i64 (L.length : Nat)) ∧ w = w' := by
  obtain ⟨ao, n, c, f, h1, h2, h3, h4, h5, h6⟩ := h
  have := tlen_any p w most ao n c f h1
  rw [← h2.len] at this
  exact this
set_option maxRecDepth 100000 in
theorem t_cancel (p : Nat) (id : Int) (w : World) (go : Option Nat) (most : Int) (L : List One) (h : TL w p go most L) :
   Calls Tryz.prog 111 #[.pointer (some ⟨p, 0, none⟩), .int .i64 id] w fun e w' => e = .returned (.bool (hasL id L)) ∧ TL w' p go most (cancelL id L) ∧ Frm (fun i => i = p ∨ go = some i) w w' := by
  have h0 := h
  obtain ⟨ao, n, c, f, h1, h2, h3, h4, h5, h6⟩ := h
  rcases has_fnd h2 id with ⟨e1, e2⟩ | ⟨e1, k, e2, e3, e4⟩
  · rw [e1, cancelL_no e1]
    exact (cancel_no p id w most ao n c f h1 (by omega) e2).mono fun e w' hh => ⟨hh.1, h0.below hh.2, Frm.below hh.2⟩
  · rw [e1]
    obtain ⟨m, rfl⟩ : ∃ m, n = m + 1 := ⟨n - 1, by omega⟩
    refine (cancel_yes p id w most ao m c k f h1 (by omega) e2 (by omega)).mono ?_
    rintro e w' ⟨he, hT, hF⟩
    have hr := rep_cancel h2 h3 id (by omega) e4
    obtain ⟨g, sp, rfl, _⟩ := h1.open_ (Nat.succ_pos m)
    exact ⟨he, ⟨_, m, c, _, hT, hr, cancelL_ids id h3, h4, by omega, h6⟩, hF.mono (fun i hi _ => hi.imp (fun h => h) (fun e => h4.trans e))⟩
set_option maxRecDepth 100000 in
theorem t_set (p : Nat) (id at_ : Int) (w : World) (go : Option Nat) (most : Int) (L : List One) (h : TL w p go most L) :
   Calls Tryz.prog 122 #[.pointer (some ⟨p, 0, none⟩), .int .i64 id, .int .i64 at_] w fun e w' => ∃ go', e = .returned (.int .i64 (setL most L id at_).1) ∧ TL w' p go' most (setL most L id at_).2 ∧ Frm (fun i => i = p ∨ go = some i) w w' ∧ (go' = go ∨ ∃ g, go' = some g ∧ w.heap.size ≤ g) := by
  have h0 := h
  obtain ⟨ao, n, c, f, h1, h2, h3, h4, h5, h6⟩ := h
  unfold setL
  by_cases hx : id < 0 ∨ at_ < 0 ∨ 1099511627776 < at_
  · rw [if_pos hx]
    exact (set_arg p id at_ w most ao n c f h1 (by omega) hx).mono fun e w' hh => ⟨go, hh.1, h0.below hh.2, Frm.below hh.2, .inl rfl⟩
  · rw [if_neg hx]
    have a1 : 0 ≤ id := by omega
    have a2 : 0 ≤ at_ := by omega
    have a3 : at_ ≤ 1099511627776 := by omega
    rcases has_fnd h2 id with ⟨e1, e2⟩ | ⟨e1, k, e2, e3, e4⟩
    · rw [if_neg (by rw [e1]; exact Bool.false_ne_true), h2.len]
      by_cases hm : (n : Int) = most
      · rw [if_pos hm]
        exact (set_full p id at_ w most ao n c f h1 (by omega) a1 a2 a3 e2 hm).mono fun e w' hh => ⟨go, hh.1, h0.below hh.2, Frm.below hh.2, .inl rfl⟩
      · rw [if_neg hm]
        refine (set_new p id at_ w most ao n c f h1 (by omega) a1 a2 a3 e2 hm).mono ?_
        rintro e w' ⟨g', c', he, hT, hF, hl⟩
        refine ⟨some g', he, ⟨_, n + 1, c', _, hT, rep_new h2 (at_, id), insL_ids h3 e1, rfl, by omega, h6⟩, hF.mono (fun i hi _ => hi.imp (fun h => h) (fun e => h4.trans e)), ?_⟩
        rcases hl with hl | hl
        · exact .inl (h4.trans hl).symm
        · exact .inr ⟨g', rfl, hl⟩
    · rw [if_pos e1]
      refine (set_old p id at_ w most ao n c k f h1 (by omega) a1 a2 a3 e2 e3).mono ?_
      rintro e w' ⟨he, hT, hF⟩
      exact ⟨go, he, ⟨_, n, c, _, hT, rep_old h2 h3 id at_ e3 e4, insL_ids (cancelL_ids id h3) (cancel_has id h3), h4, h5, h6⟩, hF.mono (fun i hi _ => hi.imp (fun h => h) (fun e => h4.trans e)), .inl rfl⟩
end
end Go.Proofs.YtinkbgeckjbnbaaGreat
namespace Go.Proofs.YtinkbgeckjbnbaaGreat
section
open Go.RowKit
set_option linter.unusedVariables false

structure L1 where
  life : Int
  epoch : Int
  till : Int
structure Tab where
  workers : Int
  term : Int
  l : List L1
def L1.zero : L1 := ⟨0, 0, 0⟩
def Tab.at (t : Tab) (w : Int) : L1 := t.l.getD w.toNat L1.zero
def okTime (now : Int) : Bool := decide (0 ≤ now ∧ now ≤ 1099511627776)
def Tab.is (t : Tab) (w : Int) : Bool := decide (1 ≤ w ∧ w ≤ t.workers)
def Tab.put (t : Tab) (w : Int) (x : L1) : Tab := { t with l := t.l.set w.toNat x }
def okHello (t : Tab) (w life now : Int) : Bool := t.is w && decide (1 ≤ life ∧ life ≤ 2147483647) && okTime now
def L1.told (x : L1) (life : Int) : L1 := if x.life < life then { x with life := life, epoch := x.epoch + 1 } else x
def L1.on (x : L1) (till : Int) : L1 := { x with till := max x.till till }
/-- Hello: what the table is then, what is answered. -/
def Tab.hello (t : Tab) (w life now : Int) : Tab × Int × Int :=
  if okHello t w life now then
    if life < (t.at w).life then (t, 0, 4)
    else (t.put w (((t.at w).told life).on (now + t.term)), ((t.at w).told life).epoch, 0)
  else (t, 0, 2)
def Tab.live (t : Tab) (w now : Int) : Bool := t.is w && decide (0 < (t.at w).epoch ∧ now ≤ (t.at w).till)
def Tab.epoch (t : Tab) (w : Int) : Int := if t.is w then (t.at w).epoch else 0
def Tab.life (t : Tab) (w : Int) : Int := if t.is w then (t.at w).life else 0
def Tab.new (workers term : Int) : Tab := ⟨workers, term, List.replicate 6 L1.zero⟩
structure L1.ok (x : L1) : Prop where
  life0 : 0 ≤ x.life
  life1 : x.life ≤ 2147483647
  epoch0 : 0 ≤ x.epoch
  epoch1 : x.epoch ≤ x.life
  till0 : 0 ≤ x.till
  till1 : x.till ≤ 2199023255552
structure Tab.ok (t : Tab) : Prop where
  len : t.l.length = 6
  workers0 : 1 ≤ t.workers
  workers1 : t.workers ≤ 5
  term0 : 1 ≤ t.term
  term1 : t.term ≤ 1000
  each : ∀ x ∈ t.l, x.ok
set_option maxRecDepth 100000 in
theorem L1.zero_ok : L1.zero.ok := ⟨by decide, by decide, by decide, by decide, by decide, by decide⟩
set_option maxRecDepth 100000 in
theorem Tab.new_ok (workers term : Int) (h1 : 1 ≤ workers) (h2 : workers ≤ 5) (h3 : 1 ≤ term) (h4 : term ≤ 1000) : (Tab.new workers term).ok :=
  ⟨rfl, h1, h2, h3, h4, fun x hx => by obtain rfl := List.eq_of_mem_replicate hx; exact L1.zero_ok⟩
set_option maxRecDepth 100000 in
theorem Tab.ok.at {t : Tab} (h : t.ok) (w : Int) : (t.at w).ok := by
  unfold Tab.at
  by_cases hw : w.toNat < t.l.length
  · rw [List.getD_eq_getElem?_getD, List.getElem?_eq_getElem hw]; exact h.each _ (List.getElem_mem _)
  · rw [List.getD_eq_getElem?_getD, List.getElem?_eq_none (by omega)]; exact L1.zero_ok
set_option maxRecDepth 100000 in
theorem Tab.ok.put {t : Tab} (h : t.ok) (w : Int) {x : L1} (hx : x.ok) : (t.put w x).ok :=
  ⟨by simp [Tab.put, h.len], h.workers0, h.workers1, h.term0, h.term1, fun y hy => by
    rcases List.mem_or_eq_of_mem_set hy with h1 | rfl
    · exact h.each y h1
    · exact hx⟩
set_option maxRecDepth 100000 in
theorem L1.ok.told {x : L1} (h : x.ok) {life : Int} (h1 : 1 ≤ life) (h2 : life ≤ 2147483647) : (x.told life).ok := by
  unfold L1.told
  split
  · exact ⟨by simp; omega, h2, by simp; have := h.epoch0; omega, by simp; have := h.epoch1; omega, h.till0, h.till1⟩
  · exact h
set_option maxRecDepth 100000 in
theorem L1.ok.on {x : L1} (h : x.ok) {till : Int} (h2 : till ≤ 2199023255552) : (x.on till).ok := by
  have := h.till0
  have := h.till1
  exact ⟨h.life0, h.life1, h.epoch0, h.epoch1, by simp [L1.on]; omega, by simp [L1.on]; omega⟩
set_option maxRecDepth 100000 in
theorem Tab.ok.hello {t : Tab} (h : t.ok) (w life now : Int) : (t.hello w life now).1.ok := by
  unfold Tab.hello
  split
  · rename_i hk
    simp only [okHello, okTime, Bool.and_eq_true, decide_eq_true_eq] at hk
    split
    · exact h
    · exact h.put w (((h.at w).told (by omega) (by omega)).on (by have := h.term1; omega))
  · exact h
set_option maxRecDepth 100000 in
theorem Tab.at_put {t : Tab} (h : t.ok) (w v : Int) (x : L1) (hw : t.is w = true) : (t.put w x).at v = if v.toNat = w.toNat then x else t.at v := by
  simp only [Tab.is, decide_eq_true_eq] at hw
  have := h.len
  have := h.workers1
  unfold Tab.at Tab.put
  by_cases e : v.toNat = w.toNat
  · rw [if_pos e, e, List.getD_eq_getElem?_getD, List.getElem?_set_self (by omega)]; rfl
  · rw [if_neg e, List.getD_eq_getElem?_getD, List.getElem?_set_ne (fun e' => e e'.symm), List.getD_eq_getElem?_getD]
/-- the cells of the program's table, and of the document's -/
def L1.cells (x : L1) : List Value := [.int .i64 x.life, .int .i64 x.epoch, .int .i64 x.till]
def Tab.cells (t : Tab) : List Value := [.int .i64 t.workers, .int .i64 t.term] ++ t.l.flatMap L1.cells
set_option maxRecDepth 100000 in
theorem Tab.cell_at {t : Tab} (h : t.ok) (k j : Nat) (hk : k < 6) (hj : j < 3) : t.cells[2 + k * 3 + j]? = (t.at k).cells[j]? := by
  have hl := h.len
  unfold Tab.cells
  rw [List.getElem?_append_right (by simp; omega)]
  rw [show 2 + k * 3 + j - [Value.int IntKind.i64 t.workers, Value.int IntKind.i64 t.term].length = k * 3 + j by simp; omega, flatMap_get _ 3 (fun _ => rfl) _ _ _ hj]
  unfold Tab.at
  rw [Int.toNat_natCast, List.getD_eq_getElem?_getD, List.getElem?_eq_getElem (l := t.l) (show k < t.l.length by omega)]; rfl
set_option maxRecDepth 100000 in
theorem Tab.set_cell {t : Tab} (h : t.ok) (k j : Nat) (v : Value) (x : L1) (hk : k < 6) (hj : j < 3) (hx : x.cells = (t.at k).cells.set j v) : t.cells.set (2 + k * 3 + j) v = (t.put k x).cells := by
  have hl := h.len
  unfold Tab.cells Tab.put
  rw [List.set_append_right _ _ (by simp; omega), show 2 + k * 3 + j - [Value.int IntKind.i64 t.workers, Value.int IntKind.i64 t.term].length = k * 3 + j by simp; omega]
  rw [flatMap_set _ 3 (fun _ => rfl) t.l k j v (t.at k) x (by unfold Tab.at; rw [Int.toNat_natCast, List.getD_eq_getElem?_getD, List.getElem?_eq_getElem (by omega)]; rfl) hj hx]
  simp
end
end Go.Proofs.YtinkbgeckjbnbaaGreat
