/- Lemmas for the law (part 2): Rk1, Hand, Co2, Part3, Part4, KeyAt, PGood, Cfg0, Cfg1, Ints, Cfg2, Cfg3, Co3 -/
import Derived.Test.YtinkbgeckjbnbaaGreatRows
import Derived.Test.YtinkbgeckjbnbaaGreatQr1
namespace Go.Proofs.YtinkbgeckjbnbaaGreat
section
open Go.RowKit
set_option linter.unusedVariables false

def mayQ (q : ByteArray) (k n : Int) : Bool := askedB q && decide (0 ≤ k) && decide (k ≤ 4) && decide (1 ≤ n) && decide (n ≤ 10)
set_option maxRecDepth 100000 in
set_option maxHeartbeats 2000000 in
theorem rmay_any (q : ByteArray) (k n : Int) (w : World) (hs : q.size ≤ maxLen) :
    Calls Tryz.prog 24 #[.agg #[.string q, .int .i64 k, .int .i64 n]] w fun e w' => e = .returned (.bool (mayQ q k n)) ∧ Below w.heap.size w w' := by
  obtain ⟨R, hR⟩ : ∃ R, mayQ q k n = R := ⟨_, rfl⟩
  rw [hR]
  have HR := Lib.hid hR
  clear hR
  have HA := Lib.hid (fun W => asked_any q W hs)
  have HSA := Lib.hid (show mayQ q k n = (askedB q && decide (0 ≤ k) && decide (k ≤ 4) && decide (1 ≤ n) && decide (n ≤ 10)) from rfl)
  generalize askedB q = x at *
  have HB := Lib.hid ((Below.refl _ w).alloc (Nat.le_refl _) (.cells #[.string q, .int .i64 k, .int .i64 n] 40))
  have HK := Lib.hid (show Blk (w.alloc (.cells #[.string q, .int .i64 k, .int .i64 n] 40)) w.heap.size 40 [.string q, .int .i64 k, .int .i64 n] from heap_alloc_new w _)
  go_enter Tryz.func24, Tryz.ntmps24
  go_wp2_with fail
  refine (HA.out _).mono ?_
  rintro e w1 ⟨rfl, hb⟩
  have HB1 := Lib.hid (HB.out.trans (hb.mono HB.out.size))
  have HK1 := Lib.hid (HK.out.below hb (Blk.lt HK.out))
  have c0 : w1.cell? ⟨w.heap.size, 0, none⟩ = some (.string q) := HK1.out.cell 0
  have c1 : w1.cell? ⟨w.heap.size, 1, none⟩ = some (.int .i64 k) := HK1.out.cell 1
  have c2 : w1.cell? ⟨w.heap.size, 2, none⟩ = some (.int .i64 n) := HK1.out.cell 2
  clear hb HB HK HK1
  cases x
  · obtain rfl : R = false := by rw [← HR.out, HSA.out]; rfl
    go_wp2_with fail
    go_ret
    exact ⟨rfl, HB1.out⟩
  · by_cases k1 : 0 ≤ k
    · by_cases k2 : k ≤ 4
      · by_cases k3 : 1 ≤ n
        · by_cases k4 : n ≤ 10
          · obtain rfl : R = true := by rw [← HR.out, HSA.out]; simp [k1, k2, k3, k4]
            go_wp2_with fail
            go_ret
            exact ⟨rfl, HB1.out⟩
          · have d : decide (n ≤ 10) = false := by simpa using k4
            obtain rfl : R = false := by rw [← HR.out, HSA.out, d]; simp
            go_wp2_with fail
            go_ret
            exact ⟨rfl, HB1.out⟩
        · have d : decide (1 ≤ n) = false := by simpa using k3
          obtain rfl : R = false := by rw [← HR.out, HSA.out, d]; simp
          go_wp2_with fail
          go_ret
          exact ⟨rfl, HB1.out⟩
      · have d : decide (k ≤ 4) = false := by simpa using k2
        obtain rfl : R = false := by rw [← HR.out, HSA.out, d]; simp
        go_wp2_with fail
        go_ret
        exact ⟨rfl, HB1.out⟩
    · have d : decide (0 ≤ k) = false := by simpa using k1
      obtain rfl : R = false := by rw [← HR.out, HSA.out, d]; simp
      go_wp2_with fail
      go_ret
      exact ⟨rfl, HB1.out⟩
end
end Go.Proofs.YtinkbgeckjbnbaaGreat
namespace Go.Proofs.YtinkbgeckjbnbaaGreat
section
open Go.RowKit

set_option maxRecDepth 100000 in
theorem takeO {P : Program} {ops : Array Oper} {Q : Exit → Act → World → Prop} {md : Region.Mode} {S : World → Prop} (i : Nat) (d : Option Tmp) {oi : Oper} {v : Value} {fuel : Nat} {listed : Array Bool} {a : Act} {w : World} (hi : ops[i]? = some oi)
    (hd : oi.dst = d) (hs : Region.noSelect ops = true) (hf : Region.free md ops listed i = true) (hr : (Region.ready md ops listed).contains i = true)
    (hQ : ∀ c a w, Q (.panic c) (a.put d v) w → Q (.panic c) a w) (hy : YieldsIf P ops S oi v a) (hS : S w)
    (h : wpAnyH P md ops Q S fuel (listed.setIfInBounds i true) (a.put d v) w) : wpAnyH P md ops Q S (fuel + 1) listed a w := by
  subst hd
  exact wpAnyH_take hi hs hf hr hQ hy hS h
end
end Go.Proofs.YtinkbgeckjbnbaaGreat
namespace Go.Proofs.YtinkbgeckjbnbaaGreat
section
open Go.RowKit
set_option linter.unusedVariables false

/-- who has a slot -/
def atF (L : List Nat) (k : Int) : Option Int := if 0 ≤ k then (match L[k.toNat]? with | some x => if x = 0 then none else some (x : Int) | none => none) else none
/-- the slot of a number -/
def ofF (L : List Nat) (id : Int) : Option Int := if 0 < id then (L.findIdx? (fun x : Nat => decide ((x : Int) = id))).map (fun s : Nat => (s : Int)) else none
def cntS (L : List Nat) : Nat := L.countP (fun x => decide (x ≠ 0))
structure SlOK (L : List Nat) (last : Nat) : Prop where
  one : ∀ (s s' x : Nat), L[s]? = some x → L[s']? = some x → x ≠ 0 → s = s'
  le : ∀ x ∈ L, x ≤ last
  len : 1 ≤ L.length ∧ L.length ≤ 4
set_option maxRecDepth 100000 in
theorem cntS_le (L : List Nat) : cntS L ≤ L.length := List.countP_le_length
def freeS (L : List Nat) : Option Nat := L.findIdx? (fun x => decide (x = 0))
set_option maxRecDepth 100000 in
theorem free_full {L : List Nat} : freeS L = none ↔ cntS L = L.length := by
  unfold freeS cntS
  rw [List.findIdx?_eq_none_iff, List.countP_eq_length]
  constructor
  · intro h x hx; have := h x hx; simpa using this
  · intro h x hx; have := h x hx; simpa using this
set_option maxRecDepth 100000 in
theorem free_some {L : List Nat} {s : Nat} (h : freeS L = some s) : L[s]? = some 0 ∧ ∀ j, j < s → ∃ x, L[j]? = some x ∧ x ≠ 0 := by
  unfold freeS at h
  rw [List.findIdx?_eq_some_iff_getElem] at h
  obtain ⟨h1, h2, h3⟩ := h
  refine ⟨by rw [List.getElem?_eq_getElem h1]; simpa using h2, fun j hj => ⟨L[j]'(by omega), List.getElem?_eq_getElem _, ?_⟩⟩
  have := h3 j hj
  simpa using this
set_option maxRecDepth 100000 in
theorem cntS_set {L : List Nat} {s x y : Nat} (h : L[s]? = some x) : cntS (L.set s y) + (if x ≠ 0 then 1 else 0) = cntS L + (if y ≠ 0 then 1 else 0) := by
  obtain ⟨hl, he⟩ := List.getElem?_eq_some_iff.1 h
  unfold cntS
  rw [List.countP_set hl, he]
  have : (if decide (x ≠ 0) = true then 1 else 0) ≤ L.countP (fun x => decide (x ≠ 0)) := by
    split
    · rename_i hx
      exact List.countP_pos_iff.2 ⟨x, List.mem_of_getElem? h, hx⟩
    · exact Nat.zero_le _
  simp only [decide_eq_true_eq] at this ⊢
  omega
set_option maxRecDepth 100000 in
theorem atF_set {L : List Nat} {s x y : Nat} (h : L[s]? = some x) (j : Int) : atF (L.set s y) j = mputF (atF L) (s : Int) (if y = 0 then none else some (y : Int)) j := by
  obtain ⟨hl, he⟩ := List.getElem?_eq_some_iff.1 h
  unfold mputF
  unfold atF
  by_cases e : j = (s : Int)
  · subst e
    rw [if_pos (by omega), if_pos rfl, Int.toNat_natCast, List.getElem?_set_self hl]
  · rw [if_neg e]
    by_cases hj : 0 ≤ j
    · rw [if_pos hj, if_pos hj, List.getElem?_set_ne (by omega)]
    · rw [if_neg hj, if_neg hj]
set_option maxRecDepth 100000 in
theorem ofF_some {L : List Nat} {last : Nat} (ho : SlOK L last) {id : Int} {s : Int} : ofF L id = some s ↔ 0 < id ∧ 0 ≤ s ∧ L[s.toNat]? = some id.toNat := by
  unfold ofF
  by_cases hp : 0 < id
  · rw [if_pos hp]
    constructor
    · intro h
      simp only [Option.map_eq_some_iff] at h
      obtain ⟨k, hk, rfl⟩ := h
      rw [List.findIdx?_eq_some_iff_getElem] at hk
      obtain ⟨h1, h2, _⟩ := hk
      refine ⟨hp, by omega, ?_⟩
      rw [Int.toNat_natCast, List.getElem?_eq_getElem h1]
      simp only [decide_eq_true_eq] at h2
      congr 1
      omega
    · rintro ⟨_, h2, h3⟩
      simp only [Option.map_eq_some_iff]
      refine ⟨s.toNat, ?_, by omega⟩
      obtain ⟨hl, he⟩ := List.getElem?_eq_some_iff.1 h3
      rw [List.findIdx?_eq_some_iff_getElem]
      refine ⟨hl, by simp only [decide_eq_true_eq]; omega, fun j hj => ?_⟩
      simp only [decide_eq_true_eq]
      intro e
      have hjl : j < L.length := by omega
      have := ho.one j s.toNat id.toNat (by rw [List.getElem?_eq_getElem hjl]; congr 1; omega) h3 (by omega)
      omega
  · rw [if_neg hp]
    constructor
    · intro h; cases h
    · rintro ⟨h, _⟩; omega
set_option maxRecDepth 100000 in
theorem SlOK.put {L : List Nat} {last s : Nat} (h : SlOK L last) (hs : L[s]? = some 0) : SlOK (L.set s (last + 1)) (last + 1) := by
  obtain ⟨hl, he⟩ := List.getElem?_eq_some_iff.1 hs
  refine ⟨fun i j x hi hj hx => ?_, fun x hx => ?_, by rw [List.length_set]; exact h.len⟩
  · by_cases e1 : i = s
    · subst e1
      rw [List.getElem?_set_self hl] at hi
      cases hi
      by_cases e2 : j = i
      · exact e2.symm
      · rw [List.getElem?_set_ne (fun q => e2 q.symm)] at hj
        have := h.le _ (List.mem_of_getElem? hj)
        omega
    · rw [List.getElem?_set_ne (fun q => e1 q.symm)] at hi
      by_cases e2 : j = s
      · subst e2
        rw [List.getElem?_set_self hl] at hj
        cases hj
        have := h.le _ (List.mem_of_getElem? hi)
        omega
      · rw [List.getElem?_set_ne (fun q => e2 q.symm)] at hj
        exact h.one i j x hi hj hx
  · rcases List.mem_or_eq_of_mem_set hx with hx | rfl
    · have := h.le x hx; omega
    · exact Nat.le_refl _
set_option maxRecDepth 100000 in
theorem SlOK.free {L : List Nat} {last s : Nat} (h : SlOK L last) : SlOK (L.set s 0) last := by
  refine ⟨fun i j x hi hj hx => ?_, fun x hx => ?_, by rw [List.length_set]; exact h.len⟩
  · have key : ∀ i : Nat, (L.set s 0)[i]? = some x → L[i]? = some x := by
      intro i hi
      by_cases e : i = s
      · subst e
        by_cases hl : i < L.length
        · rw [List.getElem?_set_self hl] at hi; cases hi; exact absurd rfl hx
        · rw [List.getElem?_eq_none (by rw [List.length_set]; omega)] at hi; cases hi
      · rwa [List.getElem?_set_ne (fun q => e q.symm)] at hi
    exact h.one i j x (key i hi) (key j hj) hx
  · rcases List.mem_or_eq_of_mem_set hx with hx | rfl
    · exact h.le x hx
    · exact Nat.zero_le _
set_option maxRecDepth 100000 in
theorem ofF_put {L : List Nat} {last s : Nat} (h : SlOK L last) (hs : L[s]? = some 0) (id : Int) : ofF (L.set s (last + 1)) id = mputF (ofF L) ((last + 1 : Nat) : Int) (some (s : Int)) id := by
  obtain ⟨hl, he⟩ := List.getElem?_eq_some_iff.1 hs
  have h2 := h.put hs
  unfold mputF
  by_cases e : id = ((last + 1 : Nat) : Int)
  · rw [if_pos e]
    subst e
    rw [ofF_some h2]
    exact ⟨by omega, by omega, by rw [Int.toNat_natCast, Int.toNat_natCast, List.getElem?_set_self hl]⟩
  · rw [if_neg e]
    cases hq : ofF L id with
    | some z =>
      rw [ofF_some h] at hq
      rw [ofF_some h2]
      obtain ⟨q1, q2, q3⟩ := hq
      refine ⟨q1, q2, ?_⟩
      rw [List.getElem?_set_ne]
      · exact q3
      · intro e2
        rw [← e2, hs] at q3
        simp at q3
        omega
    | none =>
      cases hq2 : ofF (L.set s (last + 1)) id with
      | none => rfl
      | some z =>
        exfalso
        rw [ofF_some h2] at hq2
        obtain ⟨q1, q2, q3⟩ := hq2
        have : ofF L id = some z := by
          rw [ofF_some h]
          refine ⟨q1, q2, ?_⟩
          by_cases e2 : s = z.toNat
          · subst e2
            rw [List.getElem?_set_self hl] at q3
            simp at q3
            omega
          · rwa [List.getElem?_set_ne e2] at q3
        rw [hq] at this
        cases this
set_option maxRecDepth 100000 in
theorem ofF_free {L : List Nat} {last s x : Nat} (h : SlOK L last) (hs : L[s]? = some x) (hx : x ≠ 0) (id : Int) : ofF (L.set s 0) id = mputF (ofF L) (x : Int) none id := by
  obtain ⟨hl, he⟩ := List.getElem?_eq_some_iff.1 hs
  have h2 := h.free (s := s)
  unfold mputF
  by_cases e : id = (x : Int)
  · rw [if_pos e]
    subst e
    cases hq : ofF (L.set s 0) (x : Int) with
    | none => rfl
    | some z =>
      exfalso
      rw [ofF_some h2] at hq
      obtain ⟨q1, q2, q3⟩ := hq
      rw [Int.toNat_natCast] at q3
      by_cases e2 : s = z.toNat
      · subst e2
        rw [List.getElem?_set_self hl] at q3
        simp at q3
        omega
      · rw [List.getElem?_set_ne e2] at q3
        exact e2 (h.one s z.toNat x hs q3 hx)
  · rw [if_neg e]
    cases hq : ofF L id with
    | some z =>
      rw [ofF_some h] at hq
      rw [ofF_some h2]
      obtain ⟨q1, q2, q3⟩ := hq
      refine ⟨q1, q2, ?_⟩
      rw [List.getElem?_set_ne]
      · exact q3
      · intro e2
        rw [← e2, hs] at q3
        simp at q3
        omega
    | none =>
      cases hq2 : ofF (L.set s 0) id with
      | none => rfl
      | some z =>
        exfalso
        rw [ofF_some h2] at hq2
        obtain ⟨q1, q2, q3⟩ := hq2
        have : ofF L id = some z := by
          rw [ofF_some h]
          refine ⟨q1, q2, ?_⟩
          by_cases e2 : s = z.toNat
          · subst e2
            rw [List.getElem?_set_self hl] at q3
            simp at q3
            omega
          · rwa [List.getElem?_set_ne e2] at q3
        rw [hq] at this
        cases this
set_option maxRecDepth 100000 in
theorem ofF_no (L : List Nat) {last : Nat} (h : SlOK L last) : ofF L ((last + 1 : Nat) : Int) = none := by
  cases hq : ofF L ((last + 1 : Nat) : Int) with
  | none => rfl
  | some z =>
    exfalso
    rw [ofF_some h] at hq
    obtain ⟨_, _, q3⟩ := hq
    have := h.le _ (List.mem_of_getElem? q3)
    omega
/-- a Slots at p, its maps at gf, ga -/
structure SlAt (w : World) (p gf ga : Nat) (L : List Nat) (last : Nat) : Prop where
  blk : Blk w p 220 [.int .i64 (L.length : Nat), .int .i64 (last : Nat), .map (some gf), .map (some ga)]
  of : MapF rdI (Lit.int .i64) w gf last (cntS L) (ofF L)
  at_ : MapF rdI (Lit.int .i64) w ga last (cntS L) (atF L)
  ne1 : p ≠ gf
  ne2 : p ≠ ga
  ne3 : gf ≠ ga
  ok : SlOK L last
set_option maxRecDepth 100000 in
theorem MapF.cong {V : Type} {R : Value → Option (DataW Unit × List MemPlace)} {lt : V → Lit} {w : World} {b n c : Nat} {f g : Int → Option V} (h : MapF R lt w b n c f) (hg : ∀ k, f k = g k) : MapF R lt w b n c g := by
  obtain ⟨D, h1, h2, h3⟩ := h
  exact ⟨D, h1, h2, fun k hk => by rw [← hg k]; exact h3 k hk⟩
set_option maxRecDepth 100000 in
theorem SlAt.frm {S : Nat → Prop} {w w' : World} {p gf ga : Nat} {L : List Nat} {last : Nat} (h : SlAt w p gf ga L last) (hf : Frm S w w') (h1 : ¬ S p) (h2 : ¬ S gf) (h3 : ¬ S ga) : SlAt w' p gf ga L last :=
  ⟨h.blk.frm hf h1, h.of.frm hf h2, h.at_.frm hf h3, h.ne1, h.ne2, h.ne3, h.ok⟩
set_option maxRecDepth 100000 in
theorem SlAt.below {w w' : World} {p gf ga : Nat} {L : List Nat} {last : Nat} (h : SlAt w p gf ga L last) (hb : Below w.heap.size w w') : SlAt w' p gf ga L last :=
  h.frm (Frm.below (S := fun _ => False) hb) id id id
set_option maxRecDepth 100000 in
theorem slptr_ne (p o : Nat) (W : World) : (binOp .eql 117 (.pointer (some ⟨p, o, none⟩)) (.pointer none)).run Tryz.prog W = .ok (.bool false) W := by kernel_rfl
def SlX (p gf ga : Nat) (i : Nat) : Prop := i = p ∨ i = gf ∨ i = ga
set_option maxRecDepth 100000 in
theorem zero_int (w : World) : (zeroValue 3).run Tryz.prog w = .ok (.int .i64 0) w := by kernel_rfl
set_option maxRecDepth 100000 in
set_option maxHeartbeats 4000000 in
theorem s_new (most : Int) (w : World) (h1 : 1 ≤ most) (h2 : most ≤ 4) :
    Calls Tryz.prog 59 #[.int .i64 most] w fun e w' => e = .returned (.tuple #[.pointer (some ⟨w.heap.size + 2, 0, none⟩), .int .i64 0]) ∧ SlAt w' (w.heap.size + 2) w.heap.size (w.heap.size + 1) (List.replicate most.toNat 0) 0 ∧ Below w.heap.size w w' := by
  obtain ⟨m, rfl⟩ : ∃ m : Nat, most = m := ⟨most.toNat, by omega⟩
  have hm1 : 1 ≤ m := by omega
  have hm2 : m ≤ 4 := by omega
  rw [Int.toNat_natCast]
  have hmk := fun V => run_makeMap (P := Tryz.prog) 218 V
  go_enter Tryz.func59, Tryz.ntmps59
  go_wp2_with fail
  go_ret2
  have a1 := MapF.made (R := rdI) (lt := Lit.int .i64) w
  have a2 := MapF.made (R := rdI) (lt := Lit.int .i64) (w.alloc (.map #[] 0))
  have hz1 : (w.alloc (.map #[] 0)).heap.size = w.heap.size + 1 := by simp
  have hz2 : ((w.alloc (.map #[] 0)).alloc (.map #[] 0)).heap.size = w.heap.size + 2 := by simp
  have b3 := heap_alloc_new ((w.alloc (.map #[] 0)).alloc (.map #[] 0)) (.cells #[.int .i64 (m : Nat), .int .i64 0, .map (some w.heap.size), .map (some (w.heap.size + 1))] 220)
  rw [hz1] at a2
  rw [hz2] at b3
  have f1 : Below (w.alloc (.map #[] 0)).heap.size (w.alloc (.map #[] 0)) (((w.alloc (.map #[] 0)).alloc (.map #[] 0)).alloc (.cells #[.int .i64 (m : Nat), .int .i64 0, .map (some w.heap.size), .map (some (w.heap.size + 1))] 220)) := ((Below.refl _ _).alloc (Nat.le_refl _) _).alloc (by simp) _
  have f2 : Below ((w.alloc (.map #[] 0)).alloc (.map #[] 0)).heap.size ((w.alloc (.map #[] 0)).alloc (.map #[] 0)) (((w.alloc (.map #[] 0)).alloc (.map #[] 0)).alloc (.cells #[.int .i64 (m : Nat), .int .i64 0, .map (some w.heap.size), .map (some (w.heap.size + 1))] 220)) := (Below.refl _ _).alloc (Nat.le_refl _) _
  have c0 : cntS (List.replicate m 0) = 0 := by unfold cntS; rw [List.countP_eq_zero]; intro x hx; rw [List.eq_of_mem_replicate hx]; decide
  refine ⟨rfl, ⟨by rw [List.length_replicate]; exact b3, ?_, ?_, by omega, by omega, by omega, ⟨fun s s' x hs _ hx => absurd (List.eq_of_mem_replicate (List.mem_of_getElem? hs)) hx, fun x hx => by rw [List.eq_of_mem_replicate hx]; exact Nat.le_refl _, by simpa using ⟨hm1, hm2⟩⟩⟩, ?_⟩
  · rw [c0]
    exact (a1.frm (Frm.below (S := fun _ => False) f1) id).cong (fun k => by
      unfold ofF
      split
      · symm
        rw [Option.map_eq_none_iff, List.findIdx?_eq_none_iff]
        intro x hx
        rw [List.eq_of_mem_replicate hx]
        simp
        omega
      · rfl)
  · rw [c0]
    exact (a2.frm (Frm.below (S := fun _ => False) f2) id).cong (fun k => by
      unfold atF
      split
      · rw [List.getElem?_replicate]
        by_cases hk : k.toNat < m
        · rw [if_pos hk]; simp
        · rw [if_neg hk]
      · rfl)
  · exact (((Below.refl _ w).alloc (Nat.le_refl _) _).alloc (by simp) _).alloc (by rw [hz2]; omega) _
set_option maxRecDepth 100000 in
set_option maxHeartbeats 4000000 in
theorem s_of (p gf ga : Nat) (L : List Nat) (last : Nat) (id : Int) (w : World) (h : SlAt w p gf ga L last) (hk : wf64 id) :
    Calls Tryz.prog 175 #[.pointer (some ⟨p, 0, none⟩), .int .i64 id] w fun e w' => e = .returned (.tuple #[.int .i64 ((ofF L id).getD 0), .bool (ofF L id).isSome]) ∧ w = w' := by
  have t2 : w.cell? ⟨p, 2, none⟩ = some (.map (some gf)) := h.blk.cell 2
  have hl := h.of.look_ok codI Tryz.underlying218 0 (zero_int w) hk
  have hq := fun V => slptr_ne p 0 V
  clear h
  generalize (ofF L id).getD 0 = a at *
  generalize (ofF L id).isSome = b at *
  go_enter Tryz.func175, Tryz.ntmps175
  go_wp2_with fail
  go_ret2
  exact ⟨rfl, rfl⟩
set_option maxRecDepth 100000 in
set_option maxHeartbeats 4000000 in
theorem s_at (p gf ga : Nat) (L : List Nat) (last : Nat) (k : Int) (w : World) (h : SlAt w p gf ga L last) (hk : wf64 k) :
    Calls Tryz.prog 68 #[.pointer (some ⟨p, 0, none⟩), .int .i64 k] w fun e w' => e = .returned (.tuple #[.int .i64 ((atF L k).getD 0), .bool (atF L k).isSome]) ∧ w = w' := by
  have t3 : w.cell? ⟨p, 3, none⟩ = some (.map (some ga)) := h.blk.cell 3
  have hl := h.at_.look_ok codI Tryz.underlying218 0 (zero_int w) hk
  have hq := fun V => slptr_ne p 0 V
  clear h
  generalize (atF L k).getD 0 = a at *
  generalize (atF L k).isSome = b at *
  go_enter Tryz.func68, Tryz.ntmps68
  go_wp2_with fail
  go_ret2
  exact ⟨rfl, rfl⟩
def freeL (L : List Nat) (id : Int) : List Nat := match ofF L id with | some s => L.set s.toNat 0 | none => L
set_option maxRecDepth 100000 in
set_option maxHeartbeats 4000000 in
theorem s_free (p gf ga : Nat) (L : List Nat) (last : Nat) (id : Int) (w : World) (h : SlAt w p gf ga L last) (hk : wf64 id) :
    Calls Tryz.prog 124 #[.pointer (some ⟨p, 0, none⟩), .int .i64 id] w fun e w' => e = .returned (.bool (ofF L id).isSome) ∧ SlAt w' p gf ga (freeL L id) last ∧ Frm (SlX p gf ga) w w' := by
  have HO := Lib.hid (s_of p gf ga L last id w h hk)
  have HW := Lib.hid h
  unfold freeL
  cases hq : ofF L id with
  | none =>
    rw [hq] at HO
    clear hq h
    go_enter Tryz.func124, Tryz.ntmps124
    go_wp2_with fail
    refine HO.out.mono ?_
    rintro e w' ⟨rfl, rfl⟩
    go_wp2_with fail
    go_ret
    exact ⟨rfl, HW.out, Frm.refl _ _⟩
  | some s =>
    rw [hq] at HO
    have hs := (ofF_some h.ok).1 hq
    obtain ⟨k, rfl⟩ : ∃ k : Nat, s = k := ⟨s.toNat, by omega⟩
    obtain ⟨h0, _, h2⟩ := hs
    rw [Int.toNat_natCast] at h2
    have hl : k < L.length := (List.getElem?_eq_some_iff.1 h2).1
    have hk2 : wf64 (k : Int) := wf64_of (by omega) (by have := h.ok.len.2; omega)
    have hat : atF L (k : Int) = some id := by
      unfold atF
      rw [if_pos (by omega), Int.toNat_natCast, h2]
      simp only
      rw [if_neg (by omega)]
      congr 1
      omega
    have HF := Lib.hid (ofF_free h.ok h2 (by omega))
    have HA := Lib.hid (fun j => atF_set (y := 0) h2 j)
    have hid : ((id.toNat : Nat) : Int) = id := by omega
    rw [hid] at HF
    have hcn := cntS_set (y := 0) h2
    have HC := Lib.hid (show cntS (L.set k 0) = cntS L - 1 from by rw [if_pos (by omega), if_neg (by decide)] at hcn; omega)
    have HQ := Lib.hid hq
    have HAT := Lib.hid hat
    have HOK := Lib.hid (h.ok.free (s := k))
    have HK := Lib.hid hk
    have HK2 := Lib.hid hk2
    have t2 : w.cell? ⟨p, 2, none⟩ = some (.map (some gf)) := h.blk.cell 2
    clear hq h h2 hat hid hcn hk hk2
    go_enter Tryz.func124, Tryz.ntmps124
    go_wp2_with fail
    refine HO.out.mono ?_
    rintro e w' ⟨rfl, rfl⟩
    clear HO
    go_upto_region 4 with (refine wpList_mapDel (R := rdI) (lt := Lit.int .i64) rfl _ _ 218 3 rfl Tryz.underlying218 gf last (cntS L) (ofF L) rfl HW.out.of id rfl HK.out ?_; intro w1 hm1 hf1; rw [HQ.out] at hm1; have HM1 := Lib.hid hm1; have HF1 := Lib.hid hf1; clear hm1 hf1)
    have HB1 := Lib.hid (HW.out.blk.frm HF1.out (fun e => HW.out.ne1 e))
    have HA1 := Lib.hid (HW.out.at_.frm HF1.out (fun e => HW.out.ne3 e.symm))
    have t3 : w1.cell? ⟨p, 3, none⟩ = some (.map (some ga)) := HB1.out.cell 3
    clear t2
    go_wp2_with (refine wpList_mapDel (R := rdI) (lt := Lit.int .i64) rfl _ _ 218 3 rfl Tryz.underlying218 ga last (cntS L) (atF L) rfl HA1.out (k : Nat) rfl HK2.out ?_; intro w2 hm2 hf2; rw [HAT.out] at hm2; have HM2 := Lib.hid hm2; have HF2 := Lib.hid hf2; clear hm2 hf2)
    go_ret
    refine ⟨rfl, ⟨?_, ?_, ?_, HW.out.ne1, HW.out.ne2, HW.out.ne3, HOK.out⟩, (HF1.out.mono (fun i hi _ => .inr (.inl hi))).trans HF2.out (fun i hi _ => .inr (.inr hi))⟩
    · have q := HB1.out.frm HF2.out (fun e => HW.out.ne2 e)
      rw [Int.toNat_natCast, List.length_set]
      exact q
    · rw [Int.toNat_natCast, HC.out]
      exact (HM1.out.frm HF2.out (fun e => HW.out.ne3 e)).cong (fun j => (HF.out j).symm)
    · rw [Int.toNat_natCast, HC.out]
      exact HM2.out.cong (fun j => (HA.out j).symm)
/-- Submit: the verdict, the number, the slot -/
def subS (q : ByteArray) (k n : Int) (L : List Nat) (last : Nat) : Int × Int × Int := if mayQ q k n = false then (1, 0, 0) else match freeS L with | none => (2, 0, 0) | some s => (3, ((last + 1 : Nat) : Int), (s : Int))
def subL (q : ByteArray) (k n : Int) (L : List Nat) (last : Nat) : List Nat × Nat := if mayQ q k n = false then (L, last) else match freeS L with | none => (L, last) | some s => (L.set s (last + 1), last + 1)
def SubE (q : ByteArray) (k n : Int) (p gf ga : Nat) (L : List Nat) (last : Nat) (w : World) (e : Ending) (w' : World) : Prop := e = .returned (.tuple #[.int .i64 (subS q k n L last).1, .int .i64 (subS q k n L last).2.1, .int .i64 (subS q k n L last).2.2]) ∧ SlAt w' p gf ga (subL q k n L last).1 (subL q k n L last).2 ∧ Frm (SlX p gf ga) w w'
set_option maxRecDepth 100000 in
set_option maxHeartbeats 8000000 in
theorem s_submit (q : ByteArray) (k n : Int) (p gf ga : Nat) (L : List Nat) (last : Nat) (w : World) (h : SlAt w p gf ga L last) (hq : q.size ≤ maxLen) (hlast : last ≤ 1000000) :
    Calls Tryz.prog 63 #[.pointer (some ⟨p, 0, none⟩), .agg #[.string q, .int .i64 k, .int .i64 n]] w (SubE q k n p gf ga L last w) := by
  have HMA := Lib.hid (fun V => rmay_any q k n V hq)
  clear hq
  have HK := Lib.hid (show Blk (w.alloc (.cells #[.string q, .int .i64 k, .int .i64 n] 40)) w.heap.size 40 [.string q, .int .i64 k, .int .i64 n] from heap_alloc_new w _)
  have HS0 := Lib.hid (h.below ((Below.refl _ w).alloc (Nat.le_refl _) (.cells #[.string q, .int .i64 k, .int .i64 n] 40)))
  have HF0 := Lib.hid ((Frm.refl (SlX p gf ga) w).alloc (.cells #[.string q, .int .i64 k, .int .i64 n] 40))
  obtain ⟨W, hW⟩ : ∃ W, w.alloc (.cells #[.string q, .int .i64 k, .int .i64 n] 40) = W := ⟨_, rfl⟩
  rw [hW] at HK HS0 HF0
  have hp1 := fun V => slptr_ne p 0 V
  clear h
  unfold SubE
  have t0 : W.cell? ⟨w.heap.size, 0, none⟩ = some (.string q) := HK.out.cell 0
  have t1 : W.cell? ⟨w.heap.size, 1, none⟩ = some (.int .i64 k) := HK.out.cell 1
  have t2 : W.cell? ⟨w.heap.size, 2, none⟩ = some (.int .i64 n) := HK.out.cell 2
  obtain ⟨sv, hsv⟩ : ∃ x, subS q k n L last = x := ⟨_, rfl⟩
  obtain ⟨sl, hsl⟩ : ∃ x, subL q k n L last = x := ⟨_, rfl⟩
  rw [hsv, hsl]
  unfold subS at hsv
  unfold subL at hsl
  go_enter Tryz.func63, Tryz.ntmps63
  go_wp2_with (rw [hW])
  clear hW
  refine (HMA.out _).mono ?_
  clear HMA
  rintro e V1 ⟨rfl, hb⟩
  clear t0 t1 t2 HK
  have HS1 := Lib.hid (HS0.out.below hb)
  have HF1 := Lib.hid (HF0.out.trans (Frm.below (S := SlX p gf ga) hb) (fun i hi _ => hi))
  clear hb HS0 HF0
  cases hm : mayQ q k n
  case false =>
    rw [hm] at hsv hsl
    rw [if_pos rfl] at hsv hsl
    subst hsv hsl
    clear hm
    go_wp2_with fail
    go_ret3
    exact ⟨rfl, HS1.out, HF1.out⟩
  rw [hm] at hsv hsl
  rw [if_neg (by decide)] at hsv hsl
  clear hm
  go_upto_region 5 with fail
  have HC1 := Lib.hid (show V1.drew.cell? ⟨p, 0, none⟩ = some (.int .i64 (L.length : Nat)) from HS1.out.blk.cell 0)
  have HC2 := Lib.hid (show V1.drew.cell? ⟨p, 2, none⟩ = some (.map (some gf)) from HS1.out.blk.cell 2)
  have HC3 := Lib.hid (show MapF rdI (Lit.int .i64) V1.drew gf last (cntS L) (ofF L) from HS1.out.of.same rfl)
  refine wp_region_held_drew (S := (fun w' => w'.cell? ⟨p, 0, none⟩ = some (.int .i64 (L.length : Nat)) ∧ w'.cell? ⟨p, 2, none⟩ = some (.map (some gf)) ∧ MapF rdI (Lit.int .i64) w' gf last (cntS L) (ofF L))) (by kernel_rfl) (by exact ⟨HC1.out, HC2.out, HC3.out⟩) (fun hHeld => ?_)
  refine takeO 0 (some 16) (v := ?_) rfl rfl (by kernel_rfl) (by kernel_rfl) (by kernel_rfl) (fun _ _ _ h => h) (Or.inl ⟨by rfl, ?_⟩) (by assumption) ?_
  rotate_left 1
  · intro w hSw; (try dsimp only at hSw); go_simp; all_goals with_reducible rfl
  try simp only [Act.put, List.setIfInBounds_toArray, List.set_cons_zero, List.set_cons_succ]
  refine takeO 1 (some 17) (v := ?_) rfl rfl (by kernel_rfl) (by kernel_rfl) (by kernel_rfl) (fun _ _ _ h => h) (Or.inl ⟨by rfl, ?_⟩) (by assumption) ?_
  rotate_left 1
  · intro w hSw; (try dsimp only at hSw); go_simp; all_goals with_reducible rfl
  try simp only [Act.put, List.setIfInBounds_toArray, List.set_cons_zero, List.set_cons_succ]
  refine takeO 2 (some 18) (v := ?_) rfl rfl (by kernel_rfl) (by kernel_rfl) (by kernel_rfl) (fun _ _ _ h => h) (Or.inl ⟨by rfl, ?_⟩) (by assumption) ?_
  rotate_left 1
  · intro w hSw; (try dsimp only at hSw); go_simp; all_goals with_reducible rfl
  try simp only [Act.put, List.setIfInBounds_toArray, List.set_cons_zero, List.set_cons_succ]
  refine takeO 3 (some 19) (v := ?_) rfl rfl (by kernel_rfl) (by kernel_rfl) (by kernel_rfl) (fun _ _ _ h => h) (Or.inl ⟨by rfl, ?_⟩) (by assumption) ?_
  rotate_left 1
  · intro w hSw; (try dsimp only at hSw); go_simp; all_goals with_reducible rfl
  try simp only [Act.put, List.setIfInBounds_toArray, List.set_cons_zero, List.set_cons_succ]
  refine takeO 4 (some 20) (v := ?_) rfl rfl (by kernel_rfl) (by kernel_rfl) (by kernel_rfl) (fun _ _ _ h => h) (Or.inl ⟨by rfl, ?_⟩) (by assumption) ?_
  rotate_left 1
  · intro w hSw; obtain ⟨hSa, hSb, hSc⟩ := hSw; have hln := hSc.len Tryz.underlying218; clear hSc; go_simp; all_goals with_reducible rfl
  try simp only [Act.put, List.setIfInBounds_toArray, List.set_cons_zero, List.set_cons_succ]
  refine takeO 5 (some 21) (v := ?_) rfl rfl (by kernel_rfl) (by kernel_rfl) (by kernel_rfl) (fun _ _ _ h => h) (Or.inl ⟨by rfl, ?_⟩) (by assumption) ?_
  rotate_left 1
  · intro w hSw; (try dsimp only at hSw); go_simp; all_goals with_reducible rfl
  try simp only [Act.put, List.setIfInBounds_toArray, List.set_cons_zero, List.set_cons_succ]
  refine takeO 6 (some 22) (v := ?_) rfl rfl (by kernel_rfl) (by kernel_rfl) (by kernel_rfl) (fun _ _ _ h => h) (Or.inl ⟨by rfl, ?_⟩) (by assumption) ?_
  rotate_left 1
  · intro w hSw; (try dsimp only at hSw); go_simp; all_goals with_reducible rfl
  try simp only [Act.put, List.setIfInBounds_toArray, List.set_cons_zero, List.set_cons_succ]
  refine takeO 7 (some 23) (v := ?_) rfl rfl (by kernel_rfl) (by kernel_rfl) (by kernel_rfl) (fun _ _ _ h => h) (Or.inl ⟨by rfl, ?_⟩) (by assumption) ?_
  rotate_left 1
  · intro w hSw; (try dsimp only at hSw); go_simp; all_goals with_reducible rfl
  try simp only [Act.put, List.setIfInBounds_toArray, List.set_cons_zero, List.set_cons_succ]
  refine takeO 8 (some 24) (v := ?_) rfl rfl (by kernel_rfl) (by kernel_rfl) (by kernel_rfl) (fun _ _ _ h => h) (Or.inl ⟨by rfl, ?_⟩) (by assumption) ?_
  rotate_left 1
  · intro w hSw; (try dsimp only at hSw); go_simp; all_goals with_reducible rfl
  try simp only [Act.put, List.setIfInBounds_toArray, List.set_cons_zero, List.set_cons_succ]
  refine takeO 9 (some 25) (v := ?_) rfl rfl (by kernel_rfl) (by kernel_rfl) (by kernel_rfl) (fun _ _ _ h => h) (Or.inl ⟨by rfl, ?_⟩) (by assumption) ?_
  rotate_left 1
  · intro w hSw; (try dsimp only at hSw); go_simp; all_goals with_reducible rfl
  try simp only [Act.put, List.setIfInBounds_toArray, List.set_cons_zero, List.set_cons_succ]
  refine takeO 10 (some 15) (v := ?_) rfl rfl (by kernel_rfl) (by kernel_rfl) (by kernel_rfl) (fun _ _ _ h => h) (Or.inl ⟨by rfl, ?_⟩) (by assumption) ?_
  rotate_left 1
  · intro w hSw; (try dsimp only at hSw); go_simp; all_goals with_reducible rfl
  try simp only [Act.put, List.setIfInBounds_toArray, List.set_cons_zero, List.set_cons_succ]
  refine wpAnyH_done (by kernel_rfl) ?_ _
  clear HC1 HC2 HC3
  have hcl := cntS_le L
  cases hfr : freeS L
  case none =>
    rw [hfr] at hsv hsl
    subst hsv hsl
    have hc := free_full.1 hfr
    have e5 : ((cntS L : Int) == (L.length : Int)) = true := by rw [hc]; simp
    have HFR := Lib.hid hfr
    clear hfr hc hcl
    generalize cntS L = cn at *
    go_wp2_with fail
    go_ret3
    exact ⟨rfl, HS1.out.below (below_drewN (Below.refl _ V1) 1), HF1.out.drew⟩
  rename_i sf
  rw [hfr] at hsv hsl
  subst hsv hsl
  obtain ⟨h1, h2⟩ := free_some hfr
  have hne : cntS L ≠ L.length := fun e => by rw [free_full.2 e] at hfr; cases hfr
  have e5 : ((cntS L : Int) == (L.length : Int)) = false := by rw [beq_eq_false_iff_ne]; omega
  have hsl : sf < L.length := (List.getElem?_eq_some_iff.1 h1).1
  have hl4 := HS1.out.ok.len
  have HFR := Lib.hid h1
  have HBF := Lib.hid h2
  clear hfr h1 h2 hne hcl
  have HS2 := Lib.hid (HS1.out.below (below_drewN (Below.refl _ V1) 1))
  have HF2 := Lib.hid HF1.out.drew
  clear HS1 HF1
  obtain ⟨V2, hV2⟩ : ∃ V, V1.drew = V := ⟨_, rfl⟩
  rw [show V1.drewN 1 = V2 from hV2] at HS2
  rw [hV2] at HF2 ⊢
  clear hV2
  have t3 : V2.cell? ⟨p, 3, none⟩ = some (.map (some ga)) := HS2.out.blk.cell 3
  have HLK := Lib.hid (fun (j : Nat) (hj : j ≤ sf) => HS2.out.at_.look codI Tryz.underlying218 0 (zero_int V2) (k := (j : Int)) (wf64_of (by omega) (by omega)))
  go_wp2_with fail
  go_loop [7] (fun v => ∃ i : Nat, i ≤ sf ∧ v = .int .i64 i) (fun v => sf - (intOf v).toNat)
  case atStart => exact ⟨0, Nat.zero_le _, rfl⟩
  case round =>
    obtain ⟨i, hi, rfl⟩ := hrel
    have hlk := HLK.out i hi
    by_cases hlt : i < sf
    · obtain ⟨x, hx, hx0⟩ := HBF.out i hlt
      have hv : (atF L (i : Int)).getD 0 = (x : Int) := by unfold atF; rw [if_pos (by omega), Int.toNat_natCast, hx]; simp only; rw [if_neg hx0]; rfl
      rw [hv] at hlk
      have hxp : (0 : Int) < (x : Int) := by omega
      clear hv hx hx0
      go_wp2_with fail
      go_round
      case rel => exact ⟨i + 1, by omega, by go_num⟩
      case measure => simp [intOf]; omega
    · obtain rfl : i = sf := by omega
      have hv : (atF L (i : Int)).getD 0 = 0 := by unfold atF; rw [if_pos (by omega), Int.toNat_natCast, HFR.out]; rfl
      rw [hv] at hlk
      clear hv hlt hi HLK HBF
      have t1 : V2.cell? ⟨p, 1, none⟩ = some (.int .i64 (last : Nat)) := HS2.out.blk.cell 1
      have fz : ∀ o, V2.frozen? ⟨p, o, none⟩ = false := fun o => fz_of (o := o) HS2.out.blk
      have HB3 := Lib.hid (Blk.set HS2.out.blk 1 (.int .i64 ((last : Int) + 1)))
      have HX3 := Lib.hid ((Frm.refl (fun j => j = p) V2).setCell ⟨p, 1, none⟩ (.int .i64 ((last : Int) + 1)) (.inl rfl))
      go_upto_region 11 with fail
      clear t3 t1 fz hlk
      obtain ⟨V3, hV3⟩ : ∃ V, V2.setCell ⟨p, 1, none⟩ (.int .i64 ((last : Int) + 1)) = V := ⟨_, rfl⟩
      rw [hV3] at HB3 HX3 ⊢
      clear hV3
      have hn : last < maxLen := by unfold maxLen; omega
      have HO3 := Lib.hid (show MapF rdI (Lit.int .i64) V3.drew gf last (cntS L) (ofF L) from (HS2.out.of.frm HX3.out (fun e => HS2.out.ne1 e.symm)).same rfl)
      have HA3 := Lib.hid (show MapF rdI (Lit.int .i64) V3.drew ga last (cntS L) (atF L) from (HS2.out.at_.frm HX3.out (fun e => HS2.out.ne2 e.symm)).same rfl)
      have hk1 : wf64 ((last : Int) + 1) := wf64_of (by omega) (by omega)
      have hk2 : wf64 (i : Int) := wf64_of (by omega) (by omega)
      obtain ⟨st1, w1, hr1, hf1, hg1⟩ := HO3.out.entry_new codI Tryz.underlying218 hn hk1 (by have q := ofF_no L HS2.out.ok; rw [Int.natCast_add] at q; exact q) (z := .int .i64 0) zero_int
      obtain ⟨w2, hr2, hm2, hf2⟩ := hg1 w1 rfl (i : Int)
      have HA4 := HA3.out.frm (hf1.trans hf2 (fun j e _ => e)) (fun e => HS2.out.ne3 e.symm)
      obtain ⟨st2, w3, hr3, hf3, hg3⟩ := HA4.entry_new codI Tryz.underlying218 hn hk2 (by unfold atF; rw [if_pos (by omega), Int.toNat_natCast, HFR.out]; rfl) (z := .int .i64 0) zero_int
      obtain ⟨w4, hr4, hm4, hf4⟩ := hg3 w3 rfl ((last : Int) + 1)
      have HB30 := Lib.hid (show Blk V3.drew p 220 [.int .i64 (L.length : Nat), .int .i64 ((last : Int) + 1), .map (some gf), .map (some ga)] from HB3.out)
      have HB31 := Lib.hid (HB30.out.frm hf1 (fun e => HS2.out.ne1 e))
      have HB32 := Lib.hid (HB31.out.frm hf2 (fun e => HS2.out.ne1 e))
      have HB33 := Lib.hid (HB32.out.frm hf3 (fun e => HS2.out.ne2 e))
      have HB34 := Lib.hid (HB33.out.frm hf4 (fun e => HS2.out.ne2 e))
      have HM2 := Lib.hid (hm2.frm (hf3.trans hf4 (fun j e _ => e)) (fun e => HS2.out.ne3 e))
      have HM4 := Lib.hid hm4
      have HFF := Lib.hid (show Frm (SlX p gf ga) V2 w4 from (((((HX3.out.drew).mono (fun j e _ => .inl e)).trans hf1 (fun j e _ => .inr (.inl e))).trans hf2 (fun j e _ => .inr (.inl e))).trans hf3 (fun j e _ => .inr (.inr e))).trans hf4 (fun j e _ => .inr (.inr e)))
      have HR1 := Lib.hid hr1
      have HR2 := Lib.hid hr2
      have HR3 := Lib.hid hr3
      have HR4 := Lib.hid hr4
      clear hr1 hr2 hr3 hr4 hm2 hm4 hf1 hf2 hf3 hf4 hg1 hg3 HA4 hk1 hk2
      refine wp_region_held_drew (S := (fun w' => w'.cell? ⟨p, 1, none⟩ = some (.int .i64 ((last : Int) + 1)) ∧ w'.cell? ⟨p, 2, none⟩ = some (.map (some gf)) ∧ w'.cell? ⟨p, 3, none⟩ = some (.map (some ga)))) (by kernel_rfl) (by first | exact ⟨HB30.out.cell 1, HB30.out.cell 2, HB30.out.cell 3⟩ | exact ⟨HB31.out.cell 1, HB31.out.cell 2, HB31.out.cell 3⟩ | exact ⟨HB32.out.cell 1, HB32.out.cell 2, HB32.out.cell 3⟩ | exact ⟨HB33.out.cell 1, HB33.out.cell 2, HB33.out.cell 3⟩ | exact ⟨HB34.out.cell 1, HB34.out.cell 2, HB34.out.cell 3⟩) (fun hHeld => ?_)
      refine takeO 0 (some 42) (v := ?_) rfl rfl (by kernel_rfl) (by kernel_rfl) (by kernel_rfl) (fun _ _ _ h => h) (Or.inl ⟨by rfl, ?_⟩) (by assumption) ?_
      rotate_left 1
      · intro w hSw; (try dsimp only at hSw); go_simp; all_goals with_reducible rfl
      try simp only [Act.put, List.setIfInBounds_toArray, List.set_cons_zero, List.set_cons_succ]
      refine takeO 1 (some 43) (v := ?_) rfl rfl (by kernel_rfl) (by kernel_rfl) (by kernel_rfl) (fun _ _ _ h => h) (Or.inl ⟨by rfl, ?_⟩) (by assumption) ?_
      rotate_left 1
      · intro w hSw; (try dsimp only at hSw); go_simp; all_goals with_reducible rfl
      try simp only [Act.put, List.setIfInBounds_toArray, List.set_cons_zero, List.set_cons_succ]
      refine takeO 2 (some 44) (v := ?_) rfl rfl (by kernel_rfl) (by kernel_rfl) (by kernel_rfl) (fun _ _ _ h => h) (Or.inl ⟨by rfl, ?_⟩) (by assumption) ?_
      rotate_left 1
      · intro w hSw; (try dsimp only at hSw); go_simp; all_goals with_reducible rfl
      try simp only [Act.put, List.setIfInBounds_toArray, List.set_cons_zero, List.set_cons_succ]
      refine takeO 3 (some 45) (v := ?_) rfl rfl (by kernel_rfl) (by kernel_rfl) (by kernel_rfl) (fun _ _ _ h => h) (Or.inl ⟨by rfl, ?_⟩) (by assumption) ?_
      rotate_left 1
      · intro w hSw; (try dsimp only at hSw); go_simp; all_goals with_reducible rfl
      try simp only [Act.put, List.setIfInBounds_toArray, List.set_cons_zero, List.set_cons_succ]
      refine takeO 4 (some 46) (v := ?_) rfl rfl (by kernel_rfl) (by kernel_rfl) (by kernel_rfl) (fun _ _ _ h => h) (Or.inl ⟨by rfl, ?_⟩) (by assumption) ?_
      rotate_left 1
      · intro w hSw; (try dsimp only at hSw); go_simp; all_goals with_reducible rfl
      try simp only [Act.put, List.setIfInBounds_toArray, List.set_cons_zero, List.set_cons_succ]
      refine takeO 5 (some 47) (v := ?_) rfl rfl (by kernel_rfl) (by kernel_rfl) (by kernel_rfl) (fun _ _ _ h => h) (Or.inl ⟨by rfl, ?_⟩) (by assumption) ?_
      rotate_left 1
      · intro w hSw; (try dsimp only at hSw); go_simp; all_goals with_reducible rfl
      try simp only [Act.put, List.setIfInBounds_toArray, List.set_cons_zero, List.set_cons_succ]
      refine takeO 6 (some 48) (v := ?_) rfl rfl (by kernel_rfl) (by kernel_rfl) (by kernel_rfl) (fun _ _ _ h => h) (Or.inl ⟨by rfl, ?_⟩) (by assumption) ?_
      rotate_left 1
      · intro w hSw; (try dsimp only at hSw); go_simp; all_goals with_reducible rfl
      try simp only [Act.put, List.setIfInBounds_toArray, List.set_cons_zero, List.set_cons_succ]
      refine takeO 7 (some 49) (v := ?_) rfl rfl (by kernel_rfl) (by kernel_rfl) (by kernel_rfl) (fun _ _ _ h => h) (Or.inl ⟨by rfl, ?_⟩) (by assumption) ?_
      rotate_left 1
      · intro w hSw; (try dsimp only at hSw); go_simp; all_goals with_reducible rfl
      try simp only [Act.put, List.setIfInBounds_toArray, List.set_cons_zero, List.set_cons_succ]
      refine takeO 8 (some 50) (v := ?_) rfl rfl (by kernel_rfl) (by kernel_rfl) (by kernel_rfl) (fun _ _ _ h => h) (Or.inl ⟨by rfl, ?_⟩) (by assumption) ?_
      rotate_left 1
      · intro w hSw; (try dsimp only at hSw); go_simp; all_goals with_reducible rfl
      try simp only [Act.put, List.setIfInBounds_toArray, List.set_cons_zero, List.set_cons_succ]
      refine takeO 9 (some 51) (v := ?_) rfl rfl (by kernel_rfl) (by kernel_rfl) (by kernel_rfl) (fun _ _ _ h => h) (Or.inl ⟨by rfl, ?_⟩) (by assumption) ?_
      rotate_left 1
      · intro w hSw; (try dsimp only at hSw); go_simp; all_goals with_reducible rfl
      try simp only [Act.put, List.setIfInBounds_toArray, List.set_cons_zero, List.set_cons_succ]
      refine takeO 10 (some 52) (v := ?_) rfl rfl (by kernel_rfl) (by kernel_rfl) (by kernel_rfl) (fun _ _ _ h => h) (Or.inl ⟨by rfl, ?_⟩) (by assumption) ?_
      rotate_left 1
      · intro w hSw; (try dsimp only at hSw); go_simp; all_goals with_reducible rfl
      try simp only [Act.put, List.setIfInBounds_toArray, List.set_cons_zero, List.set_cons_succ]
      refine takeO 11 (some 53) (v := ?_) rfl rfl (by kernel_rfl) (by kernel_rfl) (by kernel_rfl) (fun _ _ _ h => h) (Or.inl ⟨by rfl, ?_⟩) (by assumption) ?_
      rotate_left 1
      · intro w hSw; (try dsimp only at hSw); go_simp; all_goals with_reducible rfl
      try simp only [Act.put, List.setIfInBounds_toArray, List.set_cons_zero, List.set_cons_succ]
      refine takeO 12 (some 54) (v := ?_) rfl rfl (by kernel_rfl) (by kernel_rfl) (by kernel_rfl) (fun _ _ _ h => h) (Or.inl ⟨by rfl, ?_⟩) (by assumption) ?_
      rotate_left 1
      · intro w hSw; (try dsimp only at hSw); go_simp; all_goals with_reducible rfl
      try simp only [Act.put, List.setIfInBounds_toArray, List.set_cons_zero, List.set_cons_succ]
      refine takeO 13 (some 55) (v := ?_) rfl rfl (by kernel_rfl) (by kernel_rfl) (by kernel_rfl) (fun _ _ _ h => h) (Or.inl ⟨by rfl, ?_⟩) (by assumption) ?_
      rotate_left 1
      · intro w hSw; (try dsimp only at hSw); go_simp; all_goals with_reducible rfl
      try simp only [Act.put, List.setIfInBounds_toArray, List.set_cons_zero, List.set_cons_succ]
      refine takeO 14 (some 56) (v := ?_) rfl rfl (by kernel_rfl) (by kernel_rfl) (by kernel_rfl) (fun _ _ _ h => h) (Or.inl ⟨by rfl, ?_⟩) (by assumption) ?_
      rotate_left 1
      · intro w hSw; (try dsimp only at hSw); go_simp; all_goals with_reducible rfl
      try simp only [Act.put, List.setIfInBounds_toArray, List.set_cons_zero, List.set_cons_succ]
      refine takeO 15 (some 57) (v := ?_) rfl rfl (by kernel_rfl) (by kernel_rfl) (by kernel_rfl) (fun _ _ _ h => h) (Or.inl ⟨by rfl, ?_⟩) (by assumption) ?_
      rotate_left 1
      · intro w hSw; (try dsimp only at hSw); go_simp; all_goals with_reducible rfl
      try simp only [Act.put, List.setIfInBounds_toArray, List.set_cons_zero, List.set_cons_succ]
      refine takeO 16 (some 58) (v := ?_) rfl rfl (by kernel_rfl) (by kernel_rfl) (by kernel_rfl) (fun _ _ _ h => h) (Or.inl ⟨by rfl, ?_⟩) (by assumption) ?_
      rotate_left 1
      · intro w hSw; (try dsimp only at hSw); go_simp; all_goals with_reducible rfl
      try simp only [Act.put, List.setIfInBounds_toArray, List.set_cons_zero, List.set_cons_succ]
      refine takeO 17 (some 59) (v := ?_) rfl rfl (by kernel_rfl) (by kernel_rfl) (by kernel_rfl) (fun _ _ _ h => h) (Or.inl ⟨by rfl, ?_⟩) (by assumption) ?_
      rotate_left 1
      · intro w hSw; (try dsimp only at hSw); go_simp; all_goals with_reducible rfl
      try simp only [Act.put, List.setIfInBounds_toArray, List.set_cons_zero, List.set_cons_succ]
      refine wpAnyH_ready (rs := [18]) (by kernel_rfl) (by simp) ?_
      refine AllReadyH.cons rfl (fun K hK => ?_) AllReadyH.nil
      have hrr := HR1.out
      go_simp
      clear hrr
      refine hK.out _ _ (by first | exact ⟨HB30.out.cell 1, HB30.out.cell 2, HB30.out.cell 3⟩ | exact ⟨HB31.out.cell 1, HB31.out.cell 2, HB31.out.cell 3⟩ | exact ⟨HB32.out.cell 1, HB32.out.cell 2, HB32.out.cell 3⟩ | exact ⟨HB33.out.cell 1, HB33.out.cell 2, HB33.out.cell 3⟩ | exact ⟨HB34.out.cell 1, HB34.out.cell 2, HB34.out.cell 3⟩) (fun hHeld => ?_)
      clear hK K
      try simp only [Act.put, List.setIfInBounds_toArray, List.set_cons_zero, List.set_cons_succ]
      refine takeO 19 (some 61) (v := ?_) rfl rfl (by kernel_rfl) (by kernel_rfl) (by kernel_rfl) (fun _ _ _ h => h) (Or.inl ⟨by rfl, ?_⟩) (by assumption) ?_
      rotate_left 1
      · intro w hSw; (try dsimp only at hSw); go_simp; all_goals with_reducible rfl
      try simp only [Act.put, List.setIfInBounds_toArray, List.set_cons_zero, List.set_cons_succ]
      refine wpAnyH_ready (rs := [20]) (by kernel_rfl) (by simp) ?_
      refine AllReadyH.cons rfl (fun K hK => ?_) AllReadyH.nil
      have hrr := HR2.out
      go_simp
      clear hrr
      refine hK.out _ _ (by first | exact ⟨HB30.out.cell 1, HB30.out.cell 2, HB30.out.cell 3⟩ | exact ⟨HB31.out.cell 1, HB31.out.cell 2, HB31.out.cell 3⟩ | exact ⟨HB32.out.cell 1, HB32.out.cell 2, HB32.out.cell 3⟩ | exact ⟨HB33.out.cell 1, HB33.out.cell 2, HB33.out.cell 3⟩ | exact ⟨HB34.out.cell 1, HB34.out.cell 2, HB34.out.cell 3⟩) (fun hHeld => ?_)
      clear hK K
      try simp only [Act.put, List.setIfInBounds_toArray, List.set_cons_zero, List.set_cons_succ]
      refine wpAnyH_ready (rs := [21]) (by kernel_rfl) (by simp) ?_
      refine AllReadyH.cons rfl (fun K hK => ?_) AllReadyH.nil
      have hrr := HR3.out
      go_simp
      clear hrr
      refine hK.out _ _ (by first | exact ⟨HB30.out.cell 1, HB30.out.cell 2, HB30.out.cell 3⟩ | exact ⟨HB31.out.cell 1, HB31.out.cell 2, HB31.out.cell 3⟩ | exact ⟨HB32.out.cell 1, HB32.out.cell 2, HB32.out.cell 3⟩ | exact ⟨HB33.out.cell 1, HB33.out.cell 2, HB33.out.cell 3⟩ | exact ⟨HB34.out.cell 1, HB34.out.cell 2, HB34.out.cell 3⟩) (fun hHeld => ?_)
      clear hK K
      try simp only [Act.put, List.setIfInBounds_toArray, List.set_cons_zero, List.set_cons_succ]
      refine takeO 22 (some 63) (v := ?_) rfl rfl (by kernel_rfl) (by kernel_rfl) (by kernel_rfl) (fun _ _ _ h => h) (Or.inl ⟨by rfl, ?_⟩) (by assumption) ?_
      rotate_left 1
      · intro w hSw; (try dsimp only at hSw); go_simp; all_goals with_reducible rfl
      try simp only [Act.put, List.setIfInBounds_toArray, List.set_cons_zero, List.set_cons_succ]
      refine wpAnyH_ready (rs := [23]) (by kernel_rfl) (by simp) ?_
      refine AllReadyH.cons rfl (fun K hK => ?_) AllReadyH.nil
      have hrr := HR4.out
      go_simp
      clear hrr
      refine hK.out _ _ (by first | exact ⟨HB30.out.cell 1, HB30.out.cell 2, HB30.out.cell 3⟩ | exact ⟨HB31.out.cell 1, HB31.out.cell 2, HB31.out.cell 3⟩ | exact ⟨HB32.out.cell 1, HB32.out.cell 2, HB32.out.cell 3⟩ | exact ⟨HB33.out.cell 1, HB33.out.cell 2, HB33.out.cell 3⟩ | exact ⟨HB34.out.cell 1, HB34.out.cell 2, HB34.out.cell 3⟩) (fun hHeld => ?_)
      clear hK K
      try simp only [Act.put, List.setIfInBounds_toArray, List.set_cons_zero, List.set_cons_succ]
      refine wpAnyH_done (by kernel_rfl) ?_ _
      have t1 : w4.cell? ⟨p, 1, none⟩ = some (.int .i64 ((last : Int) + 1)) := HB34.out.cell 1
      clear HR1 HR2 HR3 HR4
      go_upto_region 12 with fail
      clear t1
      have HC := Lib.hid (show w4.drew.cell? ⟨p, 1, none⟩ = some (.int .i64 ((last : Int) + 1)) from HB34.out.cell 1)
      refine wp_region_held_drew (S := (fun w' => w'.cell? ⟨p, 1, none⟩ = some (.int .i64 ((last : Int) + 1)))) (by kernel_rfl) (by exact HC.out) (fun hHeld => ?_)
      refine takeO 0 (some 64) (v := ?_) rfl rfl (by kernel_rfl) (by kernel_rfl) (by kernel_rfl) (fun _ _ _ h => h) (Or.inl ⟨by rfl, ?_⟩) (by assumption) ?_
      rotate_left 1
      · intro w hSw; (try dsimp only at hSw); go_simp; all_goals with_reducible rfl
      try simp only [Act.put, List.setIfInBounds_toArray, List.set_cons_zero, List.set_cons_succ]
      refine takeO 1 (some 65) (v := ?_) rfl rfl (by kernel_rfl) (by kernel_rfl) (by kernel_rfl) (fun _ _ _ h => h) (Or.inl ⟨by rfl, ?_⟩) (by assumption) ?_
      rotate_left 1
      · intro w hSw; (try dsimp only at hSw); go_simp; all_goals with_reducible rfl
      try simp only [Act.put, List.setIfInBounds_toArray, List.set_cons_zero, List.set_cons_succ]
      refine takeO 2 (some 66) (v := ?_) rfl rfl (by kernel_rfl) (by kernel_rfl) (by kernel_rfl) (fun _ _ _ h => h) (Or.inl ⟨by rfl, ?_⟩) (by assumption) ?_
      rotate_left 1
      · intro w hSw; (try dsimp only at hSw); go_simp; all_goals with_reducible rfl
      try simp only [Act.put, List.setIfInBounds_toArray, List.set_cons_zero, List.set_cons_succ]
      refine takeO 3 (some 67) (v := ?_) rfl rfl (by kernel_rfl) (by kernel_rfl) (by kernel_rfl) (fun _ _ _ h => h) (Or.inl ⟨by rfl, ?_⟩) (by assumption) ?_
      rotate_left 1
      · intro w hSw; (try dsimp only at hSw); go_simp; all_goals with_reducible rfl
      try simp only [Act.put, List.setIfInBounds_toArray, List.set_cons_zero, List.set_cons_succ]
      refine takeO 4 (some 68) (v := ?_) rfl rfl (by kernel_rfl) (by kernel_rfl) (by kernel_rfl) (fun _ _ _ h => h) (Or.inl ⟨by rfl, ?_⟩) (by assumption) ?_
      rotate_left 1
      · intro w hSw; (try dsimp only at hSw); go_simp; all_goals with_reducible rfl
      try simp only [Act.put, List.setIfInBounds_toArray, List.set_cons_zero, List.set_cons_succ]
      refine takeO 5 (some 4) (v := ?_) rfl rfl (by kernel_rfl) (by kernel_rfl) (by kernel_rfl) (fun _ _ _ h => h) (Or.inl ⟨by rfl, ?_⟩) (by assumption) ?_
      rotate_left 1
      · intro w hSw; (try dsimp only at hSw); go_simp; all_goals with_reducible rfl
      try simp only [Act.put, List.setIfInBounds_toArray, List.set_cons_zero, List.set_cons_succ]
      refine takeO 6 (some 5) (v := ?_) rfl rfl (by kernel_rfl) (by kernel_rfl) (by kernel_rfl) (fun _ _ _ h => h) (Or.inl ⟨by rfl, ?_⟩) (by assumption) ?_
      rotate_left 1
      · intro w hSw; (try dsimp only at hSw); go_simp; all_goals with_reducible rfl
      try simp only [Act.put, List.setIfInBounds_toArray, List.set_cons_zero, List.set_cons_succ]
      refine takeO 7 (some 6) (v := ?_) rfl rfl (by kernel_rfl) (by kernel_rfl) (by kernel_rfl) (fun _ _ _ h => h) (Or.inl ⟨by rfl, ?_⟩) (by assumption) ?_
      rotate_left 1
      · intro w hSw; (try dsimp only at hSw); go_simp; all_goals with_reducible rfl
      try simp only [Act.put, List.setIfInBounds_toArray, List.set_cons_zero, List.set_cons_succ]
      refine wpAnyH_done (by kernel_rfl) ?_ _
      go_wp2_with fail
      go_ret3
      have hcn := cntS_set (y := last + 1) HFR.out
      rw [if_neg (by decide), if_pos (by omega)] at hcn
      have hok := HS2.out.ok.put HFR.out
      refine ⟨by simp, ⟨?_, ?_, ?_, HS2.out.ne1, HS2.out.ne2, HS2.out.ne3, hok⟩, HF2.out.trans HFF.out.drew (fun j e _ => e)⟩
      · have q := HB34.out; rw [List.length_set, Int.natCast_add]; exact q
      · rw [show cntS (L.set i (last + 1)) = cntS L + 1 from by omega]; exact (HM2.out.same rfl).cong (fun j => by have e := (ofF_put HS2.out.ok HFR.out j).symm; rw [Int.natCast_add] at e; exact e)
      · rw [show cntS (L.set i (last + 1)) = cntS L + 1 from by omega]; exact (HM4.out.same rfl).cong (fun j => by have e := (atF_set (y := last + 1) HFR.out j).symm; rw [if_neg (by omega), Int.natCast_add] at e; exact e)
end
end Go.Proofs.YtinkbgeckjbnbaaGreat
namespace Go.Proofs.YtinkbgeckjbnbaaGreat
section
open Go.RowKit
set_option linter.unusedVariables false

set_option maxRecDepth 100000 in
set_option maxHeartbeats 4000000 in
theorem kcmp_any (la : Int) (ta : ByteArray) (lb : Int) (tb : ByteArray) (w : World) :
    Calls Tryz.prog 158 #[.agg #[.int .i64 la, .string ta], .agg #[.int .i64 lb, .string tb]] w fun e w' => e = .returned (.int .i64 (cmpK la ta lb tb)) ∧ Below w.heap.size w w' := by
  unfold cmpK
  have H1 : RowKit.Hid (∀ W, Calls Tryz.prog 189 #[.int .i64 la, .int .i64 lb] W fun e w' => e = .returned (.int .i64 (cmpI la lb)) ∧ w' = W) := fun W => (icmp_any la lb W).mono fun e w' h => ⟨h.1, h.2.symm⟩
  have H2 : RowKit.Hid (∀ W, Calls Tryz.prog 103 #[.string ta, .string tb] W fun e w' => e = .returned (.int .i64 (cmpT ta tb)) ∧ w' = W) := fun W => (tcmp_any ta tb W).mono fun e w' h => ⟨h.1, h.2.symm⟩
  generalize cmpI la lb = x at *
  generalize cmpT ta tb = y at *
  have HB : RowKit.Hid (∀ W : World, W.heap = (((w.alloc (.cells #[.int .i64 la, .string ta] 107)).alloc (.cells #[.int .i64 lb, .string tb] 107)).alloc (.cells #[.int .i64 x, .int .i64 y] 3)).heap → Blk W (w.heap.size + 1 + 1) 3 [.int .i64 x, .int .i64 y]) := by
    intro W hW
    have h := heap_alloc_new ((w.alloc (.cells #[.int .i64 la, .string ta] 107)).alloc (.cells #[.int .i64 lb, .string tb] 107)) (.cells #[.int .i64 x, .int .i64 y] 3)
    unfold Blk
    rw [hW]
    simpa using h
  have HW : RowKit.Hid (Below w.heap.size w (((w.alloc (.cells #[.int .i64 la, .string ta] 107)).alloc (.cells #[.int .i64 lb, .string tb] 107)).alloc (.cells #[.int .i64 x, .int .i64 y] 3))) := by
    exact (((Below.refl _ w).alloc (Nat.le_refl _) _).alloc (by simp) _).alloc (by simp; omega) _
  go_enter Tryz.func158, Tryz.ntmps158
  go_wp2_with fail
  obtain ⟨W0, hW0⟩ : ∃ W0, (w.alloc (.cells #[.int .i64 la, .string ta] 107)).alloc (.cells #[.int .i64 lb, .string tb] 107) = W0 := ⟨_, rfl⟩
  have HA : Blk W0 w.heap.size 107 [.int .i64 la, .string ta] := by
    subst hW0; exact Blk.alloc (show Blk (w.alloc _) _ _ _ by unfold Blk; rw [heap_alloc_new]) _
  have HC : Blk W0 (w.heap.size + 1) 107 [.int .i64 lb, .string tb] := by
    subst hW0
    have h := heap_alloc_new (w.alloc (.cells #[.int .i64 la, .string ta] 107)) (.cells #[.int .i64 lb, .string tb] 107)
    unfold Blk
    simpa using h
  have x0 : W0.cell? ⟨w.heap.size, 0, none⟩ = some (.int .i64 la) := HA.cell 0
  have x1 : W0.cell? ⟨w.heap.size, 1, none⟩ = some (.string ta) := HA.cell 1
  have y0 : W0.cell? ⟨w.heap.size + 1, 0, none⟩ = some (.int .i64 lb) := HC.cell 0
  have y1 : W0.cell? ⟨w.heap.size + 1, 1, none⟩ = some (.string tb) := HC.cell 1
  rw [hW0]
  go_still_tail 10, (by kernel_rfl)
  still_call (H1.out _)
  repeat still_step
  still_call (H2.out _)
  repeat still_step
  refine wpStill_nil ?_
  go_wp2_with fail
  refine (or_any _ _ 3 x y ?_).mono ?_
  · have h := heap_alloc_new W0 (.cells #[.int .i64 x, .int .i64 y] 3)
    exact h
  rintro e w' ⟨rfl, rfl⟩
  go_wp2_with fail
  go_ret
  subst hW0
  exact ⟨rfl, HW.out.os, HW.out.tape, HW.out.output, HW.out.size, HW.out.block⟩
end
end Go.Proofs.YtinkbgeckjbnbaaGreat
namespace Go.Proofs.YtinkbgeckjbnbaaGreat
section
open Go.RowKit
set_option linter.unusedVariables false

set_option maxRecDepth 100000 in
set_option maxHeartbeats 1000000 in
theorem kless_any (la : Int) (ta : ByteArray) (lb : Int) (tb : ByteArray) (w : World) :
    Calls Tryz.prog 104 #[.agg #[.int .i64 la, .string ta], .agg #[.int .i64 lb, .string tb]] w fun e w' => e = .returned (.bool (decide (cmpK la ta lb tb < 0))) ∧ Below w.heap.size w w' := by
  have HK : RowKit.Hid (∀ W, Calls Tryz.prog 158 #[.agg #[.int .i64 la, .string ta], .agg #[.int .i64 lb, .string tb]] W fun e w' => e = .returned (.int .i64 (cmpK la ta lb tb)) ∧ Below W.heap.size W w') := fun W => kcmp_any la ta lb tb W
  generalize cmpK la ta lb tb = x at *
  have HW : RowKit.Hid (Below w.heap.size w ((w.alloc (.cells #[.int .i64 la, .string ta] 107)).alloc (.cells #[.int .i64 lb, .string tb] 107))) := by
    exact ((Below.refl _ w).alloc (Nat.le_refl _) _).alloc (by simp) _
  go_enter Tryz.func104, Tryz.ntmps104
  go_wp2_with fail
  refine (HK.out _).mono ?_
  rintro e w' ⟨rfl, hb⟩
  have HB := Lib.hid (HW.out.trans (hb.mono (by simp; omega)))
  clear hb
  go_wp2_with fail
  go_ret
  exact ⟨rfl, HB.out⟩
end
end Go.Proofs.YtinkbgeckjbnbaaGreat
namespace Go.Proofs.YtinkbgeckjbnbaaGreat
section
set_option linter.unusedVariables false

def keyAt (l : List KeyL) (i : Nat) : KeyL := l.getD i (0, ⟨#[]⟩)
set_option maxRecDepth 100000 in
theorem keyAt_some {l : List KeyL} {i : Nat} (h : i < l.length) : l[i]? = some (keyAt l i) := by
  unfold keyAt; simp [h]
end
end Go.Proofs.YtinkbgeckjbnbaaGreat
namespace Go.Proofs.YtinkbgeckjbnbaaGreat
section
open Go.RowKit
set_option linter.unusedVariables false

set_option maxHeartbeats 2000000 in
def badK (k : KeyL) : Bool := decide (k.1 < 1) || decide (12 < k.1) || decide (tLen k.2 < 0) || decide (12 < tLen k.2)
def risesK (l : List KeyL) (m : Nat) : Bool := (List.range m).all fun i => kless (keyAt l i) (keyAt l (i + 1))
/-- are cuts in order? -/
def goodE (l : List KeyL) : Int := if 5 < l.length then 3 else if l.any badK = true then 2 else if risesK l (l.length - 1) = true then 0 else 7
set_option maxRecDepth 100000 in
theorem risesK_succ (l : List KeyL) (m : Nat) : risesK l (m + 1) = (risesK l m && kless (keyAt l m) (keyAt l (m + 1))) := by
  unfold risesK; rw [List.range_succ, List.all_append]; simp
set_option maxRecDepth 100000 in
theorem risesK_false (l : List KeyL) (m n : Nat) (h : m ≤ n) (hm : risesK l m = false) : risesK l n = false := by
  cases hn : risesK l n with
  | false => rfl
  | true =>
    unfold risesK at hn hm
    rw [List.all_eq_true] at hn
    rw [List.all_eq_false] at hm
    obtain ⟨x, hx, hx'⟩ := hm
    exact absurd (hn x (by simp at hx ⊢; omega)) hx'
set_option maxRecDepth 100000 in
theorem any_take {α : Type} (p : α → Bool) (l : List α) (k : Nat) (x : α) (h : l[k]? = some x) : (l.take (k + 1)).any p = ((l.take k).any p || p x) := by
  rw [List.take_add_one, h]; simp
set_option maxRecDepth 100000 in
theorem any_of {α : Type} (p : α → Bool) (l : List α) (k : Nat) (x : α) (h : l[k]? = some x) (hp : p x = true) : l.any p = true := by
  rw [List.any_eq_true]; exact ⟨x, List.mem_iff_getElem?.2 ⟨k, h⟩, hp⟩

set_option maxRecDepth 100000 in
theorem goodE_5 {l : List KeyL} (h : 5 < l.length) : goodE l = 3 := by unfold goodE; rw [if_pos h]
set_option maxRecDepth 100000 in
theorem goodE_2 {l : List KeyL} (h : l.length ≤ 5) (k : l.any badK = true) : goodE l = 2 := by unfold goodE; rw [if_neg (by omega), if_pos k]
set_option maxRecDepth 100000 in
theorem goodE_7 {l : List KeyL} (h : l.length ≤ 5) (k : l.any badK = false) (m : Nat) (hm : m ≤ l.length - 1) (r : risesK l m = false) : goodE l = 7 := by
  unfold goodE; rw [if_neg (by omega), if_neg (by simp [k]), if_neg (by simp [risesK_false l m _ hm r])]
set_option maxRecDepth 100000 in
theorem goodE_0 {l : List KeyL} (h : l.length ≤ 5) (k : l.any badK = false) (r : risesK l (l.length - 1) = true) : goodE l = 0 := by
  unfold goodE; rw [if_neg (by omega), if_neg (by simp [k]), if_pos r]
set_option maxRecDepth 100000 in
set_option maxHeartbeats 4000000 in
theorem good_any (a : Option Addr) (n cap : Nat) (l : List KeyL) (w : World) (hr : RdE KeyL.cells 2 w a n cap l) (hs : ∀ x ∈ l, x.2.size ≤ maxLen) :
    Calls Tryz.prog 54 #[.slice a n cap] w fun e w' => e = .returned (.int .i64 (goodE l)) ∧ Below w.heap.size w w' := by
  have hn := hr.1
  subst hn
  have hcap := hr.2.1
  have hcm := hr.2.2.1
  unfold maxLen at hcm
  have HR := Lib.hid hr
  clear hr
  obtain ⟨g, hg⟩ : ∃ g, goodE l = g := ⟨_, rfl⟩
  rw [hg]
  have HG := Lib.hid hg
  clear hg
  by_cases h5 : 5 < l.length
  · obtain rfl : g = 3 := by rw [← HG.out]; exact goodE_5 h5
    have d5 : decide (5 < l.length) = true := by simpa using h5
    go_enter Tryz.func54, Tryz.ntmps54
    go_wp2_with fail
    go_ret
    exact ⟨rfl, Below.refl _ _⟩
  · have d5 : decide (5 < l.length) = false := by simpa using h5
    have h6 : l.length ≤ 5 := by omega
    go_enter Tryz.func54, Tryz.ntmps54
    go_wp2_with fail
    go_loopw [4, 5, 12] (fun _ _ i wr => ∃ k : Nat, k ≤ l.length ∧ i = .int .i64 k ∧ RowKit.Hid ((l.take k).any badK = false) ∧ RowKit.Hid (Below w.heap.size w wr)) (fun _ _ i _ => l.length - (intOf i).toNat)
    case atStart => exact ⟨0, by omega, rfl, by simp [RowKit.Hid], Below.refl _ w⟩
    case round =>
      obtain ⟨k, hk, rfl, HA, HB⟩ := hrel
      by_cases hlt : k < l.length
      · obtain ⟨⟨lc, tc⟩, hx⟩ : ∃ x, l[k]? = some x := ⟨l[k], List.getElem?_eq_getElem hlt⟩
        obtain ⟨b, off, rfl, hbl, hc⟩ := (HR.out.below HB.out rfl).2.2.2.2 k (lc, tc) hx
        have c0 : wr.cell? ⟨b, off + k * 2, none⟩ = some (.int .i64 lc) := hc 0 (by decide)
        have c1 : wr.cell? ⟨b, off + k * 2 + 1, none⟩ = some (.string tc) := hc 1 (by decide)
        clear hc
        have hsz := hs _ (List.mem_iff_getElem?.2 ⟨k, hx⟩)
        have HN := Lib.hid (show Blk (wr.alloc (.cells #[.int .i64 lc, .string tc] 107)) wr.heap.size 107 [.int .i64 lc, .string tc] by unfold Blk; rw [heap_alloc_new])
        have d1 : (wr.alloc (.cells #[.int .i64 lc, .string tc] 107)).cell? ⟨wr.heap.size, 1, none⟩ = some (.string tc) := HN.out.cell 1
        have HB1 := Lib.hid (HB.out.alloc HB.out.size (.cells #[.int .i64 lc, .string tc] 107))
        have hsz1 : (wr.alloc (.cells #[.int .i64 lc, .string tc] 107)).heap.size = wr.heap.size + 1 := by simp
        have HL := Lib.hid (fun W => len_any tc W hsz)
        have hat := any_take badK l k (lc, tc) hx
        have hao := any_of badK l k (lc, tc) hx
        have hbk : badK (lc, tc) = (decide (lc < 1) || decide (12 < lc) || decide (tLen tc < 0) || decide (12 < tLen tc)) := rfl
        obtain ⟨z, hz⟩ : ∃ z, tLen tc = z := ⟨_, rfl⟩
        rw [hz] at HL hbk
        rw [HA.out, Bool.false_or] at hat
        obtain ⟨bk, hbk'⟩ : ∃ bk, badK (lc, tc) = bk := ⟨_, rfl⟩
        rw [hbk'] at hat hao hbk
        have HAT := Lib.hid hat
        have HAO := Lib.hid hao
        clear hat hao hz hbk'
        clear HA
        go_wp2_with fail
        refine (HL.out _).mono ?_
        rintro e w' ⟨rfl, hb⟩
        have HN2 := Lib.hid (HN.out.below hb (by omega))
        have e0 : w'.cell? ⟨wr.heap.size, 0, none⟩ = some (.int .i64 lc) := HN2.out.cell 0
        have HB2 := Lib.hid (HB1.out.trans (hb.mono HB1.out.size))
        clear hb
        by_cases p1 : lc < 1
        · have dp : decide (lc < 1) = true := by simpa using p1
          have HK : RowKit.Hid (bk = true) := by rw [hbk, dp]; rfl
          clear hbk
          go_wp2_with fail
          go_ret
          obtain rfl : g = 2 := by rw [← HG.out]; exact goodE_2 h6 (HAO.out HK.out)
          exact ⟨rfl, HB2.out⟩
        · have dp : decide (lc < 1) = false := by simpa using p1
          by_cases p2 : 12 < lc
          · have dp2 : decide (12 < lc) = true := by simpa using p2
            have HK : RowKit.Hid (bk = true) := by rw [hbk, dp, dp2]; rfl
            clear hbk
            go_wp2_with fail
            go_ret
            obtain rfl : g = 2 := by rw [← HG.out]; exact goodE_2 h6 (HAO.out HK.out)
            exact ⟨rfl, HB2.out⟩
          · have dp2 : decide (12 < lc) = false := by simpa using p2
            by_cases p3 : z < 0
            · have dp3 : decide (z < 0) = true := by simpa using p3
              have HK : RowKit.Hid (bk = true) := by rw [hbk, dp, dp2, dp3]; rfl
              clear hbk
              go_wp2_with fail
              go_ret
              obtain rfl : g = 2 := by rw [← HG.out]; exact goodE_2 h6 (HAO.out HK.out)
              exact ⟨rfl, HB2.out⟩
            · have dp3 : decide (z < 0) = false := by simpa using p3
              by_cases p4 : 12 < z
              · have dp4 : decide (12 < z) = true := by simpa using p4
                have HK : RowKit.Hid (bk = true) := by rw [hbk, dp, dp2, dp3, dp4]; rfl
                clear hbk
                go_wp2_with fail
                go_ret
                obtain rfl : g = 2 := by rw [← HG.out]; exact goodE_2 h6 (HAO.out HK.out)
                exact ⟨rfl, HB2.out⟩
              · have dp4 : decide (12 < z) = false := by simpa using p4
                have HK : RowKit.Hid (bk = false) := by rw [hbk, dp, dp2, dp3, dp4]; rfl
                clear hbk
                go_wp2_with fail
                go_roundw
                case rel => exact ⟨k + 1, by omega, by go_num, by rw [HAT.out]; exact HK.out, HB2.out⟩
                case measure => simp [intOf]; omega
      · obtain rfl : k = l.length := by omega
        have HA2 : RowKit.Hid (l.any badK = false) := by
          have := HA.out; rw [List.take_length] at this
          exact this
        clear HA hs
        have hsz := HB.out.size
        go_wp2_with fail
        obtain ⟨wo, rfl⟩ : ∃ wo : World, wo = wr := ⟨_, rfl⟩
        go_loopw [6] (fun i wr => ∃ k : Nat, 1 ≤ k ∧ (k ≤ l.length ∨ k = 1) ∧ i = .int .i64 k ∧ RowKit.Hid (risesK l (k - 1) = true) ∧ RowKit.Hid (Below w.heap.size w wr)) (fun i _ => l.length - (intOf i).toNat)
        case atStart => exact ⟨1, by omega, .inr rfl, rfl, rfl, HB.out⟩
        case round =>
          clear HB hsz hk
          obtain ⟨k, hk1, hk, rfl, HR1, HB⟩ := hrel
          by_cases hlt : k < l.length
          · have k1 := keyAt_some (l := l) (i := k - 1) (by omega)
            have k2 := keyAt_some (l := l) (i := k) hlt
            have hrs := risesK_succ l (k - 1)
            rw [show k - 1 + 1 = k from by omega] at hrs
            revert hrs k1 k2
            generalize hx : keyAt l (k - 1) = x
            generalize hy : keyAt l k = y
            obtain ⟨lx, tx⟩ := x
            obtain ⟨ly, ty⟩ := y
            intro k1 k2 hrs
            rw [HR1.out, Bool.true_and] at hrs
            obtain ⟨b, off, rfl, hbl, hc⟩ := (HR.out.below HB.out rfl).2.2.2.2 (k - 1) (lx, tx) k1
            obtain ⟨b', off', he, hbl', hc'⟩ := (HR.out.below HB.out rfl).2.2.2.2 k (ly, ty) k2
            simp only [Option.some.injEq, Addr.mk.injEq, and_true] at he
            obtain ⟨rfl, rfl⟩ := he
            have c0 : wr.cell? ⟨b, off + (k - 1) * 2, none⟩ = some (.int .i64 lx) := hc 0 (by decide)
            have c1 : wr.cell? ⟨b, off + (k - 1) * 2 + 1, none⟩ = some (.string tx) := hc 1 (by decide)
            have c2 : wr.cell? ⟨b, off + k * 2, none⟩ = some (.int .i64 ly) := hc' 0 (by decide)
            have c3 : wr.cell? ⟨b, off + k * 2 + 1, none⟩ = some (.string ty) := hc' 1 (by decide)
            clear hc hc' hbl' k1 k2 hx hy
            have HRS := Lib.hid hrs
            clear hrs
            have HL := Lib.hid (fun W => kless_any lx tx ly ty W)
            go_wp2_with fail
            have w1 : IntKind.i64.wrap ((k : Int) - 1) = (k : Int) - 1 := IntWalk.i64_in _ (by omega)
            have w2 : ((k : Int) - 1).toNat = k - 1 := by omega
            have w3 : (0 : Int) ≤ (k : Int) - 1 := by omega
            have w4 : (k : Int) - 1 < l.length := by omega
            have w5 : (1 : Int) ≤ (k : Int) := by omega
            go_still_tail 9, (by kernel_rfl)
            clear w1 w2 w3 w4 w5
            go_wp2_with fail
            refine (HL.out _).mono ?_
            rintro e w' ⟨rfl, hb⟩
            have HB2 := Lib.hid (show Below w.heap.size w w' from (below_drewN HB.out 1).trans (hb.mono (below_drewN HB.out 1).size))
            clear hb
            cases hd : decide (cmpK lx tx ly ty < 0) with
            | true =>
              have hkl : kless (lx, tx) (ly, ty) = true := hd
              have HR2 : RowKit.Hid (risesK l k = true) := by have := HRS.out; rw [hkl] at this; exact this
              clear HRS hkl
              go_wp2_with fail
              go_roundw
              case rel => exact ⟨k + 1, by omega, by omega, by go_num, HR2.out, HB2.out⟩
              case measure => simp [intOf]; omega
            | false =>
              have hkl : kless (lx, tx) (ly, ty) = false := hd
              have HR2 : RowKit.Hid (risesK l k = false) := by have := HRS.out; rw [hkl] at this; exact this
              clear HRS hkl
              obtain rfl : g = 7 := by rw [← HG.out]; exact goodE_7 h6 HA2.out k (by omega) HR2.out
              go_wp2_with fail
              go_ret
              exact ⟨rfl, HB2.out⟩
          · have HR2 : RowKit.Hid (risesK l (l.length - 1) = true) := by
              rcases hk with hk | rfl
              · obtain rfl : k = l.length := by omega
                exact HR1.out
              · have : l.length - 1 = 0 := by omega
                rw [this]; rfl
            obtain rfl : g = 0 := by rw [← HG.out]; exact goodE_0 h6 HA2.out HR2.out
            go_wp2_with fail
            go_ret
            exact ⟨rfl, HB.out⟩

end
end Go.Proofs.YtinkbgeckjbnbaaGreat
namespace Go.Proofs.YtinkbgeckjbnbaaGreat
section
open Go.RowKit
set_option linter.unusedVariables false

/-- a configuration as it lies in a value: where its words and cuts are, what they read as, its numbers -/
structure CfgM where
  aw : Option Addr
  nw : Nat
  cw : Nat
  ac : Option Addr
  nc : Nat
  cc : Nat
  words : List ByteArray
  cuts : List KeyL
  wk : Int
  cp : Int
  sl : Int
  ba : Int
  le : Int
  he : Int
  fi : Int
  ca : Int
  ji : Int
  ne : Int
def CfgM.val (c : CfgM) : Value := .agg #[.slice c.aw c.nw c.cw, .slice c.ac c.nc c.cc, .int .i64 c.wk, .int .i64 c.cp, .int .i64 c.sl, .int .i64 c.ba, .int .i64 c.le, .int .i64 c.he, .int .i64 c.fi, .int .i64 c.ca, .int .i64 c.ji, .int .i64 c.ne]
structure CfgOK (w : World) (c : CfgM) : Prop where
  rw : RdT w c.aw c.nw c.cw c.words
  rk : RdE KeyL.cells 2 w c.ac c.nc c.cc c.cuts
  hw : ∀ x ∈ c.words, x.size ≤ maxLen
  hk : ∀ x ∈ c.cuts, x.2.size ≤ maxLen
set_option maxRecDepth 100000 in
theorem CfgOK.below {w w' : World} {c : CfgM} (h : CfgOK w c) {B : Nat} (hb : Below B w w') (hB : B = w.heap.size) : CfgOK w' c :=
  ⟨h.rw.below hb hB, h.rk.below hb hB, h.hw, h.hk⟩
def inB (x a b : Int) : Bool := decide (a ≤ x) && decide (x ≤ b)
def nodesC (c : CfgM) : Bool := inB c.wk 1 5 && inB c.cp 1 (min 3 c.wk)
def sizesC (c : CfgM) : Bool := inB c.sl 1 4 && inB c.ba 1 5 && inB c.ne 8 64
def timesC (c : CfgM) : Bool := inB c.le 1 1000 && inB c.he 1 1000 && inB c.fi 1 10 && inB c.ca c.fi 50 && inB c.ji 0 10
/-- may a configuration be? -/
def mayC (c : CfgM) : Bool := decide (goodT c.words = 0) && decide (goodE c.cuts = 0) && (nodesC c && sizesC c && timesC c)
/-- how great are cuts? -/
def greatK (l : List KeyL) : Bool := decide (10 < l.length) || l.any fun k => decide (100 < k.2.size)
set_option maxRecDepth 100000 in
theorem anyK_take {α : Type} (p : α → Bool) (l : List α) (k : Nat) (x : α) (h : l[k]? = some x) : (l.take (k + 1)).any p = ((l.take k).any p || p x) := by
  rw [List.take_add_one, h]; simp
/-- how great is a configuration? -/
def greatC (c : CfgM) : Bool := greatK c.cuts || greatT c.words
set_option maxRecDepth 100000 in
theorem greatC_true {c : CfgM} (h : greatK c.cuts = true) : greatC c = true := by unfold greatC; rw [h]; rfl
set_option maxRecDepth 100000 in
set_option maxHeartbeats 4000000 in
theorem greatC_any (c : CfgM) (w : World) (hr : CfgOK w c) :
    Calls Tryz.prog 12 #[c.val] w fun e w' => e = .returned (.bool (greatC c)) ∧ Below w.heap.size w w' := by
  unfold CfgM.val
  have hn := hr.rk.1
  have hcap := hr.rk.2.1
  have hcm := hr.rk.2.2.1
  have hs := hr.hk
  unfold maxLen at hcm hs
  have HR := Lib.hid hr
  clear hr
  obtain ⟨g, hg⟩ : ∃ g, greatC c = g := ⟨_, rfl⟩
  rw [hg]
  have HG := Lib.hid hg
  clear hg
  obtain ⟨l, hl⟩ : ∃ l, c.cuts = l := ⟨_, rfl⟩
  rw [hl] at hn hs
  have HL := Lib.hid hl
  clear hl
  obtain ⟨nl, hnl⟩ : ∃ k, c.nc = k := ⟨_, rfl⟩
  obtain ⟨cl, hcl⟩ : ∃ k, c.cc = k := ⟨_, rfl⟩
  obtain ⟨al, hal⟩ : ∃ k, c.ac = k := ⟨_, rfl⟩
  rw [hnl] at hn hcap
  rw [hcl] at hcap hcm
  rw [hnl, hcl, hal]
  have HRK := Lib.hid (show RdE KeyL.cells 2 w al nl cl l from by rw [← hnl, ← hcl, ← hal, ← HL.out]; exact HR.out.rk)
  clear hnl hcl hal
  subst hn
  go_enter Tryz.func12, Tryz.ntmps12
  go_wp2_with fail
  have HK := Lib.hid (show Blk (w.alloc (.cells #[.slice c.aw c.nw c.cw, .slice al l.length cl, .int .i64 c.wk, .int .i64 c.cp, .int .i64 c.sl, .int .i64 c.ba, .int .i64 c.le, .int .i64 c.he, .int .i64 c.fi, .int .i64 c.ca, .int .i64 c.ji, .int .i64 c.ne] 25)) w.heap.size 25 [.slice c.aw c.nw c.cw, .slice al l.length cl, .int .i64 c.wk, .int .i64 c.cp, .int .i64 c.sl, .int .i64 c.ba, .int .i64 c.le, .int .i64 c.he, .int .i64 c.fi, .int .i64 c.ca, .int .i64 c.ji, .int .i64 c.ne] from heap_alloc_new w _)
  have HB := Lib.hid ((Below.refl _ w).alloc (Nat.le_refl _) (.cells #[.slice c.aw c.nw c.cw, .slice al l.length cl, .int .i64 c.wk, .int .i64 c.cp, .int .i64 c.sl, .int .i64 c.ba, .int .i64 c.le, .int .i64 c.he, .int .i64 c.fi, .int .i64 c.ca, .int .i64 c.ji, .int .i64 c.ne] 25))
  generalize (w.alloc (.cells #[.slice c.aw c.nw c.cw, .slice al l.length cl, .int .i64 c.wk, .int .i64 c.cp, .int .i64 c.sl, .int .i64 c.ba, .int .i64 c.le, .int .i64 c.he, .int .i64 c.fi, .int .i64 c.ca, .int .i64 c.ji, .int .i64 c.ne] 25)) = W at *
  have c0 : W.cell? ⟨w.heap.size, 0, none⟩ = some (.slice c.aw c.nw c.cw) := HK.out.cell 0
  have c1 : W.cell? ⟨w.heap.size, 1, none⟩ = some (.slice al l.length cl) := HK.out.cell 1
  clear HK
  have HT := Lib.hid (greatT_any c.aw c.nw c.cw c.words W (HR.out.rw.below HB.out rfl) HR.out.hw)
  go_loop [3] (fun i => ∃ k : Nat, i = .int .i64 k ∧ k ≤ l.length ∧ (0 < k → l.length ≤ 10) ∧ RowKit.Hid ((l.take k).any (fun k => decide (100 < k.2.size)) = false)) (fun i => l.length - (intOf i).toNat)
  case atStart => exact ⟨0, rfl, by omega, by omega, by simp [RowKit.Hid]⟩
  case round =>
    obtain ⟨k, rfl, hk, h10, HA⟩ := hrel
    by_cases h : k < l.length ∧ l.length ≤ 10
    · obtain ⟨hlt, hle⟩ := h
      have d1 : decide (l.length ≤ 10) = true := by simpa using hle
      obtain ⟨⟨lc, tc⟩, hx⟩ : ∃ x, l[k]? = some x := ⟨l[k], List.getElem?_eq_getElem hlt⟩
      obtain ⟨b, off, rfl, hbl, hc⟩ := (HRK.out.below HB.out rfl).2.2.2.2 k (lc, tc) hx
      have e1 : W.cell? ⟨b, off + k * 2 + 1, none⟩ = some (.string tc) := hc 1 (by decide)
      clear hc
      have hsz := hs _ (List.mem_iff_getElem?.2 ⟨k, hx⟩)
      have hat := anyK_take (fun k : KeyL => decide (100 < k.2.size)) l k (lc, tc) hx
      rw [HA.out, Bool.false_or] at hat
      have hao := any_of (fun k : KeyL => decide (100 < k.2.size)) l k (lc, tc) hx
      have HAT := Lib.hid hat
      have HAO := Lib.hid hao
      clear hat hao
      by_cases hbig : 100 < tc.size
      · have d2 : decide (100 < tc.size) = true := by simpa using hbig
        have HD := Lib.hid d2
        go_wp2_with fail
        go_ret
        obtain rfl : g = true := by rw [← HG.out]; exact greatC_true (by rw [HL.out]; unfold greatK; rw [HAO.out HD.out]; simp)
        exact ⟨rfl, HB.out⟩
      · have d2 : decide (100 < tc.size) = false := by simpa using hbig
        have HD := Lib.hid d2
        go_wp2_with fail
        go_round
        case rel => exact ⟨k + 1, by go_num, by omega, by omega, by rw [HAT.out]; exact HD.out⟩
        case measure => simp [intOf]; omega
    · have hg2 : g = (decide (10 < l.length) || greatT c.words) := by
        rw [← HG.out]; unfold greatC; rw [HL.out]; unfold greatK
        by_cases hlt : k < l.length
        · have hgt : 10 < l.length := by omega
          rw [decide_eq_true hgt]; rfl
        · obtain rfl : k = l.length := by omega
          have := HA.out; rw [List.take_length] at this; rw [this]; simp
      have HG2 := Lib.hid hg2
      clear hg2
      have hor : (k < l.length ∧ 10 < l.length) ∨ k = l.length := by
        by_cases hlt : k < l.length
        · exact .inl ⟨hlt, by omega⟩
        · exact .inr (by omega)
      clear h
      obtain ⟨gt, hgt⟩ : ∃ b, greatT c.words = b := ⟨_, rfl⟩
      have HGT := Lib.hid hgt
      clear hgt
      rcases hor with ⟨hlt, h10'⟩ | rfl
      · skip
        have d1 : decide (l.length ≤ 10) = false := by simp; omega
        have d3 : decide ((10 : Int) < (l.length : Int)) = true := by simp; omega
        go_wp2_with fail
        refine HT.out.mono ?_
        rintro e w' ⟨rfl, rfl⟩
        rw [HGT.out]
        obtain rfl : g = true := by rw [HG2.out, decide_eq_true h10']; rfl
        cases gt
        · go_wp2_with fail
          go_ret
          exact ⟨rfl, HB.out⟩
        · go_wp2_with fail
          go_ret
          exact ⟨rfl, HB.out⟩
      · go_wp2_with fail
        refine HT.out.mono ?_
        rintro e w' ⟨rfl, rfl⟩
        rw [HGT.out]
        cases gt
        · by_cases h10' : 10 < l.length
          · exact absurd (h10 (by omega)) (by omega)
          · have d3 : decide ((10 : Int) < (l.length : Int)) = false := by simp; omega
            obtain rfl : g = false := by rw [HG2.out, decide_eq_false h10', HGT.out]; rfl
            go_wp2_with fail
            go_ret
            exact ⟨rfl, HB.out⟩
        · obtain rfl : g = true := by rw [HG2.out, HGT.out]; simp
          go_wp2_with fail
          go_ret
          exact ⟨rfl, HB.out⟩
end
end Go.Proofs.YtinkbgeckjbnbaaGreat
namespace Go.Proofs.YtinkbgeckjbnbaaGreat
section
open Go.RowKit
set_option linter.unusedVariables false

set_option maxRecDepth 100000 in
theorem within_any (x a b : Int) (w : World) : Calls Tryz.prog 55 #[.int .i64 x, .int .i64 a, .int .i64 b] w fun e w' => e = .returned (.bool (inB x a b)) ∧ w = w' := by
  by_cases h : a ≤ x
  · by_cases h2 : x ≤ b
    · have e1 : inB x a b = true := by unfold inB; simp; omega
      rw [e1]
      have d1 : decide (a ≤ x) = true := by simpa using h
      have d2 : decide (x ≤ b) = true := by simpa using h2
      go_enter Tryz.func55, Tryz.ntmps55
      go_wp2
      go_ret
      exact ⟨rfl, rfl⟩
    · have e1 : inB x a b = false := by unfold inB; simp; omega
      rw [e1]
      have d1 : decide (a ≤ x) = true := by simpa using h
      have d2 : decide (x ≤ b) = false := by simpa using h2
      go_enter Tryz.func55, Tryz.ntmps55
      go_wp2
      go_ret
      exact ⟨rfl, rfl⟩
  · have e1 : inB x a b = false := by unfold inB; simp; omega
    rw [e1]
    have d1 : decide (a ≤ x) = false := by simpa using h
    go_enter Tryz.func55, Tryz.ntmps55
    go_wp2
    go_ret
    exact ⟨rfl, rfl⟩

set_option maxRecDepth 100000 in
set_option maxHeartbeats 8000000 in
theorem may_any (c : CfgM) (w : World) (hr : CfgOK w c) :
    Calls Tryz.prog 13 #[c.val] w fun e w' => e = .returned (.bool (mayC c)) ∧ Below w.heap.size w w' := by
  unfold CfgM.val
  have HR := Lib.hid hr
  clear hr
  obtain ⟨m, hm⟩ : ∃ m, mayC c = m := ⟨_, rfl⟩
  rw [hm]
  have HM := Lib.hid hm
  clear hm
  go_enter Tryz.func13, Tryz.ntmps13
  go_wp2_with fail
  have HK := Lib.hid (show Blk (w.alloc (.cells #[.slice c.aw c.nw c.cw, .slice c.ac c.nc c.cc, .int .i64 c.wk, .int .i64 c.cp, .int .i64 c.sl, .int .i64 c.ba, .int .i64 c.le, .int .i64 c.he, .int .i64 c.fi, .int .i64 c.ca, .int .i64 c.ji, .int .i64 c.ne] 25)) w.heap.size 25 [.slice c.aw c.nw c.cw, .slice c.ac c.nc c.cc, .int .i64 c.wk, .int .i64 c.cp, .int .i64 c.sl, .int .i64 c.ba, .int .i64 c.le, .int .i64 c.he, .int .i64 c.fi, .int .i64 c.ca, .int .i64 c.ji, .int .i64 c.ne] from heap_alloc_new w _)
  have HB := Lib.hid ((Below.refl _ w).alloc (Nat.le_refl _) (.cells #[.slice c.aw c.nw c.cw, .slice c.ac c.nc c.cc, .int .i64 c.wk, .int .i64 c.cp, .int .i64 c.sl, .int .i64 c.ba, .int .i64 c.le, .int .i64 c.he, .int .i64 c.fi, .int .i64 c.ca, .int .i64 c.ji, .int .i64 c.ne] 25))
  generalize (w.alloc (.cells #[.slice c.aw c.nw c.cw, .slice c.ac c.nc c.cc, .int .i64 c.wk, .int .i64 c.cp, .int .i64 c.sl, .int .i64 c.ba, .int .i64 c.le, .int .i64 c.he, .int .i64 c.fi, .int .i64 c.ca, .int .i64 c.ji, .int .i64 c.ne] 25)) = W at *
  have c0 : W.cell? ⟨w.heap.size, 0, none⟩ = some (.slice c.aw c.nw c.cw) := HK.out.cell 0
  have HT := Lib.hid (lgood_any c.aw c.nw c.cw c.words W (HR.out.rw.below HB.out rfl) HR.out.hw)
  refine HT.out.mono ?_
  rintro e W1 ⟨rfl, hb⟩
  have HB1 := Lib.hid (HB.out.trans (hb.mono HB.out.size))
  have HK1 := Lib.hid (HK.out.below hb HK.out.lt)
  clear hb HB HK
  have c1 : W1.cell? ⟨w.heap.size, 1, none⟩ = some (.slice c.ac c.nc c.cc) := HK1.out.cell 1
  clear HT
  have HE := Lib.hid (good_any c.ac c.nc c.cc c.cuts W1 (HR.out.rk.below HB1.out rfl) HR.out.hk)
  clear HR
  by_cases h1 : goodT c.words = 0
  rotate_left
  · obtain rfl : m = false := by rw [← HM.out]; unfold mayC; rw [decide_eq_false h1]; rfl
    go_wp2_with fail
    go_ret
    exact ⟨rfl, HB1.out⟩
  go_wp2_with fail
  refine HE.out.mono ?_
  rintro e W2 ⟨rfl, hb⟩
  have HB2 := Lib.hid (HB1.out.trans (hb.mono HB1.out.size))
  have HK2 := Lib.hid (HK1.out.below hb HK1.out.lt)
  clear hb HB1 HK1
  have c2 : W2.cell? ⟨w.heap.size, 2, none⟩ = some (.int .i64 c.wk) := HK2.out.cell 2
  have c3 : W2.cell? ⟨w.heap.size, 3, none⟩ = some (.int .i64 c.cp) := HK2.out.cell 3
  have c4 : W2.cell? ⟨w.heap.size, 4, none⟩ = some (.int .i64 c.sl) := HK2.out.cell 4
  have c5 : W2.cell? ⟨w.heap.size, 5, none⟩ = some (.int .i64 c.ba) := HK2.out.cell 5
  have c6 : W2.cell? ⟨w.heap.size, 6, none⟩ = some (.int .i64 c.le) := HK2.out.cell 6
  have c7 : W2.cell? ⟨w.heap.size, 7, none⟩ = some (.int .i64 c.he) := HK2.out.cell 7
  have c8 : W2.cell? ⟨w.heap.size, 8, none⟩ = some (.int .i64 c.fi) := HK2.out.cell 8
  have c9 : W2.cell? ⟨w.heap.size, 9, none⟩ = some (.int .i64 c.ca) := HK2.out.cell 9
  have c10 : W2.cell? ⟨w.heap.size, 10, none⟩ = some (.int .i64 c.ji) := HK2.out.cell 10
  have c11 : W2.cell? ⟨w.heap.size, 11, none⟩ = some (.int .i64 c.ne) := HK2.out.cell 11
  clear HK2 HE
  by_cases h2 : goodE c.cuts = 0
  rotate_left
  · obtain rfl : m = false := by rw [← HM.out]; unfold mayC; rw [decide_eq_false h2]; simp
    go_wp2_with fail
    go_ret
    exact ⟨rfl, HB2.out⟩
  have HM2 := Lib.hid (show (nodesC c && sizesC c && timesC c) = m from by rw [← HM.out]; unfold mayC; rw [decide_eq_true h1, decide_eq_true h2]; simp)
  rw [h2]
  clear HM h1 h2
  obtain ⟨pm, hpm⟩ : ∃ p, (if c.wk < 3 then c.wk else 3) = p := ⟨_, rfl⟩
  have HPM := Lib.hid (show min 3 c.wk = pm from by rw [← hpm]; split <;> omega)
  go_upto_region 3 with fail
  go_cut [3] from 16 to 26 (fun s wx => s = .bool (nodesC c) ∧ W2 = wx)
  case first =>
    go_wp2_with fail
    refine (within_any (c.wk) (1) (5) W2).mono ?_
    rintro e w' ⟨rfl, rfl⟩
    rcases Bool.eq_false_or_eq_true (inB (c.wk) (1) (5)) with hb0 | hb0
    rotate_left
    · rw [hb0]
      have hv := Lib.hid (show nodesC c = false from by unfold nodesC; simp [hb0])
      clear hb0
      go_wp2_with fail
      go_meet
      exact ⟨by rw [hv.out], rfl⟩
    rw [hb0]
    go_wp2_with fail
    refine (within_any (c.cp) (1) (pm) W2).mono ?_
    rintro e w' ⟨rfl, rfl⟩
    have hv := Lib.hid (show inB (c.cp) (1) (pm) = nodesC c from by unfold nodesC; rw [HPM.out]; simp [hb0])
    clear hb0
    generalize inB (c.cp) (1) (pm) = q at *
    go_wp2_with fail
    go_meet
    exact ⟨by rw [hv.out], rfl⟩
  case rest =>
    obtain ⟨rfl, rfl⟩ := hcut
    go_upto_region 4 with fail
    go_cut [4] from 27 to 39 (fun s wx => s = .bool (sizesC c) ∧ W2 = wx)
    case first =>
      go_wp2_with fail
      refine (within_any (c.sl) (1) (4) W2).mono ?_
      rintro e w' ⟨rfl, rfl⟩
      rcases Bool.eq_false_or_eq_true (inB (c.sl) (1) (4)) with hb0 | hb0
      rotate_left
      · rw [hb0]
        have hv := Lib.hid (show sizesC c = false from by unfold sizesC; simp [hb0])
        clear hb0
        go_wp2_with fail
        go_meet
        exact ⟨by rw [hv.out], rfl⟩
      rw [hb0]
      go_wp2_with fail
      refine (within_any (c.ba) (1) (5) W2).mono ?_
      rintro e w' ⟨rfl, rfl⟩
      rcases Bool.eq_false_or_eq_true (inB (c.ba) (1) (5)) with hb1 | hb1
      rotate_left
      · rw [hb1]
        have hv := Lib.hid (show sizesC c = false from by unfold sizesC; simp [hb0, hb1])
        clear hb0 hb1
        go_wp2_with fail
        go_meet
        exact ⟨by rw [hv.out], rfl⟩
      rw [hb1]
      go_wp2_with fail
      refine (within_any (c.ne) (8) (64) W2).mono ?_
      rintro e w' ⟨rfl, rfl⟩
      have hv := Lib.hid (show inB (c.ne) (8) (64) = sizesC c from by unfold sizesC; simp [hb0, hb1])
      clear hb0 hb1
      generalize inB (c.ne) (8) (64) = q at *
      go_wp2_with fail
      go_meet
      exact ⟨by rw [hv.out], rfl⟩
    case rest =>
      obtain ⟨rfl, rfl⟩ := hcut
      go_upto_region 5 with fail
      go_cut [5] from 40 to 64 (fun s wx => s = .bool (timesC c) ∧ W2 = wx)
      case first =>
        go_wp2_with fail
        refine (within_any (c.le) (1) (1000) W2).mono ?_
        rintro e w' ⟨rfl, rfl⟩
        rcases Bool.eq_false_or_eq_true (inB (c.le) (1) (1000)) with hb0 | hb0
        rotate_left
        · rw [hb0]
          have hv := Lib.hid (show timesC c = false from by unfold timesC; simp [hb0])
          clear hb0
          go_wp2_with fail
          go_meet
          exact ⟨by rw [hv.out], rfl⟩
        rw [hb0]
        go_wp2_with fail
        refine (within_any (c.he) (1) (1000) W2).mono ?_
        rintro e w' ⟨rfl, rfl⟩
        rcases Bool.eq_false_or_eq_true (inB (c.he) (1) (1000)) with hb1 | hb1
        rotate_left
        · rw [hb1]
          have hv := Lib.hid (show timesC c = false from by unfold timesC; simp [hb0, hb1])
          clear hb0 hb1
          go_wp2_with fail
          go_meet
          exact ⟨by rw [hv.out], rfl⟩
        rw [hb1]
        go_wp2_with fail
        refine (within_any (c.fi) (1) (10) W2).mono ?_
        rintro e w' ⟨rfl, rfl⟩
        rcases Bool.eq_false_or_eq_true (inB (c.fi) (1) (10)) with hb2 | hb2
        rotate_left
        · rw [hb2]
          have hv := Lib.hid (show timesC c = false from by unfold timesC; simp [hb0, hb1, hb2])
          clear hb0 hb1 hb2
          go_wp2_with fail
          go_meet
          exact ⟨by rw [hv.out], rfl⟩
        rw [hb2]
        go_wp2_with fail
        refine (within_any (c.ca) (c.fi) (50) W2).mono ?_
        rintro e w' ⟨rfl, rfl⟩
        rcases Bool.eq_false_or_eq_true (inB (c.ca) (c.fi) (50)) with hb3 | hb3
        rotate_left
        · rw [hb3]
          have hv := Lib.hid (show timesC c = false from by unfold timesC; simp [hb0, hb1, hb2, hb3])
          clear hb0 hb1 hb2 hb3
          go_wp2_with fail
          go_meet
          exact ⟨by rw [hv.out], rfl⟩
        rw [hb3]
        go_wp2_with fail
        refine (within_any (c.ji) (0) (10) W2).mono ?_
        rintro e w' ⟨rfl, rfl⟩
        have hv := Lib.hid (show inB (c.ji) (0) (10) = timesC c from by unfold timesC; simp [hb0, hb1, hb2, hb3])
        clear hb0 hb1 hb2 hb3
        generalize inB (c.ji) (0) (10) = q at *
        go_wp2_with fail
        go_meet
        exact ⟨by rw [hv.out], rfl⟩
      case rest =>
        obtain ⟨rfl, rfl⟩ := hcut
        generalize nodesC c = a1 at *
        generalize sizesC c = a2 at *
        generalize timesC c = a3 at *
        have HM3 := HM2.out
        clear HM2
        cases a1 <;> cases a2 <;> cases a3 <;> (simp at HM3; subst HM3; go_wp2_with fail; go_ret; exact ⟨rfl, HB2.out⟩)
end
end Go.Proofs.YtinkbgeckjbnbaaGreat
namespace Go.Proofs.YtinkbgeckjbnbaaGreat
section
open Go.RowKit
set_option linter.unusedVariables false

def ints (l : List Int) : List Value := l.map (Value.int .i64)
set_option maxRecDepth 100000 in
theorem ints_len (l : List Int) : (ints l).length = l.length := by simp [ints]
set_option maxRecDepth 100000 in
theorem ints_get (l : List Int) (i : Nat) (h : i < l.length) : (ints l)[i]? = some (.int .i64 l[i]) := by simp [ints, h]
set_option maxRecDepth 100000 in
theorem info_int : (Tryz.prog.info? 3).map (fun i => (i.zero, i.size, i.bytes)) = some (some (.int .i64 0), 1, 8) := by kernel_rfl
end
end Go.Proofs.YtinkbgeckjbnbaaGreat
namespace Go.Proofs.YtinkbgeckjbnbaaGreat
section
open Go.RowKit
set_option linter.unusedVariables false

set_option maxRecDepth 100000 in
theorem ints_app (a b : List Int) : ints (a ++ b) = ints a ++ ints b := by simp [ints]
/-- is it there? -/
def has {α : Type} [DecidableEq α] (l : List α) (v : α) : Bool := decide (v ∈ l)
def shardsC (c : CfgM) : Int := if mayC c = true then (c.cuts.length : Int) + 1 else 0
set_option maxRecDepth 100000 in
/-- what a configuration that may be holds -/
theorem may_of {c : CfgM} (h : mayC c = true) : c.cuts.length ≤ 5 ∧ 1 ≤ c.wk ∧ c.wk ≤ 5 ∧ 1 ≤ c.cp ∧ c.cp ≤ 3 ∧ c.cp ≤ c.wk ∧ 1 ≤ c.sl ∧ c.sl ≤ 4 ∧ 1 ≤ c.ca ∧ c.ca ≤ 50 ∧ 0 ≤ c.ji ∧ c.ji ≤ 10 := by
  unfold mayC at h
  simp only [Bool.and_eq_true, decide_eq_true_eq] at h
  obtain ⟨⟨_, h2⟩, ⟨h3, h4⟩, h5⟩ := h
  have hl : c.cuts.length ≤ 5 := by
    unfold goodE at h2
    split at h2
    · omega
    · omega
  unfold nodesC inB at h3
  unfold sizesC inB at h4
  unfold timesC inB at h5
  simp only [Bool.and_eq_true, decide_eq_true_eq] at h3 h4 h5
  omega
set_option maxRecDepth 100000 in
theorem shardsC_may {c : CfgM} (h : mayC c = true) : shardsC c = (c.cuts.length : Int) + 1 := by unfold shardsC; rw [if_pos h]
set_option maxRecDepth 100000 in
theorem shardsC_no {c : CfgM} (h : mayC c = false) : shardsC c = 0 := by unfold shardsC; rw [if_neg (by simp [h])]
set_option maxRecDepth 100000 in
theorem shardsC_bd (c : CfgM) : 0 ≤ shardsC c ∧ shardsC c ≤ 6 := by
  cases h : mayC c
  · rw [shardsC_no h]; omega
  · rw [shardsC_may h]; have := (may_of h).1; omega
set_option maxRecDepth 100000 in
set_option maxHeartbeats 4000000 in
theorem shards_any (c : CfgM) (w : World) (hr : CfgOK w c) :
    Calls Tryz.prog 21 #[c.val] w fun e w' => e = .returned (.int .i64 (shardsC c)) ∧ Below w.heap.size w w' := by
  have HR := Lib.hid hr
  clear hr
  obtain ⟨m, hm⟩ : ∃ m, mayC c = m := ⟨_, rfl⟩
  obtain ⟨n, hn⟩ : ∃ n, c.cuts.length = n := ⟨_, rfl⟩
  have HN := Lib.hid hn
  have HL := Lib.hid (show c.nc = n from by rw [← hn]; exact HR.out.rk.1.symm)
  clear hn
  have hcl := may_of (c := c)
  rw [hm, HN.out] at hcl
  have HM := Lib.hid hm
  clear hm
  obtain ⟨R, hR⟩ : ∃ R, shardsC c = R := ⟨_, rfl⟩
  rw [hR]
  have HRR := Lib.hid hR
  clear hR
  unfold CfgM.val
  rw [HL.out]
  go_enter Tryz.func21, Tryz.ntmps21
  go_wp2_with fail
  have HK := Lib.hid (show Blk (w.alloc (.cells #[.slice c.aw c.nw c.cw, .slice c.ac n c.cc, .int .i64 c.wk, .int .i64 c.cp, .int .i64 c.sl, .int .i64 c.ba, .int .i64 c.le, .int .i64 c.he, .int .i64 c.fi, .int .i64 c.ca, .int .i64 c.ji, .int .i64 c.ne] 25)) w.heap.size 25 [.slice c.aw c.nw c.cw, .slice c.ac n c.cc, .int .i64 c.wk, .int .i64 c.cp, .int .i64 c.sl, .int .i64 c.ba, .int .i64 c.le, .int .i64 c.he, .int .i64 c.fi, .int .i64 c.ca, .int .i64 c.ji, .int .i64 c.ne] from heap_alloc_new w _)
  have HB := Lib.hid ((Below.refl _ w).alloc (Nat.le_refl _) (.cells #[.slice c.aw c.nw c.cw, .slice c.ac n c.cc, .int .i64 c.wk, .int .i64 c.cp, .int .i64 c.sl, .int .i64 c.ba, .int .i64 c.le, .int .i64 c.he, .int .i64 c.fi, .int .i64 c.ca, .int .i64 c.ji, .int .i64 c.ne] 25))
  generalize (w.alloc (.cells #[.slice c.aw c.nw c.cw, .slice c.ac n c.cc, .int .i64 c.wk, .int .i64 c.cp, .int .i64 c.sl, .int .i64 c.ba, .int .i64 c.le, .int .i64 c.he, .int .i64 c.fi, .int .i64 c.ca, .int .i64 c.ji, .int .i64 c.ne] 25)) = W at *
  have c0 : W.cell? ⟨w.heap.size, 0, none⟩ = some (.slice c.aw c.nw c.cw) := HK.out.cell 0
  have c1 : W.cell? ⟨w.heap.size, 1, none⟩ = some (.slice c.ac n c.cc) := HK.out.cell 1
  have c2 : W.cell? ⟨w.heap.size, 2, none⟩ = some (.int .i64 c.wk) := HK.out.cell 2
  have c3 : W.cell? ⟨w.heap.size, 3, none⟩ = some (.int .i64 c.cp) := HK.out.cell 3
  have c4 : W.cell? ⟨w.heap.size, 4, none⟩ = some (.int .i64 c.sl) := HK.out.cell 4
  have c5 : W.cell? ⟨w.heap.size, 5, none⟩ = some (.int .i64 c.ba) := HK.out.cell 5
  have c6 : W.cell? ⟨w.heap.size, 6, none⟩ = some (.int .i64 c.le) := HK.out.cell 6
  have c7 : W.cell? ⟨w.heap.size, 7, none⟩ = some (.int .i64 c.he) := HK.out.cell 7
  have c8 : W.cell? ⟨w.heap.size, 8, none⟩ = some (.int .i64 c.fi) := HK.out.cell 8
  have c9 : W.cell? ⟨w.heap.size, 9, none⟩ = some (.int .i64 c.ca) := HK.out.cell 9
  have c10 : W.cell? ⟨w.heap.size, 10, none⟩ = some (.int .i64 c.ji) := HK.out.cell 10
  have c11 : W.cell? ⟨w.heap.size, 11, none⟩ = some (.int .i64 c.ne) := HK.out.cell 11
  have HMY := Lib.hid (may_any c W (HR.out.below HB.out rfl))
  unfold CfgM.val at HMY
  rw [HL.out] at HMY
  refine HMY.out.mono ?_
  rintro e W1 ⟨rfl, hb⟩
  have HB1 := Lib.hid (HB.out.trans (hb.mono HB.out.size))
  have HK1 := Lib.hid (HK.out.below hb HK.out.lt)
  clear hb HB HK
  have d1 : W1.cell? ⟨w.heap.size, 1, none⟩ = some (.slice c.ac n c.cc) := HK1.out.cell 1
  clear HK1 c0 c1 c2 c3 c4 c5 c6 c7 c8 c9 c10 c11 HMY
  rw [HM.out]
  cases m
  · clear hcl
    obtain rfl : R = 0 := by rw [← HRR.out]; exact shardsC_no HM.out
    go_wp2_with fail
    go_ret
    exact ⟨rfl, HB1.out⟩
  · have hn5 := (hcl rfl).1
    obtain rfl : R = (n : Int) + 1 := by rw [← HRR.out, shardsC_may HM.out, HN.out]
    clear hcl
    go_wp2_with fail
    go_ret
    exact ⟨rfl, HB1.out⟩

/-- the workers that keep a shard -/
def copiesC (c : CfgM) (s : Int) : List Int := if inB s 0 (shardsC c - 1) = true then (List.range c.cp.toNat).map (fun j : Nat => 1 + (s + (j : Int)) % c.wk) else []
set_option maxRecDepth 100000 in
theorem copiesC_no {c : CfgM} {s : Int} (h : inB s 0 (shardsC c - 1) = false) : copiesC c s = [] := by unfold copiesC; rw [if_neg (by simp [h])]
set_option maxRecDepth 100000 in
theorem copiesC_yes {c : CfgM} {s : Int} (h : inB s 0 (shardsC c - 1) = true) : copiesC c s = (List.range c.cp.toNat).map (fun j : Nat => 1 + (s + (j : Int)) % c.wk) := by unfold copiesC; rw [if_pos h]
set_option maxRecDepth 100000 in
theorem may_inB {c : CfgM} {s : Int} (h : inB s 0 (shardsC c - 1) = true) : mayC c = true ∧ 0 ≤ s ∧ s ≤ 5 := by
  unfold inB at h
  simp only [Bool.and_eq_true, decide_eq_true_eq] at h
  cases hm : mayC c
  · rw [shardsC_no hm] at h; omega
  · have := (may_of hm).1
    rw [shardsC_may hm] at h
    exact ⟨rfl, by omega, by omega⟩
def CpR (w : World) (c : CfgM) (s : Int) (n : Nat) (v5 v15 : Value) (wr : World) : Prop := ∃ (k : Nat) (ao : Option Addr) (c2 : Nat), k ≤ n ∧ v15 = .int .i64 k ∧ v5 = .slice ao k c2 ∧ RowKit.Hid (wr.ownsRow w.heap.size 3 1 (.slice ao k c2) k (ints ((List.range k).map (fun j : Nat => 1 + (s + (j : Int)) % c.wk)))) ∧ RowKit.Hid (Below w.heap.size w wr)
set_option maxRecDepth 100000 in
set_option maxHeartbeats 4000000 in
theorem copies_own (c : CfgM) (s : Int) (w : World) (hr : CfgOK w c) :
    Calls Tryz.prog 22 #[c.val, .int .i64 s] w fun e w' => ∃ ao n cap, e = .returned (.slice ao n cap) ∧ w'.ownsRow w.heap.size 3 1 (.slice ao n cap) n (ints (copiesC c s)) ∧ Below w.heap.size w w' := by
  obtain ⟨i0, hi, hz0, hz1, hz2⟩ := info_parts info_int
  have HI := Lib.hid hi
  have HZ0 := Lib.hid hz0
  have HZ1 := Lib.hid hz1
  have HZ2 := Lib.hid hz2
  clear hi hz0 hz1 hz2
  have HR := Lib.hid hr
  clear hr
  obtain ⟨R, hR⟩ : ∃ R, copiesC c s = R := ⟨_, rfl⟩
  rw [hR]
  have HRR := Lib.hid hR
  clear hR
  unfold CfgM.val
  go_enter Tryz.func22, Tryz.ntmps22
  go_wp2_with fail
  have HK := Lib.hid (show Blk (w.alloc (.cells #[.slice c.aw c.nw c.cw, .slice c.ac c.nc c.cc, .int .i64 c.wk, .int .i64 c.cp, .int .i64 c.sl, .int .i64 c.ba, .int .i64 c.le, .int .i64 c.he, .int .i64 c.fi, .int .i64 c.ca, .int .i64 c.ji, .int .i64 c.ne] 25)) w.heap.size 25 [.slice c.aw c.nw c.cw, .slice c.ac c.nc c.cc, .int .i64 c.wk, .int .i64 c.cp, .int .i64 c.sl, .int .i64 c.ba, .int .i64 c.le, .int .i64 c.he, .int .i64 c.fi, .int .i64 c.ca, .int .i64 c.ji, .int .i64 c.ne] from heap_alloc_new w _)
  have HB := Lib.hid ((Below.refl _ w).alloc (Nat.le_refl _) (.cells #[.slice c.aw c.nw c.cw, .slice c.ac c.nc c.cc, .int .i64 c.wk, .int .i64 c.cp, .int .i64 c.sl, .int .i64 c.ba, .int .i64 c.le, .int .i64 c.he, .int .i64 c.fi, .int .i64 c.ca, .int .i64 c.ji, .int .i64 c.ne] 25))
  generalize (w.alloc (.cells #[.slice c.aw c.nw c.cw, .slice c.ac c.nc c.cc, .int .i64 c.wk, .int .i64 c.cp, .int .i64 c.sl, .int .i64 c.ba, .int .i64 c.le, .int .i64 c.he, .int .i64 c.fi, .int .i64 c.ca, .int .i64 c.ji, .int .i64 c.ne] 25)) = W at *
  have c0 : W.cell? ⟨w.heap.size, 0, none⟩ = some (.slice c.aw c.nw c.cw) := HK.out.cell 0
  have c1 : W.cell? ⟨w.heap.size, 1, none⟩ = some (.slice c.ac c.nc c.cc) := HK.out.cell 1
  have c2 : W.cell? ⟨w.heap.size, 2, none⟩ = some (.int .i64 c.wk) := HK.out.cell 2
  have c3 : W.cell? ⟨w.heap.size, 3, none⟩ = some (.int .i64 c.cp) := HK.out.cell 3
  have c4 : W.cell? ⟨w.heap.size, 4, none⟩ = some (.int .i64 c.sl) := HK.out.cell 4
  have c5 : W.cell? ⟨w.heap.size, 5, none⟩ = some (.int .i64 c.ba) := HK.out.cell 5
  have c6 : W.cell? ⟨w.heap.size, 6, none⟩ = some (.int .i64 c.le) := HK.out.cell 6
  have c7 : W.cell? ⟨w.heap.size, 7, none⟩ = some (.int .i64 c.he) := HK.out.cell 7
  have c8 : W.cell? ⟨w.heap.size, 8, none⟩ = some (.int .i64 c.fi) := HK.out.cell 8
  have c9 : W.cell? ⟨w.heap.size, 9, none⟩ = some (.int .i64 c.ca) := HK.out.cell 9
  have c10 : W.cell? ⟨w.heap.size, 10, none⟩ = some (.int .i64 c.ji) := HK.out.cell 10
  have c11 : W.cell? ⟨w.heap.size, 11, none⟩ = some (.int .i64 c.ne) := HK.out.cell 11
  have HS := Lib.hid (shards_any c W (HR.out.below HB.out rfl))
  unfold CfgM.val at HS
  refine HS.out.mono ?_
  rintro e W1 ⟨rfl, hb⟩
  have HB1 := Lib.hid (HB.out.trans (hb.mono HB.out.size))
  have HK1 := Lib.hid (HK.out.below hb HK.out.lt)
  clear hb HB HK
  clear c0 c1 c2 c3 c4 c5 c6 c7 c8 c9 c10 c11 HS
  have hbd := shardsC_bd c
  obtain ⟨sh, hsh⟩ : ∃ sh, shardsC c = sh := ⟨_, rfl⟩
  have HSH := Lib.hid hsh
  rw [hsh] at hbd ⊢
  clear hsh
  obtain ⟨hb1, hb2⟩ := hbd
  go_wp2_with fail
  refine (within_any _ _ _ W1).mono ?_
  rintro e w' ⟨rfl, rfl⟩
  rcases Bool.eq_false_or_eq_true (inB s 0 (sh - 1)) with hin | hin
  rotate_left
  · rw [hin]
    obtain rfl : R = [] := by rw [← HRR.out]; exact copiesC_no (by rw [HSH.out]; exact hin)
    clear hin
    go_wp2_with fail
    go_ret
    exact ⟨none, 0, 0, rfl, World.ownsRow_nil _ _ _ _, HB1.out⟩
  rw [hin]
  have hin2 : inB s 0 (shardsC c - 1) = true := by rw [HSH.out]; exact hin
  have hR := copiesC_yes hin2
  rw [HRR.out] at hR
  obtain ⟨hmay, hs0, hs5⟩ := may_inB hin2
  obtain ⟨m1, m2, m3, m4, m5, m6, -⟩ := may_of hmay
  obtain ⟨n, hn⟩ := Int.eq_ofNat_of_zero_le (show 0 ≤ c.cp by omega)
  rw [hn] at hR m4 m5 m6
  rw [Int.toNat_natCast] at hR
  obtain ⟨wk, hwk⟩ : ∃ wk, c.wk = wk := ⟨_, rfl⟩
  have c2 : W1.cell? ⟨w.heap.size, 2, none⟩ = some (.int .i64 wk) := by rw [← hwk]; exact HK1.out.cell 2
  have c3 : W1.cell? ⟨w.heap.size, 3, none⟩ = some (.int .i64 n) := by rw [← show c.cp = (n : Int) from hn]; exact HK1.out.cell 3
  have HWK := Lib.hid hwk
  rw [hwk] at m2 m3
  have HRQ := Lib.hid hR
  have HG := Lib.hid HK1.out.lt
  clear hin hin2 hmay hn hwk hR m1 HK1 HRR HSH HR
  go_wp2_with fail
  go_loopw [5, 15] (fun v5 v15 wr => CpR W1 c s n v5 v15 wr) (fun _ v _ => n - (intOf v).toNat)
  case atStart => exact ⟨0, none, 0, Nat.zero_le _, rfl, rfl, World.ownsRow_nil _ _ _ _, Below.refl _ _⟩
  case round =>
    obtain ⟨k, ao, cap, hk, rfl, rfl, HO, HB⟩ := hrel
    by_cases hlt : k < n
    · have d2 := (HB.out.cell (p := ⟨w.heap.size, 2, none⟩) HG.out).trans c2
      obtain ⟨r, hrr⟩ : ∃ r, (s + (k : Int)).tmod wk = r := ⟨_, rfl⟩
      have hre : (s + (k : Int)) % wk = r := by rw [← hrr, Int.tmod_eq_emod_of_nonneg (by omega)]
      have hr0 : 0 ≤ r := by rw [← hre]; exact Int.emod_nonneg _ (by omega)
      have hr5 : r < 5 := by have := Int.emod_lt_of_pos (s + (k : Int)) (show 0 < wk by omega); omega
      have HRE := Lib.hid hre
      have A1 : k + 1 ≤ maxLen := by unfold maxLen; omega
      have A2 : (k + 1) * 8 ≤ 140737488355328 := by omega
      have hz := HB.out.size
      clear hre
      go_wp2_with (at_builtin; refine wpList_app rfl _ _ 26 26 rfl W1.heap.size 3 i0 (.int .i64 0) 1 8 Tryz.underlying26 HI.out HZ0.out HZ1.out HZ2.out rfl (by decide) ao k cap (ints ((List.range k).map (fun j : Nat => 1 + (s + (j : Int)) % c.wk))) rfl (HO.out.alloc _) _ 1 _ rfl (Src.one' Tryz.underlying26 wr _ 3 rfl) A1 A2 (by simp; omega) ?_; intro ao3 c3' w5 hown5 hg5; have HO6 := Lib.hid hown5; have HB6 := Lib.hid ((HB.out.alloc hz _).grown hg5 (by simp; omega) (fun b hb => (HO.out.lt b hb).1)); clear hown5 hg5)
      go_roundw
      case rel => exact ⟨k + 1, ao3, c3', by omega, by go_num, rfl, (by unfold RowKit.Hid; rw [List.range_succ, List.map_append, ints_app, List.map_cons, List.map_nil, HWK.out, HRE.out]; rw [HWK.out] at HO6; exact HO6.out), HB6.out⟩
      case measure => simp [intOf]; omega
    · obtain rfl : k = n := by omega
      have hown : wr.ownsRow w.heap.size 3 1 (.slice ao k cap) k (ints ((List.range k).map (fun j : Nat => 1 + (s + (j : Int)) % c.wk))) := ⟨HO.out.1, HO.out.2.imp id (fun ⟨g, cap, cur, h1, h2, h3⟩ => ⟨g, cap, cur, h1, Nat.le_trans HB1.out.size h2, h3⟩)⟩
      rw [← HRQ.out] at hown
      have HO2 := Lib.hid hown
      clear hown HO HRQ
      go_wp2_with fail
      go_ret
      exact ⟨ao, k, cap, rfl, HO2.out, HB1.out.trans (HB.out.mono HB1.out.size)⟩
set_option maxRecDepth 100000 in
theorem copies_any (c : CfgM) (s : Int) (w : World) (hr : CfgOK w c) :
    Calls Tryz.prog 22 #[c.val, .int .i64 s] w fun e w' => ∃ ao n cap, e = .returned (.slice ao n cap) ∧ Rd w' ao n cap (ints (copiesC c s)) ∧ Below w.heap.size w w' :=
  (copies_own c s w hr).mono fun e w' ⟨ao, n, cap, h1, h2, h3⟩ => ⟨ao, n, cap, h1, ownsRow_rd h2, h3⟩
end
end Go.Proofs.YtinkbgeckjbnbaaGreat
namespace Go.Proofs.YtinkbgeckjbnbaaGreat
section
open Go.RowKit
set_option linter.unusedVariables false

set_option maxRecDepth 100000 in
theorem flip_same {P : Program} {f : Nat} {args : Array Value} {w : World} {v : Value} (h : Calls P f args w fun e w' => e = .returned v ∧ w = w') : Calls P f args w fun e w' => e = .returned v ∧ w' = w :=
  h.mono fun e w' hh => ⟨hh.1, hh.2.symm⟩
def clipI (x : Int) : Int := min (max x 0) 1000
set_option maxRecDepth 100000 in
theorem clip_any (x : Int) (w : World) : Calls Tryz.prog 67 #[.int .i64 x] w fun e w' => e = .returned (.int .i64 (clipI x)) ∧ w = w' := by
  obtain ⟨R, hR⟩ : ∃ R, clipI x = R := ⟨_, rfl⟩
  rw [hR]
  obtain ⟨p, hp⟩ : ∃ p, (if x < 0 then 0 else x) = p := ⟨_, rfl⟩
  have hq : (if 1000 < p then 1000 else p) = R := by rw [← hR, ← hp]; unfold clipI; split <;> split <;> omega
  clear hR
  go_enter Tryz.func67, Tryz.ntmps67
  go_wp2
  go_ret
  exact ⟨rfl, rfl⟩
def mostC (c : CfgM) : Int := clipI c.ca + clipI c.ji
set_option maxRecDepth 100000 in
theorem clipI_bd (x : Int) : 0 ≤ clipI x ∧ clipI x ≤ 1000 := by unfold clipI; omega
set_option maxRecDepth 100000 in
set_option maxHeartbeats 4000000 in
theorem most_any (c : CfgM) (w : World) :
    Calls Tryz.prog 19 #[c.val] w fun e w' => e = .returned (.int .i64 (mostC c)) ∧ Below w.heap.size w w' := by
  unfold CfgM.val
  obtain ⟨R, hR⟩ : ∃ R, mostC c = R := ⟨_, rfl⟩
  rw [hR]
  unfold mostC at hR
  have b1 := clipI_bd c.ca
  have b2 := clipI_bd c.ji
  have HC1 := Lib.hid (fun w => flip_same (clip_any c.ca w))
  have HC2 := Lib.hid (fun w => flip_same (clip_any c.ji w))
  obtain ⟨p, hp⟩ : ∃ p, clipI c.ca = p := ⟨_, rfl⟩
  obtain ⟨q, hq⟩ : ∃ q, clipI c.ji = q := ⟨_, rfl⟩
  rw [hp] at hR b1 HC1
  rw [hq] at hR b2 HC2
  obtain ⟨b3, b4⟩ := b1
  obtain ⟨b5, b6⟩ := b2
  clear hp hq
  go_enter Tryz.func19, Tryz.ntmps19
  go_wp2_with fail
  have HK := Lib.hid (show Blk (w.alloc (.cells #[.slice c.aw c.nw c.cw, .slice c.ac c.nc c.cc, .int .i64 c.wk, .int .i64 c.cp, .int .i64 c.sl, .int .i64 c.ba, .int .i64 c.le, .int .i64 c.he, .int .i64 c.fi, .int .i64 c.ca, .int .i64 c.ji, .int .i64 c.ne] 25)) w.heap.size 25 [.slice c.aw c.nw c.cw, .slice c.ac c.nc c.cc, .int .i64 c.wk, .int .i64 c.cp, .int .i64 c.sl, .int .i64 c.ba, .int .i64 c.le, .int .i64 c.he, .int .i64 c.fi, .int .i64 c.ca, .int .i64 c.ji, .int .i64 c.ne] from heap_alloc_new w _)
  have HB := Lib.hid ((Below.refl _ w).alloc (Nat.le_refl _) (.cells #[.slice c.aw c.nw c.cw, .slice c.ac c.nc c.cc, .int .i64 c.wk, .int .i64 c.cp, .int .i64 c.sl, .int .i64 c.ba, .int .i64 c.le, .int .i64 c.he, .int .i64 c.fi, .int .i64 c.ca, .int .i64 c.ji, .int .i64 c.ne] 25))
  generalize (w.alloc (.cells #[.slice c.aw c.nw c.cw, .slice c.ac c.nc c.cc, .int .i64 c.wk, .int .i64 c.cp, .int .i64 c.sl, .int .i64 c.ba, .int .i64 c.le, .int .i64 c.he, .int .i64 c.fi, .int .i64 c.ca, .int .i64 c.ji, .int .i64 c.ne] 25)) = W at *
  have c9 : W.cell? ⟨w.heap.size, 9, none⟩ = some (.int .i64 c.ca) := HK.out.cell 9
  have c10 : W.cell? ⟨w.heap.size, 10, none⟩ = some (.int .i64 c.ji) := HK.out.cell 10
  clear HK
  go_quiet (first | (go_at_call 67; first | exact Calls.quiet_of_same (HC1.out _) | exact Calls.quiet_of_same (HC2.out _)))
  go_wp2_with fail
  go_ret
  exact ⟨rfl, below_drewN HB.out _⟩
set_option maxRecDepth 100000 in
theorem wr_in (x : Int) (h1 : -9223372036854775808 ≤ x) (h2 : x ≤ 9223372036854775807) : IntKind.i64.wrap x = x := by
  simp only [IntKind.wrap, IntKind.bits, IntKind.signed]
  simp
  omega
end
end Go.Proofs.YtinkbgeckjbnbaaGreat
namespace Go.Proofs.YtinkbgeckjbnbaaGreat
section
open Go.RowKit
set_option linter.unusedVariables false

set_option maxRecDepth 100000 in
theorem infoK2 : (Tryz.prog.info? 107).map (fun i => (i.zero, i.size, i.bytes)) = some (some (.agg #[.int .i64 0, .string ⟨#[]⟩]), 2, 24) := by kernel_rfl
def tryN (t : Int) : Nat := (min (max t 0) 6).toNat
def tryI (t : Int) : Int := min (min (max t 0) 6 + 1) 6
set_option maxRecDepth 100000 in
theorem try_any (t : Int) (w : World) : Calls Tryz.prog 120 #[.int .i64 t] w fun e w' => e = .returned (.int .i64 (tryI t)) ∧ w = w' := by
  obtain ⟨R, hR⟩ : ∃ R, tryI t = R := ⟨_, rfl⟩
  rw [hR]
  obtain ⟨p, hp⟩ : ∃ p, (if t < 0 then 0 else t) = p := ⟨_, rfl⟩
  have hq : (if 6 < p then 6 else p) = min (max t 0) 6 := by rw [← hp]; split <;> split <;> omega
  obtain ⟨q, hq2⟩ : ∃ q, min (max t 0) 6 = q := ⟨_, rfl⟩
  rw [hq2] at hq
  have hq3 : 0 ≤ q ∧ q ≤ 6 := by omega
  have hr : (if 6 < q + 1 then 6 else q + 1) = R := by rw [← hR]; unfold tryI; rw [hq2]; split <;> omega
  obtain ⟨hq4, hq5⟩ := hq3
  clear hR hq2
  go_enter Tryz.func120, Tryz.ntmps120
  go_wp2
  go_ret
  exact ⟨rfl, rfl⟩
/-- n of a try -/
def waitN (f c : Int) : Nat → Int
  | 0 => f
  | r + 1 => min (2 * waitN f c r) c
set_option maxRecDepth 100000 in
theorem waitN_bd {f c : Int} (h1 : 0 ≤ f) (h2 : f ≤ 1000) (h3 : 0 ≤ c) (h4 : c ≤ 1000) (r : Nat) : 0 ≤ waitN f c r ∧ waitN f c r ≤ 1000 := by
  induction r with
  | zero => exact ⟨h1, h2⟩
  | succ r ih => unfold waitN; omega
def waitC (c : CfgM) (t d : Int) : Int := min (waitN (clipI c.fi) (clipI c.ca) (tryN t)) (clipI c.ca) + lowI d (clipI c.ji + 1)
set_option maxRecDepth 100000 in
set_option maxHeartbeats 4000000 in
theorem wait_any (c : CfgM) (t d : Int) (w : World) :
    Calls Tryz.prog 123 #[c.val, .int .i64 t, .int .i64 d] w fun e w' => e = .returned (.int .i64 (waitC c t d)) ∧ Below w.heap.size w w' := by
  unfold CfgM.val
  obtain ⟨R, hR⟩ : ∃ R, waitC c t d = R := ⟨_, rfl⟩
  rw [hR]
  unfold waitC at hR
  have HC0 := Lib.hid (fun w => flip_same (clip_any c.fi w))
  have HC1 := Lib.hid (fun w => flip_same (clip_any c.ca w))
  have HC2 := Lib.hid (fun w => flip_same (clip_any c.ji w))
  have b0 := clipI_bd c.fi
  have b1 := clipI_bd c.ca
  have b2 := clipI_bd c.ji
  obtain ⟨F, hF⟩ : ∃ F, clipI c.fi = F := ⟨_, rfl⟩
  obtain ⟨p, hp⟩ : ∃ p, clipI c.ca = p := ⟨_, rfl⟩
  obtain ⟨q, hq⟩ : ∃ q, clipI c.ji = q := ⟨_, rfl⟩
  rw [hF] at hR b0 HC0
  rw [hp] at hR b1 HC1
  rw [hq] at hR b2 HC2
  obtain ⟨b3, b4⟩ := b1
  obtain ⟨b5, b6⟩ := b2
  obtain ⟨b7, b8⟩ := b0
  clear hF hp hq
  have HWB := Lib.hid (fun r => waitN_bd b7 b8 b3 b4 r)
  obtain ⟨p0, hp0⟩ : ∃ p0, (if t < 0 then 0 else t) = p0 := ⟨_, rfl⟩
  have hq0 : (if 6 < p0 then 6 else p0) = ((tryN t : Nat) : Int) := by rw [← hp0]; unfold tryN; split <;> split <;> omega
  obtain ⟨N, hN⟩ : ∃ N, tryN t = N := ⟨_, rfl⟩
  have hN6 : N ≤ 6 := by rw [← hN]; unfold tryN; omega
  rw [hN] at hq0 hR
  clear hN
  have HRR := Lib.hid hR
  clear hR
  go_enter Tryz.func123, Tryz.ntmps123
  have HK := Lib.hid (show Blk (w.alloc (.cells #[.slice c.aw c.nw c.cw, .slice c.ac c.nc c.cc, .int .i64 c.wk, .int .i64 c.cp, .int .i64 c.sl, .int .i64 c.ba, .int .i64 c.le, .int .i64 c.he, .int .i64 c.fi, .int .i64 c.ca, .int .i64 c.ji, .int .i64 c.ne] 25)) w.heap.size 25 [.slice c.aw c.nw c.cw, .slice c.ac c.nc c.cc, .int .i64 c.wk, .int .i64 c.cp, .int .i64 c.sl, .int .i64 c.ba, .int .i64 c.le, .int .i64 c.he, .int .i64 c.fi, .int .i64 c.ca, .int .i64 c.ji, .int .i64 c.ne] from heap_alloc_new w _)
  have HB := Lib.hid ((Below.refl _ w).alloc (Nat.le_refl _) (.cells #[.slice c.aw c.nw c.cw, .slice c.ac c.nc c.cc, .int .i64 c.wk, .int .i64 c.cp, .int .i64 c.sl, .int .i64 c.ba, .int .i64 c.le, .int .i64 c.he, .int .i64 c.fi, .int .i64 c.ca, .int .i64 c.ji, .int .i64 c.ne] 25))
  obtain ⟨W, hW⟩ : ∃ W, (w.alloc (.cells #[.slice c.aw c.nw c.cw, .slice c.ac c.nc c.cc, .int .i64 c.wk, .int .i64 c.cp, .int .i64 c.sl, .int .i64 c.ba, .int .i64 c.le, .int .i64 c.he, .int .i64 c.fi, .int .i64 c.ca, .int .i64 c.ji, .int .i64 c.ne] 25)) = W := ⟨_, rfl⟩
  rw [hW] at HK HB
  have c8 : W.cell? ⟨w.heap.size, 8, none⟩ = some (.int .i64 c.fi) := HK.out.cell 8
  have c9 : W.cell? ⟨w.heap.size, 9, none⟩ = some (.int .i64 c.ca) := HK.out.cell 9
  have c10 : W.cell? ⟨w.heap.size, 10, none⟩ = some (.int .i64 c.ji) := HK.out.cell 10
  clear HK
  go_wp2_with (rw [hW])
  clear hW
  refine (HC0.out W).mono ?_
  rintro e w' ⟨rfl, rfl⟩
  go_wp2_with fail
  go_loop [7, 14] (fun v7 v14 => ∃ k : Nat, k ≤ N ∧ v7 = .int .i64 (waitN F p k) ∧ v14 = .int .i64 k) (fun v7 v14 => N - (intOf v14).toNat)
  case atStart => exact ⟨0, Nat.zero_le _, rfl, rfl⟩
  case round =>
    obtain ⟨k, hk, rfl, rfl⟩ := hrel
    obtain ⟨z1, z2⟩ := HWB.out k
    by_cases hlt : k < N
    · have e1 : (k : Int) < (N : Int) := by omega
      have e2 : (if p < 2 * waitN F p k then p else 2 * waitN F p k) = waitN F p (k + 1) := by show _ = min (2 * waitN F p k) p; split <;> omega
      generalize waitN F p k = x at *
      go_wp2_with fail
      refine (HC1.out _).mono ?_
      rintro e w' ⟨rfl, rfl⟩
      go_wp2_with fail
      go_round
      case rel => exact ⟨k + 1, by omega, by go_num, by go_num⟩
      case measure => simp [intOf]; omega
    · obtain rfl : k = N := by omega
      have e2 : (if p < waitN F p k then p else waitN F p k) = min (waitN F p k) p := by split <;> omega
      generalize waitN F p k = x at *
      have e3 := low_eq d (q + 1) (by omega) (by omega)
      go_wp2_with fail
      go_quiet (first | (go_at_call 67; first | exact Calls.quiet_of_same (HC1.out _) | exact Calls.quiet_of_same (HC2.out _)))
      go_wp2_with fail
      go_ret
      exact ⟨ret_int ((IntWalk.wrap64_in _ ⟨by have := lowI_bd d (q + 1) (by omega); omega, by have := lowI_bd d (q + 1) (by omega); omega⟩).trans HRR.out), below_drewN HB.out _⟩
set_option maxRecDepth 100000 in
theorem waitC_bd (c : CfgM) (t d : Int) : 0 ≤ waitC c t d ∧ waitC c t d ≤ 2001 := by
  have b0 := clipI_bd c.fi
  have b1 := clipI_bd c.ca
  have b2 := clipI_bd c.ji
  have hb := lowI_bd d (clipI c.ji + 1) (by omega)
  have := waitN_bd b0.1 b0.2 b1.1 b1.2 (tryN t)
  unfold waitC
  omega
set_option maxRecDepth 100000 in
theorem timerID_any (a b : Int) (w : World) (h1 : 0 ≤ a) (h2 : a ≤ 1000) (h3 : 0 ≤ b) (h4 : b ≤ 1000) : Calls Tryz.prog 112 #[.int .i64 a, .int .i64 b] w fun e w' => e = .returned (.int .i64 (6 * a + b)) ∧ w = w' := by
  go_enter Tryz.func112, Tryz.ntmps112
  go_wp2
  go_ret
  exact ⟨rfl, rfl⟩
set_option maxRecDepth 100000 in
theorem cloneK_any (w : World) (ao : Option Addr) (n c : Nat) (l : List KeyL) (h : RdE KeyL.cells 2 w ao n c l) (hn : n ≤ 1000) :
   Calls Tryz.prog 57 #[.slice ao n c] w fun e w' => ∃ ao' c', e = .returned (.slice ao' n c') ∧ w'.ownsRow w.heap.size 107 2 (.slice ao' n c') n (l.flatMap KeyL.cells) ∧ Below w.heap.size w w' := by
  obtain ⟨i0, hi, hz0, hz1, hz2⟩ := info_parts infoK2
  have HI := Lib.hid hi
  have HZ0 := Lib.hid hz0
  have HZ1 := Lib.hid hz1
  have HZ2 := Lib.hid hz2
  clear hi hz0 hz1 hz2
  have hl := h.1
  cases ao with
  | none =>
    obtain ⟨rfl, rfl⟩ := h.nil0 rfl
    obtain rfl : l = [] := List.eq_nil_of_length_eq_zero hl
    clear h hl
    have he : ∀ W, (binOp .eql 23 (.slice none 0 0) (.slice none 0 0)).run Tryz.prog W = .ok (.bool true) W := fun W => by kernel_rfl
    go_enter Tryz.func57, Tryz.ntmps57
    go_wp2_with fail
    go_ret
    exact ⟨none, 0, rfl, World.ownsRow_nil _ _ _ _, Below.refl _ _⟩
  | some a =>
    have HS := Lib.hid (show Src Tryz.prog 2 23 (.slice (some a) n c) n (l.flatMap KeyL.cells) (w.alloc (.cells #[] 107)) from Src.ofRdE (enc := KeyL.cells) (size := 2) Tryz.underlying23 (fun _ => rfl) itemOne (h.below ((Below.refl w.heap.size w).alloc (Nat.le_refl _) _) rfl))
    have HN := Lib.hid (show (w.alloc (.cells #[] 107)).ownsRow w.heap.size 107 2 (.slice (some ⟨w.heap.size, 0, none⟩) 0 0) 0 [] from
      ⟨rfl, .inr ⟨w.heap.size, 0, #[], rfl, Nat.le_refl _, heap_alloc_new w _, Nat.le_refl _, Nat.zero_le _, rfl, rfl⟩⟩)
    clear h hl
    have he : ∀ W, (binOp .eql 23 (.slice (some a) n c) (.slice none 0 0)).run Tryz.prog W = .ok (.bool false) W := fun W => by kernel_rfl
    go_enter Tryz.func57, Tryz.ntmps57
    go_wp2_with (at_builtin; refine wpList_app rfl _ _ 23 23 rfl w.heap.size 107 i0 (.agg #[.int .i64 0, .string ⟨#[]⟩]) 2 24 Tryz.underlying23 HI.out HZ0.out HZ1.out HZ2.out rfl (by decide) (some ⟨w.heap.size, 0, none⟩) 0 0 [] rfl HN.out (.slice (some a) n c) n (l.flatMap KeyL.cells) rfl HS.out (by unfold maxLen; omega) (by omega) (by simp) ?_; intro ao2 c2 w2 hown2 hg2; rw [Nat.zero_add, List.nil_append] at hown2; have HO2 := Lib.hid hown2; have HB2 := Lib.hid (((Below.refl _ w).alloc (Nat.le_refl _) (.cells #[] 107)).grown hg2 (by simp) (fun k hk => by simp only [Value.ownBlock, Option.some.injEq] at hk; omega)); clear hown2 hg2)
    go_ret
    exact ⟨ao2, c2, rfl, HO2.out, HB2.out⟩
end
end Go.Proofs.YtinkbgeckjbnbaaGreat
