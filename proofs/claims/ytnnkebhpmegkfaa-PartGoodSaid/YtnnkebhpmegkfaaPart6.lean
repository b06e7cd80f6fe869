/- The walks of part.Of, part.Lens, part.Least, of the document's example, and of how great cuts are. -/
import Derived.Test.YtnnkebhpmegkfaaPart5
namespace Go.Proofs.Ytnnkebhpmegkfaa
open Go.RowKit
set_option linter.unusedVariables false

/-- a word's shard -/
def ofN (l : List KeyL) (s : ByteArray) : Int := if isWord s = true then (belowN l (tLen s, s) : Int) else -1
set_option maxHeartbeats 1000000 in
theorem of_any (a : Option Addr) (n cap : Nat) (l : List KeyL) (s : ByteArray) (w : World) (hr : RdE KeyL.cells 2 w a n cap l) (hl : l.length ≤ 100) (hs : s.size ≤ maxLen) :
    Calls Try.prog 37 #[.slice a n cap, .string s] w fun e w' => e = .returned (.int .i64 (ofN l s)) ∧ Below w.heap.size w w' := by
  have HR := Lib.hid hr
  clear hr
  unfold ofN
  have HW := Lib.hid (fun W => word_any s W hs)
  have HL := Lib.hid (fun W => len_any s W hs)
  cases hw : isWord s with
  | true =>
    rw [hw] at HW
    rw [if_pos rfl]
    go_enter Try.func37, Try.ntmps37
    go_wp2_with fail
    refine (HW.out _).mono ?_
    rintro e w1 ⟨rfl, hb⟩
    have HB := Lib.hid hb
    clear hb
    go_wp2_with fail
    refine (HL.out _).mono ?_
    rintro e w2 ⟨rfl, hb⟩
    have HB1 := Lib.hid (HB.out.trans (hb.mono HB.out.size))
    clear hb HB
    go_wp2_with fail
    refine (below_any a n cap l (tLen s) s _ (HR.out.below HB1.out rfl) hl).mono ?_
    rintro e w3 ⟨rfl, hb⟩
    have HB2 := Lib.hid (HB1.out.trans (hb.mono HB1.out.size))
    clear hb
    go_wp2_with fail
    go_ret
    exact ⟨rfl, HB2.out⟩
  | false =>
    rw [hw] at HW
    rw [if_neg (by simp)]
    go_enter Try.func37, Try.ntmps37
    go_wp2_with fail
    refine (HW.out _).mono ?_
    rintro e w1 ⟨rfl, hb⟩
    have HB := Lib.hid hb
    clear hb
    go_wp2_with fail
    go_ret
    exact ⟨rfl, HB.out⟩

/-- the least and the greatest length of a shard's words -/
def keyAt (l : List KeyL) (i : Nat) : KeyL := l.getD i (0, ⟨#[]⟩)
def lenLo (l : List KeyL) (k : Int) : Int := if k < 0 ∨ l.length < k then 1 else if 0 < k then (keyAt l (k.toNat - 1)).1 else 1
def lenHi (l : List KeyL) (k : Int) : Int := if k < 0 ∨ l.length < k then 0 else if k < l.length then (if (keyAt l k.toNat).2.toList = [] then (keyAt l k.toNat).1 - 1 else (keyAt l k.toNat).1) else 12
theorem keyAt_some {l : List KeyL} {i : Nat} (h : i < l.length) : l[i]? = some (keyAt l i) := by
  unfold keyAt; simp [h]
set_option maxHeartbeats 2000000 in
theorem lens_any (a : Option Addr) (n cap : Nat) (l : List KeyL) (k : Int) (w : World) (hr : RdE KeyL.cells 2 w a n cap l) (hl : l.length ≤ 100) (hk : ∀ x ∈ l, -1000 ≤ x.1 ∧ x.1 ≤ 1000) :
    Calls Try.prog 41 #[.slice a n cap, .int .i64 k] w fun e w' => e = .returned (.tuple #[.int .i64 (lenLo l k), .int .i64 (lenHi l k)]) ∧ w = w' := by
  have hn := hr.1
  subst hn
  have HR := Lib.hid hr
  clear hr
  unfold lenLo lenHi
  by_cases h1 : k < 0 ∨ l.length < k
  · rw [if_pos h1, if_pos h1]
    have hcap := HR.out.2.1
    by_cases h2 : k < 0
    · clear h1
      go_enter Try.func41, Try.ntmps41
      go_wp2_with fail
      go_ret2
      exact ⟨rfl, rfl⟩
    · have h3 : l.length < k := by omega
      clear h1
      have d3 : decide ((l.length : Int) < k) = true := by simpa using h3
      go_enter Try.func41, Try.ntmps41
      go_wp2_with fail
      go_ret2
      exact ⟨rfl, rfl⟩
  · rw [if_neg h1, if_neg h1]
    obtain ⟨k, rfl⟩ : ∃ m : Nat, k = (m : Int) := ⟨k.toNat, by omega⟩
    have hkl : k ≤ l.length := by omega
    clear h1
    have hcap := HR.out.2.1
    have d1 : decide ((l.length : Int) < k) = false := by simp; omega
    have hlo : ∃ lo : Int, -1000 ≤ lo ∧ lo ≤ 1000 ∧ (if (0 : Int) < k then (keyAt l ((k : Int).toNat - 1)).1 else 1) = lo ∧ (0 < k → ∃ b off, a = some ⟨b, off, none⟩ ∧ w.cell? ⟨b, off + (k - 1) * 2, none⟩ = some (.int .i64 lo)) ∧ (k = 0 → lo = 1) := by
      by_cases hp : 0 < k
      · obtain ⟨b, off, he, hbl, hc⟩ := HR.out.2.2.2.2 (k - 1) _ (keyAt_some (by omega))
        have hb1 := hk (keyAt l (k - 1)) (List.mem_iff_getElem?.2 ⟨_, keyAt_some (by omega)⟩)
        refine ⟨_, hb1.1, hb1.2, ?_, fun _ => ⟨b, off, he, hc 0 (by decide)⟩, fun h => by omega⟩
        rw [if_pos (by omega), Int.toNat_natCast]
      · exact ⟨1, by omega, by omega, by rw [if_neg (by omega)], fun h => absurd h hp, fun _ => rfl⟩
    have hhi : ∃ (hi : Int) (th : ByteArray), -1000 ≤ hi ∧ hi ≤ 1000 ∧ (if (k : Int) < l.length then (if (keyAt l (k : Int).toNat).2.toList = [] then (keyAt l (k : Int).toNat).1 - 1 else (keyAt l (k : Int).toNat).1) else 12) = (if k < l.length then (if th.toList = [] then hi - 1 else hi) else 12) ∧
        (k < l.length → ∃ b off, a = some ⟨b, off, none⟩ ∧ w.cell? ⟨b, off + k * 2, none⟩ = some (.int .i64 hi) ∧ w.cell? ⟨b, off + k * 2 + 1, none⟩ = some (.string th)) := by
      by_cases hlt : k < l.length
      · obtain ⟨b, off, he, hbl, hc⟩ := HR.out.2.2.2.2 k _ (keyAt_some hlt)
        have hb1 := hk (keyAt l k) (List.mem_iff_getElem?.2 ⟨_, keyAt_some hlt⟩)
        refine ⟨(keyAt l k).1, (keyAt l k).2, hb1.1, hb1.2, ?_, fun _ => ⟨b, off, he, hc 0 (by decide), hc 1 (by decide)⟩⟩
        rw [if_pos (by omega), if_pos hlt, Int.toNat_natCast]
      · exact ⟨0, ⟨#[]⟩, by omega, by omega, by rw [if_neg (by omega), if_neg hlt], fun h => absurd h hlt⟩
    obtain ⟨lo, lo1, lo2, elo, flo, zlo⟩ := hlo
    obtain ⟨hi, th, hi1, hi2, ehi, fhi⟩ := hhi
    rw [elo, ehi]
    clear elo ehi hk
    by_cases hp : 0 < k
    · obtain ⟨b, off, rfl, c0⟩ := flo hp
      have d2 : decide ((0 : Int) < k) = true := by simp; omega
      clear zlo flo
      by_cases hlt : k < l.length
      · obtain ⟨b', off', he, c2, c3⟩ := fhi hlt
        simp only [Option.some.injEq, Addr.mk.injEq, and_true] at he
        obtain ⟨rfl, rfl⟩ := he
        clear fhi
        rw [if_pos hlt]
        by_cases ht : th.toList = []
        · rw [if_pos ht]
          go_enter Try.func41, Try.ntmps41
          go_wp2_with fail
          go_ret2
          exact ⟨rfl, rfl⟩
        · rw [if_neg ht]
          have ht2 : th.toList.isEmpty = false := by simpa using ht
          go_enter Try.func41, Try.ntmps41
          go_wp2_with fail
          go_ret2
          exact ⟨rfl, rfl⟩
      · obtain rfl : k = l.length := by omega
        rw [if_neg hlt]
        clear fhi
        go_enter Try.func41, Try.ntmps41
        go_wp2_with fail
        go_ret2
        exact ⟨rfl, rfl⟩
    · obtain rfl : k = 0 := by omega
      obtain rfl := zlo rfl
      clear zlo flo d1
      by_cases hlt : 0 < l.length
      · obtain ⟨b, off, rfl, c2, c3⟩ := fhi hlt
        clear fhi
        rw [if_pos hlt]
        have e0 : off + 0 * 2 = off := by omega
        rw [e0] at c2 c3
        clear e0
        by_cases ht : th.toList = []
        · rw [if_pos ht]
          go_enter Try.func41, Try.ntmps41
          go_wp2_with fail
          go_ret2
          exact ⟨rfl, rfl⟩
        · rw [if_neg ht]
          have ht2 : th.toList.isEmpty = false := by simpa using ht
          go_enter Try.func41, Try.ntmps41
          go_wp2_with fail
          go_ret2
          exact ⟨rfl, rfl⟩
      · have h0 : l.length = 0 := by omega
        rw [if_neg hlt]
        clear fhi
        rw [h0] at hcap ⊢
        go_enter Try.func41, Try.ntmps41
        go_wp2_with fail
        go_ret2
        exact ⟨rfl, rfl⟩

def leastN (l : List KeyL) (k n : Int) : Int := if lenHi l k < lenLo l k then -1 else if n < lenLo l k then lenLo l k - n else if lenHi l k < n then n - lenHi l k else 0
theorem lens_bd (l : List KeyL) (k : Int) (hk : ∀ x ∈ l, -1000 ≤ x.1 ∧ x.1 ≤ 1000) : (-1000 ≤ lenLo l k ∧ lenLo l k ≤ 1000) ∧ -1001 ≤ lenHi l k ∧ lenHi l k ≤ 1000 := by
  have hat : ∀ i, -1000 ≤ (keyAt l i).1 ∧ (keyAt l i).1 ≤ 1000 := by
    intro i
    by_cases h : i < l.length
    · exact hk _ (List.mem_iff_getElem?.2 ⟨i, keyAt_some h⟩)
    · unfold keyAt; rw [List.getD_eq_getElem?_getD, List.getElem?_eq_none (by omega)]; decide
  constructor
  · unfold lenLo
    have := hat (k.toNat - 1)
    split
    · omega
    · split <;> omega
  · unfold lenHi
    have := hat k.toNat
    split
    · omega
    · split
      · split <;> omega
      · omega
set_option maxHeartbeats 1000000 in
theorem least_any (a : Option Addr) (n cap : Nat) (l : List KeyL) (k m : Int) (w : World) (hr : RdE KeyL.cells 2 w a n cap l) (hl : l.length ≤ 100) (hk : ∀ x ∈ l, -1000 ≤ x.1 ∧ x.1 ≤ 1000) (hm : -1000 ≤ m ∧ m ≤ 1000) :
    Calls Try.prog 45 #[.slice a n cap, .int .i64 k, .int .i64 m] w fun e w' => e = .returned (.int .i64 (leastN l k m)) ∧ w = w' := by
  have HL := Lib.hid (lens_any a n cap l k w hr hl hk)
  obtain ⟨⟨b1, b2⟩, b3, b4⟩ := lens_bd l k hk
  obtain ⟨m1, m2⟩ := hm
  unfold leastN
  generalize lenLo l k = lo at *
  generalize lenHi l k = hi at *
  clear hr hk
  by_cases h1 : hi < lo
  · rw [if_pos h1]
    have d1 : decide (hi < lo) = true := by simpa using h1
    go_enter Try.func45, Try.ntmps45
    go_wp2_with fail
    refine (HL.out).mono ?_
    rintro e w1 ⟨rfl, rfl⟩
    go_wp2_with fail
    go_ret
    exact ⟨rfl, rfl⟩
  · rw [if_neg h1]
    have d1 : decide (hi < lo) = false := by simpa using h1
    by_cases h2 : m < lo
    · rw [if_pos h2]
      have d2 : decide (m < lo) = true := by simpa using h2
      go_enter Try.func45, Try.ntmps45
      go_wp2_with fail
      refine (HL.out).mono ?_
      rintro e w1 ⟨rfl, rfl⟩
      go_wp2_with fail
      go_ret
      exact ⟨rfl, rfl⟩
    · rw [if_neg h2]
      have d2 : decide (m < lo) = false := by simpa using h2
      by_cases h3 : hi < m
      · rw [if_pos h3]
        have d3 : decide (hi < m) = true := by simpa using h3
        go_enter Try.func45, Try.ntmps45
        go_wp2_with fail
        refine (HL.out).mono ?_
        rintro e w1 ⟨rfl, rfl⟩
        go_wp2_with fail
        go_ret
        exact ⟨rfl, rfl⟩
      · rw [if_neg h3]
        have d3 : decide (hi < m) = false := by simpa using h3
        go_enter Try.func45, Try.ntmps45
        go_wp2_with fail
        refine (HL.out).mono ?_
        rintro e w1 ⟨rfl, rfl⟩
        go_wp2_with fail
        go_ret
        exact ⟨rfl, rfl⟩

theorem flat_get {α : Type} (enc : α → List Value) (size : Nat) (henc : ∀ x, (enc x).length = size) : ∀ (l : List α) (sp : List Value) (i : Nat) (x : α) (j : Nat), l[i]? = some x → j < size → (l.flatMap enc ++ sp)[i * size + j]? = (enc x)[j]?
  | [], _, i, x, j, h, _ => by simp at h
  | y :: l, sp, 0, x, j, h, hj => by
    simp at h; subst h
    rw [List.flatMap_cons, List.append_assoc, List.getElem?_append_left (by rw [henc]; omega)]; simp
  | y :: l, sp, i + 1, x, j, h, hj => by
    rw [List.flatMap_cons, List.append_assoc, List.getElem?_append_right (by rw [henc, Nat.add_mul]; omega), henc]
    have := flat_get enc size henc l sp i x j (by simpa using h) hj
    rw [← this]; congr 1; rw [Nat.add_mul]; omega
theorem Blk.rdE {α : Type} {enc : α → List Value} {size : Nat} {w : World} {g : Nat} {e : TypeId} {l : List α} {sp : List Value} (henc : ∀ x, (enc x).length = size) (h : Blk w g e (l.flatMap enc ++ sp)) (c : Nat) (h1 : l.length ≤ c) (h2 : c ≤ maxLen) : RdE enc size w (some ⟨g, 0, none⟩) l.length c l :=
  ⟨rfl, h1, h2, by simp, fun i x hx => ⟨g, 0, rfl, h.lt, fun j hj => by rw [Nat.zero_add, h.cell, flat_get enc size henc l sp i x j hx hj]⟩⟩

/-- the cuts of the document's example -/
def pairL : List KeyL := [(2, ⟨#[]⟩), (3, ⟨#[109]⟩)]
def RdK (w : World) (a : Option Addr) (n c : Nat) (l : List KeyL) : Prop := RdE KeyL.cells 2 w a n c l
theorem pair_any (w : World) : Calls Try.prog 52 #[] w fun e w' => e = .returned (.slice (some ⟨w.heap.size, 0, none⟩) 2 2) ∧ RdK w' (some ⟨w.heap.size, 0, none⟩) 2 2 pairL ∧ Below w.heap.size w w' := by
  go_enter Try.func52, Try.ntmps52
  go_wp2_with fail
  go_ret
  refine ⟨rfl, ?_, (Below.refl _ w).alloc (Nat.le_refl _) _⟩
  refine Blk.rdE (enc := KeyL.cells) (size := 2) (l := pairL) (sp := []) (e := 58) (fun _ => rfl) ?_ 2 (by decide) (by unfold maxLen; decide)
  unfold Blk; rw [heap_alloc_new]; rfl

theorem of_z : ofN pairL ⟨#[122]⟩ = 0 := by decide +kernel
theorem of_aa : ofN pairL ⟨#[97, 97]⟩ = 1 := by decide +kernel
theorem of_mmm : ofN pairL ⟨#[109, 109, 109]⟩ = 2 := by decide +kernel
theorem lo_1 : lenLo pairL 1 = 2 := by decide +kernel
theorem hi_1 : lenHi pairL 1 = 3 := by decide +kernel
theorem least_1 : leastN pairL 1 6 = 3 := by decide +kernel
theorem pair_k : ∀ x ∈ pairL, -1000 ≤ x.1 ∧ x.1 ≤ 1000 := by decide
set_option maxRecDepth 100000 in
set_option maxHeartbeats 2000000 in
theorem awake12_any (w : World) : Calls Try.prog 28 #[] w fun e w' => e = .returned (.bool true) ∧ Below w.heap.size w w' := by
  have HP := Lib.hid pair_any
  have HO := Lib.hid (fun (s : ByteArray) (hs : s.size ≤ maxLen) (W : World) (a : Option Addr) (h : RdK W a 2 2 pairL) => of_any a 2 2 pairL s W h (by decide) hs)
  go_enter Try.func28, Try.ntmps28
  go_wp2_with fail
  refine (HP.out _).mono ?_
  rintro e w1 ⟨rfl, hr, hb⟩
  have HR := Lib.hid hr
  have HB := Lib.hid hb
  clear hr hb
  go_wp2_with fail
  refine (lens_any _ 2 2 pairL 1 _ HR.out (by decide) pair_k).mono ?_
  rintro e w2 ⟨rfl, rfl⟩
  rw [lo_1, hi_1]
  clear HR
  go_wp2_with fail
  refine (HP.out _).mono ?_
  rintro e w2 ⟨rfl, hr, hb⟩
  have HR := Lib.hid hr
  have HB1 := Lib.hid (HB.out.trans (hb.mono HB.out.size))
  clear hr hb HB
  go_wp2_with fail
  refine (HO.out _ (by unfold maxLen; decide) _ _ HR.out).mono ?_
  rintro e w3 ⟨rfl, hb⟩
  have HB := Lib.hid (HB1.out.trans (hb.mono HB1.out.size))
  clear hb HB1 HR
  rw [of_z]
  go_wp2_with fail
  refine (HP.out _).mono ?_
  rintro e w2 ⟨rfl, hr, hb⟩
  have HR := Lib.hid hr
  have HB1 := Lib.hid (HB.out.trans (hb.mono HB.out.size))
  clear hr hb HB
  go_wp2_with fail
  refine (HO.out _ (by unfold maxLen; decide) _ _ HR.out).mono ?_
  rintro e w3 ⟨rfl, hb⟩
  have HB := Lib.hid (HB1.out.trans (hb.mono HB1.out.size))
  clear hb HB1 HR
  rw [of_aa]
  go_wp2_with fail
  refine (HP.out _).mono ?_
  rintro e w2 ⟨rfl, hr, hb⟩
  have HR := Lib.hid hr
  have HB1 := Lib.hid (HB.out.trans (hb.mono HB.out.size))
  clear hr hb HB
  go_wp2_with fail
  refine (HO.out _ (by unfold maxLen; decide) _ _ HR.out).mono ?_
  rintro e w3 ⟨rfl, hb⟩
  have HB := Lib.hid (HB1.out.trans (hb.mono HB1.out.size))
  clear hb HB1 HR
  rw [of_mmm]
  go_wp2_with fail
  refine (HP.out _).mono ?_
  rintro e w2 ⟨rfl, hr, hb⟩
  have HR := Lib.hid hr
  have HB1 := Lib.hid (HB.out.trans (hb.mono HB.out.size))
  clear hr hb HB
  go_wp2_with fail
  refine (least_any _ 2 2 pairL 1 6 _ HR.out (by decide) pair_k (by decide)).mono ?_
  rintro e w2 ⟨rfl, rfl⟩
  rw [least_1]
  go_wp2_with fail
  go_ret
  exact ⟨rfl, HB1.out⟩
end Go.Proofs.Ytnnkebhpmegkfaa
