/- The walks of lists of texts: how great they are, list.Good. -/
import Derived.Test.YtjacebnjmhbcbaaKit2
import Derived.Test.YtjacebnjmhbcbaaPart2
import Derived.Test.YtjacebnjmhbcbaaPartL
import Derived.StillTailTactics
namespace Go.Proofs.Ytjacebnjmhbcbaa
open Go.RowKit
set_option linter.unusedVariables false

/-- A slice of texts reads as a list. -/
def RdT (w : World) (a : Option Addr) (n c : Nat) (l : List ByteArray) : Prop := Rd w a n c (l.map Value.string)
theorem RdT.below {w w' : World} {a : Option Addr} {n c B : Nat} {l : List ByteArray} (h : RdT w a n c l) (hb : Below B w w') (hB : B = w.heap.size) : RdT w' a n c l := Rd.below h hb hB
theorem RdT.len {w : World} {a : Option Addr} {n c : Nat} {l : List ByteArray} (h : RdT w a n c l) : l.length = n := by have := h.1; simpa using this
theorem RdT.at {w : World} {a : Option Addr} {n c : Nat} {l : List ByteArray} (h : RdT w a n c l) {k : Nat} {x : ByteArray} (hx : l[k]? = some x) : ∃ b off, a = some ⟨b, off, none⟩ ∧ b < w.heap.size ∧ w.cell? ⟨b, off + k, none⟩ = some (.string x) := by
  have hlt := (List.getElem?_eq_some_iff.1 hx).1
  obtain ⟨b, off, e, hl, hc⟩ := h.2.2.2.2 k (by rw [← h.len]; exact hlt)
  refine ⟨b, off, e, hl, ?_⟩
  rw [hc, List.getElem?_map, hx]; rfl

theorem anyT_take {α : Type} (p : α → Bool) (l : List α) (k : Nat) (x : α) (h : l[k]? = some x) : (l.take (k + 1)).any p = ((l.take k).any p || p x) := by
  rw [List.take_add_one, h]; simp
theorem anyT_of {α : Type} (p : α → Bool) (l : List α) (k : Nat) (x : α) (h : l[k]? = some x) (hp : p x = true) : l.any p = true := by
  rw [List.any_eq_true]; exact ⟨x, List.mem_iff_getElem?.2 ⟨k, h⟩, hp⟩
/-- how great are texts? -/
def greatT (l : List ByteArray) : Bool := decide (80 < l.length) || l.any fun s => decide (100 < s.size)
theorem greatT_false {l : List ByteArray} (h : greatT l = false) : l.length ≤ 80 ∧ ∀ x ∈ l, x.size ≤ 100 := by
  unfold greatT at h
  simp only [Bool.or_eq_false_iff, decide_eq_false_iff_not, List.any_eq_false, decide_eq_true_eq] at h
  exact ⟨by omega, fun x hx => by have := h.2 x hx; omega⟩
set_option maxRecDepth 100000 in
set_option maxHeartbeats 4000000 in
theorem greatT_any (a : Option Addr) (n cap : Nat) (l : List ByteArray) (w : World) (hr : RdT w a n cap l) (hs : ∀ x ∈ l, x.size ≤ maxLen) :
    Calls Try.prog 33 #[.slice a n cap] w fun e w' => e = .returned (.bool (greatT l)) ∧ w = w' := by
  have hn := hr.len
  subst hn
  have hcap := hr.2.1
  have hcm := hr.2.2.1
  unfold maxLen at hcm hs
  have HR := Lib.hid hr
  clear hr
  obtain ⟨g, hg⟩ : ∃ g, greatT l = g := ⟨_, rfl⟩
  rw [hg]
  have HG := Lib.hid hg
  clear hg
  go_enter Try.func33, Try.ntmps33
  go_wp2_with fail
  go_loop [3] (fun i => ∃ k : Nat, i = .int .i64 k ∧ k ≤ l.length ∧ (0 < k → l.length ≤ 80) ∧ RowKit.Hid ((l.take k).any (fun s => decide (100 < s.size)) = false)) (fun i => l.length - (intOf i).toNat)
  case atStart => exact ⟨0, rfl, by omega, by omega, by simp [RowKit.Hid]⟩
  case round =>
    obtain ⟨k, rfl, hk, h10, HA⟩ := hrel
    by_cases h : k < l.length ∧ l.length ≤ 80
    · obtain ⟨hlt, hle⟩ := h
      have d1 : decide (l.length ≤ 80) = true := by simpa using hle
      obtain ⟨tc, hx⟩ : ∃ x, l[k]? = some x := ⟨l[k], List.getElem?_eq_getElem hlt⟩
      obtain ⟨b, off, rfl, hbl, e1⟩ := HR.out.at hx
      have hsz := hs _ (List.mem_iff_getElem?.2 ⟨k, hx⟩)
      have hat := anyT_take (fun s : ByteArray => decide (100 < s.size)) l k tc hx
      rw [HA.out, Bool.false_or] at hat
      have hao := anyT_of (fun s : ByteArray => decide (100 < s.size)) l k tc hx
      have HAT := Lib.hid hat
      have HAO := Lib.hid hao
      clear hat hao hbl hx
      by_cases hbig : 100 < tc.size
      · have d2 : decide (100 < tc.size) = true := by simpa using hbig
        have HD := Lib.hid d2
        go_wp2_with fail
        go_ret
        obtain rfl : g = true := by rw [← HG.out]; unfold greatT; rw [HAO.out HD.out]; simp
        exact ⟨rfl, rfl⟩
      · have d2 : decide (100 < tc.size) = false := by simpa using hbig
        have HD := Lib.hid d2
        go_wp2_with fail
        go_round
        case rel => exact ⟨k + 1, by go_num, by omega, by omega, by rw [HAT.out]; exact HD.out⟩
        case measure => simp [intOf]; omega
    · by_cases hlt : k < l.length
      · have hgt : 80 < l.length := by omega
        have d1 : decide (l.length ≤ 80) = false := by simp; omega
        have d3 : decide (80 < l.length) = true := by simpa using hgt
        have HD := Lib.hid d3
        go_wp2_with fail
        go_ret
        obtain rfl : g = true := by rw [← HG.out]; unfold greatT; rw [HD.out]; rfl
        exact ⟨rfl, rfl⟩
      · obtain rfl : k = l.length := by omega
        have hg2 : g = decide (80 < l.length) := by
          rw [← HG.out]; unfold greatT
          have := HA.out; rw [List.take_length] at this; rw [this]; simp
        have HG2 := Lib.hid hg2
        clear hg2
        obtain ⟨q, hq⟩ : ∃ q, decide ((80 : Int) < (l.length : Int)) = q := ⟨_, rfl⟩
        obtain rfl : g = q := by rw [HG2.out, ← hq]; exact decide_eq_decide.2 (by omega)
        clear h h10 HG2 hcm hcap
        cases g
        · go_wp2_with fail
          go_ret
          exact ⟨rfl, rfl⟩
        · go_wp2_with fail
          go_ret
          exact ⟨rfl, rfl⟩

/-- are words in order? -/
def tAt (l : List ByteArray) (i : Nat) : ByteArray := l.getD i ⟨#[]⟩
theorem tAt_some {l : List ByteArray} {i : Nat} (h : i < l.length) : l[i]? = some (tAt l i) := by unfold tAt; simp [h]
def tless (a b : ByteArray) : Bool := decide (cmpT a b < 0)
def risesT (l : List ByteArray) (m : Nat) : Bool := (List.range m).all fun i => tless (tAt l i) (tAt l (i + 1))
def goodT (l : List ByteArray) : Int := if 60 < l.length then 3 else if (l.any fun s => !isWord s) = true then 6 else if risesT l (l.length - 1) = true then 0 else 7
theorem risesT_succ (l : List ByteArray) (m : Nat) : risesT l (m + 1) = (risesT l m && tless (tAt l m) (tAt l (m + 1))) := by
  unfold risesT; rw [List.range_succ, List.all_append]; simp
theorem risesT_false (l : List ByteArray) (m n : Nat) (h : m ≤ n) (hm : risesT l m = false) : risesT l n = false := by
  cases hn : risesT l n with
  | false => rfl
  | true =>
    unfold risesT at hn hm
    rw [List.all_eq_true] at hn
    rw [List.all_eq_false] at hm
    obtain ⟨x, hx, hx'⟩ := hm
    exact absurd (hn x (by simp at hx ⊢; omega)) hx'
theorem goodT_3 {l : List ByteArray} (h : 60 < l.length) : goodT l = 3 := by unfold goodT; rw [if_pos h]
theorem goodT_6 {l : List ByteArray} (h : l.length ≤ 60) (k : (l.any fun s => !isWord s) = true) : goodT l = 6 := by unfold goodT; rw [if_neg (by omega), if_pos k]
theorem goodT_7 {l : List ByteArray} (h : l.length ≤ 60) (k : (l.any fun s => !isWord s) = false) (m : Nat) (hm : m ≤ l.length - 1) (r : risesT l m = false) : goodT l = 7 := by
  unfold goodT; rw [if_neg (by omega), if_neg (by rw [k]; simp), if_neg (by rw [risesT_false l m _ hm r]; simp)]
theorem goodT_0 {l : List ByteArray} (h : l.length ≤ 60) (k : (l.any fun s => !isWord s) = false) (r : risesT l (l.length - 1) = true) : goodT l = 0 := by
  unfold goodT; rw [if_neg (by omega), if_neg (by rw [k]; simp), if_pos r]
set_option maxRecDepth 100000 in
set_option maxHeartbeats 4000000 in
theorem lgood_any (a : Option Addr) (n cap : Nat) (l : List ByteArray) (w : World) (hr : RdT w a n cap l) (hs : ∀ x ∈ l, x.size ≤ maxLen) :
    Calls Try.prog 35 #[.slice a n cap] w fun e w' => e = .returned (.int .i64 (goodT l)) ∧ Below w.heap.size w w' := by
  have hn := hr.len
  subst hn
  have hcap := hr.2.1
  have hcm := hr.2.2.1
  unfold maxLen at hcm
  have HR := Lib.hid hr
  clear hr
  obtain ⟨g, hg⟩ : ∃ g, goodT l = g := ⟨_, rfl⟩
  rw [hg]
  have HG := Lib.hid hg
  clear hg
  by_cases h5 : 60 < l.length
  · obtain rfl : g = 3 := by rw [← HG.out]; exact goodT_3 h5
    have d5 : decide (60 < l.length) = true := by simpa using h5
    go_enter Try.func35, Try.ntmps35
    go_wp2_with fail
    go_ret
    exact ⟨rfl, Below.refl _ _⟩
  · have d5 : decide (60 < l.length) = false := by simpa using h5
    have h6 : l.length ≤ 60 := by omega
    go_enter Try.func35, Try.ntmps35
    go_wp2_with fail
    go_loopw [4, 11] (fun _ i wr => ∃ k : Nat, k ≤ l.length ∧ i = .int .i64 k ∧ RowKit.Hid (((l.take k).any fun s => !isWord s) = false) ∧ RowKit.Hid (Below w.heap.size w wr)) (fun _ i _ => l.length - (intOf i).toNat)
    case atStart => exact ⟨0, by omega, rfl, by simp [RowKit.Hid], Below.refl _ w⟩
    case round =>
      obtain ⟨k, hk, rfl, HA, HB⟩ := hrel
      by_cases hlt : k < l.length
      · obtain ⟨tc, hx⟩ : ∃ x, l[k]? = some x := ⟨l[k], List.getElem?_eq_getElem hlt⟩
        obtain ⟨b, off, rfl, hbl, c0⟩ := (HR.out.below HB.out rfl).at hx
        have hsz := hs _ (List.mem_iff_getElem?.2 ⟨k, hx⟩)
        have HL := Lib.hid (fun W => word_any tc W hsz)
        have hat := anyT_take (fun s => !isWord s) l k tc hx
        have hao := anyT_of (fun s => !isWord s) l k tc hx
        rw [HA.out, Bool.false_or] at hat
        clear hsz hbl hx
        obtain ⟨bk, hbk⟩ : ∃ bk, isWord tc = bk := ⟨_, rfl⟩
        rw [hbk] at hat hao HL
        have HAT := Lib.hid hat
        have HAO := Lib.hid hao
        clear hat hao hbk HA
        go_wp2_with fail
        refine (HL.out _).mono ?_
        rintro e w' ⟨rfl, hb⟩
        have HB2 := Lib.hid (HB.out.trans (hb.mono HB.out.size))
        clear hb
        cases bk with
        | true =>
          go_wp2_with fail
          go_roundw
          case rel => exact ⟨k + 1, by omega, by go_num, by rw [HAT.out]; rfl, HB2.out⟩
          case measure => simp [intOf]; omega
        | false =>
          go_wp2_with fail
          go_ret
          obtain rfl : g = 6 := by rw [← HG.out]; exact goodT_6 h6 (HAO.out rfl)
          exact ⟨rfl, HB2.out⟩
      · obtain rfl : k = l.length := by omega
        have HA2 : RowKit.Hid ((l.any fun s => !isWord s) = false) := by
          have := HA.out; rw [List.take_length] at this
          exact this
        clear HA hs
        have hsz := HB.out.size
        go_wp2_with fail
        obtain ⟨wo, rfl⟩ : ∃ wo : World, wo = wr := ⟨_, rfl⟩
        go_loopw [5] (fun i wr => ∃ k : Nat, 1 ≤ k ∧ (k ≤ l.length ∨ k = 1) ∧ i = .int .i64 k ∧ RowKit.Hid (risesT l (k - 1) = true) ∧ RowKit.Hid (Below w.heap.size w wr)) (fun i _ => l.length - (intOf i).toNat)
        case atStart => exact ⟨1, by omega, .inr rfl, rfl, rfl, HB.out⟩
        case round =>
          clear HB hsz hk
          obtain ⟨k, hk1, hk, rfl, HR1, HB⟩ := hrel
          by_cases hlt : k < l.length
          · have k1 := tAt_some (l := l) (i := k - 1) (by omega)
            have k2 := tAt_some (l := l) (i := k) hlt
            have hrs := risesT_succ l (k - 1)
            rw [show k - 1 + 1 = k from by omega] at hrs
            revert hrs k1 k2
            generalize hx : tAt l (k - 1) = tx
            generalize hy : tAt l k = ty
            intro k1 k2 hrs
            rw [HR1.out, Bool.true_and] at hrs
            obtain ⟨b, off, rfl, hbl, c0⟩ := (HR.out.below HB.out rfl).at k1
            obtain ⟨b', off', he, hbl', c1⟩ := (HR.out.below HB.out rfl).at k2
            simp only [Option.some.injEq, Addr.mk.injEq, and_true] at he
            obtain ⟨rfl, rfl⟩ := he
            clear hbl' k1 k2 hx hy
            have HRS := Lib.hid hrs
            clear hrs
            have HL : RowKit.Hid (∀ W, Calls Try.prog 55 #[.string tx, .string ty] W fun e w' => e = .returned (.int .i64 (cmpT tx ty)) ∧ w' = W) := fun W => (tcmp_any tx ty W).mono fun e w' h => ⟨h.1, h.2.symm⟩
            have htl : tless tx ty = decide (cmpT tx ty < 0) := rfl
            have HTL := Lib.hid htl
            clear htl
            generalize cmpT tx ty = z at HTL HL
            go_wp2_with fail
            have w1 : IntKind.i64.wrap ((k : Int) - 1) = (k : Int) - 1 := IntWalk.i64_in _ (by omega)
            have w2 : ((k : Int) - 1).toNat = k - 1 := by omega
            have w3 : (0 : Int) ≤ (k : Int) - 1 := by omega
            have w4 : (k : Int) - 1 < l.length := by omega
            have w5 : (1 : Int) ≤ (k : Int) := by omega
            have hm := below_drewN HB.out 1
            have HB2 := Lib.hid hm
            clear hm
            go_quiet ((go_at_call 55; exact Calls.quiet_of_same (HL.out _)))
            clear w1 w2 w3 w4 w5
            by_cases hz : z < 0
            · have d1 : decide (0 ≤ z) = false := by simp; omega
              have HR2 : RowKit.Hid (risesT l k = true) := by
                have := HRS.out; rw [HTL.out] at this; exact this.trans (by simp; omega)
              clear HRS HTL
              go_wp2_with fail
              go_roundw
              case rel => exact ⟨k + 1, by omega, by omega, by go_num, HR2.out, below_drewN HB.out _⟩
              case measure => simp [intOf]; omega
            · have d1 : decide (0 ≤ z) = true := by simp; omega
              have HR2 : RowKit.Hid (risesT l k = false) := by
                have := HRS.out; rw [HTL.out] at this; exact this.trans (by simp; omega)
              clear HRS HTL
              obtain rfl : g = 7 := by rw [← HG.out]; exact goodT_7 h6 HA2.out k (by omega) HR2.out
              go_wp2_with fail
              go_ret
              exact ⟨rfl, below_drewN HB.out _⟩
          · have HR2 : RowKit.Hid (risesT l (l.length - 1) = true) := by
              rcases hk with hk | rfl
              · obtain rfl : k = l.length := by omega
                exact HR1.out
              · have : l.length - 1 = 0 := by omega
                rw [this]; rfl
            obtain rfl : g = 0 := by rw [← HG.out]; exact goodT_0 h6 HA2.out HR2.out
            go_wp2_with fail
            go_ret
            exact ⟨rfl, HB.out⟩
end Go.Proofs.Ytjacebnjmhbcbaa
