/- list.At and list.Without over words in order; plain laws of the order of texts. -/
import Derived.Test.YtiohngcmojkheaaTexts1
import Derived.Test.YtiohngcmojkheaaSt2
import Derived.Deep.RegionHeld3
import Derived.Deep.Cut
import Derived.Deep.CutRange
import Derived.IntWalk
namespace Go.Proofs.Ytiohngcmojkheaa
open Go.RowKit Go.Deep
set_option linter.unusedVariables false

theorem infoS : (Try.prog.info? 9).map (fun i => (i.zero, i.size, i.bytes)) = some (some (.string ⟨#[]⟩), 1, 16) := by kernel_rfl
def GotT (w : World) (r : List ByteArray) (e : Ending) (w' : World) : Prop := ∃ ao c, e = .returned (.slice ao r.length c) ∧ w'.ownsRow w.heap.size 9 1 (.slice ao r.length c) r.length (r.map Value.string) ∧ Below w.heap.size w w'
theorem filter_take {α : Type} (p : α → Bool) (l : List α) (k : Nat) (x : α) (h : l[k]? = some x) : (l.take (k + 1)).filter p = (l.take k).filter p ++ (if p x then [x] else []) := by
  rw [List.take_add_one, h, List.filter_append]
  cases hp : p x <;> simp [hp]
theorem tless_trans {a b c : ByteArray} (h : tless a b = true) (k : tless b c = true) : tless a c = true := by
  unfold tless at *
  simp only [decide_eq_true_eq] at *
  exact cb_trans _ _ _ h k
theorem risesT_pw (l : List ByteArray) : risesT l (l.length - 1) = true → l.Pairwise (fun a b => tless a b = true) := by
  rw [List.pairwise_iff_getElem]
  unfold risesT
  rw [List.all_eq_true]
  have hk : ∀ i (h : i < l.length), tAt l i = l[i] := by intro i h; unfold tAt; simp [h]
  intro h
  have step : ∀ d i (hi : i < l.length) (hj : i + d + 1 < l.length), tless l[i] l[i + d + 1] = true := by
    intro d
    induction d with
    | zero =>
      intro i hi hj
      have := h i (by simp; omega)
      rw [hk i hi, hk (i + 1) hj] at this
      exact this
    | succ d ih =>
      intro i hi hj
      refine tless_trans (ih i hi (by omega)) ?_
      have := h (i + d + 1) (by simp; omega)
      rw [hk _ (by omega), hk _ (by omega)] at this
      exact this
  intro i j hi hj hij
  obtain ⟨d, rfl⟩ : ∃ d, j = i + d + 1 := ⟨j - i - 1, by omega⟩
  exact step d i hi hj
theorem goodT_of {l : List ByteArray} (h : goodT l = 0) : l.length ≤ 60 ∧ (∀ x ∈ l, isWord x = true) ∧ l.Pairwise (fun a b => tless a b = true) := by
  unfold goodT at h
  by_cases h5 : 60 < l.length
  · rw [if_pos h5] at h; simp at h
  · rw [if_neg h5] at h
    by_cases hb : (l.any fun s => !isWord s) = true
    · rw [if_pos hb] at h; simp at h
    · rw [if_neg hb] at h
      by_cases hr : risesT l (l.length - 1) = true
      · exact ⟨by omega, by simpa using hb, risesT_pw l hr⟩
      · rw [if_neg hr] at h; simp at h
theorem cb_refl : ∀ l : List UInt8, Lib.compareBytes l l = 0
  | [] => rfl
  | x :: l => by simp [Lib.compareBytes, cb_refl l]
theorem tless_irr (a : ByteArray) : tless a a = false := by
  unfold tless cmpT
  rw [decide_eq_false_iff_not, cb_refl]; omega
theorem tless_asym {a b : ByteArray} (h : tless a b = true) : tless b a = false := by
  cases hb : tless b a with
  | false => rfl
  | true => have := tless_trans h hb; rw [tless_irr] at this; cases this
/-- words in order -/
def RiseT (l : List ByteArray) : Prop := l.Pairwise (fun a b => tless a b = true)
theorem RiseT.lt {l : List ByteArray} (h : RiseT l) {i j : Nat} {x y : ByteArray} (hx : l[i]? = some x) (hy : l[j]? = some y) (hij : i < j) : tless x y = true := by
  have := List.pairwise_iff_getElem.1 h i j (List.getElem?_eq_some_iff.1 hx).1 (List.getElem?_eq_some_iff.1 hy).1 hij
  rw [(List.getElem?_eq_some_iff.1 hx).2, (List.getElem?_eq_some_iff.1 hy).2] at this
  exact this
theorem RiseT.le {l : List ByteArray} (h : RiseT l) {i j : Nat} {x y : ByteArray} (hx : l[i]? = some x) (hy : l[j]? = some y) (hij : i ≤ j) : x = y ∨ tless x y = true := by
  rcases Nat.lt_or_eq_of_le hij with hlt | rfl
  · exact .inr (h.lt hx hy hlt)
  · rw [hx] at hy; exact .inl (Option.some.inj hy)
def hasT (l : List ByteArray) (x : ByteArray) : Bool := l.any fun y => decide (y = x)
theorem hasT_iff {l : List ByteArray} {x : ByteArray} : hasT l x = true ↔ x ∈ l := by
  unfold hasT
  rw [List.any_eq_true]
  constructor
  · rintro ⟨y, hy, e⟩; rw [decide_eq_true_eq] at e; subst e; exact hy
  · intro h; exact ⟨x, h, decide_eq_true rfl⟩
/-- the search's two halves -/
def AtP (l : List ByteArray) (x : ByteArray) (i j : Nat) : Prop := (∀ k y, l[k]? = some y → k < i → tless y x = true) ∧ ∀ k y, l[k]? = some y → j ≤ k → tless y x = false
theorem AtP.start (l : List ByteArray) (x : ByteArray) : AtP l x 0 l.length := ⟨fun k y h hk => by omega, fun k y h hk => by have := (List.getElem?_eq_some_iff.1 h).1; omega⟩
theorem AtP.up {l : List ByteArray} {x : ByteArray} {i j h : Nat} {y : ByteArray} (hp : AtP l x i j) (hr : RiseT l) (hy : l[h]? = some y) (hl : tless y x = true) : AtP l x (h + 1) j := ⟨fun k z hz hk => by
    rcases hr.le hz hy (by omega) with rfl | h1
    · exact hl
    · exact tless_trans h1 hl, hp.2⟩
theorem AtP.down {l : List ByteArray} {x : ByteArray} {i j h : Nat} {y : ByteArray} (hp : AtP l x i j) (hr : RiseT l) (hy : l[h]? = some y) (hl : tless y x = false) : AtP l x i h := ⟨hp.1, fun k z hz hk => by
    rcases hr.le hy hz hk with rfl | h1
    · exact hl
    · cases hzx : tless z x with
      | false => rfl
      | true => rw [tless_trans h1 hzx] at hl; cases hl⟩
theorem AtP.no {l : List ByteArray} {x : ByteArray} {i : Nat} (hp : AtP l x i i) (hi : l.length ≤ i) : hasT l x = false := by
  cases h : hasT l x with
  | false => rfl
  | true =>
    obtain ⟨k, hk⟩ := List.mem_iff_getElem?.1 (hasT_iff.1 h)
    have := hp.1 k x hk (by have := (List.getElem?_eq_some_iff.1 hk).1; omega)
    rw [tless_irr] at this; cases this
theorem AtP.yes {l : List ByteArray} {x : ByteArray} {i : Nat} {y : ByteArray} (hp : AtP l x i i) (hr : RiseT l) (hy : l[i]? = some y) : hasT l x = decide (cmpT y x = 0) := by
  by_cases e : cmpT y x = 0
  · rw [decide_eq_true e]
    obtain rfl := cmpT_eq e
    exact hasT_iff.2 (List.mem_iff_getElem?.2 ⟨i, hy⟩)
  · rw [decide_eq_false e]
    cases h : hasT l x with
    | false => rfl
    | true =>
      exfalso
      obtain ⟨k, hk⟩ := List.mem_iff_getElem?.1 (hasT_iff.1 h)
      have h1 : ¬ k < i := fun hk' => by have := hp.1 k x hk hk'; rw [tless_irr] at this; cases this
      rcases hr.le hy hk (by omega) with rfl | h2
      · exact e (cb_refl _)
      · have h3 := hp.2 i y hy (Nat.le_refl _)
        rw [h2] at h3; cases h3
def cmpTV : Value := .func (Fn.func 62) #[] #[]
def BsR (w : World) (l : List ByteArray) (x : ByteArray) (v9 v10 : Value) (wr : World) : Prop := ∃ i j : Nat, i ≤ j ∧ j ≤ l.length ∧ v9 = .int .i64 i ∧ v10 = .int .i64 j ∧ RowKit.Hid (AtP l x i j) ∧ w = wr
set_option maxRecDepth 100000 in
set_option maxHeartbeats 4000000 in
theorem bsearch_any (a : Option Addr) (n c : Nat) (l : List ByteArray) (x : ByteArray) (w : World) (h : RdT w a n c l) (hr : RiseT l) (hn : l.length ≤ 100000) :
    Calls Try.prog 65 #[.slice a n c, .string x, cmpTV] w fun e w' => (∃ i : Nat, e = .returned (.tuple #[.int .i64 i, .bool (hasT l x)])) ∧ w = w' := by
  have hln := h.len
  subst hln
  have hcap := h.2.1
  have hcm := h.2.2.1
  unfold maxLen at hcm
  have HR := Lib.hid h
  have HS := Lib.hid hr
  clear h hr
  unfold cmpTV
  obtain ⟨R, hRR⟩ : ∃ R, hasT l x = R := ⟨_, rfl⟩
  rw [hRR]
  have HRR := Lib.hid hRR
  clear hRR
  go_enter Try.func65, Try.ntmps65
  go_wp2_with fail
  go_loopw [9, 10] (fun v9 v10 wr => BsR w l x v9 v10 wr) (fun v9 v10 _ => (intOf v10).toNat - (intOf v9).toNat)
  case atStart => exact ⟨0, l.length, by omega, by omega, rfl, rfl, AtP.start l x, rfl⟩
  case round =>
    obtain ⟨i, j, hij, hj, rfl, rfl, HP, rfl⟩ := hrel
    by_cases hlt : i < j
    · obtain ⟨m, hm⟩ : ∃ m, (i + j) / 2 = m := ⟨_, rfl⟩
      have hm1 : i ≤ m := by omega
      have hm2 : m < j := by omega
      obtain ⟨y, hy⟩ : ∃ y, l[m]? = some y := ⟨_, List.getElem?_eq_getElem (by omega)⟩
      have HY := Lib.hid hy
      have HM := Lib.hid hm
      clear hm hy
      obtain ⟨bb, ob, rfl, hbb, cy⟩ := HR.out.at HY.out
      have hmi : ((i : Int) + (j : Int)) / 2 = (m : Int) := by have := HM.out; omega
      have k1 : (0 : Int) ≤ (m : Int) := by omega
      have k2 : (m : Int) < (l.length : Int) := by omega
      go_wp2_with fail
      refine (tcmp_any y x w).mono ?_
      rintro e w' ⟨rfl, rfl⟩
      clear hmi
      have htl : decide (cmpT y x < 0) = tless y x := rfl
      cases hd : tless y x
      · have HP2 := Lib.hid (HP.out.down HS.out HY.out hd)
        rw [hd] at htl
        clear hd
        go_wp2_with fail
        go_roundw
        case rel => exact ⟨i, m, by omega, by omega, rfl, rfl, HP2.out, rfl⟩
        case measure => simp [intOf]; omega
      · have HP2 := Lib.hid (HP.out.up HS.out HY.out hd)
        rw [hd] at htl
        clear hd
        go_wp2_with fail
        go_roundw
        case rel => exact ⟨m + 1, j, by omega, by omega, by go_num, rfl, HP2.out, rfl⟩
        case measure => simp [intOf]; omega
    · obtain rfl : i = j := by omega
      by_cases hil : i < l.length
      · obtain ⟨y, hy⟩ : ∃ y, l[i]? = some y := ⟨_, List.getElem?_eq_getElem hil⟩
        have HY := Lib.hid hy
        obtain ⟨bb, ob, rfl, hbb, cy⟩ := HR.out.at hy
        have HE := Lib.hid (HP.out.yes HS.out hy)
        have k1 : (0 : Int) ≤ (i : Int) := by omega
        have k2 : (i : Int) < (l.length : Int) := by omega
        have e1 : (cmpT y x == 0) = decide (cmpT y x = 0) := rfl
        clear hy
        go_wp2_with fail
        refine (tcmp_any y x w).mono ?_
        rintro e w' ⟨rfl, rfl⟩
        rw [← HE.out, HRR.out] at e1
        go_wp2_with fail
        go_ret2
        exact ⟨⟨i, rfl⟩, rfl⟩
      · have HE := Lib.hid (HP.out.no (by omega))
        obtain rfl : R = false := by rw [← HRR.out, HE.out]
        go_wp2_with fail
        go_ret2
        exact ⟨⟨i, rfl⟩, rfl⟩
set_option maxRecDepth 100000 in
set_option maxHeartbeats 4000000 in
theorem at_any (a : Option Addr) (n c : Nat) (l : List ByteArray) (x : ByteArray) (w : World) (h : RdT w a n c l) (hr : RiseT l) (hn : l.length ≤ 100000) :
    Calls Try.prog 48 #[.slice a n c, .string x] w fun e w' => (∃ i : Nat, e = .returned (.tuple #[.int .i64 i, .bool (hasT l x)])) ∧ w = w' := by
  have HB := Lib.hid (bsearch_any a n c l x w h hr hn)
  unfold cmpTV at HB
  clear h hr
  generalize hasT l x = R at *
  go_enter Try.func48, Try.ntmps48
  go_wp2_with fail
  refine HB.out.mono ?_
  rintro e w' ⟨⟨i, rfl⟩, rfl⟩
  go_wp2_with fail
  go_ret2
  exact ⟨⟨i, rfl⟩, rfl⟩
def withoutL (l r : List ByteArray) : List ByteArray := l.filter fun x => !hasT r x
set_option maxRecDepth 100000 in
set_option maxHeartbeats 4000000 in
theorem without_any (a : Option Addr) (n cap : Nat) (l : List ByteArray) (b : Option Addr) (m bc : Nat) (r : List ByteArray) (w : World) (hl : RdT w a n cap l) (hr : RdT w b m bc r) (hs : RiseT r) (hn : l.length ≤ 1000) (hm : r.length ≤ 1000) :
    Calls Try.prog 45 #[.slice a n cap, .slice b m bc] w (GotT w (withoutL l r)) := by
  have hln := hl.len
  subst hln
  have hcap := hl.2.1
  have HL := Lib.hid hl
  have HA := Lib.hid (fun x W h => at_any b m bc r x W h hs (by omega))
  have HR := Lib.hid hr
  obtain ⟨i0, hi, hz0, hz1, hz2⟩ := info_parts infoS
  have HI := Lib.hid hi
  have HZ0 := Lib.hid hz0
  have HZ1 := Lib.hid hz1
  have HZ2 := Lib.hid hz2
  clear hi hz0 hz1 hz2 hl hr hs
  go_enter Try.func45, Try.ntmps45
  go_wp2_with fail
  go_loopw [5, 12] (fun o i wr => ∃ k : Nat, k ≤ l.length ∧ i = .int .i64 k ∧ ∃ ao c q, o = .slice ao q c ∧ RowKit.Hid ((withoutL (l.take k) r).length = q) ∧ q ≤ k ∧ RowKit.Hid (wr.ownsRow w.heap.size 9 1 (.slice ao q c) q ((withoutL (l.take k) r).map Value.string)) ∧ RowKit.Hid (Below w.heap.size w wr)) (fun _ i _ => l.length - (intOf i).toNat)
  case atStart => exact ⟨0, by omega, rfl, none, 0, 0, rfl, rfl, by omega, World.ownsRow_nil _ _ _ _, Below.refl _ w⟩
  case round =>
    obtain ⟨k, hk, rfl, ao, c, q, rfl, HQ, hqk, HO, HB⟩ := hrel
    by_cases hlt : k < l.length
    · obtain ⟨tc, hx⟩ : ∃ x, l[k]? = some x := ⟨l[k], List.getElem?_eq_getElem hlt⟩
      obtain ⟨g, off, rfl, hbl, c0⟩ := (HL.out.below HB.out rfl).at hx
      have HAT := Lib.hid (HA.out tc wr (HR.out.below HB.out rfl))
      have HFT := Lib.hid (show withoutL (l.take (k + 1)) r = withoutL (l.take k) r ++ (if (!hasT r tc) = true then [tc] else []) from filter_take (fun x => !hasT r x) l k tc hx)
      have hz2 := HB.out.size
      have k1 : (0 : Int) ≤ (k : Int) := by omega
      have k2 : (k : Int) < (l.length : Int) := by omega
      clear hx
      generalize hasT r tc = z at *
      go_wp2_with fail
      refine HAT.out.mono ?_
      rintro e w' ⟨⟨i, rfl⟩, rfl⟩
      clear HAT
      cases z
      · have HST := Lib.hid (show withoutL (l.take (k + 1)) r = withoutL (l.take k) r ++ [tc] from HFT.out)
        clear HFT
        go_wp2_with (at_builtin; refine wpList_app rfl _ _ 22 22 rfl w.heap.size 9 i0 (.string ⟨#[]⟩) 1 16 Try.underlying22 HI.out HZ0.out HZ1.out HZ2.out rfl (by decide) ao q c ((withoutL (l.take k) r).map Value.string) rfl (HO.out.alloc _) _ 1 _ rfl (Src.one' Try.underlying22 wr _ 9 rfl) (by unfold maxLen; omega) (by omega) (by simp; omega) ?_; intro ao2 c2 w2 hown2 hg2; have HO3 := Lib.hid hown2; have HB3 := Lib.hid ((HB.out.alloc hz2 _).grown hg2 (by simp; omega) (fun k hk => (HO.out.lt k hk).1)); clear hown2 hg2)
        have hln : RowKit.Hid ((withoutL (l.take (k + 1)) r).length = q + 1) := by unfold RowKit.Hid; rw [HST.out, List.length_append, HQ.out]; rfl
        go_roundw
        case rel => exact ⟨k + 1, by omega, by go_num, ao2, c2, q + 1, rfl, hln, by omega, (by rw [HST.out, List.map_append]; exact HO3.out), HB3.out⟩
        case measure => simp [intOf]; omega
      · have HST := Lib.hid (show withoutL (l.take (k + 1)) r = withoutL (l.take k) r from by rw [HFT.out]; simp)
        clear HFT
        go_wp2_with fail
        go_roundw
        case rel => exact ⟨k + 1, by omega, by go_num, ao, c, q, rfl, (by rw [HST.out]; exact HQ.out), by omega, (by rw [HST.out]; exact HO.out), HB.out⟩
        case measure => simp [intOf]; omega
    · obtain rfl : k = l.length := by omega
      rw [List.take_length] at HQ HO
      have hq := HQ.out
      subst hq
      go_wp2_with fail
      go_ret
      exact ⟨ao, c, rfl, HO.out, HB.out⟩
end Go.Proofs.Ytiohngcmojkheaa
