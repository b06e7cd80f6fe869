/- the closure over a map; slices.ContainsFunc; fair.window. -/
import Derived.Test.YtjdanngkmkgidaaFr1
import Derived.Lib.SlBytesConst
namespace Go.Proofs.Ytjdanngkmkgidaa
open Go.RowKit
set_option linter.unusedVariables false

set_option maxRecDepth 100000 in
theorem way_any (p b n : Nat) (f : Int → Bool) (k : Int) (w : World) (h : w.cell? ⟨p, 0, none⟩ = some (.map (some b))) (hm : MapB w b n f) (hk : wf64 k) :
    Calls Try.prog 63 #[.int .i64 k, .pointer (some ⟨p, 0, none⟩)] w fun e w' => e = .returned (.bool (f k)) ∧ w = w' := by
  have hl := hm.look hk
  clear hm
  go_enter Try.func63, Try.ntmps63
  go_wp2
  go_ret
  exact ⟨rfl, rfl⟩
set_option maxRecDepth 100000 in
set_option maxHeartbeats 2000000 in
theorem ixw_any (a : Option Addr) (n cap : Nat) (l : List Int) (p b m : Nat) (f : Int → Bool) (w : World) (hr : Rd w a n cap (ints l)) (h : w.cell? ⟨p, 0, none⟩ = some (.map (some b))) (hm : MapB w b m f) (hk : ∀ k ∈ l, wf64 k) :
    Calls Try.prog 72 #[.slice a n cap, .func (Fn.func 63) #[] #[.pointer (some ⟨p, 0, none⟩)]] w fun e w' => ∃ r : Int, e = .returned (.int .i64 r) ∧ IxOK r (l.any f) ∧ w = w' := by
  have hn := hr.1
  rw [ints_len] at hn
  have hcm := hr.2.2.1
  have hcap := hr.2.1
  unfold maxLen at hcm
  subst hn
  have HR := Lib.hid hr
  have HC := Lib.hid (fun k hk => way_any p b m f k w h hm hk)
  have HK := Lib.hid hk
  clear hr hm hk h
  go_enter Try.func72, Try.ntmps72
  go_wp2_with fail
  go_loop [8] (fun i => ∃ k : Nat, i = .int .i64 k ∧ k ≤ l.length ∧ RowKit.Hid ((l.take k).any f = false)) (fun i => l.length - (intOf i).toNat)
  case atStart => exact ⟨0, rfl, by omega, by simp [RowKit.Hid]⟩
  case round =>
    obtain ⟨k, rfl, hk, HA⟩ := hrel
    by_cases hlt : k < l.length
    · obtain ⟨x, hx⟩ : ∃ x, l[k]? = some x := ⟨l[k], List.getElem?_eq_getElem hlt⟩
      obtain ⟨b1, off, rfl, hb, hc⟩ := HR.out.2.2.2.2 k hlt
      unfold ints at hc
      rw [List.getElem?_map, hx] at hc
      simp only [Option.map_some] at hc
      have HX := Lib.hid hx
      have HAT := Lib.hid (anyK_take f l k x hx)
      have HAO := Lib.hid (any_of f l k x hx)
      have HKX := Lib.hid (HK.out x (List.mem_iff_getElem?.2 ⟨k, hx⟩))
      clear hx
      go_wp2_with fail
      refine (HC.out x HKX.out).mono ?_
      rintro e w' ⟨rfl, rfl⟩
      cases hf : f x
      · have HF := Lib.hid hf
        clear hf
        go_wp2_with fail
        go_round
        case rel => exact ⟨k + 1, by go_num, by omega, by rw [HAT.out, HA.out, HF.out]; rfl⟩
        case measure => simp [intOf]; omega
      · have HF := Lib.hid hf
        clear hf
        go_wp2_with fail
        go_ret
        exact ⟨k, rfl, ⟨fun _ => by omega, fun h => by rw [HAO.out HF.out] at h; exact absurd h (by decide)⟩, rfl⟩
    · obtain rfl : k = l.length := by omega
      have hq := Lib.hid (show l.any f = false from by have := HA.out; rwa [List.take_length] at this)
      go_wp2_with fail
      go_ret
      exact ⟨-1, rfl, ⟨fun h => by rw [hq.out] at h; exact absurd h (by decide), fun _ => by omega⟩, rfl⟩
set_option maxRecDepth 100000 in
theorem cfw_any (a : Option Addr) (n cap : Nat) (l : List Int) (p b m : Nat) (f : Int → Bool) (w : World) (hr : Rd w a n cap (ints l)) (h : w.cell? ⟨p, 0, none⟩ = some (.map (some b))) (hm : MapB w b m f) (hk : ∀ k ∈ l, wf64 k) :
    Calls Try.prog 62 #[.slice a n cap, .func (Fn.func 63) #[] #[.pointer (some ⟨p, 0, none⟩)]] w fun e w' => e = .returned (.bool (l.any f)) ∧ w = w' := by
  have HC := Lib.hid (ixw_any a n cap l p b m f w hr h hm hk)
  clear hr hm hk h
  obtain ⟨R, hR⟩ : ∃ R, l.any f = R := ⟨_, rfl⟩
  rw [hR] at HC ⊢
  clear hR
  go_enter Try.func62, Try.ntmps62
  go_wp2_with fail
  refine HC.out.mono ?_
  rintro e w' ⟨r, rfl, hd, rfl⟩
  cases R
  · have hd' : r < 0 := hd.2 rfl
    have d1 : decide (0 ≤ r) = false := by simpa using hd'
    go_wp2_with fail
    go_ret
    exact ⟨by congr 2, rfl⟩
  · have hd' : 0 ≤ r := hd.1 rfl
    have d1 : decide (0 ≤ r) = true := by simpa using hd'
    go_wp2_with fail
    go_ret
    exact ⟨by congr 2, rfl⟩
def isTick (r : RecM) : Bool := decide (r.kind = 3)
def wakes (n : Nat) (r : RecM) : Bool := decide (r.kind = 4) && decide (r.node = (n : Int))
def wokeL (W : Nat) (l : List RecM) : List Bool := (List.range (W + 1)).map (fun n => l.any (wakes n))
def okR (good : List Int) (f : Int → Bool) (r : RecM) : Bool := !(decide (r.kind = 9) && has good r.node) && !(r.lost.any f)
/-- is a window fair? -/
def windowB (W : Nat) (l : List RecM) (good : List Int) (f : Int → Bool) : Bool := l.all (okR good f) && (l.any isTick && !(has (wokeL W l) false))
def bools (l : List Bool) : List Value := l.map Value.bool
theorem wokeL_nil (W : Nat) : wokeL W [] = List.replicate (W + 1) false := by
  unfold wokeL
  apply List.ext_getElem
  · simp
  · intro i h1 h2; simp
theorem wokeL_len (W : Nat) (l : List RecM) : (wokeL W l).length = W + 1 := by simp [wokeL]
theorem wokeL_set (W : Nat) (l : List RecM) (r : RecM) (n : Nat) (h4 : r.kind = 4) (hn : r.node = (n : Int)) : wokeL W (l ++ [r]) = (wokeL W l).set n true := by
  unfold wokeL
  apply List.ext_getElem
  · simp
  · intro i h1 h2
    simp only [List.getElem_map, List.getElem_range, List.any_append, List.any_cons, List.any_nil, Bool.or_false]
    rw [List.getElem_set]
    split
    · rename_i e; subst e; simp [wakes, h4, hn]
    · rename_i e
      have : wakes i r = false := by unfold wakes; rw [hn, h4]; simp; omega
      simp [this]
theorem wokeL_same (W : Nat) (l : List RecM) (r : RecM) (h : ¬ (r.kind = 4 ∧ 0 ≤ r.node ∧ r.node ≤ W)) : wokeL W (l ++ [r]) = wokeL W l := by
  unfold wokeL
  apply List.ext_getElem
  · simp
  · intro i h1 h2
    simp at h1
    simp only [List.getElem_map, List.getElem_range, List.any_append, List.any_cons, List.any_nil, Bool.or_false]
    have : wakes i r = false := by
      unfold wakes
      cases hd : decide (r.kind = 4)
      · rfl
      · simp only [Bool.true_and, decide_eq_false_iff_not]
        intro e
        simp at hd
        exact h ⟨hd, by omega, by omega⟩
    rw [this, Bool.or_false]
theorem blk_full1 {w : World} {base g n : Nat} {e : TypeId} {xs : List Value} (h : w.ownsRow base e 1 (.slice (some ⟨g, 0, none⟩) n n) n xs) : Blk w g e xs := by
  obtain ⟨sp, hl, hb⟩ := ownsRow_blk h
  have : sp = [] := List.eq_nil_of_length_eq_zero (by omega)
  rw [this, List.append_nil] at hb; exact hb
theorem info_bool : (Try.prog.info? 4).map (fun i => (i.zero, i.size, i.bytes)) = some (some (.bool false), 1, 1) := by kernel_rfl
theorem window_no {W : Nat} {l : List RecM} {good : List Int} {f : Int → Bool} {i : Nat} {r : RecM} (hx : l[i]? = some r) (h : okR good f r = false) : windowB W l good f = false := by
  unfold windowB
  rw [(List.all_eq_false).2 ⟨r, List.mem_iff_getElem?.2 ⟨i, hx⟩, by rw [h]; decide⟩]; rfl
end Go.Proofs.Ytjdanngkmkgidaa
