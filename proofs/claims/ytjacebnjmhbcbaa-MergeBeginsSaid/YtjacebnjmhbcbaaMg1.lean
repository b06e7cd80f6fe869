/- The walks of might, the closures, IndexFunc, ContainsFunc, Done, Told, Seq. -/
import Derived.Test.YtjacebnjmhbcbaaMg0
import Derived.Deep.RegionHeld3
namespace Go.Proofs.Ytjacebnjmhbcbaa
open Go.RowKit
set_option linter.unusedVariables false

theorem ShAt.below {W W' : World} {g o : Nat} {m : MS} (h : ShAt W g o m) (hb : Below W.heap.size W W') (hg : g < W.heap.size) : ShAt W' g o m := fun j v hv => (hb.cell (p := ⟨g, o + j, none⟩) hg).trans (h j v hv)
def MS.wanted (m : MS) : Bool := !m.ended && decide (m.wn = 0)
def MS.might (m : MS) (x : KeyL) : Bool := if m.wanted = false then false else if m.heard = true then kless m.last x else decide (m.least ≤ x.1)
def MS.open_ (m : MS) : Bool := !m.ended || decide (0 < m.wn)
theorem ShOK.wanted {B : Nat} {W : World} {to : Option Nat} {m : MS} {s : PS} (h : ShOK B W to m s) : m.wanted = s.wanted := by unfold MS.wanted PS.wanted; rw [h.ended, h.wlen]
theorem ShOK.might {B : Nat} {W : World} {to : Option Nat} {m : MS} {s : PS} (h : ShOK B W to m s) (x : KeyL) : m.might x = s.might x := by unfold MS.might PS.might; rw [h.wanted, h.heard, h.last, h.least]
theorem ShOK.open_ {B : Nat} {W : World} {to : Option Nat} {m : MS} {s : PS} (h : ShOK B W to m s) : m.open_ = s.open_ := by unfold MS.open_ PS.open_; rw [h.ended, h.wlen]
theorem wanted_any (g o : Nat) (m : MS) (w : World) (h : ShAt w g o m) : Calls Try.prog 40 #[.pointer (some ⟨g, o, none⟩)] w fun e w' => e = .returned (.bool m.wanted) ∧ w = w' := wanted_at g o m w h
theorem itless (a b : KeyL) (w : World) : Calls Try.prog 12 #[.agg #[.int .i64 a.1, .string a.2], .agg #[.int .i64 b.1, .string b.2]] w fun e w' => e = .returned (.bool (kless a b)) ∧ Below w.heap.size w w' := itless_any a.1 a.2 b.1 b.2 w
set_option maxRecDepth 100000 in
set_option maxHeartbeats 1000000 in
theorem might_any (g o : Nat) (m : MS) (x : KeyL) (w : World) (h : ShAt w g o m) (hg : g < w.heap.size) :
    Calls Try.prog 47 #[.pointer (some ⟨g, o, none⟩), .agg #[.int .i64 x.1, .string x.2]] w fun e w' => e = .returned (.bool (m.might x)) ∧ Below w.heap.size w w' := by
  have hb0 : Below w.heap.size w (w.alloc (.cells #[.int .i64 x.1, .string x.2] 31)) := (Below.refl _ _).alloc (Nat.le_refl _) _
  have h1 := h.below hb0 hg
  have hx : Blk (w.alloc (.cells #[.int .i64 x.1, .string x.2] 31)) w.heap.size 31 [.int .i64 x.1, .string x.2] := heap_alloc_new w _
  have x0 := hx.cell 0
  have x1 := hx.cell 1
  rw [show ([.int .i64 x.1, .string x.2] : List Value)[0]? = some (.int .i64 x.1) from rfl] at x0
  rw [show ([.int .i64 x.1, .string x.2] : List Value)[1]? = some (.string x.2) from rfl] at x1
  have HB0 := Lib.hid hb0
  have HA := Lib.hid h1
  obtain ⟨s0, _, _, s3, s4, s5, _⟩ := h1.c2
  have HL := Lib.hid (itless m.last x)
  clear h hx h1 hb0
  unfold MS.might
  cases hwt : m.wanted with
  | false =>
    rw [if_pos rfl]
    go_enter Try.func47, Try.ntmps47
    go_wp2_with fail
    refine (wanted_any g o m _ HA.out).mono ?_
    rintro e w' ⟨rfl, rfl⟩
    rw [hwt]
    clear hwt
    go_wp2_with fail
    go_ret
    exact ⟨rfl, HB0.out⟩
  | true =>
    rw [if_neg (by simp)]
    have HWT := Lib.hid hwt
    clear hwt
    cases hh : m.heard with
    | true =>
      rw [if_pos rfl]
      rw [hh] at s3
      clear hh
      go_enter Try.func47, Try.ntmps47
      go_wp2_with fail
      refine (wanted_any g o m _ HA.out).mono ?_
      rintro e w' ⟨rfl, rfl⟩
      rw [HWT.out]
      go_wp2_with fail
      have hg1 : g < (w.alloc (.cells #[.int .i64 x.1, .string x.2] 31)).heap.size := cell?_lt s4
      have hx1 : w.heap.size < (w.alloc (.cells #[.int .i64 x.1, .string x.2] 31)).heap.size := by simp
      generalize w.alloc (.cells #[.int .i64 x.1, .string x.2] 31) = w1 at *
      have HGB : RowKit.Hid (Below w1.heap.size w1 w1.drew) := below_drewN (Below.refl _ _) 1
      have HS := Lib.hid (And.intro s4 (And.intro s5 (And.intro x0 x1)))
      clear s4 s5 x0 x1 s0 s3
      go_region_held3 (fun w' => w'.cell? ⟨g, o + 4, none⟩ = some (.int .i64 m.last.1) ∧ w'.cell? ⟨g, o + 5, none⟩ = some (.string m.last.2) ∧ w'.cell? ⟨w.heap.size, 0, none⟩ = some (.int .i64 x.1) ∧ w'.cell? ⟨w.heap.size, 1, none⟩ = some (.string x.2)) (exact ⟨(HGB.out.cell (p := ⟨g, o + 4, none⟩) hg1).trans HS.out.1, (HGB.out.cell (p := ⟨g, o + 5, none⟩) hg1).trans HS.out.2.1, (HGB.out.cell (p := ⟨w.heap.size, 0, none⟩) hx1).trans HS.out.2.2.1, (HGB.out.cell (p := ⟨w.heap.size, 1, none⟩) hx1).trans HS.out.2.2.2⟩) (first | (go_at_call 12; refine (HL.out _).mono ?_; rintro e u ⟨rfl, hb⟩; have HSN := Lib.hid (HGB.out.trans (hb.mono HGB.out.size)); clear HGB; have HGB := HSN; clear HSN; clear hb))
      all_goals
        go_wp2_with fail
        go_ret
        exact ⟨rfl, HB0.out.trans (HGB.out.mono HB0.out.size)⟩
    | false =>
      rw [if_neg (by simp)]
      rw [hh] at s3
      clear hh
      cases hd : decide (m.least ≤ x.1) with
      | true =>
        have d1 : m.least ≤ x.1 := by simpa using hd
        go_enter Try.func47, Try.ntmps47
        go_wp2_with fail
        refine (wanted_any g o m _ HA.out).mono ?_
        rintro e w' ⟨rfl, rfl⟩
        rw [HWT.out]
        go_wp2_with fail
        go_quiet (fail)
        go_wp2_with fail
        go_ret
        exact ⟨rfl, below_drewN HB0.out _⟩
      | false =>
        have d1 : x.1 < m.least := by simpa using hd
        go_enter Try.func47, Try.ntmps47
        go_wp2_with fail
        refine (wanted_any g o m _ HA.out).mono ?_
        rintro e w' ⟨rfl, rfl⟩
        rw [HWT.out]
        go_wp2_with fail
        go_quiet (fail)
        go_wp2_with fail
        go_ret
        exact ⟨rfl, below_drewN HB0.out _⟩
end Go.Proofs.Ytjacebnjmhbcbaa
