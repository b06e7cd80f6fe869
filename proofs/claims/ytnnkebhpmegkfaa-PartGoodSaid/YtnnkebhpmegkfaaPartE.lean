/- The walk of the statement PartGood: which cuts are good, and which of two keys is below, is the document's. -/
import Derived.Test.YtnnkebhpmegkfaaLendK
import Derived.Test.YtnnkebhpmegkfaaRef5
import Derived.Deep.RegionHeld3
namespace Go.Proofs.Ytnnkebhpmegkfaa
open Go.RowKit Go.Deep
set_option linter.unusedVariables false

def GSt (w : World) (g : Nat) (la : Int) (ta : ByteArray) (lb : Int) (tb : ByteArray) (l : List KeyL) (W : World) : Prop :=
  Below w.heap.size w W ∧ Blk W w.heap.size 58 [.int .i64 la, .string ta] ∧ Blk W (w.heap.size + 1) 58 [.int .i64 lb, .string tb] ∧ Blk W g 58 (l.flatMap KeyL.cells ++ marksK 3)
theorem GSt.next {w W W' : World} {g : Nat} {la lb : Int} {ta tb : ByteArray} {l : List KeyL} (h : GSt w g la ta lb tb l W) (hb : Below W.heap.size W W') : GSt w g la ta lb tb l W' :=
  ⟨h.1.trans (hb.mono h.1.size), h.2.1.below hb h.2.1.lt, h.2.2.1.below hb h.2.2.1.lt, h.2.2.2.below hb h.2.2.2.lt⟩
theorem GSt.cells {w W : World} {g : Nat} {la lb : Int} {ta tb : ByteArray} {l : List KeyL} (h : GSt w g la ta lb tb l W) :
    W.cell? ⟨w.heap.size, 0, none⟩ = some (.int .i64 la) ∧ W.cell? ⟨w.heap.size, 1, none⟩ = some (.string ta) ∧ W.cell? ⟨w.heap.size + 1, 0, none⟩ = some (.int .i64 lb) ∧ W.cell? ⟨w.heap.size + 1, 1, none⟩ = some (.string tb) :=
  ⟨h.2.1.cell 0, h.2.1.cell 1, h.2.2.1.cell 0, h.2.2.1.cell 1⟩
theorem GSt.rdk {w W : World} {g : Nat} {la lb : Int} {ta tb : ByteArray} {l : List KeyL} (h : GSt w g la ta lb tb l W) (hl : l.length ≤ 1000) : RdE KeyL.cells 2 W (some ⟨g, 0, none⟩) l.length (l.length + 3) l :=
  Blk.rdE (enc := KeyL.cells) (size := 2) (fun _ => rfl) h.2.2.2 (l.length + 3) (by omega) (by unfold maxLen; omega)
theorem num_any (x : Int) (w : World) : Calls Try.prog 23 #[.int .i64 x] w fun e w' => e = .returned (.int .i64 x) ∧ w = w' := by
  go_enter Try.func23, Try.ntmps23
  go_wp2
  go_ret
  exact ⟨rfl, rfl⟩
theorem goodE_bd (l : List KeyL) : 0 ≤ goodE l ∧ goodE l ≤ 7 := by
  unfold goodE
  split
  · omega
  · split
    · omega
    · split <;> omega
set_option maxRecDepth 100000 in
set_option maxHeartbeats 4000000 in
theorem goodl_walk (a : Option Addr) (n cap : Nat) (l : List KeyL) (la : Int) (ta : ByteArray) (lb : Int) (tb : ByteArray) (w : World) (hr : RdE KeyL.cells 2 w a n cap l) (hs : ∀ x ∈ l, x.2.size ≤ maxLen) (h1 : ta.size ≤ maxLen) (h2 : tb.size ≤ maxLen) :
    Calls Try.prog 9 #[.slice a n cap, .agg #[.int .i64 la, .string ta], .agg #[.int .i64 lb, .string tb]] w fun e w' => e = .returned (.bool true) ∧ Below w.heap.size w w' := by
  have hn := hr.1
  subst hn
  have hcap := hr.2.1
  have hcm := hr.2.2.1
  unfold maxLen at hcm h1 h2
  have HR := Lib.hid hr
  have HS := Lib.hid hs
  clear hr hs
  have HB := Lib.hid (show Below w.heap.size w ((w.alloc (.cells #[.int .i64 la, .string ta] 58)).alloc (.cells #[.int .i64 lb, .string tb] 58)) from ((Below.refl _ w).alloc (Nat.le_refl _) _).alloc (by simp) _)
  have HKA := Lib.hid (show Blk ((w.alloc (.cells #[.int .i64 la, .string ta] 58)).alloc (.cells #[.int .i64 lb, .string tb] 58)) w.heap.size 58 [.int .i64 la, .string ta] from Blk.alloc (show Blk (w.alloc _) _ _ _ by unfold Blk; rw [heap_alloc_new]) _)
  have HKB := Lib.hid (show Blk ((w.alloc (.cells #[.int .i64 la, .string ta] 58)).alloc (.cells #[.int .i64 lb, .string tb] 58)) (w.heap.size + 1) 58 [.int .i64 lb, .string tb] from by have h := heap_alloc_new (w.alloc (.cells #[.int .i64 la, .string ta] 58)) (.cells #[.int .i64 lb, .string tb] 58); unfold Blk; simpa using h)
  go_enter Try.func9, Try.ntmps9
  go_wp2_with fail
  generalize ((w.alloc (.cells #[.int .i64 la, .string ta] 58)).alloc (.cells #[.int .i64 lb, .string tb] 58)) = W0 at *
  refine (great12_any a l.length cap l _ (HR.out.below HB.out rfl) HS.out).mono ?_
  rintro e v1 ⟨rfl, hb⟩
  have HB1 := Lib.hid (HB.out.trans (hb.mono HB.out.size))
  have HA1 := Lib.hid (HKA.out.below hb HKA.out.lt)
  have HC1 := Lib.hid (HKB.out.below hb HKB.out.lt)
  clear hb HB HKA HKB
  have x1 : v1.cell? ⟨w.heap.size, 1, none⟩ = some (.string ta) := HA1.out.cell 1
  have y1 : v1.cell? ⟨w.heap.size + 1, 1, none⟩ = some (.string tb) := HC1.out.cell 1
  obtain ⟨g1, hg1⟩ : ∃ g, greatK l = g := ⟨_, rfl⟩
  rw [hg1]
  cases g1
  case true =>
    go_wp2_with fail
    refine (awake12_any _).mono ?_
    rintro e v2 ⟨rfl, hb⟩
    have HB2 := Lib.hid (HB1.out.trans (hb.mono HB1.out.size))
    clear hb HB1
    go_wp2_with fail
    go_ret
    exact ⟨rfl, HB2.out⟩
  case false =>
    obtain ⟨hl, hsz⟩ := greatK_false hg1
    have HS1 := Lib.hid (fun x hx => Nat.le_trans (hsz x hx) (by omega : 100 ≤ 1000000))
    clear hg1 hsz
    by_cases s1 : 100 < ta.size
    ·
      have d1 : decide (100 < ta.size) = true := by simpa using s1
      go_wp2_with fail
      refine (awake12_any _).mono ?_
      rintro e v2 ⟨rfl, hb⟩
      have HB2 := Lib.hid (HB1.out.trans (hb.mono HB1.out.size))
      clear hb HB1
      go_wp2_with fail
      go_ret
      exact ⟨rfl, HB2.out⟩
    ·
      have d1 : decide (100 < ta.size) = false := by simpa using s1
      by_cases s2 : 100 < tb.size
      ·
        have d2 : decide (100 < tb.size) = true := by simpa using s2
        go_wp2_with fail
        refine (awake12_any _).mono ?_
        rintro e v2 ⟨rfl, hb⟩
        have HB2 := Lib.hid (HB1.out.trans (hb.mono HB1.out.size))
        clear hb HB1
        go_wp2_with fail
        go_ret
        exact ⟨rfl, HB2.out⟩
      ·
        have d2 : decide (100 < tb.size) = false := by simpa using s2
        go_wp2_with fail
        refine (lendK_any a l.length cap l _ (HR.out.below HB1.out rfl) (by omega)).mono ?_
        rintro e v2 ⟨rfl, hbk, hb⟩
        have HST0 : RowKit.Hid (GSt w v1.heap.size la ta lb tb l v2) := ⟨HB1.out.trans (hb.mono HB1.out.size), HA1.out.below hb HA1.out.lt, HC1.out.below hb HC1.out.lt, hbk⟩
        clear hb hbk x1 y1 HA1 HC1 HB1
        generalize v1.heap.size = gin at *
        have HGD := Lib.hid (fun W h => good_any (some ⟨gin, 0, none⟩) l.length (l.length + 3) l W h HS.out)
        have HRG := Lib.hid (fun W h => rgoodK_any a l.length cap l W h HS1.out)
        have HKP := Lib.hid (fun W h h2 => keptK_any gin a l.length cap l l W (by omega) h h2)
        have HLS := Lib.hid (fun W => kless_any la ta lb tb W)
        have HRL := Lib.hid (fun W => rkless_any la ta lb tb W (by omega) (by omega))
        have heq : eqKs l l = true := by simp [eqKs]
        rw [heq] at HKP
        clear heq
        generalize goodE l = gd at *
        generalize decide (cmpK la ta lb tb < 0) = bl at *
        have e1 : (gd == gd) = true := by simp
        have e2 : (bl == bl) = true := by simp
        have HST : RowKit.Hid (GSt w gin la ta lb tb l v2.drew) := GSt.next HST0.out (below_drewN (Below.refl v2.heap.size v2) 1)
        go_wp2_with fail
        go_region_held3 (fun w' => w'.cell? ⟨w.heap.size, 0, none⟩ = some (.int .i64 la) ∧ w'.cell? ⟨w.heap.size, 1, none⟩ = some (.string ta) ∧ w'.cell? ⟨w.heap.size + 1, 0, none⟩ = some (.int .i64 lb) ∧ w'.cell? ⟨w.heap.size + 1, 1, none⟩ = some (.string tb)) (exact HST.out.cells) (first | (go_at_call 30; refine (HGD.out _ (HST.out.rdk (by omega))).mono ?_; rintro e u ⟨rfl, hb⟩; have HSN := Lib.hid (HST.out.next hb); clear HST; have HST := HSN; clear HSN; clear hb)| (go_at_call 23; refine (num_any _ _).mono ?_; rintro e u ⟨rfl, rfl⟩)| (go_at_call 31; refine (HRG.out _ (HR.out.below HST.out.1 rfl)).mono ?_; rintro e u ⟨rfl, hb⟩; have HSN := Lib.hid (HST.out.next hb); clear HST; have HST := HSN; clear HSN; clear hb)| (go_at_call 32; refine (HKP.out _ HST.out.2.2.2 (HR.out.below HST.out.1 rfl)).mono ?_; rintro e u ⟨rfl, hd⟩; have HSN := Lib.hid (HST.out.next (hd.below _)); clear HST; have HST := HSN; clear HSN; clear hd)| (go_at_call 33; refine (HLS.out _).mono ?_; rintro e u ⟨rfl, hb⟩; have HSN := Lib.hid (HST.out.next hb); clear HST; have HST := HSN; clear HSN; clear hb)| (go_at_call 34; refine (HRL.out _).mono ?_; rintro e u ⟨rfl, hb⟩; have HSN := Lib.hid (HST.out.next hb); clear HST; have HST := HSN; clear HSN; clear hb)| (go_at_call 28; refine (awake12_any _).mono ?_; rintro e u ⟨rfl, hb⟩; have HSN := Lib.hid (HST.out.next hb); clear HST; have HST := HSN; clear HSN; clear hb))
        all_goals
          go_wp2_with fail
          go_ret
          exact ⟨rfl, HST.out.1⟩
end Go.Proofs.Ytnnkebhpmegkfaa
