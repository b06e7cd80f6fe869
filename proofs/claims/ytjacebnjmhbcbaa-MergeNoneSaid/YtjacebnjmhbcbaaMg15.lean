/- The walk of MergeNone. -/
import Derived.Test.YtjacebnjmhbcbaaMg14
namespace Go.Proofs.Ytjacebnjmhbcbaa
open Go.RowKit
set_option linter.unusedVariables false

set_option maxRecDepth 100000 in
set_option maxHeartbeats 2000000 in
theorem none_any (tl en : Bool) (sh sq : Int) (a : Option Addr) (n cap : Nat) (l : List KeyL) (w : World) (hr : RdE KeyL.cells 2 w a n cap l) (hs : ∀ x ∈ l, x.2.size ≤ maxLen) :
    Calls Try.prog 5 #[.agg #[.bool tl, .bool en, .int .i64 sh, .int .i64 sq, .slice a n cap]] w fun e w' => e = .returned (.bool true) ∧ Below w.heap.size w w' := by
  have HR := Lib.hid hr
  have HS := Lib.hid hs
  have hb0 : Below w.heap.size w (w.alloc (.cells #[.bool tl, .bool en, .int .i64 sh, .int .i64 sq, .slice a n cap] 46)) := (Below.refl _ _).alloc (Nat.le_refl _) _
  have hbk : Blk (w.alloc (.cells #[.bool tl, .bool en, .int .i64 sh, .int .i64 sq, .slice a n cap] 46)) w.heap.size 46 [.bool tl, .bool en, .int .i64 sh, .int .i64 sq, .slice a n cap] := heap_alloc_new w _
  have c1 := (hbk.cell 1).trans (show _ = some (.bool en) from rfl)
  have c2 := (hbk.cell 2).trans (show _ = some (.int .i64 sh) from rfl)
  have c3 := (hbk.cell 3).trans (show _ = some (.int .i64 sq) from rfl)
  have c4 := (hbk.cell 4).trans (show _ = some (.slice a n cap) from rfl)
  have hlt := hbk.lt
  have HB0 := Lib.hid hb0
  clear hr hs hb0 hbk
  go_enter Try.func5, Try.ntmps5
  go_wp2_with fail
  refine (greatI_any a n cap l _ (HR.out.below HB0.out rfl) HS.out).mono ?_
  rintro e w' ⟨rfl, rfl⟩
  generalize w.alloc (.cells #[.bool tl, .bool en, .int .i64 sh, .int .i64 sq, .slice a n cap] 46) = w1 at *
  cases hg : greatI l with
  | true =>
    clear hg HR HS
    go_wp2_with fail
    refine (awake_any _).mono ?_
    rintro e w2 ⟨rfl, hb⟩
    have HB := Lib.hid (HB0.out.trans (hb.mono HB0.out.size))
    clear hb HB0
    go_wp2_with fail
    go_ret
    exact ⟨rfl, HB.out⟩
  | false =>
    clear hg HR HS
    go_wp2_with fail
    refine (after_nil sh _).mono ?_
    rintro e w2 ⟨rfl, hb⟩
    have d1 := (hb.cell (p := ⟨w.heap.size, 1, none⟩) hlt).trans c1
    have d2 := (hb.cell (p := ⟨w.heap.size, 2, none⟩) hlt).trans c2
    have d3 := (hb.cell (p := ⟨w.heap.size, 3, none⟩) hlt).trans c3
    have d4 := (hb.cell (p := ⟨w.heap.size, 4, none⟩) hlt).trans c4
    have HB := Lib.hid (HB0.out.trans (hb.mono HB0.out.size))
    have hl2 : w.heap.size < w2.heap.size := Nat.lt_of_lt_of_le hlt hb.size
    clear hb HB0 c1 c2 c3 c4 hlt
    have hb3 : Below w.heap.size w (w2.alloc (.cells #[.int .i64 0, .string ⟨#[]⟩] 31)) := HB.out.alloc HB.out.size _
    have hbk : Blk (w2.alloc (.cells #[.int .i64 0, .string ⟨#[]⟩] 31)) w2.heap.size 31 [.int .i64 0, .string ⟨#[]⟩] := heap_alloc_new w2 _
    have x0 := (hbk.cell 0).trans (show _ = some (.int .i64 0) from rfl)
    have x1 := (hbk.cell 1).trans (show _ = some (.string ⟨#[]⟩) from rfl)
    have HB3 := Lib.hid hb3
    clear hb3 hbk HB
    go_wp2_with fail
    refine (put_nil sh sq a n cap en _).mono ?_
    rintro e w' ⟨rfl, rfl⟩
    go_wp2_with fail
    refine (tell_nil _).mono ?_
    rintro e w' ⟨rfl, rfl⟩
    go_wp2_with fail
    refine (wants_nil _).mono ?_
    rintro e w' ⟨rfl, rfl⟩
    go_wp2_with fail
    refine (seq_nil sh _).mono ?_
    rintro e w' ⟨rfl, rfl⟩
    have hq : ∀ W : World, (binOp .eql 31 (.agg #[.int .i64 0, .string ⟨#[]⟩]) (.agg #[.int .i64 0, .string ⟨#[]⟩])).run Try.prog W = .ok (.bool true) W := fun W => by kernel_rfl
    go_wp2_with fail
    refine (done_nil _).mono ?_
    rintro e w' ⟨rfl, rfl⟩
    go_wp2_with fail
    refine (told_nil _).mono ?_
    rintro e w' ⟨rfl, rfl⟩
    go_wp2_with fail
    refine (awake_any _).mono ?_
    rintro e w4 ⟨rfl, hb⟩
    have HB4 := Lib.hid (HB3.out.trans (hb.mono HB3.out.size))
    clear hb HB3
    go_wp2_with fail
    go_ret
    exact ⟨rfl, HB4.out⟩
end Go.Proofs.Ytjacebnjmhbcbaa
