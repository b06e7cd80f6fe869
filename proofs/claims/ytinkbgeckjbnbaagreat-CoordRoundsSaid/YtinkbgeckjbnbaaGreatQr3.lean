/- Lemmas for the law (part 3): Mg0, Mg1, Mg2, Mg3, Mg4, Mg5, Mg6, Mg7, Mg7b, Mg9, Mg10, Mg13, Co4 -/
import Derived.Test.YtinkbgeckjbnbaaGreatQr2
namespace Go.Proofs.YtinkbgeckjbnbaaGreat
section
open Go.RowKit
set_option linter.unusedVariables false

/-- a shard, plainly -/
structure PS where
  least : Int
  seq : Int
  ended : Bool
  heard : Bool
  last : KeyL
  waits : List KeyL
def PS.wanted (s : PS) : Bool := !s.ended && decide (s.waits.length = 0)
def PS.might (s : PS) (x : KeyL) : Bool := if s.wanted = false then false else if s.heard = true then kless s.last x else decide (s.least ≤ x.1)
def PS.open_ (s : PS) : Bool := !s.ended || decide (0 < s.waits.length)
def doneP (n : Int) (S : List PS) (T : List KeyL) : Bool := decide ((T.length : Int) = n) || !(S.any PS.open_)
def headP (s : PS) : KeyL := s.waits.headD (0, ⟨#[]⟩)
/-- the first of those whose head is ahead of all others, of the first i shards -/
def aheadP (S : List PS) : Nat → Option Nat
  | 0 => none
  | i + 1 => match S[i]?, aheadP S i with
    | none, r => r
    | some s, none => if s.waits.length = 0 then none else some i
    | some s, some b => if s.waits.length = 0 then some b else match S[b]? with
      | none => some b
      | some t => if kless (headP s) (headP t) = true then some i else some b
/-- those that are wanted, of the first k shards -/
def wantK (S : List PS) (k : Nat) : List Int := ((List.range k).filter fun i => match S[i]? with | some s => s.wanted | none => false).map fun i : Nat => (i : Int)
def wantsP (n : Int) (S : List PS) (T : List KeyL) : List Int := if doneP n S T = true then [] else wantK S S.length
/-- a shard as it lies -/
structure MS where
  least : Int
  seq : Int
  ended : Bool
  heard : Bool
  last : KeyL
  wa : Option Addr
  wn : Nat
  wc : Nat
def MS.cells (s : MS) : List Value := [.int .i64 s.least, .int .i64 s.seq, .bool s.ended, .bool s.heard, .int .i64 s.last.1, .string s.last.2, .slice s.wa s.wn s.wc]
set_option maxRecDepth 100000 in
theorem MS.clen (s : MS) : s.cells.length = 7 := rfl
/-- m is s, its waits lie from block B on, not in block toV -/
structure ShOK (B : Nat) (W : World) (toV : Option Nat) (m : MS) (s : PS) : Prop where
  least : m.least = s.least
  seq : m.seq = s.seq
  ended : m.ended = s.ended
  heard : m.heard = s.heard
  last : m.last = s.last
  waits : RdE KeyL.cells 2 W m.wa m.wn m.wc s.waits
  base : ∀ b o sp, m.wa = some ⟨b, o, sp⟩ → B ≤ b
  apart : ∀ b o sp, m.wa = some ⟨b, o, sp⟩ → toV ≠ some b
  small : s.waits.length ≤ 5
  ty : ∀ b o sp, m.wa = some ⟨b, o, sp⟩ → ∃ cs, Blk W b 46 cs
set_option maxRecDepth 100000 in
theorem ShOK.wlen {B : Nat} {W : World} {toV : Option Nat} {m : MS} {s : PS} (h : ShOK B W toV m s) : m.wn = s.waits.length := h.waits.1.symm
/-- a Merge at p: n wanted, shards S, told T -/
def MG (B : Nat) (W : World) (p : Nat) (n : Int) (S : List PS) (T : List KeyL) : Prop :=
  ∃ (gs c : Nat) (M : List MS) (sp : List Value) (ta : Option Addr) (tc : Nat),
    Blk W p 233 [.int .i64 n, .slice (some ⟨gs, 0, none⟩) S.length c, .slice ta T.length tc] ∧ Blk W gs 235 (M.flatMap MS.cells ++ sp) ∧ S.length ≤ c ∧ c ≤ maxLen ∧
    W.ownsRow B 46 2 (.slice ta T.length tc) T.length (T.flatMap KeyL.cells) ∧ M.length = S.length ∧ (∀ (i : Nat) (m : MS) (s : PS), M[i]? = some m → S[i]? = some s → ShOK B W (Value.slice ta T.length tc).ownBlock m s) ∧ B ≤ p ∧ B ≤ gs ∧ S.length ≤ 6 ∧ T.length ≤ 10 ∧ 1 ≤ n ∧ n ≤ 10
set_option maxRecDepth 100000 in
theorem RdE.frm {α : Type} {enc : α → List Value} {size : Nat} {S : Nat → Prop} {w w' : World} {a : Option Addr} {n c : Nat} {l : List α} (h : RdE enc size w a n c l) (hf : Frm S w w') (hs : ∀ b o sp, a = some ⟨b, o, sp⟩ → ¬ S b) : RdE enc size w' a n c l := by
  obtain ⟨h1, h2, h3, h4, h5⟩ := h
  refine ⟨h1, h2, h3, h4, fun i x hx => ?_⟩
  obtain ⟨b, off, e, hb, hc⟩ := h5 i x hx
  exact ⟨b, off, e, Nat.lt_of_lt_of_le hb hf.size, fun j hj => by rw [World.cell?_of_block (w := w) (hf.block b hb (hs b off none e))]; exact hc j hj⟩
set_option maxRecDepth 100000 in
theorem ShOK.frm {B : Nat} {S : Nat → Prop} {W W' : World} {toV : Option Nat} {m : MS} {s : PS} (h : ShOK B W toV m s) (hf : Frm S W W') (hs : ∀ b o sp, m.wa = some ⟨b, o, sp⟩ → ¬ S b) : ShOK B W' toV m s :=
  ⟨h.least, h.seq, h.ended, h.heard, h.last, h.waits.frm hf hs, h.base, h.apart, h.small, fun b o sp e => by
    obtain ⟨cs, hb⟩ := h.ty b o sp e
    exact ⟨cs, hb.frm hf (hs b o sp e)⟩⟩
set_option maxRecDepth 100000 in
theorem MG.frm {B : Nat} {X : Nat → Prop} {W W' : World} {p : Nat} {n : Int} {S : List PS} {T : List KeyL} (h : MG B W p n S T) (hf : Frm X W W') (hx : ∀ k, X k → B ≤ k → ∃ t cs, Blk W k t cs ∧ t ≠ 233 ∧ t ≠ 235 ∧ t ≠ 46) : MG B W' p n S T := by
  obtain ⟨gs, c, M, sp, ta, tc, h1, h2, h3, h4, h5, h6, h7, h8, h9, h10⟩ := h
  refine ⟨gs, c, M, sp, ta, tc, h1.frm hf (fun e => ?_), h2.frm hf (fun e => ?_), h3, h4, ownsRow_frm h5 hf (fun k hk e => ?_), h6, fun i m s hm hs => (h7 i m s hm hs).frm hf (fun b o sp e hX => ?_), h8, h9, h10⟩
  · obtain ⟨t, cs, hb, n1, n2, n3⟩ := hx p e h8
    exact blk_ne hb h1 n1 rfl
  · obtain ⟨t, cs, hb, n1, n2, n3⟩ := hx gs e h9
    exact blk_ne hb h2 n2 rfl
  · obtain ⟨t, cs, hb, n1, n2, n3⟩ := hx k e (h5.lt k hk).1
    exact ownsRow_ne h5 hb n3 k hk rfl
  · obtain ⟨t, cs, hb, n1, n2, n3⟩ := hx b hX ((h7 i m s hm hs).base b o sp e)
    obtain ⟨cs2, hb2⟩ := (h7 i m s hm hs).ty b o sp e
    exact blk_ne hb hb2 n3 rfl
set_option maxRecDepth 100000 in
theorem MG.below {B : Nat} {W W' : World} {p : Nat} {n : Int} {S : List PS} {T : List KeyL} (h : MG B W p n S T) (hb : Below W.heap.size W W') : MG B W' p n S T :=
  h.frm (Frm.below (S := fun _ => False) hb) (fun _ h => h.elim)
/-- a shard's cells -/
def ShAt (W : World) (g o : Nat) (m : MS) : Prop := ∀ j v, m.cells[j]? = some v → W.cell? ⟨g, o + j, none⟩ = some v
set_option maxRecDepth 100000 in
theorem ShAt.of_row {W : World} {g : Nat} {M : List MS} {sp : List Value} (h : Blk W g 235 (M.flatMap MS.cells ++ sp)) {i : Nat} {m : MS} (hi : M[i]? = some m) : ShAt W g (i * 7) m := by
  intro j v hv
  have hj : j < 7 := (List.getElem?_eq_some_iff.1 hv).1
  rw [h.cell, flat_get MS.cells 7 MS.clen M sp i m j hi hj, hv]
set_option maxRecDepth 100000 in
theorem ShAt.c2 {W : World} {g o : Nat} {m : MS} (h : ShAt W g o m) : W.cell? ⟨g, o, none⟩ = some (.int .i64 m.least) ∧ W.cell? ⟨g, o + 1, none⟩ = some (.int .i64 m.seq) ∧ W.cell? ⟨g, o + 2, none⟩ = some (.bool m.ended) ∧ W.cell? ⟨g, o + 3, none⟩ = some (.bool m.heard) ∧ W.cell? ⟨g, o + 4, none⟩ = some (.int .i64 m.last.1) ∧ W.cell? ⟨g, o + 5, none⟩ = some (.string m.last.2) ∧ W.cell? ⟨g, o + 6, none⟩ = some (.slice m.wa m.wn m.wc) :=
  ⟨h 0 _ rfl, h 1 _ rfl, h 2 _ rfl, h 3 _ rfl, h 4 _ rfl, h 5 _ rfl, h 6 _ rfl⟩
set_option maxRecDepth 100000 in
/-- what the calls read of a Merge -/
theorem MG.read {B : Nat} {W : World} {p : Nat} {n : Int} {S : List PS} {T : List KeyL} (h : MG B W p n S T) : ∃ (gs c : Nat) (M : List MS) (ta : Option Addr) (tc : Nat), W.cell? ⟨p, 0, none⟩ = some (.int .i64 n) ∧ W.cell? ⟨p, 1, none⟩ = some (.slice (some ⟨gs, 0, none⟩) S.length c) ∧ W.cell? ⟨p, 2, none⟩ = some (.slice ta T.length tc) ∧ M.length = S.length ∧ (∀ (i : Nat) (m : MS), M[i]? = some m → ShAt W gs (i * 7) m) ∧ (∀ (i : Nat) (m : MS) (s : PS), M[i]? = some m → S[i]? = some s → ShOK B W (Value.slice ta T.length tc).ownBlock m s) ∧ RdE KeyL.cells 2 W ta T.length tc T ∧ p < W.heap.size ∧ gs < W.heap.size ∧ S.length ≤ c := by
  obtain ⟨gs, c, M, sp, ta, tc, h1, h2, h3, h4, h5, h6, h7, h8, h9, h10⟩ := h
  exact ⟨gs, c, M, ta, tc, by rw [h1.cell]; rfl, by rw [h1.cell]; rfl, by rw [h1.cell]; rfl, h6, fun i m hm => ShAt.of_row h2 hm, h7, ownsRow_rdE (enc := KeyL.cells) (fun _ => rfl) rfl h5, h1.lt, h2.lt, h3⟩
set_option maxRecDepth 100000 in
theorem MG.bd {B : Nat} {W : World} {p : Nat} {n : Int} {S : List PS} {T : List KeyL} (h : MG B W p n S T) : S.length ≤ 6 ∧ T.length ≤ 10 ∧ 1 ≤ n ∧ n ≤ 10 := by
  obtain ⟨gs, c, M, sp, ta, tc, h1, h2, h3, h4, h5, h6, h7, h8, h9, h10⟩ := h; exact h10
/- the walks of wanted, get -/
set_option maxRecDepth 100000 in
theorem wanted_at (g o : Nat) (m : MS) (w : World) (h : ShAt w g o m) : Calls Tryz.prog 115 #[.pointer (some ⟨g, o, none⟩)] w fun e w' => e = .returned (.bool (!m.ended && decide (m.wn = 0))) ∧ w = w' := by
  obtain ⟨_, _, h2, _, _, _, h6⟩ := h.c2
  clear h
  cases he : m.ended with
  | true =>
    rw [he] at h2
    clear he
    go_enter Tryz.func115, Tryz.ntmps115
    go_wp2_with fail
    go_ret
    exact ⟨rfl, rfl⟩
  | false =>
    rw [he] at h2
    clear he
    by_cases h0 : m.wn = 0
    · rw [h0] at h6
      rw [decide_eq_true h0]
      clear h0
      go_enter Tryz.func115, Tryz.ntmps115
      go_wp2_with fail
      go_ret
      exact ⟨rfl, rfl⟩
    · rw [decide_eq_false h0]
      have d1 : ((m.wn : Int) == 0) = false := by rw [beq_eq_false_iff_ne]; omega
      clear h0
      go_enter Tryz.func115, Tryz.ntmps115
      go_wp2_with fail
      go_ret
      exact ⟨rfl, rfl⟩
set_option maxRecDepth 100000 in
theorem mget_no (p gs n c : Nat) (i : Int) (w : World) (h : w.cell? ⟨p, 1, none⟩ = some (.slice (some ⟨gs, 0, none⟩) n c)) (hi : i < 0 ∨ (n : Int) ≤ i) : Calls Tryz.prog 163 #[.pointer (some ⟨p, 0, none⟩), .int .i64 i] w fun e w' => e = .returned (.pointer none) ∧ w = w' := by
  have hq1 : ∀ W : World, (binOp .eql 133 (.pointer (some ⟨p, 0, none⟩)) (.pointer none)).run Tryz.prog W = .ok (.bool false) W := fun W => by kernel_rfl
  by_cases h0 : i < 0
  · clear hi
    go_enter Tryz.func163, Tryz.ntmps163
    go_wp2_with fail
    go_ret
    exact ⟨rfl, rfl⟩
  · have h1 : 0 ≤ i := by omega
    have h2 : (n : Int) ≤ i := by omega
    clear hi h0
    go_enter Tryz.func163, Tryz.ntmps163
    go_wp2_with fail
    go_ret
    exact ⟨rfl, rfl⟩
set_option maxRecDepth 100000 in
theorem mget_yes (p gs n c i : Nat) (w : World) (h : w.cell? ⟨p, 1, none⟩ = some (.slice (some ⟨gs, 0, none⟩) n c)) (hi : i < n) : Calls Tryz.prog 163 #[.pointer (some ⟨p, 0, none⟩), .int .i64 i] w fun e w' => e = .returned (.pointer (some ⟨gs, i * 7, none⟩)) ∧ w = w' := by
  have hq1 : ∀ W : World, (binOp .eql 133 (.pointer (some ⟨p, 0, none⟩)) (.pointer none)).run Tryz.prog W = .ok (.bool false) W := fun W => by kernel_rfl
  have h1 : (0 : Int) ≤ (i : Int) := by omega
  have h2 : (i : Int) < (n : Int) := by omega
  go_enter Tryz.func163, Tryz.ntmps163
  go_wp2_with fail
  go_ret
  exact ⟨rfl, rfl⟩
end
end Go.Proofs.YtinkbgeckjbnbaaGreat
namespace Go.Proofs.YtinkbgeckjbnbaaGreat
section
open Go.RowKit
set_option linter.unusedVariables false

set_option maxRecDepth 100000 in
theorem ShAt.below {W W' : World} {g o : Nat} {m : MS} (h : ShAt W g o m) (hb : Below W.heap.size W W') (hg : g < W.heap.size) : ShAt W' g o m := fun j v hv => (hb.cell (p := ⟨g, o + j, none⟩) hg).trans (h j v hv)
def MS.wanted (m : MS) : Bool := !m.ended && decide (m.wn = 0)
def MS.might (m : MS) (x : KeyL) : Bool := if m.wanted = false then false else if m.heard = true then kless m.last x else decide (m.least ≤ x.1)
def MS.open_ (m : MS) : Bool := !m.ended || decide (0 < m.wn)
set_option maxRecDepth 100000 in
theorem ShOK.wanted {B : Nat} {W : World} {toV : Option Nat} {m : MS} {s : PS} (h : ShOK B W toV m s) : m.wanted = s.wanted := by unfold MS.wanted PS.wanted; rw [h.ended, h.wlen]
set_option maxRecDepth 100000 in
theorem ShOK.might {B : Nat} {W : World} {toV : Option Nat} {m : MS} {s : PS} (h : ShOK B W toV m s) (x : KeyL) : m.might x = s.might x := by unfold MS.might PS.might; rw [h.wanted, h.heard, h.last, h.least]
set_option maxRecDepth 100000 in
theorem ShOK.open_ {B : Nat} {W : World} {toV : Option Nat} {m : MS} {s : PS} (h : ShOK B W toV m s) : m.open_ = s.open_ := by unfold MS.open_ PS.open_; rw [h.ended, h.wlen]
set_option maxRecDepth 100000 in
theorem wanted_any (g o : Nat) (m : MS) (w : World) (h : ShAt w g o m) : Calls Tryz.prog 115 #[.pointer (some ⟨g, o, none⟩)] w fun e w' => e = .returned (.bool m.wanted) ∧ w = w' := wanted_at g o m w h
set_option maxRecDepth 100000 in
theorem itless (a b : KeyL) (w : World) : Calls Tryz.prog 88 #[.agg #[.int .i64 a.1, .string a.2], .agg #[.int .i64 b.1, .string b.2]] w fun e w' => e = .returned (.bool (kless a b)) ∧ Below w.heap.size w w' := itless_any a.1 a.2 b.1 b.2 w
set_option maxRecDepth 100000 in
set_option maxHeartbeats 1000000 in
theorem might_any (g o : Nat) (m : MS) (x : KeyL) (w : World) (h : ShAt w g o m) (hg : g < w.heap.size) :
    Calls Tryz.prog 169 #[.pointer (some ⟨g, o, none⟩), .agg #[.int .i64 x.1, .string x.2]] w fun e w' => e = .returned (.bool (m.might x)) ∧ Below w.heap.size w w' := by
  have hb0 : Below w.heap.size w (w.alloc (.cells #[.int .i64 x.1, .string x.2] 46)) := (Below.refl _ _).alloc (Nat.le_refl _) _
  have h1 := h.below hb0 hg
  have hx : Blk (w.alloc (.cells #[.int .i64 x.1, .string x.2] 46)) w.heap.size 46 [.int .i64 x.1, .string x.2] := heap_alloc_new w _
  have x0 := hx.cell 0
  have x1 := hx.cell 1
  rw [show ([.int .i64 x.1, .string x.2] : List Value)[0]? = some (.int .i64 x.1) from rfl] at x0
  rw [show ([.int .i64 x.1, .string x.2] : List Value)[1]? = some (.string x.2) from rfl] at x1
  have HB0 := Lib.hid hb0
  have HA := Lib.hid h1
  obtain ⟨s0, _, _, s3, s4, s5, _⟩ := h1.c2
  have HL := Lib.hid (itless m.last x)
  clear h hx h1 hb0
  unfold MS.might
  cases hwt : m.wanted with
  | false =>
    rw [if_pos rfl]
    go_enter Tryz.func169, Tryz.ntmps169
    go_wp2_with fail
    refine (wanted_any g o m _ HA.out).mono ?_
    rintro e w' ⟨rfl, rfl⟩
    rw [hwt]
    clear hwt
    go_wp2_with fail
    go_ret
    exact ⟨rfl, HB0.out⟩
  | true =>
    rw [if_neg (by simp)]
    have HWT := Lib.hid hwt
    clear hwt
    cases hh : m.heard with
    | true =>
      rw [if_pos rfl]
      rw [hh] at s3
      clear hh
      go_enter Tryz.func169, Tryz.ntmps169
      go_wp2_with fail
      refine (wanted_any g o m _ HA.out).mono ?_
      rintro e w' ⟨rfl, rfl⟩
      rw [HWT.out]
      go_wp2_with fail
      have hg1 : g < (w.alloc (.cells #[.int .i64 x.1, .string x.2] 46)).heap.size := cell?_lt s4
      have hx1 : w.heap.size < (w.alloc (.cells #[.int .i64 x.1, .string x.2] 46)).heap.size := by simp
      generalize w.alloc (.cells #[.int .i64 x.1, .string x.2] 46) = w1 at *
      have HGB : RowKit.Hid (Below w1.heap.size w1 w1.drew) := below_drewN (Below.refl _ _) 1
      have HS := Lib.hid (And.intro s4 (And.intro s5 (And.intro x0 x1)))
      clear s4 s5 x0 x1 s0 s3
      go_region_held3 (fun w' => w'.cell? ⟨g, o + 4, none⟩ = some (.int .i64 m.last.1) ∧ w'.cell? ⟨g, o + 5, none⟩ = some (.string m.last.2) ∧ w'.cell? ⟨w.heap.size, 0, none⟩ = some (.int .i64 x.1) ∧ w'.cell? ⟨w.heap.size, 1, none⟩ = some (.string x.2)) (exact ⟨(HGB.out.cell (p := ⟨g, o + 4, none⟩) hg1).trans HS.out.1, (HGB.out.cell (p := ⟨g, o + 5, none⟩) hg1).trans HS.out.2.1, (HGB.out.cell (p := ⟨w.heap.size, 0, none⟩) hx1).trans HS.out.2.2.1, (HGB.out.cell (p := ⟨w.heap.size, 1, none⟩) hx1).trans HS.out.2.2.2⟩) (first | (go_at_call 88; refine (HL.out _).mono ?_; rintro e u ⟨rfl, hb⟩; have HSN := Lib.hid (HGB.out.trans (hb.mono HGB.out.size)); clear HGB; have HGB := HSN; clear HSN; clear hb))
      all_goals
        go_wp2_with fail
        go_ret
        exact ⟨rfl, HB0.out.trans (HGB.out.mono HB0.out.size)⟩
    | false =>
      rw [if_neg (by simp)]
      rw [hh] at s3
      clear hh
      cases hd : decide (m.least ≤ x.1) with
      | true =>
        have d1 : m.least ≤ x.1 := by simpa using hd
        go_enter Tryz.func169, Tryz.ntmps169
        go_wp2_with fail
        refine (wanted_any g o m _ HA.out).mono ?_
        rintro e w' ⟨rfl, rfl⟩
        rw [HWT.out]
        go_wp2_with fail
        go_quiet (fail)
        go_wp2_with fail
        go_ret
        exact ⟨rfl, below_drewN HB0.out _⟩
      | false =>
        have d1 : x.1 < m.least := by simpa using hd
        go_enter Tryz.func169, Tryz.ntmps169
        go_wp2_with fail
        refine (wanted_any g o m _ HA.out).mono ?_
        rintro e w' ⟨rfl, rfl⟩
        rw [HWT.out]
        go_wp2_with fail
        go_quiet (fail)
        go_wp2_with fail
        go_ret
        exact ⟨rfl, below_drewN HB0.out _⟩
end
end Go.Proofs.YtinkbgeckjbnbaaGreat
namespace Go.Proofs.YtinkbgeckjbnbaaGreat
section
open Go.RowKit
set_option linter.unusedVariables false

set_option maxRecDepth 100000 in
theorem done1_any (m : MS) (w : World) : Calls Tryz.prog 170 #[(.agg #[.int .i64 m.least, .int .i64 m.seq, .bool m.ended, .bool m.heard, .int .i64 m.last.1, .string m.last.2, .slice m.wa m.wn m.wc])] w fun e w' => e = .returned (.bool m.open_) ∧ Below w.heap.size w w' := by
  unfold MS.open_
  cases he : m.ended with
  | false =>
    go_enter Tryz.func170, Tryz.ntmps170
    go_wp2_with fail
    go_ret
    exact ⟨rfl, (Below.refl _ _).alloc (Nat.le_refl _) _⟩
  | true =>
    by_cases h0 : 0 < m.wn
    · rw [decide_eq_true h0]
      have d1 : (0 : Int) < (m.wn : Int) := by omega
      go_enter Tryz.func170, Tryz.ntmps170
      go_wp2_with fail
      go_ret
      exact ⟨rfl, (Below.refl _ _).alloc (Nat.le_refl _) _⟩
    · have h1 : m.wn = 0 := by omega
      rw [h1, decide_eq_false (by omega)]
      clear h0 h1
      go_enter Tryz.func170, Tryz.ntmps170
      go_wp2_with fail
      go_ret
      exact ⟨rfl, (Below.refl _ _).alloc (Nat.le_refl _) _⟩
/-- what Tell's closure reads: its variable b holds a pointer toV shard at (g, o), whose first item is x -/
def TlAt (w : World) (b g o : Nat) (x : KeyL) : Prop := ∃ (wb wo k c : Nat), w.cell? ⟨b, 0, none⟩ = some (.pointer (some ⟨g, o, none⟩)) ∧ w.cell? ⟨g, o + 6, none⟩ = some (.slice (some ⟨wb, wo, none⟩) (k + 1 : Nat) c) ∧ w.cell? ⟨wb, wo, none⟩ = some (.int .i64 x.1) ∧ w.cell? ⟨wb, wo + 1, none⟩ = some (.string x.2)
set_option maxRecDepth 100000 in
theorem TlAt.below {w w' : World} {b g o : Nat} {x : KeyL} (h : TlAt w b g o x) (hb : Below w.heap.size w w') : TlAt w' b g o x := by
  obtain ⟨wb, wo, k, c, h1, h2, h3, h4⟩ := h
  exact ⟨wb, wo, k, c, (hb.cell (p := ⟨b, 0, none⟩) (cell?_lt h1)).trans h1, (hb.cell (p := ⟨g, o + 6, none⟩) (cell?_lt h2)).trans h2, (hb.cell (p := ⟨wb, wo, none⟩) (cell?_lt h3)).trans h3, (hb.cell (p := ⟨wb, wo + 1, none⟩) (cell?_lt h4)).trans h4⟩
set_option maxRecDepth 100000 in
set_option maxHeartbeats 1000000 in
theorem tell1_any (m : MS) (b g o : Nat) (x : KeyL) (w : World) (h : TlAt w b g o x) : Calls Tryz.prog 168 #[(.agg #[.int .i64 m.least, .int .i64 m.seq, .bool m.ended, .bool m.heard, .int .i64 m.last.1, .string m.last.2, .slice m.wa m.wn m.wc]), .pointer (some ⟨b, 0, none⟩)] w fun e w' => e = .returned (.bool (m.might x)) ∧ Below w.heap.size w w' := by
  have hb0 : Below w.heap.size w (w.alloc (.cells m.cells.toArray 235)) := (Below.refl _ _).alloc (Nat.le_refl _) _
  obtain ⟨wb, wo, k, c, h1, h2, h3, h4⟩ := h.below hb0
  have hx : Blk (w.alloc (.cells m.cells.toArray 235)) w.heap.size 235 m.cells := heap_alloc_new w _
  have HA := Lib.hid (show ShAt (w.alloc (.cells m.cells.toArray 235)) w.heap.size 0 m from fun j v hv => by rw [Nat.zero_add, hx.cell]; exact hv)
  have hl : w.heap.size < (w.alloc (.cells m.cells.toArray 235)).heap.size := by simp
  have HB0 := Lib.hid hb0
  clear h hx hb0
  unfold MS.cells at *
  go_enter Tryz.func168, Tryz.ntmps168
  go_wp2_with fail
  refine (might_any w.heap.size 0 m x _ HA.out hl).mono ?_
  rintro e w1 ⟨rfl, hb⟩
  have HB1 := Lib.hid (HB0.out.trans (hb.mono HB0.out.size))
  clear hb
  go_wp2_with fail
  go_ret
  exact ⟨rfl, HB1.out⟩

def opnR (M : List MS) (P : MS → Bool) (w : World) (v : Value) (wr : World) : Prop := ∃ k : Nat, k ≤ M.length ∧ v = .int .i64 k ∧ RowKit.Hid (∀ j m, j < k → M[j]? = some m → P m = false) ∧ RowKit.Hid (Below w.heap.size w wr)
set_option maxRecDepth 100000 in
set_option maxHeartbeats 2000000 in
theorem opn_ix (gs c : Nat) (M : List MS) (w : World) (hM : ∀ (i : Nat) (m : MS), M[i]? = some m → ShAt w gs (i * 7) m) (hg : gs < w.heap.size) (hl : M.length ≤ 6) :
    Calls Tryz.prog 200 #[.slice (some ⟨gs, 0, none⟩) M.length c, (.func (Fn.func 170) #[] #[])] w fun e w' => ∃ r : Int, e = .returned (.int .i64 r) ∧ (decide (0 ≤ r) = M.any (fun m => m.open_)) ∧ Below w.heap.size w w' := by
  have HM := Lib.hid hM
  clear hM
  obtain ⟨n, hn⟩ : ∃ n, M.length = n := ⟨_, rfl⟩
  rw [hn] at hl ⊢
  have HN := Lib.hid hn
  clear hn
  go_enter Tryz.func200, Tryz.ntmps200
  go_wp2_with fail
  go_loopw [8] (fun v wr => opnR M (fun m => m.open_) w v wr) (fun v _ => n - (intOf v).toNat)
  case atStart => exact ⟨0, Nat.zero_le _, rfl, (fun j m hj => by omega), Below.refl _ _⟩
  case round =>
    obtain ⟨k, hk, rfl, HJ, HB⟩ := hrel
    rw [HN.out] at hk
    by_cases hlt : k < n
    · have hx : M[k]? = some (M[k]'(by rw [HN.out]; exact hlt)) := List.getElem?_eq_getElem _
      obtain ⟨m, hm⟩ : ∃ m, M[k]'(by rw [HN.out]; exact hlt) = m := ⟨_, rfl⟩
      rw [hm] at hx
      obtain ⟨s0, s1, s2, s3, s4, s5, s6⟩ := ((HM.out k m hx).below HB.out hg).c2
      have HX := Lib.hid hx
      clear hx hm
      have k1 : (0 : Int) ≤ (k : Int) := by omega
      have k2 : (k : Int) < (n : Int) := by omega
      go_wp2_with fail
      refine (done1_any m _).mono ?_
      rintro e w2 ⟨rfl, hb2⟩
      have HB2 := Lib.hid (HB.out.trans (hb2.mono HB.out.size))
      clear hb2 s0 s1 s2 s3 s4 s5 s6
      cases hp : m.open_ with
      | true =>
        have HA : RowKit.Hid (M.any (fun m => m.open_) = true) := List.any_eq_true.2 ⟨m, List.mem_of_getElem? HX.out, hp⟩
        clear hp HJ
        go_wp2_with fail
        go_ret
        exact ⟨_, rfl, by rw [HA.out]; simp, HB2.out⟩
      | false =>
        have HJ2 : RowKit.Hid (∀ j m, j < k + 1 → M[j]? = some m → m.open_ = false) := by
          intro j m' hj hm'
          rcases (by omega : j < k ∨ j = k) with h | h
          · exact HJ.out j m' h hm'
          · subst h; rw [HX.out] at hm'; cases hm'; exact hp
        clear hp HJ
        go_wp2_with fail
        go_roundw
        case rel => exact ⟨k + 1, by rw [HN.out]; omega, by go_num, HJ2.out, HB2.out⟩
        case measure => simp [intOf]; omega
    · have hkn : k = n := by omega
      have HA : RowKit.Hid (M.any (fun m => m.open_) = false) := by
        unfold RowKit.Hid
        rw [List.any_eq_false]
        intro m hm
        obtain ⟨j, hj, e⟩ := List.mem_iff_getElem.1 hm
        have := HJ.out j m (by rw [hkn, ← HN.out]; exact hj) (by rw [← e]; exact List.getElem?_eq_getElem hj)
        simp [this]
      subst hkn
      clear HJ hlt
      go_wp2_with fail
      go_ret
      exact ⟨-1, rfl, by rw [HA.out]; simp, HB.out⟩
set_option maxRecDepth 100000 in
theorem opn_any (gs c : Nat) (M : List MS) (w : World) (hM : ∀ (i : Nat) (m : MS), M[i]? = some m → ShAt w gs (i * 7) m) (hg : gs < w.heap.size) (hl : M.length ≤ 6) :
    Calls Tryz.prog 167 #[.slice (some ⟨gs, 0, none⟩) M.length c, (.func (Fn.func 170) #[] #[])] w fun e w' => e = .returned (.bool (M.any (fun m => m.open_))) ∧ Below w.heap.size w w' := by
  have HC := Lib.hid (opn_ix gs c M  w hM hg hl )
  clear hM
  obtain ⟨R, hR⟩ : ∃ R, M.any (fun m => m.open_) = R := ⟨_, rfl⟩
  rw [hR] at HC ⊢
  clear hR
  go_enter Tryz.func167, Tryz.ntmps167
  go_wp2_with fail
  refine HC.out.mono ?_
  rintro e w' ⟨r, rfl, hr, hb⟩
  have HB := Lib.hid hb
  clear hb
  cases R with
  | true =>
    have h0 : 0 ≤ r := by simpa using hr
    clear hr HC
    go_wp2_with fail
    go_ret
    exact ⟨rfl, HB.out⟩
  | false =>
    have h0 : r < 0 := by simpa using hr
    have d0 : decide (0 ≤ r) = false := hr
    clear hr HC
    go_wp2_with fail
    go_ret
    exact ⟨rfl, HB.out⟩

def migR (M : List MS) (P : MS → Bool) (w : World) (v : Value) (wr : World) : Prop := ∃ k : Nat, k ≤ M.length ∧ v = .int .i64 k ∧ RowKit.Hid (∀ j m, j < k → M[j]? = some m → P m = false) ∧ RowKit.Hid (Below w.heap.size w wr)
set_option maxRecDepth 100000 in
set_option maxHeartbeats 2000000 in
theorem mig_ix (gs c : Nat) (M : List MS) (b g o : Nat) (x : KeyL) (w : World) (hM : ∀ (i : Nat) (m : MS), M[i]? = some m → ShAt w gs (i * 7) m) (hg : gs < w.heap.size) (hl : M.length ≤ 6) (hT : TlAt w b g o x) :
    Calls Tryz.prog 200 #[.slice (some ⟨gs, 0, none⟩) M.length c, (.func (Fn.func 168) #[] #[.pointer (some ⟨b, 0, none⟩)])] w fun e w' => ∃ r : Int, e = .returned (.int .i64 r) ∧ (decide (0 ≤ r) = M.any (fun m => m.might x)) ∧ Below w.heap.size w w' := by
  have HM := Lib.hid hM
  clear hM
  obtain ⟨n, hn⟩ : ∃ n, M.length = n := ⟨_, rfl⟩
  rw [hn] at hl ⊢
  have HN := Lib.hid hn
  clear hn
  have HT := Lib.hid hT
  clear hT
  go_enter Tryz.func200, Tryz.ntmps200
  go_wp2_with fail
  go_loopw [8] (fun v wr => migR M (fun m => m.might x) w v wr) (fun v _ => n - (intOf v).toNat)
  case atStart => exact ⟨0, Nat.zero_le _, rfl, (fun j m hj => by omega), Below.refl _ _⟩
  case round =>
    obtain ⟨k, hk, rfl, HJ, HB⟩ := hrel
    rw [HN.out] at hk
    by_cases hlt : k < n
    · have hx : M[k]? = some (M[k]'(by rw [HN.out]; exact hlt)) := List.getElem?_eq_getElem _
      obtain ⟨m, hm⟩ : ∃ m, M[k]'(by rw [HN.out]; exact hlt) = m := ⟨_, rfl⟩
      rw [hm] at hx
      obtain ⟨s0, s1, s2, s3, s4, s5, s6⟩ := ((HM.out k m hx).below HB.out hg).c2
      have HX := Lib.hid hx
      clear hx hm
      have k1 : (0 : Int) ≤ (k : Int) := by omega
      have k2 : (k : Int) < (n : Int) := by omega
      have HTT := Lib.hid (HT.out.below HB.out)
      go_wp2_with fail
      refine (tell1_any m b g o x _ HTT.out).mono ?_
      rintro e w2 ⟨rfl, hb2⟩
      have HB2 := Lib.hid (HB.out.trans (hb2.mono HB.out.size))
      clear hb2 s0 s1 s2 s3 s4 s5 s6
      cases hp : m.might x with
      | true =>
        have HA : RowKit.Hid (M.any (fun m => m.might x) = true) := List.any_eq_true.2 ⟨m, List.mem_of_getElem? HX.out, hp⟩
        clear hp HJ
        go_wp2_with fail
        go_ret
        exact ⟨_, rfl, by rw [HA.out]; simp, HB2.out⟩
      | false =>
        have HJ2 : RowKit.Hid (∀ j m, j < k + 1 → M[j]? = some m → m.might x = false) := by
          intro j m' hj hm'
          rcases (by omega : j < k ∨ j = k) with h | h
          · exact HJ.out j m' h hm'
          · subst h; rw [HX.out] at hm'; cases hm'; exact hp
        clear hp HJ
        go_wp2_with fail
        go_roundw
        case rel => exact ⟨k + 1, by rw [HN.out]; omega, by go_num, HJ2.out, HB2.out⟩
        case measure => simp [intOf]; omega
    · have hkn : k = n := by omega
      have HA : RowKit.Hid (M.any (fun m => m.might x) = false) := by
        unfold RowKit.Hid
        rw [List.any_eq_false]
        intro m hm
        obtain ⟨j, hj, e⟩ := List.mem_iff_getElem.1 hm
        have := HJ.out j m (by rw [hkn, ← HN.out]; exact hj) (by rw [← e]; exact List.getElem?_eq_getElem hj)
        simp [this]
      subst hkn
      clear HJ hlt
      go_wp2_with fail
      go_ret
      exact ⟨-1, rfl, by rw [HA.out]; simp, HB.out⟩
set_option maxRecDepth 100000 in
theorem mig_any (gs c : Nat) (M : List MS) (b g o : Nat) (x : KeyL) (w : World) (hM : ∀ (i : Nat) (m : MS), M[i]? = some m → ShAt w gs (i * 7) m) (hg : gs < w.heap.size) (hl : M.length ≤ 6) (hT : TlAt w b g o x) :
    Calls Tryz.prog 167 #[.slice (some ⟨gs, 0, none⟩) M.length c, (.func (Fn.func 168) #[] #[.pointer (some ⟨b, 0, none⟩)])] w fun e w' => e = .returned (.bool (M.any (fun m => m.might x))) ∧ Below w.heap.size w w' := by
  have HC := Lib.hid (mig_ix gs c M b g o x w hM hg hl hT)
  clear hM hT
  obtain ⟨R, hR⟩ : ∃ R, M.any (fun m => m.might x) = R := ⟨_, rfl⟩
  rw [hR] at HC ⊢
  clear hR
  go_enter Tryz.func167, Tryz.ntmps167
  go_wp2_with fail
  refine HC.out.mono ?_
  rintro e w' ⟨r, rfl, hr, hb⟩
  have HB := Lib.hid hb
  clear hb
  cases R with
  | true =>
    have h0 : 0 ≤ r := by simpa using hr
    clear hr HC
    go_wp2_with fail
    go_ret
    exact ⟨rfl, HB.out⟩
  | false =>
    have h0 : r < 0 := by simpa using hr
    have d0 : decide (0 ≤ r) = false := hr
    clear hr HC
    go_wp2_with fail
    go_ret
    exact ⟨rfl, HB.out⟩
end
end Go.Proofs.YtinkbgeckjbnbaaGreat
namespace Go.Proofs.YtinkbgeckjbnbaaGreat
section
open Go.RowKit
set_option linter.unusedVariables false

set_option maxRecDepth 100000 in
theorem any_two {B : Nat} {W : World} {toV : Option Nat} {M : List MS} {S : List PS} (hl : M.length = S.length) (h : ∀ (i : Nat) (m : MS) (s : PS), M[i]? = some m → S[i]? = some s → ShOK B W toV m s) (f : MS → Bool) (g : PS → Bool) (hfg : ∀ m s, ShOK B W toV m s → f m = g s) : M.any f = S.any g := by
  induction M generalizing S with
  | nil => cases S with
    | nil => rfl
    | cons s S => simp at hl
  | cons m M ih => cases S with
    | nil => simp at hl
    | cons s S =>
      rw [List.any_cons, List.any_cons, hfg m s (h 0 m s rfl rfl), ih (by simpa using hl) (fun i m' s' h1 h2 => h (i + 1) m' s' (by simpa using h1) (by simpa using h2))]
set_option maxRecDepth 100000 in
theorem ptr_ne (p o : Nat) (W : World) : (binOp .eql 133 (.pointer (some ⟨p, o, none⟩)) (.pointer none)).run Tryz.prog W = .ok (.bool false) W := by kernel_rfl
set_option maxRecDepth 100000 in
set_option maxHeartbeats 1000000 in
theorem done_any (B p : Nat) (n : Int) (S : List PS) (T : List KeyL) (w : World) (h : MG B w p n S T) :
    Calls Tryz.prog 114 #[.pointer (some ⟨p, 0, none⟩)] w fun e w' => e = .returned (.bool (doneP n S T)) ∧ Below w.heap.size w w' := by
  have hbd := h.bd
  have HG := Lib.hid h
  obtain ⟨gs, c, M, ta, tc, c0, c1, c2, hml, hM, hok, hT, hp, hg, hSc⟩ := h.read
  have hany := any_two hml hok MS.open_ PS.open_ (fun m s h => h.open_)
  have hc := opn_any gs c M w hM hg (by omega)
  rw [show (fun m : MS => m.open_) = MS.open_ from rfl, hany, hml] at hc
  have HC := Lib.hid hc
  obtain ⟨R, hR⟩ : ∃ R, doneP n S T = R := ⟨_, rfl⟩
  have HR := Lib.hid hR
  rw [hR]
  unfold doneP at HR
  obtain ⟨A, hA⟩ : ∃ A, S.any PS.open_ = A := ⟨_, rfl⟩
  rw [hA] at HR HC
  clear hR hA hc hany hM hok hT h
  obtain ⟨k, hk⟩ : ∃ k, T.length = k := ⟨_, rfl⟩
  rw [hk] at HR c2 hbd
  clear hk
  have hq1 := fun W => ptr_ne p 0 W
  have HC0 := Lib.hid c0
  have HC2 := Lib.hid c2
  clear c0 c2
  go_enter Tryz.func114, Tryz.ntmps114
  go_wp2_with fail
  refine HC.out.mono ?_
  rintro e w1 ⟨rfl, hb⟩
  have c0 := (hb.cell (p := ⟨p, 0, none⟩) hp).trans HC0.out
  have c2 := (hb.cell (p := ⟨p, 2, none⟩) hp).trans HC2.out
  have HB := Lib.hid hb
  clear hb HC
  by_cases hkn : (k : Int) = n
  · have hr : R = true := by rw [← HR.out]; simp [hkn]
    subst hr
    have d1 : ((k : Int) == n) = true := by rw [beq_iff_eq]; exact hkn
    clear HR hkn
    go_wp2_with fail
    go_quiet (fail)
    go_wp2_with fail
    go_ret
    exact ⟨rfl, below_drewN HB.out _⟩
  · have hr : R = !A := by rw [← HR.out]; simp [hkn]
    subst hr
    have d1 : ((k : Int) == n) = false := by rw [beq_eq_false_iff_ne]; exact hkn
    clear HR hkn
    go_wp2_with fail
    go_quiet (fail)
    go_wp2_with fail
    go_ret
    exact ⟨rfl, below_drewN HB.out _⟩
def atS (S : List PS) (i : Int) : Option PS := if i < 0 then none else S[i.toNat]?
def seqP (S : List PS) (i : Int) : Int := match atS S i with | some s => s.seq | none => 0
set_option maxRecDepth 100000 in
theorem atS_no {S : List PS} {i : Int} (h : i < 0 ∨ (S.length : Int) ≤ i) : atS S i = none := by
  unfold atS
  split
  · rfl
  · rw [List.getElem?_eq_none (by omega)]
set_option maxRecDepth 100000 in
theorem atS_yes {S : List PS} {k : Nat} : atS S (k : Int) = S[k]? := by unfold atS; rw [if_neg (by omega)]; rfl
set_option maxRecDepth 100000 in
theorem sptr_ne (p o : Nat) (W : World) : (binOp .neq 257 (.pointer (some ⟨p, o, none⟩)) (.pointer none)).run Tryz.prog W = .ok (.bool true) W := by kernel_rfl
set_option maxRecDepth 100000 in
theorem sptr_eq (p o : Nat) (W : World) : (binOp .eql 257 (.pointer (some ⟨p, o, none⟩)) (.pointer none)).run Tryz.prog W = .ok (.bool false) W := by kernel_rfl
set_option maxRecDepth 100000 in
theorem seq_any (B p : Nat) (n i : Int) (S : List PS) (T : List KeyL) (w : World) (h : MG B w p n S T) :
    Calls Tryz.prog 172 #[.pointer (some ⟨p, 0, none⟩), .int .i64 i] w fun e w' => e = .returned (.int .i64 (seqP S i)) ∧ w = w' := by
  obtain ⟨gs, c, M, ta, tc, c0, c1, c2, hml, hM, hok, hT, hp, hg, hSc⟩ := h.read
  by_cases hi : i < 0 ∨ (S.length : Int) ≤ i
  · unfold seqP
    rw [atS_no hi]
    clear hM hok hT h c0 c2 hml
    generalize S.length = k at *
    go_enter Tryz.func172, Tryz.ntmps172
    go_wp2_with fail
    refine (mget_no p gs k c i _ c1 hi).mono ?_
    rintro e w' ⟨rfl, rfl⟩
    go_wp2_with fail
    go_ret
    exact ⟨rfl, rfl⟩
  · obtain ⟨k, rfl⟩ : ∃ k : Nat, i = k := ⟨i.toNat, by omega⟩
    have hk : k < S.length := by omega
    obtain ⟨s, hs⟩ : ∃ s, S[k]? = some s := ⟨_, List.getElem?_eq_getElem hk⟩
    obtain ⟨m, hm⟩ : ∃ m, M[k]? = some m := ⟨_, List.getElem?_eq_getElem (show k < M.length by omega)⟩
    obtain ⟨_, s1, _⟩ := (hM k _ hm).c2
    rw [(hok k _ _ hm hs).seq] at s1
    have e1 : seqP S (k : Int) = s.seq := by unfold seqP; rw [atS_yes, hs]
    rw [e1]
    clear hM hok hT h c0 c2 hml e1 hs hm hi
    generalize s.seq = v at *
    generalize S.length = n at *
    have hq := fun o W => sptr_ne gs o W
    go_enter Tryz.func172, Tryz.ntmps172
    go_wp2_with fail
    refine (mget_yes p gs n c k _ c1 hk).mono ?_
    rintro e w' ⟨rfl, rfl⟩
    go_wp2_with fail
    go_ret
    exact ⟨rfl, rfl⟩
def afterP (S : List PS) (i : Int) : KeyL × Bool := match atS S i with | some s => (s.last, s.heard) | none => ((0, ⟨#[]⟩), false)
set_option maxRecDepth 100000 in
set_option maxHeartbeats 1000000 in
theorem after_any (B p : Nat) (n i : Int) (S : List PS) (T : List KeyL) (w : World) (h : MG B w p n S T) :
    Calls Tryz.prog 171 #[.pointer (some ⟨p, 0, none⟩), .int .i64 i] w fun e w' => e = .returned (.tuple #[.agg #[.int .i64 (afterP S i).1.1, .string (afterP S i).1.2], .bool (afterP S i).2]) ∧ Below w.heap.size w w' := by
  have hb0 : Below w.heap.size w (w.alloc (.cells #[.int .i64 0, .string ⟨#[]⟩] 46)) := (Below.refl _ _).alloc (Nat.le_refl _) _
  obtain ⟨gs, c, M, ta, tc, c0, c1, c2, hml, hM, hok, hT, hp, hg, hSc⟩ := (h.below hb0).read
  have hg0 : gs < w.heap.size := by
    obtain ⟨gs', c', M', ta', tc', _, c1', _, _, _, _, _, hp', hg', _⟩ := h.read
    have e := (hb0.cell (p := ⟨p, 1, none⟩) hp').trans c1'
    rw [c1] at e
    simp only [Option.some.injEq, Value.slice.injEq, Addr.mk.injEq, and_true] at e
    rw [e.1]; exact hg'
  have HB0 := Lib.hid hb0
  clear hb0
  by_cases hi : i < 0 ∨ (S.length : Int) ≤ i
  · unfold afterP
    rw [atS_no hi]
    clear hM hok hT h c0 c2 hml
    generalize S.length = k at *
    go_enter Tryz.func171, Tryz.ntmps171
    go_wp2_with fail
    refine (mget_no p gs k c i _ c1 hi).mono ?_
    rintro e w' ⟨rfl, rfl⟩
    go_wp2_with fail
    exact bodyPost_ret (v := .tuple #[.agg #[.int .i64 0, .string ⟨#[]⟩], .bool false]) (by simp [results, Tryz.results171, go_sem]) rfl ⟨rfl, HB0.out⟩
  · obtain ⟨k, rfl⟩ : ∃ k : Nat, i = k := ⟨i.toNat, by omega⟩
    have hk : k < S.length := by omega
    obtain ⟨s, hs⟩ : ∃ s, S[k]? = some s := ⟨_, List.getElem?_eq_getElem hk⟩
    obtain ⟨m, hm⟩ : ∃ m, M[k]? = some m := ⟨_, List.getElem?_eq_getElem (show k < M.length by omega)⟩
    obtain ⟨_, _, _, s3, s4, s5, _⟩ := (hM k _ hm).c2
    rw [(hok k _ _ hm hs).heard] at s3
    rw [(hok k _ _ hm hs).last] at s4 s5
    have e1 : afterP S (k : Int) = (s.last, s.heard) := by unfold afterP; rw [atS_yes, hs]
    rw [e1]
    clear hM hok hT h c0 c2 hml e1 hs hm hi
    generalize s.last = v at *
    generalize s.heard = hd at *
    generalize S.length = n at *
    have hq := fun o W => sptr_ne gs o W
    have hgw : gs < w.heap.size := hg0
    have s3' : (w.alloc (.cells #[.int .i64 v.1, .string v.2] 46)).cell? ⟨gs, k * 7 + 3, none⟩ = some (.bool hd) := by
      rw [World.cell?_alloc_lt _ _ _ (by exact hgw)] at s3 ⊢
      exact s3
    have hx0 : (w.alloc (.cells #[.int .i64 0, .string ⟨#[]⟩] 46)).cell? ⟨w.heap.size, 0, none⟩ = some (.int .i64 0) := by rw [cell_of_row _ _ _ _ _ _ (heap_alloc_new w _)]; rfl
    have hx1 : (w.alloc (.cells #[.int .i64 0, .string ⟨#[]⟩] 46)).cell? ⟨w.heap.size, 1, none⟩ = some (.string ⟨#[]⟩) := by rw [cell_of_row _ _ _ _ _ _ (heap_alloc_new w _)]; rfl
    go_enter Tryz.func171, Tryz.ntmps171
    go_wp2_with fail
    refine (mget_yes p gs n c k _ c1 hk).mono ?_
    rintro e w' ⟨rfl, rfl⟩
    go_wp2_with fail
    go_region
    all_goals go_wp2_with fail
    all_goals exact bodyPost_ret (v := .tuple #[.agg #[.int .i64 v.1, .string v.2], .bool hd]) (by simp [results, Tryz.results171, go_sem]) rfl ⟨rfl, (below_drewN ((Below.refl w.heap.size w).alloc (Nat.le_refl _) _) 1)⟩
end
end Go.Proofs.YtinkbgeckjbnbaaGreat
namespace Go.Proofs.YtinkbgeckjbnbaaGreat
section
open Go.RowKit
set_option linter.unusedVariables false

set_option maxRecDepth 100000 in
theorem wantK_succ {S : List PS} {k : Nat} {s : PS} (h : S[k]? = some s) : wantK S (k + 1) = wantK S k ++ (if s.wanted = true then [(k : Int)] else []) := by
  unfold wantK
  rw [List.range_succ, List.filter_append, List.map_append]
  congr 1
  cases hw : s.wanted with
  | true => simp [h, hw]
  | false => simp [h, hw]
set_option maxRecDepth 100000 in
theorem wantK_len (S : List PS) (k : Nat) : (wantK S k).length ≤ k := by unfold wantK; rw [List.length_map]; exact Nat.le_trans (List.length_filter_le _ _) (by simp)
def WaR (w : World) (S : List PS) (v3 v16 : Value) (wr : World) : Prop := ∃ (i k c2 : Nat) (ao2 : Option Addr), i ≤ S.length ∧ v16 = .int .i64 i ∧ v3 = .slice ao2 k c2 ∧ RowKit.Hid ((wantK S i).length = k) ∧ RowKit.Hid (wr.ownsRow w.heap.size 3 1 (.slice ao2 k c2) k ((wantK S i).map (Value.int .i64))) ∧ RowKit.Hid (Below w.heap.size w wr)
set_option maxRecDepth 100000 in
set_option maxHeartbeats 2000000 in
theorem wants_any (B p : Nat) (n : Int) (S : List PS) (T : List KeyL) (w : World) (h : MG B w p n S T) :
    Calls Tryz.prog 69 #[.pointer (some ⟨p, 0, none⟩)] w fun e w' => ∃ ao c', e = .returned (.slice ao (wantsP n S T).length c') ∧ w'.ownsRow w.heap.size 3 1 (.slice ao (wantsP n S T).length c') (wantsP n S T).length ((wantsP n S T).map (Value.int .i64)) ∧ Below w.heap.size w w' := by
  obtain ⟨i0, hi, hz0, hz1, hz2⟩ := info_parts info_int
  have HI := Lib.hid hi
  have HZ0 := Lib.hid hz0
  have HZ1 := Lib.hid hz1
  have HZ2 := Lib.hid hz2
  clear hi hz0 hz1 hz2
  have hbd := h.bd
  have HG := Lib.hid h
  have HD := Lib.hid (done_any B p n S T w h)
  have hq1 := fun W => ptr_ne p 0 W
  unfold wantsP
  cases hd : doneP n S T with
  | true =>
    rw [hd] at HD
    rw [if_pos rfl]
    clear h hd hbd
    go_enter Tryz.func69, Tryz.ntmps69
    go_wp2_with fail
    refine HD.out.mono ?_
    rintro e w1 ⟨rfl, hb⟩
    have HB := Lib.hid hb
    clear hb HD
    go_wp2_with fail
    go_ret
    exact ⟨none, 0, rfl, World.ownsRow_nil _ _ _ _, HB.out⟩
  | false =>
    rw [hd] at HD
    rw [if_neg (by exact Bool.false_ne_true)]
    clear h hd
    obtain ⟨R, hR⟩ : ∃ R, wantK S S.length = R := ⟨_, rfl⟩
    rw [hR]
    have HR := Lib.hid hR
    clear hR
    obtain ⟨m, hm⟩ : ∃ m, S.length = m := ⟨_, rfl⟩
    have HM := Lib.hid hm
    clear hm
    go_enter Tryz.func69, Tryz.ntmps69
    go_wp2_with fail
    refine HD.out.mono ?_
    rintro e w1 ⟨rfl, hb⟩
    have HB := Lib.hid hb
    have hG1 := HG.out.below hb
    obtain ⟨gs, c, M, ta, tc, c0, c1, c2, hml, hMM, hok, hT, hp, hg, hSc⟩ := hG1.read
    rw [HM.out] at c1 hml
    have HMM := Lib.hid hMM
    have HOK := Lib.hid hok
    have HML := Lib.hid hml
    have HC1 := Lib.hid c1
    have hm6 : m ≤ 6 := by have := HM.out; omega
    clear hb HD hG1 hMM hok hml hT c0 c2 hbd hSc
    go_wp2_with fail
    clear c1
    go_loopw [3, 16] (fun v3 v16 wr => WaR w1 S v3 v16 wr) (fun _ v _ => m - (intOf v).toNat)
    case atStart => exact ⟨0, 0, 0, none, Nat.zero_le _, rfl, rfl, rfl, World.ownsRow_nil _ _ _ _, Below.refl _ _⟩
    case round =>
      obtain ⟨i, k, c2, ao2, hi, rfl, rfl, HL, HO, HBB⟩ := hrel
      rw [HM.out] at hi
      have c1 := (HBB.out.cell (p := ⟨p, 1, none⟩) hp).trans HC1.out
      by_cases hlt : i < m
      · obtain ⟨s, hs⟩ : ∃ s, S[i]? = some s := ⟨_, List.getElem?_eq_getElem (show i < S.length by have := HM.out; omega)⟩
        obtain ⟨ms, hms⟩ : ∃ ms, M[i]? = some ms := ⟨_, List.getElem?_eq_getElem (show i < M.length by have := HML.out; omega)⟩
        have hsh := (HMM.out i ms hms).below HBB.out hg
        have hwt := (HOK.out i ms s hms hs).wanted
        have hkl : k ≤ i := by have := wantK_len S i; have := HL.out; omega
        have HSH := Lib.hid hsh
        have HS := Lib.hid hs
        have HWT := Lib.hid hwt
        have hz := HBB.out.size
        clear hsh hs hwt hms
        have k1 : (0 : Int) ≤ (i : Int) := by omega
        have k2 : (i : Int) < (m : Int) := by omega
        go_wp2_with fail
        refine (wanted_any gs (i * 7) ms _ HSH.out).mono ?_
        rintro e w' ⟨rfl, rfl⟩
        rw [HWT.out]
        have HSU := Lib.hid (wantK_succ HS.out)
        cases hsw : s.wanted with
        | false =>
          rw [hsw, if_neg (by exact Bool.false_ne_true), List.append_nil] at HSU
          clear hsw HWT
          go_wp2_with fail
          go_roundw
          case rel => exact ⟨i + 1, k, c2, ao2, by rw [HM.out]; omega, by go_num, rfl, by unfold RowKit.Hid; rw [HSU.out]; exact HL.out, by unfold RowKit.Hid; rw [HSU.out]; exact HO.out, HBB.out⟩
          case measure => simp [intOf]; omega
        | true =>
          rw [hsw, if_pos rfl] at HSU
          clear hsw HWT
          have A1 : k + 1 ≤ maxLen := by unfold maxLen; omega
          have A2 : (k + 1) * 8 ≤ 140737488355328 := by omega
          go_wp2_with (at_builtin; refine wpList_app rfl _ _ 26 26 rfl w1.heap.size 3 i0 (.int .i64 0) 1 8 Tryz.underlying26 HI.out HZ0.out HZ1.out HZ2.out rfl (by decide) ao2 k c2 ((wantK S i).map (Value.int .i64)) rfl (HO.out.alloc _) _ 1 _ rfl (Src.one' Tryz.underlying26 wr _ 3 rfl) A1 A2 (by simp; omega) ?_; intro ao3 c3 w5 hown5 hg5; have HO6 := Lib.hid hown5; have HB6 := Lib.hid ((HBB.out.alloc hz _).grown hg5 (by simp; omega) (fun b hb => (HO.out.lt b hb).1)); clear hown5 hg5)
          go_roundw
          case rel => exact ⟨i + 1, k + 1, c3, ao3, by rw [HM.out]; omega, by go_num, rfl, by unfold RowKit.Hid; rw [HSU.out, List.length_append, HL.out]; rfl, by unfold RowKit.Hid; rw [HSU.out, List.map_append]; exact HO6.out, HB6.out⟩
          case measure => simp [intOf]; omega
      · have him : i = m := by omega
        subst him
        clear hlt
        have hrr : wantK S i = R := by rw [← HR.out, HM.out]
        have hl := HL.out
        rw [hrr] at HL HO
        have hkk : R.length = k := HL.out
        subst hkk
        clear HL hl hrr
        go_wp2_with fail
        go_ret
        exact ⟨ao2, c2, rfl, own0 HO.out HB.out.size, HB.out.trans (HBB.out.mono HB.out.size)⟩
end
end Go.Proofs.YtinkbgeckjbnbaaGreat
namespace Go.Proofs.YtinkbgeckjbnbaaGreat
section
open Go.RowKit
set_option linter.unusedVariables false

set_option maxRecDepth 100000 in
theorem aheadP_lt : ∀ {S : List PS} {i b : Nat}, aheadP S i = some b → b < i ∧ ∃ s, S[b]? = some s ∧ 0 < s.waits.length
  | S, 0, b, h => by simp [aheadP] at h
  | S, i + 1, b, h => by
    unfold aheadP at h
    cases hs : S[i]? with
    | none =>
      simp only [hs] at h
      obtain ⟨h1, h2⟩ := aheadP_lt h
      exact ⟨by omega, h2⟩
    | some s =>
      cases ha : aheadP S i with
      | none =>
        simp only [hs, ha] at h
        split at h
        · cases h
        · cases h
          exact ⟨by omega, s, hs, by omega⟩
      | some c =>
        obtain ⟨h1, h2⟩ := aheadP_lt ha
        simp only [hs, ha] at h
        split at h
        · cases h; exact ⟨by omega, h2⟩
        · split at h
          · cases h; exact ⟨by omega, h2⟩
          · split at h
            · cases h; exact ⟨by omega, s, hs, by omega⟩
            · cases h; exact ⟨by omega, h2⟩
set_option maxRecDepth 100000 in
theorem aheadP_0 {S : List PS} {i : Nat} {s : PS} (hs : S[i]? = some s) (h0 : s.waits.length = 0) : aheadP S (i + 1) = aheadP S i := by
  rw [aheadP]
  cases ha : aheadP S i <;> simp [hs, h0]
set_option maxRecDepth 100000 in
theorem aheadP_1 {S : List PS} {i : Nat} {s : PS} (hs : S[i]? = some s) (h0 : 0 < s.waits.length) (ha : aheadP S i = none) : aheadP S (i + 1) = some i := by
  rw [aheadP]
  simp only [hs, ha]
  rw [if_neg (by omega)]
set_option maxRecDepth 100000 in
theorem aheadP_2 {S : List PS} {i b : Nat} {s t : PS} (hs : S[i]? = some s) (h0 : 0 < s.waits.length) (ha : aheadP S i = some b) (ht : S[b]? = some t) : aheadP S (i + 1) = if kless (headP s) (headP t) = true then some i else some b := by
  rw [aheadP]
  simp only [hs, ha, ht]
  rw [if_neg (by omega)]
set_option maxRecDepth 100000 in
theorem head_at {s : PS} (h : 0 < s.waits.length) : s.waits[0]? = some (headP s) := by
  unfold headP
  cases hw : s.waits with
  | nil => rw [hw] at h; simp at h
  | cons a l => rfl
/-- what is read of the first item that waits -/
def HdAt (W : World) (m : MS) (x : KeyL) : Prop := ∃ wb wo, m.wa = some ⟨wb, wo, none⟩ ∧ W.cell? ⟨wb, wo, none⟩ = some (.int .i64 x.1) ∧ W.cell? ⟨wb, wo + 1, none⟩ = some (.string x.2)
set_option maxRecDepth 100000 in
theorem ShOK.head {B : Nat} {W : World} {toV : Option Nat} {m : MS} {s : PS} (h : ShOK B W toV m s) (h0 : 0 < s.waits.length) : HdAt W m (headP s) := by
  obtain ⟨b, o, e, h1, h2, _⟩ := h.waits.atI (head_at h0)
  rw [Nat.zero_mul, Nat.add_zero] at h1 h2
  exact ⟨b, o, e, h1, h2⟩
set_option maxRecDepth 100000 in
theorem HdAt.below {W W' : World} {m : MS} {x : KeyL} (h : HdAt W m x) (hb : Below W.heap.size W W') : HdAt W' m x := by
  obtain ⟨b, o, e, h1, h2⟩ := h
  exact ⟨b, o, e, (hb.cell (p := ⟨b, o, none⟩) (cell?_lt h1)).trans h1, (hb.cell (p := ⟨b, o + 1, none⟩) (cell?_lt h2)).trans h2⟩
def optPtr (gs : Nat) : Option Nat → Value
  | none => .pointer none
  | some b => .pointer (some ⟨gs, b * 7, none⟩)
def AhR (w : World) (S : List PS) (gs : Nat) (v3 v11 : Value) (wr : World) : Prop := ∃ i : Nat, i ≤ S.length ∧ v11 = .int .i64 i ∧ v3 = optPtr gs (aheadP S i) ∧ RowKit.Hid (Below w.heap.size w wr)
set_option maxRecDepth 100000 in
set_option maxHeartbeats 4000000 in
theorem ahead_any (B p gs c : Nat) (n : Int) (S : List PS) (T : List KeyL) (w : World) (h : MG B w p n S T) (hgs : w.cell? ⟨p, 1, none⟩ = some (.slice (some ⟨gs, 0, none⟩) S.length c)) :
    Calls Tryz.prog 166 #[.pointer (some ⟨p, 0, none⟩)] w fun e w' => e = .returned (optPtr gs (aheadP S S.length)) ∧ Below w.heap.size w w' := by
  have hbd := h.bd
  obtain ⟨gs', c', M, ta, tc, c0, c1, c2, hml, hMM, hok, hT, hp, hg, hSc⟩ := h.read
  rw [hgs] at c1
  simp only [Option.some.injEq, Value.slice.injEq, Addr.mk.injEq, and_true, true_and] at c1
  obtain ⟨rfl, rfl⟩ := c1
  have HMM := Lib.hid hMM
  have HOK := Lib.hid hok
  obtain ⟨R, hR⟩ : ∃ R, aheadP S S.length = R := ⟨_, rfl⟩
  rw [hR]
  have HR := Lib.hid hR
  obtain ⟨m, hm⟩ : ∃ m, S.length = m := ⟨_, rfl⟩
  rw [hm] at hml hgs hbd
  have HM := Lib.hid hm
  have HML := Lib.hid hml
  have HC1 := Lib.hid hgs
  have hm6 := hbd.1
  clear hR hm hml hMM hok hT c0 c2 h hbd hSc
  have hq2 := fun o W => sptr_eq gs o W
  go_enter Tryz.func166, Tryz.ntmps166
  go_wp2_with fail
  clear hgs
  go_loopw [3, 11] (fun v3 v11 wr => AhR w S gs v3 v11 wr) (fun _ v => fun _ => m - (intOf v).toNat)
  case atStart => exact ⟨0, Nat.zero_le _, rfl, rfl, Below.refl _ _⟩
  case round =>
    obtain ⟨i, hi, rfl, rfl, HB⟩ := hrel
    rw [HM.out] at hi
    have c1 := (HB.out.cell (p := ⟨p, 1, none⟩) hp).trans HC1.out
    by_cases hlt : i < m
    · obtain ⟨s, hs⟩ : ∃ s, S[i]? = some s := ⟨_, List.getElem?_eq_getElem (show i < S.length by have := HM.out; omega)⟩
      obtain ⟨ms, hms⟩ : ∃ ms, M[i]? = some ms := ⟨_, List.getElem?_eq_getElem (show i < M.length by have := HML.out; omega)⟩
      obtain ⟨_, _, _, _, _, _, s6⟩ := ((HMM.out i ms hms).below HB.out hg).c2
      have hok := HOK.out i ms s hms hs
      have hwl := hok.wlen
      rw [hwl] at s6
      have HS := Lib.hid hs
      have HOK1 := Lib.hid hok
      clear hs hok hms hwl
      have k1 : (0 : Int) ≤ (i : Int) := by omega
      have k2 : (i : Int) < (m : Int) := by omega
      by_cases h0 : s.waits.length = 0
      · have HA := Lib.hid (aheadP_0 HS.out h0)
        rw [h0] at s6
        clear h0
        generalize aheadP S i = r at *
        go_wp2_with fail
        go_quiet (fail)
        go_wp2_with fail
        go_roundw
        case rel => exact ⟨i + 1, by rw [HM.out]; omega, by go_num, by rw [HA.out], below_drewN HB.out _⟩
        case measure => simp [intOf]; omega
      · have h1 : 0 < s.waits.length := by omega
        have hd := HOK1.out.head h1
        obtain ⟨wb, wo, ea, x0, x1⟩ := hd.below HB.out
        rw [ea] at s6
        have d1 : decide (0 < s.waits.length) = true := by simpa using h1
        have d2 : (0 : Int) < (s.waits.length : Int) := by omega
        cases ha : aheadP S i with
        | none =>
          have HA := Lib.hid (aheadP_1 HS.out h1 ha)
          clear ha h0 h1 hd ea x0 x1
          generalize s.waits.length = wl at *
          unfold optPtr
          go_wp2_with fail
          go_quiet (fail)
          go_wp2_with fail
          go_roundw
          case rel => exact ⟨i + 1, by rw [HM.out]; omega, by go_num, by rw [HA.out]; rfl, below_drewN HB.out _⟩
          case measure => simp [intOf]; omega
        | some b =>
          obtain ⟨hbi, t, ht, ht0⟩ := aheadP_lt ha
          have HA := Lib.hid (aheadP_2 HS.out h1 ha ht)
          obtain ⟨mb, hmb⟩ : ∃ mb, M[b]? = some mb := ⟨_, List.getElem?_eq_getElem (show b < M.length by have := HML.out; omega)⟩
          obtain ⟨_, _, _, _, _, _, r6⟩ := ((HMM.out b mb hmb).below HB.out hg).c2
          have hokb := HOK.out b mb t hmb ht
          rw [hokb.wlen] at r6
          obtain ⟨vb, vo, eb, y0, y1⟩ := (hokb.head ht0).below HB.out
          rw [eb] at r6
          have d3 : (0 : Int) < (t.waits.length : Int) := by omega
          have HLS := Lib.hid (itless (headP s) (headP t))
          have HGB : RowKit.Hid (Below wr.heap.size wr wr.drew) := below_drewN (Below.refl _ _) 1
          have HXS := Lib.hid (And.intro s6 (And.intro x0 (And.intro x1 (And.intro r6 (And.intro y0 y1)))))
          clear ha h0 hd ea eb ht hmb hokb d1
          generalize headP s = x at *
          generalize headP t = y at *
          generalize s.waits.length = wl at *
          generalize t.waits.length = tl at *
          obtain ⟨lb, hlb⟩ : ∃ lb, kless x y = lb := ⟨_, rfl⟩
          rw [hlb] at HA HLS
          clear hlb
          have hg' := cell?_lt s6
          have hwb' := cell?_lt x0
          have hvb' := cell?_lt y0
          unfold optPtr
          go_wp2_with fail
          go_region_held3 (fun w' => w'.cell? ⟨gs, i * 7 + 6, none⟩ = some (.slice (some ⟨wb, wo, none⟩) wl ms.wc) ∧ w'.cell? ⟨wb, wo, none⟩ = some (.int .i64 x.1) ∧ w'.cell? ⟨wb, wo + 1, none⟩ = some (.string x.2) ∧ w'.cell? ⟨gs, b * 7 + 6, none⟩ = some (.slice (some ⟨vb, vo, none⟩) tl mb.wc) ∧ w'.cell? ⟨vb, vo, none⟩ = some (.int .i64 y.1) ∧ w'.cell? ⟨vb, vo + 1, none⟩ = some (.string y.2)) (exact ⟨(HGB.out.cell (p := ⟨gs, i * 7 + 6, none⟩) hg').trans HXS.out.1, (HGB.out.cell (p := ⟨wb, wo, none⟩) hwb').trans HXS.out.2.1, (HGB.out.cell (p := ⟨wb, wo + 1, none⟩) hwb').trans HXS.out.2.2.1, (HGB.out.cell (p := ⟨gs, b * 7 + 6, none⟩) hg').trans HXS.out.2.2.2.1, (HGB.out.cell (p := ⟨vb, vo, none⟩) hvb').trans HXS.out.2.2.2.2.1, (HGB.out.cell (p := ⟨vb, vo + 1, none⟩) hvb').trans HXS.out.2.2.2.2.2⟩) (first | (go_at_call 88; refine (HLS.out _).mono ?_; rintro e u ⟨rfl, hb⟩; have HSN := Lib.hid (HGB.out.trans (hb.mono HGB.out.size)); clear HGB; have HGB := HSN; clear HSN; clear hb))
          all_goals
            have HB2 := Lib.hid (HB.out.trans (HGB.out.mono HB.out.size))
            cases lb with
            | true =>
              rw [if_pos rfl] at HA
              go_wp2_with fail
              go_roundw
              case rel => exact ⟨i + 1, by rw [HM.out]; omega, by go_num, by rw [HA.out]; rfl, HB2.out⟩
              case measure => simp [intOf]; omega
            | false =>
              rw [if_neg (by exact Bool.false_ne_true)] at HA
              go_wp2_with fail
              go_roundw
              case rel => exact ⟨i + 1, by rw [HM.out]; omega, by go_num, by rw [HA.out]; rfl, HB2.out⟩
              case measure => simp [intOf]; omega
    · have him : i = m := by omega
      subst him
      clear hlt
      have hr : aheadP S i = R := by rw [← HR.out, HM.out]
      rw [hr]
      clear hr HR
      go_wp2_with fail
      go_ret
      exact ⟨rfl, HB.out⟩
end
end Go.Proofs.YtinkbgeckjbnbaaGreat
namespace Go.Proofs.YtinkbgeckjbnbaaGreat
section
open Go.RowKit
set_option linter.unusedVariables false

set_option maxRecDepth 100000 in
theorem info_sh : (Tryz.prog.info? 235).map (fun i => (i.zero, i.size, i.bytes)) = some (some (.agg #[.int .i64 0, .int .i64 0, .bool false, .bool false, .int .i64 0, .string ⟨#[]⟩, .slice none 0 0]), 7, 72) := by kernel_rfl
def newMS (d : Int) : MS := ⟨d, 0, decide (d < 0), false, (0, ⟨#[]⟩), none, 0, 0⟩
def newPS (d : Int) : PS := ⟨d, 0, decide (d < 0), false, (0, ⟨#[]⟩), []⟩
set_option maxRecDepth 100000 in
theorem shOne (m : MS) : ∀ u ∈ m.cells, u.oneCell' = true := by
  intro u hu
  unfold MS.cells at hu
  simp only [List.mem_cons, List.not_mem_nil, or_false] at hu
  rcases hu with rfl | rfl | rfl | rfl | rfl | rfl | rfl <;> rfl
set_option maxRecDepth 100000 in
theorem MG.base {B B' : Nat} {W : World} {p : Nat} {n : Int} {S : List PS} {T : List KeyL} (h : MG B W p n S T) (hB : B' ≤ B) : MG B' W p n S T := by
  obtain ⟨gs, c, M, sp, ta, tc, h1, h2, h3, h4, h5, h6, h7, h8, h9, h10⟩ := h
  exact ⟨gs, c, M, sp, ta, tc, h1, h2, h3, h4, own0 h5 hB, h6, fun i m s hm hs => by
    obtain ⟨a1, a2, a3, a4, a5, a6, a7, a8, a9, a10⟩ := h7 i m s hm hs
    exact ⟨a1, a2, a3, a4, a5, a6, fun b o sp e => Nat.le_trans hB (a7 b o sp e), a8, a9, a10⟩, by omega, by omega, h10⟩
def NwR (w : World) (p : Nat) (n : Int) (l : List Int) (v30 : Value) (wr : World) : Prop := ∃ (k c : Nat) (ao : Option Addr), k ≤ l.length ∧ v30 = .int .i64 k ∧ RowKit.Hid (Blk wr p 233 [.int .i64 n, .slice ao k c, .slice none 0 0]) ∧ RowKit.Hid (wr.ownsRow w.heap.size 235 7 (.slice ao k c) k (((l.take k).map newMS).flatMap MS.cells)) ∧ RowKit.Hid (Below w.heap.size w wr)
set_option maxRecDepth 100000 in
set_option maxHeartbeats 2000000 in
theorem mnew_any (a : Option Addr) (m cap : Nat) (l : List Int) (n : Int) (w : World) (hr : Rd w a m cap (ints l)) (h1 : 1 ≤ m) (h2 : m ≤ 6) (h3 : 1 ≤ n) (h4 : n ≤ 10) :
    Calls Tryz.prog 65 #[.slice a m cap, .int .i64 n] w fun e w' => e = .returned (.tuple #[.pointer (some ⟨w.heap.size, 0, none⟩), .int .i64 0]) ∧ MG w.heap.size w' w.heap.size n (l.map newPS) [] ∧ Below w.heap.size w w' := by
  obtain ⟨i0, hi, hz0, hz1, hz2⟩ := info_parts info_sh
  have HI := Lib.hid hi
  have HZ0 := Lib.hid hz0
  have HZ1 := Lib.hid hz1
  have HZ2 := Lib.hid hz2
  clear hi hz0 hz1 hz2
  have hnl : l.length = m := by rw [← hr.1, ints_len]
  have HR := Lib.hid hr
  have HN := Lib.hid hnl
  clear hr hnl
  have e1 : ((m : Int) == 0) = false := by rw [beq_eq_false_iff_ne]; omega
  have e2 : decide (6 < m) = false := by simp; omega
  have hb0 : Below w.heap.size w (w.alloc (.cells #[.int .i64 n, .slice none 0 0, .slice none 0 0] 233)) := (Below.refl _ _).alloc (Nat.le_refl _) _
  have hp0 : Blk (w.alloc (.cells #[.int .i64 n, .slice none 0 0, .slice none 0 0] 233)) w.heap.size 233 [.int .i64 n, .slice none 0 0, .slice none 0 0] := heap_alloc_new w _
  have HB0 := Lib.hid hb0
  have HP0 := Lib.hid hp0
  clear hb0 hp0
  go_enter Tryz.func65, Tryz.ntmps65
  go_wp2_with fail
  generalize w.alloc (.cells #[.int .i64 n, .slice none 0 0, .slice none 0 0] 233) = w1 at *
  obtain ⟨p, hp⟩ : ∃ p, w.heap.size = p := ⟨_, rfl⟩
  rw [hp] at HP0 ⊢
  have HPP := Lib.hid hp
  clear hp
  go_loopw [30] (fun v wr => NwR w p n l v wr) (fun v _ => m - (intOf v).toNat)
  case atStart => exact ⟨0, 0, none, Nat.zero_le _, rfl, HP0.out, World.ownsRow_nil _ _ _ _, HB0.out⟩
  case round =>
    clear HP0 HB0
    obtain ⟨k, c, ao, hk, rfl, HP, HO, HB⟩ := hrel
    rw [HN.out] at hk
    have c1 := HP.out.cell 1
    rw [show ([.int .i64 n, .slice ao k c, .slice none 0 0] : List Value)[1]? = some (.slice ao k c) from rfl] at c1
    by_cases hlt : k < m
    · obtain ⟨b, o, rfl, hb1, hc1⟩ := (HR.out.below HB.out rfl).2.2.2.2 k hlt
      rw [ints_get l k (by rw [HN.out]; exact hlt)] at hc1
      obtain ⟨d, hd⟩ : ∃ d, l[k]'(by rw [HN.out]; exact hlt) = d := ⟨_, rfl⟩
      rw [hd] at hc1
      have htk : l.take (k + 1) = l.take k ++ [d] := by rw [List.take_add_one, List.getElem?_eq_getElem (by rw [HN.out]; exact hlt), hd]; rfl
      have HTK := Lib.hid htk
      have k1 : (0 : Int) ≤ (k : Int) := by omega
      have k2 : (k : Int) < (m : Int) := by omega
      have A1 : k + 1 ≤ maxLen := by unfold maxLen; omega
      have A2 : (k + 1) * 72 ≤ 140737488355328 := by omega
      have hz := HB.out.size
      have hsrc : Src Tryz.prog 7 231 (.slice (some ⟨wr.heap.size, 0, none⟩) 1 1) 1 (newMS d).cells (wr.alloc (.cells #[.int .i64 d, .int .i64 0, .bool (decide (d < 0)), .bool false, .int .i64 0, .string ⟨#[]⟩, .slice none 0 0] 235)) :=
        Src.ofSlice _ Tryz.underlying231 ⟨wr.heap.size, 0, none⟩ 1 1 (newMS d).cells rfl (World.news_of_block (heap_alloc_new wr _)) (shOne _)
      have HS := Lib.hid hsrc
      clear hd htk hsrc
      have fz1 := HP.out.frozen 1
      clear fz1
      go_wp2_with (at_builtin; refine wpList_app rfl _ _ 231 231 rfl w.heap.size 235 i0 (.agg #[.int .i64 0, .int .i64 0, .bool false, .bool false, .int .i64 0, .string ⟨#[]⟩, .slice none 0 0]) 7 72 Tryz.underlying231 HI.out HZ0.out HZ1.out HZ2.out rfl (by decide) ao k c (((l.take k).map newMS).flatMap MS.cells) rfl (HO.out.alloc _) (.slice (some ⟨wr.heap.size, 0, none⟩) 1 1) 1 (newMS d).cells rfl HS.out A1 A2 (by simp; omega) ?_; intro ao2 c2 w5 hown5 hg5; have hbl0 := Blk.alloc HP.out (.cells #[.int .i64 d, .int .i64 0, .bool (decide (d < 0)), .bool false, .int .i64 0, .string ⟨#[]⟩, .slice none 0 0] 235); have hP5 := hbl0.frm (Frm.grown (S := fun i => (Value.slice ao k c).ownBlock = some i) hg5 (fun g h => h)) (fun e => ownsRow_ne HO.out HP.out (by decide) _ e rfl); have c15 := hP5.cell 1; have fz5 := hP5.frozen 1; rw [show ([.int .i64 n, .slice ao k c, .slice none 0 0] : List Value)[1]? = some (.slice ao k c) from rfl] at c15; have HP5 := Lib.hid hP5; have HO5 := Lib.hid hown5; have HB5 := Lib.hid ((HB.out.alloc hz _).grown hg5 (by simp; omega) (fun b hb => (HO.out.lt b hb).1)); clear hbl0 hP5 hown5 hg5)
      have hne := ownsRow_ne HO5.out HP5.out (by decide)
      have hset : Frm (fun i => i = p) w5 (w5.setCell ⟨p, 1, none⟩ (.slice ao2 (k + 1 : Nat) c2)) := (Frm.refl _ _).setCell _ _ (.inl rfl)
      have HO6 := Lib.hid (ownsRow_frm HO5.out hset hne)
      have HB6 := Lib.hid (HB5.out.trans (hset.toBelow HB5.out.size (fun i hi e => by have := HPP.out; omega)))
      have HP6 := Lib.hid (HP5.out.set 1 (.slice ao2 (k + 1 : Nat) c2))
      clear hne hset HO5 HB5 HP5
      go_roundw
      case rel => exact ⟨k + 1, c2, ao2, by rw [HN.out]; omega, by go_num, HP6.out, by unfold RowKit.Hid; rw [HTK.out, List.map_append, List.flatMap_append]; simpa using HO6.out, HB6.out⟩
      case measure => simp [intOf]; omega
    · have hkm : k = m := by omega
      subst hkm
      clear hlt
      have hfull : l.take k = l := List.take_of_length_le (by rw [HN.out]; exact Nat.le_refl _)
      have hmg : MG w.heap.size wr p n (l.map newPS) [] := by
        have ho := HO.out
        rw [hfull] at ho
        obtain ⟨g, cap, hv, hbg, _⟩ := ho.form (by omega)
        simp only [Value.slice.injEq, true_and] at hv
        obtain ⟨rfl, rfl⟩ := hv
        obtain ⟨sp, hsp, hbk⟩ := ownsRow_blk ho
        have hcc : k ≤ c ∧ c ≤ maxLen := by
          rcases ho.2 with ⟨h', _⟩ | ⟨g', cap', cur, h', _, _, hnc, hmx, _⟩
          · simp at h'
          · simp only [Value.slice.injEq] at h'; obtain ⟨_, _, rfl⟩ := h'; exact ⟨hnc, hmx⟩
        have hlk := HN.out
        refine ⟨g, c, l.map newMS, sp, none, 0, ?_, hbk, by simp; omega, hcc.2, World.ownsRow_nil _ _ _ _, by simp, ?_, by have := HPP.out; omega, hbg, by simp; omega, by simp, h3, h4⟩
        · rw [List.length_map, hlk]; exact HP.out
        · intro i ms s hm hs
          rw [List.getElem?_map, Option.map_eq_some_iff] at hm hs
          obtain ⟨d, hd, rfl⟩ := hm
          obtain ⟨d', hd', rfl⟩ := hs
          rw [hd] at hd'
          cases hd'
          exact ⟨rfl, rfl, rfl, rfl, rfl, ⟨rfl, Nat.le_refl _, Nat.zero_le _, fun _ => rfl, fun i x hx => by simp [newPS] at hx⟩, fun b o sp e => by simp [newMS] at e, fun b o sp e => by simp [newMS] at e, Nat.zero_le _, fun b o sp e => by simp [newMS] at e⟩
      have HMG := Lib.hid hmg
      clear hmg
      go_wp2_with fail
      go_ret2
      refine ⟨by rw [HPP.out]; rfl, ?_, HB.out⟩
      have := HMG.out
      rw [← HPP.out] at this
      exact this
end
end Go.Proofs.YtinkbgeckjbnbaaGreat
namespace Go.Proofs.YtinkbgeckjbnbaaGreat
section
open Go.RowKit
set_option linter.unusedVariables false

def PS.put (s : PS) (l : List KeyL) (e : Bool) : PS := ⟨s.least, s.seq + 1, e, s.heard || decide (0 < l.length), l.getLastD s.last, l⟩
set_option maxRecDepth 100000 in
theorem row_set {M : List MS} {sp : List Value} {i : Nat} {m m' : MS} {j : Nat} {v : Value} (hm : M[i]? = some m) (hj : j < 7) (he : m'.cells = m.cells.set j v) : (M.flatMap MS.cells ++ sp).set (i * 7 + j) v = (M.set i m').flatMap MS.cells ++ sp := by
  have hi : i < M.length := (List.getElem?_eq_some_iff.1 hm).1
  have hlen : ∀ K : List MS, (K.flatMap MS.cells).length = K.length * 7 := fun K => flatMap_len MS.cells 7 MS.clen K
  apply List.ext_getElem?
  intro q
  rw [List.getElem?_set]
  by_cases hq : q < M.length * 7
  · have hr : q % 7 < 7 := Nat.mod_lt _ (by omega)
    have hqi : q / 7 < M.length := by omega
    have hdm : q / 7 * 7 + q % 7 = q := by omega
    have hget : ∀ (K : List MS) (x : MS), K[q / 7]? = some x → (K.flatMap MS.cells ++ sp)[q]? = x.cells[q % 7]? := fun K x hx => by
      have := flat_get MS.cells 7 MS.clen K sp (q / 7) x (q % 7) hx hr
      rw [hdm] at this; exact this
    by_cases e1 : i * 7 + j = q
    · rw [if_pos e1, if_pos (by rw [List.length_append, hlen]; omega)]
      have hqi2 : q / 7 = i := by omega
      have hqj : q % 7 = j := by omega
      rw [hget (M.set i m') m' (by rw [hqi2, List.getElem?_set_self hi]), he, hqj, List.getElem?_set_self (by rw [MS.clen]; exact hj)]
    · rw [if_neg e1]
      by_cases e2 : q / 7 = i
      · rw [hget M m (by rw [e2]; exact hm), hget (M.set i m') m' (by rw [e2, List.getElem?_set_self hi]), he, List.getElem?_set_ne (by omega)]
      · obtain ⟨x, hx⟩ : ∃ x, M[q / 7]? = some x := ⟨_, List.getElem?_eq_getElem hqi⟩
        rw [hget M x hx, hget (M.set i m') x (by rw [List.getElem?_set_ne (fun e => e2 e.symm)]; exact hx)]
  · rw [if_neg (by omega), List.getElem?_append_right (by rw [hlen]; omega), List.getElem?_append_right (by rw [hlen, List.length_set]; omega), hlen, hlen, List.length_set]
set_option maxRecDepth 100000 in
theorem row_at {M : List MS} {i : Nat} {m : MS} (hm : M[i]? = some m) (m' : MS) : (M.set i m')[i]? = some m' := by rw [List.getElem?_set_self (List.getElem?_eq_some_iff.1 hm).1]
end
end Go.Proofs.YtinkbgeckjbnbaaGreat
namespace Go.Proofs.YtinkbgeckjbnbaaGreat
section
open Go.RowKit
set_option linter.unusedVariables false

structure MGx (B : Nat) (W : World) (p : Nat) (n : Int) (S : List PS) (T : List KeyL) (gs c : Nat) (M : List MS) (sp : List Value) (ta : Option Addr) (tc : Nat) : Prop where
  P : Blk W p 233 [.int .i64 n, .slice (some ⟨gs, 0, none⟩) S.length c, .slice ta T.length tc]
  G : Blk W gs 235 (M.flatMap MS.cells ++ sp)
  hc : S.length ≤ c
  hm : c ≤ maxLen
  told : W.ownsRow B 46 2 (.slice ta T.length tc) T.length (T.flatMap KeyL.cells)
  len : M.length = S.length
  sh : ∀ (i : Nat) (m : MS) (s : PS), M[i]? = some m → S[i]? = some s → ShOK B W (Value.slice ta T.length tc).ownBlock m s
  bp : B ≤ p
  bg : B ≤ gs
  bd : S.length ≤ 6 ∧ T.length ≤ 10 ∧ 1 ≤ n ∧ n ≤ 10
set_option maxRecDepth 100000 in
theorem MG.x {B : Nat} {W : World} {p : Nat} {n : Int} {S : List PS} {T : List KeyL} (h : MG B W p n S T) : ∃ gs c M sp ta tc, MGx B W p n S T gs c M sp ta tc := by
  obtain ⟨gs, c, M, sp, ta, tc, h1, h2, h3, h4, h5, h6, h7, h8, h9, h10⟩ := h
  exact ⟨gs, c, M, sp, ta, tc, h1, h2, h3, h4, h5, h6, h7, h8, h9, h10⟩
set_option maxRecDepth 100000 in
theorem MGx.mg {B : Nat} {W : World} {p : Nat} {n : Int} {S : List PS} {T : List KeyL} {gs c : Nat} {M : List MS} {sp : List Value} {ta : Option Addr} {tc : Nat} (h : MGx B W p n S T gs c M sp ta tc) : MG B W p n S T :=
  ⟨gs, c, M, sp, ta, tc, h.P, h.G, h.hc, h.hm, h.told, h.len, h.sh, h.bp, h.bg, h.bd⟩
set_option maxRecDepth 100000 in
theorem MGx.read {B : Nat} {W : World} {p : Nat} {n : Int} {S : List PS} {T : List KeyL} {gs c : Nat} {M : List MS} {sp : List Value} {ta : Option Addr} {tc : Nat} (h : MGx B W p n S T gs c M sp ta tc) : W.cell? ⟨p, 0, none⟩ = some (.int .i64 n) ∧ W.cell? ⟨p, 1, none⟩ = some (.slice (some ⟨gs, 0, none⟩) S.length c) ∧ W.cell? ⟨p, 2, none⟩ = some (.slice ta T.length tc) ∧ M.length = S.length ∧ (∀ (i : Nat) (m : MS), M[i]? = some m → ShAt W gs (i * 7) m) ∧ (∀ (i : Nat) (m : MS) (s : PS), M[i]? = some m → S[i]? = some s → ShOK B W (Value.slice ta T.length tc).ownBlock m s) ∧ RdE KeyL.cells 2 W ta T.length tc T ∧ p < W.heap.size ∧ gs < W.heap.size ∧ S.length ≤ c :=
  ⟨by rw [h.P.cell]; rfl, by rw [h.P.cell]; rfl, by rw [h.P.cell]; rfl, h.len, fun i m hm => ShAt.of_row h.G hm, h.sh, ownsRow_rdE (enc := KeyL.cells) (fun _ => rfl) rfl h.told, h.P.lt, h.G.lt, h.hc⟩
set_option maxRecDepth 100000 in
/-- shard k is another one now; the other blocks are as they were -/
theorem mg_set {B : Nat} {w w' : World} {p : Nat} {n : Int} {S : List PS} {T : List KeyL} {gs c : Nat} {M : List MS} {sp : List Value} {ta : Option Addr} {tc : Nat} (hx : MGx B w p n S T gs c M sp ta tc) {k : Nat} {m' : MS} {s' : PS}
    (hf : Frm (fun i => i = gs) w w') (hg : Blk w' gs 235 ((M.set k m').flatMap MS.cells ++ sp)) (hok : k < S.length → ShOK B w' (Value.slice ta T.length tc).ownBlock m' s') :
    MGx B w' p n (S.set k s') T gs c (M.set k m') sp ta tc := by
  have hp : p ≠ gs := blk_ne hx.P hx.G (by decide)
  have ht : ∀ k, (Value.slice ta T.length tc).ownBlock = some k → k ≠ gs := ownsRow_ne hx.told hx.G (by decide)
  refine ⟨by rw [List.length_set]; exact hx.P.frm hf hp, hg, by rw [List.length_set]; exact hx.hc, hx.hm, ownsRow_frm hx.told hf ht, by rw [List.length_set, List.length_set]; exact hx.len, fun i m s h1 h2 => ?_, hx.bp, hx.bg, by rw [List.length_set]; exact hx.bd⟩
  by_cases e1 : k = i
  · subst e1
    have hk : k < S.length := by
      have := (List.getElem?_eq_some_iff.1 h2).1
      rwa [List.length_set] at this
    rw [List.getElem?_set_self (by rw [hx.len]; exact hk)] at h1
    rw [List.getElem?_set_self hk] at h2
    cases h1; cases h2
    exact hok hk
  · rw [List.getElem?_set_ne e1] at h1 h2
    have h3 := hx.sh i m s h1 h2
    exact h3.frm hf (fun b o sp' e => by
      obtain ⟨cs, hb⟩ := h3.ty b o sp' e
      exact blk_ne hb hx.G (by decide))
/-- each shard's items lie where they lay, or past the heap's end of then -/
def WOld (h : Nat) (M M' : List MS) : Prop := ∀ (i : Nat) (x : MS), M'[i]? = some x → ∀ b o s, x.wa = some ⟨b, o, s⟩ → (∃ (j : Nat) (y : MS), M[j]? = some y ∧ y.wa = some ⟨b, o, s⟩) ∨ h ≤ b
set_option maxRecDepth 100000 in
theorem WOld.refl (h : Nat) (M : List MS) : WOld h M M := fun i x hx b o s e => .inl ⟨i, x, hx, e⟩
end
end Go.Proofs.YtinkbgeckjbnbaaGreat
namespace Go.Proofs.YtinkbgeckjbnbaaGreat
section
open Go.RowKit
set_option linter.unusedVariables false

def PS.less (s : PS) : PS := ⟨s.least, s.seq, s.ended, s.heard, s.last, s.waits.drop 1⟩
/-- what is told next: the item, its shard -/
def stepP (n : Int) (S : List PS) (T : List KeyL) : Option (KeyL × Nat × PS) :=
  if doneP n S T = true then none else match aheadP S S.length with
  | none => none
  | some b => match S[b]? with
    | none => none
    | some s => if S.any (fun t => t.might (headP s)) = true then none else some (headP s, b, s.less)
def tellA (n : Int) : Nat → List PS → List KeyL → List KeyL → List KeyL × List PS × List KeyL
  | 0, S, T, out => (out, S, T)
  | f + 1, S, T, out => match stepP n S T with
    | none => (out, S, T)
    | some (x, b, s) => tellA n f (S.set b s) (T ++ [x]) (out ++ [x])
def tellP (n : Int) (S : List PS) (T : List KeyL) : List KeyL × List PS × List KeyL := tellA n (n.toNat - T.length) S T []
set_option maxRecDepth 100000 in
theorem tellA_stop {n : Int} {S : List PS} {T : List KeyL} (h : stepP n S T = none) (f : Nat) (out : List KeyL) : tellA n f S T out = (out, S, T) := by
  cases f with
  | zero => rfl
  | succ f => simp only [tellA, h]
set_option maxRecDepth 100000 in
theorem tellA_go {n : Int} {S : List PS} {T : List KeyL} {x : KeyL} {b : Nat} {s : PS} (h : stepP n S T = some (x, b, s)) (hT : (T.length : Int) < n) (out : List KeyL) :
    tellA n (n.toNat - T.length) S T out = tellA n (n.toNat - (T ++ [x]).length) (S.set b s) (T ++ [x]) (out ++ [x]) := by
  obtain ⟨f, hf⟩ : ∃ f, n.toNat - T.length = f + 1 := ⟨n.toNat - T.length - 1, by omega⟩
  rw [hf]
  simp only [tellA, h]
  rw [List.length_append, List.length_singleton, show n.toNat - (T.length + 1) = f from by omega]
set_option maxRecDepth 100000 in
theorem not_done {n : Int} {S : List PS} {T : List KeyL} (h : doneP n S T = false) (hT : (T.length : Int) ≤ n) : (T.length : Int) < n := by
  unfold doneP at h
  rw [Bool.or_eq_false_iff] at h
  have := h.1
  simp at this
  omega
set_option maxRecDepth 100000 in
theorem step_done {n : Int} {S : List PS} {T : List KeyL} (h : doneP n S T = true) : stepP n S T = none := by unfold stepP; rw [if_pos h]
set_option maxRecDepth 100000 in
theorem step_none {n : Int} {S : List PS} {T : List KeyL} (h : aheadP S S.length = none) : stepP n S T = none := by
  unfold stepP; rw [h]; split <;> rfl
set_option maxRecDepth 100000 in
theorem step_might {n : Int} {S : List PS} {T : List KeyL} {b : Nat} {s : PS} (h : aheadP S S.length = some b) (hs : S[b]? = some s) (hm : S.any (fun t => t.might (headP s)) = true) : stepP n S T = none := by
  unfold stepP; rw [h]; simp only [hs, if_pos hm]; split <;> rfl
set_option maxRecDepth 100000 in
theorem step_some {n : Int} {S : List PS} {T : List KeyL} {b : Nat} {s : PS} (hd : doneP n S T = false) (h : aheadP S S.length = some b) (hs : S[b]? = some s) (hm : S.any (fun t => t.might (headP s)) = false) : stepP n S T = some (headP s, b, s.less) := by
  unfold stepP; rw [if_neg (by rw [hd]; simp), h]; simp only [hs]; rw [if_neg (by rw [hm]; simp)]
/-- the shards' items lie apart from the block of l -/
def ApartL (l told : Value) (M : List MS) : Prop := ∀ k, l.ownBlock = some k → told.ownBlock ≠ some k ∧ ∀ (i : Nat) (m : MS), M[i]? = some m → ∀ b o sp, m.wa = some ⟨b, o, sp⟩ → b ≠ k
set_option maxRecDepth 100000 in
theorem MGx.keep {B : Nat} {X : Nat → Prop} {W W' : World} {p : Nat} {n : Int} {S : List PS} {T : List KeyL} {gs c : Nat} {M : List MS} {sp : List Value} {ta : Option Addr} {tc : Nat} (h : MGx B W p n S T gs c M sp ta tc) (hf : Frm X W W')
    (hx : ∀ k, X k → k ≠ p ∧ k ≠ gs ∧ (Value.slice ta T.length tc).ownBlock ≠ some k ∧ ∀ (i : Nat) (m : MS), M[i]? = some m → ∀ b o sp, m.wa = some ⟨b, o, sp⟩ → b ≠ k) : MGx B W' p n S T gs c M sp ta tc :=
  ⟨h.P.frm hf (fun e => (hx p e).1 rfl), h.G.frm hf (fun e => (hx gs e).2.1 rfl), h.hc, h.hm, ownsRow_frm h.told hf (fun k hk e => (hx k e).2.2.1 hk), h.len, fun i m s hm hs => (h.sh i m s hm hs).frm hf (fun b o sp e hX => (hx b hX).2.2.2 i m hm b o sp e rfl), h.bp, h.bg, h.bd⟩
set_option maxRecDepth 100000 in
theorem MGx.below {B : Nat} {W W' : World} {p : Nat} {n : Int} {S : List PS} {T : List KeyL} {gs c : Nat} {M : List MS} {sp : List Value} {ta : Option Addr} {tc : Nat} (h : MGx B W p n S T gs c M sp ta tc) (hb : Below W.heap.size W W') : MGx B W' p n S T gs c M sp ta tc :=
  h.keep (Frm.below (S := fun _ => False) hb) (fun _ h => h.elim)
set_option maxRecDepth 100000 in
theorem MGx.far {B B' k : Nat} {W W' : World} {p : Nat} {n : Int} {S : List PS} {T : List KeyL} {gs c : Nat} {M : List MS} {sp : List Value} {ta : Option Addr} {tc : Nat} (h : MGx B W p n S T gs c M sp ta tc) {l : Value} {xs : List Value} (hl : W.ownsRow B' 46 2 l k xs) (ha : ApartL l (.slice ta T.length tc) M)
    (hf : Frm (fun k => l.ownBlock = some k) W W') : MGx B W' p n S T gs c M sp ta tc :=
  h.keep hf (fun k hk => ⟨ownsRow_ne hl h.P (by decide) k hk, ownsRow_ne hl h.G (by decide) k hk, (ha k hk).1, (ha k hk).2⟩)
set_option maxRecDepth 100000 in
/-- told has one more -/
theorem mg_told {B : Nat} {W W2 : World} {p : Nat} {n : Int} {S : List PS} {T : List KeyL} {gs c : Nat} {M : List MS} {sp : List Value} {ta : Option Addr} {tc : Nat} (hx : MGx B W p n S T gs c M sp ta tc) {x : KeyL} {g c' : Nat} (hT : T.length + 1 ≤ 10)
    (hg : Frm (fun k => (Value.slice ta T.length tc).ownBlock = some k) W W2) (hat : (Value.slice ta T.length tc).ownBlock = some g ∨ W.heap.size ≤ g) (ho : W2.ownsRow B 46 2 (.slice (some ⟨g, 0, none⟩) (T.length + 1) c') (T.length + 1) (T.flatMap KeyL.cells ++ x.cells)) :
    MGx B (W2.setCell ⟨p, 2, none⟩ (.slice (some ⟨g, 0, none⟩) (T.length + 1 : Nat) c')) p n S (T ++ [x]) gs c M sp (some ⟨g, 0, none⟩) c' := by
  have ht : ∀ k, (Value.slice ta T.length tc).ownBlock = some k → k ≠ gs := ownsRow_ne hx.told hx.G (by decide)
  have hp : ∀ k, (Value.slice ta T.length tc).ownBlock = some k → k ≠ p := ownsRow_ne hx.told hx.P (by decide)
  have hpg : p ≠ gs := blk_ne hx.P hx.G (by decide)
  have hP2 := hx.P.frm hg (fun e => hp _ e rfl)
  have hG2 := hx.G.frm hg (fun e => ht _ e rfl)
  have hgp : g ≠ p := by
    rcases hat with h | h
    · exact hp g h
    · have := hx.P.lt; omega
  have hs : Frm (fun k => k = p) W2 (W2.setCell ⟨p, 2, none⟩ (.slice (some ⟨g, 0, none⟩) (T.length + 1 : Nat) c')) := (Frm.refl (fun k => k = p) W2).setCell _ _ (.inl rfl)
  have hlen : (T ++ [x]).length = T.length + 1 := by simp
  refine ⟨by rw [hlen]; exact Blk.set hP2 2 _, hG2.frm hs (fun e => hpg e.symm), hx.hc, hx.hm, ?_, hx.len, fun i m s hm hsx => ?_, hx.bp, hx.bg, by rw [hlen]; exact ⟨hx.bd.1, hT, hx.bd.2.2⟩⟩
  · rw [hlen, List.flatMap_append, List.flatMap_singleton]
    exact ownsRow_frm ho hs (fun k hk e => by simp only [Value.ownBlock, Option.some.injEq] at hk; omega)
  · have h0 := hx.sh i m s hm hsx
    have h1 := (h0.frm hg (fun b o sp e h => h0.apart b o sp e h)).frm hs (fun b o sp e h => by
      obtain ⟨cs, hb⟩ := h0.ty b o sp e
      exact blk_ne hb hx.P (by decide) h)
    refine ⟨h1.least, h1.seq, h1.ended, h1.heard, h1.last, h1.waits, h1.base, fun b o sp e h => ?_, h1.small, h1.ty⟩
    simp only [Value.ownBlock, Option.some.injEq] at h
    subst h
    rcases hat with h2 | h2
    · exact h0.apart _ o sp e h2
    · obtain ⟨cs, hb⟩ := h0.ty _ o sp e
      have := hb.lt
      omega
def MS.less (m : MS) (wb o' : Nat) : MS := ⟨m.least, m.seq, m.ended, m.heard, m.last, some ⟨wb, o', none⟩, m.wn - 1, m.wc - 1⟩
set_option maxRecDepth 100000 in
theorem ShOK.less {B : Nat} {W : World} {toV : Option Nat} {m : MS} {s : PS} (h : ShOK B W toV m s) {wb wo : Nat} (hw : m.wa = some ⟨wb, wo, none⟩) (h0 : 0 < s.waits.length) (o' : Nat) (ho : 1 < m.wn → o' = wo + 2) : ShOK B W toV (m.less wb o') s.less := by
  have hwn := h.wlen
  have hr := h.waits
  rw [hw] at hr
  refine ⟨h.least, h.seq, h.ended, h.heard, h.last, hr.drop 1 (by omega) o' (by omega), ?_, ?_, by have := h.small; simp [PS.less]; omega, ?_⟩
  · intro b o sp e
    cases e
    exact h.base _ _ _ hw
  · intro b o sp e
    cases e
    exact h.apart _ _ _ hw
  · intro b o sp e
    cases e
    exact h.ty _ _ _ hw
set_option maxRecDepth 100000 in
theorem row_less {M : List MS} {sp : List Value} {k : Nat} {m : MS} (hm : M[k]? = some m) (wb o' : Nat) :
    (M.flatMap MS.cells ++ sp).set (k * 7 + 6) (.slice (some ⟨wb, o', none⟩) (m.wn - 1) (m.wc - 1)) = (M.set k (m.less wb o')).flatMap MS.cells ++ sp :=
  row_set (m' := m.less wb o') hm (by decide) rfl
set_option maxRecDepth 100000 in
theorem ApartL.set {l told : Value} {M : List MS} (h : ApartL l told M) {k : Nat} {m : MS} (hm : M[k]? = some m) {wb wo : Nat} (hw : m.wa = some ⟨wb, wo, none⟩) (o' : Nat) : ApartL l told (M.set k (m.less wb o')) := by
  intro j hj
  refine ⟨(h j hj).1, fun i x hx b o sp e => ?_⟩
  by_cases e1 : k = i
  · subst e1
    rw [row_at hm] at hx
    cases hx
    cases e
    exact (h j hj).2 k m hm _ _ _ hw
  · rw [List.getElem?_set_ne e1] at hx
    exact (h j hj).2 i x hx b o sp e
set_option maxRecDepth 100000 in
theorem ApartL.new {B : Nat} {W : World} {p : Nat} {n : Int} {S : List PS} {T : List KeyL} {gs c : Nat} {M : List MS} {sp : List Value} {ta : Option Addr} {tc : Nat} (hx : MGx B W p n S T gs c M sp ta tc) {l : Value} {g : Nat} (hl : l.ownBlock = some g) (hg : W.heap.size ≤ g) : ApartL l (.slice ta T.length tc) M := by
  intro k hk
  rw [hl] at hk
  cases hk
  refine ⟨fun h => ?_, fun i m hm b o sp e h => ?_⟩
  · have := (hx.told.lt g h).2; omega
  · have hi := (List.getElem?_eq_some_iff.1 hm).1
    obtain ⟨cs, hb⟩ := (hx.sh i m _ hm (List.getElem?_eq_getElem (show i < S.length by rw [← hx.len]; exact hi))).ty b o sp e
    have := hb.lt
    omega
set_option maxRecDepth 100000 in
theorem ApartL.step {B : Nat} {W : World} {p : Nat} {n : Int} {S : List PS} {T : List KeyL} {gs c : Nat} {M : List MS} {sp : List Value} {ta : Option Addr} {tc : Nat} (hx : MGx B W p n S T gs c M sp ta tc) {l l' : Value} {g : Nat} (ha : ApartL l (.slice ta T.length tc) M) (hl : l'.ownBlock = some g) (hat : l.ownBlock = some g ∨ W.heap.size ≤ g) : ApartL l' (.slice ta T.length tc) M := by
  rcases hat with h | h
  · intro k hk
    rw [hl] at hk
    cases hk
    exact ha g h
  · exact ApartL.new hx hl h
set_option maxRecDepth 100000 in
/-- told lies in g2 now -/
theorem ApartL.told {W : World} {l told told' : Value} {M : List MS} {g : Nat} (ha : ApartL l told M) (hl : ∀ k, l.ownBlock = some k → k < W.heap.size) (ht : told'.ownBlock = some g) (hat : told.ownBlock = some g ∨ W.heap.size ≤ g) : ApartL l told' M := by
  intro k hk
  refine ⟨fun h => ?_, (ha k hk).2⟩
  rw [ht] at h
  cases h
  rcases hat with h | h
  · exact (ha _ hk).1 h
  · have := hl _ hk; omega
end
end Go.Proofs.YtinkbgeckjbnbaaGreat
namespace Go.Proofs.YtinkbgeckjbnbaaGreat
section
open Go.RowKit
set_option linter.unusedVariables false

/-- what Tell may change: the Merge, its shards, the row that told lies in -/
def TX (p gs : Nat) (told : Value) (i : Nat) : Prop := i = p ∨ i = gs ∨ told.ownBlock = some i
/-- told lies where told0 lay, or in a new block -/
def TBk (w : World) (told0 told : Value) : Prop := ∀ g, told.ownBlock = some g → told0.ownBlock = some g ∨ w.heap.size ≤ g
/-- each row of M lies in a block in which one of M0 lay -/
def WSub (M0 M : List MS) : Prop := ∀ (i : Nat) (x : MS), M[i]? = some x → ∀ b o s, x.wa = some ⟨b, o, s⟩ → ∃ (j : Nat) (y : MS) (o2 : Nat) (s2 : Option Nat), M0[j]? = some y ∧ y.wa = some ⟨b, o2, s2⟩
set_option maxRecDepth 100000 in
theorem WSub.refl (M : List MS) : WSub M M := fun i x hx b o s e => ⟨i, x, o, s, hx, e⟩
set_option maxRecDepth 100000 in
theorem WSub.set {M0 M : List MS} (h : WSub M0 M) {k : Nat} {m m' : MS} (hm : M[k]? = some m) {wb wo o' : Nat} (hw : m.wa = some ⟨wb, wo, none⟩) (hw' : m'.wa = some ⟨wb, o', none⟩) : WSub M0 (M.set k m') := by
  intro i x hx b o s e
  by_cases e2 : i = k
  · subst e2
    rw [List.getElem?_set_self (List.getElem?_eq_some_iff.1 hm).1] at hx
    cases hx
    rw [hw'] at e
    cases e
    exact h i m hm wb wo none hw
  · rw [List.getElem?_set_ne (fun q => e2 q.symm)] at hx
    exact h i x hx b o s e
def TellEnd2 (B : Nat) (w : World) (p : Nat) (n : Int) (gs c : Nat) (sp : List Value) (told0 : Value) (M0 : List MS) (R : List KeyL × List PS × List KeyL) (e : Ending) (w' : World) : Prop := ∃ (ao : Option Addr) (c' : Nat), e = .returned (.slice ao R.1.length c') ∧ w'.ownsRow w.heap.size 46 2 (.slice ao R.1.length c') R.1.length (R.1.flatMap KeyL.cells) ∧
  (∃ (M : List MS) (ta : Option Addr) (tc : Nat), MGx B w' p n R.2.1 R.2.2 gs c M sp ta tc ∧ TBk w told0 (.slice ta R.2.2.length tc) ∧ ApartL (.slice ao R.1.length c') (.slice ta R.2.2.length tc) M ∧ WSub M0 M) ∧ Frm (TX p gs told0) w w'
set_option maxRecDepth 100000 in
theorem te_end {B : Nat} {w wr w' : World} {p : Nat} {n : Int} {S : List PS} {T out : List KeyL} {gs c : Nat} {M : List MS} {sp : List Value} {ta : Option Addr} {tc : Nat} {ao : Option Addr} {lc : Nat} {told0 : Value} {M0 : List MS} {R : List KeyL × List PS × List KeyL}
    (hw : WSub M0 M) (hx : MGx B wr p n S T gs c M sp ta tc) (ho : wr.ownsRow w.heap.size 46 2 (.slice ao out.length lc) out.length (out.flatMap KeyL.cells)) (ha : ApartL (.slice ao out.length lc) (.slice ta T.length tc) M) (hb : Frm (TX p gs told0) w wr) (htb : TBk w told0 (.slice ta T.length tc)) (hR : (out, S, T) = R) (hbb : Below wr.heap.size wr w') :
    TellEnd2 B w p n gs c sp told0 M0 R (.returned (.slice ao out.length lc)) w' := by
  subst hR
  have ho2 := ownsRow_frm (S := fun _ => False) ho (Frm.below hbb) (fun _ _ h => h.elim)
  exact ⟨ao, lc, rfl, ho2, ⟨M, ta, tc, hx.below hbb, htb, ha, hw⟩, hb.trans (Frm.below (S := TX p gs told0) hbb) (fun i h _ => h)⟩
def TeR (B : Nat) (w : World) (p : Nat) (n : Int) (gs c : Nat) (sp : List Value) (told0 : Value) (M0 : List MS) (R : List KeyL × List PS × List KeyL) (v3 : Value) (wr : World) : Prop := ∃ (S : List PS) (T out : List KeyL) (M : List MS) (ta : Option Addr) (tc : Nat) (ao : Option Addr) (lc : Nat),
  v3 = .slice ao out.length lc ∧ RowKit.Hid (MGx B wr p n S T gs c M sp ta tc) ∧ RowKit.Hid (wr.ownsRow w.heap.size 46 2 (.slice ao out.length lc) out.length (out.flatMap KeyL.cells)) ∧ RowKit.Hid (ApartL (.slice ao out.length lc) (.slice ta T.length tc) M) ∧
  RowKit.Hid (Frm (TX p gs told0) w wr) ∧ RowKit.Hid (TBk w told0 (.slice ta T.length tc)) ∧ RowKit.Hid ((T.length : Int) ≤ n) ∧ RowKit.Hid (tellA n (n.toNat - T.length) S T out = R) ∧ RowKit.Hid (out.length ≤ T.length ∧ WSub M0 M)
def teM (v : Value) : Nat := match v with | .slice _ n _ => 10 - n | _ => 0
set_option linter.unusedSimpArgs false in
set_option maxRecDepth 100000 in
set_option maxHeartbeats 4000000 in
theorem tell_any2 (B p : Nat) (n : Int) (S : List PS) (T : List KeyL) (w : World) (gs c : Nat) (M : List MS) (sp : List Value) (ta : Option Addr) (tc : Nat) (hX : MGx B w p n S T gs c M sp ta tc) (hT : (T.length : Int) ≤ n) (hB : B ≤ w.heap.size) :
    Calls Tryz.prog 113 #[.pointer (some ⟨p, 0, none⟩)] w (TellEnd2 B w p n gs c sp (.slice ta T.length tc) M (tellP n S T)) := by
  obtain ⟨i0, hi, hz0, hz1, hz2⟩ := info_parts infoI2
  have HI := Lib.hid hi
  have HZ0 := Lib.hid hz0
  have HZ1 := Lib.hid hz1
  have HZ2 := Lib.hid hz2
  clear hi hz0 hz1 hz2
  obtain ⟨R, hR⟩ : ∃ R, tellP n S T = R := ⟨_, rfl⟩
  rw [hR]
  unfold tellP at hR
  obtain ⟨told0, htold⟩ : ∃ v, Value.slice ta T.length tc = v := ⟨_, rfl⟩
  rw [htold]
  have H0 : RowKit.Hid (TeR B w p n gs c sp told0 M R (.slice none 0 0) w) := ⟨S, T, [], M, ta, tc, none, 0, rfl, hX, World.ownsRow_nil _ _ _ _, fun k hk => by simp [Value.ownBlock] at hk, Frm.refl _ _, fun g hg => .inl (by rw [← htold]; exact hg), hT, hR, Nat.zero_le _, WSub.refl M⟩
  clear hX hR hT htold
  have hq1 := fun W => ptr_ne p 0 W
  go_enter Tryz.func113, Tryz.ntmps113
  go_wp2_with fail
  go_loopw [3] (fun v3 wr => TeR B w p n gs c sp told0 M R v3 wr) (fun v _ => teM v)
  case atStart => exact H0.out
  case round =>
    clear H0
    obtain ⟨S', T', out, M', ta', tc', ao, lc, rfl, HX, HO, HA, HB, HTB, HT, HR, HL⟩ := hrel
    have HD := Lib.hid (done_any B p n S' T' wr HX.out.mg)
    cases hd : doneP n S' T' with
    | true =>
      rw [hd] at HD
      have HE := Lib.hid (fun W hb => te_end (w' := W) HL.out.2 HX.out HO.out HA.out HB.out HTB.out ((tellA_stop (step_done hd) _ _).symm.trans HR.out) hb)
      clear hd HX HO HA HB HTB HT HR HL
      go_wp2_with fail
      refine HD.out.mono ?_
      rintro e w1 ⟨rfl, hb⟩
      have HB1 := Lib.hid hb
      clear hb HD
      go_wp2_with fail
      go_ret
      exact HE.out _ HB1.out
    | false =>
      rw [hd] at HD
      have hlt := not_done hd HT.out
      have HAH := Lib.hid (fun (W : World) (hb : Below wr.heap.size wr W) => ahead_any B p gs c n S' T' W (HX.out.below hb).mg (HX.out.below hb).read.2.1)
      have HDD := Lib.hid hd
      have HLT := Lib.hid hlt
      clear hd hlt HT
      go_wp2_with fail
      refine HD.out.mono ?_
      rintro e w1 ⟨rfl, hb⟩
      have HB1 := Lib.hid hb
      have hc1 := HAH.out w1 hb
      have HC1 := Lib.hid hc1
      clear hb HD hc1 HAH
      go_wp2_with fail
      refine HC1.out.mono ?_
      rintro e w2 ⟨rfl, hb⟩
      have HB2 := Lib.hid (HB1.out.trans (hb.mono HB1.out.size))
      clear hb HB1 HC1
      cases ha : aheadP S' S'.length with
      | none =>
        have HE := Lib.hid (fun W hb => te_end (w' := W) HL.out.2 HX.out HO.out HA.out HB.out HTB.out ((tellA_stop (step_none ha) _ _).symm.trans HR.out) hb)
        have HB3 := Lib.hid (HB2.out.alloc HB2.out.size (.cells #[.pointer none] 257))
        clear ha HX HO HA HB HTB HR HL HB2 HDD HLT
        rw [show optPtr gs none = .pointer none from rfl]
        go_wp2_with fail
        go_ret
        exact HE.out _ HB3.out
      | some b =>
        obtain ⟨hbS, s, hs, h0⟩ := aheadP_lt ha
        obtain ⟨m, hm⟩ : ∃ m, M'[b]? = some m := ⟨_, List.getElem?_eq_getElem (show b < M'.length by rw [HX.out.len]; exact hbS)⟩
        have hsh := HX.out.sh b m s hm hs
        obtain ⟨wb, wo, hwa, hx0, hx1⟩ := hsh.head h0
        obtain ⟨x, hx⟩ : ∃ x, headP s = x := ⟨_, rfl⟩
        rw [hx] at hx0 hx1
        obtain ⟨k, hk⟩ : ∃ k, m.wn = k + 1 := ⟨m.wn - 1, by have := hsh.wlen; omega⟩
        have hB3 := HB2.out.alloc HB2.out.size (.cells #[.pointer (some ⟨gs, b * 7, none⟩)] 257)
        have hsb : Blk (w2.alloc (.cells #[.pointer (some ⟨gs, b * 7, none⟩)] 257)) w2.heap.size 257 [.pointer (some ⟨gs, b * 7, none⟩)] := heap_alloc_new w2 _
        have hX3 := HX.out.below hB3
        have hS3 := (ShAt.of_row hX3.G hm).c2.2.2.2.2.2.2
        have hS3' := hS3
        rw [hwa, hk] at hS3'
        have hy0 := (hB3.cell (p := ⟨wb, wo, none⟩) (cell?_lt hx0)).trans hx0
        have hy1 := (hB3.cell (p := ⟨wb, wo + 1, none⟩) (cell?_lt hx1)).trans hx1
        have hTl : TlAt (w2.alloc (.cells #[.pointer (some ⟨gs, b * 7, none⟩)] 257)) w2.heap.size gs (b * 7) x := ⟨wb, wo, k, m.wc, by rw [hsb.cell]; rfl, hS3', hy0, hy1⟩
        have hmig := mig_any gs c M' w2.heap.size gs (b * 7) x _ hX3.read.2.2.2.2.1 hX3.G.lt (by have := hX3.len; have := hX3.bd; omega) hTl
        rw [any_two hX3.len hX3.sh (fun m => m.might x) (fun s => s.might x) (fun m s h => h.might x), hX3.len] at hmig
        have c1 := hX3.read.2.1
        have HMG := Lib.hid hmig
        have HBK := Lib.hid hsb
        have HB3 := Lib.hid hB3
        have HA0 := Lib.hid ha
        have HS := Lib.hid hs
        have HM := Lib.hid hm
        have HWA := Lib.hid hwa
        have HK := Lib.hid hk
        have HXH := Lib.hid hx
        have H00 := Lib.hid h0
        have hq2 := fun W => sptr_eq gs (b * 7) W
        have hsz : w2.heap.size < (w2.alloc (.cells #[.pointer (some ⟨gs, b * 7, none⟩)] 257)).heap.size := by simp
        clear ha hs hm hsh hwa hx0 hx1 hx h0 hk hB3 hsb hX3 hS3 hS3' hy0 hy1 hTl hmig hbS HB2
        have y0 := HBK.out.cell 0
        rw [show ([.pointer (some ⟨gs, b * 7, none⟩)] : List Value)[0]? = some (.pointer (some ⟨gs, b * 7, none⟩)) from rfl] at y0
        obtain ⟨k2, hk2⟩ : ∃ k2, S'.length = k2 := ⟨_, rfl⟩
        rw [hk2] at c1 HMG
        rw [show optPtr gs (some b) = .pointer (some ⟨gs, b * 7, none⟩) from rfl]
        go_wp2_with fail
        generalize w2.alloc (.cells #[.pointer (some ⟨gs, b * 7, none⟩)] 257) = w3 at *
        generalize w2.heap.size = sb at *
        clear hk2
        cases hA2 : S'.any (fun t => t.might x) with
        | true =>
          rw [hA2] at HMG
          have HE := Lib.hid (fun W hb => te_end (w' := W) HL.out.2 HX.out HO.out HA.out HB.out HTB.out ((tellA_stop (step_might HA0.out HS.out (by rw [HXH.out]; exact hA2)) _ _).symm.trans HR.out) hb)
          clear hA2
          refine HMG.out.mono ?_
          rintro e w4 ⟨rfl, hb⟩
          have HB4 := Lib.hid (HB3.out.trans (hb.mono HB3.out.size))
          clear hb HMG HX HO HA HB HTB HR HL HDD HLT HB3 HBK HA0 HS HM HWA HK HXH H00
          go_wp2_with fail
          go_ret
          exact HE.out _ HB4.out
        | false =>
          rw [hA2] at HMG
          have hstep := step_some HDD.out HA0.out HS.out (by rw [HXH.out]; exact hA2)
          rw [HXH.out] at hstep
          have hrr := (tellA_go hstep HLT.out out).symm.trans HR.out
          have HRR := Lib.hid hrr
          clear hA2 hstep hrr HR HDD
          refine HMG.out.mono ?_
          rintro e w4 ⟨rfl, hb⟩
          have hB4 := HB3.out.trans (hb.mono HB3.out.size)
          have hX4 := HX.out.below hB4
          have hO4 := ownsRow_frm (S := fun _ => False) HO.out (Frm.below hB4) (fun _ _ h => h.elim)
          have hBK4 := HBK.out.below hb hsz
          have hB5 := HB.out.trans (Frm.below (S := TX p gs told0) hB4) (fun i h _ => h)
          have HX4 := Lib.hid hX4
          have HO4 := Lib.hid hO4
          have HBK4 := Lib.hid hBK4
          have HB5 := Lib.hid hB5
          have t6 := (ShAt.of_row hX4.G HM.out).c2.2.2.2.2.2.2
          obtain ⟨wb', wo', hwa', z0, z1⟩ := (hX4.sh b m s HM.out HS.out).head H00.out
          rw [HWA.out] at hwa'
          cases hwa'
          rw [HXH.out] at z0 z1
          rw [HWA.out, HK.out] at t6
          have y0 : w4.cell? ⟨sb, 0, none⟩ = some (.pointer (some ⟨gs, b * 7, none⟩)) := by rw [hBK4.cell]; rfl
          have hx4 := hX4.G.lt
          have hbd := hX4.bd
          have hle := HL.out.1
          have hszB : w.heap.size ≤ w4.heap.size := Nat.le_trans HB.out.size hB4.size
          clear hb hB4 hX4 hO4 hBK4 hB5 HMG HX HO HB HBK HB3 hsz c1
          have HO5 : RowKit.Hid ((w4.alloc (.cells #[.int .i64 x.1, .string x.2] 46)).ownsRow w.heap.size 46 2 (.slice ao out.length lc) out.length (out.flatMap KeyL.cells)) := HO4.out.alloc _
          have HN5 : RowKit.Hid (∀ j u, ([.int .i64 x.1, .string x.2] : List Value)[j]? = some u → (w4.alloc (.cells #[.int .i64 x.1, .string x.2] 46)).cell? ((⟨w4.heap.size, 0, none⟩ : Addr).add j) = some u) := World.news_of_block (heap_alloc_new w4 _)
          have A1 : out.length + 1 ≤ maxLen := by unfold maxLen; omega
          have A2 : (out.length + 1) * 24 ≤ 140737488355328 := by omega
          have A3 : w.heap.size ≤ (w4.alloc (.cells #[.int .i64 x.1, .string x.2] 46)).heap.size := by simp; omega
          have HA4 : RowKit.Hid (∀ u ∈ ([.int .i64 x.1, .string x.2] : List Value), u.oneCell' = true) := by intro u hu; simp at hu; rcases hu with rfl | rfl <;> rfl
          have k1 : (0 : Int) < ((k + 1 : Nat) : Int) := by omega
          go_wp2_with (at_builtin; refine wpList_append_lies _ rfl _ _ 56 rfl w.heap.size 46 i0 (.agg #[.int .i64 0, .string ⟨#[]⟩]) 2 24 Tryz.underlying56 HI.out HZ0.out HZ1.out HZ2.out rfl (by decide) (.slice ao out.length lc) out.length (out.flatMap KeyL.cells) rfl HO5.out ⟨w4.heap.size, 0, none⟩ 1 1 [.int .i64 x.1, .string x.2] rfl rfl HN5.out HA4.out (by decide) A1 A2 A3 (w4.heap.size + 1) (by simp) ?_; intro g cap w6 hown hgr hat hlt; have HO6 := Lib.hid hown; have HGR := Lib.hid hgr; have HAT := Lib.hid hat; clear hown hgr hat)
          have hF6 : Frm (fun i => (Value.slice ao out.length lc).ownBlock = some i) w4 w6 := ((Frm.refl (fun i => (Value.slice ao out.length lc).ownBlock = some i) w4).alloc _).trans (Frm.grown (S := fun i => (Value.slice ao out.length lc).ownBlock = some i) HGR.out (fun _ h => h)) (fun i h _ => h)
          have hX6 := HX4.out.far HO4.out HA.out hF6
          have hat6 : (Value.slice ao out.length lc).ownBlock = some g ∨ w4.heap.size ≤ g := HAT.out.imp id (fun h => by omega)
          have hA6 := ApartL.step HX4.out (l' := .slice (some ⟨g, 0, none⟩) (out.length + 1) cap) HA.out rfl hat6
          have hBK6 := HBK4.out.frm hF6 (fun e => ownsRow_ne HO4.out HBK4.out (by decide) sb e rfl)
          have hB6 := HB5.out.trans hF6 (fun i e hi => by have := own_ge HO4.out i e; omega)
          have hg6 : ∀ k, (Value.slice (some ⟨g, 0, none⟩) (out.length + 1) cap).ownBlock = some k → k < w6.heap.size := fun k hk => (HO6.out.lt k hk).2
          have HX6 := Lib.hid hX6
          have HA6 := Lib.hid hA6
          have HBK6 := Lib.hid hBK6
          have HB6 := Lib.hid hB6
          have HG6 := Lib.hid hg6
          have hsz6 : w.heap.size ≤ w6.heap.size := Nat.le_trans hszB hF6.size
          clear t6 z0 z1 y0 hx4 hat6 hX6 hA6 hBK6 hB6 hg6 HX4 HO4 HBK4 HB5 HO5 HN5 HGR HAT HA hF6 hlt
          have t6 := (ShAt.of_row HX6.out.G HM.out).c2.2.2.2.2.2.2
          obtain ⟨wb', wo', hwa', z0, z1⟩ := (HX6.out.sh b m s HM.out HS.out).head H00.out
          rw [HWA.out] at hwa'
          cases hwa'
          rw [HXH.out] at z0 z1
          rw [HWA.out, HK.out] at t6
          have y0 : w6.cell? ⟨sb, 0, none⟩ = some (.pointer (some ⟨gs, b * 7, none⟩)) := by rw [HBK6.out.cell]; rfl
          have c2 := HX6.out.read.2.2.1
          obtain ⟨tl, htl⟩ : ∃ tl, T'.length = tl := ⟨_, rfl⟩
          have hT1 : tl + 1 ≤ 10 := by have := HLT.out; have := hbd; omega
          have HTL := Lib.hid htl
          rw [htl] at c2
          have hP1 : RowKit.Hid ((w6.alloc (.cells #[.int .i64 x.1, .string x.2] 46)).drew.ownsRow B 46 2 (.slice ta' tl tc') tl (T'.flatMap KeyL.cells)) := by have := HX6.out.told; rw [htl] at this; exact this.alloc _
          have HN6 : RowKit.Hid (∀ j u, ([.int .i64 x.1, .string x.2] : List Value)[j]? = some u → (w6.alloc (.cells #[.int .i64 x.1, .string x.2] 46)).drew.cell? ((⟨w6.heap.size, 0, none⟩ : Addr).add j) = some u) := World.news_of_block (show ((w6.alloc (.cells #[.int .i64 x.1, .string x.2] 46)).drew).heap[w6.heap.size]? = _ from heap_alloc_new w6 _)
          have B1 : tl + 1 ≤ maxLen := by unfold maxLen; omega
          have B2 : (tl + 1) * 24 ≤ 140737488355328 := by omega
          have B3 : B ≤ (w6.alloc (.cells #[.int .i64 x.1, .string x.2] 46)).drew.heap.size := by show B ≤ (w6.alloc (.cells #[.int .i64 x.1, .string x.2] 46)).heap.size; simp; omega
          have hk2 : (Value.slice ta' tl tc').ownBlock = (Value.slice ta' T'.length tc').ownBlock := by cases ta' <;> rfl
          have hcA : (w6.alloc (.cells #[.int .i64 x.1, .string x.2] 46)).cell? ⟨p, 2, none⟩ = some (.slice ta' tl tc') := by
            have hp0 : p < w6.heap.size := HX6.out.P.lt
            rw [World.cell?_alloc_lt _ _ _ (by exact hp0)]; exact c2
          clear htl hbd hle A1 A2 A3
          go_region_law (first | (refine step_append_lies _ rfl (.tmp 35) (.tmp 42) 56 rfl B 46 i0 (.agg #[.int .i64 0, .string ⟨#[]⟩]) 2 24 Tryz.underlying56 HI.out HZ0.out HZ1.out HZ2.out rfl (by decide) (.slice ta' tl tc') tl (T'.flatMap KeyL.cells) (by kernel_rfl) hP1.out ⟨w6.heap.size, 0, none⟩ 1 1 [.int .i64 x.1, .string x.2] (by kernel_rfl) rfl HN6.out HA4.out (by decide) B1 B2 B3 (w6.heap.size + 1) (by simp) ?_; intro g2 c2' w8 hown hgr hat hlt; have HO8 := Lib.hid hown; have HAT := Lib.hid hat; have hF8 : Frm (fun i => (Value.slice ta' T'.length tc').ownBlock = some i) w6 w8 := (((Frm.refl (fun i => (Value.slice ta' T'.length tc').ownBlock = some i) w6).alloc (.cells #[.int .i64 x.1, .string x.2] 46)).drew).trans (Frm.grown (S := fun i => (Value.slice ta' T'.length tc').ownBlock = some i) hgr (fun _ h => hk2.symm.trans h)) (fun i h _ => h); have hP8 := HX6.out.P.frm hF8 (fun e => ownsRow_ne HX6.out.told HX6.out.P (by decide) p e rfl); have p8 : w8.cell? ⟨p, 2, none⟩ = some (.slice ta' T'.length tc') := (hP8.cell 2).trans rfl; have f8 := hP8.frozen 2; have HF8 := Lib.hid hF8; clear hown hgr hat hF8 hP8))
          all_goals
            have htl := HTL.out
            subst htl
            have hat8 : (Value.slice ta' T'.length tc').ownBlock = some g2 ∨ w6.heap.size ≤ g2 := HAT.out.imp id (fun h => by omega)
            have hX9 := mg_told HX6.out (x := x) hT1 HF8.out hat8 HO8.out
            have hF9 : Frm (fun i => i = p) w8 (w8.setCell ⟨p, 2, none⟩ (.slice (some ⟨g2, 0, none⟩) (T'.length + 1 : Nat) c2')) := (Frm.refl (fun i => i = p) w8).setCell _ _ (.inl rfl)
            have hO9 := ownsRow_frm (ownsRow_frm HO6.out HF8.out (fun j hj e => (HA6.out j hj).1 e)) hF9 (fun j hj e => ownsRow_ne HO6.out HX6.out.P (by decide) j hj e)
            have hA9 := ApartL.told (told' := .slice (some ⟨g2, 0, none⟩) (T' ++ [x]).length c2') HA6.out HG6.out rfl hat8
            have hBK9 := (HBK6.out.frm HF8.out (fun e => ownsRow_ne HX6.out.told HBK6.out (by decide) sb e rfl)).frm hF9 (fun e => blk_ne HBK6.out HX6.out.P (by decide) e)
            have hB9 := (HB6.out.trans HF8.out (fun i h hi => by rcases HTB.out i h with h | h; exact .inr (.inr h); omega)).trans hF9 (fun i h hi => .inl h)
            have HX9 := Lib.hid hX9
            have HO9 := Lib.hid hO9
            have HA9 := Lib.hid hA9
            have HBK9 := Lib.hid hBK9
            have HB9 := Lib.hid hB9
            have HTB9 : RowKit.Hid (TBk w told0 (.slice (some ⟨g2, 0, none⟩) (T' ++ [x]).length c2')) := fun g' h' => by
              simp only [Value.ownBlock, Option.some.injEq] at h'
              subst h'
              rcases hat8 with h | h
              · exact HTB.out _ h
              · exact .inr (Nat.le_trans hsz6 h)
            have t6' := (ShAt.of_row hX9.G HM.out).c2.2.2.2.2.2.2
            rw [HWA.out, HK.out] at t6'
            have f6 := hX9.G.frozen (b * 7 + 6)
            have y0' : (w8.setCell ⟨p, 2, none⟩ (.slice (some ⟨g2, 0, none⟩) (T'.length + 1 : Nat) c2')).cell? ⟨sb, 0, none⟩ = some (.pointer (some ⟨gs, b * 7, none⟩)) := (hBK9.cell 0).trans rfl
            have hrd := (hX9.sh b m s HM.out HS.out).waits
            have k3 : k + 1 ≤ m.wc := by have := hrd.2.1; rw [HK.out] at this; exact this
            have k4 : m.wc ≤ maxLen := hrd.2.2.1
            unfold maxLen at k4
            have k5 : (0 : Int) ≤ 1 := by decide
            clear hat8 hX9 hF9 hO9 hA9 hBK9 hB9 hrd p8 f8 HF8 HO8 HX6 HO6 HA6 HBK6 HB6 HG6 t6 z0 z1 y0 c2 hcA hP1 HN6
            generalize w8.setCell ⟨p, 2, none⟩ (.slice (some ⟨g2, 0, none⟩) (T'.length + 1 : Nat) c2') = w9 at *
            go_wp2_with fail
            go_region
            obtain ⟨o', ho', he'⟩ : ∃ o', (1 < m.wn → o' = wo + 2) ∧ (if m.wc = 1 then some (⟨wb, wo, none⟩ : Addr) else some ⟨wb, wo + 2, none⟩) = some ⟨wb, o', none⟩ := by
              by_cases h : m.wc = 1
              · exact ⟨wo, fun h' => by have := HK.out; omega, by rw [if_pos h]⟩
              · exact ⟨wo + 2, fun _ => rfl, by rw [if_neg h]⟩
            rw [he']
            have hf : Frm (fun i => i = gs) w9 (w9.setCell ⟨gs, b * 7 + 6, none⟩ (.slice (some ⟨wb, o', none⟩) k (m.wc - 1))).drew := ((Frm.refl (fun i => i = gs) w9).setCell _ _ (.inl rfl)).drew
            have hg : Blk (w9.setCell ⟨gs, b * 7 + 6, none⟩ (.slice (some ⟨wb, o', none⟩) k (m.wc - 1))).drew gs 235 ((M'.set b (m.less wb o')).flatMap MS.cells ++ sp) := by
              have h7 := Blk.set HX9.out.G (b * 7 + 6) (.slice (some ⟨wb, o', none⟩) k (m.wc - 1))
              rw [show (.slice (some ⟨wb, o', none⟩) k (m.wc - 1) : Value) = .slice (some ⟨wb, o', none⟩) (m.wn - 1) (m.wc - 1) from by rw [HK.out]; rfl] at h7 ⊢
              rw [row_less HM.out] at h7
              exact h7
            have hX := Lib.hid (mg_set HX9.out (k := b) (m' := m.less wb o') (s' := s.less) hf hg (fun _ => ((HX9.out.sh b m s HM.out HS.out).frm hf (fun b' o sp e => by obtain ⟨cs, hb⟩ := (HX9.out.sh b m s HM.out HS.out).ty b' o sp e; exact blk_ne hb HX9.out.G (by decide))).less HWA.out H00.out o' ho'))
            have hO := Lib.hid (ownsRow_frm HO9.out hf (fun j hj e => ownsRow_ne HO9.out HX9.out.G (by decide) j hj e))
            have hA := Lib.hid (HA9.out.set HM.out HWA.out o')
            have hBz := Lib.hid (HB9.out.trans hf (fun i h _ => .inr (.inl h)))
            have hTz := HLT.out
            have hLz := HL.out.1
            have hWz := HL.out.2.set (o' := o') (m' := m.less wb o') HM.out HWA.out rfl
            go_wp2_with fail
            go_roundw
            case rel => exact ⟨S'.set b s.less, T' ++ [x], out ++ [x], M'.set b (m.less wb o'), some ⟨g2, 0, none⟩, c2', some ⟨g, 0, none⟩, cap, by rw [List.length_append]; rfl, hX.out, by rw [List.length_append, List.flatMap_append, List.flatMap_singleton]; exact hO.out, hA.out, hBz.out, HTB9.out, by rw [List.length_append, List.length_singleton]; unfold RowKit.Hid; omega, HRR.out, ⟨by rw [List.length_append, List.length_append, List.length_singleton]; omega, hWz⟩⟩
            case measure => simp [teM]; omega
end
end Go.Proofs.YtinkbgeckjbnbaaGreat
namespace Go.Proofs.YtinkbgeckjbnbaaGreat
section
open Go.RowKit
set_option linter.unusedVariables false

def OwnM (w0 w : World) (p : Nat) (n : Int) (S : List PS) (T : List KeyL) : Prop := MG w0.heap.size w p n S T ∧ Below w0.heap.size w0 w
set_option maxRecDepth 100000 in
theorem OwnM.below {w0 w w' : World} {p : Nat} {n : Int} {S : List PS} {T : List KeyL} (h : OwnM w0 w p n S T) (hb : Below w.heap.size w w') : OwnM w0 w' p n S T := ⟨h.1.below hb, h.2.trans (hb.mono h.2.size)⟩
end
end Go.Proofs.YtinkbgeckjbnbaaGreat
namespace Go.Proofs.YtinkbgeckjbnbaaGreat
section
open Go.RowKit
set_option linter.unusedVariables false

/-- the owners agree below n -/
def AgO (n : Nat) (O O' : Own) : Prop := ∀ b, b < n → O' b = O b
set_option maxRecDepth 100000 in
theorem AgO.refl (n : Nat) (O : Own) : AgO n O O := fun _ _ => rfl
set_option maxRecDepth 100000 in
theorem AgO.trans {n m : Nat} {O O' O'' : Own} (h : AgO n O O') (k : AgO m O' O'') (hm : n ≤ m) : AgO n O O'' := fun b hb => (k b (by omega)).trans (h b hb)
set_option maxRecDepth 100000 in
theorem AgO.upd (n t : Nat) (O : Own) : AgO n O (O.upd n t) := fun b hb => Own.upd_lt hb
set_option maxRecDepth 100000 in
theorem AgO.upd' {n m : Nat} (h : n ≤ m) (t : Nat) (O : Own) : AgO n O (O.upd m t) := fun b hb => Own.upd_lt (by omega)
/-- the coordinator's tags -/
def ct (i : Nat) : Nat := 8 * i + 1
set_option maxRecDepth 100000 in
theorem ct_ne {i j : Nat} (h : i ≠ j) : ct i ≠ ct j := by unfold ct; omega
set_option maxRecDepth 100000 in
theorem ct_mod (i : Nat) : ct i % 8 = 1 := by unfold ct; omega
/-- a row of rows of seven -/
def rowF (F : Nat → List Value) (n : Nat) : List Value := (List.range n).flatMap F
set_option maxRecDepth 100000 in
theorem rowF_succ (F : Nat → List Value) (n : Nat) : rowF F (n + 1) = rowF F n ++ F n := by unfold rowF; rw [List.range_succ, List.flatMap_append]; simp
set_option maxRecDepth 100000 in
theorem rowF_len {F : Nat → List Value} (hF : ∀ i, (F i).length = 7) (n : Nat) : (rowF F n).length = n * 7 := by unfold rowF; rw [flatMap_len F 7 hF, List.length_range]
set_option maxRecDepth 100000 in
theorem rowF_get {F : Nat → List Value} (hF : ∀ i, (F i).length = 7) {n i j : Nat} (hi : i < n) (hj : j < 7) : (rowF F n)[i * 7 + j]? = (F i)[j]? := by
  unfold rowF; rw [flatMap_get F 7 hF _ _ _ hj, List.getElem?_range hi]; rfl
set_option maxRecDepth 100000 in
theorem rowF_cong {F G : Nat → List Value} {n : Nat} (h : ∀ i, i < n → F i = G i) : rowF F n = rowF G n := by
  induction n with
  | zero => rfl
  | succ n ih => rw [rowF_succ, rowF_succ, ih (fun i hi => h i (by omega)), h n (by omega)]
set_option maxRecDepth 100000 in
theorem rowF_set {F : Nat → List Value} (hF : ∀ i, (F i).length = 7) {n i j : Nat} (hi : i < n) (hj : j < 7) (v : Value) : (rowF F n).set (i * 7 + j) v = rowF (fun x => if x = i then (F i).set j v else F x) n := by
  induction n with
  | zero => omega
  | succ n ih =>
    rw [rowF_succ, rowF_succ]
    by_cases e : i = n
    · subst e
      rw [List.set_append_right _ _ (by rw [rowF_len hF]; omega), rowF_len hF, show i * 7 + j - i * 7 = j from by omega, if_pos rfl]
      congr 1
      exact rowF_cong fun x hx => by rw [if_neg (by omega)]
    · rw [List.set_append_left _ _ (by rw [rowF_len hF]; omega), ih (by omega), if_neg (fun q => e q.symm)]
set_option maxRecDepth 100000 in
theorem ownsRow_set {w : World} {base : Nat} {e : TypeId} {size g n cap : Nat} {xs : List Value} (h : w.ownsRow base e size (.slice (some ⟨g, 0, none⟩) n cap) n xs) (j : Nat) (v : Value) (hj : j < xs.length) :
    (w.setCell ⟨g, j, none⟩ v).ownsRow base e size (.slice (some ⟨g, 0, none⟩) n cap) n (xs.set j v) := by
  refine ⟨by rw [List.length_set]; exact h.1, ?_⟩
  rcases h.2 with ⟨h', _⟩ | ⟨g', cap', cur, hv, hb, hg, h1, h2, h3, h4⟩
  · simp at h'
  · simp only [Value.slice.injEq, Option.some.injEq, Addr.mk.injEq, and_true, true_and] at hv
    obtain ⟨rfl, rfl⟩ := hv
    refine .inr ⟨g, cap, cur.setIfInBounds j v, rfl, hb, heap_setCell_same w g j cur e v hg, h1, h2, by simpa using h3, ?_⟩
    rw [Array.toList_setIfInBounds, List.take_set, h4]
set_option maxRecDepth 100000 in
theorem own_lt {w : World} {base : Nat} {e : TypeId} {size n : Nat} {v : Value} {xs : List Value} (h : w.ownsRow base e size v n xs) : ∀ k, v.ownBlock = some k → k < w.heap.size := fun k hk => (h.lt k hk).2
set_option maxRecDepth 100000 in
theorem own_ag {O O' : Own} {t : Nat} {w : World} {base : Nat} {e : TypeId} {size n : Nat} {v : Value} {xs : List Value} (h : w.ownsRow base e size v n xs) (ha : AgO w.heap.size O O') (ho : ∀ k, v.ownBlock = some k → O k = t) : ∀ k, v.ownBlock = some k → O' k = t :=
  fun k hk => (ha k (own_lt h k hk)).trans (ho k hk)
/-- a Merge, all blocks t's -/
def MGo (O : Own) (t : Nat) (w : World) (p : Nat) (n : Int) (S : List PS) (T : List KeyL) : Prop :=
  ∃ gs c M sp ta tc, MGx 0 w p n S T gs c M sp ta tc ∧ O p = t ∧ O gs = t ∧ (∀ k, (Value.slice ta T.length tc).ownBlock = some k → O k = t) ∧ ∀ (i : Nat) (m : MS), M[i]? = some m → ∀ b o s, m.wa = some ⟨b, o, s⟩ → O b = t
set_option maxRecDepth 100000 in
theorem ShOK.lt {B : Nat} {W : World} {toV : Option Nat} {m : MS} {s : PS} (h : ShOK B W toV m s) : ∀ b o sp, m.wa = some ⟨b, o, sp⟩ → b < W.heap.size := fun b o sp e => by obtain ⟨cs, hb⟩ := h.ty b o sp e; exact hb.lt
set_option maxRecDepth 100000 in
theorem MGx.shlt {B : Nat} {W : World} {p : Nat} {n : Int} {S : List PS} {T : List KeyL} {gs c : Nat} {M : List MS} {sp : List Value} {ta : Option Addr} {tc : Nat} (h : MGx B W p n S T gs c M sp ta tc) {i : Nat} {m : MS} (hm : M[i]? = some m) : ∀ b o s, m.wa = some ⟨b, o, s⟩ → B ≤ b ∧ b < W.heap.size := fun b o s e => by
  have hi : i < S.length := by rw [← h.len]; exact (List.getElem?_eq_some_iff.1 hm).1
  have hs := h.sh i m _ hm (List.getElem?_eq_getElem hi)
  exact ⟨hs.base b o s e, hs.lt b o s e⟩
set_option maxRecDepth 100000 in
theorem MGo.frm {O O' : Own} {t : Nat} {F : Nat → Prop} {w w' : World} {p : Nat} {n : Int} {S : List PS} {T : List KeyL} (h : MGo O t w p n S T) (hf : Frm F w w') (hF : ∀ b, b < w.heap.size → O b = t → ¬ F b) (ha : AgO w.heap.size O O') : MGo O' t w' p n S T := by
  obtain ⟨gs, c, M, sp, ta, tc, hX, o1, o2, o3, o4⟩ := h
  have hf' : Frm (fun b => b < w.heap.size ∧ F b) w w' := hf.mono (fun i h1 h2 => ⟨h2, h1⟩)
  refine ⟨gs, c, M, sp, ta, tc, hX.keep hf' (fun k hk => ⟨?_, ?_, ?_, ?_⟩), (ha p hX.P.lt).trans o1, (ha gs hX.G.lt).trans o2, own_ag hX.told ha o3, fun i m hm b o s e => (ha b (hX.shlt hm b o s e).2).trans (o4 i m hm b o s e)⟩
  · rintro rfl; exact hF _ hk.1 o1 hk.2
  · rintro rfl; exact hF _ hk.1 o2 hk.2
  · intro e; exact hF _ hk.1 (o3 k e) hk.2
  · intro i m hm b o s e q; subst q; exact hF _ hk.1 (o4 i m hm b o s e) hk.2
set_option maxRecDepth 100000 in
theorem MGo.mg {O : Own} {t : Nat} {w : World} {p : Nat} {n : Int} {S : List PS} {T : List KeyL} (h : MGo O t w p n S T) : MG 0 w p n S T := by
  obtain ⟨gs, c, M, sp, ta, tc, hX, _⟩ := h; exact hX.mg
set_option maxRecDepth 100000 in
theorem MGx.to0 {B : Nat} {W : World} {p : Nat} {n : Int} {S : List PS} {T : List KeyL} {gs c : Nat} {M : List MS} {sp : List Value} {ta : Option Addr} {tc : Nat} (h : MGx B W p n S T gs c M sp ta tc) : MGx 0 W p n S T gs c M sp ta tc :=
  ⟨h.P, h.G, h.hc, h.hm, own0 h.told (Nat.zero_le _), h.len, fun i m s h1 h2 => by have q := h.sh i m s h1 h2; exact ⟨q.least, q.seq, q.ended, q.heard, q.last, q.waits, fun _ _ _ _ => Nat.zero_le _, q.apart, q.small, q.ty⟩, Nat.zero_le _, Nat.zero_le _, h.bd⟩
set_option maxRecDepth 100000 in
theorem mgo_new {O : Own} (t : Nat) (a : Option Addr) (m cap : Nat) (l : List Int) (n : Int) (w : World) (hr : Rd w a m cap (ints l)) (h1 : 1 ≤ m) (h2 : m ≤ 6) (h3 : 1 ≤ n) (h4 : n ≤ 10) :
    Calls Tryz.prog 65 #[.slice a m cap, .int .i64 n] w fun e w' => e = .returned (.tuple #[.pointer (some ⟨w.heap.size, 0, none⟩), .int .i64 0]) ∧ MGo (O.upd w.heap.size t) t w' w.heap.size n (l.map newPS) [] ∧ Below w.heap.size w w' := by
  refine (mnew_any a m cap l n w hr h1 h2 h3 h4).mono ?_
  rintro e w' ⟨rfl, hM, hb⟩
  obtain ⟨gs, c, M, sp, ta, tc, hX⟩ := hM.x
  exact ⟨rfl, ⟨gs, c, M, sp, ta, tc, hX.to0, Own.upd_ge hX.bp, Own.upd_ge hX.bg, fun k hk => Own.upd_ge (own_ge hX.told k hk), fun i m hm b o s e => Own.upd_ge (hX.shlt hm b o s e).1⟩, hb⟩
set_option maxRecDepth 100000 in
theorem mgo_tell {O : Own} {t : Nat} {w : World} {p : Nat} {n : Int} {S S' : List PS} {T T' l : List KeyL} (h : MGo O t w p n S T) (hT : (T.length : Int) ≤ n) (he : tellP n S T = (l, S', T')) :
    Calls Tryz.prog 113 #[.pointer (some ⟨p, 0, none⟩)] w fun e w' => ∃ ao c, e = .returned (.slice ao l.length c) ∧ w'.ownsRow w.heap.size 46 2 (.slice ao l.length c) l.length (l.flatMap KeyL.cells) ∧ MGo (O.upd w.heap.size t) t w' p n S' T' ∧ OFrm O t w w' := by
  obtain ⟨gs, c, M, sp, ta, tc, hX, o1, o2, o3, o4⟩ := h
  refine (tell_any2 0 p n S T w gs c M sp ta tc hX hT (Nat.zero_le _)).mono ?_
  rw [he]
  rintro e w' ⟨ao, c', rfl, ho, ⟨M', ta', tc', hM, hB, _, hW⟩, hf⟩
  have hu := AgO.upd w.heap.size t O
  refine ⟨ao, c', rfl, ho, ⟨gs, c, M', sp, ta', tc', hM, (hu p hX.P.lt).trans o1, (hu gs hX.G.lt).trans o2, fun k hk => ?_, fun i m hm b o s e => ?_⟩, OFrm.of hf (fun b hb _ => ?_)⟩
  · rcases hB k hk with h1 | h1
    · exact own_ag hX.told hu o3 k h1
    · exact Own.upd_ge h1
  · obtain ⟨j, y, o', s', hy, ey⟩ := hW i m hm b o s e
    exact (hu b (hX.shlt hy b o' s' ey).2).trans (o4 j y hy b o' s' ey)
  · rcases hb with rfl | rfl | hb
    · exact o1
    · exact o2
    · exact o3 b hb
end
end Go.Proofs.YtinkbgeckjbnbaaGreat
