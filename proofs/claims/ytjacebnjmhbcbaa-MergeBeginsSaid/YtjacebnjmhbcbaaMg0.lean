/- Merges: the plain model; how a Merge lies in memory. -/
import Derived.Test.YtjacebnjmhbcbaaItems
namespace Go.Proofs.Ytjacebnjmhbcbaa
open Go.RowKit
set_option linter.unusedVariables false

/-- a shard, plainly -/
structure PS where
  least : Int
  seq : Int
  ended : Bool
  heard : Bool
  last : KeyL
  waits : List KeyL
def PS.wanted (s : PS) : Bool := !s.ended && decide (s.waits.length = 0)
def PS.might (s : PS) (x : KeyL) : Bool := if s.wanted = false then false else if s.heard = true then kless s.last x else decide (s.least ≤ x.1)
def PS.open_ (s : PS) : Bool := !s.ended || decide (0 < s.waits.length)
def doneP (n : Int) (S : List PS) (T : List KeyL) : Bool := decide ((T.length : Int) = n) || !(S.any PS.open_)
def headP (s : PS) : KeyL := s.waits.headD (0, ⟨#[]⟩)
/-- the first of those whose head is ahead of all others, of the first i shards -/
def aheadP (S : List PS) : Nat → Option Nat
  | 0 => none
  | i + 1 => match S[i]?, aheadP S i with
    | none, r => r
    | some s, none => if s.waits.length = 0 then none else some i
    | some s, some b => if s.waits.length = 0 then some b else match S[b]? with
      | none => some b
      | some t => if kless (headP s) (headP t) = true then some i else some b
/-- those that are wanted, of the first k shards -/
def wantK (S : List PS) (k : Nat) : List Int := ((List.range k).filter fun i => match S[i]? with | some s => s.wanted | none => false).map fun i : Nat => (i : Int)
def wantsP (n : Int) (S : List PS) (T : List KeyL) : List Int := if doneP n S T = true then [] else wantK S S.length
/-- a shard as it lies -/
structure MS where
  least : Int
  seq : Int
  ended : Bool
  heard : Bool
  last : KeyL
  wa : Option Addr
  wn : Nat
  wc : Nat
def MS.cells (s : MS) : List Value := [.int .i64 s.least, .int .i64 s.seq, .bool s.ended, .bool s.heard, .int .i64 s.last.1, .string s.last.2, .slice s.wa s.wn s.wc]
theorem MS.clen (s : MS) : s.cells.length = 7 := rfl
/-- m is s, its waits lie from block B on, not in block to -/
structure ShOK (B : Nat) (W : World) (to : Option Nat) (m : MS) (s : PS) : Prop where
  least : m.least = s.least
  seq : m.seq = s.seq
  ended : m.ended = s.ended
  heard : m.heard = s.heard
  last : m.last = s.last
  waits : RdE KeyL.cells 2 W m.wa m.wn m.wc s.waits
  base : ∀ b o sp, m.wa = some ⟨b, o, sp⟩ → B ≤ b
  apart : ∀ b o sp, m.wa = some ⟨b, o, sp⟩ → to ≠ some b
  small : s.waits.length ≤ 5
  ty : ∀ b o sp, m.wa = some ⟨b, o, sp⟩ → ∃ cs, Blk W b 31 cs
theorem ShOK.wlen {B : Nat} {W : World} {to : Option Nat} {m : MS} {s : PS} (h : ShOK B W to m s) : m.wn = s.waits.length := h.waits.1.symm
/-- a Merge at p: n wanted, shards S, told T -/
def MG (B : Nat) (W : World) (p : Nat) (n : Int) (S : List PS) (T : List KeyL) : Prop :=
  ∃ (gs c : Nat) (M : List MS) (sp : List Value) (ta : Option Addr) (tc : Nat),
    Blk W p 72 [.int .i64 n, .slice (some ⟨gs, 0, none⟩) S.length c, .slice ta T.length tc] ∧ Blk W gs 74 (M.flatMap MS.cells ++ sp) ∧ S.length ≤ c ∧ c ≤ maxLen ∧
    W.ownsRow B 31 2 (.slice ta T.length tc) T.length (T.flatMap KeyL.cells) ∧ M.length = S.length ∧ (∀ (i : Nat) (m : MS) (s : PS), M[i]? = some m → S[i]? = some s → ShOK B W (Value.slice ta T.length tc).ownBlock m s) ∧ B ≤ p ∧ B ≤ gs ∧ S.length ≤ 6 ∧ T.length ≤ 10 ∧ 1 ≤ n ∧ n ≤ 10
theorem RdE.frm {α : Type} {enc : α → List Value} {size : Nat} {S : Nat → Prop} {w w' : World} {a : Option Addr} {n c : Nat} {l : List α} (h : RdE enc size w a n c l) (hf : Frm S w w') (hs : ∀ b o sp, a = some ⟨b, o, sp⟩ → ¬ S b) : RdE enc size w' a n c l := by
  obtain ⟨h1, h2, h3, h4, h5⟩ := h
  refine ⟨h1, h2, h3, h4, fun i x hx => ?_⟩
  obtain ⟨b, off, e, hb, hc⟩ := h5 i x hx
  exact ⟨b, off, e, Nat.lt_of_lt_of_le hb hf.size, fun j hj => by rw [World.cell?_of_block (w := w) (hf.block b hb (hs b off none e))]; exact hc j hj⟩
theorem ShOK.frm {B : Nat} {S : Nat → Prop} {W W' : World} {to : Option Nat} {m : MS} {s : PS} (h : ShOK B W to m s) (hf : Frm S W W') (hs : ∀ b o sp, m.wa = some ⟨b, o, sp⟩ → ¬ S b) : ShOK B W' to m s :=
  ⟨h.least, h.seq, h.ended, h.heard, h.last, h.waits.frm hf hs, h.base, h.apart, h.small, fun b o sp e => by
    obtain ⟨cs, hb⟩ := h.ty b o sp e
    exact ⟨cs, hb.frm hf (hs b o sp e)⟩⟩
theorem MG.frm {B : Nat} {X : Nat → Prop} {W W' : World} {p : Nat} {n : Int} {S : List PS} {T : List KeyL} (h : MG B W p n S T) (hf : Frm X W W') (hx : ∀ k, X k → B ≤ k → ∃ t cs, Blk W k t cs ∧ t ≠ 72 ∧ t ≠ 74 ∧ t ≠ 31) : MG B W' p n S T := by
  obtain ⟨gs, c, M, sp, ta, tc, h1, h2, h3, h4, h5, h6, h7, h8, h9, h10⟩ := h
  refine ⟨gs, c, M, sp, ta, tc, h1.frm hf (fun e => ?_), h2.frm hf (fun e => ?_), h3, h4, ownsRow_frm h5 hf (fun k hk e => ?_), h6, fun i m s hm hs => (h7 i m s hm hs).frm hf (fun b o sp e hX => ?_), h8, h9, h10⟩
  · obtain ⟨t, cs, hb, n1, n2, n3⟩ := hx p e h8
    exact blk_ne hb h1 n1 rfl
  · obtain ⟨t, cs, hb, n1, n2, n3⟩ := hx gs e h9
    exact blk_ne hb h2 n2 rfl
  · obtain ⟨t, cs, hb, n1, n2, n3⟩ := hx k e (h5.lt k hk).1
    exact ownsRow_ne h5 hb n3 k hk rfl
  · obtain ⟨t, cs, hb, n1, n2, n3⟩ := hx b hX ((h7 i m s hm hs).base b o sp e)
    obtain ⟨cs2, hb2⟩ := (h7 i m s hm hs).ty b o sp e
    exact blk_ne hb hb2 n3 rfl
theorem MG.below {B : Nat} {W W' : World} {p : Nat} {n : Int} {S : List PS} {T : List KeyL} (h : MG B W p n S T) (hb : Below W.heap.size W W') : MG B W' p n S T :=
  h.frm (Frm.below (S := fun _ => False) hb) (fun _ h => h.elim)
/-- a shard's cells -/
def ShAt (W : World) (g o : Nat) (m : MS) : Prop := ∀ j v, m.cells[j]? = some v → W.cell? ⟨g, o + j, none⟩ = some v
theorem ShAt.of_row {W : World} {g : Nat} {M : List MS} {sp : List Value} (h : Blk W g 74 (M.flatMap MS.cells ++ sp)) {i : Nat} {m : MS} (hi : M[i]? = some m) : ShAt W g (i * 7) m := by
  intro j v hv
  have hj : j < 7 := (List.getElem?_eq_some_iff.1 hv).1
  rw [h.cell, flat_get MS.cells 7 MS.clen M sp i m j hi hj, hv]
theorem ShAt.c2 {W : World} {g o : Nat} {m : MS} (h : ShAt W g o m) : W.cell? ⟨g, o, none⟩ = some (.int .i64 m.least) ∧ W.cell? ⟨g, o + 1, none⟩ = some (.int .i64 m.seq) ∧ W.cell? ⟨g, o + 2, none⟩ = some (.bool m.ended) ∧ W.cell? ⟨g, o + 3, none⟩ = some (.bool m.heard) ∧ W.cell? ⟨g, o + 4, none⟩ = some (.int .i64 m.last.1) ∧ W.cell? ⟨g, o + 5, none⟩ = some (.string m.last.2) ∧ W.cell? ⟨g, o + 6, none⟩ = some (.slice m.wa m.wn m.wc) :=
  ⟨h 0 _ rfl, h 1 _ rfl, h 2 _ rfl, h 3 _ rfl, h 4 _ rfl, h 5 _ rfl, h 6 _ rfl⟩
/-- what the calls read of a Merge -/
theorem MG.read {B : Nat} {W : World} {p : Nat} {n : Int} {S : List PS} {T : List KeyL} (h : MG B W p n S T) : ∃ (gs c : Nat) (M : List MS) (ta : Option Addr) (tc : Nat), W.cell? ⟨p, 0, none⟩ = some (.int .i64 n) ∧ W.cell? ⟨p, 1, none⟩ = some (.slice (some ⟨gs, 0, none⟩) S.length c) ∧ W.cell? ⟨p, 2, none⟩ = some (.slice ta T.length tc) ∧ M.length = S.length ∧ (∀ (i : Nat) (m : MS), M[i]? = some m → ShAt W gs (i * 7) m) ∧ (∀ (i : Nat) (m : MS) (s : PS), M[i]? = some m → S[i]? = some s → ShOK B W (Value.slice ta T.length tc).ownBlock m s) ∧ RdE KeyL.cells 2 W ta T.length tc T ∧ p < W.heap.size ∧ gs < W.heap.size ∧ S.length ≤ c := by
  obtain ⟨gs, c, M, sp, ta, tc, h1, h2, h3, h4, h5, h6, h7, h8, h9, h10⟩ := h
  exact ⟨gs, c, M, ta, tc, by rw [h1.cell]; rfl, by rw [h1.cell]; rfl, by rw [h1.cell]; rfl, h6, fun i m hm => ShAt.of_row h2 hm, h7, ownsRow_rdE (enc := KeyL.cells) (fun _ => rfl) rfl h5, h1.lt, h2.lt, h3⟩
theorem MG.bd {B : Nat} {W : World} {p : Nat} {n : Int} {S : List PS} {T : List KeyL} (h : MG B W p n S T) : S.length ≤ 6 ∧ T.length ≤ 10 ∧ 1 ≤ n ∧ n ≤ 10 := by
  obtain ⟨gs, c, M, sp, ta, tc, h1, h2, h3, h4, h5, h6, h7, h8, h9, h10⟩ := h; exact h10
/- the walks of wanted, get -/
theorem wanted_at (g o : Nat) (m : MS) (w : World) (h : ShAt w g o m) : Calls Try.prog 40 #[.pointer (some ⟨g, o, none⟩)] w fun e w' => e = .returned (.bool (!m.ended && decide (m.wn = 0))) ∧ w = w' := by
  obtain ⟨_, _, h2, _, _, _, h6⟩ := h.c2
  clear h
  cases he : m.ended with
  | true =>
    rw [he] at h2
    clear he
    go_enter Try.func40, Try.ntmps40
    go_wp2_with fail
    go_ret
    exact ⟨rfl, rfl⟩
  | false =>
    rw [he] at h2
    clear he
    by_cases h0 : m.wn = 0
    · rw [h0] at h6
      rw [decide_eq_true h0]
      clear h0
      go_enter Try.func40, Try.ntmps40
      go_wp2_with fail
      go_ret
      exact ⟨rfl, rfl⟩
    · rw [decide_eq_false h0]
      have d1 : ((m.wn : Int) == 0) = false := by rw [beq_eq_false_iff_ne]; omega
      clear h0
      go_enter Try.func40, Try.ntmps40
      go_wp2_with fail
      go_ret
      exact ⟨rfl, rfl⟩
theorem get_nil (i : Int) (w : World) : Calls Try.prog 39 #[.pointer none, .int .i64 i] w fun e w' => e = .returned (.pointer none) ∧ w = w' := by
  go_enter Try.func39, Try.ntmps39
  go_wp2_with fail
  go_ret
  exact ⟨rfl, rfl⟩
theorem get_no (p gs n c : Nat) (i : Int) (w : World) (h : w.cell? ⟨p, 1, none⟩ = some (.slice (some ⟨gs, 0, none⟩) n c)) (hi : i < 0 ∨ (n : Int) ≤ i) : Calls Try.prog 39 #[.pointer (some ⟨p, 0, none⟩), .int .i64 i] w fun e w' => e = .returned (.pointer none) ∧ w = w' := by
  have hq1 : ∀ W : World, (binOp .eql 25 (.pointer (some ⟨p, 0, none⟩)) (.pointer none)).run Try.prog W = .ok (.bool false) W := fun W => by kernel_rfl
  by_cases h0 : i < 0
  · clear hi
    go_enter Try.func39, Try.ntmps39
    go_wp2_with fail
    go_ret
    exact ⟨rfl, rfl⟩
  · have h1 : 0 ≤ i := by omega
    have h2 : (n : Int) ≤ i := by omega
    clear hi h0
    go_enter Try.func39, Try.ntmps39
    go_wp2_with fail
    go_ret
    exact ⟨rfl, rfl⟩
theorem get_yes (p gs n c i : Nat) (w : World) (h : w.cell? ⟨p, 1, none⟩ = some (.slice (some ⟨gs, 0, none⟩) n c)) (hi : i < n) : Calls Try.prog 39 #[.pointer (some ⟨p, 0, none⟩), .int .i64 i] w fun e w' => e = .returned (.pointer (some ⟨gs, i * 7, none⟩)) ∧ w = w' := by
  have hq1 : ∀ W : World, (binOp .eql 25 (.pointer (some ⟨p, 0, none⟩)) (.pointer none)).run Try.prog W = .ok (.bool false) W := fun W => by kernel_rfl
  have h1 : (0 : Int) ≤ (i : Int) := by omega
  have h2 : (i : Int) < (n : Int) := by omega
  go_enter Try.func39, Try.ntmps39
  go_wp2_with fail
  go_ret
  exact ⟨rfl, rfl⟩
end Go.Proofs.Ytjacebnjmhbcbaa
