/- Records, plain; a map of bools that the call made. -/
import Derived.Test.YtjdanngkmkgidaaCfg4
import Derived.Maps.OwnSet
import Derived.Maps.Views
namespace Go.Proofs.Ytjdanngkmkgidaa
open Go.RowKit
set_option linter.unusedVariables false

def wf64 (k : Int) : Prop := (Lit.int .i64 k).wf = true
theorem wf64_of {k : Int} (h1 : -9223372036854775808 ≤ k) (h2 : k ≤ 9223372036854775807) : wf64 k := by
  unfold wf64 Lit.wf
  simp only [IntKind.min, IntKind.max, IntKind.bits, IntKind.signed]
  simp
  omega
theorem zero_bool (w : World) : (zeroValue 4).run Try.prog w = .ok (.bool false) w := by kernel_rfl
theorem plainElem_bool_inv {e : TypeId} (he : Try.prog.underlying e = some .bool) {v : Value} {x : Bool} {ps : List MemPlace} (h : plainElem (H := Unit) Try.prog e v = some (.lit (.bool x), ps)) : v = .bool x := by
  unfold plainElem at h
  split at h
  · simp at h; rw [h.1]
  · rename_i h1; rw [he] at h1; simp at h1
  · rename_i h1; rw [he] at h1; simp at h1
  · simp at h
/-- a map of bools that the call made, and what it answers -/
def MapB (w : World) (b n : Nat) (f : Int → Bool) : Prop := ∃ D : DataW Unit, w.ownsMap Try.prog 3 (plainElem Try.prog 4) b n D ∧ ∀ k, wf64 k → D.atKey (.int .i64 k) (.lit (.bool false)) = .lit (.bool (f k))
theorem MapB.lt {w : World} {b n : Nat} {f : Int → Bool} (h : MapB w b n f) : b < w.heap.size := by obtain ⟨D, h, _⟩ := h; exact h.lt
theorem MapB.made (w : World) : MapB (w.alloc (.map #[] 0)) w.heap.size 0 (fun _ => false) := ⟨_, w.ownsMap_made _ _ _, fun k _ => rfl⟩
theorem MapB.look {w : World} {b n : Nat} {f : Int → Bool} (h : MapB w b n f) {k : Int} (hk : wf64 k) : (Instr.lookup 100 (.map (some b)) (.int .i64 k) false).run Try.prog w = .ok (.bool (f k)) w := by
  obtain ⟨D, h, hf⟩ := h
  obtain ⟨v, ps, hrun, hv⟩ := h.lookup (Maps.int_keyed Try.underlying3) Try.underlying100 (zero_bool w) (plainElem_bool Try.underlying4 false) (Maps.keyOf_int_mk Try.underlying3 hk)
  rw [hf k hk] at hv
  rw [hrun, plainElem_bool_inv Try.underlying4 hv]
theorem MapB.kept {w w' : World} {b n : Nat} {f : Int → Bool} {row : Option Nat} (h : MapB w b n f) (hg : w.grownBy w' row) (hne : some b ≠ row) : MapB w' b n f := by
  obtain ⟨D, h, hf⟩ := h; exact ⟨D, h.kept hg hne, hf⟩
theorem MapB.frm {S : Nat → Prop} {w w' : World} {b n : Nat} {f : Int → Bool} (h : MapB w b n f) (hf : Frm S w w') (hb : ¬ S b) : MapB w' b n f := by
  have hl := h.lt
  obtain ⟨D, ⟨es, clock, h1, h2⟩, h3⟩ := h
  exact ⟨D, ⟨es, clock, (hf.block b hl hb).trans h1, h2⟩, h3⟩
theorem MapB.below {w w' : World} {b n : Nat} {f : Int → Bool} (h : MapB w b n f) (hb : Below w.heap.size w w') : MapB w' b n f := by
  have hl := h.lt
  obtain ⟨D, ⟨es, clock, h1, h2⟩, h3⟩ := h
  exact ⟨D, ⟨es, clock, (hb.block b hl).trans h1, h2⟩, h3⟩
theorem MapB.cong {w : World} {b n : Nat} {f g : Int → Bool} (h : MapB w b n f) (hg : ∀ k, f k = g k) : MapB w b n g := by
  obtain ⟨D, h1, h2⟩ := h; exact ⟨D, h1, fun k hk => by rw [h2 k hk, hg k]⟩
def putB (f : Int → Bool) (key : Int) (v : Bool) (k : Int) : Bool := if k = key then v else f k
theorem wpList_mapB {w : World} {ops : Array Oper} {rest : List Oper} {o : Oper} {a : Act} {Q : Exit → Act → World → Prop}
    (hg : o.guard = none) (m x v : Operand) (hop : o.op = Op.mapUpdate 100 m x v) (b n : Nat) (f : Int → Bool) (hm : a.eval m = .map (some b)) (h : MapB w b n f) (hn : n < maxLen)
    (key : Int) (val : Bool) (hx : a.eval x = .int .i64 key) (hk : wf64 key) (hv : a.eval v = .bool val)
    (hK : ∀ w', MapB w' b (n + 1) (putB f key val) → w.grownBy w' (some b) → wpList Try.prog ops Q rest (a.put o.dst undef) w') : wpList Try.prog ops Q (o :: rest) a w := by
  obtain ⟨D, h, hf⟩ := h
  have him := h.isMap
  refine wpList_mapUpdate_own w hg m x v 100 hop 3 4 (Maps.int_keyed Try.underlying3) Try.underlying100 (plainElem Try.prog 4) b n D hm h hn (.int .i64 key) (.bool val) (.int .i64 key) hx hv (Maps.keyOf_int_mk Try.underlying3 hk) (.lit (.bool val)) [] (plainElem_bool Try.underlying4 val) ?_
  intro w' h1 h2
  refine hK w' ⟨_, h1, fun k hk' => ?_⟩ h2
  unfold putB
  split
  · rename_i e; subst e; rw [Maps.atKey_put_same him (by trivial)]
  · rename_i e; rw [Maps.atKey_put_other (by simpa using e)]; exact hf k hk'
/-- what was sent: its number, from, to -/
abbrev SentL := Int × Int × Int
def SentL.cells (x : SentL) : List Value := [.int .i64 x.1, .int .i64 x.2.1, .int .i64 x.2.2]
structure RecM where
  kind : Int
  node : Int
  at_ : Int
  x : Int
  q : ByteArray
  qk : Int
  qn : Int
  ver : Int
  id : Int
  sa : Option Addr
  sn : Nat
  sc : Nat
  got : Int
  la : Option Addr
  ln : Nat
  lc : Nat
  sent : List SentL
  lost : List Int
def RecM.cells (r : RecM) : List Value := [.int .i64 r.kind, .int .i64 r.node, .int .i64 r.at_, .int .i64 r.x, .string r.q, .int .i64 r.qk, .int .i64 r.qn, .int .i64 r.ver, .int .i64 r.id, .slice r.sa r.sn r.sc, .int .i64 r.got, .slice r.la r.ln r.lc]
theorem RecM.cells_len (r : RecM) : r.cells.length = 12 := rfl
theorem SentL.cells_len (x : SentL) : (SentL.cells x).length = 3 := rfl
structure RecIn (w : World) (r : RecM) : Prop where
  sent : RdE SentL.cells 3 w r.sa r.sn r.sc r.sent
  lost : Rd w r.la r.ln r.lc (ints r.lost)
  ids : ∀ s ∈ r.sent, wf64 s.1
  los : ∀ i ∈ r.lost, wf64 i
  got : wf64 r.got
theorem RecIn.below {w w' : World} {r : RecM} (h : RecIn w r) {B : Nat} (hb : Below B w w') (hB : B = w.heap.size) : RecIn w' r := ⟨h.sent.below hb hB, h.lost.below hb hB, h.ids, h.los, h.got⟩
structure Recs (w : World) (a : Option Addr) (n c : Nat) (l : List RecM) : Prop where
  rd : RdE RecM.cells 12 w a n c l
  all : ∀ r ∈ l, RecIn w r
theorem Recs.below {w w' : World} {a : Option Addr} {n c : Nat} {l : List RecM} (h : Recs w a n c l) {B : Nat} (hb : Below B w w') (hB : B = w.heap.size) : Recs w' a n c l := ⟨h.rd.below hb hB, fun r hr => (h.all r hr).below hb hB⟩
def betw (a b : Int) (s : SentL) : Bool := (decide (s.2.1 = a) && decide (s.2.2 = b)) || (decide (s.2.1 = b) && decide (s.2.2 = a))
def sentIDs (a b : Int) (l : List SentL) : List Int := (l.filter (betw a b)).map (fun s => s.1)
/-- those that were sent between two nodes -/
def betweenL (l : List RecM) (a b : Int) : List Int := l.flatMap fun r => sentIDs a b r.sent
theorem betweenL_snoc (l : List RecM) (r : RecM) (a b : Int) : betweenL (l ++ [r]) a b = betweenL l a b ++ sentIDs a b r.sent := by unfold betweenL; simp
theorem sentIDs_snoc (l : List SentL) (s : SentL) (a b : Int) : sentIDs a b (l ++ [s]) = sentIDs a b l ++ (if betw a b s = true then [s.1] else []) := by
  unfold sentIDs; rw [List.filter_append, List.map_append]; congr 1
  cases h : betw a b s <;> simp [h]
theorem sentIDs_len (l : List SentL) (a b : Int) : (sentIDs a b l).length ≤ l.length := by unfold sentIDs; simp [List.length_filter_le]
/-- is it on a good way? -/
def wayB (l : List RecM) (good : List Int) (k : Int) : Bool := has (good.flatMap (betweenL l 0)) k
end Go.Proofs.Ytjdanngkmkgidaa
