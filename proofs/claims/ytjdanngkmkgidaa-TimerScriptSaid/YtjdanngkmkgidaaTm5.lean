/- What may have changed (Frm); a variable that holds a slice of pairs (VO); the walk of moments.Pop. -/
import Derived.Test.YtjdanngkmkgidaaTm4
namespace Go.Proofs.Ytjdanngkmkgidaa
open Go.RowKit
set_option linter.unusedVariables false

/-- only blocks of S, and new ones, may have changed -/
structure Frm (S : Nat → Prop) (w w' : World) : Prop where
  os : w'.os = w.os
  tape : w'.tape = w.tape
  output : w'.output = w.output
  size : w.heap.size ≤ w'.heap.size
  block : ∀ k, k < w.heap.size → ¬ S k → w'.heap[k]? = w.heap[k]?
theorem Frm.refl (S : Nat → Prop) (w : World) : Frm S w w := ⟨rfl, rfl, rfl, Nat.le_refl _, fun _ _ _ => rfl⟩
theorem Frm.trans {S S' : Nat → Prop} {a b c : World} (h : Frm S a b) (k : Frm S' b c) (hs : ∀ i, S' i → i < a.heap.size → S i) : Frm S a c :=
  ⟨k.os.trans h.os, k.tape.trans h.tape, k.output.trans h.output, Nat.le_trans h.size k.size, fun i hi hn => (k.block i (Nat.lt_of_lt_of_le hi h.size) (fun e => hn (hs i e hi))).trans (h.block i hi hn)⟩
theorem Frm.mono {S S' : Nat → Prop} {a b : World} (h : Frm S a b) (hs : ∀ i, S i → i < a.heap.size → S' i) : Frm S' a b :=
  ⟨h.os, h.tape, h.output, h.size, fun i hi hn => h.block i hi (fun e => hn (hs i e hi))⟩
theorem Frm.grown {S : Nat → Prop} {a b : World} {row : Option Nat} (h : a.grownBy b row) (hs : ∀ g, row = some g → S g) : Frm S a b :=
  ⟨h.os, h.tape, h.output, h.size, fun i hi hn => h.block i hi (fun e => hn (hs i e.symm))⟩
theorem Frm.below {S : Nat → Prop} {a b : World} (h : Below a.heap.size a b) : Frm S a b := ⟨h.os, h.tape, h.output, h.size, fun i hi _ => h.block i hi⟩
theorem Frm.drew {S : Nat → Prop} {a b : World} (h : Frm S a b) : Frm S a b.drew := ⟨h.os, h.tape, h.output, h.size, h.block⟩
theorem Frm.drewN {S : Nat → Prop} {a b : World} (h : Frm S a b) (n : Nat) : Frm S a (b.drewN n) := ⟨h.os, h.tape, h.output, h.size, h.block⟩
theorem Frm.alloc {S : Nat → Prop} {a b : World} (h : Frm S a b) (o : Obj) : Frm S a (b.alloc o) :=
  ⟨h.os, h.tape, h.output, Nat.le_trans h.size (by simp), fun i hi hn => (Below.heap_alloc b o i (Nat.lt_of_lt_of_le hi h.size)).trans (h.block i hi hn)⟩
theorem Frm.setCell {S : Nat → Prop} {a b : World} (h : Frm S a b) (p : Addr) (u : Value) (hp : S p.block ∨ a.heap.size ≤ p.block) : Frm S a (b.setCell p u) :=
  ⟨h.os, h.tape, h.output, by simpa [World.setCell] using h.size, fun i hi hn => (Below.heap_setCell b p u i (by
    rintro rfl
    rcases hp with hp | hp
    · exact hn hp
    · omega)).trans (h.block i hi hn)⟩
theorem Frm.toBelow {S : Nat → Prop} {a b : World} {B : Nat} (h : Frm S a b) (hB : B ≤ a.heap.size) (hs : ∀ i, i < B → ¬ S i) : Below B a b :=
  ⟨h.os, h.tape, h.output, h.size, fun i hi => h.block i (by omega) (hs i hi)⟩
theorem Blk.frm {S : Nat → Prop} {w w' : World} {g : Nat} {e : TypeId} {cs : List Value} (h : Blk w g e cs) (hf : Frm S w w') (hg : ¬ S g) : Blk w' g e cs := by
  unfold Blk at *; rw [hf.block g (Blk.lt h) hg]; exact h
theorem Blk.far {w : World} {g : Nat} {e : TypeId} {cs : List Value} (h : Blk w g e cs) (p : Addr) (u : Value) (hp : g ≠ p.block) : Blk (w.setCell p u) g e cs := (Below.heap_setCell w p u g hp).trans h
theorem HB_last {w : World} {g n : Nat} {f : Nat → One} {sp : List Value} (h : HB w g (n + 1) f sp) : HB w g n f (oneCells (f n) ++ sp) := by
  unfold HB at *
  rw [List.range_succ, List.flatMap_append, List.append_assoc] at h
  simpa using h
theorem HB.frm {S : Nat → Prop} {w w' : World} {g n : Nat} {f : Nat → One} {sp : List Value} (h : HB w g n f sp) (hf : Frm S w w') (hg : ¬ S g) : HB w' g n f sp := Blk.frm h hf hg
theorem fz_of {w : World} {p o : Nat} {T : TypeId} {cs : List Value} (h : Blk w p T cs) : w.frozen? ⟨p, o, none⟩ = false := h.frozen o
set_option maxRecDepth 100000 in
set_option maxHeartbeats 2000000 in
theorem mpop_any (p o g n c : Nat) (T : TypeId) (cs : List Value) (f : Nat → One) (sp : List Value) (w : World) (hp : Blk w p T cs) (ho : cs[o]? = some (.slice (some ⟨g, 0, none⟩) (n + 1 : Nat) c)) (hb : HB w g (n + 1) f sp) (hpg : p ≠ g) (hc : n + 1 ≤ c) (hn : n ≤ 1000) :
    Calls Try.prog 100 #[.pointer (some ⟨p, o, none⟩)] w fun e w' => e = .returned (.iface 81 (.agg #[.int .i64 (f n).1, .int .i64 (f n).2])) ∧ Blk w' p T (cs.set o (.slice (some ⟨g, 0, none⟩) n c)) ∧ Frm (fun k => k = p) w w' := by
  have cv : w.cell? ⟨p, o, none⟩ = some (.slice (some ⟨g, 0, none⟩) (n + 1 : Nat) c) := by rw [hp.cell, ho]
  have x0 := hb.c0 (Nat.lt_succ_self n)
  have x1 := hb.c1 (Nat.lt_succ_self n)
  have fz := fz_of (o := o) hp
  have HP := Lib.hid hp
  have hpl := hp.lt
  have hgl : g < w.heap.size := Blk.lt hb
  clear hp ho
  generalize hx : f n = x at x0 x1 ⊢
  have HX := Lib.hid hx
  have HBB := Lib.hid hb
  clear hx hb
  have k1 : IntKind.i64.wrap (n : Int) = n := IntWalk.i64_in _ (by omega)
  have k2 : (0 : Int) ≤ n := by omega
  have k3 : (n : Int) < (n : Int) + 1 := by omega
  have k4 : (n : Int) ≤ c := by omega
  go_enter Try.func100, Try.ntmps100
  go_wp2_with fail
  go_region
  all_goals go_wp2_with fail
  all_goals go_region
  all_goals go_wp2_with fail
  all_goals go_ret
  all_goals
    refine ⟨rfl, ?_, ?_⟩
    · exact (HP.out.set o _).alloc _
    · have hf : Frm (fun k => k = p) w (w.setCell ⟨p, o, none⟩ (.slice (some ⟨g, 0, none⟩) n c)) := (Frm.refl _ _).setCell _ _ (.inl rfl)
      exact ((hf.alloc _).drew).drew
end Go.Proofs.Ytjdanngkmkgidaa
