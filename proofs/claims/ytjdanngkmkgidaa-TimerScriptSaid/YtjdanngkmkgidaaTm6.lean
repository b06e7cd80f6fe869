/- The walk of moments.Push. -/
import Derived.Test.YtjdanngkmkgidaaTm5
namespace Go.Proofs.Ytjdanngkmkgidaa
open Go.RowKit
set_option linter.unusedVariables false

/-- the pairs f 0, .., f (n - 1) as cells -/
def fl (n : Nat) (f : Nat → One) : List Value := (List.range n).flatMap (fun k => oneCells (f k))
theorem fl_len (n : Nat) (f : Nat → One) : (fl n f).length = n * 2 := by unfold fl; rw [flatMap_len _ 2 (fun _ => rfl), List.length_range]
theorem fl_succ (n : Nat) (f : Nat → One) : fl (n + 1) f = fl n f ++ oneCells (f n) := by unfold fl; rw [List.range_succ, List.flatMap_append]; simp
theorem fl_congr (n : Nat) (f g : Nat → One) (h : ∀ k, k < n → f k = g k) : fl n f = fl n g := by
  induction n with
  | zero => rfl
  | succ n ih => rw [fl_succ, fl_succ, ih (fun k hk => h k (by omega)), h n (by omega)]
/-- variable o of block p holds a slice of the pairs f 0, .., f (n - 1) -/
structure VO (w : World) (p o : Nat) (T : TypeId) (cs : List Value) (ao : Option Addr) (n c : Nat) (f : Nat → One) : Prop where
  blk : Blk w p T cs
  var : cs[o]? = some (.slice ao n c)
  own : w.ownsRow 0 81 2 (.slice ao n c) n (fl n f)
  ty : T ≠ 81
theorem info_one : (Try.prog.info? 81).map (fun i => (i.zero, i.size, i.bytes)) = some (some (.agg #[.int .i64 0, .int .i64 0]), 2, 16) := by kernel_rfl
theorem ownsRow_frm {S : Nat → Prop} {w w' : World} {base e size n : Nat} {v : Value} {xs : List Value} (h : w.ownsRow base e size v n xs) (hf : Frm S w w') (hne : ∀ k, v.ownBlock = some k → ¬ S k) : w'.ownsRow base e size v n xs := by
  refine ⟨h.1, ?_⟩
  rcases h.2 with h2 | ⟨g, cap, cur, hv, hb, hg, h3⟩
  · exact .inl h2
  · refine .inr ⟨g, cap, cur, hv, hb, ?_, h3⟩
    rw [hf.block g (Array.getElem?_eq_some_iff.1 hg).1 (hne g (by rw [hv]; rfl))]
    exact hg
theorem ownsRow_ne {w : World} {base e size n p : Nat} {v : Value} {xs : List Value} {T : TypeId} {cs : List Value} (h : w.ownsRow base e size v n xs) (hp : Blk w p T cs) (hT : T ≠ e) : ∀ k, v.ownBlock = some k → k ≠ p := by
  intro k hk e1
  subst e1
  rcases h.2 with h2 | ⟨g, cap, cur, hv, hb, hg, h3⟩
  · rw [h2.1] at hk; simp [Value.ownBlock] at hk
  · rw [hv] at hk
    simp only [Value.ownBlock, Option.some.injEq] at hk
    subst hk
    unfold Blk at hp
    rw [hp] at hg
    simp at hg
    exact hT hg.2
set_option maxRecDepth 100000 in
set_option maxHeartbeats 2000000 in
theorem mpush_any (p o n c : Nat) (T : TypeId) (cs : List Value) (ao : Option Addr) (f : Nat → One) (x : One) (w : World) (h : VO w p o T cs ao n c f) (hn : n ≤ 999) :
    Calls Try.prog 101 #[.pointer (some ⟨p, o, none⟩), .iface 81 (.agg #[.int .i64 x.1, .int .i64 x.2])] w fun e w' => ∃ g' c', e = .returned (.tuple #[]) ∧ Blk w' p T (cs.set o (.slice (some ⟨g', 0, none⟩) (n + 1 : Nat) c')) ∧ w'.ownsRow 0 81 2 (.slice (some ⟨g', 0, none⟩) (n + 1 : Nat) c') (n + 1) (fl n f ++ oneCells x) ∧ Frm (fun k => k = p ∨ (Value.slice ao n c).ownBlock = some k) w w' ∧ ((Value.slice ao n c).ownBlock = some g' ∨ w.heap.size ≤ g') := by
  obtain ⟨i0, hi, hz0, hz1, hz2⟩ := info_parts info_one
  have HI := Lib.hid hi
  have HZ0 := Lib.hid hz0
  have HZ1 := Lib.hid hz1
  have HZ2 := Lib.hid hz2
  clear hi hz0 hz1 hz2
  obtain ⟨hp, ho, hown, hT⟩ := h
  have cv : w.cell? ⟨p, o, none⟩ = some (.slice ao n c) := by rw [hp.cell, ho]
  have fz := fz_of (o := o) hp
  have hpl := hp.lt
  have HNE := Lib.hid (ownsRow_ne hown hp hT)
  have HP := Lib.hid hp
  have HO := Lib.hid hown
  clear hp ho hown
  have hta : ∀ W : World, (Instr.typeAssert (.iface 81 (.agg #[.int .i64 x.1, .int .i64 x.2])) 20 81 true).run Try.prog W = .ok (.tuple #[.agg #[.int .i64 x.1, .int .i64 x.2], .bool true]) W := fun _ => by kernel_rfl
  go_enter Try.func101, Try.ntmps101
  go_wp2_with fail
  have hF0 : Frm (fun k => k = p ∨ (Value.slice ao n c).ownBlock = some k) w (w.alloc (.cells #[.int .i64 x.1, .int .i64 x.2] 81)) := (Frm.refl _ _).alloc _
  have HF0 := Lib.hid hF0
  have HP0 := Lib.hid (Blk.alloc HP.out (.cells #[.int .i64 x.1, .int .i64 x.2] 81))
  have HO0 := Lib.hid (HO.out.alloc (.cells #[.int .i64 x.1, .int .i64 x.2] 81))
  have hx0 : (w.alloc (.cells #[.int .i64 x.1, .int .i64 x.2] 81)).cell? ⟨w.heap.size, 0, none⟩ = some (.int .i64 x.1) := by rw [cell_of_row _ _ _ _ _ _ (heap_alloc_new w _)]; rfl
  have hx1 : (w.alloc (.cells #[.int .i64 x.1, .int .i64 x.2] 81)).cell? ⟨w.heap.size, 1, none⟩ = some (.int .i64 x.2) := by rw [cell_of_row _ _ _ _ _ _ (heap_alloc_new w _)]; rfl
  have hc0 : (w.alloc (.cells #[.int .i64 x.1, .int .i64 x.2] 81)).cell? ⟨p, o, none⟩ = some (.slice ao n c) := by rw [World.cell?_alloc_lt _ _ _ (by exact hpl)]; exact cv
  have hz : w.heap.size ≤ (w.alloc (.cells #[.int .i64 x.1, .int .i64 x.2] 81)).heap.size := by simp
  clear hF0 HP HO cv fz
  generalize w.alloc (.cells #[.int .i64 x.1, .int .i64 x.2] 81) = W0 at *
  have HO1 : RowKit.Hid ((W0.alloc (.cells #[.int .i64 x.1, .int .i64 x.2] 81)).drew.ownsRow 0 81 2 (.slice ao n c) n (fl n f)) := HO0.out.alloc _
  have HP1 : RowKit.Hid (Blk (W0.alloc (.cells #[.int .i64 x.1, .int .i64 x.2] 81)).drew p T cs) := Blk.alloc HP0.out _
  have HN1 : RowKit.Hid (∀ j u, ([.int .i64 x.1, .int .i64 x.2] : List Value)[j]? = some u → (W0.alloc (.cells #[.int .i64 x.1, .int .i64 x.2] 81)).drew.cell? ((⟨W0.heap.size, 0, none⟩ : Addr).add j) = some u) := World.news_of_block (show ((W0.alloc (.cells #[.int .i64 x.1, .int .i64 x.2] 81)).drew).heap[W0.heap.size]? = _ from heap_alloc_new W0 _)
  have HF1 : RowKit.Hid (Frm (fun k => k = p ∨ (Value.slice ao n c).ownBlock = some k) w (W0.alloc (.cells #[.int .i64 x.1, .int .i64 x.2] 81)).drew) := (HF0.out.alloc _).drew
  have hcA : (W0.alloc (.cells #[.int .i64 x.1, .int .i64 x.2] 81)).cell? ⟨p, o, none⟩ = some (.slice ao n c) := by
    have hp0 : p < W0.heap.size := HP0.out.lt
    rw [World.cell?_alloc_lt _ _ _ (by exact hp0)]; exact hc0
  have A1 : n + 1 ≤ maxLen := by unfold maxLen; omega
  have A2 : (n + 1) * 16 ≤ 140737488355328 := by omega
  have A3 : (0 : Nat) ≤ (W0.alloc (.cells #[.int .i64 x.1, .int .i64 x.2] 81)).drew.heap.size := Nat.zero_le _
  have A4 : ∀ u ∈ ([.int .i64 x.1, .int .i64 x.2] : List Value), u.oneCell' = true := by simp [Value.oneCell']
  have HA4 := Lib.hid A4
  clear A4
  go_region_law (first | (refine step_append_lies _ rfl (.tmp 15) (.tmp 17) 76 rfl 0 81 i0 (.agg #[.int .i64 0, .int .i64 0]) 2 16 Try.underlying76 HI.out HZ0.out HZ1.out HZ2.out rfl (by decide) (.slice ao n c) n (fl n f) (by kernel_rfl) HO1.out ⟨W0.heap.size, 0, none⟩ 1 1 [.int .i64 x.1, .int .i64 x.2] (by kernel_rfl) rfl HN1.out HA4.out (by decide) A1 A2 A3 (W0.heap.size + 1) (by simp) ?_; intro g' c' w2 hown2 hg2 hat hlt; have hP2 := HP1.out.frm (Frm.grown (S := fun k => (Value.slice ao n c).ownBlock = some k) hg2 (fun _ h => h)) (fun e => HNE.out _ e rfl); have hc2 : w2.cell? ⟨p, o, none⟩ = some (.slice ao n c) := (hg2.cell_far ⟨p, o, none⟩ HP1.out.lt (fun e => HNE.out _ e.symm rfl)).trans hcA; have fz2 := fz_of (o := o) hP2; have HP2 := Lib.hid hP2; have HO2 := Lib.hid hown2; have HF2 := Lib.hid (HF1.out.trans (Frm.grown (S := fun k => (Value.slice ao n c).ownBlock = some k) hg2 (fun _ h => h)) (fun i h _ => .inr h)); have HAT := Lib.hid hat; clear hP2 hown2 hg2 hat))
  all_goals go_end0
  all_goals
    have hset : Frm (fun k => k = p) w2 (w2.setCell ⟨p, o, none⟩ (.slice (some ⟨g', 0, none⟩) (n + 1 : Nat) c')) := (Frm.refl _ _).setCell _ _ (.inl rfl)
    have hat := HAT.out
    have hnp : g' ≠ p := by
      rcases hat with h | h
      · exact HNE.out g' h
      · have := HP0.out.lt; omega
    exact ⟨g', c', rfl, HP2.out.set o _, ownsRow_frm HO2.out hset (fun k hk => by simp only [Value.ownBlock, Option.some.injEq] at hk; subst hk; exact hnp), HF2.out.trans hset (fun i h _ => .inl h), hat.imp id (fun h => by omega)⟩
end Go.Proofs.Ytjdanngkmkgidaa
