/- msg's writer: small, flag, item. -/
import Derived.Test.YtjhkdbcfkaaffaaMm2
import Derived.StillTailTactics
import Derived.Test.YtjhkdbcfkaaffaaCode5
import Derived.Test.YtjhkdbcfkaaffaaFrm
namespace Go.Proofs.Ytjhkdbcfkaaffaa
open Go.RowKit
set_option linter.unusedVariables false

/-- the writer's block g holds the bytes l, in a row of its own that is no older than B -/
def WAt (B : Nat) (w : World) (g : Nat) (l : List Nat) : Prop := ∃ a c, Blk w g 74 [.slice a l.length c] ∧ w.ownsRow B 5 1 (.slice a l.length c) l.length (u8s l)
def WR (B g : Nat) (l : List Nat) (w : World) (e : Ending) (w' : World) : Prop := e = .returned (.tuple #[]) ∧ WAt B w' g l ∧ Frm (fun i => i = g) w w'
set_option maxRecDepth 100000 in
theorem WAt.alloc {B g : Nat} {l : List Nat} {w : World} (h : WAt B w g l) (o : Obj) : WAt B (w.alloc o) g l := by
  obtain ⟨a, c, hk, ho⟩ := h
  exact ⟨a, c, hk.alloc o, ownsRow_below ho ((Below.refl _ w).alloc (Nat.le_refl _) o)⟩
set_option maxRecDepth 100000 in
/-- a new row stored into the writer's cell -/
theorem WAt.store {B g : Nat} {l l' : List Nat} {w w' : World} {a' : Option Addr} {c' : Nat} (hB : B ≤ w.heap.size) (h : WAt B w g l) (ho : w'.ownsRow w.heap.size 5 1 (.slice a' l'.length c') l'.length (u8s l')) (hb : Below w.heap.size w w') :
    WAt B (w'.setCell ⟨g, 0, none⟩ (.slice a' l'.length c')) g l' ∧ Frm (fun i => i = g) w (w'.setCell ⟨g, 0, none⟩ (.slice a' l'.length c')) := by
  obtain ⟨a, c, hk, _⟩ := h
  have hg := hk.lt
  refine ⟨⟨a', c', ?_, ?_⟩, ?_⟩
  · exact (Blk.below hk hb hg).set 0 _
  · exact own0 (ownsRow_setCell_below ho (a := ⟨g, 0, none⟩) hg _) hB
  · exact (Frm.below hb).setCell _ _ (.inl rfl)
set_option maxRecDepth 100000 in
set_option maxHeartbeats 2000000 in
theorem wsmall_any (B g : Nat) (l : List Nat) (n : Int) (w : World) (hB : B ≤ w.heap.size) (h : WAt B w g l) (hl : l.length ≤ 1000000) (hn : -9223372036854775808 ≤ n ∧ n ≤ 9223372036854775807) :
    Calls Try.prog 36 #[.pointer (some ⟨g, 0, none⟩), .int .i64 n] w (WR B g (putL l n 1) w) := by
  have HW := Lib.hid h
  obtain ⟨a, c, hk, ho⟩ := h
  have HK := Lib.hid hk
  have t0 : w.cell? ⟨g, 0, none⟩ = some (.slice a l.length c) := hk.cell 0
  have HP := Lib.hid (put_any a l.length c l n 1 w (ownsRow_rd ho) (by omega) hn (by omega))
  have hg := hk.lt
  clear hk ho
  go_enter Try.func36, Try.ntmps36
  go_wp2_with fail
  refine HP.out.mono ?_
  rintro e w1 ⟨ao, c1, rfl, hown, hbel⟩
  rw [u8s_length] at hown ⊢
  have HO := Lib.hid hown
  have HB := Lib.hid hbel
  have t1 : w1.cell? ⟨g, 0, none⟩ = some (.slice a l.length c) := (Blk.below HK.out hbel hg).cell 0
  have fz := fz_of (o := 0) (Blk.below HK.out hbel hg)
  clear hown hbel
  go_wp2_with fail
  go_end0
  have := HW.out.store hB HO.out HB.out
  exact ⟨rfl, this.1, this.2⟩
def flagN (f : Bool) : Int := if f then 1 else 0
set_option maxRecDepth 100000 in
set_option maxHeartbeats 2000000 in
theorem wflag_any (B g : Nat) (l : List Nat) (f : Bool) (w : World) (hB : B ≤ w.heap.size) (h : WAt B w g l) (hl : l.length ≤ 1000000) :
    Calls Try.prog 37 #[.pointer (some ⟨g, 0, none⟩), .bool f] w (WR B g (putL l (flagN f) 1) w) := by
  have H1 := Lib.hid (wsmall_any B g l 1 w hB h hl (by omega))
  have H0 := Lib.hid (wsmall_any B g l 0 w hB h hl (by omega))
  clear h
  go_enter Try.func37, Try.ntmps37
  cases f
  · go_wp2_with fail
    refine H0.out.mono ?_
    rintro e w1 ⟨rfl, h2⟩
    go_wp2_with fail
    go_end0
    exact ⟨rfl, h2⟩
  · go_wp2_with fail
    refine H1.out.mono ?_
    rintro e w1 ⟨rfl, h2⟩
    go_wp2_with fail
    go_end0
    exact ⟨rfl, h2⟩
set_option maxRecDepth 100000 in
theorem putL_len1 (l : List Nat) (n : Int) : (putL l n 1).length = l.length + 1 := by
  simp [putL, be_length]; rfl
set_option maxRecDepth 100000 in
theorem putL_len4 (l : List Nat) (n : Int) : (putL l n 4).length = l.length + 4 := by
  simp [putL, be_length]; rfl
def itemL (l : List Nat) (d : Int) (s : ByteArray) : List Nat := putTextL (putL l d 1) s
/- item -/
set_option maxRecDepth 100000 in
set_option maxHeartbeats 2000000 in
theorem witem_any (B g : Nat) (l : List Nat) (d : Int) (s : ByteArray) (w : World) (hB : B ≤ w.heap.size) (h : WAt B w g l) (hl : l.length ≤ 900000) (hn : -9223372036854775808 ≤ d ∧ d ≤ 9223372036854775807) (hs : s.size ≤ 1000000000000) :
    Calls Try.prog 38 #[.pointer (some ⟨g, 0, none⟩), .agg #[.int .i64 d, .string s]] w (WR B g (itemL l d s) w) := by
  have HA := Lib.hid (Frm.alloc (Frm.refl (fun i => i = g) w) (.cells #[.int .i64 d, .string s] 27))
  have HK := Lib.hid (show Blk (w.alloc (.cells #[.int .i64 d, .string s] 27)) w.heap.size 27 [.int .i64 d, .string s] from heap_alloc_new w _)
  have hgs : g < w.heap.size := by obtain ⟨a, c, hk, _⟩ := h; exact hk.lt
  have H1 := Lib.hid (wsmall_any B g l d (w.alloc (.cells #[.int .i64 d, .string s] 27)) (Nat.le_trans hB HA.out.size) (h.alloc _) (by omega) hn)
  have HP := Lib.hid (fun W a c hr => puttext_any a (putL l d 1).length c (putL l d 1) s W hr (by rw [putL_len1]; omega) hs)
  obtain ⟨W, hW⟩ : ∃ W, w.alloc (.cells #[.int .i64 d, .string s] 27) = W := ⟨_, rfl⟩
  rw [hW] at HA HK H1
  clear h
  have x0 : W.cell? ⟨w.heap.size, 0, none⟩ = some (.int .i64 d) := HK.out.cell 0
  have x1 : W.cell? ⟨w.heap.size, 1, none⟩ = some (.string s) := HK.out.cell 1
  go_enter Try.func38, Try.ntmps38
  go_wp2_with (rw [hW])
  refine H1.out.mono ?_
  clear H1 x0 x1 hW
  rintro e V ⟨rfl, hV, hf⟩
  have HF := Lib.hid ((Frm.trans (S := fun i => i = g) HA.out hf (fun i h _ => h)).drew)
  have HV := Lib.hid (show WAt B V.drew g (putL l d 1) from hV)
  have HX := Lib.hid (show Blk V.drew w.heap.size 27 [.int .i64 d, .string s] from Blk.frm (S := fun i => i = g) HK.out hf.drew (fun hh => absurd (show w.heap.size = g from hh) (Nat.ne_of_gt hgs)))
  clear hf HK HA hV
  obtain ⟨a, c, hk, ho⟩ := HV.out
  have HKG := Lib.hid hk
  have t0 : V.drew.cell? ⟨g, 0, none⟩ = some (.slice a (putL l d 1).length c) := hk.cell 0
  have HP2 := Lib.hid (HP.out V.drew a c (ownsRow_rd ho))
  have hg := hk.lt
  have hBV : B ≤ V.drew.heap.size := Nat.le_trans hB HF.out.size
  have HI := Lib.hid (show itemL l d s = putTextL (putL l d 1) s from rfl)
  clear hk ho HP
  generalize itemL l d s = l2 at *
  generalize putL l d 1 = l1 at *
  go_wp2_with fail
  have hx1 : V.drew.cell? ⟨w.heap.size, 1, none⟩ = some (.string s) := HX.out.cell 1
  refine wp_region_held_drew (S := (fun w' => w'.cell? ⟨w.heap.size, 1, none⟩ = some (.string s))) (by kernel_rfl) (by first | exact HX.out.cell 1 | exact HX2.out.cell 1 | exact (Blk.far HX2.out _ _ (Nat.ne_of_gt hgs)).cell 1) (fun hHeld => ?_)
  refine takeO 0 (some 8) (v := ?_) rfl rfl (by kernel_rfl) (by kernel_rfl) (by kernel_rfl) (fun _ _ _ h => h) (Or.inl ⟨by rfl, ?_⟩) (by assumption) ?_
  rotate_left 1
  · intro w hSw; (try dsimp only at hSw); go_simp; all_goals with_reducible rfl
  try simp only [Act.put, List.setIfInBounds_toArray, List.set_cons_zero, List.set_cons_succ]
  refine takeO 1 (some 9) (v := ?_) rfl rfl (by kernel_rfl) (by kernel_rfl) (by kernel_rfl) (fun _ _ _ h => h) (Or.inl ⟨by rfl, ?_⟩) (by assumption) ?_
  rotate_left 1
  · intro w hSw; (try dsimp only at hSw); go_simp; all_goals with_reducible rfl
  try simp only [Act.put, List.setIfInBounds_toArray, List.set_cons_zero, List.set_cons_succ]
  refine takeO 2 (some 10) (v := ?_) rfl rfl (by kernel_rfl) (by kernel_rfl) (by kernel_rfl) (fun _ _ _ h => h) (Or.inl ⟨by rfl, ?_⟩) (by assumption) ?_
  rotate_left 1
  · intro w hSw; (try dsimp only at hSw); go_simp; all_goals with_reducible rfl
  try simp only [Act.put, List.setIfInBounds_toArray, List.set_cons_zero, List.set_cons_succ]
  refine takeO 3 (some 11) (v := ?_) rfl rfl (by kernel_rfl) (by kernel_rfl) (by kernel_rfl) (fun _ _ _ h => h) (Or.inl ⟨by rfl, ?_⟩) (by assumption) ?_
  rotate_left 1
  · intro w hSw; (try dsimp only at hSw); go_simp; all_goals with_reducible rfl
  try simp only [Act.put, List.setIfInBounds_toArray, List.set_cons_zero, List.set_cons_succ]
  refine takeO 5 (some 13) (v := ?_) rfl rfl (by kernel_rfl) (by kernel_rfl) (by kernel_rfl) (fun _ _ _ h => h) (Or.inl ⟨by rfl, ?_⟩) (by assumption) ?_
  rotate_left 1
  · intro w hSw; (try dsimp only at hSw); go_simp; all_goals with_reducible rfl
  try simp only [Act.put, List.setIfInBounds_toArray, List.set_cons_zero, List.set_cons_succ]
  refine takeO 6 (some 14) (v := ?_) rfl rfl (by kernel_rfl) (by kernel_rfl) (by kernel_rfl) (fun _ _ _ h => h) (Or.inl ⟨by rfl, ?_⟩) (by assumption) ?_
  rotate_left 1
  · intro w hSw; (try dsimp only at hSw); go_simp; all_goals with_reducible rfl
  try simp only [Act.put, List.setIfInBounds_toArray, List.set_cons_zero, List.set_cons_succ]
  refine wpAnyH_ready (rs := [4]) (by kernel_rfl) (by simp) ?_
  refine AllReadyH.cons rfl (fun K hK => ?_) AllReadyH.nil
  go_simp
  go_wp2_with fail
  refine hK.out _ _ (by first | exact HX.out.cell 1 | exact HX2.out.cell 1 | exact (Blk.far HX2.out _ _ (Nat.ne_of_gt hgs)).cell 1) (fun hHeld => ?_)
  clear hK K
  try simp only [Act.put, List.setIfInBounds_toArray, List.set_cons_zero, List.set_cons_succ]
  refine wpAnyH_ready (rs := [7]) (by kernel_rfl) (by simp) ?_
  refine AllReadyH.cons rfl (fun K hK => ?_) AllReadyH.nil
  go_simp
  refine HP2.out.mono ?_; rintro e V2 ⟨ao, c2, rfl, hown, hbel⟩; rw [u8s_length] at hown ⊢; have HO := Lib.hid hown; have HBE := Lib.hid hbel; have HX2 := Lib.hid (Blk.below HX.out hbel (Blk.lt HX.out)); have t2 : V2.cell? ⟨g, 0, none⟩ = some (.slice a l1.length c) := (Blk.below HKG.out hbel hg).cell 0; have fz := fz_of (o := 0) (Blk.below HKG.out hbel hg); clear hown hbel
  go_wp2_with fail
  refine hK.out _ _ (by first | exact HX.out.cell 1 | exact HX2.out.cell 1 | exact (Blk.far HX2.out _ _ (Nat.ne_of_gt hgs)).cell 1) (fun hHeld => ?_)
  clear hK K
  try simp only [Act.put, List.setIfInBounds_toArray, List.set_cons_zero, List.set_cons_succ]
  refine takeO 8 (some 16) (v := ?_) rfl rfl (by kernel_rfl) (by kernel_rfl) (by kernel_rfl) (fun _ _ _ h => h) (Or.inl ⟨by rfl, ?_⟩) (by assumption) ?_
  rotate_left 1
  · intro w hSw; (try dsimp only at hSw); go_simp; all_goals with_reducible rfl
  try simp only [Act.put, List.setIfInBounds_toArray, List.set_cons_zero, List.set_cons_succ]
  refine takeO 9 (some 17) (v := ?_) rfl rfl (by kernel_rfl) (by kernel_rfl) (by kernel_rfl) (fun _ _ _ h => h) (Or.inl ⟨by rfl, ?_⟩) (by assumption) ?_
  rotate_left 1
  · intro w hSw; (try dsimp only at hSw); go_simp; all_goals with_reducible rfl
  try simp only [Act.put, List.setIfInBounds_toArray, List.set_cons_zero, List.set_cons_succ]
  refine wpAnyH_ready (rs := [10]) (by kernel_rfl) (by simp) ?_
  refine AllReadyH.cons rfl (fun K hK => ?_) AllReadyH.nil
  go_simp
  go_wp2_with fail
  refine hK.out _ _ (by first | exact HX.out.cell 1 | exact HX2.out.cell 1 | exact (Blk.far HX2.out _ _ (Nat.ne_of_gt hgs)).cell 1) (fun hHeld => ?_)
  clear hK K
  try simp only [Act.put, List.setIfInBounds_toArray, List.set_cons_zero, List.set_cons_succ]
  refine wpAnyH_done (by kernel_rfl) ?_ _
  go_wp2_with fail
  go_end0
  have := HV.out.store hBV HO.out HBE.out
  rw [HI.out]
  exact ⟨rfl, this.1, Frm.trans (S := fun i => i = g) HF.out this.2 (fun i h _ => h)⟩
end Go.Proofs.Ytjhkdbcfkaaffaa
