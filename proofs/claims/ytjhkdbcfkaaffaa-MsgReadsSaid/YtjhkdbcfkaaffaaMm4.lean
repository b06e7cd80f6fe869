/- msg's writer: nums. -/
import Derived.Test.YtjhkdbcfkaaffaaMm3
namespace Go.Proofs.Ytjhkdbcfkaaffaa
open Go.RowKit
set_option linter.unusedVariables false

set_option maxRecDepth 100000 in
theorem Frm.cell {S : Nat → Prop} {w w' : World} (h : Frm S w w') {p : Addr} (hp : p.block < w.heap.size) (hs : ¬ S p.block) : w'.cell? p = w.cell? p := World.cell?_of_block (w := w) (h.block p.block hp hs)
def numsL (l : List Nat) (ns : List Int) : List Nat := ns.foldl (fun l n => putL l n 4) l
set_option maxRecDepth 100000 in
theorem numsL_len (ns : List Int) : ∀ l, (numsL l ns).length = l.length + 4 * ns.length := by
  induction ns with
  | nil => intro l; rfl
  | cons x r ih => intro l; have := ih (putL l x 4); rw [putL_len4] at this; simp only [numsL, List.foldl_cons, List.length_cons] at *; omega
set_option maxRecDepth 100000 in
theorem numsL_next {l : List Nat} {L : List Int} {k : Nat} {x : Int} (h : L[k]? = some x) : putL (numsL l (L.take k)) x 4 = numsL l (L.take (k + 1)) := by
  rw [List.take_add_one, h]
  simp [numsL, List.foldl_append]
set_option maxRecDepth 100000 in
set_option maxHeartbeats 2000000 in
theorem wnums_any (B g : Nat) (l : List Nat) (a : Option Addr) (n c : Nat) (L : List Int) (w : World) (hB : B ≤ w.heap.size) (h : WAt B w g l) (hl : l.length ≤ 900000) (hL : L.length ≤ 10) (hr : Rd w a n c (ints L)) (hne : ∀ b o, a = some ⟨b, o, none⟩ → b ≠ g) (hin : ∀ x ∈ L, -9223372036854775808 ≤ x ∧ x ≤ 9223372036854775807) :
    Calls Try.prog 34 #[.pointer (some ⟨g, 0, none⟩), .slice a n c] w (WR B g (numsL l L) w) := by
  have hn : L.length = n := by rw [← hr.1, ints_len]
  subst hn
  have HR := Lib.hid hr
  have HW := Lib.hid h
  have HIN := Lib.hid hin
  have HNE := Lib.hid hne
  have hgw : g < w.heap.size := by obtain ⟨a, c, hk, _⟩ := h; exact hk.lt
  have HL := Lib.hid (fun k => numsL_len (L.take k) l)
  clear h hr hne hin
  go_enter Try.func34, Try.ntmps34
  go_wp2_with fail
  go_loopw [8] (fun v wr => ∃ k : Nat, k ≤ L.length ∧ v = .int .i64 k ∧ RowKit.Hid (WAt B wr g (numsL l (L.take k))) ∧ RowKit.Hid (Frm (fun i => i = g) w wr)) (fun v _ => L.length - (intOf v).toNat)
  case atStart => exact ⟨0, by omega, rfl, HW.out, Frm.refl _ _⟩
  case round =>
    obtain ⟨k, hk, rfl, HA, HF⟩ := hrel
    by_cases hlt : k < L.length
    · obtain ⟨x, hx⟩ : ∃ x, L[k]? = some x := ⟨_, List.getElem?_eq_getElem hlt⟩
      obtain ⟨bb, ob, rfl, hbb, hc⟩ := HR.out.2.2.2.2 k hlt
      have hxx := HIN.out x (List.mem_of_getElem? hx)
      have cx : wr.cell? ⟨bb, ob + k, none⟩ = some (.int .i64 x) := by rw [Frm.cell HF.out (p := ⟨bb, ob + k, none⟩) hbb (HNE.out bb ob rfl), hc]; simp [ints, hx]
      have HN := Lib.hid (numsL_next (l := l) hx)
      have hlen := HL.out k
      have htk : (L.take k).length = k := by rw [List.length_take]; omega
      obtain ⟨a0, c0, hk0, ho0⟩ := HA.out
      have HK0 := Lib.hid hk0
      have t0 : wr.cell? ⟨g, 0, none⟩ = some (.slice a0 (numsL l (L.take k)).length c0) := hk0.cell 0
      have HP := Lib.hid (put_any a0 (numsL l (L.take k)).length c0 (numsL l (L.take k)) x 4 wr (ownsRow_rd ho0) (by omega) hxx (by omega))
      have hgr := hk0.lt
      have hBr : B ≤ wr.heap.size := Nat.le_trans hB HF.out.size
      have k1 : (0 : Int) ≤ (k : Int) := by omega
      have k2 : (k : Int) < (L.length : Int) := by omega
      clear hx hc hk0 ho0 hlen htk
      generalize numsL l (L.take k) = l1 at *
      go_wp2_with fail
      refine HP.out.mono ?_
      rintro e w1 ⟨ao, c1, rfl, hown, hbel⟩
      rw [u8s_length] at hown ⊢
      have HO := Lib.hid hown
      have HBE := Lib.hid hbel
      have t1 : w1.cell? ⟨g, 0, none⟩ = some (.slice a0 l1.length c0) := (Blk.below HK0.out hbel hgr).cell 0
      have fz := fz_of (o := 0) (Blk.below HK0.out hbel hgr)
      have HS := Lib.hid (HA.out.store hBr HO.out HBE.out)
      clear hown hbel
      go_wp2_with fail
      go_roundw
      case rel => exact ⟨k + 1, by omega, by go_num, by show WAt B _ g _; rw [← HN.out]; exact HS.out.1, Frm.trans (S := fun i => i = g) HF.out HS.out.2 (fun i h _ => h)⟩
      case measure => simp [intOf]; omega
    · obtain rfl : k = L.length := by omega
      have ha := HA.out
      rw [List.take_length] at ha
      go_wp2_with fail
      go_end0
      exact ⟨rfl, ha, HF.out⟩
end Go.Proofs.Ytjhkdbcfkaaffaa
