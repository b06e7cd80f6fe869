/- The walk of the statements' own look (awake), and of the four statements. -/
import Derived.Test.YtcjfiofnidnlaaaSum2
import Derived.Test.YtcjfiofnidnlaaaLend
import Derived.Lib.SlBytesConst
import Derived.OpenShut
namespace Go.Proofs.Ytcjfiofnidnlaaa
open Go.RowKit
set_option linter.unusedVariables false

def nine : List Nat := [49, 50, 51, 52, 53, 54, 55, 56, 57]
theorem nine_sum : addN 0 nine = 3421780262 := by decide +kernel
theorem nil_sum : addN 0 [] = 0 := by decide +kernel
theorem rd_nil (w : World) (xs : List Value) (h : xs = []) : Rd w none 0 0 xs := by
  subst h; exact ⟨rfl, Nat.le_refl _, by unfold maxLen; omega, fun _ => rfl, fun i hi => by omega⟩

theorem rd_new (w : World) (e : TypeId) (fr : Nat × Nat) (cs : Array Value) (n : Nat) (xs : List Value) (hx : cs.toList = xs) (hn : xs.length = n) (hm : n ≤ maxLen) : Rd (w.alloc (.cells cs e fr)) (some ⟨w.heap.size, 0, none⟩) n n xs := by
  subst hx
  refine ⟨hn, Nat.le_refl _, hm, by simp, fun i hi => ⟨w.heap.size, 0, rfl, (Array.getElem?_eq_some_iff.1 (heap_alloc_new w _)).1, ?_⟩⟩
  rw [cell_of_row _ _ _ _ e fr (heap_alloc_new w _)]; simp

set_option maxHeartbeats 600000 in
theorem awake_any (w : World) : Calls Try.prog 12 #[] w fun e w' => e = .returned (.bool true) ∧ Below w.heap.size w w' := by
  have e1 : (((addN 0 nine : Nat) : Int) == 3421780262) = true := by rw [nine_sum]; rfl
  have e2 : (((addN 0 [] : Nat) : Int) == 0) = true := by rw [nil_sum]; rfl
  have kc := fun (w : World) (C : Array Value) (n c : Nat) => Lib.run_convert_bytes_const (P := Try.prog) w 22 5 C n c Try.underlying22 Try.underlying5
  go_enter Try.func12, Try.ntmps12
  go_wp2_with (first | (go_at_call 14; refine (of_any (some ⟨w.heap.size, 0, none⟩) 9 9 nine _ (by decide) (rd_new w 5 _ _ 9 _ rfl rfl (by decide))).mono ?_; rintro e w' ⟨rfl, rfl⟩) | (go_at_call 14; refine (of_any none 0 0 [] _ (by decide) (rd_nil _ _ rfl)).mono ?_; rintro e w' ⟨rfl, rfl⟩))
  go_ret
  exact ⟨rfl, (Below.refl _ _).alloc (Nat.le_refl _) _⟩

/-- what came in, as numbers -/
theorem rd_of_row {w : World} {a : Option Addr} {len cap : Nat} {zs : List Int} (h : (a = none ∧ len = 0 ∧ cap = 0 ∧ zs = []) ∨
    ∃ x, a = some x ∧ len ≤ cap ∧ cap ≤ maxLen ∧ zs.length = cap ∧ (∀ i, i < zs.length → w.cell? (x.add i) = some (.int .u8 (zs.getD i 0))) ∧ ∀ n ∈ zs, (Lit.int .u8 n).wf = true) :
    ∃ l : List Nat, Rd w a len cap (u8s l) ∧ ∀ b ∈ l, b < 256 := by
  rcases h with ⟨rfl, rfl, rfl, rfl⟩ | ⟨x, rfl, hl, hm, hz, hcell, hwz⟩
  · exact ⟨[], rd_nil _ _ rfl, by simp⟩
  · have hw : ∀ n ∈ zs, 0 ≤ n ∧ n < 256 := by
      intro n hn
      have := hwz n hn
      have := bounds_u8 this; omega
    refine ⟨(zs.take len).map Int.toNat, ⟨by simp [u8s]; omega, hl, hm, by simp, fun i hi => ?_⟩, ?_⟩
    · obtain ⟨b, off, spot⟩ := x
      have hc := hcell i (by omega)
      have hc0 := hcell 0 (by omega)
      have hspot : spot = none := by simpa [Addr.add] using World.cell?_spot hc0
      subst hspot
      rw [Addr.add_lit] at hc
      refine ⟨b, off, rfl, cell?_lt hc, ?_⟩
      rw [hc]
      have hzi : i < zs.length := by omega
      have h0 := hw zs[i] (by simp)
      simp [u8s, hi, hzi, List.getD, List.getElem?_eq_getElem hzi]
      omega
    · intro b hb
      simp only [List.mem_map] at hb
      obtain ⟨n, hn, rfl⟩ := hb
      have := hw n (List.mem_of_mem_take hn)
      omega

set_option maxHeartbeats 600000 in
theorem tells_walk (a : Option Addr) (n cap : Nat) (l : List Nat) (w : World) (hb : ∀ b ∈ l, b < 256) (hr : Rd w a n cap (u8s l)) :
    Calls Try.prog 3 #[.slice a n cap] w fun e w' => e = .returned (.bool true) ∧ Below w.heap.size w w' := by
  have hn := hr.1
  have hcap := hr.2.1
  have hm := hr.2.2.1
  unfold maxLen at hm
  rw [u8s_length] at hn
  have HN := Lib.hid hn
  have HR := Lib.hid hr
  have HB := Lib.hid hb
  have heq : RowKit.Hid (eqL l l = true) := by simp [eqL, RowKit.Hid]
  clear hn hr hb
  by_cases h6 : 600 < n
  · go_enter Try.func3, Try.ntmps3
    go_wp2_with (go_at_call 12; refine (awake_any _).mono ?_; rintro e w' ⟨rfl, hb1⟩; have HB1 := Lib.hid hb1; clear hb1)
    go_ret
    exact ⟨rfl, HB1.out⟩
  · go_enter Try.func3, Try.ntmps3
    go_wp2_with fail
    refine (lend_any a n cap l _ HR.out (by omega)).mono ?_
    rintro e w1 ⟨g, rfl, hg, hblk, hb1⟩
    have HR1 := Lib.hid (HR.out.below hb1 rfl)
    have HRL := Lib.hid (hblk.rd n (n + 3) (u8s l) (by rw [u8s_length, HN.out]) (by omega) (by unfold maxLen; omega) (fun i hi => List.getElem?_append_left (by rw [u8s_length, HN.out]; exact hi)))
    have HB1 := Lib.hid hb1
    have HBLK := Lib.hid hblk
    clear hb1 hg hblk
    go_wp2_with fail
    refine (of_any _ n (n + 3) l _ HB.out HRL.out).mono ?_
    rintro e w' ⟨rfl, rfl⟩
    go_wp2_with fail
    refine (refof_any a n cap l _ HB.out HR1.out).mono ?_
    rintro e w' ⟨rfl, rfl⟩
    go_wp2_with fail
    refine (kept_any g n a n cap l l _ HN.out (by omega) HBLK.out HR1.out).mono ?_
    rintro e w2 ⟨rfl, hd⟩
    rw [heq.out]
    have HD := Lib.hid (hd.below w1.heap.size)
    clear hd
    go_wp2_with fail
    refine (awake_any _).mono ?_
    rintro e w3 ⟨rfl, hb3⟩
    have HB3 := Lib.hid hb3
    clear hb3
    go_wp2_with fail
    go_ret
    exact ⟨rfl, HB1.out.trans ((HD.out.mono HB1.out.size).trans (HB3.out.mono (Nat.le_trans HB1.out.size HD.out.size)))⟩
end Go.Proofs.Ytcjfiofnidnlaaa
