/- The walks of code.Put and of the document's Put. -/
import Derived.Test.YtjhkdbcfkaaffaaCode0
import Derived.Test.YtjhkdbcfkaaffaaLendB
namespace Go.Proofs.Ytjhkdbcfkaaffaa
open Go.RowKit
set_option linter.unusedVariables false

def OwnR (w w' : World) (xs : List Value) (e : Ending) : Prop := ∃ ao c, e = .returned (.slice ao xs.length c) ∧ w'.ownsRow w.heap.size 5 1 (.slice ao xs.length c) xs.length xs ∧ Below w.heap.size w w'

set_option maxRecDepth 100000 in
set_option maxHeartbeats 400000 in
theorem clone_any (a : Option Addr) (n cap : Nat) (xs : List Value) (w : World) (hr : Rd w a n cap xs) (h1 : ∀ u ∈ xs, u.oneCell' = true) (hn9 : n ≤ 1000000000000) :
    Calls Try.prog 60 #[.slice a n cap] w fun e w' => OwnR w w' xs e := by
  obtain ⟨i0, hi, hz0, hz1, hz2⟩ := info_parts info5
  have HI := Lib.hid hi
  have HZ0 := Lib.hid hz0
  have HZ1 := Lib.hid hz1
  have HZ2 : RowKit.Hid (i0.bytes = 1) := hz2
  have H1 := Lib.hid h1
  obtain rfl := hr.1
  clear hi hz0 hz1 hz2 h1
  cases a with
  | none =>
    obtain ⟨h0, rfl⟩ := hr.nil0 rfl
    have hx : xs = [] := List.eq_nil_of_length_eq_zero h0
    subst hx
    have heq := fun w => Lib.run_eql_slice_nil (P := Try.prog) w 39 5 none 0 0 0 0 Try.underlying39
    clear hr
    go_enter Try.func60, Try.ntmps60
    go_wp2
    go_ret
    exact ⟨none, 0, rfl, World.ownsRow_nil _ _ _ _, Below.refl _ _⟩
  | some ad =>
    have HS := Lib.hid (fun o => Src.ofRd (P := Try.prog) Try.underlying39 (hr.below ((Below.refl w.heap.size w).alloc (Nat.le_refl _) o) rfl) H1.out)
    have heq := fun w => Lib.run_eql_slice_nil (P := Try.prog) w 39 5 (some ad) xs.length cap 0 0 Try.underlying39
    clear hr
    go_enter Try.func60, Try.ntmps60
    go_wp2_with (at_builtin; refine wpList_app rfl _ _ 39 39 rfl w.heap.size 5 i0 (.int .u8 0) 1 1 Try.underlying39 HI.out HZ0.out HZ1.out HZ2.out rfl (by decide) (some ⟨w.heap.size, 0, none⟩) 0 0 [] rfl ?_ (.slice (some ad) xs.length cap) xs.length xs rfl (HS.out _) (by unfold maxLen; omega) (by omega) (by simp) ?_)
    · exact World.ownsRow_lit (base := w.heap.size) (size := 1) w #[] 0 (Nat.le_refl _) (by decide) rfl
    · intro ao c w1 hown hg
      have HO := Lib.hid hown
      have HG := Lib.hid (((Below.refl w.heap.size w).alloc (Nat.le_refl _) (.cells #[] 5)).grown hg (by simp) (by intro k hk; simp [Value.ownBlock] at hk; omega))
      clear hown hg
      go_wp2
      go_ret
      exact ⟨ao, c, rfl, HO.out, HG.out⟩

set_option maxRecDepth 100000 in
set_option maxHeartbeats 600000 in
theorem put_any (a : Option Addr) (n cap : Nat) (l : List Nat) (v size : Int) (w : World) (hr : Rd w a n cap (u8s l)) (hn9 : n ≤ 1000000000)
    (hv : -9223372036854775808 ≤ v ∧ v ≤ 9223372036854775807) (hs : -9223372036854775808 ≤ size ∧ size ≤ 9223372036854775807) :
    Calls Try.prog 39 #[.slice a n cap, .int .i64 v, .int .i64 size] w fun e w' => OwnR w w' (u8s (putL l v size)) e := by
  obtain ⟨i0, hi, hz0, hz1, hz2⟩ := info_parts info5
  have HI := Lib.hid hi
  have HZ0 := Lib.hid hz0
  have HZ1 := Lib.hid hz1
  have HZ2 : RowKit.Hid (i0.bytes = 1) := hz2
  have HR := Lib.hid hr
  have hn := hr.1
  rw [u8s_length] at hn
  subst hn
  obtain ⟨q, hq⟩ : ∃ q, q = clampSize size := ⟨_, rfl⟩
  have HQ := Lib.hid hq
  have hq8 : q ≤ 8 := by rw [hq]; unfold clampSize; omega
  have h1 : (if size < 0 then (0 : Int) else size) = max size 0 := by split <;> omega
  have h2 : (if 8 < max size 0 then (8 : Int) else max size 0) = (q : Int) := by rw [hq]; unfold clampSize; split <;> omega
  clear hi hz0 hz1 hz2 hr hq
  go_enter Try.func39, Try.ntmps39
  go_wp2_with fail
  refine (clone_any a _ cap (u8s l) _ HR.out (u8s_one l) (by omega)).mono ?_
  rintro e w1 ⟨ao, c, rfl, hown, hbel⟩
  have HO := Lib.hid hown
  have HB := Lib.hid hbel
  clear hown hbel
  go_wp2_with fail
  rw [u8s_length] at HO ⊢
  have hu : IntKind.u64.wrap v = ((u64 v : Nat) : Int) := (u64_cast v).symm
  have hul := u64_lt v
  obtain ⟨U, hU⟩ : ∃ U, U = u64 v := ⟨_, rfl⟩
  rw [← hU] at hu hul
  have HU := Lib.hid hU
  clear hU
  go_loopw [7, 8, 15] (fun o _ i wr => ∃ k : Nat, k ≤ q ∧ i = .int .i64 k ∧ ∃ ao c, o = .slice ao (l.length + k) c ∧ RowKit.Hid (wr.ownsRow w.heap.size 5 1 (.slice ao (l.length + k) c) (l.length + k) (u8s (l ++ (be U q).take k))) ∧ RowKit.Hid (Below w.heap.size w wr)) (fun _ _ i _ => q - (intOf i).toNat)
  case atStart => exact ⟨0, by omega, rfl, ao, c, rfl, by unfold RowKit.Hid; simpa using HO.out, HB.out⟩
  case round =>
    obtain ⟨k, hk, rfl, ao, c, rfl, HO1, HB1⟩ := hrel
    by_cases hlt : k < q
    · have hst : RowKit.Hid (u8s (l ++ (be U q).take (k + 1)) = u8s (l ++ (be U q).take k) ++ [.int .u8 ((U : Int) / 2 ^ (8 * (q - 1 - k)) % 256)]) := by
        unfold RowKit.Hid
        rw [be_snoc U q k hlt, ← List.append_assoc, u8s_append]
        simp [u8s, pow_256]
      have hsz := HB1.out.size
      go_wp2_with (at_builtin; refine wpList_app rfl _ _ 39 39 rfl w.heap.size 5 i0 (.int .u8 0) 1 1 Try.underlying39 HI.out HZ0.out HZ1.out HZ2.out rfl (by decide) ao (l.length + k) c (u8s (l ++ (be U q).take k)) rfl (HO1.out.alloc _) _ 1 _ rfl (Src.one' Try.underlying39 wr _ 5 rfl) (by unfold maxLen; omega) (by omega) (by simp; omega) ?_; intro ao2 c2 w2 hown2 hg2; rw [← hst.out] at hown2; have HO2 := Lib.hid hown2; have HB2 := Lib.hid ((HB1.out.alloc hsz _).grown hg2 (by simp; omega) (fun k hk => (HO1.out.lt k hk).1)); clear hown2 hg2)
      go_roundw
      case rel => exact ⟨k + 1, by omega, by go_num, ao2, c2, rfl, HO2.out, HB2.out⟩
      case measure => simp [intOf]; omega
    · obtain rfl : k = q := by omega
      have hfin : RowKit.Hid (u8s (l ++ (be U k).take k) = u8s (putL l v size)) := by
        unfold RowKit.Hid putL
        rw [List.take_of_length_le (by rw [be_length]; exact Nat.le_refl _), HU.out, ← HQ.out]
      have hlen : RowKit.Hid ((u8s (putL l v size)).length = l.length + k) := by
        unfold RowKit.Hid putL; rw [u8s_length, List.length_append, be_length, ← HQ.out]
      rw [hfin.out] at HO1
      go_wp2
      go_ret
      exact ⟨ao, c, by rw [hlen.out]; rfl, by rw [hlen.out]; exact HO1.out, HB1.out⟩
end Go.Proofs.Ytjhkdbcfkaaffaa
