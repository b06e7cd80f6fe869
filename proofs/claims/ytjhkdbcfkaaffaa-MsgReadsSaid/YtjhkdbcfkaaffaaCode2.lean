/- The walks of the document's Put, and of code.Num and the document's Num. -/
import Derived.Test.YtjhkdbcfkaaffaaCode1
namespace Go.Proofs.Ytjhkdbcfkaaffaa
open Go.RowKit
set_option linter.unusedVariables false

set_option maxRecDepth 100000 in
set_option maxHeartbeats 600000 in
theorem refput_any (a : Option Addr) (n cap : Nat) (l : List Nat) (v size : Int) (w : World) (hr : Rd w a n cap (u8s l)) (hn9 : n ≤ 1000000000)
    (hv : -9223372036854775808 ≤ v ∧ v ≤ 9223372036854775807) (hs : -9223372036854775808 ≤ size ∧ size ≤ 9223372036854775807) :
    Calls Try.prog 42 #[.slice a n cap, .int .i64 v, .int .i64 size] w fun e w' => OwnR w w' (u8s (putL l v size)) e := by
  obtain ⟨i0, hi, hz0, hz1, hz2⟩ := info_parts info5
  have HI := Lib.hid hi
  have HZ0 := Lib.hid hz0
  have HZ1 := Lib.hid hz1
  have HZ2 : RowKit.Hid (i0.bytes = 1) := hz2
  have HS := Lib.hid (Src.ofRd (P := Try.prog) Try.underlying39 hr (u8s_one l))
  have hn := hr.1
  rw [u8s_length] at hn
  subst hn
  obtain ⟨q, hq⟩ : ∃ q, q = clampSize size := ⟨_, rfl⟩
  have HQ := Lib.hid hq
  have hq8 : q ≤ 8 := by rw [hq]; unfold clampSize; omega
  have h1 : (if size < 0 then (0 : Int) else size) = max size 0 := by split <;> omega
  have h2 : (if 8 < max size 0 then (8 : Int) else max size 0) = (q : Int) := by rw [hq]; unfold clampSize; split <;> omega
  have hu : IntKind.u64.wrap v = ((u64 v : Nat) : Int) := (u64_cast v).symm
  have hul := u64_lt v
  obtain ⟨U, hU⟩ : ∃ U, U = u64 v := ⟨_, rfl⟩
  rw [← hU] at hu hul
  have HU := Lib.hid hU
  clear hU
  clear hi hz0 hz1 hz2 hr hq
  go_enter Try.func42, Try.ntmps42
  go_wp2_with (at_builtin; refine wpList_app rfl _ _ 39 39 rfl w.heap.size 5 i0 (.int .u8 0) 1 1 Try.underlying39 HI.out HZ0.out HZ1.out HZ2.out rfl (by decide) none 0 0 [] rfl (World.ownsRow_nil _ _ _ _) _ l.length (u8s l) rfl HS.out (by unfold maxLen; omega) (by omega) (Nat.le_refl _) ?_; intro ao c w1 hown hg; simp only [Nat.zero_add, List.nil_append] at hown; have HO := Lib.hid hown; have HB := Lib.hid ((Below.refl w.heap.size w).grown hg (Nat.le_refl _) (by intro k hk; cases hk)); clear hown hg)
  go_loopw [7, 9] (fun o i wr => ∃ k : Nat, k ≤ q ∧ i = .int .i64 ((q : Int) - 1 - k) ∧ ∃ ao c, o = .slice ao (l.length + k) c ∧ RowKit.Hid (wr.ownsRow w.heap.size 5 1 (.slice ao (l.length + k) c) (l.length + k) (u8s (l ++ (be U q).take k))) ∧ RowKit.Hid (Below w.heap.size w wr)) (fun _ i _ => (intOf i + 1).toNat)
  case atStart => exact ⟨0, by omega, by go_num, ao, c, rfl, by unfold RowKit.Hid; simpa using HO.out, HB.out⟩
  case round =>
    obtain ⟨k, hk, rfl, ao, c, rfl, HO1, HB1⟩ := hrel
    by_cases hlt : k < q
    · have hst : RowKit.Hid (u8s (l ++ (be U q).take (k + 1)) = u8s (l ++ (be U q).take k) ++ [.int .u8 ((U : Int) / 2 ^ (8 * (q - 1 - k)) % 256)]) := by
        unfold RowKit.Hid
        rw [be_snoc U q k hlt, ← List.append_assoc, u8s_append]
        simp [u8s, pow_256]
      have hsz := HB1.out.size
      go_wp2_with (at_builtin; refine wpList_app rfl _ _ 39 39 rfl w.heap.size 5 i0 (.int .u8 0) 1 1 Try.underlying39 HI.out HZ0.out HZ1.out HZ2.out rfl (by decide) ao (l.length + k) c (u8s (l ++ (be U q).take k)) rfl (HO1.out.alloc _) _ 1 _ rfl (Src.one' Try.underlying39 wr _ 5 rfl) (by unfold maxLen; omega) (by omega) (by simp; omega) ?_; intro ao2 c2 w2 hown2 hg2; rw [← hst.out] at hown2; have HO2 := Lib.hid hown2; have HB2 := Lib.hid ((HB1.out.alloc hsz _).grown hg2 (by simp; omega) (fun k hk => (HO1.out.lt k hk).1)); clear hown2 hg2)
      go_roundw
      case rel => exact ⟨k + 1, by omega, by go_num, ao2, c2, rfl, HO2.out, HB2.out⟩
      case measure => simp [intOf]; omega
    · obtain rfl : k = q := by omega
      have hfin : RowKit.Hid (u8s (l ++ (be U k).take k) = u8s (putL l v size)) := by
        unfold RowKit.Hid putL
        rw [List.take_of_length_le (by rw [be_length]; exact Nat.le_refl _), HU.out, ← HQ.out]
      have hlen : RowKit.Hid ((u8s (putL l v size)).length = l.length + k) := by
        unfold RowKit.Hid putL; rw [u8s_length, List.length_append, be_length, ← HQ.out]
      rw [hfin.out] at HO1
      go_wp2
      go_ret
      exact ⟨ao, c, by rw [hlen.out]; rfl, by rw [hlen.out]; exact HO1.out, HB1.out⟩
end Go.Proofs.Ytjhkdbcfkaaffaa
