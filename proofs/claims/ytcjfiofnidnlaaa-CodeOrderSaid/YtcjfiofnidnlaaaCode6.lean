/- The walks of OverBytes, of the statements' own look (awake), and of CodePuts. -/
import Derived.Test.YtcjfiofnidnlaaaCode5
import Derived.Test.YtcjfiofnidnlaaaSum6
namespace Go.Proofs.Ytcjfiofnidnlaaa
open Go.RowKit
set_option linter.unusedVariables false

theorem eqL_self (x : List Nat) : eqL x x = true := by simp [eqL]
theorem eqL_of {x y : List Nat} (h : x = y) : eqL x y = true := by simp [eqL, h]
theorem grownBy_trans {a b c : World} {row : Option Nat} (h : a.grownBy b row) (k : b.grownBy c row) : a.grownBy c row :=
  ⟨k.os.trans h.os, k.tape.trans h.tape, k.output.trans h.output, Nat.le_trans h.size k.size, fun i hi hne => (k.block i (Nat.lt_of_lt_of_le hi h.size) hne).trans (h.block i hi hne)⟩
theorem grownBy_alloc' (w : World) (o : Obj) (row : Option Nat) : w.grownBy (w.alloc o) row := World.grownBy_alloc w o row
theorem Rd.grown {w w' : World} {a : Option Addr} {n c : Nat} {xs : List Value} {row : Option Nat} (h : Rd w a n c xs) (hg : w.grownBy w' row) (hne : ∀ b off, a = some ⟨b, off, none⟩ → some b ≠ row) : Rd w' a n c xs := by
  obtain ⟨h1, h2, h3, h4, h5⟩ := h
  refine ⟨h1, h2, h3, h4, fun i hi => ?_⟩
  obtain ⟨b, off, e, hl, hc⟩ := h5 i hi
  refine ⟨b, off, e, Nat.lt_of_lt_of_le hl hg.size, ?_⟩
  rw [World.cell?_of_block (w := w) (hg.block b hl (hne b off e)), hc]

set_option maxHeartbeats 600000 in
theorem over_any (ao : Option Addr) (n c base : Nat) (xs : List Value) (w : World) (hown : w.ownsRow base 5 1 (.slice ao n c) n xs) (hb : base ≤ w.heap.size) (hn9 : n ≤ 1000000000) :
    Calls Try.prog 25 #[.slice ao n c] w fun e w' => e = .returned (.tuple #[]) ∧ w.grownBy w' (Value.ownBlock (.slice ao n c)) := by
  obtain ⟨i0, hi, hz0, hz1, hz2⟩ := info_parts info5
  have HI := Lib.hid hi
  have HZ0 := Lib.hid hz0
  have HZ1 := Lib.hid hz1
  have HZ2 : RowKit.Hid (i0.bytes = 1) := hz2
  have HO := Lib.hid hown
  clear hi hz0 hz1 hz2 hown
  go_enter Try.func25, Try.ntmps25
  go_wp2
  go_loopw [2] (fun i wr => ∃ k : Nat, k ≤ n ∧ i = .int .i64 k ∧ ∃ ys, RowKit.Hid (wr.ownsRow base 5 1 (.slice ao n c) n ys) ∧ RowKit.Hid (w.grownBy wr (Value.ownBlock (.slice ao n c)))) (fun i _ => n - (intOf i).toNat)
  case atStart => exact ⟨0, by omega, rfl, xs, HO.out, World.grownBy.refl _ _⟩
  case round =>
    obtain ⟨k, hk, rfl, ys, HO1, HG1⟩ := hrel
    by_cases hlt : k < n
    · obtain ⟨g, rfl, hg⟩ := ownsRow_some HO1.out (by omega)
      obtain ⟨spare, _, hblk⟩ := ownsRow_blk HO1.out
      have hl : ys.length = n := by simpa using HO1.out.1
      have hc : wr.cell? ⟨g, k, none⟩ = some (ys[k]'(by omega)) := by
        rw [hblk.cell, List.getElem?_append_left (by omega), List.getElem?_eq_getElem (by omega)]
      have hf := hblk.frozen k
      have HS := Lib.hid (HO1.out.stored k (.int .u8 238))
      obtain ⟨v0, hv0⟩ : ∃ v0, v0 = ys[k]'(by omega) := ⟨_, rfl⟩
      rw [← hv0] at hc
      clear hv0 hblk hl
      go_wp2
      go_roundw
      case rel => exact ⟨k + 1, by omega, by go_num, _, HS.out.1, grownBy_trans HG1.out HS.out.2⟩
      case measure => simp [intOf]; omega
    · obtain rfl : k = n := by omega
      have hsz := HG1.out.size
      go_wp2_with (at_builtin; refine wpList_app rfl _ _ 22 22 rfl base 5 i0 (.int .u8 0) 1 1 Try.underlying22 HI.out HZ0.out HZ1.out HZ2.out rfl (by decide) ao k c ys rfl (HO1.out.alloc _) _ 1 _ rfl (Src.one' Try.underlying22 wr _ 5 rfl) (by unfold maxLen; omega) (by omega) (by simp; omega) ?_; intro ao2 c2 w2 hown2 hg2; have HG2 := Lib.hid (grownBy_trans HG1.out (grownBy_trans (grownBy_alloc' _ _ _) hg2)); clear hown2 hg2)
      go_end0
      exact ⟨rfl, HG2.out⟩

theorem ownsRow_some0 {w : World} {base : Nat} {e : TypeId} {size : Nat} {ao : Option Addr} {n cap : Nat} {xs : List Value} (h : w.ownsRow base e size (.slice ao n cap) n xs) : ∀ k, Value.ownBlock (.slice ao n cap) = some k → base ≤ k := fun k hk => (h.lt k hk).1

set_option maxHeartbeats 800000 in
theorem awake3_any (w : World) : Calls Try.prog 19 #[] w fun e w' => e = .returned (.bool true) ∧ Below w.heap.size w w' := by
  have hn : wrap64 ((numAt [1, 2, 3] 1 2 : Nat) : Int) = 515 := by decide +kernel
  have HP : RowKit.Hid (putL [] 258 2 = [1, 2]) := by unfold RowKit.Hid; decide +kernel
  have HT : RowKit.Hid (putTextL [] ⟨#[97]⟩ = [0, 1, 97]) := by unfold RowKit.Hid; decide +kernel
  have heq := Lib.hid (eqL_self [1, 2])
  have heq3 := Lib.hid (eqL_self [0, 1, 97])
  go_enter Try.func19, Try.ntmps19
  go_wp2_with fail
  refine (num_yes (some ⟨w.heap.size, 0, none⟩) 3 3 [1, 2, 3] 1 2 _ (rd_new w 5 _ _ 3 _ rfl rfl (by decide)) (by decide) (by decide) (by decide)).mono ?_
  rintro e w' ⟨rfl, rfl⟩
  rw [hn]
  clear hn
  go_wp2_with fail
  refine (put_any none 0 0 [] 258 2 _ (rd_nil _ _ rfl) (by decide) (by decide) (by decide)).mono ?_
  rintro e w1 ⟨ao, c, rfl, hown, hbel⟩
  rw [HP.out] at hown ⊢
  have HO := Lib.hid (ownsRow_rd hown)
  have HB := Lib.hid ((((Below.refl w.heap.size w).alloc (Nat.le_refl _) _).trans (hbel.mono (by simp))) : Below w.heap.size w w1)
  have hsz := HB.out.size
  clear hown hbel
  go_wp2_with fail
  refine (same_any _ 2 c _ 2 2 [1, 2] [1, 2] _ (HO.out.below ((Below.refl _ _).alloc (Nat.le_refl _) _) rfl) (rd_new w1 5 _ _ 2 _ rfl rfl (by decide))).mono ?_
  rintro e w2 ⟨rfl, hd⟩
  rw [heq.out]
  have HB2 := Lib.hid ((HB.out.alloc hsz _).trans (hd.below w.heap.size))
  clear hd
  go_wp2_with fail
  refine (puttext_any none 0 0 [] ⟨#[97]⟩ _ (rd_nil _ _ rfl) (by decide) (by decide)).mono ?_
  rintro e w3 ⟨ao3, c3, rfl, hown, hbel⟩
  rw [HT.out] at hown ⊢
  have HO3 := Lib.hid (ownsRow_rd hown)
  have HB3 := Lib.hid (HB2.out.trans (hbel.mono HB2.out.size))
  have hsz3 := HB3.out.size
  clear hown hbel
  go_wp2_with fail
  refine (same_any _ 3 c3 _ 3 3 [0, 1, 97] [0, 1, 97] _ (HO3.out.below ((Below.refl _ _).alloc (Nat.le_refl _) _) rfl) (rd_new w3 5 _ _ 3 _ rfl rfl (by decide))).mono ?_
  rintro e w4 ⟨rfl, hd⟩
  rw [heq3.out]
  have HB4 := Lib.hid ((HB3.out.alloc hsz3 _).trans (hd.below w.heap.size))
  clear hd
  go_wp2_with fail
  go_ret
  exact ⟨rfl, HB4.out⟩

set_option maxHeartbeats 1200000 in
theorem puts_walk (a : Option Addr) (n cap : Nat) (l : List Nat) (v size : Int) (s : ByteArray) (w : World) (hb : ∀ x ∈ l, x < 256) (hr : Rd w a n cap (u8s l))
    (hv : -9223372036854775808 ≤ v ∧ v ≤ 9223372036854775807) (hs : -9223372036854775808 ≤ size ∧ size ≤ 9223372036854775807) (hs9 : s.size ≤ 9223372036854775807) :
    Calls Try.prog 7 #[.slice a n cap, .int .i64 v, .int .i64 size, .string s] w fun e w' => e = .returned (.bool true) ∧ Below w.heap.size w w' := by
  have hn := hr.1
  rw [u8s_length] at hn
  have HN := Lib.hid hn
  have HR := Lib.hid hr
  clear hr hn
  by_cases h6 : 200 < n
  · go_enter Try.func7, Try.ntmps7
    go_wp2_with (go_at_call 19; refine (awake3_any _).mono ?_; rintro e w' ⟨rfl, hb1⟩; have HB1 := Lib.hid hb1; clear hb1)
    go_ret
    exact ⟨rfl, HB1.out⟩
  by_cases h7 : 70000 < s.size
  · go_enter Try.func7, Try.ntmps7
    go_wp2_with (go_at_call 19; refine (awake3_any _).mono ?_; rintro e w' ⟨rfl, hb1⟩; have HB1 := Lib.hid hb1; clear hb1)
    go_ret
    exact ⟨rfl, HB1.out⟩
  have hd1 : decide (200 < (n : Int)) = false := by simp; omega
  have hd2 : decide (70000 < (s.size : Int)) = false := by simp; omega
  go_enter Try.func7, Try.ntmps7
  go_wp2_with fail
  refine (lend_any a n cap l _ HR.out (by omega)).mono ?_
  rintro e w1 ⟨g, rfl, hg, hblk, hb1⟩
  have HB1 := Lib.hid hb1
  have HBLK := Lib.hid hblk
  have HIN := Lib.hid (hblk.rd n (n + 3) (u8s l) (by rw [u8s_length, HN.out]) (by omega) (by unfold maxLen; omega) (fun i hi => List.getElem?_append_left (by rw [u8s_length, HN.out]; exact hi)))
  have hgl := hblk.lt
  clear hb1 hg hblk
  go_wp2_with fail
  refine (put_any _ n (n + 3) l v size _ HIN.out (by omega) hv hs).mono ?_
  rintro e w2 ⟨ao, c, rfl, hown, hbel⟩
  have HX := Lib.hid hown
  have HE2 := Lib.hid hbel
  have HB2 := Lib.hid (HB1.out.trans (hbel.mono HB1.out.size))
  clear hown hbel
  go_wp2_with fail
  refine (puttext_any _ n (n + 3) l s _ (HIN.out.below HE2.out rfl) (by omega) (by omega)).mono ?_
  rintro e w3 ⟨ao3, c3, rfl, hown, hbel⟩
  have HY := Lib.hid hown
  have HE3 := Lib.hid (HE2.out.trans (hbel.mono HE2.out.size))
  have HX3 := Lib.hid (ownsRow_below HX.out hbel)
  have HB3 := Lib.hid (HB2.out.trans (hbel.mono HB2.out.size))
  clear hown hbel
  go_wp2_with fail
  refine (refput_any a n cap l v size _ (HR.out.below HB3.out rfl) (by omega) hv hs).mono ?_
  rintro e w4 ⟨ao4, c4, rfl, hown, hbel⟩
  have HX4 := Lib.hid (ownsRow_below HX3.out hbel)
  have HY4 := Lib.hid (ownsRow_below HY.out hbel)
  have HZ4 := Lib.hid hown
  have HE4 := Lib.hid (HE3.out.trans (hbel.mono HE3.out.size))
  have HB4 := Lib.hid (HB3.out.trans (hbel.mono HB3.out.size))
  clear hown hbel
  go_wp2_with fail
  refine (same_any _ _ _ _ _ _ (putL l v size) (putL l v size) _ (ownsRow_rd HX4.out) (ownsRow_rd HZ4.out)).mono ?_
  rintro e w5 ⟨rfl, hd⟩
  rw [eqL_self]
  have HX5 := Lib.hid (ownsRow_below HX4.out (hd.below _))
  have HY5 := Lib.hid (ownsRow_below HY4.out (hd.below _))
  have HE5 := Lib.hid (HE4.out.trans (hd.below _))
  have HB5 := Lib.hid (HB4.out.trans (hd.below _))
  clear hd
  go_wp2_with fail
  refine (refputtext_any a n cap l s _ (HR.out.below HB5.out rfl) (by omega) (by omega)).mono ?_
  rintro e w6 ⟨ao6, c6, rfl, hown, hbel⟩
  have HX6 := Lib.hid (ownsRow_below HX5.out hbel)
  have HY6 := Lib.hid (ownsRow_below HY5.out hbel)
  have HZ6 := Lib.hid hown
  have HE6 := Lib.hid (HE5.out.trans (hbel.mono HE5.out.size))
  have HB6 := Lib.hid (HB5.out.trans (hbel.mono HB5.out.size))
  clear hown hbel
  go_wp2_with fail
  refine (same_any _ _ _ _ _ _ (putTextL l s) (putTextL l s) _ (ownsRow_rd HY6.out) (ownsRow_rd HZ6.out)).mono ?_
  rintro e w7 ⟨rfl, hd⟩
  rw [eqL_self]
  have HX7 := Lib.hid (ownsRow_below HX6.out (hd.below _))
  have HE7 := Lib.hid (HE6.out.trans (hd.below _))
  have HB7 := Lib.hid (HB6.out.trans (hd.below _))
  clear hd
  go_wp2_with fail
  refine (kept_any g n a n cap l l _ HN.out (by omega) (HBLK.out.below HE7.out hgl) (HR.out.below HB7.out rfl)).mono ?_
  rintro e w8 ⟨rfl, hd⟩
  rw [eqL_self]
  have HX8 := Lib.hid (ownsRow_below HX7.out (hd.below _))
  have HE8 := Lib.hid (HE7.out.trans (hd.below _))
  have HB8 := Lib.hid (HB7.out.trans (hd.below _))
  clear hd
  go_wp2_with fail
  refine (over_any _ _ _ _ _ _ HX8.out HE8.out.size (by have := HN.out; rw [u8s_length]; simp [putL, be_length, clampSize]; omega)).mono ?_
  rintro e w9 ⟨rfl, hgr⟩
  have HI9 := Lib.hid ((HIN.out.below HE8.out rfl).grown hgr (by
    intro b off e hh
    simp at e; obtain ⟨rfl, rfl⟩ := e
    have := ownsRow_some0 HX8.out g hh.symm
    omega))
  have HB9 := Lib.hid (HB8.out.grown hgr HB8.out.size (fun k hk => Nat.le_trans HB1.out.size (ownsRow_some0 HX8.out k hk)))
  clear hgr
  go_wp2_with fail
  refine (same_any _ n (n + 3) _ n cap l l _ HI9.out (HR.out.below HB9.out rfl)).mono ?_
  rintro e w10 ⟨rfl, hd⟩
  rw [eqL_self]
  have HB10 := Lib.hid (HB9.out.trans (hd.below _))
  clear hd
  go_wp2_with fail
  refine (awake3_any _).mono ?_
  rintro e w11 ⟨rfl, hb3⟩
  have HB11 := Lib.hid (HB10.out.trans (hb3.mono HB10.out.size))
  clear hb3
  go_wp2_with fail
  go_ret
  exact ⟨rfl, HB11.out⟩
end Go.Proofs.Ytcjfiofnidnlaaa
