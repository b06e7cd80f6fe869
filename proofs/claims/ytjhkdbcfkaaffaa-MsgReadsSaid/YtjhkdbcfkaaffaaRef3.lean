/- The walks of the document's Runes, Len. -/
import Derived.Test.YtjhkdbcfkaaffaaRef2
namespace Go.Proofs.Ytjhkdbcfkaaffaa
open Go.RowKit
set_option linter.unusedVariables false

set_option maxRecDepth 100000 in
set_option maxHeartbeats 1000000 in
theorem rgood_any (r : Nat) (w : World) (h : r ≤ 2147483647) :
    Calls Try.prog 97 #[.int .i32 r] w fun e w' => e = .returned (.bool (decide (mayR r))) ∧ w = w' := by
  have d0 : decide (0 ≤ (r : Int)) = true := by simp
  obtain ⟨g, hg⟩ : ∃ g, decide (mayR r) = g := ⟨_, rfl⟩
  rw [hg]
  have HG := Lib.hid hg
  clear hg
  by_cases h1 : r ≤ 1114111
  · have d1 : decide ((r : Int) ≤ 1114111) = true := by simp; omega
    by_cases h2 : r < 55296
    · obtain rfl : g = true := by rw [← HG.out, decide_eq_true_eq]; unfold mayR; omega
      have d2 : decide ((r : Int) < 55296) = true := by simp; omega
      have d3 : ((r : Int) != 65533) = true := by simp; omega
      go_enter Try.func97, Try.ntmps97
      go_wp2_with fail
      go_ret
      exact ⟨rfl, rfl⟩
    · have d2 : decide ((r : Int) < 55296) = false := by simp; omega
      by_cases h3 : 57343 < r
      · have d3 : decide (57343 < (r : Int)) = true := by simp; omega
        by_cases h4 : r = 65533
        · obtain rfl : g = false := by rw [← HG.out, decide_eq_false_iff_not]; unfold mayR; omega
          have d4 : ((r : Int) != 65533) = false := by simp; omega
          go_enter Try.func97, Try.ntmps97
          go_wp2_with fail
          go_ret
          exact ⟨rfl, rfl⟩
        · obtain rfl : g = true := by rw [← HG.out, decide_eq_true_eq]; unfold mayR; omega
          have d4 : ((r : Int) != 65533) = true := by simp; omega
          go_enter Try.func97, Try.ntmps97
          go_wp2_with fail
          go_ret
          exact ⟨rfl, rfl⟩
      · obtain rfl : g = false := by rw [← HG.out, decide_eq_false_iff_not]; unfold mayR; omega
        have d3 : decide (57343 < (r : Int)) = false := by simp; omega
        go_enter Try.func97, Try.ntmps97
        go_wp2_with fail
        go_ret
        exact ⟨rfl, rfl⟩
  · obtain rfl : g = false := by rw [← HG.out, decide_eq_false_iff_not]; unfold mayR; omega
    have d1 : decide ((r : Int) ≤ 1114111) = false := by simp; omega
    go_enter Try.func97, Try.ntmps97
    go_wp2_with fail
    go_ret
    exact ⟨rfl, rfl⟩

set_option maxRecDepth 100000 in
theorem oneP_bd (s : ByteArray) (i : Nat) : (oneP s i).1 ≤ 2097151 ∧ (oneP s i).2 ≤ 4 := by
  unfold oneP oneN goesOn
  have := byteN_lt s i
  split
  · simp only; omega
  · split
    · simp only; omega
    · split
      · simp only; omega
      · split <;> simp only <;> omega
def QRel (w : World) (s : ByteArray) (v4 v5 : Value) (wr : World) : Prop := ∃ (pos b : Nat) (acc : List Int) (ao : Option Addr) (q c : Nat), v4 = .slice ao q c ∧ v5 = .int .i64 pos ∧ RowKit.Hid (acc.length = q) ∧ q ≤ pos ∧ q ≤ s.size ∧ pos ≤ s.size + 4 ∧ s.size ≤ pos + b ∧ RowKit.Hid (rFrom s b pos acc = runesO s) ∧ RowKit.Hid (wr.ownsRow w.heap.size 21 1 (.slice ao q c) q (r32 acc)) ∧ RowKit.Hid (Below w.heap.size w wr)
set_option maxRecDepth 100000 in
set_option maxHeartbeats 4000000 in
theorem rrunes_any (s : ByteArray) (w : World) (hs : s.size ≤ 1000000) :
    Calls Try.prog 93 #[.string s] w (GotR w (runesO s)) := by
  obtain ⟨i0, hi, hz0, hz1, hz2⟩ := info_parts infoR
  have HI := Lib.hid hi
  have HZ0 := Lib.hid hz0
  have HZ1 := Lib.hid hz1
  have HZ2 := Lib.hid hz2
  clear hi hz0 hz1 hz2
  go_enter Try.func93, Try.ntmps93
  go_wp2_with fail
  go_loopw [4, 5] (fun v4 v5 wr => QRel w s v4 v5 wr) (fun _ v5 _ => s.size - (intOf v5).toNat)
  case atStart => exact ⟨0, s.size, [], none, 0, 0, rfl, rfl, rfl, by omega, by omega, by omega, by omega, rfl, World.ownsRow_nil _ _ _ _, Below.refl _ w⟩
  case round =>
    obtain ⟨pos, b, acc, ao, q, c, rfl, rfl, HQ, hqp, hqs, hps, hb, HC, HO, HW⟩ := hrel
    have hsz := HW.out.size
    by_cases hp : pos < s.size
    · have H1 := Lib.hid (fun W => one_any s pos W hs hp)
      have hdec := oneP_decode s pos
      have hbd := oneP_bd s pos
      have hnone : (Utf8.decode s pos).1 = 65533 → runesO s = none := by
        intro hodd
        rw [← HC.out]
        cases b with
        | zero => omega
        | succ b => simp [rFrom, hp, hodd]
      have hsome : (Utf8.decode s pos).1 ≠ 65533 → Utf8.decode s pos = oneP s pos → rFrom s (b - 1) (pos + (oneP s pos).2) (acc ++ [((oneP s pos).1 : Int)]) = runesO s := by
        intro hodd he
        rw [← HC.out, ← he]
        cases b with
        | zero => omega
        | succ b => simp [rFrom, hp, hodd]
      have HD := Lib.hid hdec
      have HN := Lib.hid hnone
      have HS := Lib.hid hsome
      clear hdec hnone hsome
      generalize oneP s pos = o at *
      obtain ⟨r, n⟩ := o
      obtain ⟨b1, b2⟩ := hbd
      simp only at b1 b2
      have HGD := Lib.hid (fun W => rgood_any r W (by omega))
      go_wp2_with fail
      refine (H1.out _).mono ?_
      rintro e w' ⟨rfl, rfl⟩
      by_cases n0 : n = 0
      · subst n0
        have HX : RowKit.Hid (runesO s = none) := HN.out (HD.out.2 (by unfold takenN; simp))
        clear HD HN HS HC H1
        go_wp2_with fail
        go_ret2
        rw [HX.out]
        exact ⟨rfl, HW.out⟩
      · have d0 : ((n : Int) == 0) = false := by rw [beq_eq_false_iff_ne]; omega
        by_cases hm : mayR r
        · have em : decide (mayR r) = true := by simpa using hm
          rw [em] at HGD
          by_cases h3 : n = 3 ∧ r < 2048
          · have HX : RowKit.Hid (runesO s = none) := HN.out (HD.out.2 (fun h => h.2.2.1 h3))
            obtain ⟨rfl, h3⟩ := h3
            have d3 : decide ((r : Int) < 2048) = true := by simp; omega
            clear HD HN HS HC H1 hm em
            go_wp2_with fail
            refine (HGD.out _).mono ?_
            rintro e w' ⟨rfl, rfl⟩
            go_wp2_with fail
            go_ret2
            rw [HX.out]
            exact ⟨rfl, HW.out⟩
          · by_cases h4 : n = 4 ∧ r < 65536
            · have HX : RowKit.Hid (runesO s = none) := HN.out (HD.out.2 (fun h => h.2.2.2 h4))
              obtain ⟨rfl, h4⟩ := h4
              have d3 : decide ((r : Int) < 65536) = true := by simp; omega
              clear HD HN HS HC H1 hm em h3
              go_wp2_with fail
              refine (HGD.out _).mono ?_
              rintro e w' ⟨rfl, rfl⟩
              go_wp2_with fail
              go_ret2
              rw [HX.out]
              exact ⟨rfl, HW.out⟩
            · have ht := HD.out.1 ⟨n0, hm, h3, h4⟩
              have HC2 := Lib.hid (HS.out ht.2 ht.1)
              clear HD HN HS HC H1 hm em ht
              rcases (by omega : n = 1 ∨ n = 2 ∨ n = 3 ∨ n = 4) with rfl | rfl | rfl | rfl
              · skip
                clear h3 h4 n0 d0
                go_wp2_with fail
                refine (HGD.out _).mono ?_
                rintro e w' ⟨rfl, rfl⟩
                go_wp2_with (at_builtin; refine wpList_app rfl _ _ 127 127 rfl w.heap.size 21 i0 (.int .i32 0) 1 4 Try.underlying127 HI.out HZ0.out HZ1.out HZ2.out rfl (by decide) ao q c (r32 acc) rfl (HO.out.alloc _) _ 1 _ rfl (Src.one' Try.underlying127 wr _ 21 rfl) (by unfold maxLen; omega) (by omega) (by simp; omega) ?_; intro ao2 c2 w3 hown2 hg2; have HO3 := Lib.hid hown2; have HW3 := Lib.hid ((HW.out.alloc hsz _).grown hg2 (by simp; omega) (fun k hk => by have := (HO.out.lt k hk).1; omega)); clear hown2 hg2)
                go_roundw
                case rel => exact ⟨pos + 1, b - 1, acc ++ [(r : Int)], ao2, q + 1, c2, rfl, by go_num, (by unfold RowKit.Hid; rw [List.length_append, HQ.out]; rfl), by omega, by omega, by omega, by omega, HC2.out, (by unfold r32; rw [List.map_append]; exact HO3.out), HW3.out⟩
                case measure => simp [intOf]; omega
              · skip
                clear h3 h4 n0 d0
                go_wp2_with fail
                refine (HGD.out _).mono ?_
                rintro e w' ⟨rfl, rfl⟩
                go_wp2_with (at_builtin; refine wpList_app rfl _ _ 127 127 rfl w.heap.size 21 i0 (.int .i32 0) 1 4 Try.underlying127 HI.out HZ0.out HZ1.out HZ2.out rfl (by decide) ao q c (r32 acc) rfl (HO.out.alloc _) _ 1 _ rfl (Src.one' Try.underlying127 wr _ 21 rfl) (by unfold maxLen; omega) (by omega) (by simp; omega) ?_; intro ao2 c2 w3 hown2 hg2; have HO3 := Lib.hid hown2; have HW3 := Lib.hid ((HW.out.alloc hsz _).grown hg2 (by simp; omega) (fun k hk => by have := (HO.out.lt k hk).1; omega)); clear hown2 hg2)
                go_roundw
                case rel => exact ⟨pos + 2, b - 1, acc ++ [(r : Int)], ao2, q + 1, c2, rfl, by go_num, (by unfold RowKit.Hid; rw [List.length_append, HQ.out]; rfl), by omega, by omega, by omega, by omega, HC2.out, (by unfold r32; rw [List.map_append]; exact HO3.out), HW3.out⟩
                case measure => simp [intOf]; omega
              · have d3 : decide ((r : Int) < 2048) = false := by simp; omega
                clear h3 h4 n0 d0
                go_wp2_with fail
                refine (HGD.out _).mono ?_
                rintro e w' ⟨rfl, rfl⟩
                go_wp2_with (at_builtin; refine wpList_app rfl _ _ 127 127 rfl w.heap.size 21 i0 (.int .i32 0) 1 4 Try.underlying127 HI.out HZ0.out HZ1.out HZ2.out rfl (by decide) ao q c (r32 acc) rfl (HO.out.alloc _) _ 1 _ rfl (Src.one' Try.underlying127 wr _ 21 rfl) (by unfold maxLen; omega) (by omega) (by simp; omega) ?_; intro ao2 c2 w3 hown2 hg2; have HO3 := Lib.hid hown2; have HW3 := Lib.hid ((HW.out.alloc hsz _).grown hg2 (by simp; omega) (fun k hk => by have := (HO.out.lt k hk).1; omega)); clear hown2 hg2)
                go_roundw
                case rel => exact ⟨pos + 3, b - 1, acc ++ [(r : Int)], ao2, q + 1, c2, rfl, by go_num, (by unfold RowKit.Hid; rw [List.length_append, HQ.out]; rfl), by omega, by omega, by omega, by omega, HC2.out, (by unfold r32; rw [List.map_append]; exact HO3.out), HW3.out⟩
                case measure => simp [intOf]; omega
              · have d3 : decide ((r : Int) < 65536) = false := by simp; omega
                clear h3 h4 n0 d0
                go_wp2_with fail
                refine (HGD.out _).mono ?_
                rintro e w' ⟨rfl, rfl⟩
                go_wp2_with (at_builtin; refine wpList_app rfl _ _ 127 127 rfl w.heap.size 21 i0 (.int .i32 0) 1 4 Try.underlying127 HI.out HZ0.out HZ1.out HZ2.out rfl (by decide) ao q c (r32 acc) rfl (HO.out.alloc _) _ 1 _ rfl (Src.one' Try.underlying127 wr _ 21 rfl) (by unfold maxLen; omega) (by omega) (by simp; omega) ?_; intro ao2 c2 w3 hown2 hg2; have HO3 := Lib.hid hown2; have HW3 := Lib.hid ((HW.out.alloc hsz _).grown hg2 (by simp; omega) (fun k hk => by have := (HO.out.lt k hk).1; omega)); clear hown2 hg2)
                go_roundw
                case rel => exact ⟨pos + 4, b - 1, acc ++ [(r : Int)], ao2, q + 1, c2, rfl, by go_num, (by unfold RowKit.Hid; rw [List.length_append, HQ.out]; rfl), by omega, by omega, by omega, by omega, HC2.out, (by unfold r32; rw [List.map_append]; exact HO3.out), HW3.out⟩
                case measure => simp [intOf]; omega
        · have em : decide (mayR r) = false := by simpa using hm
          rw [em] at HGD
          have HX : RowKit.Hid (runesO s = none) := HN.out (HD.out.2 (fun h => hm h.2.1))
          clear HD HN HS HC H1 hm em
          go_wp2_with fail
          refine (HGD.out _).mono ?_
          rintro e w' ⟨rfl, rfl⟩
          go_wp2_with fail
          go_ret2
          rw [HX.out]
          exact ⟨rfl, HW.out⟩
    · have hcc := HC.out
      rw [rFrom_end s b pos acc hp] at hcc
      have HCC := Lib.hid hcc
      have hq := HQ.out
      subst hq
      clear hcc HQ
      have dp : decide ((pos : Int) < s.size) = false := by simp; omega
      go_wp2_with fail
      go_ret2
      rw [← HCC.out]
      exact ⟨⟨ao, c, rfl, ownsRow_rd HO.out⟩, HW.out⟩
end Go.Proofs.Ytjhkdbcfkaaffaa
