/- awake of chapter 15. -/
import Derived.Test.YtjhkdbcfkaaffaaMm13
import Derived.Test.YtjhkdbcfkaaffaaMm14
namespace Go.Proofs.Ytjhkdbcfkaaffaa
open Go.RowKit
set_option linter.unusedVariables false

set_option maxRecDepth 100000 in
theorem awH_may : (MV.hello 2 1).may = true := by decide
set_option maxRecDepth 100000 in
theorem awH_len : (encL (.hello 2 1)).length = 15 := by
  rw [encL_len _ rfl, core_len _ rfl]
  show (numsL [0, 0, 1] [2, 1]).length + 4 = 15
  rw [numsL_len]; rfl
set_option maxRecDepth 100000 in
theorem awH_take : (encL (.hello 2 1)).take 11 = [0, 15, 1, 0, 0, 0, 2, 0, 0, 0, 1] := by
  have h : (coreL (.hello 2 1)).length = 11 := by rw [core_len _ rfl]; show (numsL [0, 0, 1] [2, 1]).length = 11; rw [numsL_len]; rfl
  rw [encL_eq _ rfl, List.take_append_of_le_length (by omega), List.take_of_length_le (by omega)]
  unfold coreL headL restL b4
  rw [show ((bodyL (.hello 2 1)).length : Int) = 11 from by show ((numsL [0, 0, 1] [2, 1]).length : Int) = 11; rw [numsL_len]; rfl]
  decide
set_option maxRecDepth 100000 in
theorem awH_dec : decL (encL (.hello 2 1)) = (.hello 2 1, 0) := dec_back _ awH_may trivial (by rw [awH_len]; decide)
set_option maxHeartbeats 4000000 in
set_option maxRecDepth 100000 in
theorem awake_any (w : World) : Calls Try.prog 11 #[] w fun e w' => e = .returned (.bool true) ∧ Below w.heap.size w w' := by
  have HE := Lib.hid (fun W => mencode_yes (.hello 2 1) _ W rfl trivial awH_may)
  have HL := Lib.hid awH_len
  have HT := Lib.hid awH_take
  have HD := Lib.hid awH_dec
  have HB := Lib.hid (coreL_lt (.hello 2 1) rfl)
  generalize encL (.hello 2 1) = fl at *
  go_enter Try.func11, Try.ntmps11
  go_wp2_with fail
  refine (HE.out _).mono ?_
  rintro e w1 ⟨a, c, rfl, ho, hb⟩
  rw [HL.out] at ho ⊢
  have HO := Lib.hid ho
  have H1 := Lib.hid hb
  have hcc : 15 ≤ c := (ownsRow_rd ho).2.1
  obtain ⟨g0, rfl, hg0⟩ := ownsRow_some ho (by decide)
  clear ho hb
  go_wp2_with fail
  have hO2 := HO.out.alloc (.cells #[.int .u8 0, .int .u8 15, .int .u8 1, .int .u8 0, .int .u8 0, .int .u8 0, .int .u8 2, .int .u8 0, .int .u8 0, .int .u8 0, .int .u8 1] 5)
  have hB2 := H1.out.alloc H1.out.size (.cells #[.int .u8 0, .int .u8 15, .int .u8 1, .int .u8 0, .int .u8 0, .int .u8 0, .int .u8 2, .int .u8 0, .int .u8 0, .int .u8 0, .int .u8 1] 5)
  have hr1 := (ownsRow_rd hO2).cut' 0 11 (by decide) (some ⟨g0, 0, none⟩) (fun _ => rfl) (by simp) c (by omega)
  rw [List.drop_zero, HT.out] at hr1
  have hr2 := rd_new w1 5 (0, 0) #[.int .u8 0, .int .u8 15, .int .u8 1, .int .u8 0, .int .u8 0, .int .u8 0, .int .u8 2, .int .u8 0, .int .u8 0, .int .u8 0, .int .u8 1] 11 (u8s [0, 15, 1, 0, 0, 0, 2, 0, 0, 0, 1]) rfl rfl (by decide)
  refine (sameB_any _ 11 c _ 11 11 [0, 15, 1, 0, 0, 0, 2, 0, 0, 0, 1] [0, 15, 1, 0, 0, 0, 2, 0, 0, 0, 1] _ hr1 hr2).mono ?_
  rintro e w2 ⟨rfl, hd⟩
  have H2 := Lib.hid (hB2.trans (hd.below _))
  have HO2 := Lib.hid (ownsRow_below hO2 (hd.below _))
  rw [eqL_self]
  clear hd hO2 hB2 hr1 hr2 HO H1
  go_wp2_with fail
  have hr3 := ownsRow_rd HO2.out
  have hdc := mdecode_any (some ⟨g0, 0, none⟩) c fl w2 (by rw [HL.out]; exact hr3) HB.out (by rw [HL.out]; decide)
  rw [HL.out] at hdc
  refine hdc.mono ?_
  rintro e w3 ⟨u, rfl, hu, hb⟩
  rw [HD.out] at hu ⊢
  obtain rfl : u = .iface 23 (.agg #[.int .i64 2, .int .i64 1]) := hu
  have H3 := Lib.hid (H2.out.trans (hb.mono H2.out.size))
  clear hdc hr3 hb H2 HO2
  go_wp2_with fail
  refine (msame_any (.hello 2 1) (.hello 2 1) _ _ w3 rfl rfl).mono ?_
  rintro e w4 ⟨rfl, hb⟩
  have H4 := Lib.hid (H3.out.trans (hb.mono H3.out.size))
  rw [show MV.same (.hello 2 1) (.hello 2 1) = true from rfl]
  clear hb H3
  go_wp2_with fail
  refine (mkind_any (.hello 2 1) _ w4 rfl).mono ?_
  rintro e w5 ⟨rfl, hb⟩
  have H5 := Lib.hid (H4.out.trans (hb.mono H4.out.size))
  rw [show MV.kind (.hello 2 1) = 1 from rfl]
  clear hb H4
  go_wp2_with fail
  refine (mkind_any (.other 3 (.int .i64 7)) _ w5 ⟨rfl, by decide, by decide, by decide, by decide, by decide⟩).mono ?_
  rintro e w6 ⟨rfl, hb⟩
  have H6 := Lib.hid (H5.out.trans (hb.mono H5.out.size))
  rw [show MV.kind (.other 3 (.int .i64 7)) = 0 from rfl]
  clear hb H5
  go_wp2_with fail
  go_ret
  exact ⟨rfl, H6.out⟩
end Go.Proofs.Ytjhkdbcfkaaffaa
