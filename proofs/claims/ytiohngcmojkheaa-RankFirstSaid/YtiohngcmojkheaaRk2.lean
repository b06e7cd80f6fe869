/- awake of chapter 10. -/
import Derived.Test.YtiohngcmojkheaaRk1
namespace Go.Proofs.Ytiohngcmojkheaa
open Go.RowKit
set_option linter.unusedVariables false

def tx (l : List UInt8) : ByteArray := ⟨l.toArray⟩
theorem top_awake : topL [tx [97, 98], tx [97, 98, 99], tx [98]] (tx [97, 98]) 1 2 = [(0, tx [97, 98]), (1, tx [97, 98, 99])] := by kernel_rfl
theorem may_awake1 : mayQ (tx []) 0 1 = true := by kernel_rfl
theorem may_awake2 : mayQ (tx []) 0 0 = false := by kernel_rfl
theorem texts3 (w : World) (a b c : ByteArray) : RdT (w.alloc (.cells #[.string a, .string b, .string c] 9)) (some ⟨w.heap.size, 0, none⟩) 3 3 [a, b, c] :=
  rd_new w 9 (0, 0) #[.string a, .string b, .string c] 3 _ rfl rfl (by unfold maxLen; omega)
theorem items2 (w : World) (x y : KeyL) : RdE KeyL.cells 2 (w.alloc (.cells #[.int .i64 x.1, .string x.2, .int .i64 y.1, .string y.2] 39)) (some ⟨w.heap.size, 0, none⟩) 2 2 [x, y] :=
  Blk.rdE (enc := KeyL.cells) (size := 2) (l := [x, y]) (sp := []) (fun _ => rfl) (show Blk _ _ 39 _ from heap_alloc_new w _) 2 (Nat.le_refl _) (by unfold maxLen; omega)
set_option maxRecDepth 100000 in
set_option maxHeartbeats 1000000 in
theorem awake_any (w : World) : Calls Try.prog 15 #[] w fun e w' => e = .returned (.bool true) ∧ Below w.heap.size w w' := by
  have HT := Lib.hid (texts3 w (tx [97, 98]) (tx [97, 98, 99]) (tx [98]))
  have HB := Lib.hid ((Below.refl _ w).alloc (Nat.le_refl _) (.cells #[.string (tx [97, 98]), .string (tx [97, 98, 99]), .string (tx [98])] 9))
  have HMA := Lib.hid (fun n w => rmay_any (tx []) 0 n w (by unfold maxLen; decide))
  go_enter Try.func15, Try.ntmps15
  go_wp2_with fail
  have HTOP := Lib.hid (rtop_any _ _ 3 3 [tx [97, 98], tx [97, 98, 99], tx [98]] (tx [97, 98]) 1 2 HT.out (by decide) (by decide) (by decide))
  refine (HTOP.out).mono ?_
  rintro e w1 ⟨a1, c1, rfl, hown, hb⟩
  rw [top_awake] at hown ⊢
  have HR := Lib.hid (ownsRow_rdE (enc := KeyL.cells) (fun _ => rfl) rfl hown)
  have HB1 := Lib.hid (HB.out.trans (hb.mono HB.out.size))
  clear hown hb HTOP HT HB
  have HAL := Lib.hid ((Below.refl _ w1).alloc (Nat.le_refl _) (.cells #[.int .i64 0, .string (tx [97, 98]), .int .i64 1, .string (tx [97, 98, 99])] 39))
  have HX := Lib.hid (items2 w1 (0, tx [97, 98]) (1, tx [97, 98, 99]))
  have HR2 := Lib.hid (HR.out.below HAL.out rfl)
  go_wp2_with fail
  refine (sameI_any _ _ _ _ _ _ [(0, tx [97, 98]), (1, tx [97, 98, 99])] [(0, tx [97, 98]), (1, tx [97, 98, 99])] _ HR2.out HX.out).mono ?_
  rintro e w2 ⟨rfl, hd⟩
  have HB2 := Lib.hid ((HB1.out.trans (HAL.out.mono HB1.out.size)).trans ((hd.below _).mono (Nat.le_trans HB1.out.size HAL.out.size)))
  rw [show eqIs [((0 : Int), tx [97, 98]), (1, tx [97, 98, 99])] [(0, tx [97, 98]), (1, tx [97, 98, 99])] = true from by unfold eqIs; exact decide_eq_true rfl]
  clear hd HX HR2 HR HAL HB1
  go_wp2_with fail
  refine (HMA.out 1 _).mono ?_
  rintro e w3 ⟨rfl, hb⟩
  rw [may_awake1]
  have HB3 := Lib.hid (HB2.out.trans (hb.mono HB2.out.size))
  clear hb
  go_wp2_with fail
  refine (HMA.out 0 _).mono ?_
  rintro e w4 ⟨rfl, hb⟩
  rw [may_awake2]
  have HB4 := Lib.hid (HB3.out.trans (hb.mono HB3.out.size))
  clear hb
  go_wp2_with fail
  go_ret
  exact ⟨rfl, HB4.out⟩
end Go.Proofs.Ytiohngcmojkheaa
