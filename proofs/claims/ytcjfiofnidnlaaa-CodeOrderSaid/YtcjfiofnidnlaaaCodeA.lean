/- The walk of CodeOrder, and the plain law that it wants. -/
import Derived.Test.YtcjfiofnidnlaaaCode9
import Derived.Deep.RegionWith
import Derived.Deep.RegionHeld3
import Derived.Lib.Strings
namespace Go.Proofs.Ytcjfiofnidnlaaa
open Go.RowKit
set_option linter.unusedVariables false

theorem foldl_num (l : List Nat) : ∀ v, l.foldl (fun v b => v * 256 + b) v = v * 256 ^ l.length + num l := by
  induction l with
  | nil => intro v; simp [num]
  | cons b r ih =>
    intro v
    unfold num
    rw [List.foldl_cons, List.foldl_cons, ih, ih (0 * 256 + b), List.length_cons, Nat.pow_succ]
    simp only [Nat.zero_mul, Nat.zero_add, Nat.add_mul]
    rw [Nat.mul_comm (256 ^ r.length) 256, Nat.mul_assoc]; omega
theorem num_cons (b : Nat) (r : List Nat) : num (b :: r) = b * 256 ^ r.length + num r := by
  have := foldl_num r b; unfold num at *; simpa using this
theorem bytesLess_num : ∀ (l r : List Nat), l.length = r.length → (∀ x ∈ l, x < 256) → (∀ x ∈ r, x < 256) → Op.bytesLess (l.map UInt8.ofNat) (r.map UInt8.ofNat) = decide (num l < num r) := by
  intro l
  induction l with
  | nil => intro r h _ _; obtain rfl : r = [] := List.eq_nil_of_length_eq_zero h.symm
           simp [Op.bytesLess]
  | cons a x ih =>
    intro r h hl hr
    cases r with
    | nil => simp at h
    | cons b y =>
      have hlen : x.length = y.length := by simpa using h
      have ha := hl a (by simp)
      have hb := hr b (by simp)
      have hx := num_lt x (fun z hz => hl z (by simp [hz]))
      have hy := num_lt y (fun z hz => hr z (by simp [hz]))
      simp only [List.map_cons, Op.bytesLess]
      rw [ih y hlen (fun z hz => hl z (by simp [hz])) (fun z hz => hr z (by simp [hz])), num_cons, num_cons, ← hlen] 
      rw [← hlen] at hy
      generalize num x = p at *
      generalize num y = s at *
      generalize 256 ^ x.length = Q at *
      have e1 : (UInt8.ofNat a < UInt8.ofNat b) ↔ a < b := by
        rw [UInt8.lt_iff_toNat_lt, UInt8.toNat_ofNat', UInt8.toNat_ofNat', Nat.mod_eq_of_lt (by omega), Nat.mod_eq_of_lt (by omega)]
      have e2 : (UInt8.ofNat a = UInt8.ofNat b) ↔ a = b := by
        rw [← UInt8.toNat_inj, UInt8.toNat_ofNat', UInt8.toNat_ofNat', Nat.mod_eq_of_lt (by omega), Nat.mod_eq_of_lt (by omega)]
      rw [Bool.eq_iff_iff]
      simp only [Bool.or_eq_true, Bool.and_eq_true, decide_eq_true_eq, beq_iff_eq, e1, e2]
      constructor
      · rintro (h1 | ⟨rfl, h1⟩)
        · have : (a + 1) * Q ≤ b * Q := Nat.mul_le_mul_right _ h1
          rw [Nat.add_mul] at this; omega
        · omega
      · intro h1
        rcases Nat.lt_trichotomy a b with h2 | rfl | h2
        · exact .inl h2
        · exact .inr ⟨rfl, by omega⟩
        · exfalso
          have : (b + 1) * Q ≤ a * Q := Nat.mul_le_mul_right _ h2
          rw [Nat.add_mul] at this; omega
theorem toList_strN (l : List Nat) : (strN l).toList = l.map UInt8.ofNat := by
  rw [Lib.toList_data]; rfl

set_option maxHeartbeats 1200000 in
theorem order_walk (a b size : Int) (w : World) :
    Calls Try.prog 9 #[.int .i64 a, .int .i64 b, .int .i64 size] w fun e w' => e = .returned (.bool true) ∧ Below w.heap.size w w' := by
  obtain ⟨q, hq⟩ : ∃ q : Nat, (1 : Int) + lowI size 7 = q := by
    have := lowI_bd size 7 (by omega)
    exact ⟨(1 + lowI size 7).toNat, by omega⟩
  have hq7 : 1 ≤ q ∧ q ≤ 7 := by have := lowI_bd size 7 (by omega); omega
  have hw2 := wrap_pow q (by omega)
  have hpp : 1 ≤ 256 ^ q := Nat.one_le_pow _ _ (by decide)
  have hpl := pow_le7 q (by omega)
  obtain ⟨P, hP⟩ : ∃ P, 256 ^ q = P := ⟨_, rfl⟩
  rw [hP] at hw2 hpp hpl
  have HP := Lib.hid hP
  clear hP
  obtain ⟨A, hA, hAl⟩ : ∃ V : Nat, lowI a (P : Int) = V ∧ V < P := by
    have := lowI_bd a (P : Int) (by omega)
    exact ⟨(lowI a (P : Int)).toNat, by omega, by omega⟩
  obtain ⟨B, hB, hBl⟩ : ∃ V : Nat, lowI b (P : Int) = V ∧ V < P := by
    have := lowI_bd b (P : Int) (by omega)
    exact ⟨(lowI b (P : Int)).toNat, by omega, by omega⟩
  go_enter Try.func9, Try.ntmps9
  go_wp2_with fail
  refine (low_any size 7 _ (by omega) (by omega)).mono ?_
  rintro e w' ⟨rfl, rfl⟩
  go_wp2_with fail
  go_quiet (first | (go_at_call_of 18 (Value.int .i64 a); exact Calls.quiet_of_same ((low_any a _ _ (by omega) (by omega)).mono fun e w' h => ⟨h.1, h.2.symm⟩)) | (go_at_call_of 18 (Value.int .i64 b); exact Calls.quiet_of_same ((low_any b _ _ (by omega) (by omega)).mono fun e w' h => ⟨h.1, h.2.symm⟩)))
  go_wp2_with fail
  rw [hA, hB]
  have HPA : RowKit.Hid (putL [] (A : Int) (q : Int) = be A q) := back_put [] A q hq7.2 (by rw [HP.out]; exact hAl)
  have HPB : RowKit.Hid (putL [] (B : Int) (q : Int) = be B q) := back_put [] B q hq7.2 (by rw [HP.out]; exact hBl)
  have HLA : RowKit.Hid ((u8s (be A q)).length = q) := by unfold RowKit.Hid; rw [u8s_length, be_length]
  have HLB : RowKit.Hid ((u8s (be B q)).length = q) := by unfold RowKit.Hid; rw [u8s_length, be_length]
  have HTA : RowKit.Hid (∀ x ∈ be A q, x < 256) := be_lt A q
  have HTB : RowKit.Hid (∀ x ∈ be B q, x < 256) := be_lt B q
  clear hw2 hA hB
  have hA9 : A < 256 ^ q := by rw [HP.out]; exact hAl
  have hB9 : B < 256 ^ q := by rw [HP.out]; exact hBl
  have f1 : Op.bytesLess (strN (be A q)).toList (strN (be B q)).toList = decide (A < B) := by
    rw [toList_strN, toList_strN, bytesLess_num _ _ (by rw [be_length, be_length]) HTA.out HTB.out, num_be, num_be, Nat.mod_eq_of_lt hA9, Nat.mod_eq_of_lt hB9]
  have f2 : ((strN (be A q)).toList == (strN (be B q)).toList) = ((A : Int) == (B : Int)) := by
    rw [toList_strN, toList_strN, Bool.eq_iff_iff]
    simp only [beq_iff_eq]
    constructor
    · intro h
      have h1 : be A q = be B q := strN_inj HTA.out HTB.out (by unfold strN; rw [h])
      have h2 := num_be A q
      rw [h1, num_be, Nat.mod_eq_of_lt hA9, Nat.mod_eq_of_lt hB9] at h2
      omega
    · intro h; rw [show A = B by omega]
  have f3 : (strN (be A q)).size = q := by rw [strN_size, be_length]
  have F1 := Lib.hid f1
  have F2 := Lib.hid f2
  have F3 := Lib.hid f3
  clear f1 f2 f3 hA9 hB9
  go_region_with (first | (go_at_call_of 20 (Value.int .i64 (A : Int)); refine (put_any none 0 0 [] (A : Int) (q : Int) _ ?_ (by decide) (by omega) (by omega)).mono ?_; exact rd_nil _ _ rfl; rintro e w1 ⟨ao1, c1, rfl, hown1, hbel1⟩; rw [HPA.out, HLA.out] at hown1 ⊢; have HO1 := Lib.hid hown1; have HB1 := Lib.hid hbel1; clear hown1 hbel1; have cva := run_str_rd (P := Try.prog) (ownsRow_rd HO1.out) HTA.out 22 9 5 Try.underlying22 Try.underlying5 Try.underlying9) | (go_at_call_of 20 (Value.int .i64 (B : Int)); refine (put_any none 0 0 [] (B : Int) (q : Int) _ ?_ (by decide) (by omega) (by omega)).mono ?_; exact rd_nil _ _ rfl; rintro e w2 ⟨ao2, c2, rfl, hown2, hbel2⟩; rw [HPB.out, HLB.out] at hown2 ⊢; have HO2 := Lib.hid hown2; have HB2 := Lib.hid hbel2; have cva2 := run_str_rd (P := Try.prog) (ownsRow_rd (ownsRow_below HO1.out hbel2)) HTA.out 22 9 5 Try.underlying22 Try.underlying5 Try.underlying9; clear hown2 hbel2; have cvb := run_str_rd (P := Try.prog) (ownsRow_rd HO2.out) HTB.out 22 9 5 Try.underlying22 Try.underlying5 Try.underlying9))
  all_goals
    have f1 := F1.out
    have f2 := F2.out
    have f3 := F3.out
    go_wp2_with fail
    refine (awake3_any _).mono ?_
    rintro e w11 ⟨rfl, hb3⟩
    have HB11 := Lib.hid (HB1.out.trans ((HB2.out.mono HB1.out.size).trans (hb3.mono (Nat.le_trans HB1.out.size HB2.out.size))))
    clear hb3
    go_wp2_with fail
    go_ret
    exact ⟨rfl, (below_drewN (Below.refl w.heap.size w) _).trans HB11.out⟩
end Go.Proofs.Ytcjfiofnidnlaaa
