/- A byte turned: the document's Turned; the sum tells it (plain). -/
import Derived.Test.YtjhkdbcfkaaffaaMm18
import Derived.Test.YtjhkdbcfkaaffaaSum5
namespace Go.Proofs.Ytjhkdbcfkaaffaa
open Go.RowKit
set_option linter.unusedVariables false

/-- one byte turned -/
def turnL (l : List Nat) (i d : Nat) : List Nat := l.set i (l.getD i 0 ^^^ d)
set_option maxRecDepth 100000 in
theorem turnL_len (l : List Nat) (i d : Nat) : (turnL l i d).length = l.length := by simp [turnL]
set_option maxRecDepth 100000 in
theorem turnL_lt {l : List Nat} {i d : Nat} (hb : ∀ x ∈ l, x < 256) (hd : d < 256) : ∀ x ∈ turnL l i d, x < 256 := by
  intro x hx
  unfold turnL at hx
  rcases List.mem_or_eq_of_mem_set hx with h | rfl
  · exact hb x h
  · have : l.getD i 0 < 256 := by
      by_cases hi : i < l.length
      · rw [show l.getD i 0 = l[i] from by simp [List.getD, hi]]; exact hb _ (List.getElem_mem hi)
      · rw [show l.getD i 0 = 0 from by simp [List.getD, hi]]; decide
    exact Nat.xor_lt_two_pow (n := 8) this hd
set_option maxRecDepth 100000 in
set_option maxHeartbeats 4000000 in
theorem turned_any (a : Option Addr) (c : Nat) (l : List Nat) (at' x : Int) (w : World) (hr : Rd w a l.length c (u8s l)) (hb : ∀ b ∈ l, b < 256) (h1 : 1 ≤ l.length) (h2 : l.length ≤ 2000) :
    Calls Try.prog 29 #[.slice a l.length c, .int .i64 at', .int .i64 x] w fun e w' => ∃ i d ao c2, i < l.length ∧ 1 ≤ d ∧ d < 256 ∧ e = .returned (.slice ao l.length c2) ∧ w'.ownsRow w.heap.size 5 1 (.slice ao l.length c2) l.length (u8s (turnL l i d)) ∧ Below w.heap.size w w' := by
  obtain ⟨i0, hi, hz0, hz1, hz2⟩ := info_parts info5
  have HI := Lib.hid hi
  have HZ0 := Lib.hid hz0
  have HZ1 := Lib.hid hz1
  have HZ2 : RowKit.Hid (i0.bytes = 1) := hz2
  have HS := Lib.hid (Src.ofRd (P := Try.prog) Try.underlying39 hr (u8s_one l))
  have hlo := lowI_bd at' l.length (by omega)
  have hle := low_eq at' l.length (by omega) (by omega)
  obtain ⟨i, hi2⟩ : ∃ i : Nat, lowI at' l.length = (i : Int) := ⟨(lowI at' l.length).toNat, by omega⟩
  rw [hi2] at hlo hle
  have hx0 : 0 ≤ IntKind.u64.wrap x := by rw [wrap_u64]; omega
  have hxm : 0 ≤ (IntKind.u64.wrap x).tmod 255 ∧ (IntKind.u64.wrap x).tmod 255 < 255 := by rw [Int.tmod_eq_emod_of_nonneg hx0]; omega
  obtain ⟨d0, hd0⟩ : ∃ d0 : Nat, (IntKind.u64.wrap x).tmod 255 = (d0 : Int) := ⟨((IntKind.u64.wrap x).tmod 255).toNat, by omega⟩
  rw [hd0] at hxm
  have hku : IntKind.u64.wrap (1 + (d0 : Int)) = ((d0 + 1 : Nat) : Int) := by rw [wrap_u64]; omega
  have hk8 : IntKind.u8.wrap ((d0 + 1 : Nat) : Int) = ((d0 + 1 : Nat) : Int) := by simp [IntKind.wrap, IntKind.bits, IntKind.signed]; omega
  have hil : i < l.length := by omega
  obtain ⟨b, hbb⟩ : ∃ b, l[i]? = some b := ⟨_, List.getElem?_eq_getElem hil⟩
  have hb8 := hb b (List.mem_of_getElem? hbb)
  have hxr := bits_xor_u8 b (d0 + 1) hb8 (by omega)
  have HTL := Lib.hid (show u8s (turnL l i (d0 + 1)) = (u8s l).set i (.int .u8 ((b ^^^ (d0 + 1) : Nat) : Int)) from by
    unfold turnL
    rw [show l.getD i 0 = b from by simp [List.getD, hbb]]
    simp [u8s])
  have HCL := Lib.hid (show (u8s l)[i]? = some (.int .u8 (b : Int)) from by simp [u8s, hbb])
  obtain ⟨n, hn⟩ : ∃ n, l.length = n := ⟨_, rfl⟩
  rw [hn] at HS h1 h2 hle hil ⊢
  have k1 : (0 : Int) ≤ (i : Int) := by omega
  have k2 : (i : Int) < (n : Int) := by omega
  have k3 : decide (i < n) = true := by simpa using hil
  have HD := Lib.hid (show d0 + 1 < 256 from by omega)
  clear hr hb hlo hi2 hx0 hxm hbb hi hz0 hz1 hz2
  generalize b ^^^ (d0 + 1) = v at *
  have HIL := Lib.hid hil
  generalize hdd : d0 + 1 = d at *
  have HDD := Lib.hid hdd
  clear hil hdd
  go_enter Try.func29, Try.ntmps29
  go_wp2_with (at_builtin; refine wpList_app rfl _ _ 39 39 rfl w.heap.size 5 i0 (.int .u8 0) 1 1 Try.underlying39 HI.out HZ0.out HZ1.out HZ2.out rfl (by decide) none 0 0 [] rfl (World.ownsRow_nil _ _ _ _) _ n (u8s l) rfl HS.out (by unfold maxLen; omega) (by omega) (Nat.le_refl _) ?_; intro ao c2 w1 hown hg; simp only [Nat.zero_add, List.nil_append] at hown; obtain ⟨g, rfl, hgb⟩ := ownsRow_some hown h1; have HO := Lib.hid hown; have HB := Lib.hid ((Below.refl w.heap.size w).grown hg (Nat.le_refl _) (by intro k hk; cases hk)); have tc : w1.cell? ⟨g, i, none⟩ = some (.int .u8 (b : Int)) := (hown.cellAt i (by omega)).trans HCL.out; have fz : w1.frozen? ⟨g, i, none⟩ = false := hown.frozenAt i; clear hown hg)
  go_ret
  have hst := (HO.out.stored i (.int .u8 (v : Int))).1
  rw [← HTL.out] at hst
  exact ⟨i, d, some ⟨g, 0, none⟩, c2, HIL.out, by have := HDD.out; omega, HD.out, rfl, hst, HB.out.setCell hgb _⟩
set_option maxRecDepth 100000 in
theorem turned1 (p s : List Nat) (b d : Nat) (h0 : d ≠ 0) (hd : d < 256) (hb : ∀ x ∈ p ++ b :: s, x < 256) : addN 0 (p ++ (b ^^^ d) :: s) ≠ addN 0 (p ++ b :: s) := by
  unfold addN
  have e1 : ∀ z, addL (inv 0) (p ++ z :: s) = addL (turnN (addL (inv 0) p) z) s := fun z => by rw [addL_append]; rfl
  rw [e1, e1]
  have ht := turnN_xor (addL (inv 0) p) 0 b d
  rw [Nat.xor_zero, Nat.zero_xor] at ht
  rw [ht]
  have hs := steps_lt 8 (c := d) (by omega)
  obtain ⟨d', h1, h2, h3⟩ := addL_diff s (turnN (addL (inv 0) p) b) (steps 8 d) hs (fun h => h0 (steps_zero 8 (by omega) h))
  rw [h3]
  have hl : addL (turnN (addL (inv 0) p) b) s < 4294967296 := by rw [← e1]; exact addL_lt _ (inv_lt 0) hb
  have hx := xor_ne (addL (turnN (addL (inv 0) p) b) s) d' h1
  have hl2 := xor_lt hl h2
  intro e
  apply hx
  have e2 := congrArg inv e
  rwa [inv_inv hl2, inv_inv hl] at e2
set_option maxRecDepth 100000 in
theorem num_inj : ∀ (k : Nat) (a b : List Nat), a.length = k → b.length = k → (∀ x ∈ a, x < 256) → (∀ x ∈ b, x < 256) → num a = num b → a = b := by
  intro k
  induction k with
  | zero => intro a b ha hb _ _ _; rw [List.eq_nil_of_length_eq_zero ha, List.eq_nil_of_length_eq_zero hb]
  | succ k ih =>
    intro a b ha hb h1 h2 he
    have hna : a ≠ [] := by intro e; subst e; simp at ha
    have hnb : b ≠ [] := by intro e; subst e; simp at hb
    rw [← List.dropLast_concat_getLast hna, ← List.dropLast_concat_getLast hnb, num_snoc, num_snoc] at he
    have la := h1 _ (List.getLast_mem hna)
    have lb := h2 _ (List.getLast_mem hnb)
    have e1 : num a.dropLast = num b.dropLast := by omega
    have e2 : a.getLast hna = b.getLast hnb := by omega
    have e3 := ih a.dropLast b.dropLast (by simp [ha]) (by simp [hb]) (fun x hx => h1 x ((List.dropLast_sublist a).subset hx)) (fun x hx => h2 x ((List.dropLast_sublist b).subset hx)) e1
    rw [← List.dropLast_concat_getLast hna, ← List.dropLast_concat_getLast hnb, e2, e3]
set_option maxRecDepth 100000 in
theorem numAt_eq (l : List Nat) (t k : Nat) : numAt l t k = num ((l.drop t).take k) := by unfold numAt; rw [Int.toNat_natCast, Int.toNat_natCast]
set_option maxRecDepth 100000 in
theorem xor_self_ne {b d : Nat} (h : 1 ≤ d) : b ^^^ d ≠ b := xor_ne b d (by omega)
/-- what a frame is: long enough, told, summed -/
def Good (l : List Nat) : Prop := 7 ≤ l.length ∧ l.length ≤ 1024 ∧ (∀ x ∈ l, x < 256) ∧ numAt l 0 2 = l.length ∧ numAt l ((l.length : Int) - 4) 4 = addN 0 (l.take (l.length - 4))
set_option maxRecDepth 100000 in
theorem enc_good {m : MV} (hm : m.may = true) (hz : m.tiny) : Good (encL m) := by
  have h := dec_back m hm hz.short (enc_size hm hz)
  have h7 := enc_pos (may_isMsg hm)
  have hs := enc_size hm hz
  refine ⟨h7, hs, coreL_lt m (may_isMsg hm), ?_, ?_⟩
  · unfold decL at h
    rw [if_neg (by omega)] at h
    by_cases ht : numAt (encL m) 0 2 = (encL m).length
    · exact ht
    · rw [if_pos ht] at h; exact absurd (congrArg Prod.snd h) (by simp)
  · unfold decL at h
    rw [if_neg (by omega)] at h
    by_cases ht : numAt (encL m) 0 2 = (encL m).length
    · rw [if_neg (by omega)] at h
      by_cases hq : numAt (encL m) (((encL m).length : Int) - 4) 4 = addN 0 ((encL m).take ((encL m).length - 4))
      · exact hq
      · rw [if_pos hq] at h; exact absurd (congrArg Prod.snd h) (by simp)
    · rw [if_pos ht] at h; exact absurd (congrArg Prod.snd h) (by simp)
set_option maxRecDepth 100000 in
theorem good_short {l : List Nat} (h : Good l) : decL (l.take (l.length - 1)) = (.nil, 8) := by
  obtain ⟨h1, h2, h3, h4, h5⟩ := h
  have hl : (l.take (l.length - 1)).length = l.length - 1 := by rw [List.length_take]; omega
  unfold decL
  by_cases hs : (l.take (l.length - 1)).length < 7 ∨ 1024 < (l.take (l.length - 1)).length
  · rw [if_pos hs]
  · rw [if_neg hs]
    have e : numAt (l.take (l.length - 1)) 0 2 = numAt l 0 2 := by
      have a1 := numAt_eq (l.take (l.length - 1)) 0 2
      have a2 := numAt_eq l 0 2
      rw [List.drop_zero] at a1 a2
      rw [List.take_take, Nat.min_eq_left (by omega)] at a1
      exact a1.trans a2.symm
    rw [if_pos (by rw [e, h4, hl]; omega)]
set_option maxRecDepth 100000 in
theorem good_long {l : List Nat} (h : Good l) (b : Nat) : decL (l ++ [b]) = (.nil, 8) := by
  obtain ⟨h1, h2, h3, h4, h5⟩ := h
  have hl : (l ++ [b]).length = l.length + 1 := by simp
  unfold decL
  by_cases hs : (l ++ [b]).length < 7 ∨ 1024 < (l ++ [b]).length
  · rw [if_pos hs]
  · rw [if_neg hs]
    have e : numAt (l ++ [b]) 0 2 = numAt l 0 2 := by
      have a1 := numAt_eq (l ++ [b]) 0 2
      have a2 := numAt_eq l 0 2
      rw [List.drop_zero] at a1 a2
      rw [List.take_append_of_le_length (by omega)] at a1
      exact a1.trans a2.symm
    rw [if_pos (by rw [e, h4, hl]; omega)]
set_option maxRecDepth 100000 in
theorem good_turned {l : List Nat} (h : Good l) {i d : Nat} (hi : i < l.length) (hd1 : 1 ≤ d) (hd : d < 256) : (decL (turnL l i d)).1 = .nil ∧ (decL (turnL l i d)).2 ≠ 0 := by
  obtain ⟨h1, h2, h3, h4, h5⟩ := h
  have hl := turnL_len l i d
  have hlt := turnL_lt (i := i) h3 hd
  obtain ⟨n, hn⟩ : ∃ n, l.length = n + 4 := ⟨l.length - 4, by omega⟩
  rw [hn, show (((n + 4 : Nat) : Int) - 4) = (n : Int) from by omega, show n + 4 - 4 = n from by omega] at h5
  have hg : l.getD i 0 = l[i] := by simp [List.getD, hi]
  have hsplit : l = l.take i ++ l[i] :: l.drop (i + 1) := by
    conv => lhs; rw [← List.take_append_drop i l, List.drop_eq_getElem_cons hi]
  have htl : turnL l i d = l.take i ++ (l[i] ^^^ d) :: l.drop (i + 1) := by
    unfold turnL; rw [hg, List.set_eq_take_append_cons_drop, if_pos hi]
  unfold decL
  rw [hl, if_neg (by omega)]
  by_cases ht : numAt (turnL l i d) 0 2 = l.length
  · rw [if_neg (by omega), hn, show (((n + 4 : Nat) : Int) - 4) = (n : Int) from by omega, show n + 4 - 4 = n from by omega]
    have hi2 : 2 ≤ i := by
      apply Classical.byContradiction
      intro hc
      have a1 := numAt_eq (turnL l i d) 0 2
      have a2 := numAt_eq l 0 2
      rw [List.drop_zero] at a1 a2
      have e1 : num ((turnL l i d).take 2) = num (l.take 2) := by
        have b1 : numAt (turnL l i d) ((0 : Nat) : Int) ((2 : Nat) : Int) = l.length := ht
        have b2 : numAt l ((0 : Nat) : Int) ((2 : Nat) : Int) = l.length := h4
        omega
      have e2 := num_inj 2 _ _ (by rw [List.length_take]; omega) (by rw [List.length_take]; omega) (fun x hx => hlt x (List.mem_of_mem_take hx)) (fun x hx => h3 x (List.mem_of_mem_take hx)) e1
      have e3 := congrArg (fun q : List Nat => q[i]?) e2
      simp only [List.getElem?_take, show i < 2 from by omega, if_true] at e3
      unfold turnL at e3
      rw [List.getElem?_set_self hi, List.getElem?_eq_getElem hi, hg] at e3
      exact xor_self_ne hd1 (Option.some.inj e3)
    have hne : numAt (turnL l i d) n 4 ≠ addN 0 ((turnL l i d).take n) := by
      by_cases hin : i < n
      · have e1 : numAt (turnL l i d) n 4 = numAt l n 4 := by
          rw [show ((4 : Int)) = ((4 : Nat) : Int) from rfl, numAt_eq, numAt_eq]
          unfold turnL
          rw [List.drop_set, if_pos hin]
        rw [e1, h5]
        have e2 : l.take n = l.take i ++ l[i] :: (l.drop (i + 1)).take (n - i - 1) := by
          conv => lhs; rw [hsplit]
          rw [List.take_append, List.length_take, Nat.min_eq_left (by omega), List.take_of_length_le (by rw [List.length_take]; omega), show n - i = n - i - 1 + 1 from by omega, List.take_succ_cons]
          simp
        have e3 : (turnL l i d).take n = l.take i ++ (l[i] ^^^ d) :: (l.drop (i + 1)).take (n - i - 1) := by
          rw [htl]
          rw [List.take_append, List.length_take, Nat.min_eq_left (by omega), List.take_of_length_le (by rw [List.length_take]; omega), show n - i = n - i - 1 + 1 from by omega, List.take_succ_cons]
          simp
        have hq := turned1 (l.take i) ((l.drop (i + 1)).take (n - i - 1)) l[i] d (by omega) hd (by rw [← e2]; exact fun x hx => h3 x (List.mem_of_mem_take hx))
        rw [e3, e2]
        exact fun e => hq e.symm
      · have e1 : (turnL l i d).take n = l.take n := by
          unfold turnL
          rw [List.take_set_of_le (by omega)]
        rw [e1, ← h5]
        intro e
        rw [show ((4 : Int)) = ((4 : Nat) : Int) from rfl, numAt_eq, numAt_eq] at e
        have e2 := num_inj 4 _ _ (by rw [List.length_take, List.length_drop, hl]; omega) (by rw [List.length_take, List.length_drop]; omega) (fun x hx => hlt x (List.mem_of_mem_drop (List.mem_of_mem_take hx))) (fun x hx => h3 x (List.mem_of_mem_drop (List.mem_of_mem_take hx))) e
        have e3 := congrArg (fun q : List Nat => q[i - n]?) e2
        simp only [List.getElem?_take, show i - n < 4 from by omega, if_true, List.getElem?_drop, show n + (i - n) = i from by omega] at e3
        unfold turnL at e3
        rw [List.getElem?_set_self hi, List.getElem?_eq_getElem hi, hg] at e3
        exact xor_self_ne hd1 (Option.some.inj e3)
    rw [if_pos hne]
    exact ⟨rfl, by decide⟩
  · rw [if_pos ht]
    exact ⟨rfl, by decide⟩
end Go.Proofs.Ytjhkdbcfkaaffaa
