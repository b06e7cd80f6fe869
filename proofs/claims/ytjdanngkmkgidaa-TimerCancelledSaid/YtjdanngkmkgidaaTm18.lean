/- The walk of TimerTurned. -/
import Derived.Test.YtjdanngkmkgidaaTm17
namespace Go.Proofs.Ytjdanngkmkgidaa
open Go.RowKit
set_option linter.unusedVariables false

def vat (l : List Int) (q : Int) (j : Nat) : Int := lowI (l.getD j 0) q
theorem vat_bd (l : List Int) (q : Int) (hq : 1 ≤ q) (j : Nat) : 0 ≤ vat l q j ∧ vat l q j < q := lowI_bd _ _ hq
theorem low_any (x n : Int) (w : World) (h1 : 1 ≤ n) (h2 : n ≤ 9223372036854775807) :
    Calls Try.prog 14 #[.int .i64 x, .int .i64 n] w fun e w' => e = .returned (.int .i64 (lowI x n)) ∧ w = w' := by
  go_enter Try.func14, Try.ntmps14
  go_wp2
  go_ret
  exact ⟨ret_int (low_eq x n h1 h2), rfl⟩
def TuA (w0 : World) (p q n : Nat) (l : List Int) (i : Nat) (w : World) : Prop := ∃ L K, Two w0 w p q 24 L K ∧ L.Perm (rm i (fun j => (vat l 50 j, (j : Int)))) ∧ K.Perm (rm i (fun j => (7, ((n - 1 - j : Nat) : Int))))
def TuB (w0 : World) (p q n : Nat) (l : List Int) (i : Nat) (w : World) : Prop := ∃ L K, Two w0 w p q 24 L K ∧ L.Perm (rm n (fun j => (vat l 50 j, (j : Int)))) ∧ K.Perm (rm n (fun j => (if j < i then vat l 50 j else 7, (j : Int))))
theorem tu_turn : ∀ n : Nat, (rm n (fun j => ((7 : Int), ((n - 1 - j : Nat) : Int)))).Perm (rm n (fun j => (7, (j : Int))))
  | 0 => List.Perm.refl _
  | n + 1 => by
    have h := rm_add 1 n (fun j => ((7 : Int), ((n + 1 - 1 - j : Nat) : Int)))
    rw [Nat.add_comm 1 n] at h
    rw [h, rm_succ n, rm_congr (n := n) (f := fun i => ((7 : Int), ((n + 1 - 1 - (1 + i) : Nat) : Int))) (g := fun j => ((7 : Int), ((n - 1 - j : Nat) : Int))) (fun k hk => by rw [show n + 1 - 1 - (1 + k) = n - 1 - k from by omega])]
    have e : rm 1 (fun j => ((7 : Int), ((n + 1 - 1 - j : Nat) : Int))) = [(7, (n : Int))] := by simp [rm]
    rw [e]
    exact List.perm_append_comm.trans ((tu_turn n).append_right _)
theorem tu_ab {w0 w : World} {p q n : Nat} {l : List Int} (h : TuA w0 p q n l n w) : TuB w0 p q n l 0 w := by
  obtain ⟨L, K, h1, h2, h3⟩ := h
  refine ⟨L, K, h1, h2, h3.trans ((tu_turn n).trans ?_)⟩
  rw [rm_congr (f := fun j => ((7 : Int), (j : Int))) (g := fun j => (if j < 0 then vat l 50 j else 7, (j : Int))) (fun k hk => by simp)]
theorem tu_has {L : List One} {i : Nat} {f : Nat → One} {id : Int} (h : L.Perm (rm i f)) (hn : ∀ j, j < i → (f j).2 ≠ id) : hasL id L = false := by
  rw [Bool.eq_false_iff]
  intro e
  obtain ⟨x, hx, he⟩ := has_iff.1 e
  obtain ⟨k, hk, rfl⟩ := mem_rm.1 (h.mem_iff.1 hx)
  exact hn k hk he
theorem tu_a1 {w0 w : World} {p q n : Nat} {l : List Int} {i : Nat} (h : TuA w0 p q n l i w) (hi : i < n) (hn : n ≤ 24) : ∃ L L' K K', Two w0 w p q 24 L K ∧ setL 24 L i (vat l 50 i) = (0, L') ∧ setL 24 K ((n : Int) - 1 - i) 7 = (0, K') ∧ L'.Perm (rm (i + 1) (fun j => (vat l 50 j, (j : Int)))) ∧ K'.Perm (rm (i + 1) (fun j => (7, ((n - 1 - j : Nat) : Int)))) := by
  obtain ⟨L, K, h1, h2, h3⟩ := h
  have hb := vat_bd l 50 (by omega) i
  have l1 : L.length = i := by rw [h2.length_eq, rm_len]
  have l2 : K.length = i := by rw [h3.length_eq, rm_len]
  have e1 : ((n : Int) - 1 - i) = ((n - 1 - i : Nat) : Int) := by omega
  obtain ⟨L', a1, a2⟩ := set_fresh (L := L) (most := 24) (id := i) (at_ := vat l 50 i) (by omega) hb.1 (by omega) (tu_has h2 (fun j hj => by simp only; omega)) (by omega)
  obtain ⟨K', b1, b2⟩ := set_fresh (L := K) (most := 24) (id := ((n - 1 - i : Nat) : Int)) (at_ := 7) (by omega) (by omega) (by omega) (tu_has h3 (fun j hj => by simp only; omega)) (by omega)
  refine ⟨L, L', K, K', h1, a1, by rw [e1]; exact b1, ?_, ?_⟩
  · rw [rm_succ]; exact a2.trans ((h2.cons _).trans (List.perm_append_singleton _ _).symm)
  · rw [rm_succ]; exact b2.trans ((h3.cons _).trans (List.perm_append_singleton _ _).symm)
theorem tu_b1 {w0 w : World} {p q n : Nat} {l : List Int} {i : Nat} (h : TuB w0 p q n l i w) (hi : i < n) : ∃ L K K', Two w0 w q p 24 K L ∧ setL 24 K i (vat l 50 i) = (0, K') ∧ ∀ w', Two w0 w' q p 24 K' L → TuB w0 p q n l (i + 1) w' := by
  obtain ⟨L, K, h1, h2, h3⟩ := h
  have hb := vat_bd l 50 (by omega) i
  have hids : idsOK K := by obtain ⟨_, _, _, hk, _⟩ := h1; exact hk.ids.1
  obtain ⟨K', a1, a2⟩ := set_again (L := K) (most := 24) (at_ := vat l 50 i) (k := i) hids h3 hi (by simp only; omega) hb.1 (by omega)
  refine ⟨L, K, K', h1.symm, a1, fun w' hw => ⟨L, K', hw.symm, h2, a2.trans ?_⟩⟩
  rw [rm_congr (f := putF _ i _) (g := fun j => (if j < i + 1 then vat l 50 j else 7, (j : Int)))]
  intro k hk
  by_cases e : k = i
  · subst e; rw [putF_eq]; show (vat l 50 k, (k : Int)) = _; rw [if_pos (Nat.lt_succ_self k)]
  · rw [putF_ne _ _ _ _ e]
    by_cases h : k < i
    · rw [if_pos h, if_pos (by omega)]
    · rw [if_neg h, if_neg (by omega)]
theorem tu_end {w0 w : World} {p q n : Nat} {l : List Int} (h : TuB w0 p q n l n w) : ∃ L, Two w0 w p q 24 L L ∧ L.length = n := by
  obtain ⟨L, K, h1, h2, h3⟩ := h
  obtain ⟨go, ho, k1, k2, _⟩ := id h1
  have e : L = K := sorted_eq k1.ids.2 k2.ids.2 (h2.trans (by
    rw [rm_congr (f := fun j => (vat l 50 j, (j : Int))) (g := fun j => (if j < n then vat l 50 j else 7, (j : Int))) (fun k hk => by rw [if_pos hk])]
    exact h3.symm))
  subst e
  exact ⟨L, h1, by rw [h2.length_eq, rm_len]⟩
set_option maxRecDepth 100000 in
set_option maxHeartbeats 4000000 in
theorem turned_walk (a : Option Addr) (n cap : Nat) (l : List Int) (now : Int) (w : World) (hr : Rd w a n cap (ints l)) :
    Calls Try.prog 3 #[.slice a n cap, .int .i64 now] w fun e w' => e = .returned (.bool true) ∧ Below w.heap.size w w' := by
  have hnl : l.length = n := by rw [← hr.1, ints_len]
  have HR := Lib.hid hr
  have HL := Lib.hid hnl
  have hmx := hr.2.2.1
  have hcap := hr.2.1
  unfold maxLen at hmx
  clear hr hnl
  by_cases hbig : 24 < n
  · go_enter Try.func3, Try.ntmps3
    go_wp2_with fail
    refine (awake_any _).mono ?_
    rintro e w1 ⟨rfl, hb1⟩
    have HB1 := Lib.hid hb1
    clear hb1
    go_wp2_with fail
    go_ret
    exact ⟨rfl, HB1.out⟩
  · have hn : n ≤ 24 := by omega
    have d0 : decide (24 < n) = false := by simpa using hn
    clear hbig
    go_enter Try.func3, Try.ntmps3
    go_wp2_with fail
    refine (t_new 24 _ (by omega) (by omega)).mono ?_
    rintro e w1 ⟨rfl, hT1⟩
    have HT1 := Lib.hid (OwnT.new (Below.refl _ w) hT1)
    clear hT1
    generalize w.heap.size = p at HT1 ⊢
    go_wp2_with fail
    refine (t_new 24 _ (by omega) (by omega)).mono ?_
    rintro e w2 ⟨rfl, hT2⟩
    have HT2 := Lib.hid (Two.new HT1.out hT2)
    clear hT2 HT1
    generalize w1.heap.size = q at HT2 ⊢
    have hq1 : ∀ W : World, (binOp .eql 24 (.pointer (some ⟨p, 0, none⟩)) (.pointer none)).run Try.prog W = .ok (.bool false) W := fun W => by kernel_rfl
    have hq2 : ∀ W : World, (binOp .eql 24 (.pointer (some ⟨q, 0, none⟩)) (.pointer none)).run Try.prog W = .ok (.bool false) W := fun W => by kernel_rfl
    go_wp2_with fail
    go_loopw [9] (fun v wr => ∃ i : Nat, i ≤ n ∧ v = .int .i64 i ∧ RowKit.Hid (TuA w p q n l i wr)) (fun v _ => n - (intOf v).toNat)
    case atStart => exact ⟨0, Nat.zero_le _, rfl, ⟨[], [], HT2.out, List.Perm.refl _, List.Perm.refl _⟩⟩
    case round =>
      clear HT2
      obtain ⟨i, hi, rfl, HU⟩ := hrel
      by_cases hlt : i < n
      · obtain ⟨L, L', K, K', hT, hs1, hs2, hL', hK'⟩ := tu_a1 HU.out hlt hn
        have hbel := hT.left.bel
        obtain ⟨b1, o1, rfl, hb1, hc1⟩ := (HR.out.below hbel rfl).2.2.2.2 i hlt
        rw [ints_get l i (by rw [HL.out]; exact hlt)] at hc1
        have hv : vat l 50 i = lowI (l[i]'(by rw [HL.out]; exact hlt)) 50 := by unfold vat; rw [List.getD_eq_getElem?_getD, List.getElem?_eq_getElem (by rw [HL.out]; exact hlt)]; rfl
        obtain ⟨x, hx⟩ : ∃ x, l[i]'(by rw [HL.out]; exact hlt) = x := ⟨_, rfl⟩
        rw [hx] at hc1 hv
        rw [hv] at hs1
        have HT := Lib.hid hT
        have HS1 := Lib.hid hs1
        have HS2 := Lib.hid hs2
        have HL2 := Lib.hid hL'
        have HK2 := Lib.hid hK'
        clear hT hs1 hs2 hL' hK' hbel hv hx HU
        have k1 : (0 : Int) ≤ (i : Int) := by omega
        have k2 : (i : Int) < (n : Int) := by omega
        go_wp2_with fail
        refine (low_any x 50 _ (by omega) (by omega)).mono ?_
        rintro e w' ⟨rfl, rfl⟩
        go_wp2_with fail
        refine (two_set HT.out HS1.out).mono ?_
        rintro e w3 ⟨rfl, hT3⟩
        have HT3 := Lib.hid hT3.symm
        clear hT3 HT hc1
        go_wp2_with fail
        refine (two_set HT3.out HS2.out).mono ?_
        rintro e w4 ⟨rfl, hT4⟩
        have HT4 := Lib.hid hT4.symm
        clear hT4 HT3
        go_wp2_with fail
        go_roundw
        case rel => exact ⟨i + 1, by omega, by go_num, ⟨L', K', HT4.out, HL2.out, HK2.out⟩⟩
        case measure => simp [intOf]; omega
      · have hin : i = n := by omega
        subst hin
        have HU2 := Lib.hid (tu_ab HU.out)
        clear HU hlt
        go_wp2_with fail
        go_loopw [11] (fun v wr => ∃ j : Nat, j ≤ i ∧ v = .int .i64 j ∧ RowKit.Hid (TuB w p q i l j wr)) (fun v _ => i - (intOf v).toNat)
        case atStart => exact ⟨0, Nat.zero_le _, rfl, HU2.out⟩
        case round =>
          clear HU2
          obtain ⟨j, hj, rfl, HU⟩ := hrel
          by_cases hlt : j < i
          · obtain ⟨L, K, K', hT, hs1, hnext⟩ := tu_b1 HU.out hlt
            have hbel := hT.left.bel
            obtain ⟨b1, o1, rfl, hb1, hc1⟩ := (HR.out.below hbel rfl).2.2.2.2 j hlt
            rw [ints_get l j (by rw [HL.out]; exact hlt)] at hc1
            have hv : vat l 50 j = lowI (l[j]'(by rw [HL.out]; exact hlt)) 50 := by unfold vat; rw [List.getD_eq_getElem?_getD, List.getElem?_eq_getElem (by rw [HL.out]; exact hlt)]; rfl
            obtain ⟨x, hx⟩ : ∃ x, l[j]'(by rw [HL.out]; exact hlt) = x := ⟨_, rfl⟩
            rw [hx] at hc1 hv
            rw [hv] at hs1
            have HT := Lib.hid hT
            have HS1 := Lib.hid hs1
            have HN := Lib.hid hnext
            clear hT hs1 hnext hbel hv hx HU
            have k1 : (0 : Int) ≤ (j : Int) := by omega
            have k2 : (j : Int) < (i : Int) := by omega
            go_wp2_with fail
            refine (low_any x 50 _ (by omega) (by omega)).mono ?_
            rintro e w' ⟨rfl, rfl⟩
            go_wp2_with fail
            refine (two_set HT.out HS1.out).mono ?_
            rintro e w3 ⟨rfl, hT3⟩
            have HU3 := Lib.hid (HN.out _ hT3)
            clear hT3 HT HN HS1 hc1
            go_wp2_with fail
            go_roundw
            case rel => exact ⟨j + 1, by omega, by go_num, HU3.out⟩
            case measure => simp [intOf]; omega
          · have hin : j = i := by omega
            subst hin
            obtain ⟨L, hT, hlen⟩ := tu_end HU.out
            have HT := Lib.hid hT
            have HLN := Lib.hid hlen
            clear HU hlt hT hlen
            go_wp2_with fail
            refine (low_any now 60 _ (by omega) (by omega)).mono ?_
            rintro e w' ⟨rfl, rfl⟩
            go_wp2_with fail
            refine (o_due (now := lowI now 60) (R := dueL (lowI now 60) L) HT.out.left rfl).mono ?_
            rintro e w3 ⟨a3, c3, rfl, ho3, _, hb3⟩
            have HT3 := Lib.hid (HT.out.below hb3)
            have HO3 := Lib.hid ho3
            clear ho3 hb3 HT
            go_wp2_with fail
            refine (o_due (now := lowI now 60) (R := dueL (lowI now 60) L) HT3.out.symm.left rfl).mono ?_
            rintro e w4 ⟨a4, c4, rfl, ho4, _, hb4⟩
            have HT4 := Lib.hid (HT3.out.below hb4)
            have HR4 := Lib.hid (ownI ho4)
            have HR3 := Lib.hid ((ownI HO3.out).below hb4 rfl)
            clear ho4 hb4 HT3 HO3
            have hdl := dueL_len (lowI now 60) L
            have hdl2 : (dueL (lowI now 60) L).length ≤ 1000 := by have := HLN.out; omega
            clear hdl
            go_wp2_with fail
            refine (same_any a3 a4 _ _ c3 c4 _ _ _ HR3.out HR4.out hdl2 hdl2).mono ?_
            rintro e w5 ⟨rfl, hd5⟩
            have HT5 := Lib.hid (HT4.out.below (hd5.below _))
            clear hd5 HR3 HR4 HT4
            rw [show sameB (dueL (lowI now 60) L) (dueL (lowI now 60) L) = true from by simp [sameB]]
            go_wp2_with fail
            refine (o_len (k := j) HT5.out.left HLN.out).mono ?_
            rintro e w' ⟨rfl, rfl⟩
            go_wp2_with fail
            refine (o_len (k := j) HT5.out.symm.left HLN.out).mono ?_
            rintro e w' ⟨rfl, rfl⟩
            go_wp2_with fail
            refine (awake_any _).mono ?_
            rintro e w6 ⟨rfl, hb6⟩
            have HT6 := Lib.hid (HT5.out.below hb6)
            clear hb6 HT5
            go_wp2_with fail
            go_ret
            exact ⟨rfl, HT6.out.left.bel⟩
end Go.Proofs.Ytjdanngkmkgidaa
