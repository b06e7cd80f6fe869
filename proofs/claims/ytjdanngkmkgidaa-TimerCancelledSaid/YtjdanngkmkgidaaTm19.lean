/- The walk of TimerDue. -/
import Derived.Test.YtjdanngkmkgidaaTm18
namespace Go.Proofs.Ytjdanngkmkgidaa
open Go.RowKit
set_option linter.unusedVariables false

def cntL (now : Int) (L : List One) : Nat := L.countP (fun x => decide (x.1 ≤ now))
theorem due_len (now : Int) : ∀ L : List One, L.Pairwise leO → (dueL now L).length = cntL now L
  | [], _ => rfl
  | x :: L, h => by
    obtain ⟨h1, h2⟩ := List.pairwise_cons.1 h
    have ih := due_len now L h2
    unfold dueL cntL at *
    rw [List.takeWhile_cons, List.countP_cons]
    by_cases hx : x.1 ≤ now
    · rw [if_pos (by simpa using hx), if_pos (by simpa using hx), List.map_cons, List.length_cons, ih]
    · rw [if_neg (by simpa using hx), if_neg (by simpa using hx)]
      have : L.countP (fun y => decide (y.1 ≤ now)) = 0 := by
        rw [List.countP_eq_zero]
        intro y hy
        have := h1 y hy
        unfold leO at this
        simp only [decide_eq_true_eq]
        omega
      rw [this]; rfl
theorem due_get {now : Int} {L : List One} {i : Nat} {d : Int} (h : (dueL now L)[i]? = some d) : ∃ x, L[i]? = some x ∧ x.2 = d ∧ x.1 ≤ now := by
  unfold dueL at h
  rw [List.getElem?_map, Option.map_eq_some_iff] at h
  obtain ⟨x, hx, rfl⟩ := h
  have hlt := (List.getElem?_eq_some_iff.1 hx).1
  have e := List.takeWhile_append_dropWhile (p := fun x : One => decide (x.1 ≤ now)) (l := L)
  refine ⟨x, ?_, rfl, ?_⟩
  · rw [← e, List.getElem?_append_left hlt]; exact hx
  · have : ∀ (l : List One) (y : One), y ∈ l.takeWhile (fun x => decide (x.1 ≤ now)) → y.1 ≤ now := by
      intro l
      induction l with
      | nil => intro y hy; simp at hy
      | cons z l ih =>
        intro y hy
        rw [List.takeWhile_cons] at hy
        split at hy
        · rename_i hz
          rcases List.mem_cons.1 hy with e | e
          · rw [e]; simpa using hz
          · exact ih y e
        · simp at hy
    exact this L x (List.mem_of_getElem? hx)
theorem due_le {now later : Int} (hle : now ≤ later) : ∀ L : List One, (dueL now L).length ≤ (dueL later L).length ∧ ∀ i, i < (dueL now L).length → (dueL later L)[i]? = (dueL now L)[i]?
  | [] => by simp [dueL]
  | x :: L => by
    obtain ⟨h1, h2⟩ := due_le hle L
    unfold dueL at *
    rw [List.takeWhile_cons, List.takeWhile_cons]
    by_cases hx : x.1 ≤ now
    · rw [if_pos (by simpa using hx), if_pos (by simp; omega)]
      simp only [List.map_cons, List.length_cons]
      refine ⟨by omega, fun i hi => ?_⟩
      cases i with
      | zero => rfl
      | succ i => simp only [List.getElem?_cons_succ]; exact h2 i (by omega)
    · rw [if_neg (by simpa using hx)]
      simp
theorem at_get {L : List One} (hi : idsOK L) {i : Nat} {x : One} (h : L[i]? = some x) : atL x.2 L = (x.1, true) := by
  unfold atL
  have hm := List.mem_of_getElem? h
  cases hf : L.find? (fun y => decide (y.2 = x.2)) with
  | none =>
    rw [List.find?_eq_none] at hf
    exact absurd (hf _ hm) (by simp)
  | some y =>
    have hy : y.2 = x.2 := by simpa using List.find?_some hf
    have hym := List.mem_of_find?_eq_some hf
    obtain ⟨i1, hi1, hi2⟩ := List.mem_iff_getElem.1 hym
    obtain ⟨j, hj1, hj2⟩ := List.mem_iff_getElem.1 hm
    have hij : i1 = j := by
      unfold idsOK at hi
      exact (List.getElem_inj (h₀ := by simpa using hi1) (h₁ := by simpa using hj1) hi).1 (by simp [hi2, hj2, hy])
    subst hij
    rw [show y = x from by rw [← hi2, ← hj2]]
theorem sort_lt {L : List One} (hi : idsOK L) (hs : L.Pairwise leO) {i : Nat} {x y : One} (hx : L[i]? = some x) (hy : L[i + 1]? = some y) : x.1 < y.1 ∨ (x.1 = y.1 ∧ x.2 < y.2) := by
  obtain ⟨h1, e1⟩ := List.getElem?_eq_some_iff.1 hx
  obtain ⟨h2, e2⟩ := List.getElem?_eq_some_iff.1 hy
  have hle := List.pairwise_iff_getElem.1 hs i (i + 1) h1 h2 (by omega)
  rw [e1, e2] at hle
  have hne : x.2 ≠ y.2 := by
    intro e
    unfold idsOK at hi
    have := (List.getElem_inj (i := i) (j := i + 1) (h₀ := by simpa using h1) (h₁ := by simpa using h2) hi).1 (by simp [e1, e2, e])
    omega
  unfold leO at hle
  omega
def DuA (w0 : World) (p : Nat) (l : List Int) (now : Int) (i k : Nat) (w : World) : Prop := ∃ L, OwnT w0 w p 24 L ∧ L.Perm (rm i (fun j => (vat l 100 j, (j : Int)))) ∧ cntL now L = k
theorem du_step {w0 w : World} {p : Nat} {l : List Int} {now : Int} {i k : Nat} (h : DuA w0 p l now i k w) (hi : i < 24) : ∃ L L1 L2, OwnT w0 w p 24 L ∧ setL 24 L i (lowI (vat l 100 i) 7) = (0, L1) ∧ setL 24 L1 i (vat l 100 i) = (0, L2) ∧ ∀ w' k', OwnT w0 w' p 24 L2 → k' = k + (if vat l 100 i ≤ now then 1 else 0) → DuA w0 p l now (i + 1) k' w' := by
  obtain ⟨L, h1, h2, h3⟩ := h
  have hb := vat_bd l 100 (by omega) i
  have hb2 := lowI_bd (vat l 100 i) 7 (by omega)
  have l1 : L.length = i := by rw [h2.length_eq, rm_len]
  have hids : idsOK L := by obtain ⟨go, hg, _⟩ := h1; exact hg.ids.1
  have hh := tu_has (id := (i : Int)) h2 (fun j hj => by simp only; omega)
  obtain ⟨L1, a1, a2⟩ := set_fresh (L := L) (most := 24) (id := i) (at_ := lowI (vat l 100 i) 7) (by omega) hb2.1 (by omega) hh (by omega)
  have hids1 : idsOK L1 := by
    rw [idsOK_perm a2]
    unfold idsOK at *
    rw [List.map_cons, List.nodup_cons]
    refine ⟨fun hm => ?_, hids⟩
    obtain ⟨y, hy, e⟩ := List.mem_map.1 hm
    rw [has_iff.2 ⟨y, hy, e⟩] at hh
    cases hh
  have hp1 : L1.Perm (rm (i + 1) (putF (fun j => (vat l 100 j, (j : Int))) i (lowI (vat l 100 i) 7, (i : Int)))) := by
    rw [rm_succ, putF_eq, rm_congr (f := putF _ i _) (g := fun j => (vat l 100 j, (j : Int))) (fun k hk => putF_ne _ _ _ _ (by omega))]
    exact a2.trans ((h2.cons _).trans (List.perm_append_singleton _ _).symm)
  obtain ⟨L2, b1, b2⟩ := set_again (L := L1) (most := 24) (at_ := vat l 100 i) (k := i) hids1 hp1 (by omega) (by rw [putF_eq]; simp only; omega) hb.1 (by omega)
  rw [putF_eq] at b1 b2
  have hp2 : L2.Perm (rm (i + 1) (fun j => (vat l 100 j, (j : Int)))) := by
    refine b2.trans ?_
    rw [rm_congr (f := putF (putF _ i _) i _) (g := fun j => (vat l 100 j, (j : Int)))]
    intro k hk
    by_cases e : k = i
    · subst e; rw [putF_eq]
    · rw [putF_ne _ _ _ _ e, putF_ne _ _ _ _ e]
  refine ⟨L, L1, L2, h1, a1, b1, fun w' k' hw hk => ⟨L2, hw, hp2, ?_⟩⟩
  have e1 : cntL now L2 = cntL now (rm (i + 1) (fun j => (vat l 100 j, (j : Int)))) := hp2.countP_eq _
  have e2 : cntL now L = cntL now (rm i (fun j => (vat l 100 j, (j : Int)))) := h2.countP_eq _
  rw [e1, rm_succ]
  unfold cntL at *
  rw [List.countP_append, ← e2, h3, hk]
  simp [List.countP_cons]
def DuB (w0 : World) (p k : Nat) (L : List One) (D M : List Int) (a1 a2 : Option Addr) (k2 c1 c2 : Nat) (w : World) : Prop := OwnT w0 w p 24 L ∧ Rd w a1 k c1 (ints D) ∧ Rd w a2 k2 c2 (ints M)
theorem DuB.below {w0 w w' : World} {p k k2 c1 c2 : Nat} {L : List One} {D M : List Int} {a1 a2 : Option Addr} (h : DuB w0 p k L D M a1 a2 k2 c1 c2 w) (hb : Below w.heap.size w w') : DuB w0 p k L D M a1 a2 k2 c1 c2 w' := ⟨h.1.below hb, h.2.1.below hb rfl, h.2.2.below hb rfl⟩
/-- a list of numbers tells its cell -/
theorem Rd.at_ {w : World} {a : Option Addr} {n c : Nat} {l : List Int} (h : Rd w a n c (ints l)) {i : Nat} {x : Int} (hx : l[i]? = some x) : ∃ b o, a = some ⟨b, o, none⟩ ∧ w.cell? ⟨b, o + i, none⟩ = some (.int .i64 x) ∧ i < n ∧ b < w.heap.size := by
  have hlt := (List.getElem?_eq_some_iff.1 hx).1
  have hn : i < n := by rw [← h.1, ints_len]; exact hlt
  obtain ⟨b, o, e, hb, hc⟩ := h.2.2.2.2 i hn
  exact ⟨b, o, e, by rw [hc]; simp [ints, hx], hn, hb⟩
set_option maxRecDepth 100000 in
set_option maxHeartbeats 4000000 in
theorem dues_walk (a : Option Addr) (n cap : Nat) (l : List Int) (now0 later : Int) (w : World) (hr : Rd w a n cap (ints l)) :
    Calls Try.prog 4 #[.slice a n cap, .int .i64 now0, .int .i64 later] w fun e w' => e = .returned (.bool true) ∧ Below w.heap.size w w' := by
  have hnl : l.length = n := by rw [← hr.1, ints_len]
  have HR := Lib.hid hr
  have HL := Lib.hid hnl
  have hmx := hr.2.2.1
  have hcap := hr.2.1
  unfold maxLen at hmx
  clear hr hnl
  by_cases hbig : 24 < n
  · go_enter Try.func4, Try.ntmps4
    go_wp2_with fail
    refine (awake_any _).mono ?_
    rintro e w1 ⟨rfl, hb1⟩
    have HB1 := Lib.hid hb1
    clear hb1
    go_wp2_with fail
    go_ret
    exact ⟨rfl, HB1.out⟩
  · have hn : n ≤ 24 := by omega
    have d0 : decide (24 < n) = false := by simpa using hn
    clear hbig
    go_enter Try.func4, Try.ntmps4
    go_wp2_with fail
    refine (t_new 24 _ (by omega) (by omega)).mono ?_
    rintro e w1 ⟨rfl, hT1⟩
    have HT1 := Lib.hid (OwnT.new (Below.refl _ w) hT1)
    clear hT1
    generalize w.heap.size = p at HT1 ⊢
    have hq1 : ∀ W : World, (binOp .eql 24 (.pointer (some ⟨p, 0, none⟩)) (.pointer none)).run Try.prog W = .ok (.bool false) W := fun W => by kernel_rfl
    go_wp2_with fail
    refine (low_any now0 100 _ (by omega) (by omega)).mono ?_
    rintro e w' ⟨rfl, rfl⟩
    obtain ⟨hn1, hn2⟩ := lowI_bd now0 100 (by omega)
    generalize lowI now0 100 = now at hn1 hn2 ⊢
    go_wp2_with fail
    go_loopw [9, 10] (fun v9 v wr => ∃ i k : Nat, i ≤ n ∧ k ≤ i ∧ v = .int .i64 i ∧ v9 = .int .i64 k ∧ RowKit.Hid (DuA w p l now i k wr)) (fun _ v _ => n - (intOf v).toNat)
    case atStart => exact ⟨0, 0, Nat.zero_le _, Nat.le_refl _, rfl, rfl, ⟨[], HT1.out, List.Perm.refl _, rfl⟩⟩
    case round =>
      clear HT1
      obtain ⟨i, k, hi, hk, rfl, rfl, HU⟩ := hrel
      by_cases hlt : i < n
      · obtain ⟨L, L1, L2, hT, hs1, hs2, hnext⟩ := du_step HU.out (by omega)
        have hbel := hT.bel
        obtain ⟨b1, o1, rfl, hb1, hc1⟩ := (HR.out.below hbel rfl).2.2.2.2 i hlt
        rw [ints_get l i (by rw [HL.out]; exact hlt)] at hc1
        have hv : vat l 100 i = lowI (l[i]'(by rw [HL.out]; exact hlt)) 100 := by unfold vat; rw [List.getD_eq_getElem?_getD, List.getElem?_eq_getElem (by rw [HL.out]; exact hlt)]; rfl
        obtain ⟨x, hx⟩ : ∃ x, l[i]'(by rw [HL.out]; exact hlt) = x := ⟨_, rfl⟩
        rw [hx] at hc1 hv
        rw [hv] at hs1 hs2 hnext
        have HT := Lib.hid hT
        have HS1 := Lib.hid hs1
        have HS2 := Lib.hid hs2
        have HN := Lib.hid hnext
        clear hT hs1 hs2 hnext hbel hv hx HU
        have k1 : (0 : Int) ≤ (i : Int) := by omega
        have k2 : (i : Int) < (n : Int) := by omega
        go_wp2_with fail
        refine (low_any x 100 _ (by omega) (by omega)).mono ?_
        rintro e w' ⟨rfl, rfl⟩
        generalize lowI x 100 = y at HS1 HS2 HN ⊢
        go_wp2_with fail
        refine (low_any y 7 _ (by omega) (by omega)).mono ?_
        rintro e w' ⟨rfl, rfl⟩
        go_wp2_with fail
        refine (o_set HT.out HS1.out).mono ?_
        rintro e w3 ⟨rfl, hT3⟩
        have HT3 := Lib.hid hT3
        clear hT3 HT hc1
        go_wp2_with fail
        refine (o_set HT3.out HS2.out).mono ?_
        rintro e w4 ⟨rfl, hT4⟩
        have HT4 := Lib.hid hT4
        clear hT4 HT3
        by_cases hy : y ≤ now
        · have HU4 := Lib.hid (HN.out w4 (k + 1) HT4.out (by rw [if_pos hy]))
          have d1 : decide (y ≤ now) = true := by simpa using hy
          clear HN HT4
          go_wp2_with fail
          go_roundw
          case rel => exact ⟨i + 1, k + 1, by omega, by omega, by go_num, by go_num, HU4.out⟩
          case measure => simp [intOf]; omega
        · have HU4 := Lib.hid (HN.out w4 k HT4.out (by rw [if_neg hy]; rfl))
          have d1 : decide (y ≤ now) = false := by simpa using hy
          clear HN HT4
          go_wp2_with fail
          go_roundw
          case rel => exact ⟨i + 1, k, by omega, by omega, by go_num, rfl, HU4.out⟩
          case measure => simp [intOf]; omega
      · have hin : i = n := by omega
        subst hin
        obtain ⟨L, hT, hP, hC⟩ := HU.out
        have hlen : L.length = i := by rw [hP.length_eq, rm_len]
        have hio : idsOK L ∧ L.Pairwise leO := by obtain ⟨go, hg, _⟩ := id hT; exact hg.ids
        have hD : (dueL now L).length = k := by rw [due_len now L hio.2, hC]
        have HT := Lib.hid hT
        have HLN := Lib.hid hlen
        have HIO := Lib.hid hio
        have HD := Lib.hid hD
        clear hT hP hC hlen hio hD HU hlt
        go_wp2_with fail
        refine (o_due (now := now) (R := dueL now L) HT.out rfl).mono ?_
        rintro e w3 ⟨a3, c3, rfl, ho3, hT3, hb3⟩
        rw [HD.out] at ho3 ⊢
        have HT3 := Lib.hid hT3
        have HO3 := Lib.hid (ownI ho3)
        clear ho3 hb3 HT hT3
        go_wp2_with fail
        refine (low_any later 50 _ (by omega) (by omega)).mono ?_
        rintro e w' ⟨rfl, rfl⟩
        obtain ⟨hl1, hl2⟩ := lowI_bd later 50 (by omega)
        generalize lowI later 50 = lt at hl1 hl2 ⊢
        obtain ⟨hle, hpre⟩ := due_le (now := now) (later := now + lt) (by omega) L
        have HPRE := Lib.hid hpre
        have hm := dueL_len (now + lt) L
        rw [HLN.out] at hm
        rw [HD.out] at hle
        clear hpre
        go_wp2_with fail
        refine (o_due (now := now + lt) (R := dueL (now + lt) L) HT3.out rfl).mono ?_
        rintro e w4 ⟨a4, c4, rfl, ho4, hT4, hb4⟩
        have HB4 := Lib.hid (show DuB w p k L (dueL now L) (dueL (now + lt) L) a3 a4 (dueL (now + lt) L).length c3 c4 w4 from ⟨hT4, HO3.out.below hb4 rfl, ownI ho4⟩)
        clear ho4 hT4 hb4 HT3 HO3
        obtain ⟨k2, hk2⟩ : ∃ k2, (dueL (now + lt) L).length = k2 := ⟨_, rfl⟩
        rw [hk2] at HB4 hle hm ⊢
        have HK2 := Lib.hid hk2
        clear hk2
        obtain ⟨M, hM⟩ : ∃ M, dueL (now + lt) L = M := ⟨_, rfl⟩
        rw [hM] at HB4 HPRE HK2
        clear hM
        have d1 : decide (k2 < k) = false := by simp; omega
        go_wp2_with fail
        refine (o_len (k := i) HB4.out.1 HLN.out).mono ?_
        rintro e w' ⟨rfl, rfl⟩
        go_wp2_with fail
        go_loopw [14] (fun v wr => ∃ j : Nat, j ≤ k ∧ v = .int .i64 j ∧ RowKit.Hid (DuB w p k L (dueL now L) M a3 a4 k2 c3 c4 wr)) (fun v _ => k - (intOf v).toNat)
        case atStart => exact ⟨0, Nat.zero_le _, rfl, HB4.out⟩
        case round =>
          clear HB4
          obtain ⟨j, hj, rfl, HB⟩ := hrel
          by_cases hlt : j < k
          · have hx : (dueL now L)[j]? = some ((dueL now L)[j]'(by rw [HD.out]; exact hlt)) := List.getElem?_eq_getElem _
            obtain ⟨d, hd⟩ : ∃ d, (dueL now L)[j]'(by rw [HD.out]; exact hlt) = d := ⟨_, rfl⟩
            rw [hd] at hx
            have hxm : M[j]? = some d := by rw [HPRE.out j (by rw [HD.out]; exact hlt)]; exact hx
            obtain ⟨xa, hxa, hx2, hx1⟩ := due_get hx
            have hat := at_get HIO.out.1 hxa
            rw [hx2] at hat
            obtain ⟨b1, o1, rfl, hc1, _, _⟩ := HB.out.2.1.at_ hx
            have HX := Lib.hid hx
            have HXM := Lib.hid hxm
            have HXA := Lib.hid hxa
            have HX2 := Lib.hid hx2
            have HAT := Lib.hid hat
            clear hx hxm hxa hx2 hat hd
            have k1 : (0 : Int) ≤ (j : Int) := by omega
            have k2' : (j : Int) < (k : Int) := by omega
            have k3 : (j : Int) < (k2 : Int) := by omega
            go_wp2_with fail
            refine (o_at HB.out.1 HAT.out).mono ?_
            rintro e w5 ⟨rfl, hT5, hb5⟩
            have HB5 := Lib.hid (HB.out.below hb5)
            clear hT5 hb5 HB hc1
            obtain ⟨b1', o1', e1, hc1, _, _⟩ := HB5.out.2.1.at_ HX.out
            simp only [Option.some.injEq, Addr.mk.injEq, and_true] at e1
            obtain ⟨rfl, rfl⟩ := e1
            obtain ⟨b2, o2, rfl, hc2, _, _⟩ := HB5.out.2.2.at_ HXM.out
            have d2 : decide (now < xa.1) = false := by simpa using hx1
            go_wp2_with fail
            go_quiet (fail)
            have HB6 := Lib.hid (HB5.out.below (below_drewN (Below.refl w5.heap.size w5) nq))
            by_cases hj0 : j = 0
            · subst hj0
              clear HB5
              go_wp2_with fail
              go_roundw
              case rel => exact ⟨1, by omega, by go_num, HB6.out⟩
              case measure => simp [intOf]; omega
            · obtain ⟨j', rfl⟩ : ∃ j', j = j' + 1 := ⟨j - 1, by omega⟩
              have hy : (dueL now L)[j']? = some ((dueL now L)[j']'(by rw [HD.out]; omega)) := List.getElem?_eq_getElem _
              obtain ⟨d', hd'⟩ : ∃ d', (dueL now L)[j']'(by rw [HD.out]; omega) = d' := ⟨_, rfl⟩
              rw [hd'] at hy
              obtain ⟨xb, hxb, hy2, hy1⟩ := due_get hy
              have hat' := at_get HIO.out.1 hxb
              rw [hy2] at hat'
              have hlt2 := sort_lt HIO.out.1 HIO.out.2 hxb HXA.out
              rw [hy2, HX2.out] at hlt2
              have HY := Lib.hid hy
              have HAT' := Lib.hid hat'
              clear hy hxb hy2 hat' hd' HX2 HXA HXM HAT hc1 hc2
              obtain ⟨b1', o1', e1, hc1, _, _⟩ := HB6.out.2.1.at_ HY.out
              simp only [Option.some.injEq, Addr.mk.injEq, and_true] at e1
              obtain ⟨rfl, rfl⟩ := e1
              have k4 : (0 : Int) ≤ (j' : Int) := by omega
              have k5 : (j' : Int) < (k : Int) := by omega
              have k6 : ((j' : Int) + 1) < (k : Int) := by omega
              have k7 : (0 : Int) ≤ (j' : Int) + 1 := by omega
              have k9 : (0 : Int) < (j' : Int) + 1 := by omega
              have k10 : ((j' : Int) + 1 - 1) = (j' : Int) := by omega
              generalize w5.drewN nq = w6 at HB6 hc1 ⊢
              have k8 : IntKind.i64.wrap (j' : Int) = j' := IntWalk.i64_in _ (by omega)
              clear HB5
              go_wp2_with fail
              refine (o_at HB6.out.1 HAT'.out).mono ?_
              rintro e w7 ⟨rfl, hT7, hb7⟩
              have HB7 := Lib.hid (HB6.out.below hb7)
              clear hT7 hb7 HB6 hc1
              obtain ⟨b1', o1', e1, hc1, _, _⟩ := HB7.out.2.1.at_ HX.out
              simp only [Option.some.injEq, Addr.mk.injEq, and_true] at e1
              obtain ⟨rfl, rfl⟩ := e1
              obtain ⟨b1', o1', e1, hc3, _, _⟩ := HB7.out.2.1.at_ HY.out
              simp only [Option.some.injEq, Addr.mk.injEq, and_true] at e1
              obtain ⟨rfl, rfl⟩ := e1
              have HC1 := Lib.hid hc1
              have hc4 : w7.cell? ⟨b1, o1 + (j' + 1), none⟩ = some (.int .i64 d) := HC1.out
              clear hc1
              by_cases hba : xb.1 = xa.1
              · have h2 : d' < d := by omega
                have d3 : decide (xa.1 < xb.1) = false := by simp; omega
                have d4 : (xb.1 == xa.1) = true := by rw [beq_iff_eq]; exact hba
                have d5 : decide (d ≤ d') = false := by simp; omega
                clear hba hlt2
                go_wp2_with fail
                go_quiet (fail)
                have HB8 := Lib.hid (HB7.out.below (below_drewN (Below.refl w7.heap.size w7) nq))
                clear k8 HB7
                go_wp2_with fail
                go_roundw
                case rel => exact ⟨j' + 1 + 1, by omega, by go_num, HB8.out⟩
                case measure => simp [intOf]; omega
              · have d3 : decide (xa.1 < xb.1) = false := by simp; omega
                have d4 : (xb.1 == xa.1) = false := by rw [beq_eq_false_iff_ne]; exact hba
                clear hba hlt2
                go_wp2_with fail
                go_quiet (fail)
                have HB8 := Lib.hid (HB7.out.below (below_drewN (Below.refl w7.heap.size w7) nq))
                clear k8 HB7
                go_wp2_with fail
                go_roundw
                case rel => exact ⟨j' + 1 + 1, by omega, by go_num, HB8.out⟩
                case measure => simp [intOf]; omega
          · have hin : j = k := by omega
            subst hin
            clear hlt
            go_wp2_with fail
            refine (awake_any _).mono ?_
            rintro e w6 ⟨rfl, hb6⟩
            have HT6 := Lib.hid (HB.out.1.below hb6)
            clear hb6 HB
            go_wp2_with fail
            go_ret
            exact ⟨rfl, HT6.out.bel⟩
end Go.Proofs.Ytjdanngkmkgidaa
