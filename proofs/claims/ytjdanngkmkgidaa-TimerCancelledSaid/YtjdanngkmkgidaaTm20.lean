/- The walk of TimerCancelled. -/
import Derived.Test.YtjdanngkmkgidaaTm19
namespace Go.Proofs.Ytjdanngkmkgidaa
open Go.RowKit
set_option linter.unusedVariables false

theorem mem_cancel {L : List One} (hi : idsOK L) (id : Int) (x : One) : x ∈ cancelL id L ↔ x ∈ L ∧ x.2 ≠ id := by
  constructor
  · intro h
    refine ⟨(List.eraseP_sublist ..).subset h, fun e => ?_⟩
    have := cancel_has id hi
    rw [has_iff.2 ⟨x, h, e⟩] at this
    cases this
  · rintro ⟨h, hne⟩
    unfold cancelL
    exact (List.mem_eraseP_of_neg (by simpa using hne)).2 h
theorem len_cancel {L : List One} {id : Int} (h : hasL id L = true) : (cancelL id L).length + 1 = L.length := by
  obtain ⟨x, hx, he⟩ := has_iff.1 h
  unfold cancelL
  rw [List.length_eraseP_of_mem hx (by simpa using he)]
  have := List.length_pos_of_mem hx
  omega
def bitB (bits : Int) (j : Nat) : Bool := Go.bits .and .u32 (bits / 2 ^ j) 1 == 1
def CaA (w0 : World) (p N i : Nat) (w : World) : Prop := ∃ L, OwnT w0 w p N L ∧ L.Perm (rm i (fun j => (30 - (j : Int), (j : Int))))
theorem ca_step {w0 w : World} {p N i : Nat} (h : CaA w0 p N i w) (hi : i < N) (hN : N ≤ 24) : ∃ L L1, OwnT w0 w p N L ∧ setL N L i (30 - (i : Int)) = (0, L1) ∧ ∀ w', OwnT w0 w' p N L1 → CaA w0 p N (i + 1) w' := by
  obtain ⟨L, h1, h2⟩ := h
  have l1 : L.length = i := by rw [h2.length_eq, rm_len]
  obtain ⟨L1, a1, a2⟩ := set_fresh (L := L) (most := N) (id := i) (at_ := 30 - (i : Int)) (by omega) (by omega) (by omega) (tu_has (id := (i : Int)) h2 (fun j hj => by simp only; omega)) (by omega)
  refine ⟨L, L1, h1, a1, fun w' hw => ⟨L1, hw, ?_⟩⟩
  rw [rm_succ]
  exact a2.trans ((h2.cons _).trans (List.perm_append_singleton _ _).symm)
def CaB (w0 : World) (p N : Nat) (bits : Int) (i k : Nat) (w : World) : Prop := ∃ L, OwnT w0 w p N L ∧ (∀ x : One, x ∈ L ↔ ∃ j : Nat, j < N ∧ x = (30 - (j : Int), (j : Int)) ∧ (i ≤ j ∨ bitB bits j = false)) ∧ L.length + k = N
theorem ca_ab {w0 w : World} {p N : Nat} {bits : Int} (h : CaA w0 p N N w) (hN : N ≤ 24) : CaB w0 p N bits 0 0 w ∧ ∃ L, OwnT w0 w p N L ∧ setL N L 99 5 = (3, L) ∧ ∀ w', OwnT w0 w' p N L → CaB w0 p N bits 0 0 w' := by
  obtain ⟨L, h1, h2⟩ := h
  have l1 : L.length = N := by rw [h2.length_eq, rm_len]
  have hm : ∀ x : One, x ∈ L ↔ ∃ j : Nat, j < N ∧ x = (30 - (j : Int), (j : Int)) ∧ (0 ≤ j ∨ bitB bits j = false) := by
    intro x
    rw [h2.mem_iff, mem_rm]
    constructor
    · rintro ⟨k, hk, rfl⟩; exact ⟨k, hk, rfl, .inl (Nat.zero_le _)⟩
    · rintro ⟨k, hk, rfl, _⟩; exact ⟨k, hk, rfl⟩
  refine ⟨⟨L, h1, hm, by omega⟩, L, h1, ?_, fun w' hw => ⟨L, hw, hm, by omega⟩⟩
  unfold setL
  rw [if_neg (by omega), if_neg (by rw [tu_has (id := 99) h2 (fun j hj => by simp only; omega)]; exact Bool.false_ne_true), if_pos (by omega)]
theorem ca_no {w0 w : World} {p N i k : Nat} {bits : Int} (h : CaB w0 p N bits i k w) (hb : bitB bits i = false) : CaB w0 p N bits (i + 1) k w := by
  obtain ⟨L, h1, h2, h3⟩ := h
  refine ⟨L, h1, fun x => (h2 x).trans ⟨?_, ?_⟩, h3⟩
  · rintro ⟨j, hj, rfl, h⟩
    refine ⟨j, hj, rfl, ?_⟩
    by_cases e : j = i
    · subst e; exact .inr hb
    · rcases h with h | h
      · exact .inl (by omega)
      · exact .inr h
  · rintro ⟨j, hj, rfl, h⟩
    exact ⟨j, hj, rfl, h.imp (fun h => by omega) (fun h => h)⟩
theorem ca_yes {w0 w : World} {p N i k : Nat} {bits : Int} (h : CaB w0 p N bits i k w) (hi : i < N) (hb : bitB bits i = true) : ∃ L L1, OwnT w0 w p N L ∧ hasL i L = true ∧ cancelL i L = L1 ∧ hasL i L1 = false ∧ cancelL i L1 = L1 ∧ ∀ w', OwnT w0 w' p N L1 → CaB w0 p N bits (i + 1) (k + 1) w' := by
  obtain ⟨L, h1, h2, h3⟩ := h
  have hio : idsOK L := by obtain ⟨go, hg, _⟩ := h1; exact hg.ids.1
  have hh : hasL i L = true := has_iff.2 ⟨_, (h2 _).2 ⟨i, hi, rfl, .inl (Nat.le_refl _)⟩, rfl⟩
  have hn := cancel_has (i : Int) hio
  refine ⟨L, _, h1, hh, rfl, hn, cancelL_no hn, fun w' hw => ⟨_, hw, fun x => ?_, ?_⟩⟩
  · rw [mem_cancel hio, h2]
    constructor
    · rintro ⟨⟨j, hj, rfl, h⟩, hne⟩
      refine ⟨j, hj, rfl, h.imp (fun h => ?_) (fun h => h)⟩
      simp only at hne
      omega
    · rintro ⟨j, hj, rfl, h⟩
      refine ⟨⟨j, hj, rfl, h.imp (fun h => by omega) (fun h => h)⟩, ?_⟩
      simp only
      intro e
      have e' : j = i := by omega
      subst e'
      rcases h with h | h
      · omega
      · rw [hb] at h; cases h
  · have := len_cancel hh; omega
theorem ca_due {L : List One} (h : ∀ x ∈ L, x.1 ≤ 100) : dueL 100 L = L.map (·.2) := by
  unfold dueL
  have : L.takeWhile (fun x => decide (x.1 ≤ 100)) = L := by
    induction L with
    | nil => rfl
    | cons x L ih =>
      rw [List.takeWhile_cons, if_pos (by simpa using h x (List.mem_cons_self ..)), ih (fun y hy => h y (List.mem_cons_of_mem _ hy))]
  rw [this]
theorem ca_end {w0 w : World} {p N k : Nat} {bits : Int} (h : CaB w0 p N bits N k w) (hN : N ≤ 24) : ∃ (L : List One) (D : List Int), OwnT w0 w p N L ∧ dueL 100 L = D ∧ D.length + k = N ∧ D.length = L.length ∧ (∀ (i : Nat) (d : Int), D[i]? = some d → ∃ j : Nat, d = j ∧ j < N ∧ bitB bits j = false) ∧ (∀ (i : Nat) (d d' : Int), D[i]? = some d → D[i + 1]? = some d' → d' < d) ∧ (setL N L 99 5).1 = (if k = 0 then 3 else 0) := by
  obtain ⟨L, h1, h2, h3⟩ := h
  have hio : idsOK L ∧ L.Pairwise leO := by obtain ⟨go, hg, _⟩ := id h1; exact hg.ids
  have hD : dueL 100 L = L.map (·.2) := ca_due (fun x hx => by
    obtain ⟨j, hj, rfl, _⟩ := (h2 x).1 hx
    simp only; omega)
  refine ⟨L, _, h1, hD, by rw [List.length_map]; exact h3, by rw [List.length_map], fun i d hd => ?_, fun i d d' hd hd' => ?_, ?_⟩
  · rw [List.getElem?_map, Option.map_eq_some_iff] at hd
    obtain ⟨x, hx, rfl⟩ := hd
    obtain ⟨j, hj, rfl, hb⟩ := (h2 x).1 (List.mem_of_getElem? hx)
    exact ⟨j, rfl, hj, hb.resolve_left (by omega)⟩
  · rw [List.getElem?_map, Option.map_eq_some_iff] at hd hd'
    obtain ⟨x, hx, rfl⟩ := hd
    obtain ⟨y, hy, rfl⟩ := hd'
    have hl := sort_lt hio.1 hio.2 hx hy
    obtain ⟨j, hj, rfl, _⟩ := (h2 x).1 (List.mem_of_getElem? hx)
    obtain ⟨j', hj', rfl, _⟩ := (h2 y).1 (List.mem_of_getElem? hy)
    simp only at hl ⊢
    omega
  · unfold setL
    have hh : hasL 99 L = false := by
      rw [Bool.eq_false_iff]
      intro e
      obtain ⟨x, hx, he⟩ := has_iff.1 e
      obtain ⟨j, hj, rfl, _⟩ := (h2 x).1 hx
      simp only at he
      omega
    rw [if_neg (by omega), if_neg (by rw [hh]; exact Bool.false_ne_true)]
    by_cases hk : k = 0
    · rw [if_pos (by omega), if_pos hk]
    · rw [if_neg (by omega), if_neg hk]
set_option maxRecDepth 100000 in
set_option maxHeartbeats 4000000 in
theorem cancelled_walk (many bits : Int) (w : World) (h1 : 0 ≤ bits) (h2 : bits ≤ 4294967295) :
    Calls Try.prog 5 #[.int .i64 many, .int .u32 bits] w fun e w' => e = .returned (.bool true) ∧ Below w.heap.size w w' := by
  go_enter Try.func5, Try.ntmps5
  go_wp2_with fail
  refine (low_any many 24 _ (by omega) (by omega)).mono ?_
  rintro e w' ⟨rfl, rfl⟩
  obtain ⟨hn1, hn2⟩ := lowI_bd many 24 (by omega)
  obtain ⟨m, hm⟩ : ∃ m : Nat, lowI many 24 = (m : Int) := ⟨(lowI many 24).toNat, by omega⟩
  rw [hm] at hn1 hn2 ⊢
  have HM := Lib.hid hm
  clear hm
  go_wp2_with fail
  obtain ⟨N, hN⟩ : ∃ N : Nat, 1 + (m : Int) = (N : Int) := ⟨m + 1, by omega⟩
  rw [hN]
  have hN1 : 1 ≤ N := by omega
  have hN2 : N ≤ 24 := by omega
  clear hN hn1 hn2 HM
  refine (t_new N _ (by omega) (by omega)).mono ?_
  rintro e w1 ⟨rfl, hT1⟩
  have HT1 := Lib.hid (OwnT.new (Below.refl _ w) hT1)
  clear hT1
  generalize w.heap.size = p at HT1 ⊢
  have hq1 : ∀ W : World, (binOp .eql 24 (.pointer (some ⟨p, 0, none⟩)) (.pointer none)).run Try.prog W = .ok (.bool false) W := fun W => by kernel_rfl
  go_wp2_with fail
  go_loopw [8] (fun v wr => ∃ i : Nat, i ≤ N ∧ v = .int .i64 i ∧ RowKit.Hid (CaA w p N i wr)) (fun v _ => N - (intOf v).toNat)
  case atStart => exact ⟨0, Nat.zero_le _, rfl, ⟨[], HT1.out, List.Perm.refl _⟩⟩
  case round =>
    clear HT1
    obtain ⟨i, hi, rfl, HU⟩ := hrel
    by_cases hlt : i < N
    · obtain ⟨L, L1, hT, hs, hnext⟩ := ca_step HU.out hlt hN2
      have HT := Lib.hid hT
      have HS := Lib.hid hs
      have HNX := Lib.hid hnext
      clear hT hs hnext HU
      go_wp2_with fail
      refine (o_set HT.out HS.out).mono ?_
      rintro e w3 ⟨rfl, hT3⟩
      have HU3 := Lib.hid (HNX.out _ hT3)
      clear hT3 HT HNX HS
      go_wp2_with fail
      go_roundw
      case rel => exact ⟨i + 1, by omega, by go_num, HU3.out⟩
      case measure => simp [intOf]; omega
    · have hin : i = N := by omega
      subst hin
      obtain ⟨_, L, hT, hs, hnext⟩ := ca_ab (bits := bits) HU.out hN2
      have HT := Lib.hid hT
      have HS := Lib.hid hs
      have HNX := Lib.hid hnext
      clear hT hs hnext HU hlt hi
      go_wp2_with fail
      refine (o_set HT.out HS.out).mono ?_
      rintro e w3 ⟨rfl, hT3⟩
      have HU3 := Lib.hid (HNX.out _ hT3)
      clear hT3 HT HNX HS
      go_wp2_with fail
      go_loopw [7, 9] (fun v7 v wr => ∃ j k : Nat, k ≤ j ∧ j ≤ i ∧ v = .int .i64 j ∧ v7 = .int .i64 k ∧ RowKit.Hid (CaB w p i bits j k wr)) (fun _ v _ => i - (intOf v).toNat)
      case atStart => exact ⟨0, 0, Nat.le_refl _, Nat.zero_le _, rfl, rfl, HU3.out⟩
      case round =>
        clear HU3
        obtain ⟨j, k, hk, hj, rfl, rfl, HU⟩ := hrel
        by_cases hjt : j < i
        · cases hb : bitB bits j with
          | false =>
            have HU4 := Lib.hid (ca_no HU.out hb)
            unfold bitB at hb
            clear HU
            go_wp2_with fail
            go_roundw
            case rel => exact ⟨j + 1, k, by omega, by omega, by go_num, rfl, HU4.out⟩
            case measure => simp [intOf]; omega
          | true =>
            obtain ⟨L, L1, hT, hs, hs1, hs2, hs3, hnext⟩ := ca_yes HU.out hjt hb
            unfold bitB at hb
            have HT := Lib.hid hT
            have HS := Lib.hid hs
            have HS1 := Lib.hid hs1
            have HS2 := Lib.hid hs2
            have HS3 := Lib.hid hs3
            have HNX := Lib.hid hnext
            clear hT hs hnext HU hs1 hs2 hs3
            go_wp2_with fail
            refine (o_cancel HT.out HS.out HS1.out).mono ?_
            rintro e w3 ⟨rfl, hT3⟩
            have HT3 := Lib.hid hT3
            clear hT3 HT
            go_wp2_with fail
            refine (o_cancel HT3.out HS2.out HS3.out).mono ?_
            rintro e w4 ⟨rfl, hT4⟩
            have HU4 := Lib.hid (HNX.out _ hT4)
            clear hT4 HT3 HNX
            go_wp2_with fail
            go_roundw
            case rel => exact ⟨j + 1, k + 1, by omega, by omega, by go_num, by go_num, HU4.out⟩
            case measure => simp [intOf]; omega
        · have hin : j = i := by omega
          subst hin
          obtain ⟨L, D, hT, hD, hl1, hl2, hd1, hd2, hs⟩ := ca_end HU.out hN2
          have HT := Lib.hid hT
          have HD := Lib.hid hD
          have HD1 := Lib.hid hd1
          have HD2 := Lib.hid hd2
          have HS := Lib.hid hs
          clear hT hD hd1 hd2 hs HU hjt hj hl2
          go_wp2_with fail
          refine (o_due HT.out HD.out).mono ?_
          rintro e w3 ⟨a3, c3, rfl, ho3, hT3, hb3⟩
          have HT3 := Lib.hid hT3
          have HO3 := Lib.hid (ownI ho3)
          clear ho3 hT3 hb3 HT
          obtain ⟨n, hn⟩ : ∃ n, D.length = n := ⟨_, rfl⟩
          rw [hn] at HO3 hl1 ⊢
          have HN := Lib.hid hn
          clear hn
          go_wp2_with fail
          go_loopw [11] (fun v wr => ∃ q : Nat, q ≤ n ∧ v = .int .i64 q ∧ RowKit.Hid (OwnT w wr p j L) ∧ RowKit.Hid (Rd wr a3 n c3 (ints D))) (fun v _ => n - (intOf v).toNat)
          case atStart => exact ⟨0, Nat.zero_le _, rfl, HT3.out, HO3.out⟩
          case round =>
            clear HT3 HO3
            obtain ⟨q, hq, rfl, HT, HO⟩ := hrel
            by_cases hqt : q < n
            · have hx : D[q]? = some (D[q]'(by rw [HN.out]; exact hqt)) := List.getElem?_eq_getElem _
              obtain ⟨d, hd⟩ : ∃ d, D[q]'(by rw [HN.out]; exact hqt) = d := ⟨_, rfl⟩
              rw [hd] at hx
              obtain ⟨x, rfl, hxl, hxb⟩ := HD1.out q d hx
              obtain ⟨b1, o1, rfl, hc1, _, _⟩ := HO.out.at_ hx
              have HX := Lib.hid hx
              unfold bitB at hxb
              clear hx hd
              have k1 : (0 : Int) ≤ (q : Int) := by omega
              have k2 : (q : Int) < (n : Int) := by omega
              have e1 : decide ((x : Int) < 0) = false := by simp
              have e2 : decide (j ≤ x) = false := by simp; omega
              have e2' : decide ((j : Int) ≤ (x : Int)) = false := by simp; omega
              by_cases hq0 : q = 0
              · subst hq0
                rw [Nat.add_zero] at hc1
                go_wp2_with fail
                go_quiet (fail)
                have HT4 := Lib.hid (HT.out.below (below_drewN (Below.refl wr.heap.size wr) nq))
                have HO4 := Lib.hid (HO.out.below (below_drewN (Below.refl wr.heap.size wr) nq) rfl)
                clear HT HO
                go_wp2_with fail
                go_roundw
                case rel => exact ⟨1, by omega, by go_num, HT4.out, HO4.out⟩
                case measure => simp [intOf]; omega
              · obtain ⟨q', rfl⟩ : ∃ q', q = q' + 1 := ⟨q - 1, by omega⟩
                have hy : D[q']? = some (D[q']'(by rw [HN.out]; omega)) := List.getElem?_eq_getElem _
                obtain ⟨d', hd'⟩ : ∃ d', D[q']'(by rw [HN.out]; omega) = d' := ⟨_, rfl⟩
                rw [hd'] at hy
                have hlt := HD2.out q' d' x hy HX.out
                obtain ⟨b1', o1', e9, hc2, _, _⟩ := HO.out.at_ hy
                simp only [Option.some.injEq, Addr.mk.injEq, and_true] at e9
                obtain ⟨rfl, rfl⟩ := e9
                have e3 : decide (d' ≤ (x : Int)) = false := by simp; omega
                clear hy hd'
                have k4 : (0 : Int) ≤ (q' : Int) := by omega
                have k5 : (q' : Int) < (n : Int) := by omega
                have k6 : ((q' : Int) + 1) < (n : Int) := by omega
                have k7 : (0 : Int) ≤ (q' : Int) + 1 := by omega
                have k9 : (0 : Int) < (q' : Int) + 1 := by omega
                have k10 : decide ((0 : Int) < (q' : Int) + 1) = true := by rw [decide_eq_true_eq]; omega
                have k8 : IntKind.i64.wrap (q' : Int) = q' := IntWalk.i64_in _ (by omega)
                go_wp2_with fail
                go_quiet (fail)
                have HT4 := Lib.hid (HT.out.below (below_drewN (Below.refl wr.heap.size wr) nq))
                have HO4 := Lib.hid (HO.out.below (below_drewN (Below.refl wr.heap.size wr) nq) rfl)
                clear HT HO k8
                go_wp2_with fail
                go_roundw
                case rel => exact ⟨q' + 1 + 1, by omega, by go_num, HT4.out, HO4.out⟩
                case measure => simp [intOf]; omega
            · have hin : q = n := by omega
              subst hin
              have e0 : ((q : Int) == (j : Int) - (k : Int)) = true := by rw [beq_iff_eq]; omega
              obtain ⟨r, hr⟩ : ∃ r, (setL j L 99 5) = r := ⟨_, rfl⟩
              have hr1 : r.1 = if k = 0 then 3 else 0 := by rw [← hr]; exact HS.out
              obtain ⟨r1, r2⟩ := r
              simp only at hr1
              have HR := Lib.hid hr
              clear hr hqt HS
              by_cases hk0 : k = 0
              · rw [if_pos hk0] at hr1
                subst hr1
                subst hk0
                go_wp2_with fail
                refine (o_set HT.out HR.out).mono ?_
                rintro e w4 ⟨rfl, hT4⟩
                have HT4 := Lib.hid hT4
                clear hT4 HT HO
                go_wp2_with fail
                refine (awake_any _).mono ?_
                rintro e w6 ⟨rfl, hb6⟩
                have HT6 := Lib.hid (HT4.out.below hb6)
                clear hb6 HT4
                go_wp2_with fail
                go_ret
                exact ⟨rfl, HT6.out.bel⟩
              · rw [if_neg hk0] at hr1
                subst hr1
                have e5 : decide (0 < k) = true := by simp; omega
                have e6 : (0 : Int) < (k : Int) := by omega
                clear hk0
                go_wp2_with fail
                refine (o_set HT.out HR.out).mono ?_
                rintro e w4 ⟨rfl, hT4⟩
                have HT4 := Lib.hid hT4
                clear hT4 HT HO
                go_wp2_with fail
                refine (awake_any _).mono ?_
                rintro e w6 ⟨rfl, hb6⟩
                have HT6 := Lib.hid (HT4.out.below hb6)
                clear hb6 HT4
                go_wp2_with fail
                go_ret
                exact ⟨rfl, HT6.out.bel⟩
end Go.Proofs.Ytjdanngkmkgidaa
