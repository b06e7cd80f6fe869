/- The document's Asked, May, All, Top. -/
import Derived.Test.YtiohngcmojkheaaR5b
import Derived.Test.YtiohngcmojkheaaR10a
import Derived.Test.YtiohngcmojkheaaRk1
import Derived.Test.YtiohngcmojkheaaRef3
namespace Go.Proofs.Ytiohngcmojkheaa
open Go.RowKit
set_option linter.unusedVariables false

theorem rlen_any (s : ByteArray) (w : World) (hs : s.size ≤ 1000000) :
    Calls Try.prog 68 #[.string s] w fun e w' => e = .returned (.int .i64 (tLen s)) ∧ Below w.heap.size w w' := by
  have H := Lib.hid (fun W => rrunes_any s W hs)
  have hl := runesO_len s
  obtain ⟨z, hz⟩ : ∃ z, tLen s = z := ⟨_, rfl⟩
  rw [hz] at hl ⊢
  clear hz
  cases hr : runesO s with
  | none =>
    rw [hr] at hl H
    simp only at hl
    subst hl
    clear hr
    go_enter Try.func68, Try.ntmps68
    go_wp2_with fail
    refine (H.out _).mono ?_
    rintro e w' ⟨rfl, hb⟩
    go_wp2_with fail
    go_ret
    exact ⟨rfl, hb⟩
  | some l =>
    rw [hr] at hl H
    simp only at hl
    subst hl
    clear hr
    go_enter Try.func68, Try.ntmps68
    go_wp2_with fail
    refine (H.out _).mono ?_
    rintro e w' ⟨⟨ao, c, rfl, hr⟩, hb⟩
    go_wp2_with fail
    go_ret
    exact ⟨rfl, hb⟩
theorem rasked_any (s : ByteArray) (w : World) (hs : s.size ≤ 1000000) :
    Calls Try.prog 52 #[.string s] w fun e w' => e = .returned (.bool (askedB s)) ∧ Below w.heap.size w w' := by
  unfold askedB
  have H := Lib.hid (fun W => rlen_any s W hs)
  generalize tLen s = z at *
  by_cases h1 : 0 ≤ z
  · have d1 : decide (0 ≤ z) = true := by simp; omega
    rw [d1]
    go_enter Try.func52, Try.ntmps52
    go_wp2_with fail
    refine (H.out _).mono ?_
    rintro e w1 ⟨rfl, hb⟩
    have HB := Lib.hid hb
    clear hb
    go_wp2_with fail
    refine (H.out _).mono ?_
    rintro e w2 ⟨rfl, hb⟩
    have HB2 := Lib.hid (HB.out.trans (hb.mono HB.out.size))
    clear hb HB
    go_wp2_with fail
    go_ret
    exact ⟨by simp, HB2.out⟩
  · have d1 : decide (0 ≤ z) = false := by simp; omega
    rw [d1]
    go_enter Try.func52, Try.ntmps52
    go_wp2_with fail
    refine (H.out _).mono ?_
    rintro e w' ⟨rfl, hb⟩
    go_wp2_with fail
    go_ret
    exact ⟨by simp, hb⟩
set_option maxRecDepth 100000 in
set_option maxHeartbeats 2000000 in
theorem rrmay_any (q : ByteArray) (k n : Int) (w : World) (hs : q.size ≤ 1000000) :
    Calls Try.prog 20 #[.agg #[.string q, .int .i64 k, .int .i64 n]] w fun e w' => e = .returned (.bool (mayQ q k n)) ∧ Below w.heap.size w w' := by
  obtain ⟨R, hR⟩ : ∃ R, mayQ q k n = R := ⟨_, rfl⟩
  rw [hR]
  have HR := Lib.hid hR
  clear hR
  have HA := Lib.hid (fun W => rasked_any q W hs)
  have HSA := Lib.hid (show mayQ q k n = (askedB q && decide (0 ≤ k) && decide (k ≤ 4) && decide (1 ≤ n) && decide (n ≤ 10)) from rfl)
  generalize askedB q = x at *
  have HB := Lib.hid ((Below.refl _ w).alloc (Nat.le_refl _) (.cells #[.string q, .int .i64 k, .int .i64 n] 24))
  have HK := Lib.hid (show Blk (w.alloc (.cells #[.string q, .int .i64 k, .int .i64 n] 24)) w.heap.size 24 [.string q, .int .i64 k, .int .i64 n] from heap_alloc_new w _)
  go_enter Try.func20, Try.ntmps20
  go_wp2_with fail
  refine (HA.out _).mono ?_
  rintro e w1 ⟨rfl, hb⟩
  have HB1 := Lib.hid (HB.out.trans (hb.mono HB.out.size))
  have HK1 := Lib.hid (HK.out.below hb (Blk.lt HK.out))
  have c0 : w1.cell? ⟨w.heap.size, 0, none⟩ = some (.string q) := HK1.out.cell 0
  have c1 : w1.cell? ⟨w.heap.size, 1, none⟩ = some (.int .i64 k) := HK1.out.cell 1
  have c2 : w1.cell? ⟨w.heap.size, 2, none⟩ = some (.int .i64 n) := HK1.out.cell 2
  clear hb HB HK HK1
  cases x
  · obtain rfl : R = false := by rw [← HR.out, HSA.out]; rfl
    go_wp2_with fail
    go_ret
    exact ⟨rfl, HB1.out⟩
  · by_cases k1 : 0 ≤ k
    · by_cases k2 : k ≤ 4
      · by_cases k3 : 1 ≤ n
        · by_cases k4 : n ≤ 10
          · obtain rfl : R = true := by rw [← HR.out, HSA.out]; simp [k1, k2, k3, k4]
            go_wp2_with fail
            go_ret
            exact ⟨rfl, HB1.out⟩
          · have d : decide (n ≤ 10) = false := by simpa using k4
            obtain rfl : R = false := by rw [← HR.out, HSA.out, d]; simp
            go_wp2_with fail
            go_ret
            exact ⟨rfl, HB1.out⟩
        · have d : decide (1 ≤ n) = false := by simpa using k3
          obtain rfl : R = false := by rw [← HR.out, HSA.out, d]; simp
          go_wp2_with fail
          go_ret
          exact ⟨rfl, HB1.out⟩
      · have d : decide (k ≤ 4) = false := by simpa using k2
        obtain rfl : R = false := by rw [← HR.out, HSA.out, d]; simp
        go_wp2_with fail
        go_ret
        exact ⟨rfl, HB1.out⟩
    · have d : decide (0 ≤ k) = false := by simpa using k1
      obtain rfl : R = false := by rw [← HR.out, HSA.out, d]; simp
      go_wp2_with fail
      go_ret
      exact ⟨rfl, HB1.out⟩
theorem distT_sym (s t : ByteArray) : distT s t = distT t s := by
  unfold distT
  cases runesO s <;> cases runesO t <;> first | rfl | exact distL_sym _ _
theorem distT_le {s t : ByteArray} (h1 : s.size ≤ 1000) (h2 : t.size ≤ 1000) : -1 ≤ distT s t ∧ distT s t ≤ 2000 := by
  cases hs : runesO s with
  | none => rw [distT_none1 hs]; omega
  | some a =>
    cases ht : runesO t with
    | none => rw [distT_none2 ht]; omega
    | some b =>
      rw [distT_some hs ht]
      have := distL_bd a b
      have := runesO_le hs
      have := runesO_le ht
      omega
theorem own_take {w : World} {base e size n c : Nat} {ao : Option Addr} {α : Type} {enc : α → List Value} {l : List α} (h : w.ownsRow base e size (.slice ao n c) n (l.flatMap enc)) {t : Nat} (ht : t ≤ n) (henc : ∀ x, (enc x).length = size := by exact fun _ => rfl) : w.ownsRow base e size (.slice ao t c) t ((l.take t).flatMap enc) := by
  have hfl : ∀ m : List α, (m.flatMap enc).length = m.length * size := by
    intro m
    induction m with
    | nil => simp
    | cons x m ih => rw [List.flatMap_cons, List.length_append, ih, henc, List.length_cons, Nat.succ_mul, Nat.add_comm]
  have htk : ∀ (m : List α) (k : Nat), k ≤ m.length → (m.flatMap enc).take (k * size) = (m.take k).flatMap enc := by
    intro m
    induction m with
    | nil => intro k _; simp
    | cons x m ih =>
      intro k hk
      cases k with
      | zero => simp
      | succ k =>
        rw [List.flatMap_cons, List.take_succ_cons, List.flatMap_cons, Nat.succ_mul, Nat.add_comm (k * size), ← henc x, List.take_length_add_append]
        congr 1
        rw [henc x]
        exact ih k (by simpa using hk)
  obtain ⟨h1, h2⟩ := h
  rw [hfl] at h1
  rcases h2 with ⟨h3, h4⟩ | ⟨g, cap, cur, h3, h4, h5, h6, h7, h8, h9⟩
  · obtain rfl : t = 0 := by omega
    injection h3 with e1 e2 e3
    subst e1; subst e3
    exact ⟨by simp, .inl ⟨rfl, rfl⟩⟩
  · injection h3 with e1 e2 e3
    subst e1; subst e3
    by_cases hz : size = 0
    · subst hz
      have e0 : ∀ m : List α, m.flatMap enc = [] := fun m => List.eq_nil_of_length_eq_zero (by rw [hfl]; omega)
      rw [e0]
      exact ⟨by simp, .inr ⟨g, c, cur, rfl, h4, h5, by omega, h7, h8, by simp⟩⟩
    · have hle : t ≤ l.length := by rw [Nat.eq_of_mul_eq_mul_right (by omega) h1]; exact ht
      refine ⟨by rw [hfl, List.length_take, Nat.min_eq_left hle], .inr ⟨g, c, cur, rfl, h4, h5, by omega, h7, h8, ?_⟩⟩
      rw [← htk l t hle, ← h9, List.take_take, Nat.min_eq_left (Nat.mul_le_mul_right _ ht)]
def RlR (w : World) (words : List ByteArray) (s : ByteArray) (k : Int) (v7 v8 : Value) (wr : World) : Prop := ∃ (i m : Nat) (ao : Option Addr) (c : Nat), i ≤ words.length ∧ m ≤ i ∧ v8 = .int .i64 i ∧ v7 = .slice ao m c ∧ RowKit.Hid ((allL (words.take i) s k).length = m) ∧ RowKit.Hid (wr.ownsRow w.heap.size 39 2 (.slice ao m c) m ((allL (words.take i) s k).flatMap KeyL.cells)) ∧ RowKit.Hid (Below w.heap.size w wr)
theorem allL_snoc (words : List ByteArray) (s : ByteArray) (k : Int) (x : ByteArray) : allL (words ++ [x]) s k = (if 0 ≤ distT x s ∧ distT x s ≤ k then putL (allL words s k) (distT x s, x) else allL words s k) := by
  unfold allL
  rw [nearI_snoc]
  unfold nearT
  rw [distT_sym s x]
  by_cases h : 0 ≤ distT x s ∧ distT x s ≤ k
  · rw [if_pos h, if_pos h]
    simp only [if_true]
    unfold sortL
    rw [List.foldl_append]
    rfl
  · rw [if_neg h, if_neg h]
    simp
theorem nearI_mem2 {words : List ByteArray} {s : ByteArray} {k : Int} {y : KeyL} (h : y ∈ allL words s k) : y.2 ∈ words := by
  have h2 := sortL_mem.1 h
  obtain ⟨w, hw, he⟩ := List.mem_filterMap.1 h2
  unfold nearO at he
  split at he
  · cases he; exact hw
  · cases he
set_option maxRecDepth 100000 in
set_option maxHeartbeats 4000000 in
theorem rrall_any (w : World) (ao : Option Addr) (n c : Nat) (words : List ByteArray) (s : ByteArray) (k : Int) (h : RdT w ao n c words) (hn : words.length ≤ 1000) (hw : ∀ x ∈ words, x.size ≤ 1000) (hs : s.size ≤ 1000) :
    Calls Try.prog 23 #[.slice ao n c, .string s, .int .i64 k] w fun e w' => OwnI w (allL words s k) e w' := by
  have hl : words.length = n := by have := h.1; simpa using this
  subst hl
  have hcap := h.2.1
  have hcm := h.2.2.1
  unfold maxLen at hcm
  have HR := Lib.hid h
  have HW := Lib.hid hw
  have HDI := Lib.hid (fun x W (hx : x.size ≤ 1000) => rdistance_any x s W hx hs)
  have HDL := Lib.hid (fun (x : ByteArray) (hx : x.size ≤ 1000) => distT_le hx hs)
  have HPU := Lib.hid (fun w ao n c l x hr hn hs hx => rput_any w ao n c l x hr hn hs hx)
  clear h hw
  go_enter Try.func23, Try.ntmps23
  go_wp2_with fail
  go_loopw [7, 8] (fun v7 v8 wr => RlR w words s k v7 v8 wr) (fun _ v _ => words.length - (intOf v).toNat)
  case atStart => exact ⟨0, 0, none, 0, by omega, by omega, rfl, rfl, rfl, World.ownsRow_nil _ _ _ _, Below.refl _ _⟩
  case round =>
    obtain ⟨i, m, a1, c1, hi, hmi, rfl, rfl, HLN, HO, HB⟩ := hrel
    by_cases hlt : i < words.length
    · obtain ⟨x, hx⟩ : ∃ x, words[i]? = some x := ⟨_, List.getElem?_eq_getElem hlt⟩
      have hxs := HW.out x (List.mem_iff_getElem?.2 ⟨i, hx⟩)
      obtain ⟨b, off, rfl, hbl, hc⟩ := (Rd.below HR.out HB.out rfl).2.2.2.2 i hlt
      have cx : wr.cell? ⟨b, off + i, none⟩ = some (.string x) := by rw [hc, List.getElem?_map, hx]; rfl
      have HTK := Lib.hid (show allL (words.take (i + 1)) s k = (if 0 ≤ distT x s ∧ distT x s ≤ k then putL (allL (words.take i) s k) (distT x s, x) else allL (words.take i) s k) from by rw [List.take_add_one, hx]; exact allL_snoc _ _ _ _)
      have HXS := Lib.hid hxs
      have hd := HDL.out x hxs
      clear hx hc hxs
      go_wp2_with fail
      refine (HDI.out x wr HXS.out).mono ?_
      rintro e w1 ⟨rfl, hb⟩
      have HB1 := Lib.hid (HB.out.trans (hb.mono HB.out.size))
      have HO1 := Lib.hid (ownsRow_below HO.out hb)
      have cx1 := (hb.cell (p := ⟨b, off + i, none⟩) (cell?_lt cx)).trans cx
      clear hb HB HO cx
      obtain ⟨d, hdk⟩ : ∃ d, distT x s = d := ⟨_, rfl⟩
      rw [hdk] at HTK hd ⊢
      clear hdk
      by_cases k1 : 0 ≤ d
      · by_cases k2 : d ≤ k
        · have HTK2 := Lib.hid (show allL (words.take (i + 1)) s k = putL (allL (words.take i) s k) (d, x) from by rw [HTK.out, if_pos ⟨k1, k2⟩])
          have HRD := Lib.hid (ownsRow_rdE (enc := KeyL.cells) (fun _ => rfl) HLN.out HO1.out)
          have HSM := Lib.hid (show ∀ z ∈ allL (words.take i) s k, z.2.size ≤ 1000000 from fun z hz => by have := HW.out _ (List.mem_of_mem_take (nearI_mem2 hz)); omega)
          have hm : m ≤ 1000 := by omega
          have HX2 := Lib.hid (show x.size ≤ 1000000 from by have := HXS.out; omega)
          go_wp2_with fail
          refine (HPU.out w1 a1 m c1 _ (d, x) HRD.out hm HSM.out HX2.out).mono ?_
          rintro e w2 ⟨a2, c2, rfl, hown, hb⟩
          have e1 : (putL (allL (words.take i) s k) (d, x)).length = m + 1 := by rw [putL_len, HLN.out]
          rw [e1] at hown ⊢
          have HO2 := Lib.hid (show w2.ownsRow w.heap.size 39 2 (.slice a2 (m + 1) c2) (m + 1) ((allL (words.take (i + 1)) s k).flatMap KeyL.cells) from by rw [HTK2.out]; exact own0 hown HB1.out.size)
          have HL2 := Lib.hid (show (allL (words.take (i + 1)) s k).length = m + 1 from by rw [HTK2.out]; exact e1)
          have HB2 := Lib.hid (HB1.out.trans (hb.mono HB1.out.size))
          clear hown hb e1 cx1
          go_wp2_with fail
          go_roundw
          case rel => exact ⟨i + 1, m + 1, a2, c2, by omega, by omega, by go_num, rfl, HL2.out, HO2.out, HB2.out⟩
          case measure => simp [intOf]; omega
        · have HTK2 := Lib.hid (show allL (words.take (i + 1)) s k = allL (words.take i) s k from by rw [HTK.out, if_neg (fun h => k2 h.2)])
          go_wp2_with fail
          go_roundw
          case rel => exact ⟨i + 1, m, a1, c1, by omega, by omega, by go_num, rfl, by rw [HTK2.out]; exact HLN.out, by rw [HTK2.out]; exact HO1.out, HB1.out⟩
          case measure => simp [intOf]; omega
      · have HTK2 := Lib.hid (show allL (words.take (i + 1)) s k = allL (words.take i) s k from by rw [HTK.out, if_neg (fun h => k1 h.1)])
        go_wp2_with fail
        go_roundw
        case rel => exact ⟨i + 1, m, a1, c1, by omega, by omega, by go_num, rfl, by rw [HTK2.out]; exact HLN.out, by rw [HTK2.out]; exact HO1.out, HB1.out⟩
        case measure => simp [intOf]; omega
    · obtain rfl : i = words.length := by omega
      have hln := HLN.out
      have ho := HO.out
      rw [List.take_length] at hln ho
      subst hln
      have HE := Lib.hid (show OwnI w (allL words s k) (.returned (.slice a1 (allL words s k).length c1)) wr from ⟨a1, c1, rfl, ho, HB.out⟩)
      clear ho HO
      go_wp2_with fail
      go_ret
      exact HE.out
set_option maxRecDepth 100000 in
set_option maxHeartbeats 4000000 in
theorem rrtop_any (w : World) (ao : Option Addr) (n c : Nat) (words : List ByteArray) (q : ByteArray) (k m : Int) (h : RdT w ao n c words) (hn : words.length ≤ 1000) (hw : ∀ x ∈ words, x.size ≤ 1000) (hs : q.size ≤ 1000) :
    Calls Try.prog 22 #[.slice ao n c, .agg #[.string q, .int .i64 k, .int .i64 m]] w fun e w' => OwnI w (topL words q k m) e w' := by
  have HR := Lib.hid h
  have HW := Lib.hid hw
  have HMAY := Lib.hid (fun W => rrmay_any q k m W (by omega))
  have HALL := Lib.hid (fun W h => rrall_any W ao n c words q k h hn hw hs)
  have HAN := Lib.hid (Nat.le_trans (allL_len words q k) hn)
  have HB := Lib.hid ((Below.refl _ w).alloc (Nat.le_refl _) (.cells #[.string q, .int .i64 k, .int .i64 m] 24))
  have HK := Lib.hid (show Blk (w.alloc (.cells #[.string q, .int .i64 k, .int .i64 m] 24)) w.heap.size 24 [.string q, .int .i64 k, .int .i64 m] from heap_alloc_new w _)
  clear h hw
  go_enter Try.func22, Try.ntmps22
  go_wp2_with fail
  generalize w.alloc (.cells #[.string q, .int .i64 k, .int .i64 m] 24) = W at *
  refine (HMAY.out _).mono ?_
  rintro e w1 ⟨rfl, hb⟩
  have HB1 := Lib.hid (HB.out.trans (hb.mono HB.out.size))
  have HK1 := Lib.hid (HK.out.below hb (Blk.lt HK.out))
  have c0 : w1.cell? ⟨w.heap.size, 0, none⟩ = some (.string q) := HK1.out.cell 0
  have c1 : w1.cell? ⟨w.heap.size, 1, none⟩ = some (.int .i64 k) := HK1.out.cell 1
  clear hb HB HK
  cases hm : mayQ q k m
  · have HE := Lib.hid (show OwnI w (topL words q k m) (.returned (.slice none 0 0)) w1 from by
      unfold topL; rw [hm]; exact ⟨none, 0, rfl, World.ownsRow_nil _ _ _ _, HB1.out⟩)
    clear hm
    go_wp2_with fail
    go_ret
    exact HE.out
  · have hm4 : 1 ≤ m ∧ m ≤ 10 := by
      unfold mayQ at hm
      simp only [Bool.and_eq_true, decide_eq_true_eq] at hm
      exact ⟨hm.1.2, hm.2⟩
    obtain ⟨m1, m2⟩ := hm4
    have HTL := Lib.hid (show topL words q k m = (allL words q k).take m.toNat from by unfold topL; rw [if_pos hm])
    clear hm
    go_wp2_with fail
    refine (HALL.out w1 (Rd.below HR.out HB1.out rfl)).mono ?_
    rintro e w2 ⟨a2, c2, rfl, hown, hb⟩
    have HB2 := Lib.hid (HB1.out.trans (hb.mono HB1.out.size))
    have HK2 := Lib.hid (HK1.out.below hb (Blk.lt HK1.out))
    have HO := Lib.hid hown
    have d2 : w2.cell? ⟨w.heap.size, 2, none⟩ = some (.int .i64 m) := HK2.out.cell 2
    clear hown hb HK1 c0 c1
    obtain ⟨l, hl⟩ : ∃ l, allL words q k = l := ⟨_, rfl⟩
    rw [hl] at HO HTL HAN
    rw [hl]
    clear hl
    obtain ⟨t, ht⟩ : ∃ t : Nat, (if m < (l.length : Int) then m else (l.length : Int)) = (t : Int) := ⟨(if m < (l.length : Int) then m else (l.length : Int)).toNat, by split <;> omega⟩
    have t1 : t ≤ l.length := by split at ht <;> omega
    have HT2 := Lib.hid (show l.take m.toNat = l.take t from by
      split at ht
      · rw [show m.toNat = t by omega]
      · rw [show t = l.length by omega, List.take_length, List.take_of_length_le (by omega)])
    have t2 : (0 : Int) ≤ (t : Int) := by omega
    have hrd := ownsRow_rdE (enc := KeyL.cells) (fun _ => rfl) rfl HO.out
    have t3 := hrd.2.1
    have t4 := hrd.2.2.1
    unfold maxLen at t4
    have t5 : (t : Int) ≤ (c2 : Int) := by omega
    have HOT := Lib.hid (own0 (own_take HO.out t1) HB1.out.size)
    have ha := HAN.out
    have HN0 := Lib.hid hrd.nil0
    clear hrd
    cases a2 with
    | none =>
      obtain ⟨e1, e2⟩ := HN0.out rfl
      obtain rfl : c2 = 0 := e2
      obtain rfl : t = 0 := by omega
      go_wp2_with fail
      go_ret
      rw [HTL.out, HT2.out]
      exact ⟨none, 0, rfl, World.ownsRow_nil _ _ _ _, HB2.out⟩
    | some ad =>
      have HE := Lib.hid (show OwnI w (topL words q k m) (.returned (.slice (some ad) t c2)) w2 from by
        have e1 : (l.take t).length = t := by rw [List.length_take]; omega
        rw [HTL.out, HT2.out]
        exact ⟨_, c2, by rw [e1], by rw [e1]; exact HOT.out, HB2.out⟩)
      go_wp2_with fail
      go_ret
      exact HE.out
end Go.Proofs.Ytiohngcmojkheaa
