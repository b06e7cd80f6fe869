/- The walks of the closures, IndexFunc, ContainsFunc, Done, Told, Seq. -/
import Derived.Test.YtjacebnjmhbcbaaMg1
namespace Go.Proofs.Ytjacebnjmhbcbaa
open Go.RowKit
set_option linter.unusedVariables false

theorem done1_any (m : MS) (w : World) : Calls Try.prog 51 #[(.agg #[.int .i64 m.least, .int .i64 m.seq, .bool m.ended, .bool m.heard, .int .i64 m.last.1, .string m.last.2, .slice m.wa m.wn m.wc])] w fun e w' => e = .returned (.bool m.open_) ∧ Below w.heap.size w w' := by
  unfold MS.open_
  cases he : m.ended with
  | false =>
    go_enter Try.func51, Try.ntmps51
    go_wp2_with fail
    go_ret
    exact ⟨rfl, (Below.refl _ _).alloc (Nat.le_refl _) _⟩
  | true =>
    by_cases h0 : 0 < m.wn
    · rw [decide_eq_true h0]
      have d1 : (0 : Int) < (m.wn : Int) := by omega
      go_enter Try.func51, Try.ntmps51
      go_wp2_with fail
      go_ret
      exact ⟨rfl, (Below.refl _ _).alloc (Nat.le_refl _) _⟩
    · have h1 : m.wn = 0 := by omega
      rw [h1, decide_eq_false (by omega)]
      clear h0 h1
      go_enter Try.func51, Try.ntmps51
      go_wp2_with fail
      go_ret
      exact ⟨rfl, (Below.refl _ _).alloc (Nat.le_refl _) _⟩
/-- what Tell's closure reads: its variable b holds a pointer to shard at (g, o), whose first item is x -/
def TlAt (w : World) (b g o : Nat) (x : KeyL) : Prop := ∃ (wb wo k c : Nat), w.cell? ⟨b, 0, none⟩ = some (.pointer (some ⟨g, o, none⟩)) ∧ w.cell? ⟨g, o + 6, none⟩ = some (.slice (some ⟨wb, wo, none⟩) (k + 1 : Nat) c) ∧ w.cell? ⟨wb, wo, none⟩ = some (.int .i64 x.1) ∧ w.cell? ⟨wb, wo + 1, none⟩ = some (.string x.2)
theorem TlAt.below {w w' : World} {b g o : Nat} {x : KeyL} (h : TlAt w b g o x) (hb : Below w.heap.size w w') : TlAt w' b g o x := by
  obtain ⟨wb, wo, k, c, h1, h2, h3, h4⟩ := h
  exact ⟨wb, wo, k, c, (hb.cell (p := ⟨b, 0, none⟩) (cell?_lt h1)).trans h1, (hb.cell (p := ⟨g, o + 6, none⟩) (cell?_lt h2)).trans h2, (hb.cell (p := ⟨wb, wo, none⟩) (cell?_lt h3)).trans h3, (hb.cell (p := ⟨wb, wo + 1, none⟩) (cell?_lt h4)).trans h4⟩
set_option maxRecDepth 100000 in
set_option maxHeartbeats 1000000 in
theorem tell1_any (m : MS) (b g o : Nat) (x : KeyL) (w : World) (h : TlAt w b g o x) : Calls Try.prog 46 #[(.agg #[.int .i64 m.least, .int .i64 m.seq, .bool m.ended, .bool m.heard, .int .i64 m.last.1, .string m.last.2, .slice m.wa m.wn m.wc]), .pointer (some ⟨b, 0, none⟩)] w fun e w' => e = .returned (.bool (m.might x)) ∧ Below w.heap.size w w' := by
  have hb0 : Below w.heap.size w (w.alloc (.cells m.cells.toArray 74)) := (Below.refl _ _).alloc (Nat.le_refl _) _
  obtain ⟨wb, wo, k, c, h1, h2, h3, h4⟩ := h.below hb0
  have hx : Blk (w.alloc (.cells m.cells.toArray 74)) w.heap.size 74 m.cells := heap_alloc_new w _
  have HA := Lib.hid (show ShAt (w.alloc (.cells m.cells.toArray 74)) w.heap.size 0 m from fun j v hv => by rw [Nat.zero_add, hx.cell]; exact hv)
  have hl : w.heap.size < (w.alloc (.cells m.cells.toArray 74)).heap.size := by simp
  have HB0 := Lib.hid hb0
  clear h hx hb0
  unfold MS.cells at *
  go_enter Try.func46, Try.ntmps46
  go_wp2_with fail
  refine (might_any w.heap.size 0 m x _ HA.out hl).mono ?_
  rintro e w1 ⟨rfl, hb⟩
  have HB1 := Lib.hid (HB0.out.trans (hb.mono HB0.out.size))
  clear hb
  go_wp2_with fail
  go_ret
  exact ⟨rfl, HB1.out⟩

def opnR (M : List MS) (P : MS → Bool) (w : World) (v : Value) (wr : World) : Prop := ∃ k : Nat, k ≤ M.length ∧ v = .int .i64 k ∧ RowKit.Hid (∀ j m, j < k → M[j]? = some m → P m = false) ∧ RowKit.Hid (Below w.heap.size w wr)
set_option maxRecDepth 100000 in
set_option maxHeartbeats 2000000 in
theorem opn_ix (gs c : Nat) (M : List MS) (w : World) (hM : ∀ (i : Nat) (m : MS), M[i]? = some m → ShAt w gs (i * 7) m) (hg : gs < w.heap.size) (hl : M.length ≤ 6) :
    Calls Try.prog 60 #[.slice (some ⟨gs, 0, none⟩) M.length c, (.func (Fn.func 51) #[] #[])] w fun e w' => ∃ r : Int, e = .returned (.int .i64 r) ∧ (decide (0 ≤ r) = M.any (fun m => m.open_)) ∧ Below w.heap.size w w' := by
  have HM := Lib.hid hM
  clear hM
  obtain ⟨n, hn⟩ : ∃ n, M.length = n := ⟨_, rfl⟩
  rw [hn] at hl ⊢
  have HN := Lib.hid hn
  clear hn
  go_enter Try.func60, Try.ntmps60
  go_wp2_with fail
  go_loopw [8] (fun v wr => opnR M (fun m => m.open_) w v wr) (fun v _ => n - (intOf v).toNat)
  case atStart => exact ⟨0, Nat.zero_le _, rfl, (fun j m hj => by omega), Below.refl _ _⟩
  case round =>
    obtain ⟨k, hk, rfl, HJ, HB⟩ := hrel
    rw [HN.out] at hk
    by_cases hlt : k < n
    · have hx : M[k]? = some (M[k]'(by rw [HN.out]; exact hlt)) := List.getElem?_eq_getElem _
      obtain ⟨m, hm⟩ : ∃ m, M[k]'(by rw [HN.out]; exact hlt) = m := ⟨_, rfl⟩
      rw [hm] at hx
      obtain ⟨s0, s1, s2, s3, s4, s5, s6⟩ := ((HM.out k m hx).below HB.out hg).c2
      have HX := Lib.hid hx
      clear hx hm
      have k1 : (0 : Int) ≤ (k : Int) := by omega
      have k2 : (k : Int) < (n : Int) := by omega
      go_wp2_with fail
      refine (done1_any m _).mono ?_
      rintro e w2 ⟨rfl, hb2⟩
      have HB2 := Lib.hid (HB.out.trans (hb2.mono HB.out.size))
      clear hb2 s0 s1 s2 s3 s4 s5 s6
      cases hp : m.open_ with
      | true =>
        have HA : RowKit.Hid (M.any (fun m => m.open_) = true) := List.any_eq_true.2 ⟨m, List.mem_of_getElem? HX.out, hp⟩
        clear hp HJ
        go_wp2_with fail
        go_ret
        exact ⟨_, rfl, by rw [HA.out]; simp, HB2.out⟩
      | false =>
        have HJ2 : RowKit.Hid (∀ j m, j < k + 1 → M[j]? = some m → m.open_ = false) := by
          intro j m' hj hm'
          rcases (by omega : j < k ∨ j = k) with h | h
          · exact HJ.out j m' h hm'
          · subst h; rw [HX.out] at hm'; cases hm'; exact hp
        clear hp HJ
        go_wp2_with fail
        go_roundw
        case rel => exact ⟨k + 1, by rw [HN.out]; omega, by go_num, HJ2.out, HB2.out⟩
        case measure => simp [intOf]; omega
    · have hkn : k = n := by omega
      have HA : RowKit.Hid (M.any (fun m => m.open_) = false) := by
        unfold RowKit.Hid
        rw [List.any_eq_false]
        intro m hm
        obtain ⟨j, hj, e⟩ := List.mem_iff_getElem.1 hm
        have := HJ.out j m (by rw [hkn, ← HN.out]; exact hj) (by rw [← e]; exact List.getElem?_eq_getElem hj)
        simp [this]
      subst hkn
      clear HJ hlt
      go_wp2_with fail
      go_ret
      exact ⟨-1, rfl, by rw [HA.out]; simp, HB.out⟩
set_option maxRecDepth 100000 in
theorem opn_any (gs c : Nat) (M : List MS) (w : World) (hM : ∀ (i : Nat) (m : MS), M[i]? = some m → ShAt w gs (i * 7) m) (hg : gs < w.heap.size) (hl : M.length ≤ 6) :
    Calls Try.prog 45 #[.slice (some ⟨gs, 0, none⟩) M.length c, (.func (Fn.func 51) #[] #[])] w fun e w' => e = .returned (.bool (M.any (fun m => m.open_))) ∧ Below w.heap.size w w' := by
  have HC := Lib.hid (opn_ix gs c M  w hM hg hl )
  clear hM
  obtain ⟨R, hR⟩ : ∃ R, M.any (fun m => m.open_) = R := ⟨_, rfl⟩
  rw [hR] at HC ⊢
  clear hR
  go_enter Try.func45, Try.ntmps45
  go_wp2_with fail
  refine HC.out.mono ?_
  rintro e w' ⟨r, rfl, hr, hb⟩
  have HB := Lib.hid hb
  clear hb
  cases R with
  | true =>
    have h0 : 0 ≤ r := by simpa using hr
    clear hr HC
    go_wp2_with fail
    go_ret
    exact ⟨rfl, HB.out⟩
  | false =>
    have h0 : r < 0 := by simpa using hr
    have d0 : decide (0 ≤ r) = false := hr
    clear hr HC
    go_wp2_with fail
    go_ret
    exact ⟨rfl, HB.out⟩

def migR (M : List MS) (P : MS → Bool) (w : World) (v : Value) (wr : World) : Prop := ∃ k : Nat, k ≤ M.length ∧ v = .int .i64 k ∧ RowKit.Hid (∀ j m, j < k → M[j]? = some m → P m = false) ∧ RowKit.Hid (Below w.heap.size w wr)
set_option maxRecDepth 100000 in
set_option maxHeartbeats 2000000 in
theorem mig_ix (gs c : Nat) (M : List MS) (b g o : Nat) (x : KeyL) (w : World) (hM : ∀ (i : Nat) (m : MS), M[i]? = some m → ShAt w gs (i * 7) m) (hg : gs < w.heap.size) (hl : M.length ≤ 6) (hT : TlAt w b g o x) :
    Calls Try.prog 60 #[.slice (some ⟨gs, 0, none⟩) M.length c, (.func (Fn.func 46) #[] #[.pointer (some ⟨b, 0, none⟩)])] w fun e w' => ∃ r : Int, e = .returned (.int .i64 r) ∧ (decide (0 ≤ r) = M.any (fun m => m.might x)) ∧ Below w.heap.size w w' := by
  have HM := Lib.hid hM
  clear hM
  obtain ⟨n, hn⟩ : ∃ n, M.length = n := ⟨_, rfl⟩
  rw [hn] at hl ⊢
  have HN := Lib.hid hn
  clear hn
  have HT := Lib.hid hT
  clear hT
  go_enter Try.func60, Try.ntmps60
  go_wp2_with fail
  go_loopw [8] (fun v wr => migR M (fun m => m.might x) w v wr) (fun v _ => n - (intOf v).toNat)
  case atStart => exact ⟨0, Nat.zero_le _, rfl, (fun j m hj => by omega), Below.refl _ _⟩
  case round =>
    obtain ⟨k, hk, rfl, HJ, HB⟩ := hrel
    rw [HN.out] at hk
    by_cases hlt : k < n
    · have hx : M[k]? = some (M[k]'(by rw [HN.out]; exact hlt)) := List.getElem?_eq_getElem _
      obtain ⟨m, hm⟩ : ∃ m, M[k]'(by rw [HN.out]; exact hlt) = m := ⟨_, rfl⟩
      rw [hm] at hx
      obtain ⟨s0, s1, s2, s3, s4, s5, s6⟩ := ((HM.out k m hx).below HB.out hg).c2
      have HX := Lib.hid hx
      clear hx hm
      have k1 : (0 : Int) ≤ (k : Int) := by omega
      have k2 : (k : Int) < (n : Int) := by omega
      have HTT := Lib.hid (HT.out.below HB.out)
      go_wp2_with fail
      refine (tell1_any m b g o x _ HTT.out).mono ?_
      rintro e w2 ⟨rfl, hb2⟩
      have HB2 := Lib.hid (HB.out.trans (hb2.mono HB.out.size))
      clear hb2 s0 s1 s2 s3 s4 s5 s6
      cases hp : m.might x with
      | true =>
        have HA : RowKit.Hid (M.any (fun m => m.might x) = true) := List.any_eq_true.2 ⟨m, List.mem_of_getElem? HX.out, hp⟩
        clear hp HJ
        go_wp2_with fail
        go_ret
        exact ⟨_, rfl, by rw [HA.out]; simp, HB2.out⟩
      | false =>
        have HJ2 : RowKit.Hid (∀ j m, j < k + 1 → M[j]? = some m → m.might x = false) := by
          intro j m' hj hm'
          rcases (by omega : j < k ∨ j = k) with h | h
          · exact HJ.out j m' h hm'
          · subst h; rw [HX.out] at hm'; cases hm'; exact hp
        clear hp HJ
        go_wp2_with fail
        go_roundw
        case rel => exact ⟨k + 1, by rw [HN.out]; omega, by go_num, HJ2.out, HB2.out⟩
        case measure => simp [intOf]; omega
    · have hkn : k = n := by omega
      have HA : RowKit.Hid (M.any (fun m => m.might x) = false) := by
        unfold RowKit.Hid
        rw [List.any_eq_false]
        intro m hm
        obtain ⟨j, hj, e⟩ := List.mem_iff_getElem.1 hm
        have := HJ.out j m (by rw [hkn, ← HN.out]; exact hj) (by rw [← e]; exact List.getElem?_eq_getElem hj)
        simp [this]
      subst hkn
      clear HJ hlt
      go_wp2_with fail
      go_ret
      exact ⟨-1, rfl, by rw [HA.out]; simp, HB.out⟩
set_option maxRecDepth 100000 in
theorem mig_any (gs c : Nat) (M : List MS) (b g o : Nat) (x : KeyL) (w : World) (hM : ∀ (i : Nat) (m : MS), M[i]? = some m → ShAt w gs (i * 7) m) (hg : gs < w.heap.size) (hl : M.length ≤ 6) (hT : TlAt w b g o x) :
    Calls Try.prog 45 #[.slice (some ⟨gs, 0, none⟩) M.length c, (.func (Fn.func 46) #[] #[.pointer (some ⟨b, 0, none⟩)])] w fun e w' => e = .returned (.bool (M.any (fun m => m.might x))) ∧ Below w.heap.size w w' := by
  have HC := Lib.hid (mig_ix gs c M b g o x w hM hg hl hT)
  clear hM hT
  obtain ⟨R, hR⟩ : ∃ R, M.any (fun m => m.might x) = R := ⟨_, rfl⟩
  rw [hR] at HC ⊢
  clear hR
  go_enter Try.func45, Try.ntmps45
  go_wp2_with fail
  refine HC.out.mono ?_
  rintro e w' ⟨r, rfl, hr, hb⟩
  have HB := Lib.hid hb
  clear hb
  cases R with
  | true =>
    have h0 : 0 ≤ r := by simpa using hr
    clear hr HC
    go_wp2_with fail
    go_ret
    exact ⟨rfl, HB.out⟩
  | false =>
    have h0 : r < 0 := by simpa using hr
    have d0 : decide (0 ≤ r) = false := hr
    clear hr HC
    go_wp2_with fail
    go_ret
    exact ⟨rfl, HB.out⟩
end Go.Proofs.Ytjacebnjmhbcbaa
