/- msg.reader's message at any kind; what Decode tells (plain) and msg.Decode. -/
import Derived.Test.YtjhkdbcfkaaffaaMm11
namespace Go.Proofs.Ytjhkdbcfkaaffaa
open Go.RowKit
set_option linter.unusedVariables false

def msgS (l : List Nat) (kind : Int) (st : Nat × Bool) : MV × (Nat × Bool) :=
  if kind = 1 then helloS l st else if kind = 2 then grantS l st else if kind = 3 then askS l st else if kind = 4 then replyS l st else if kind = 5 then stopS l st else (.nil, (st.1, true))
set_option maxRecDepth 100000 in
set_option maxHeartbeats 4000000 in
theorem rmsg_no (g : Nat) (a : Option Addr) (c : Nat) (l : List Nat) (kind : Int) (st : Nat × Bool) (w : World) (h : RAt w g a c l st) (h1 : kind ≠ 1) (h2 : kind ≠ 2) (h3 : kind ≠ 3) (h4 : kind ≠ 4) (h5 : kind ≠ 5) :
    Calls Try.prog 55 #[.pointer (some ⟨g, 0, none⟩), .int .i64 kind] w (MR g a c l (.nil, (st.1, true)) w) := by
  have HW := Lib.hid h
  have t2 : w.cell? ⟨g, 2, none⟩ = some (.bool st.2) := h.2.2.1.cell 2
  have fz : w.frozen? ⟨g, 2, none⟩ = false := fz_of h.2.2.1
  have b1 : (kind == 1) = false := by simpa using h1
  have b2 : (kind == 2) = false := by simpa using h2
  have b3 : (kind == 3) = false := by simpa using h3
  have b4 : (kind == 4) = false := by simpa using h4
  have b5 : (kind == 5) = false := by simpa using h5
  clear h h1 h2 h3 h4 h5
  go_enter Try.func55, Try.ntmps55
  go_wp2_with fail
  go_ret
  have hf : Frm (fun i => i = g) w (w.setCell ⟨g, 2, none⟩ (.bool true)) := (Frm.refl _ w).setCell _ _ (.inl rfl)
  exact ⟨_, rfl, rfl, HW.out.next hf (HW.out.2.2.1.set 2 _) HW.out.2.2.2.1, hf⟩
set_option maxRecDepth 100000 in
theorem rmessage_any (g : Nat) (a : Option Addr) (c : Nat) (l : List Nat) (kind : Int) (st : Nat × Bool) (w : World) (h : RAt w g a c l st) :
    Calls Try.prog 55 #[.pointer (some ⟨g, 0, none⟩), .int .i64 kind] w (MR g a c l (msgS l kind st) w) := by
  by_cases h1 : kind = 1
  · subst h1; exact rmsg_hello g a c l st w h
  by_cases h2 : kind = 2
  · subst h2; exact rmsg_grant g a c l st w h
  by_cases h3 : kind = 3
  · subst h3; exact rmsg_ask g a c l st w h
  by_cases h4 : kind = 4
  · subst h4; exact rmsg_reply g a c l st w h
  by_cases h5 : kind = 5
  · subst h5; exact rmsg_stop g a c l st w h
  have e : msgS l kind st = (.nil, (st.1, true)) := by unfold msgS; rw [if_neg h1, if_neg h2, if_neg h3, if_neg h4, if_neg h5]
  rw [e]
  exact rmsg_no g a c l kind st w h h1 h2 h3 h4 h5
set_option maxRecDepth 100000 in
/-- no text is longer than what is read -/
theorem textS_size (l : List Nat) (st : Nat × Bool) : (textS l st).1.size ≤ l.length := by
  unfold textS; split
  · rw [strN_size]; unfold textAt; simp; omega
  · exact Nat.zero_le _
set_option maxRecDepth 100000 in
theorem itemsS_size (l : List Nat) : ∀ k st, ∀ x ∈ (itemsS l k st).1, x.2.size ≤ l.length := by
  intro k
  induction k with
  | zero => intro st x hx; simp [itemsS] at hx
  | succ k ih =>
    intro st x hx
    cases hb : st.2
    · rw [itemsS_next l k st hb] at hx
      rcases List.mem_cons.1 hx with rfl | hx
      · exact textS_size l _
      · exact ih _ x hx
    · rw [itemsS_bad l _ st hb] at hx; simp at hx
set_option maxRecDepth 100000 in
theorem msgS_short (l : List Nat) (kind : Int) (st : Nat × Bool) (hl : l.length ≤ 2000) : (msgS l kind st).1.short := by
  unfold msgS
  split; · trivial
  split; · trivial
  split; · exact ⟨Nat.le_trans (textS_size l _) hl, Nat.le_trans (textS_size l _) hl⟩
  split; · exact fun x hx => Nat.le_trans (itemsS_size l _ _ x hx) hl
  split; · trivial
  trivial
/-- what Decode tells of a frame: the message and the number of the error -/
def decOk (l : List Nat) : Bool := decide ((msgS (l.take (l.length - 4)) (l.getD 2 0 : Nat) (3, false)).2.2 = false) && decide ((msgS (l.take (l.length - 4)) (l.getD 2 0 : Nat) (3, false)).2.1 = l.length - 4) && (msgS (l.take (l.length - 4)) (l.getD 2 0 : Nat) (3, false)).1.may
def decL (l : List Nat) : MV × Int :=
  if l.length < 7 ∨ 1024 < l.length then (.nil, 8) else if numAt l 0 2 ≠ l.length then (.nil, 8) else if numAt l (l.length - 4) 4 ≠ addN 0 (l.take (l.length - 4)) then (.nil, 9)
  else if decOk l = true then ((msgS (l.take (l.length - 4)) (l.getD 2 0 : Nat) (3, false)).1, 0) else (.nil, 8)
def DecE (l : List Nat) (w : World) (e : Ending) (w' : World) : Prop := ∃ u, e = .returned (.tuple #[u, .int .i64 (decL l).2]) ∧ (decL l).1.At w' u ∧ Below w.heap.size w w'
set_option maxRecDepth 100000 in
set_option maxHeartbeats 8000000 in
theorem mdec_size (a : Option Addr) (c : Nat) (l : List Nat) (w : World) (hr : Rd w a l.length c (u8s l)) (hb : ∀ x ∈ l, x < 256) (hn9 : l.length ≤ 1000000000) (hs : l.length < 7 ∨ 1024 < l.length) :
    Calls Try.prog 25 #[.slice a l.length c] w fun e w' => DecE l w e w' := by
  have kw : IntKind.i64.wrap ((l.length : Int) - 4) = (l.length : Int) - 4 := IntWalk.i64_in _ (by omega)
  have hd : decL l = (.nil, 8) := by unfold decL; rw [if_pos hs]
  unfold DecE
  rw [hd]
  clear hr hb hd
  rcases hs with hs | hs
  · have k1 : (l.length : Int) - 4 < 3 := by omega
    go_enter Try.func25, Try.ntmps25
    go_wp2_with fail
    go_ret2
    exact ⟨_, rfl, rfl, Below.refl _ _⟩
  · have k1 : ¬ (l.length : Int) - 4 < 3 := by omega
    have k2 : (1024 : Int) < (l.length : Int) := by omega
    go_enter Try.func25, Try.ntmps25
    go_wp2_with fail
    go_ret2
    exact ⟨_, rfl, rfl, Below.refl _ _⟩
set_option maxRecDepth 100000 in
set_option maxHeartbeats 8000000 in
theorem mdec_told (a : Option Addr) (c : Nat) (l : List Nat) (w : World) (hr : Rd w a l.length c (u8s l)) (hb : ∀ x ∈ l, x < 256) (hn9 : l.length ≤ 1000000000) (hs : ¬ (l.length < 7 ∨ 1024 < l.length)) (ht : numAt l 0 2 ≠ l.length) :
    Calls Try.prog 25 #[.slice a l.length c] w fun e w' => DecE l w e w' := by
  have kw : IntKind.i64.wrap ((l.length : Int) - 4) = (l.length : Int) - 4 := IntWalk.i64_in _ (by omega)
  have k1 : ¬ (l.length : Int) - 4 < 3 := by omega
  have k2 : ¬ (1024 : Int) < (l.length : Int) := by omega
  have hw2 : wrap64 (numAt l 0 2 : Nat) = (numAt l 0 2 : Nat) := by have := (show numAt l 0 2 < 4294967296 from numAt_lt hb 0 2 (by decide)); unfold wrap64; omega
  have HN2 := Lib.hid (fun W (h : Rd W a l.length c (u8s l)) => num_yes a l.length c l 0 2 W h hb (by omega) (by unfold numOk; simp; omega))
  rw [hw2] at HN2
  have hd : decL l = (.nil, 8) := by unfold decL; rw [if_neg hs, if_pos ht]
  unfold DecE
  rw [hd]
  have k3 : ¬ ((numAt l 0 2 : Nat) : Int) = (l.length : Int) := by omega
  have HR := Lib.hid hr
  generalize numAt l 0 2 = told at *
  clear hr hb hd ht hs hw2
  go_enter Try.func25, Try.ntmps25
  go_wp2_with fail
  refine (HN2.out _ HR.out).mono ?_
  rintro e w1 ⟨rfl, rfl⟩
  go_wp2_with fail
  go_ret2
  exact ⟨_, rfl, rfl, Below.refl _ w⟩
set_option maxRecDepth 100000 in
set_option maxHeartbeats 8000000 in
theorem mdec_sum (a : Option Addr) (c : Nat) (l : List Nat) (w : World) (hr : Rd w a l.length c (u8s l)) (hb : ∀ x ∈ l, x < 256) (hn9 : l.length ≤ 1000000000) (hs : ¬ (l.length < 7 ∨ 1024 < l.length)) (ht : numAt l 0 2 = l.length) (hsum : numAt l ((l.length : Int) - 4) 4 ≠ addN 0 (l.take (l.length - 4))) :
    Calls Try.prog 25 #[.slice a l.length c] w fun e w' => DecE l w e w' := by
  have HDL := Lib.hid (show decL l = (.nil, 9) from by unfold decL; rw [if_neg hs, if_neg (by omega), if_pos hsum])
  obtain ⟨n, hn⟩ : ∃ n, l.length = n + 4 := ⟨l.length - 4, by omega⟩
  have hn4 : ((l.length : Int) - 4) = (n : Int) := by omega
  have hn5 : l.length - 4 = n := by omega
  have kw : IntKind.i64.wrap ((l.length : Int) - 4) = (n : Int) := by rw [IntWalk.i64_in _ (by omega)]; omega
  have k1 : ¬ (n : Int) < 3 := by omega
  have k2 : ¬ (1024 : Int) < (l.length : Int) := by omega
  have hw2 : wrap64 (numAt l 0 2 : Nat) = (numAt l 0 2 : Nat) := by have := (show numAt l 0 2 < 4294967296 from numAt_lt hb 0 2 (by decide)); unfold wrap64; omega
  have HN2 := Lib.hid (fun W (h : Rd W a l.length c (u8s l)) => num_yes a l.length c l 0 2 W h hb (by omega) (by unfold numOk; simp; omega))
  rw [hw2] at HN2
  have k3 : ((numAt l 0 2 : Nat) : Int) = (l.length : Int) := by omega
  have hcl : numAt l n 4 < 4294967296 := numAt_lt hb n 4 (by decide)
  have hw4 : wrap64 (numAt l n 4 : Nat) = (numAt l n 4 : Nat) := by unfold wrap64; omega
  have HN4 := Lib.hid (fun W (h : Rd W a l.length c (u8s l)) => num_yes a l.length c l n 4 W h hb (by omega) (by unfold numOk; simp; omega))
  rw [hw4] at HN4
  have ku : IntKind.u32.wrap (numAt l n 4 : Nat) = (numAt l n 4 : Nat) := by rw [wrap_u32]; omega
  obtain ⟨b0, o0, rfl, hb0, hc0⟩ := hr.2.2.2.2 0 (by omega)
  have HP := Lib.hid (hr.cut' 0 n (by omega) (some ⟨b0, o0, none⟩) (fun _ => rfl) (by simp) c (by omega))
  rw [List.drop_zero] at HP
  have HOF := Lib.hid (fun W (h : Rd W (some ⟨b0, o0, none⟩) n c (u8s (l.take n))) => of_any (some ⟨b0, o0, none⟩) n c (l.take n) W (fun x hx => hb x (List.mem_of_mem_take hx)) h)
  have hcc : l.length ≤ c := hr.2.1
  have hcm : c ≤ maxLen := hr.2.2.1
  unfold maxLen at hcm
  have k6 : n ≤ c := by omega
  have HR := Lib.hid hr
  rw [hn4, hn5] at hsum
  unfold DecE
  rw [HDL.out]
  have k5 : ¬ ((numAt l n 4 : Nat) : Int) = ((addN 0 (l.take n) : Nat) : Int) := by omega
  generalize addN 0 (l.take n) = sm at *
  generalize numAt l n 4 = cv at *
  generalize numAt l 0 2 = told at *
  generalize hP : l.take n = pl at *
  generalize hL : l.length = len at *
  have HPL := Lib.hid hP
  have HLL := Lib.hid hL
  clear HDL hr hb ht hs hw2 hw4 hsum hc0 hn4 hn5 hn hcl hP hL hn9
  go_enter Try.func25, Try.ntmps25
  go_wp2_with fail
  refine (HN2.out _ HR.out).mono ?_
  rintro e w1 ⟨rfl, rfl⟩
  go_wp2_with fail
  refine (HN4.out _ HR.out).mono ?_
  rintro e w1 ⟨rfl, rfl⟩
  go_wp2_with fail
  refine (HOF.out _ HP.out).mono ?_
  rintro e w1 ⟨rfl, rfl⟩
  go_wp2_with fail
  go_ret2
  exact ⟨_, rfl, rfl, Below.refl _ w⟩
set_option maxRecDepth 100000 in
set_option maxHeartbeats 8000000 in
theorem mdec_rest (a : Option Addr) (c : Nat) (l : List Nat) (w : World) (hr : Rd w a l.length c (u8s l)) (hb : ∀ x ∈ l, x < 256) (hn9 : l.length ≤ 1000000000) (hs : ¬ (l.length < 7 ∨ 1024 < l.length)) (ht : numAt l 0 2 = l.length) (hsum : numAt l ((l.length : Int) - 4) 4 = addN 0 (l.take (l.length - 4))) :
    Calls Try.prog 25 #[.slice a l.length c] w fun e w' => DecE l w e w' := by
  obtain ⟨n, hn⟩ : ∃ n, l.length = n + 4 := ⟨l.length - 4, by omega⟩
  have hn4 : ((l.length : Int) - 4) = (n : Int) := by omega
  have hn5 : l.length - 4 = n := by omega
  have kw : IntKind.i64.wrap ((l.length : Int) - 4) = (n : Int) := by rw [IntWalk.i64_in _ (by omega)]; omega
  have k1 : ¬ (n : Int) < 3 := by omega
  have k2 : ¬ (1024 : Int) < (l.length : Int) := by omega
  have hw2 : wrap64 (numAt l 0 2 : Nat) = (numAt l 0 2 : Nat) := by have := (show numAt l 0 2 < 4294967296 from numAt_lt hb 0 2 (by decide)); unfold wrap64; omega
  have HN2 := Lib.hid (fun W (h : Rd W a l.length c (u8s l)) => num_yes a l.length c l 0 2 W h hb (by omega) (by unfold numOk; simp; omega))
  rw [hw2] at HN2
  have k3 : ((numAt l 0 2 : Nat) : Int) = (l.length : Int) := by omega
  have hcl : numAt l n 4 < 4294967296 := numAt_lt hb n 4 (by decide)
  have hw4 : wrap64 (numAt l n 4 : Nat) = (numAt l n 4 : Nat) := by unfold wrap64; omega
  have HN4 := Lib.hid (fun W (h : Rd W a l.length c (u8s l)) => num_yes a l.length c l n 4 W h hb (by omega) (by unfold numOk; simp; omega))
  rw [hw4] at HN4
  have ku : IntKind.u32.wrap (numAt l n 4 : Nat) = (numAt l n 4 : Nat) := by rw [wrap_u32]; omega
  obtain ⟨b0, o0, rfl, hb0, hc0⟩ := hr.2.2.2.2 0 (by omega)
  have HP := Lib.hid (hr.cut' 0 n (by omega) (some ⟨b0, o0, none⟩) (fun _ => rfl) (by simp) c (by omega))
  rw [List.drop_zero] at HP
  have HOF := Lib.hid (fun W (h : Rd W (some ⟨b0, o0, none⟩) n c (u8s (l.take n))) => of_any (some ⟨b0, o0, none⟩) n c (l.take n) W (fun x hx => hb x (List.mem_of_mem_take hx)) h)
  have hcc : l.length ≤ c := hr.2.1
  have hcm : c ≤ maxLen := hr.2.2.1
  unfold maxLen at hcm
  have k6 : n ≤ c := by omega
  have HR := Lib.hid hr
  rw [hn4, hn5] at hsum
  obtain ⟨⟨m, s2⟩, hm⟩ : ∃ q, msgS (l.take n) (l.getD 2 0 : Nat) (3, false) = q := ⟨_, rfl⟩
  have HDL := Lib.hid (show decL l = if s2.2 = false ∧ s2.1 = n ∧ m.may = true then (m, 0) else (.nil, 8) from by
    unfold decL decOk; rw [if_neg hs, if_neg (by omega), hn4, hn5, hsum, if_neg (by simp), hm]
    by_cases h1 : s2.2 = false <;> by_cases h2 : s2.1 = n <;> by_cases h3 : m.may = true <;> simp [h1, h2, h3])
  have hms : m.short := by have q := msgS_short (l.take n) (l.getD 2 0 : Nat) (3, false) (by rw [List.length_take]; omega); rw [hm] at q; exact q
  rw [hsum] at HN4 ku hcl
  have hpl : (l.take n).length = n := by rw [List.length_take]; omega
  have hk3 := heap_alloc_new w (.cells #[.slice (some ⟨b0, o0, none⟩) n c, .int .i64 3, .bool false] 99)
  have HA := Lib.hid (show RAt (w.alloc (.cells #[.slice (some ⟨b0, o0, none⟩) n c, .int .i64 3, .bool false] 99)) w.heap.size (some ⟨b0, o0, none⟩) c (l.take n) (3, false) from
    ⟨by rw [hpl]; exact HP.out.below ((Below.refl _ w).alloc (Nat.le_refl _) _) rfl, (by intro b o e; cases e; exact Nat.ne_of_lt hb0), by rw [hpl]; exact hk3, by rw [hpl]; show 3 ≤ n; omega, by rw [hpl]; omega, fun x hx => hb x (List.mem_of_mem_take hx)⟩)
  obtain ⟨b0', o0', e0, hb0', hc2⟩ := hr.2.2.2.2 2 (by omega)
  cases e0
  obtain ⟨kd, hkd⟩ : ∃ x, l[2]? = some x := ⟨_, List.getElem?_eq_getElem (by omega)⟩
  have hgd : l.getD 2 0 = kd := by simp [List.getD, hkd]
  rw [hgd] at hm
  have hx2 : w.cell? ⟨b0, o0 + 2, none⟩ = some (.int .u8 (kd : Nat)) := by rw [hc2]; simp [u8s, hkd]
  have hx3 : (w.alloc (.cells #[.slice (some ⟨b0, o0, none⟩) n c, .int .i64 3, .bool false] 99)).cell? ⟨b0, o0 + 2, none⟩ = some (.int .u8 (kd : Nat)) := by rw [World.cell?_alloc_lt _ _ _ (by exact hb0)]; exact hx2
  have hkl : kd < 256 := hb _ (List.mem_of_getElem? hkd)
  have HBA := Lib.hid ((Below.refl w.heap.size w).alloc (Nat.le_refl _) (.cells #[.slice (some ⟨b0, o0, none⟩) n c, .int .i64 3, .bool false] 99))
  have HME := Lib.hid (fun kind => rmessage_any w.heap.size (some ⟨b0, o0, none⟩) c (l.take n) kind (3, false) _ HA.out)
  have HMM := Lib.hid (HME.out (kd : Nat))
  rw [hm] at HMM
  clear HME hk3
  have HMS := Lib.hid hms
  clear hw2 hw4 hsum hcl hs ht
  generalize addN 0 (l.take n) = sm at *
  generalize numAt l 0 2 = told at *
  have kk : IntKind.i64.wrap (kd : Int) = (kd : Int) := IntWalk.i64_in _ (by omega)
  have k2' : (2 : Int) < (l.length : Int) := by omega
  unfold DecE
  obtain ⟨⟨R1, R2⟩, hRR⟩ : ∃ q, decL l = q := ⟨_, rfl⟩
  rw [hRR] at HDL ⊢
  generalize hP : l.take n = pl at *
  generalize hL : l.length = len at *
  have HPL := Lib.hid hP
  have HLL := Lib.hid hL
  have HPN := Lib.hid hpl
  clear hr hb hc0 hn4 hn5 hn hP hL hn9 hm hpl hc2 hms hRR hkd hgd
  obtain ⟨W, hW⟩ : ∃ W, w.alloc (.cells #[.slice (some ⟨b0, o0, none⟩) n c, .int .i64 3, .bool false] 99) = W := ⟨_, rfl⟩
  rw [hW] at HA HBA HMM hx3
  have HQ := Lib.hid hW
  clear hW
  go_enter Try.func25, Try.ntmps25
  go_wp2_with fail
  refine (HN2.out _ HR.out).mono ?_
  rintro e w1 ⟨rfl, rfl⟩
  go_wp2_with fail
  refine (HN4.out _ HR.out).mono ?_
  rintro e w1 ⟨rfl, rfl⟩
  go_wp2_with fail
  refine (HOF.out _ HP.out).mono ?_
  rintro e w1 ⟨rfl, rfl⟩
  go_wp2_with fail
  rw [HQ.out]
  refine HMM.out.mono ?_
  clear HMM HQ
  rintro e V ⟨u, rfl, hu, hz, hf⟩
  have t1 : V.cell? ⟨w.heap.size, 1, none⟩ = some (.int .i64 s2.1) := hz.2.2.1.cell 1
  have t2 : V.cell? ⟨w.heap.size, 2, none⟩ = some (.bool s2.2) := hz.2.2.1.cell 2
  have HB := Lib.hid (HBA.out.trans (Frm.toBelow hf HBA.out.size (fun i hi hs => by have hs' : i = w.heap.size := hs; omega)))
  have HMY := Lib.hid (mmay_any m u V hu HMS.out.small)
  have HU := Lib.hid hu
  clear hu hz hf HBA HOF HN2 HN4 HP HR
  cases hbad : s2.2
  · rw [hbad] at t2
    by_cases hat : s2.1 = n
    · rw [hat] at t1
      cases hmy : m.may
      · rw [hmy] at HMY
        have HRR := Lib.hid (show R1 = .nil ∧ R2 = 8 from by have q := HDL.out; rw [if_neg (by rw [hmy]; simp)] at q; exact ⟨congrArg Prod.fst q, congrArg Prod.snd q⟩)
        go_wp2_with fail
        refine HMY.out.mono ?_
        rintro e V2 ⟨rfl, hb2⟩
        have HB2 := Lib.hid (HB.out.trans (hb2.mono HB.out.size))
        clear hb2
        go_wp2_with fail
        go_ret2
        obtain ⟨e1, e2⟩ := HRR.out
        rw [e1, e2]
        exact ⟨_, rfl, rfl, HB2.out⟩
      · rw [hmy] at HMY
        have HRR := Lib.hid (show R1 = m ∧ R2 = 0 from by have q := HDL.out; rw [if_pos ⟨hbad, hat, hmy⟩] at q; exact ⟨congrArg Prod.fst q, congrArg Prod.snd q⟩)
        go_wp2_with fail
        refine HMY.out.mono ?_
        rintro e V2 ⟨rfl, hb2⟩
        have HU2 := Lib.hid (HU.out.below hb2)
        have HB2 := Lib.hid (HB.out.trans (hb2.mono HB.out.size))
        clear hb2
        go_wp2_with fail
        go_ret2
        obtain ⟨e1, e2⟩ := HRR.out
        rw [e1, e2]
        exact ⟨_, rfl, HU2.out, HB2.out⟩
    · have k7 : ¬ (s2.1 : Int) = (n : Int) := by omega
      have HRR := Lib.hid (show R1 = .nil ∧ R2 = 8 from by have q := HDL.out; rw [if_neg (fun h => hat h.2.1)] at q; exact ⟨congrArg Prod.fst q, congrArg Prod.snd q⟩)
      go_wp2_with fail
      go_ret2
      obtain ⟨e1, e2⟩ := HRR.out
      rw [e1, e2]
      exact ⟨_, rfl, rfl, HB.out⟩
  · rw [hbad] at t2
    have HRR := Lib.hid (show R1 = .nil ∧ R2 = 8 from by have q := HDL.out; rw [if_neg (by rw [hbad]; simp)] at q; exact ⟨congrArg Prod.fst q, congrArg Prod.snd q⟩)
    go_wp2_with fail
    go_ret2
    obtain ⟨e1, e2⟩ := HRR.out
    rw [e1, e2]
    exact ⟨_, rfl, rfl, HB.out⟩
set_option maxRecDepth 100000 in
theorem mdecode_any (a : Option Addr) (c : Nat) (l : List Nat) (w : World) (hr : Rd w a l.length c (u8s l)) (hb : ∀ x ∈ l, x < 256) (hn9 : l.length ≤ 1000000000) :
    Calls Try.prog 25 #[.slice a l.length c] w fun e w' => DecE l w e w' := by
  by_cases hs : l.length < 7 ∨ 1024 < l.length
  · exact mdec_size a c l w hr hb hn9 hs
  by_cases ht : numAt l 0 2 = l.length
  · by_cases hsum : numAt l ((l.length : Int) - 4) 4 = addN 0 (l.take (l.length - 4))
    · exact mdec_rest a c l w hr hb hn9 hs ht hsum
    · exact mdec_sum a c l w hr hb hn9 hs ht hsum
  · exact mdec_told a c l w hr hb hn9 hs ht
end Go.Proofs.Ytjhkdbcfkaaffaa
