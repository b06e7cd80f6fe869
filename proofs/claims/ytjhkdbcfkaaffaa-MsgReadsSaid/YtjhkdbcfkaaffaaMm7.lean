/- msg.Encode at a Reply. -/
import Derived.Test.YtjhkdbcfkaaffaaMm6
namespace Go.Proofs.Ytjhkdbcfkaaffaa
open Go.RowKit
set_option linter.unusedVariables false

def itemsL (l : List Nat) (xs : List KeyL) : List Nat := xs.foldl (fun r x => itemL r x.1 x.2) l
set_option maxRecDepth 100000 in
theorem itemsL_next {l : List Nat} {xs : List KeyL} {i : Nat} {x : KeyL} (h : xs[i]? = some x) : itemL (itemsL l (xs.take i)) x.1 x.2 = itemsL l (xs.take (i + 1)) := by
  rw [List.take_add_one, h]
  simp [itemsL]
set_option maxRecDepth 100000 in
theorem itemsL_lt (xs : List KeyL) : ∀ l : List Nat, (∀ x ∈ l, x < 256) → ∀ x ∈ itemsL l xs, x < 256 := by
  induction xs with
  | nil => intro l h; exact h
  | cons x xs ih => intro l h; exact ih _ (itemL_lt l x.1 x.2 h)
set_option maxRecDepth 100000 in
theorem itemL_ge (l : List Nat) (d : Int) (s : ByteArray) : l.length ≤ (itemL l d s).length := by
  unfold itemL putTextL
  rw [List.length_append, putL_len2, putL_len1]; omega
set_option maxRecDepth 100000 in
theorem itemsL_ge (xs : List KeyL) : ∀ l : List Nat, l.length ≤ (itemsL l xs).length := by
  induction xs with
  | nil => intro l; exact Nat.le_refl _
  | cons x xs ih => intro l; exact Nat.le_trans (itemL_ge l x.1 x.2) (ih _)
set_option maxRecDepth 100000 in
theorem itemsL_len (l : List Nat) (n : Nat) (hn : l.length = n) (xs : List KeyL) (h : ∀ x ∈ xs, x.2.size ≤ 2000) : ∀ i, i ≤ xs.length → (itemsL l (xs.take i)).length ≤ n + i * 2003 := by
  intro i
  induction i with
  | zero => intro _; simp [itemsL, hn]
  | succ i ih =>
    intro hi
    obtain ⟨x, hx⟩ : ∃ x, xs[i]? = some x := ⟨_, List.getElem?_eq_getElem (by omega)⟩
    have hz := h x (List.mem_of_getElem? hx)
    rw [← itemsL_next hx, itemL_len _ _ _ (by omega)]
    have := ih (by omega)
    omega
set_option maxRecDepth 100000 in
theorem itOK_all {l : List KeyL} : ∀ n, itOK l n = true → ∀ i x, i < n → l[i]? = some x → itemB x = true
  | 0, _, i, x, hi, _ => by omega
  | n + 1, h, i, x, hi, hx => by
    unfold itOK at h
    rw [Bool.and_eq_true] at h
    by_cases e : i = n
    · subst e
      have h2 := h.2
      rw [hx] at h2
      simp only [Bool.and_eq_true] at h2
      exact h2.1
    · exact itOK_all n h.1 i x (by omega) hx
set_option maxRecDepth 100000 in
theorem reply_in {s q h sq wk ep : Int} {l : List KeyL} {en : Bool} (hm : (MV.reply s q h sq wk ep l en).may = true) :
    (∀ x ∈ [s, q, h, sq, wk, ep], -9223372036854775808 ≤ x ∧ x ≤ 9223372036854775807) ∧ (∀ x ∈ l, 0 ≤ x.1 ∧ x.1 ≤ 4) ∧ l.length ≤ 5 := by
  simp only [MV.may, replyB, Bool.and_eq_true, decide_eq_true_eq] at hm
  obtain ⟨⟨⟨⟨h1, h2⟩, h3⟩, h4⟩, h5⟩ := hm
  have p2 := placeB_in h3
  have p3 := workerB_in h5
  have q1 := withinL_in h4 q (by simp)
  have q2 := withinL_in h4 sq (by simp)
  have q3 := withinL_in h4 ep (by simp)
  refine ⟨?_, ?_, h2⟩
  · intro x hx
    simp only [List.mem_cons, List.not_mem_nil, or_false] at hx
    rcases hx with rfl | rfl | rfl | rfl | rfl | rfl <;> omega
  · intro x hx
    obtain ⟨i, hi, rfl⟩ := List.getElem_of_mem hx
    have := itOK_all l.length h1 i l[i] hi (List.getElem?_eq_getElem hi)
    unfold itemB at this
    simp at this
    omega
set_option maxRecDepth 100000 in
set_option maxHeartbeats 8000000 in
theorem mencode_reply (s q h sq wk ep : Int) (l : List KeyL) (en : Bool) (ai : Option Addr) (ci : Nat) (w : World) (hr : RdE KeyL.cells 2 w ai l.length ci l) (hm : (MV.reply s q h sq wk ep l en).may = true) (hx : ∀ x ∈ l, x.2.size ≤ 2000) :
    Calls Try.prog 14 #[.iface 32 (.agg #[.int .i64 s, .int .i64 q, .int .i64 h, .int .i64 sq, .int .i64 wk, .int .i64 ep, .slice ai l.length ci, .bool en])] w fun e w' => EncE w (encL (.reply s q h sq wk ep l en)) e w' := by
  have hzz : ∀ x ∈ l, x.2.size ≤ maxLen := fun x hh => by have := hx x hh; unfold maxLen; omega
  have HM := Lib.hid (mmay_any (.reply s q h sq wk ep l en) _ w (show (MV.reply s q h sq wk ep l en).At w (.iface 32 (.agg #[.int .i64 s, .int .i64 q, .int .i64 h, .int .i64 sq, .int .i64 wk, .int .i64 ep, .slice ai l.length ci, .bool en])) from ⟨ai, ci, rfl, hr⟩) hzz)
  have HK := Lib.hid (fun (W : World) (hbw : Below w.heap.size w W) => (show Calls Try.prog 21 #[.iface 32 (.agg #[.int .i64 s, .int .i64 q, .int .i64 h, .int .i64 sq, .int .i64 wk, .int .i64 ep, .slice ai l.length ci, .bool en])] W fun e w' => e = .returned (.int .i64 4) ∧ Below W.heap.size W w' from mkind_any (.reply s q h sq wk ep l en) _ W (show (MV.reply s q h sq wk ep l en).At W (.iface 32 (.agg #[.int .i64 s, .int .i64 q, .int .i64 h, .int .i64 sq, .int .i64 wk, .int .i64 ep, .slice ai l.length ci, .bool en])) from ⟨ai, ci, rfl, hr.below hbw rfl⟩)))
  have HI := Lib.hid (reply_in hm).1
  have HD := Lib.hid (reply_in hm).2.1
  have hl5 := (reply_in hm).2.2
  have HSZ := Lib.hid hx
  have HRI := Lib.hid (fun (W : World) (hbw : Below w.heap.size w W) => hr.below hbw rfl)
  have hcap := hr.2.1
  have hcm := hr.2.2.1
  unfold maxLen at hcm
  rw [hm] at HM
  clear hm hx hzz hr
  obtain ⟨l1, e1⟩ : ∃ l, numsL [0, 0, 4] [s, q, h, sq, wk, ep] = l := ⟨_, rfl⟩
  obtain ⟨l2, e2⟩ : ∃ l', putL l1 l.length 1 = l' := ⟨_, rfl⟩
  obtain ⟨ln, e3⟩ : ∃ ln : Nat → List Nat, (fun i => itemsL l2 (l.take i)) = ln := ⟨_, rfl⟩
  obtain ⟨bl, e4⟩ : ∃ l', putL (ln l.length) (flagN en) 1 = l' := ⟨_, rfl⟩
  have n1 : l1.length = 27 := by rw [← e1, numsL_len]; rfl
  have n2 : l2.length = 28 := by rw [← e2, putL_len1, n1]
  have NL := Lib.hid (show ∀ i, i ≤ l.length → (ln i).length ≤ 28 + i * 2003 from by rw [← e3]; intro i hi; exact itemsL_len l2 28 n2 l HSZ.out i hi)
  have n4 : bl.length = (ln l.length).length + 1 := by rw [← e4, putL_len1]
  have nn := NL.out l.length (Nat.le_refl _)
  have HS0 := Lib.hid (show ln 0 = l2 from by rw [← e3]; rfl)
  have HSS := Lib.hid (show ∀ i x, l[i]? = some x → itemL (ln i) x.1 x.2 = ln (i + 1) from by rw [← e3]; intro i x hx; exact itemsL_next hx)
  have HLT := Lib.hid (show ∀ x ∈ bl, x < 256 from by rw [← e4, ← e3, ← e2, ← e1]; exact putL_lt _ _ _ (itemsL_lt _ _ (putL_lt _ _ _ (numsL_lt _ _ (by decide)))))
  have HLL := Lib.hid (show 3 ≤ bl.length ∧ bl.length ≤ 900000 from by have : 28 ≤ (ln l.length).length := (by rw [← e3, ← n2]; exact itemsL_ge _ _); omega)
  have EB := Lib.hid (show bl = bodyL (.reply s q h sq wk ep l en) from by rw [← e4, ← e3, ← e2, ← e1]; simp only [List.take_length]; rfl)
  have E1 := Lib.hid e1
  have E2 := Lib.hid e2
  have E4 := Lib.hid e4
  have N1 := Lib.hid (show l1.length ≤ 100000 from by omega)
  have N2 := Lib.hid (show l2.length ≤ 100000 from by omega)
  have N4 := Lib.hid (show (ln l.length).length ≤ 100000 from by omega)
  clear e1 e2 e3 e4 n1 n2 n4 nn
  unfold EncE
  go_enter Try.func14, Try.ntmps14
  go_wp2_with fail
  refine HM.out.mono ?_
  rintro e w1 ⟨rfl, hb⟩
  have HB := Lib.hid hb
  clear hb
  go_wp2_with fail
  refine (HK.out _ HB.out).mono ?_
  rintro e w2 ⟨rfl, hb⟩
  have HB2 := Lib.hid (HB.out.trans (hb.mono HB.out.size))
  clear hb HB
  have k9 : IntKind.u8.wrap (4 : Int) = 4 := by decide
  go_wp2_with (first | rw [ta_hello_reply] | rw [ta_grant_reply] | rw [ta_ask_reply] | rw [ta_reply_reply] | rw [ta_stop_reply])
  have H0 := Lib.hid (((new_writer w2 w.heap.size 4 HB2.out.size).alloc (.cells #[.int .i64 s, .int .i64 q, .int .i64 h, .int .i64 sq, .int .i64 wk, .int .i64 ep, .slice ai l.length ci, .bool en] 32)).alloc (.cells #[.int .i64 s, .int .i64 q, .int .i64 h, .int .i64 sq, .int .i64 wk, .int .i64 ep] 3))
  have hs2 := HB2.out.size
  have hsz : (((w2.alloc (.cells #[.int .u8 0, .int .u8 0, .int .u8 4] 5)).alloc (.cells #[.slice (some ⟨w2.heap.size, 0, none⟩) 3 3] 74)).alloc (.cells #[.int .i64 s, .int .i64 q, .int .i64 h, .int .i64 sq, .int .i64 wk, .int .i64 ep, .slice ai l.length ci, .bool en] 32)).heap.size = w2.heap.size + 1 + 1 + 1 := by simp
  have HBL := Lib.hid ((((HB2.out.alloc HB2.out.size (.cells #[.int .u8 0, .int .u8 0, .int .u8 4] 5)).alloc (by first | (simp; done) | (simp; omega)) (.cells #[.slice (some ⟨w2.heap.size, 0, none⟩) 3 3] 74)).alloc (by first | (simp; done) | (simp; omega)) (.cells #[.int .i64 s, .int .i64 q, .int .i64 h, .int .i64 sq, .int .i64 wk, .int .i64 ep, .slice ai l.length ci, .bool en] 32)).alloc (by first | (simp; done) | (simp; omega)) (.cells #[.int .i64 s, .int .i64 q, .int .i64 h, .int .i64 sq, .int .i64 wk, .int .i64 ep] 3))
  have HX := Lib.hid ((show Blk (((w2.alloc (.cells #[.int .u8 0, .int .u8 0, .int .u8 4] 5)).alloc (.cells #[.slice (some ⟨w2.heap.size, 0, none⟩) 3 3] 74)).alloc (.cells #[.int .i64 s, .int .i64 q, .int .i64 h, .int .i64 sq, .int .i64 wk, .int .i64 ep, .slice ai l.length ci, .bool en] 32)) (w2.heap.size + 1 + 1) 32 [.int .i64 s, .int .i64 q, .int .i64 h, .int .i64 sq, .int .i64 wk, .int .i64 ep, .slice ai l.length ci, .bool en] from by have q := heap_alloc_new ((w2.alloc (.cells #[.int .u8 0, .int .u8 0, .int .u8 4] 5)).alloc (.cells #[.slice (some ⟨w2.heap.size, 0, none⟩) 3 3] 74)) (.cells #[.int .i64 s, .int .i64 q, .int .i64 h, .int .i64 sq, .int .i64 wk, .int .i64 ep, .slice ai l.length ci, .bool en] 32); rw [show ((w2.alloc (.cells #[.int .u8 0, .int .u8 0, .int .u8 4] 5)).alloc (.cells #[.slice (some ⟨w2.heap.size, 0, none⟩) 3 3] 74)).heap.size = w2.heap.size + 1 + 1 from by simp] at q; exact q).alloc (.cells #[.int .i64 s, .int .i64 q, .int .i64 h, .int .i64 sq, .int .i64 wk, .int .i64 ep] 3))
  obtain ⟨W, hW⟩ : ∃ W, ((((w2.alloc (.cells #[.int .u8 0, .int .u8 0, .int .u8 4] 5)).alloc (.cells #[.slice (some ⟨w2.heap.size, 0, none⟩) 3 3] 74)).alloc (.cells #[.int .i64 s, .int .i64 q, .int .i64 h, .int .i64 sq, .int .i64 wk, .int .i64 ep, .slice ai l.length ci, .bool en] 32)).alloc (.cells #[.int .i64 s, .int .i64 q, .int .i64 h, .int .i64 sq, .int .i64 wk, .int .i64 ep] 3)) = W := ⟨_, rfl⟩
  rw [hW] at HX
  have HN := Lib.hid (show Rd W (some ⟨w2.heap.size + 1 + 1 + 1, 0, none⟩) 6 6 (ints [s, q, h, sq, wk, ep]) from by
    have q := new_ints (((w2.alloc (.cells #[.int .u8 0, .int .u8 0, .int .u8 4] 5)).alloc (.cells #[.slice (some ⟨w2.heap.size, 0, none⟩) 3 3] 74)).alloc (.cells #[.int .i64 s, .int .i64 q, .int .i64 h, .int .i64 sq, .int .i64 wk, .int .i64 ep, .slice ai l.length ci, .bool en] 32)) [s, q, h, sq, wk, ep] (by simp [maxLen])
    rw [hsz] at q; rw [← hW]; exact q)
  have HZ := Lib.hid (show WAt w.heap.size W (w2.heap.size + 1) [0, 0, 4] from hW ▸ H0.out)
  have HBW := Lib.hid (show Below w.heap.size w W from hW ▸ HBL.out)
  clear H0 HBL
  rw [hW]
  clear hW
  have HC := Lib.hid (wnums_any w.heap.size (w2.heap.size + 1) [0, 0, 4] (some ⟨w2.heap.size + 1 + 1 + 1, 0, none⟩) 6 6 [s, q, h, sq, wk, ep] W HBW.out.size HZ.out (by decide) (by simp) HN.out (by intro b o h; cases h; omega) HI.out)
  rw [E1.out] at HC
  refine HC.out.mono ?_
  clear HC HN HZ
  rintro e V ⟨rfl, hz, hf⟩
  have HZ := Lib.hid hz
  have HBV := Lib.hid (show Below w.heap.size w V from HBW.out.trans (Frm.toBelow hf HBW.out.size (fun i hi hs => by have hs' : i = w2.heap.size + 1 := hs; omega)))
  have HXV := Lib.hid (Blk.frm HX.out hf (fun hh => absurd (show w2.heap.size + 1 + 1 = w2.heap.size + 1 from hh) (by omega)))
  clear hz hf HBW HX
  have HC := Lib.hid (wsmall_any w.heap.size (w2.heap.size + 1) l1 l.length V HBV.out.size HZ.out (by have := N1.out; omega) (by omega))
  rw [E2.out] at HC
  have x6 : V.cell? ⟨w2.heap.size + 1 + 1, 6, none⟩ = some (.slice ai l.length ci) := HXV.out.cell 6
  go_wp2_with fail
  refine HC.out.mono ?_
  clear HC
  rintro e V3 ⟨rfl, hz, hf⟩
  have HZ3 := Lib.hid hz
  have HBV3 := Lib.hid (show Below w.heap.size w V3 from HBV.out.trans (Frm.toBelow hf HBV.out.size (fun i hi hs => by have hs' : i = w2.heap.size + 1 := hs; omega)))
  have HXV3 := Lib.hid (Blk.frm HXV.out hf (fun hh => absurd (show w2.heap.size + 1 + 1 = w2.heap.size + 1 from hh) (by omega)))
  clear hz hf HBV HXV
  clear x6
  have x6 : V3.cell? ⟨w2.heap.size + 1 + 1, 6, none⟩ = some (.slice ai l.length ci) := HXV3.out.cell 6
  go_wp2_with fail
  clear x6
  go_loopw [112] (fun v wr => ∃ i : Nat, i ≤ l.length ∧ v = .int .i64 i ∧ RowKit.Hid (WAt w.heap.size wr (w2.heap.size + 1) (ln i)) ∧ RowKit.Hid (Blk wr (w2.heap.size + 1 + 1) 32 [.int .i64 s, .int .i64 q, .int .i64 h, .int .i64 sq, .int .i64 wk, .int .i64 ep, .slice ai l.length ci, .bool en]) ∧ RowKit.Hid (Below w.heap.size w wr)) (fun v _ => l.length - (intOf v).toNat)
  case atStart => exact ⟨0, by omega, rfl, by rw [HS0.out]; exact HZ3, HXV3, HBV3⟩
  case round =>
    clear HZ3 HXV3 HBV3
    obtain ⟨i, hi, rfl, HZ, HXV, HBV⟩ := hrel
    by_cases hlt : i < l.length
    · obtain ⟨x, hx⟩ : ∃ x, l[i]? = some x := ⟨_, List.getElem?_eq_getElem hlt⟩
      obtain ⟨bb, ob, hab, hbb, hcx⟩ := (HRI.out wr HBV.out).2.2.2.2 i x hx
      subst hab
      have x0 : wr.cell? ⟨bb, ob + i * 2, none⟩ = some (.int .i64 x.1) := hcx 0 (by decide)
      have x1 : wr.cell? ⟨bb, ob + i * 2 + 1, none⟩ = some (.string x.2) := hcx 1 (by decide)
      have k1 : (0 : Int) ≤ (i : Int) := by omega
      have k2 : (i : Int) < (l.length : Int) := by omega
      have hd4 := HD.out x (List.mem_of_getElem? hx)
      have hs4 := HSZ.out x (List.mem_of_getElem? hx)
      have HNX := Lib.hid (HSS.out i x hx)
      have hni := NL.out i (by omega)
      have hw2 : w2.heap.size + 1 + 1 < wr.heap.size := HXV.out.lt
      have HZA := Lib.hid (HZ.out.alloc (.cells #[.int .i64 x.1, .string x.2] 27))
      have HXA := Lib.hid (HXV.out.alloc (.cells #[.int .i64 x.1, .string x.2] 27))
      have HBA := Lib.hid (HBV.out.alloc HBV.out.size (.cells #[.int .i64 x.1, .string x.2] 27))
      have HP := Lib.hid (show Blk (wr.alloc (.cells #[.int .i64 x.1, .string x.2] 27)) wr.heap.size 27 [.int .i64 x.1, .string x.2] from heap_alloc_new wr _)
      clear hx hcx HZ HXV HBV
      obtain ⟨V, hV⟩ : ∃ V, wr.alloc (.cells #[.int .i64 x.1, .string x.2] 27) = V := ⟨_, rfl⟩
      rw [hV] at HP HZA HXA HBA
      have p0 : V.cell? ⟨wr.heap.size, 0, none⟩ = some (.int .i64 x.1) := HP.out.cell 0
      have p1 : V.cell? ⟨wr.heap.size, 1, none⟩ = some (.string x.2) := HP.out.cell 1
      have HC := Lib.hid (witem_any w.heap.size (w2.heap.size + 1) (ln i) x.1 x.2 V HBA.out.size HZA.out (by omega) (by omega) (by omega))
      rw [HNX.out] at HC
      go_wp2_with (rw [hV])
      refine HC.out.mono ?_
      clear HC
      rintro e V9 ⟨rfl, hz, hf⟩
      clear p0 p1 x0 x1
      have HZ9 := Lib.hid hz
      have HBV9 := Lib.hid (show Below w.heap.size w V9 from HBA.out.trans (Frm.toBelow hf HBA.out.size (fun i hi hs => by have hs' : i = w2.heap.size + 1 := hs; omega)))
      have HXV9 := Lib.hid (Blk.frm HXA.out hf (fun hh => absurd (show w2.heap.size + 1 + 1 = w2.heap.size + 1 from hh) (by omega)))
      clear hz hf HBA HXA
      go_wp2_with fail
      go_roundw
      case rel => exact ⟨i + 1, by omega, by go_num, HZ9.out, HXV9.out, HBV9.out⟩
      case measure => simp [intOf]; omega
    · obtain rfl : i = l.length := by omega
      have x7 : wr.cell? ⟨w2.heap.size + 1 + 1, 7, none⟩ = some (.bool en) := HXV.out.cell 7
      have HC := Lib.hid (wflag_any w.heap.size (w2.heap.size + 1) (ln l.length) en wr HBV.out.size HZ.out (by have := N4.out; omega))
      rw [E4.out] at HC
      go_wp2_with fail
      refine HC.out.mono ?_
      clear HC
      rintro e V7 ⟨rfl, hz, hf⟩
      have HZ7 := Lib.hid hz
      have HBV7 := Lib.hid (show Below w.heap.size w V7 from HBV.out.trans (Frm.toBelow hf HBV.out.size (fun i hi hs => by have hs' : i = w2.heap.size + 1 := hs; omega)))
      have HXV7 := Lib.hid (Blk.frm HXV.out hf (fun hh => absurd (show w2.heap.size + 1 + 1 = w2.heap.size + 1 from hh) (by omega)))
      clear hz hf HBV HXV
      clear x7
      have HE := Lib.hid (show encL (.reply s q h sq wk ep l en) = frameL (bodyL (.reply s q h sq wk ep l en)) from rfl)
      rw [← EB.out] at HE
      generalize hfl : encL (.reply s q h sq wk ep l en) = fl at HE
      have HQ := Lib.hid hfl
      clear hfl
      obtain ⟨a, c, hk, ho⟩ := HZ7.out
      have HKG := Lib.hid hk
      have HO := Lib.hid ho
      have t0 : V7.cell? ⟨w2.heap.size + 1, 0, none⟩ = some (.slice a bl.length c) := hk.cell 0
      clear hk ho
      go_wp2_with fail
      have HKG' := Lib.hid (show Blk V7.drew (w2.heap.size + 1) 74 [.slice a bl.length c] from HKG.out)
      clear HKG t0
      have HKG := HKG'
      clear HKG'
      have HO' := Lib.hid (show V7.drew.ownsRow w.heap.size 5 1 (.slice a bl.length c) bl.length (u8s bl) from HO.out)
      clear HO
      have HO := HO'
      clear HO'
      have HBV7' := Lib.hid (show Below w.heap.size w V7.drew from HBV7.out.drew)
      clear HBV7
      have HBV7 := HBV7'
      clear HBV7'
      have HPU := Lib.hid (put2_any ((bl.length : Int) + 4) V7.drew (by have := HLL.out; omega))
      have kw : IntKind.i64.wrap ((bl.length : Int) + 4) = (bl.length : Int) + 4 := IntWalk.i64_in _ (by have := HLL.out; omega)
      refine wp_region_held_drew (S := (fun w' => w'.cell? ⟨w2.heap.size + 1, 0, none⟩ = some (.slice a bl.length c))) (by kernel_rfl) (by first | exact HKG.out.cell 0 | exact HK2.out.cell 0 | exact HK3.out.cell 0) (fun hHeld => ?_)
      refine takeO 0 (some 134) (v := ?_) rfl rfl (by kernel_rfl) (by kernel_rfl) (by kernel_rfl) (fun _ _ _ h => h) (Or.inl ⟨by rfl, ?_⟩) (by assumption) ?_
      rotate_left 1
      · intro w hSw; (try dsimp only at hSw); go_simp; all_goals with_reducible rfl
      try simp only [Act.put, List.setIfInBounds_toArray, List.set_cons_zero, List.set_cons_succ]
      refine takeO 1 (some 135) (v := ?_) rfl rfl (by kernel_rfl) (by kernel_rfl) (by kernel_rfl) (fun _ _ _ h => h) (Or.inl ⟨by rfl, ?_⟩) (by assumption) ?_
      rotate_left 1
      · intro w hSw; (try dsimp only at hSw); go_simp; all_goals with_reducible rfl
      try simp only [Act.put, List.setIfInBounds_toArray, List.set_cons_zero, List.set_cons_succ]
      refine takeO 2 (some 136) (v := ?_) rfl rfl (by kernel_rfl) (by kernel_rfl) (by kernel_rfl) (fun _ _ _ h => h) (Or.inl ⟨by rfl, ?_⟩) (by assumption) ?_
      rotate_left 1
      · intro w hSw; (try dsimp only at hSw); go_simp; all_goals with_reducible rfl
      try simp only [Act.put, List.setIfInBounds_toArray, List.set_cons_zero, List.set_cons_succ]
      refine takeO 3 (some 137) (v := ?_) rfl rfl (by kernel_rfl) (by kernel_rfl) (by kernel_rfl) (fun _ _ _ h => h) (Or.inl ⟨by rfl, ?_⟩) (by assumption) ?_
      rotate_left 1
      · intro w hSw; (try dsimp only at hSw); go_simp; all_goals with_reducible rfl
      try simp only [Act.put, List.setIfInBounds_toArray, List.set_cons_zero, List.set_cons_succ]
      refine takeO 4 (some 138) (v := ?_) rfl rfl (by kernel_rfl) (by kernel_rfl) (by kernel_rfl) (fun _ _ _ h => h) (Or.inl ⟨by rfl, ?_⟩) (by assumption) ?_
      rotate_left 1
      · intro w hSw; (try dsimp only at hSw); go_simp; all_goals with_reducible rfl
      try simp only [Act.put, List.setIfInBounds_toArray, List.set_cons_zero, List.set_cons_succ]
      refine takeO 5 (some 139) (v := ?_) rfl rfl (by kernel_rfl) (by kernel_rfl) (by kernel_rfl) (fun _ _ _ h => h) (Or.inl ⟨by rfl, ?_⟩) (by assumption) ?_
      rotate_left 1
      · intro w hSw; (try dsimp only at hSw); go_simp; all_goals with_reducible rfl
      try simp only [Act.put, List.setIfInBounds_toArray, List.set_cons_zero, List.set_cons_succ]
      refine takeO 6 (some 140) (v := ?_) rfl rfl (by kernel_rfl) (by kernel_rfl) (by kernel_rfl) (fun _ _ _ h => h) (Or.inl ⟨by rfl, ?_⟩) (by assumption) ?_
      rotate_left 1
      · intro w hSw; (try dsimp only at hSw); go_simp; all_goals with_reducible rfl
      try simp only [Act.put, List.setIfInBounds_toArray, List.set_cons_zero, List.set_cons_succ]
      refine takeO 7 (some 141) (v := ?_) rfl rfl (by kernel_rfl) (by kernel_rfl) (by kernel_rfl) (fun _ _ _ h => h) (Or.inl ⟨by rfl, ?_⟩) (by assumption) ?_
      rotate_left 1
      · intro w hSw; (try dsimp only at hSw); go_simp; all_goals with_reducible rfl
      try simp only [Act.put, List.setIfInBounds_toArray, List.set_cons_zero, List.set_cons_succ]
      refine takeO 8 (some 142) (v := ?_) rfl rfl (by kernel_rfl) (by kernel_rfl) (by kernel_rfl) (fun _ _ _ h => h) (Or.inl ⟨by rfl, ?_⟩) (by assumption) ?_
      rotate_left 1
      · intro w hSw; (try dsimp only at hSw); go_simp; all_goals with_reducible rfl
      try simp only [Act.put, List.setIfInBounds_toArray, List.set_cons_zero, List.set_cons_succ]
      refine takeO 9 (some 143) (v := ?_) rfl rfl (by kernel_rfl) (by kernel_rfl) (by kernel_rfl) (fun _ _ _ h => h) (Or.inl ⟨by rfl, ?_⟩) (by assumption) ?_
      rotate_left 1
      · intro w hSw; (try dsimp only at hSw); go_simp; all_goals with_reducible rfl
      try simp only [Act.put, List.setIfInBounds_toArray, List.set_cons_zero, List.set_cons_succ]
      refine wpAnyH_ready (rs := [10]) (by kernel_rfl) (by simp) ?_
      refine AllReadyH.cons rfl (fun K hK => ?_) AllReadyH.nil
      go_simp
      refine HPU.out.mono ?_; rintro e V2 ⟨ao, c2, rfl, hown, hbel⟩; have HPO := Lib.hid hown; have HBE := Lib.hid hbel; have HK2 := Lib.hid (Blk.below HKG.out hbel (Blk.lt HKG.out)); clear hown hbel
      go_wp2_with fail
      refine hK.out _ _ (by first | exact HKG.out.cell 0 | exact HK2.out.cell 0 | exact HK3.out.cell 0) (fun hHeld => ?_)
      clear hK K
      try simp only [Act.put, List.setIfInBounds_toArray, List.set_cons_zero, List.set_cons_succ]
      refine wpAnyH_ready (rs := [11]) (by kernel_rfl) (by simp) ?_
      refine AllReadyH.cons rfl (fun K hK => ?_) AllReadyH.nil
      refine step_copyN rfl (.tmp 137) (.tmp 144) 39 39 (some 145) rfl rfl 5 Try.underlying39 isz8 w.heap.size V7.drew.heap.size a ao bl.length c 2 c2 (u8s bl) (u8s (putL [] ((bl.length : Int) + 4) 2)) rfl rfl (ownsRow_below HO.out HBE.out) HPO.out (by decide) (by have := HLL.out; omega) (u8s_one _) ?_
      intro V3 ho3 hf3
      rw [← u8s_drop, ← u8s_append] at ho3
      have HK3 := Lib.hid (Blk.frm HK2.out hf3 (fun hh => ownsRow_ne (ownsRow_below HO.out HBE.out) HK2.out (by decide) _ hh rfl))
      have HB3 := Lib.hid (show Below w.heap.size w V3.drew from ((HBV7.out.trans ((show Below w.heap.size V7.drew V2 from HBE.out.mono HBV7.out.size))).trans (Frm.toBelow hf3 (Nat.le_trans HBV7.out.size HBE.out.size) (fun i hi hh => Nat.lt_irrefl _ (Nat.lt_of_lt_of_le hi (own_ge HO.out _ hh))))).drew)
      have HO3 := Lib.hid (show V3.drew.ownsRow w.heap.size 5 1 (.slice a bl.length c) bl.length _ from ho3)
      clear ho3 hf3 HBE HPO HO
      refine hK.out _ _ (by first | exact HKG.out.cell 0 | exact HK2.out.cell 0 | exact HK3.out.cell 0) (fun hHeld => ?_)
      clear hK K
      try simp only [Act.put, List.setIfInBounds_toArray, List.set_cons_zero, List.set_cons_succ]
      refine wpAnyH_done (by kernel_rfl) ?_ _
      clear HPU HKG HK2 kw
      have HK3' := Lib.hid (show Blk V3.drew (w2.heap.size + 1) 74 [.slice a bl.length c] from HK3.out)
      clear HK3
      have HK3 := HK3'
      clear HK3'
      obtain ⟨cl, hcl⟩ : ∃ cl, putL [] ((bl.length : Int) + 4) 2 ++ bl.drop 2 = cl := ⟨_, rfl⟩
      rw [hcl] at HO3
      have HCL := Lib.hid (show ∀ x ∈ cl, x < 256 from hcl ▸ copied_lt HLT.out)
      have HCN := Lib.hid (show cl.length = bl.length from hcl ▸ copied_len (by have := HLL.out; omega))
      have HF := Lib.hid (show fl = putL cl (addN 0 cl) 4 from hcl ▸ HE.out)
      clear hcl
      have HRD := Lib.hid (ownsRow_rd HO3.out)
      have HSU := Lib.hid (of_any a bl.length c cl V3.drew HCL.out HRD.out)
      have hsl : addN 0 cl < 4294967296 := addN_lt _ _ HCL.out
      have HPL := Lib.hid (putfr_any a bl.length c cl (addN 0 cl) V3.drew HRD.out (by have := HLL.out; omega) (by omega))
      rw [← HF.out] at HPL
      generalize addN 0 cl = sm at *
      have kv : IntKind.i64.wrap (sm : Int) = sm := IntWalk.i64_in _ (by omega)
      go_wp2_with fail
      refine wp_region_held_drew (S := (fun w' => w'.cell? ⟨w2.heap.size + 1, 0, none⟩ = some (.slice a bl.length c))) (by kernel_rfl) (by first | exact HK3.out.cell 0 | exact HK5.out.cell 0) (fun hHeld => ?_)
      refine takeO 0 (some 146) (v := ?_) rfl rfl (by kernel_rfl) (by kernel_rfl) (by kernel_rfl) (fun _ _ _ h => h) (Or.inl ⟨by rfl, ?_⟩) (by assumption) ?_
      rotate_left 1
      · intro w hSw; (try dsimp only at hSw); go_simp; all_goals with_reducible rfl
      try simp only [Act.put, List.setIfInBounds_toArray, List.set_cons_zero, List.set_cons_succ]
      refine takeO 1 (some 147) (v := ?_) rfl rfl (by kernel_rfl) (by kernel_rfl) (by kernel_rfl) (fun _ _ _ h => h) (Or.inl ⟨by rfl, ?_⟩) (by assumption) ?_
      rotate_left 1
      · intro w hSw; (try dsimp only at hSw); go_simp; all_goals with_reducible rfl
      try simp only [Act.put, List.setIfInBounds_toArray, List.set_cons_zero, List.set_cons_succ]
      refine takeO 2 (some 148) (v := ?_) rfl rfl (by kernel_rfl) (by kernel_rfl) (by kernel_rfl) (fun _ _ _ h => h) (Or.inl ⟨by rfl, ?_⟩) (by assumption) ?_
      rotate_left 1
      · intro w hSw; (try dsimp only at hSw); go_simp; all_goals with_reducible rfl
      try simp only [Act.put, List.setIfInBounds_toArray, List.set_cons_zero, List.set_cons_succ]
      refine takeO 3 (some 149) (v := ?_) rfl rfl (by kernel_rfl) (by kernel_rfl) (by kernel_rfl) (fun _ _ _ h => h) (Or.inl ⟨by rfl, ?_⟩) (by assumption) ?_
      rotate_left 1
      · intro w hSw; (try dsimp only at hSw); go_simp; all_goals with_reducible rfl
      try simp only [Act.put, List.setIfInBounds_toArray, List.set_cons_zero, List.set_cons_succ]
      refine takeO 4 (some 150) (v := ?_) rfl rfl (by kernel_rfl) (by kernel_rfl) (by kernel_rfl) (fun _ _ _ h => h) (Or.inl ⟨by rfl, ?_⟩) (by assumption) ?_
      rotate_left 1
      · intro w hSw; (try dsimp only at hSw); go_simp; all_goals with_reducible rfl
      try simp only [Act.put, List.setIfInBounds_toArray, List.set_cons_zero, List.set_cons_succ]
      refine takeO 5 (some 151) (v := ?_) rfl rfl (by kernel_rfl) (by kernel_rfl) (by kernel_rfl) (fun _ _ _ h => h) (Or.inl ⟨by rfl, ?_⟩) (by assumption) ?_
      rotate_left 1
      · intro w hSw; (try dsimp only at hSw); go_simp; all_goals with_reducible rfl
      try simp only [Act.put, List.setIfInBounds_toArray, List.set_cons_zero, List.set_cons_succ]
      refine takeO 6 (some 152) (v := ?_) rfl rfl (by kernel_rfl) (by kernel_rfl) (by kernel_rfl) (fun _ _ _ h => h) (Or.inl ⟨by rfl, ?_⟩) (by assumption) ?_
      rotate_left 1
      · intro w hSw; (try dsimp only at hSw); go_simp; all_goals with_reducible rfl
      try simp only [Act.put, List.setIfInBounds_toArray, List.set_cons_zero, List.set_cons_succ]
      refine takeO 7 (some 153) (v := ?_) rfl rfl (by kernel_rfl) (by kernel_rfl) (by kernel_rfl) (fun _ _ _ h => h) (Or.inl ⟨by rfl, ?_⟩) (by assumption) ?_
      rotate_left 1
      · intro w hSw; (try dsimp only at hSw); go_simp; all_goals with_reducible rfl
      try simp only [Act.put, List.setIfInBounds_toArray, List.set_cons_zero, List.set_cons_succ]
      refine wpAnyH_ready (rs := [8]) (by kernel_rfl) (by simp) ?_
      refine AllReadyH.cons rfl (fun K hK => ?_) AllReadyH.nil
      go_simp
      refine HSU.out.mono ?_; rintro e V4 ⟨rfl, rfl⟩
      go_wp2_with fail
      refine hK.out _ _ (by first | exact HK3.out.cell 0 | exact HK5.out.cell 0) (fun hHeld => ?_)
      clear hK K
      try simp only [Act.put, List.setIfInBounds_toArray, List.set_cons_zero, List.set_cons_succ]
      refine takeO 9 (some 155) (v := ?_) rfl rfl (by kernel_rfl) (by kernel_rfl) (by kernel_rfl) (fun _ _ _ h => h) (Or.inl ⟨by rfl, ?_⟩) (by assumption) ?_
      rotate_left 1
      · intro w hSw; (try dsimp only at hSw); go_simp; all_goals with_reducible rfl
      try simp only [Act.put, List.setIfInBounds_toArray, List.set_cons_zero, List.set_cons_succ]
      refine wpAnyH_ready (rs := [10]) (by kernel_rfl) (by simp) ?_
      refine AllReadyH.cons rfl (fun K hK => ?_) AllReadyH.nil
      go_simp
      refine HPL.out.mono ?_; rintro e V5 ⟨ao, c2, rfl, hown, hbel⟩; have HPO := Lib.hid hown; have HBE := Lib.hid hbel; have HK5 := Lib.hid (Blk.below HK3.out hbel (Blk.lt HK3.out)); clear hown hbel
      go_wp2_with fail
      refine hK.out _ _ (by first | exact HK3.out.cell 0 | exact HK5.out.cell 0) (fun hHeld => ?_)
      clear hK K
      try simp only [Act.put, List.setIfInBounds_toArray, List.set_cons_zero, List.set_cons_succ]
      refine takeO 11 (some 2) (v := ?_) rfl rfl (by kernel_rfl) (by kernel_rfl) (by kernel_rfl) (fun _ _ _ h => h) (Or.inl ⟨by rfl, ?_⟩) (by assumption) ?_
      rotate_left 1
      · intro w hSw; (try dsimp only at hSw); go_simp; all_goals with_reducible rfl
      try simp only [Act.put, List.setIfInBounds_toArray, List.set_cons_zero, List.set_cons_succ]
      refine takeO 12 (some 3) (v := ?_) rfl rfl (by kernel_rfl) (by kernel_rfl) (by kernel_rfl) (fun _ _ _ h => h) (Or.inl ⟨by rfl, ?_⟩) (by assumption) ?_
      rotate_left 1
      · intro w hSw; (try dsimp only at hSw); go_simp; all_goals with_reducible rfl
      try simp only [Act.put, List.setIfInBounds_toArray, List.set_cons_zero, List.set_cons_succ]
      refine wpAnyH_done (by kernel_rfl) ?_ _
      go_wp2_with fail
      go_ret2
      rw [HQ.out]
      exact ⟨ao, c2, rfl, own0 HPO.out HB3.out.size, HB3.out.trans (HBE.out.mono HB3.out.size)⟩
end Go.Proofs.Ytjhkdbcfkaaffaa
