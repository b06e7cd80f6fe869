/- Lemmas for the law (part 9): CoD, CoE, CoH, CoI0, CoM, Code0, LendB, Mm4, Sum0, Mm8 -/
import Derived.Test.YtinkbgeckjbnbaaGreatRows
import Derived.Laws.Entries
import Derived.Laws.CopyOwn
import Derived.Test.YtinkbgeckjbnbaaGreatQr8
namespace Go.Proofs.YtinkbgeckjbnbaaGreat
section
open Go.RowKit
set_option linter.unusedVariables false

set_option maxRecDepth 100000 in
theorem letOne (l : LV) : ∀ u ∈ LV.cells l, u.oneCell' = true := by
  intro u hu; unfold LV.cells at hu; simp only [List.mem_cons, List.not_mem_nil, or_false] at hu
  rcases hu with rfl | rfl
  · rfl
  · cases l.2 <;> rfl
/-- letters that are gathered beside the coordinator -/
structure WkS (O : Own) (w : World) (A : CA) (p : Nat) (wr : World) (Ok : Own) (S : CS) (ao : Option Addr) (m c : Nat) (L : List LV) : Prop where
  cw : CW wr Ok A p S
  len : L.length = m
  row : wr.ownsRow w.heap.size 51 2 (.slice ao m c) m (L.flatMap LV.cells)
  tag : ∀ k, (Value.slice ao m c).ownBlock = some k → Ok k = 0
  ag : AgO w.heap.size O Ok
  out : COut O w wr
section
variable {O Ok O2 : Own} {w wr w2 : World} {A : CA} {p : Nat} {S S2 : CS} {ao : Option Addr} {m c : Nat} {L : List LV}
set_option maxRecDepth 100000 in
theorem WkS.step (h : WkS O w A p wr Ok S ao m c L) (hc : CW w2 O2 A p S2) (ha : AgO wr.heap.size Ok O2) (hf : COut Ok wr w2) : WkS O w A p w2 O2 S2 ao m c L :=
  ⟨hc, h.len, ownsRow_frm h.row hf (fun k hk e => by rw [h.tag k hk] at e; exact absurd e (by decide)), own_ag h.row ha h.tag, fun b hb => (ha b (Nat.lt_of_lt_of_le hb h.out.size)).trans (h.ag b hb), COut.trans h.out hf h.ag⟩
set_option maxRecDepth 100000 in
theorem WkS.below (h : WkS O w A p wr Ok S ao m c L) (hb : Below wr.heap.size wr w2) (ha : AgO wr.heap.size Ok O2) : WkS O w A p w2 O2 S ao m c L := h.step (h.cw.below hb ha) ha (COut.below hb)
set_option maxRecDepth 100000 in
theorem WkS.app (h : WkS O w A p wr Ok S ao m c L) {l : List LV} {ao' : Option Addr} {k c' : Nat} (hk : l.length = k) (hg : wr.grownBy w2 (Value.ownBlock (.slice ao m c))) (hr : w2.ownsRow w.heap.size 51 2 (.slice ao' (m + k) c') (m + k) (L.flatMap LV.cells ++ l.flatMap LV.cells))
    (hat : Value.ownBlock (.slice ao' (m + k) c') = Value.ownBlock (.slice ao m c) ∨ Value.ownBlock (.slice ao' (m + k) c') = some wr.heap.size) : WkS O w A p w2 (Ok.upd wr.heap.size 0) S ao' (m + k) c' (L ++ l) := by
  have hf : Frm (fun b => Ok b = 0) wr w2 := Frm.grown hg (fun g hg => h.tag g hg)
  have ha : AgO wr.heap.size Ok (Ok.upd wr.heap.size 0) := AgO.upd _ _ _
  refine ⟨h.cw.apart hf ha (fun b _ e => by rw [e]; decide), by rw [List.length_append, h.len, hk], by rw [List.flatMap_append]; exact hr, fun q hq => ?_, fun b hb => (ha b (Nat.lt_of_lt_of_le hb h.out.size)).trans (h.ag b hb), ?_⟩
  · rcases hat with e | e
    · rw [e] at hq; exact (ha q (own_lt h.row q hq)).trans (h.tag q hq)
    · rw [e] at hq; cases hq; exact Own.upd_ge (Nat.le_refl _)
  · have hfo := h.out
    refine ⟨hg.os.trans hfo.os, hg.tape.trans hfo.tape, hg.output.trans hfo.output, Nat.le_trans hfo.size hg.size, fun i hi hn => ?_⟩
    refine (hg.block i (Nat.lt_of_lt_of_le hi hfo.size) (fun e => ?_)).trans (hfo.block i hi hn)
    exact absurd (own_ge h.row i e.symm) (by omega)
set_option maxRecDepth 100000 in
theorem WkS.let_ (h : WkS O w A p wr Ok S ao m c L) : LetAt Ok wr w.heap.size (.slice ao m c) L := by
  have e := h.len; subst e; exact ⟨ao, c, rfl, h.row, h.tag⟩
end
def WkE (O : Own) (A : CA) (p : Nat) (R : CS × List LV) (w : World) (e : Ending) (w' : World) : Prop := ∃ v O', e = .returned v ∧ CW w' O' A p R.1 ∧ LetAt O' w' w.heap.size v R.2 ∧ AgO w.heap.size O O' ∧ COut O w w'
def WkR (O : Own) (A : CA) (p : Nat) (S : CS) (draw : Int) (sl : Nat) (w : World) (v5 v19 : Value) (wr : World) : Prop := ∃ (k m c : Nat) (ao : Option Addr) (Ok : Own), k ≤ sl ∧ v19 = .int .i64 k ∧ v5 = .slice ao m c ∧ RowKit.Hid (WkS O w A p wr Ok (S.wakeN draw k).1 ao m c (S.wakeN draw k).2)
def WiR (O : Own) (A : CA) (p : Nat) (S1 : CS) (L1 : List LV) (id : Nat) (draw : Int) (ws : List Int) (ai : Option Addr) (n ci : Nat) (w : World) (v5 v45 : Value) (wr : World) : Prop := ∃ (j m c : Nat) (ao : Option Addr) (Ok : Own), j ≤ n ∧ v45 = .int .i64 j ∧ v5 = .slice ao m c ∧ RowKit.Hid (WkS O w A p wr Ok (S1.lookN id draw (ws.take j)).1 ao m c (L1 ++ (S1.lookN id draw (ws.take j)).2)) ∧ RowKit.Hid (Row Ok 2 wr 3 1 (.slice ai n ci) n (ws.map (Value.int .i64)))
set_option maxRecDepth 100000 in
theorem take_snocO {α : Type} {l : List α} {j : Nat} {x : α} (h : l[j]? = some x) : l.take (j + 1) = l.take j ++ [x] := by
  rw [List.take_add_one, h]; rfl
set_option linter.unusedSimpArgs false in
set_option maxRecDepth 100000 in
set_option maxHeartbeats 8000000 in
theorem cwake_any (O : Own) (A : CA) (p : Nat) (S : CS) (draw b : Int) (sl : Nat) (w : World) (h : CW w O A p S) (hok : S.OK A.cps.length b) (hb0 : 3 ≤ b) (hb : b ≤ 900000000) (hsh : A.cps.length ≤ 6) (hcp1 : 1 ≤ S.c.cp) (hcp2 : S.c.cp ≤ 3) (hsl : S.c.sl = (sl : Int)) (hsl4 : sl ≤ 4) :
    Calls Tryz.prog 20 #[.pointer (some ⟨p, 0, none⟩), .int .i64 draw] w (WkE O A p (S.wake draw) w) := by
  obtain ⟨i0, hi, hz0, hz1, hz2⟩ := info_parts info_let
  have HI := Lib.hid hi
  have HZ0 := Lib.hid hz0
  have HZ1 := Lib.hid hz1
  have HZ2 := Lib.hid hz2
  clear hi hz0 hz1 hz2
  have HW := Lib.hid h
  have HOK := Lib.hid hok
  have HCP1 := Lib.hid hcp1
  have HCP2 := Lib.hid hcp2
  have HSL := Lib.hid hsl
  have HNS := Lib.hid hsh
  have t4 : w.cell? ⟨p, 4, none⟩ = some (.int .i64 (sl : Nat)) := by have q : w.cell? ⟨p, 4, none⟩ = some (.int .i64 S.c.sl) := h.blk.cell 4; rw [hsl] at q; exact q
  have hqc := fun V => cptr_ne p 0 V
  clear h hok hcp1 hcp2 hsl
  go_enter Tryz.func20, Tryz.ntmps20
  go_wp2_with fail
  clear t4
  go_loopw [5, 19] (WkR O A p S draw sl w) (fun _ v _ => sl - (intOf v).toNat)
  case atStart => exact ⟨0, 0, 0, none, O, Nat.zero_le _, rfl, rfl, ⟨HW.out, rfl, World.ownsRow_nil _ _ _ _, fun k hk => by simp [Value.ownBlock] at hk, AgO.refl _ _, Frm.refl _ _⟩⟩
  case round =>
    clear HW
    obtain ⟨k, m, c, ao, Ok, hk, rfl, rfl, HS⟩ := hrel
    by_cases hlt : k < sl
    · have e1 : (k : Int) < (sl : Int) := by omega
      have hk6 := wakeN_ok HOK.out draw HCP2.out hb0 HNS.out k
      have hlk := wakeN_lk S draw k
      have HLK := Lib.hid hlk
      have hsucc := wakeN_succ S draw k
      obtain ⟨⟨S1, L1⟩, hS1⟩ : ∃ x, S.wakeN draw k = x := ⟨_, rfl⟩
      rw [hS1] at hk6 hsucc HLK HS
      simp only at hk6 HLK HS
      have HK6 := Lib.hid hk6
      have HSU := Lib.hid hsucc
      have hsl1 := CWx.sl HS.out.cw (fun q => q)
      have hwk : wf64 (k : Int) := wf64_of (by omega) (by omega)
      have HAT := Lib.hid (s_at A.sl A.sf A.sa S1.L S1.told.length (k : Int) wr hsl1.1 hwk)
      have t15 : wr.cell? ⟨p, 15, none⟩ = some (.pointer (some ⟨A.sl, 0, none⟩)) := HS.out.cw.blk.cell 15
      have t17 : wr.cell? ⟨p, 17, none⟩ = some (.map (some A.qm)) := HS.out.cw.blk.cell 17
      clear hk6 hlk hsucc hsl1 hwk hS1
      by_cases hid0 : S1.L.getD k 0 = 0
      · have hat : atF S1.L (k : Int) = none := by unfold atF; rw [if_pos (by omega), Int.toNat_natCast]; rw [List.getD_eq_getElem?_getD] at hid0; cases e : S1.L[k]? with | none => rfl | some x => rw [e] at hid0; simp only [Option.getD_some] at hid0; simp [hid0]
        rw [hat] at HAT
        clear hat
        go_wp2_with fail
        refine HAT.out.mono ?_
        clear HAT
        rintro e w' ⟨rfl, rfl⟩
        go_wp2_with fail
        go_roundw
        case rel => exact ⟨k + 1, m, c, ao, Ok, by omega, by go_num, rfl, (by unfold RowKit.Hid; rw [HSU.out]; unfold CS.wakeA; rw [if_pos hid0]; exact HS.out)⟩
        case measure => simp [intOf]; omega
      · have hg := getD_ne hid0
        obtain ⟨id, hid⟩ : ∃ x, S1.L.getD k 0 = x := ⟨_, rfl⟩
        rw [hid] at hg hid0
        have hat : atF S1.L (k : Int) = some (id : Int) := by unfold atF; rw [if_pos (by omega), Int.toNat_natCast, hg]; show (if id = 0 then none else _) = _; rw [if_neg hid0]
        rw [hat] at HAT
        have hm := List.mem_of_getElem? hg
        have HM := Lib.hid hm
        have HID := Lib.hid hid
        have HQ := Lib.hid (HK6.out.1.q id hm hid0)
        have hle := HK6.out.1.sl.le id hm
        have htl := HK6.out.1.tl
        have hidw : wf64 (id : Int) := wf64_of (by omega) (by omega)
        have hlk := MapF.look (CWx.qm HS.out.cw (fun q => q)).1 codP Tryz.underlying114 none (qzero wr) hidw
        have hqf : qF A.q S1.L (id : Int) = some (A.q id) := by unfold qF; rw [if_pos ⟨by omega, by rw [Int.toNat_natCast]; exact hm⟩, Int.toNat_natCast]
        rw [hqf] at hlk
        have hlk2 : (Instr.lookup 114 (.map (some A.qm)) (.int .i64 (id : Int)) false).run Tryz.prog wr = .ok (.pointer (some ⟨A.q id, 0, none⟩)) wr := hlk
        have q5 : wr.cell? ⟨A.q id, 5, none⟩ = some (.pointer (some ⟨A.m id, 0, none⟩)) := (CWx.qb HS.out.cw id hm hid0 (fun q => q)).1.cell 5
        have hwt := wants_any 0 (A.m id) _ _ _ wr (CWx.mg HS.out.cw id hm hid0 (fun q => q)).mg
        obtain ⟨ws, hws⟩ : ∃ l, S1.wl id = l := ⟨_, rfl⟩
        rw [show wantsP (S1.Q id).n (S1.Q id).S (S1.Q id).T = ws from hws] at hwt
        have hwl := wl_len S1 id
        rw [hws, HQ.out.len] at hwl
        obtain ⟨n, hn⟩ : ∃ n, ws.length = n := ⟨_, rfl⟩
        rw [hn] at hwt hwl
        have HWT := Lib.hid hwt
        have HWS := Lib.hid hws
        have HN := Lib.hid hn
        have hn6 : n ≤ 6 := by omega
        clear hg hid hat hm hle htl hidw hlk hqf hwt hws hwl hn
        go_wp2_with fail
        refine HAT.out.mono ?_
        clear HAT
        rintro e w' ⟨rfl, rfl⟩
        go_wp2_with fail
        clear t15 t17 hlk2 q5
        refine HWT.out.mono ?_
        clear HWT
        rintro e w1 ⟨ai, ci, rfl, hown, hb1⟩
        have HS1 := Lib.hid (HS.out.below hb1 (AgO.upd wr.heap.size 2 Ok))
        have HRW := Lib.hid (show Row (Ok.upd wr.heap.size 2) 2 w1 3 1 (.slice ai n ci) n (ws.map (Value.int .i64)) from ⟨own0 hown (Nat.zero_le _), fun q hq => Own.upd_ge (own_ge hown q hq)⟩)
        clear HS hown hb1
        go_wp2_with fail
        go_loopw [5, 45] (WiR O A p S1 L1 id draw ws ai n ci w) (fun _ v _ => n - (intOf v).toNat)
        case atStart => exact ⟨0, m, c, ao, Ok.upd wr.heap.size 2, Nat.zero_le _, rfl, rfl, (by unfold RowKit.Hid; rw [List.take_zero, show S1.lookN id draw [] = (S1, []) from rfl, List.append_nil]; exact HS1.out), HRW.out⟩
        case round =>
          clear HS1 HRW
          obtain ⟨j, m2, c2, ao2, O2, hj, rfl, rfl, HS2, HRW⟩ := hrel
          by_cases hlt2 : j < n
          · have e2 : (j : Int) < (n : Int) := by omega
            obtain ⟨si, hsi⟩ : ∃ s, ws[j]? = some s := ⟨ws[j]'(by rw [HN.out]; exact hlt2), List.getElem?_eq_getElem _⟩
            obtain ⟨s, hs, hs6⟩ := wl_mem (S := S1) (id := id) (by rw [HWS.out]; exact List.mem_of_getElem? hsi)
            rw [HQ.out.len] at hs6
            subst hs
            obtain ⟨bi, hbi, _⟩ := ownsRow_some HRW.out.1 (by omega)
            have HRW2 := Lib.hid HRW.out
            rw [hbi] at HRW2
            have cj : wr.cell? ⟨bi, j, none⟩ = some (.int .i64 (s : Nat)) := own_cell HRW2.out.1 (by rw [List.getElem?_map, hsi]; rfl)
            have HSI := Lib.hid hsi
            have hok2 := lookN_ok HK6.out.1 HM.out hid0 draw (by rw [HLK.out.c]; exact HCP2.out) (by omega) (ws.take j)
            have hlk2 := lookN_lk S1 id draw (ws.take j)
            have hll2 := lookN_len S1 id draw (ws.take j)
            have hsn := lookN_snoc S1 id draw (ws.take j) (s : Int)
            rw [← take_snocO hsi] at hsn
            have HLEN := Lib.hid HS2.out.len
            obtain ⟨⟨S2, L2⟩, hS2⟩ : ∃ x, S1.lookN id draw (ws.take j) = x := ⟨_, rfl⟩
            rw [hS2] at hok2 hlk2 hll2 hsn HS2 HLEN
            simp only at hok2 hlk2 hll2 HS2 HLEN
            have HOK2 := Lib.hid hok2
            have HLK2 := Lib.hid hlk2
            have HSN := Lib.hid hsn
            have hq2 := HOK2.out.q id (by rw [HLK2.out.L]; exact HM.out) hid0
            have hsh2 := shOf_ok HOK2.out (by rw [HLK2.out.L]; exact HM.out) hid0 (by omega) s
            have hnow2 := HOK2.out.now
            have hsl2 := hq2.slot4 HOK2.out.sl
            have htk : (ws.take j).length ≤ 6 := by rw [List.length_take]; omega
            have HLL2 := Lib.hid (show L1.length + L2.length = m2 ∧ L1.length ≤ 24 ∧ L2.length ≤ 6 from ⟨by have := HLEN.out; rw [List.length_append] at this; exact this, by have := HK6.out.2; omega, by omega⟩)
            have hcw := cwants_any O2 A p S2 id s draw wr HS2.out.cw (by rw [HLK2.out.L]; exact HM.out) hid0 hs6 HNS.out hq2.sh6 (by rw [HLK2.out.c, HLK.out.c]; exact HCP1.out) (by rw [HLK2.out.c, HLK.out.c]; exact HCP2.out) HOK2.out.t hnow2.1 (by omega) (by omega) hsh2.1.1 (by omega) hsh2.2.1 (by omega)
            have hlkl := look_len S2 id s draw
            obtain ⟨⟨S3, L3⟩, hS3⟩ : ∃ x, S2.look id s draw = x := ⟨_, rfl⟩
            rw [hS3] at hcw hlkl
            simp only at hlkl
            have HCW := Lib.hid hcw
            have HNX := Lib.hid (show S1.lookN id draw (ws.take (j + 1)) = (S3, L2 ++ L3) from by rw [HSN.out]; unfold CS.lookA; simp only [Int.toNat_natCast]; rw [hS3])
            have HL3 := Lib.hid hlkl
            subst hbi
            clear hsi hok2 hlk2 hll2 hsn hS2 hq2 hsh2 hnow2 hsl2 htk hcw hlkl hS3 HSN HLEN
            go_wp2_with fail
            clear cj
            refine HCW.out.mono ?_
            clear HCW
            rintro e w3 ⟨v3, O3, rfl, hc3, hl3, ha3, hf3⟩
            obtain ⟨a3, c3, rfl, hr3, htg3⟩ := hl3
            have HS3 := Lib.hid (HS2.out.step hc3 ha3 hf3)
            have HRW3 := Lib.hid (HRW2.out.frm hf3 (fun b _ ho e => by rw [ho] at e; exact absurd e (by decide)) ha3)
            have HR3 := Lib.hid hr3
            obtain ⟨m3, hm3⟩ : ∃ n, L3.length = n := ⟨_, rfl⟩
            rw [hm3] at HR3 HL3 ⊢
            have HM3 := Lib.hid hm3
            clear hc3 ha3 hf3 hr3 htg3 HS2 HRW HRW2 hm3
            have A1 : m2 + m3 ≤ maxLen := by unfold maxLen; have := HLL2.out; have := HL3.out; omega
            have A2 : (m2 + m3) * 24 ≤ 140737488355328 := by have := HLL2.out; have := HL3.out; omega
            have A3 : w.heap.size ≤ w3.heap.size := HS3.out.out.size
            go_wp2_with (refine wpList_appA rfl (.tmp 49) (.tmp 54) 33 33 rfl w.heap.size 51 i0 (.agg #[.int .i64 0, .nilIface]) 2 24 Tryz.underlying33 HI.out HZ0.out HZ1.out HZ2.out rfl (by decide) ao2 m2 c2 ((L1 ++ L2).flatMap LV.cells) (by kernel_rfl) HS3.out.row (.slice a3 m3 c3) m3 (L3.flatMap LV.cells) (by kernel_rfl) (Src.ofRdE (enc := LV.cells) (size := 2) Tryz.underlying33 (fun _ => rfl) letOne (ownsRow_rdE (enc := LV.cells) (fun _ => rfl) HM3.out HR3.out)) A1 A2 A3 ?_; intro a4 c4 w4 hown hg hat)
            have HS4 := Lib.hid (HS3.out.app HM3.out hg hown hat)
            have HRW4 := Lib.hid (HRW3.out.frm (Frm.grown hg (S := fun b => O3 b = 0) (fun g hg => HS3.out.tag g hg)) (fun b _ ho e => by rw [ho] at e; exact absurd e (by decide)) (AgO.upd w3.heap.size 0 O3))
            go_roundw
            case rel => exact ⟨j + 1, m2 + m3, c4, a4, O3.upd w3.heap.size 0, by omega, by go_num, rfl, (by unfold RowKit.Hid; rw [HNX.out]; have q := HS4.out; rw [List.append_assoc] at q; exact q), HRW4.out⟩
            case measure => simp [intOf]; omega
          · obtain rfl : j = n := by omega
            clear hlt2 hj
            go_wp2_with fail
            go_roundw
            case rel => exact ⟨k + 1, m2, c2, ao2, O2, by omega, by go_num, rfl, (by unfold RowKit.Hid; rw [HSU.out]; unfold CS.wakeA; simp only [HID.out]; rw [if_neg hid0, HWS.out]; have q := HS2.out; rw [List.take_of_length_le (by rw [HN.out]; exact Nat.le_refl _)] at q; exact q)⟩
            case measure => simp [intOf]; omega
    · obtain rfl : k = sl := by omega
      clear hlt hk
      go_wp2_with fail
      go_ret
      have hsl := HSL.out
      have hR : S.wake draw = S.wakeN draw k := by unfold CS.wake; rw [hsl, Int.toNat_natCast]
      refine ⟨.slice ao m c, Ok, rfl, ?_, ?_, HS.out.ag, HS.out.out⟩ <;> rw [hR]
      · exact HS.out.cw
      · exact HS.out.let_
end
end Go.Proofs.YtinkbgeckjbnbaaGreat
namespace Go.Proofs.YtinkbgeckjbnbaaGreat
section
open Go.RowKit
set_option linter.unusedVariables false

set_option maxRecDepth 100000 in
theorem RdE.box {w w' : World} {O : Own} {a : Option Addr} {n c : Nat} {l : List KeyL} (h : RdE KeyL.cells 2 w a n c l) (hf : COut O w w') (ho : ∀ b o sp, a = some ⟨b, o, sp⟩ → O b % 8 ≠ 1) : RdE KeyL.cells 2 w' a n c l := h.frm hf ho
def ReE (O : Own) (A : CA) (p : Nat) (R : CS × List LV) (w : World) (e : Ending) (w' : World) : Prop := ∃ v O' A', e = .returned v ∧ CW w' O' A' p R.1 ∧ A'.cps = A.cps ∧ LetAt O' w' w.heap.size v R.2 ∧ AgO w.heap.size O O' ∧ COut O w w'
set_option maxRecDepth 100000 in
theorem ReE.none {O O' : Own} {A : CA} {p : Nat} {S : CS} {w w' : World} (hc : CW w' O' A p S) (ha : AgO w.heap.size O O') (hf : COut O w w') : ReE O A p (S, []) w (.returned (.slice none 0 0)) w' := ⟨_, O', A, rfl, hc, rfl, LetAt.nil _ _ _, ha, hf⟩
set_option maxRecDepth 100000 in
theorem setQ_at (S : CS) (id : Nat) (y : QS) : (S.setQ id y).Q id = y := by show (if id = id then _ else _) = _; rw [if_pos rfl]
end
end Go.Proofs.YtinkbgeckjbnbaaGreat
namespace Go.Proofs.YtinkbgeckjbnbaaGreat
section
open Go.RowKit
set_option linter.unusedVariables false

/-- the configuration as the coordinator keeps it: no words, cuts of its own -/
def CfgM.own (c : CfgM) (ac : Option Addr) (cc : Nat) : CfgM := { c with aw := none, nw := 0, cw := 0, words := [], ac := ac, cc := cc }
set_option maxRecDepth 100000 in
theorem own_may {c : CfgM} {ac : Option Addr} {cc : Nat} (h : mayC c = true) : mayC (c.own ac cc) = true := by
  unfold mayC at h ⊢
  simp only [Bool.and_eq_true, decide_eq_true_eq] at h ⊢
  exact ⟨⟨by show goodT [] = 0; decide, h.1.2⟩, h.2⟩
set_option maxRecDepth 100000 in
theorem own_shards {c : CfgM} {ac : Option Addr} {cc : Nat} (h : mayC c = true) : shardsC (c.own ac cc) = shardsC c := by
  rw [shardsC_may h, shardsC_may (own_may h)]; rfl
set_option maxRecDepth 100000 in
theorem own_copies {c : CfgM} {ac : Option Addr} {cc : Nat} (h : mayC c = true) (s : Nat) (hs : (s : Int) < shardsC c) : copiesC (c.own ac cc) (s : Int) = copN c s := by
  rw [copiesC_yes (by unfold inB; rw [own_shards h]; simp; omega)]; rfl
def CS.init (c : CfgM) : CS := ⟨c, 0, Tab.new c.wk c.le, List.replicate c.sl.toNat 0, [], fun _ => ⟨0, ⟨#[]⟩, 0, 0, [], [], []⟩, []⟩
def cellsN (c : CfgM) (a b : Value) (le sl ti qm : Value) : List Value := [.slice c.aw c.nw c.cw, .slice c.ac c.nc c.cc, .int .i64 c.wk, .int .i64 c.cp, .int .i64 c.sl, .int .i64 c.ba, .int .i64 c.le, .int .i64 c.he, .int .i64 c.fi, .int .i64 c.ca, .int .i64 c.ji, .int .i64 c.ne, a, .int .i64 0, le, sl, ti, qm, b]
structure NwS (B : Nat) (wr : World) (c : CfgM) (p qm : Nat) (cpa : Option Addr) (cpc : Nat) (cps : List (Option Addr × Nat)) : Prop where
  blk : Blk wr p 120 (cellsN c (.slice cpa cps.length cpc) (.slice none 0 0) (.pointer none) (.pointer none) (.pointer none) (.map (some qm)))
  row : wr.ownsRow B 26 1 (.slice cpa cps.length cpc) cps.length (cps.map (fun x => .slice x.1 c.cp.toNat x.2))
  each : ∀ (s : Nat) x, cps[s]? = some x → wr.ownsRow B 3 1 (.slice x.1 c.cp.toNat x.2) c.cp.toNat (ints (copN c s))
set_option maxRecDepth 100000 in
theorem NwS.frm {B : Nat} {F : Nat → Prop} {wr w2 : World} {c : CfgM} {p qm : Nat} {cpa : Option Addr} {cpc : Nat} {cps : List (Option Addr × Nat)} (h : NwS B wr c p qm cpa cpc cps) (hf : Frm F wr w2) (h1 : ¬ F p) (h2 : ∀ k, B ≤ k → k < wr.heap.size → ¬ F k) : NwS B w2 c p qm cpa cpc cps :=
  ⟨h.blk.frm hf h1, ownsRow_frm h.row hf (fun k hk => h2 k (own_ge h.row k hk) (own_lt h.row k hk)), fun s x hx => ownsRow_frm (h.each s x hx) hf (fun k hk => h2 k (own_ge (h.each s x hx) k hk) (own_lt (h.each s x hx) k hk))⟩
set_option maxRecDepth 100000 in
theorem NwS.below {B : Nat} {wr w2 : World} {c : CfgM} {p qm : Nat} {cpa : Option Addr} {cpc : Nat} {cps : List (Option Addr × Nat)} (h : NwS B wr c p qm cpa cpc cps) (hb : Below wr.heap.size wr w2) : NwS B w2 c p qm cpa cpc cps :=
  h.frm (F := fun _ => False) (Frm.below hb) (fun q => q) (fun _ _ _ q => q)
set_option maxRecDepth 100000 in
/-- a row is added -/
theorem NwS.add {B : Nat} {wr w2 : World} {c : CfgM} {p qm : Nat} {cpa : Option Addr} {cpc : Nat} {cps : List (Option Addr × Nat)} (h : NwS B wr c p qm cpa cpc cps) (hpB : p < B) {a : Option Addr} {cap : Nat} (hr : wr.ownsRow B 3 1 (.slice a c.cp.toNat cap) c.cp.toNat (ints (copN c cps.length)))
    {a' : Option Addr} {c' : Nat} (hg : wr.grownBy w2 (Value.ownBlock (.slice cpa cps.length cpc))) (hrow : w2.ownsRow B 26 1 (.slice a' (cps.length + 1) c') (cps.length + 1) (cps.map (fun x => .slice x.1 c.cp.toNat x.2) ++ [.slice a c.cp.toNat cap])) :
    NwS B (w2.setCell ⟨p, 12, none⟩ (.slice a' (cps.length + 1) c')) c p qm a' c' (cps ++ [(a, cap)]) := by
  have hl : (cps ++ [(a, cap)]).length = cps.length + 1 := by simp
  have hf : Frm (fun b => (Value.slice cpa cps.length cpc).ownBlock = some b) wr w2 := Frm.grown hg (fun g e => e)
  have hp2 : Blk w2 p 120 _ := h.blk.frm hf (fun e => absurd (own_ge h.row p e) (by omega))
  have hs : Frm (fun b => b = p) w2 (w2.setCell ⟨p, 12, none⟩ (.slice a' (cps.length + 1) c')) := (Frm.refl _ w2).setCell _ _ (.inl rfl)
  have each2 : ∀ {v : Value} {n : Nat} {xs : List Value}, wr.ownsRow B 3 1 v n xs → (w2.setCell ⟨p, 12, none⟩ (.slice a' (cps.length + 1) c')).ownsRow B 3 1 v n xs := fun {v n xs} hv => by
    refine ownsRow_frm (ownsRow_frm hv hf (fun k hk e => ownsRow_ne2 hv h.row (by decide) k hk e)) hs (fun k hk e => ?_)
    have := own_ge hv k hk
    subst e; omega
  refine ⟨?_, ?_, fun s x hx => ?_⟩
  · rw [hl]
    have q := hp2.set 12 (.slice a' (cps.length + 1) c')
    exact q
  · rw [hl, List.map_append]
    exact ownsRow_frm hrow hs (fun k hk e => by have := own_ge hrow k hk; subst e; omega)
  · by_cases hlt : s < cps.length
    · rw [List.getElem?_append_left hlt] at hx
      exact each2 (h.each s x hx)
    · rw [List.getElem?_append_right (by omega)] at hx
      have e0 : s - cps.length = 0 := by
        cases e : s - cps.length with
        | zero => rfl
        | succ n => rw [e] at hx; simp at hx
      rw [e0] at hx
      simp only [List.getElem?_cons_zero, Option.some.injEq] at hx
      subst hx
      rw [show s = cps.length from by omega]
      exact each2 hr
set_option maxRecDepth 100000 in
theorem NeF {B p : Nat} {w6 W8 w9 : World} {v x : Value} {n : Nat} {xs : List Value} (hf : Frm (fun b => b = p) w6 W8) (hB : w6.heap.size = B) (hr : W8.ownsRow B 26 1 v n xs) (hg : W8.grownBy w9 v.ownBlock) : Frm (fun b => b = p) w6 (w9.setCell ⟨p, 12, none⟩ x) := by
  have h9 : Frm (fun b => b = p) w6 w9 := ⟨hg.os.trans hf.os, hg.tape.trans hf.tape, hg.output.trans hf.output, Nat.le_trans hf.size hg.size, fun i hi hn => (hg.block i (Nat.lt_of_lt_of_le hi hf.size) (fun e => by have := own_ge hr i e.symm; omega)).trans (hf.block i hi hn)⟩
  exact h9.setCell _ _ (.inl rfl)
set_option maxRecDepth 100000 in
theorem keptB {B p : Nat} {W8 w9 : World} {v : Value} {n : Nat} {xs cs : List Value} {T : TypeId} (h : Blk W8 p T cs) (hp : p < B) (hr : W8.ownsRow B 26 1 v n xs) (hg : W8.grownBy w9 v.ownBlock) : Blk w9 p T cs :=
  h.kept hg (fun e => by have := own_ge hr p e.symm; omega)
/-- whose a new coordinator's blocks are -/
def ownNew (O : Own) (n0 qm lz sz tz : Nat) : Own := fun b => if b < n0 then O b else if b < qm then ct 1 else if b = qm then ct 5 else if b = qm + 1 then ct 0 else if b < lz then ct 1 else if b < sz then ct 2 else if b < tz then ct 3 else ct 4
section
variable {O : Own} {n0 qm lz sz tz b : Nat}
set_option maxRecDepth 100000 in
theorem own0_lt (h : b < n0) : ownNew O n0 qm lz sz tz b = O b := by unfold ownNew; rw [if_pos h]
set_option maxRecDepth 100000 in
theorem own1_a (h : n0 ≤ b) (h2 : b < qm) : ownNew O n0 qm lz sz tz b = ct 1 := by unfold ownNew; rw [if_neg (by omega), if_pos h2]
set_option maxRecDepth 100000 in
theorem own5 (h : n0 ≤ qm) : ownNew O n0 qm lz sz tz qm = ct 5 := by unfold ownNew; rw [if_neg (by omega), if_neg (by omega), if_pos rfl]
set_option maxRecDepth 100000 in
theorem own0_p (h : n0 ≤ qm) : ownNew O n0 qm lz sz tz (qm + 1) = ct 0 := by unfold ownNew; rw [if_neg (by omega), if_neg (by omega), if_neg (by omega), if_pos rfl]
set_option maxRecDepth 100000 in
theorem own1_b (h : n0 ≤ qm) (h1 : qm + 2 ≤ b) (h2 : b < lz) : ownNew O n0 qm lz sz tz b = ct 1 := by unfold ownNew; rw [if_neg (by omega), if_neg (by omega), if_neg (by omega), if_neg (by omega), if_pos h2]
set_option maxRecDepth 100000 in
theorem own2 (h : n0 ≤ qm) (h1 : qm + 2 ≤ b) (h2 : lz ≤ b) (h3 : b < sz) : ownNew O n0 qm lz sz tz b = ct 2 := by unfold ownNew; rw [if_neg (by omega), if_neg (by omega), if_neg (by omega), if_neg (by omega), if_neg (by omega), if_pos h3]
set_option maxRecDepth 100000 in
theorem own3 (h : n0 ≤ qm) (h1 : qm + 2 ≤ b) (h2 : lz ≤ b) (h3 : sz ≤ b) (h4 : b < tz) : ownNew O n0 qm lz sz tz b = ct 3 := by unfold ownNew; rw [if_neg (by omega), if_neg (by omega), if_neg (by omega), if_neg (by omega), if_neg (by omega), if_neg (by omega), if_pos h4]
set_option maxRecDepth 100000 in
theorem own4 (h : n0 ≤ qm) (h1 : qm + 2 ≤ b) (h2 : lz ≤ b) (h3 : sz ≤ b) (h4 : tz ≤ b) : ownNew O n0 qm lz sz tz b = ct 4 := by unfold ownNew; rw [if_neg (by omega), if_neg (by omega), if_neg (by omega), if_neg (by omega), if_neg (by omega), if_neg (by omega), if_neg (by omega)]
end
def NeR (B : Nat) (wl : World) (c : CfgM) (p qm ns : Nat) (v : Value) (wr : World) : Prop := ∃ (k : Nat) (cpa : Option Addr) (cpc : Nat) (cps : List (Option Addr × Nat)), k ≤ ns ∧ v = .int .i64 k ∧ cps.length = k ∧ RowKit.Hid (NwS B wr c p qm cpa cpc cps) ∧ RowKit.Hid (Frm (fun b => b = p) wl wr)
def NewE (O : Own) (c : CfgM) (w : World) (e : Ending) (w' : World) : Prop := ∃ p ac cc A O', e = .returned (.tuple #[.pointer (some ⟨p, 0, none⟩), .int .i64 0]) ∧ CW w' O' A p (CS.init (c.own ac cc)) ∧ (A.cps.length : Int) = shardsC c ∧ AgO w.heap.size O O' ∧ Below w.heap.size w w'
set_option maxRecDepth 100000 in
theorem info_ints : (Tryz.prog.info? 26).map (fun i => (i.zero, i.size, i.bytes)) = some (some (.slice none 0 0), 1, 24) := by kernel_rfl
set_option maxRecDepth 100000 in
theorem cw_init {w' : World} {O : Own} {c : CfgM} {A : CA} {p : Nat} (hp : BlkO O (ct 0) w' p 120 ((CS.init c).cells A)) (hi : Imm O w' A c) (hle : BlkO O (ct 2) w' A.le 217 (Tab.new c.wk c.le).cells) (hsl : SlO O (ct 3) w' A.sl A.sf A.sa (List.replicate c.sl.toNat 0) 0) (hti : TLO O (ct 4) w' A.ti []) (hqm : MapO O (ct 5) w' A.qm 0 0 (fun _ => none)) (hta : A.ta = none) (htc : A.tc = 0) : CW w' O A p (CS.init c) := by
  have hno : ∀ id ∈ (CS.init c).L, id ≠ 0 → False := fun id hm h0 => h0 (List.eq_of_mem_replicate hm)
  refine ⟨fun _ => hp, fun _ => hi, fun _ => hle, fun _ => hsl, fun _ => hti, fun _ => ?_, fun _ => ?_, fun id hm h0 => (hno id hm h0).elim, fun id hm h0 => (hno id hm h0).elim, fun i t ht => by simp [CS.init] at ht⟩
  · have e1 : cntS (CS.init c).L = 0 := by
      show List.countP _ (List.replicate _ 0) = 0
      rw [List.countP_replicate]; rfl
    have e2 : qF A.q (CS.init c).L = fun _ => none := by
      funext k
      unfold qF
      rw [if_neg (fun h => hno k.toNat h.2 (by omega))]
    rw [e1, e2]; exact hqm
  · show Row O (ct 6) w' _ 7 (.slice A.ta 0 A.tc) 0 []
    rw [hta, htc]; exact Row.nil O (ct 6) w' _ 7
set_option maxRecDepth 100000 in
theorem rdT_nil (V : World) : RdT V none 0 0 [] := ⟨rfl, Nat.le_refl _, Nat.zero_le _, fun _ => rfl, fun i hi => absurd hi (Nat.not_lt_zero _)⟩
set_option maxRecDepth 100000 in
theorem le_of {c : CfgM} (h : mayC c = true) : 1 ≤ c.le ∧ c.le ≤ 1000 := by
  unfold mayC timesC inB at h
  simp only [Bool.and_eq_true, decide_eq_true_eq] at h
  omega
set_option linter.unusedSimpArgs false in
set_option maxRecDepth 100000 in
set_option maxHeartbeats 8000000 in
theorem cnew_yes (O : Own) (c : CfgM) (w : World) (h : CfgOK w c) (hm : mayC c = true) :
    Calls Tryz.prog 15 #[c.val] w (NewE O c w) := by
  obtain ⟨i0, hi, hz0, hz1, hz2⟩ := info_parts info_ints
  have HI := Lib.hid hi
  have HZ0 := Lib.hid hz0
  have HZ1 := Lib.hid hz1
  have HZ2 := Lib.hid hz2
  clear hi hz0 hz1 hz2
  have hmk := fun V => run_makeMap (P := Tryz.prog) 114 V
  have HM := Lib.hid hm
  have HMO := Lib.hid (may_of hm)
  have HLE := Lib.hid (le_of hm)
  obtain ⟨W, hW⟩ : ∃ W, w.alloc (.cells #[.slice c.aw c.nw c.cw, .slice c.ac c.nc c.cc, .int .i64 c.wk, .int .i64 c.cp, .int .i64 c.sl, .int .i64 c.ba, .int .i64 c.le, .int .i64 c.he, .int .i64 c.fi, .int .i64 c.ca, .int .i64 c.ji, .int .i64 c.ne] 25) = W := ⟨_, rfl⟩
  have hbl : Below w.heap.size w W := by rw [← hW]; exact (Below.refl _ w).alloc (Nat.le_refl _) _
  have hx : Blk W w.heap.size 25 [.slice c.aw c.nw c.cw, .slice c.ac c.nc c.cc, .int .i64 c.wk, .int .i64 c.cp, .int .i64 c.sl, .int .i64 c.ba, .int .i64 c.le, .int .i64 c.he, .int .i64 c.fi, .int .i64 c.ca, .int .i64 c.ji, .int .i64 c.ne] := by rw [← hW]; exact heap_alloc_new w _
  have k0 : W.cell? ⟨w.heap.size, 0, none⟩ = some (.slice c.aw c.nw c.cw) := hx.cell 0
  have k1 : W.cell? ⟨w.heap.size, 1, none⟩ = some (.slice c.ac c.nc c.cc) := hx.cell 1
  have k2 : W.cell? ⟨w.heap.size, 2, none⟩ = some (.int .i64 c.wk) := hx.cell 2
  have k3 : W.cell? ⟨w.heap.size, 3, none⟩ = some (.int .i64 c.cp) := hx.cell 3
  have k4 : W.cell? ⟨w.heap.size, 4, none⟩ = some (.int .i64 c.sl) := hx.cell 4
  have k5 : W.cell? ⟨w.heap.size, 5, none⟩ = some (.int .i64 c.ba) := hx.cell 5
  have k6 : W.cell? ⟨w.heap.size, 6, none⟩ = some (.int .i64 c.le) := hx.cell 6
  have k7 : W.cell? ⟨w.heap.size, 7, none⟩ = some (.int .i64 c.he) := hx.cell 7
  have k8 : W.cell? ⟨w.heap.size, 8, none⟩ = some (.int .i64 c.fi) := hx.cell 8
  have k9 : W.cell? ⟨w.heap.size, 9, none⟩ = some (.int .i64 c.ca) := hx.cell 9
  have k10 : W.cell? ⟨w.heap.size, 10, none⟩ = some (.int .i64 c.ji) := hx.cell 10
  have k11 : W.cell? ⟨w.heap.size, 11, none⟩ = some (.int .i64 c.ne) := hx.cell 11
  have hmy := may_any c W (h.below hbl rfl)
  rw [hm] at hmy
  unfold CfgM.val at hmy ⊢
  have HMY := Lib.hid hmy
  have HB := Lib.hid hbl
  have HX := Lib.hid hx
  have HCF := Lib.hid h
  clear hmy hbl hx h
  go_enter Tryz.func15, Tryz.ntmps15
  go_wp2_with (rw [hW])
  clear hW k0 k1 k2 k3 k4 k5 k6 k7 k8 k9 k10 k11
  refine HMY.out.mono ?_
  clear HMY
  rintro e w2 ⟨rfl, hb2⟩
  have HX2 := Lib.hid (HX.out.below hb2 HX.out.lt)
  have HB2 := Lib.hid (HB.out.trans (hb2.mono HB.out.size))
  clear hb2 hm
  have k1 : w2.cell? ⟨w.heap.size, 1, none⟩ = some (.slice c.ac c.nc c.cc) := HX2.out.cell 1
  have hck := HCF.out.below HB2.out rfl
  have hnc : c.nc ≤ 1000 := by have := hck.rk.1; have := HMO.out.1; omega
  have HCK := Lib.hid (cloneK_any w2 c.ac c.nc c.cc c.cuts hck.rk hnc)
  clear hck hnc
  go_wp2_with fail
  clear k1
  refine HCK.out.mono ?_
  clear HCK
  rintro e w3 ⟨ac, cc, rfl, hown3, hb3⟩
  have HX3 := Lib.hid (HX2.out.below hb3 HX2.out.lt)
  have HB3 := Lib.hid (HB2.out.trans (hb3.mono HB2.out.size))
  have HO3 := Lib.hid hown3
  have HS23 := Lib.hid hb3.size
  clear hown3 hb3
  have c0 : w3.cell? ⟨w.heap.size, 0, none⟩ = some (.slice c.aw c.nw c.cw) := HX3.out.cell 0
  have c1 : w3.cell? ⟨w.heap.size, 1, none⟩ = some (.slice c.ac c.nc c.cc) := HX3.out.cell 1
  have fz : ∀ o, w3.frozen? ⟨w.heap.size, o, none⟩ = false := fun o => fz_of (o := o) HX3.out
  obtain ⟨w4, hw4⟩ : ∃ V, (w3.setCell ⟨w.heap.size, 0, none⟩ (.slice none 0 0)).setCell ⟨w.heap.size, 1, none⟩ (.slice ac c.nc cc) = V := ⟨_, rfl⟩
  have hf4 : Frm (fun b => b = w.heap.size) w3 w4 := by rw [← hw4]; exact ((Frm.refl (fun b => b = w.heap.size) w3).setCell ⟨w.heap.size, 0, none⟩ _ (.inl rfl)).setCell ⟨w.heap.size, 1, none⟩ _ (.inl rfl)
  have HX4 := Lib.hid (show Blk w4 w.heap.size 25 [.slice none 0 0, .slice ac c.nc cc, .int .i64 c.wk, .int .i64 c.cp, .int .i64 c.sl, .int .i64 c.ba, .int .i64 c.le, .int .i64 c.he, .int .i64 c.fi, .int .i64 c.ca, .int .i64 c.ji, .int .i64 c.ne] from by rw [← hw4]; exact (HX3.out.set 0 (.slice none 0 0)).set 1 (.slice ac c.nc cc))
  have HB4 := Lib.hid (show Below w.heap.size w w4 from ⟨hf4.os.trans HB3.out.os, hf4.tape.trans HB3.out.tape, hf4.output.trans HB3.out.output, Nat.le_trans HB3.out.size hf4.size, fun k hk => (hf4.block k (Nat.lt_of_lt_of_le hk HB3.out.size) (by omega)).trans (HB3.out.block k hk)⟩)
  have HLT := Lib.hid HX2.out.lt
  have HO4 := Lib.hid (ownsRow_frm HO3.out hf4 (fun k hk e => by have := own_ge HO3.out k hk; have := HLT.out; omega))
  have HS24 := Lib.hid (Nat.le_trans HS23.out hf4.size)
  clear hf4 HX HX2 HX3 HO3 HB HB2 HB3 HS23
  obtain ⟨C, hC⟩ : ∃ C, c.own ac cc = C := ⟨_, rfl⟩
  have HCC := Lib.hid hC
  have d0 : w4.cell? ⟨w.heap.size, 0, none⟩ = some (.slice none 0 0) := HX4.out.cell 0
  have d1 : w4.cell? ⟨w.heap.size, 1, none⟩ = some (.slice ac c.nc cc) := HX4.out.cell 1
  have d2 : w4.cell? ⟨w.heap.size, 2, none⟩ = some (.int .i64 c.wk) := HX4.out.cell 2
  have d3 : w4.cell? ⟨w.heap.size, 3, none⟩ = some (.int .i64 c.cp) := HX4.out.cell 3
  have d4 : w4.cell? ⟨w.heap.size, 4, none⟩ = some (.int .i64 c.sl) := HX4.out.cell 4
  have d5 : w4.cell? ⟨w.heap.size, 5, none⟩ = some (.int .i64 c.ba) := HX4.out.cell 5
  have d6 : w4.cell? ⟨w.heap.size, 6, none⟩ = some (.int .i64 c.le) := HX4.out.cell 6
  have d7 : w4.cell? ⟨w.heap.size, 7, none⟩ = some (.int .i64 c.he) := HX4.out.cell 7
  have d8 : w4.cell? ⟨w.heap.size, 8, none⟩ = some (.int .i64 c.fi) := HX4.out.cell 8
  have d9 : w4.cell? ⟨w.heap.size, 9, none⟩ = some (.int .i64 c.ca) := HX4.out.cell 9
  have d10 : w4.cell? ⟨w.heap.size, 10, none⟩ = some (.int .i64 c.ji) := HX4.out.cell 10
  have d11 : w4.cell? ⟨w.heap.size, 11, none⟩ = some (.int .i64 c.ne) := HX4.out.cell 11
  obtain ⟨qm, hqm⟩ : ∃ n, w4.heap.size = n := ⟨_, rfl⟩
  have HQM := Lib.hid hqm
  obtain ⟨w5, hw5⟩ : ∃ V, (w4.alloc (.map #[] 0)).alloc (.cells #[.slice none 0 0, .slice ac c.nc cc, .int .i64 c.wk, .int .i64 c.cp, .int .i64 c.sl, .int .i64 c.ba, .int .i64 c.le, .int .i64 c.he, .int .i64 c.fi, .int .i64 c.ca, .int .i64 c.ji, .int .i64 c.ne, .slice none 0 0, .int .i64 0, .pointer none, .pointer none, .pointer none, .map (some qm), .slice none 0 0] 120) = V := ⟨_, rfl⟩
  have hs41 : (w4.alloc (.map #[] 0)).heap.size = qm + 1 := by rw [← hqm]; simp
  have hb5 : Below w4.heap.size w4 w5 := by rw [← hw5]; exact ((Below.refl _ w4).alloc (Nat.le_refl _) _).alloc (by simp) _
  have HP5 := Lib.hid (show Blk w5 (qm + 1) 120 (cellsN C (.slice none 0 0) (.slice none 0 0) (.pointer none) (.pointer none) (.pointer none) (.map (some qm))) from by rw [← hw5, ← hs41, ← hC]; exact heap_alloc_new _ _)
  have HX5 := Lib.hid (HX4.out.below hb5 HX4.out.lt)
  have HO5 := Lib.hid (ownsRow_below HO4.out hb5)
  have HB5 := Lib.hid (HB4.out.trans (hb5.mono HB4.out.size))
  have hm1 : MapF rdP ltP (w4.alloc (.map #[] 0)) qm 0 0 (fun _ => (none : Option (Option Nat))) := by rw [← hqm]; exact MapF.made w4
  have HM5 := Lib.hid (show MapF rdP ltP w5 qm 0 0 (fun _ => (none : Option (Option Nat))) from by rw [← hw5]; exact hm1.frm (S := fun _ => False) (Frm.below ((Below.refl _ _).alloc (Nat.le_refl _) _)) (fun q => q))
  have HS5 := Lib.hid (show w2.heap.size ≤ qm ∧ w5.heap.size = qm + 2 from ⟨by rw [← hqm]; exact HS24.out, by rw [← hw5]; simp [hqm]⟩)
  have HOL := Lib.hid (show ∀ q, (Value.slice ac c.nc cc).ownBlock = some q → q < qm from fun q hq => by rw [← hqm]; exact own_lt HO4.out q hq)
  clear HX4 HO4 HB4 HS24 hm1 hb5 hs41
  have HCO := Lib.hid (fun (V : World) (hV : V.ownsRow w2.heap.size 107 2 (.slice ac c.nc cc) c.nc (c.cuts.flatMap KeyL.cells)) => show CfgOK V C from by rw [← hC]; exact ⟨rdT_nil V, ownsRow_rdE (enc := KeyL.cells) (fun _ => rfl) HCF.out.rk.1 hV, fun x hx => absurd (show x ∈ ([] : List ByteArray) from hx) (List.not_mem_nil), HCF.out.hk⟩)
  have x0 : w5.cell? ⟨w.heap.size, 0, none⟩ = some (.slice none 0 0) := HX5.out.cell 0
  have x1 : w5.cell? ⟨w.heap.size, 1, none⟩ = some (.slice ac c.nc cc) := HX5.out.cell 1
  have x2 : w5.cell? ⟨w.heap.size, 2, none⟩ = some (.int .i64 c.wk) := HX5.out.cell 2
  have x3 : w5.cell? ⟨w.heap.size, 3, none⟩ = some (.int .i64 c.cp) := HX5.out.cell 3
  have x4 : w5.cell? ⟨w.heap.size, 4, none⟩ = some (.int .i64 c.sl) := HX5.out.cell 4
  have x5 : w5.cell? ⟨w.heap.size, 5, none⟩ = some (.int .i64 c.ba) := HX5.out.cell 5
  have x6 : w5.cell? ⟨w.heap.size, 6, none⟩ = some (.int .i64 c.le) := HX5.out.cell 6
  have x7 : w5.cell? ⟨w.heap.size, 7, none⟩ = some (.int .i64 c.he) := HX5.out.cell 7
  have x8 : w5.cell? ⟨w.heap.size, 8, none⟩ = some (.int .i64 c.fi) := HX5.out.cell 8
  have x9 : w5.cell? ⟨w.heap.size, 9, none⟩ = some (.int .i64 c.ca) := HX5.out.cell 9
  have x10 : w5.cell? ⟨w.heap.size, 10, none⟩ = some (.int .i64 c.ji) := HX5.out.cell 10
  have x11 : w5.cell? ⟨w.heap.size, 11, none⟩ = some (.int .i64 c.ne) := HX5.out.cell 11
  have hsh := shards_any C w5 (HCO.out w5 HO5.out)
  obtain ⟨ns, hns⟩ : ∃ n : Nat, shardsC C = (n : Int) := ⟨(shardsC C).toNat, by have := shardsC_bd C; omega⟩
  rw [hns] at hsh
  have HNS := Lib.hid hns
  have hval : C.val = .agg #[.slice none 0 0, .slice ac c.nc cc, .int .i64 c.wk, .int .i64 c.cp, .int .i64 c.sl, .int .i64 c.ba, .int .i64 c.le, .int .i64 c.he, .int .i64 c.fi, .int .i64 c.ca, .int .i64 c.ji, .int .i64 c.ne] := by rw [← hC]; rfl
  rw [hval] at hsh
  have HVAL := Lib.hid hval
  have HSH := Lib.hid hsh
  clear hsh hns hval hC
  have hb6 : (ns : Int) ≤ 6 := by have := shardsC_bd C; rw [HNS.out] at this; exact this.2
  have hns6 : ns ≤ 6 := by omega
  clear hb6
  go_wp2_with (rw [hw4])
  skip
  clear hw4 hw5 c0 c1 fz hqm hmk d0 x0 d1 x1 d2 x2 d3 x3 d4 x4 d5 x5 d6 x6 d7 x7 d8 x8 d9 x9 d10 x10 d11 x11
  refine HSH.out.mono ?_
  clear HSH
  rintro e w6 ⟨rfl, hb6⟩
  have HX6 := Lib.hid (HX5.out.below hb6 HX5.out.lt)
  have HO6 := Lib.hid (ownsRow_below HO5.out hb6)
  have HB6 := Lib.hid (HB5.out.trans (hb6.mono HB5.out.size))
  have HM6 := Lib.hid (HM5.out.frm (S := fun _ => False) (Frm.below hb6) (fun q => q))
  obtain ⟨B, hB⟩ : ∃ n, w6.heap.size = n := ⟨_, rfl⟩
  have HBS := Lib.hid hB
  have HS6 := Lib.hid (show w2.heap.size ≤ qm ∧ qm + 2 ≤ B from ⟨HS5.out.1, by have := hb6.size; have := HS5.out.2; omega⟩)
  have HN6 := Lib.hid (show NwS B w6 C (qm + 1) qm none 0 [] from ⟨HP5.out.below hb6 HP5.out.lt, World.ownsRow_nil _ _ _ _, fun s x hx => by simp at hx⟩)
  clear hb6 hB HP5 HX5 HO5 HB5 HM5 HS5
  go_wp2_with fail
  go_loopw [20] (fun v wr => NeR B w6 C (qm + 1) qm ns v wr) (fun v _ => ns - (intOf v).toNat)
  case atStart => exact ⟨0, none, 0, [], Nat.zero_le _, rfl, rfl, HN6.out, Frm.refl _ _⟩
  case round =>
    clear HN6
    obtain ⟨k, cpa, cpc, cps, hk, rfl, hcl, HN, HF⟩ := hrel
    have HCL := Lib.hid hcl
    by_cases hlt : k < ns
    · have e1 : (k : Int) < (ns : Int) := by omega
      have hne : w.heap.size ≠ qm + 1 := by have := HLT.out; have := HS6.out; omega
      have hfw : Frm (fun b => b = qm + 1) w6 wr.drew := HF.out.drew
      have HX7 := Lib.hid (show Blk wr.drew w.heap.size 25 [.slice none 0 0, .slice ac c.nc cc, .int .i64 c.wk, .int .i64 c.cp, .int .i64 c.sl, .int .i64 c.ba, .int .i64 c.le, .int .i64 c.he, .int .i64 c.fi, .int .i64 c.ca, .int .i64 c.ji, .int .i64 c.ne] from HX6.out.frm hfw hne)
      have HO7 := Lib.hid (show wr.drew.ownsRow w2.heap.size 107 2 (.slice ac c.nc cc) c.nc (c.cuts.flatMap KeyL.cells) from ownsRow_frm HO6.out (show Frm (fun b => b = qm + 1) w6 wr.drew from HF.out.drew) (fun q hq e => by have := HOL.out q hq; omega))
      have HN7 := Lib.hid (show NwS B wr.drew C (qm + 1) qm cpa cpc cps from HN.out.below (below_drewN (Below.refl _ wr) 1))
      have HF7 := Lib.hid (show Frm (fun b => b = qm + 1) w6 wr.drew from HF.out.drew)
      have hpB : qm + 1 < B := by have := HS6.out; omega
      have HPB := Lib.hid hpB
      have HWB := Lib.hid (show w.heap.size < B from by have := HLT.out; have := HS6.out; omega)
      have t12 : wr.drew.cell? ⟨qm + 1, 12, none⟩ = some (.slice cpa k cpc) := by have q : wr.drew.cell? ⟨qm + 1, 12, none⟩ = some (.slice cpa cps.length cpc) := HN7.out.blk.cell 12; rw [HCL.out] at q; exact q
      have hcy : copiesC C (k : Int) = copN C k := by rw [← HCC.out]; exact own_copies HM.out k (by rw [← own_shards (ac := ac) (cc := cc) HM.out, HCC.out, HNS.out]; exact e1)
      have hcpl : (ints (copN C k)).length = C.cp.toNat := by unfold ints copN; simp
      have hco := copies_own C (k : Int) wr.drew (HCO.out _ HO7.out)
      rw [HVAL.out, hcy] at hco
      have HCP := Lib.hid hco
      have HPL := Lib.hid hcpl
      have HBR := Lib.hid (show B ≤ wr.drew.heap.size from by rw [← HBS.out]; exact HF7.out.size)
      have A1 : k + 1 ≤ maxLen := by unfold maxLen; omega
      have A2 : (k + 1) * 24 ≤ 140737488355328 := by omega
      clear hne hfw hcl hcy hcpl hco HN HF hpB
      go_upto_region 8 with fail
      refine wp_region_held_drew (S := (fun w' => w'.cell? ⟨w.heap.size, 0, none⟩ = some (.slice none 0 0) ∧ w'.cell? ⟨w.heap.size, 1, none⟩ = some (.slice ac c.nc cc) ∧ w'.cell? ⟨w.heap.size, 2, none⟩ = some (.int .i64 c.wk) ∧ w'.cell? ⟨w.heap.size, 3, none⟩ = some (.int .i64 c.cp) ∧ w'.cell? ⟨w.heap.size, 4, none⟩ = some (.int .i64 c.sl) ∧ w'.cell? ⟨w.heap.size, 5, none⟩ = some (.int .i64 c.ba) ∧ w'.cell? ⟨w.heap.size, 6, none⟩ = some (.int .i64 c.le) ∧ w'.cell? ⟨w.heap.size, 7, none⟩ = some (.int .i64 c.he) ∧ w'.cell? ⟨w.heap.size, 8, none⟩ = some (.int .i64 c.fi) ∧ w'.cell? ⟨w.heap.size, 9, none⟩ = some (.int .i64 c.ca) ∧ w'.cell? ⟨w.heap.size, 10, none⟩ = some (.int .i64 c.ji) ∧ w'.cell? ⟨w.heap.size, 11, none⟩ = some (.int .i64 c.ne))) (by kernel_rfl) (by first | exact ⟨HX7.out.cell 0, HX7.out.cell 1, HX7.out.cell 2, HX7.out.cell 3, HX7.out.cell 4, HX7.out.cell 5, HX7.out.cell 6, HX7.out.cell 7, HX7.out.cell 8, HX7.out.cell 9, HX7.out.cell 10, HX7.out.cell 11⟩ | exact ⟨HX7b.out.cell 0, HX7b.out.cell 1, HX7b.out.cell 2, HX7b.out.cell 3, HX7b.out.cell 4, HX7b.out.cell 5, HX7b.out.cell 6, HX7b.out.cell 7, HX7b.out.cell 8, HX7b.out.cell 9, HX7b.out.cell 10, HX7b.out.cell 11⟩ | exact ⟨HX8.out.cell 0, HX8.out.cell 1, HX8.out.cell 2, HX8.out.cell 3, HX8.out.cell 4, HX8.out.cell 5, HX8.out.cell 6, HX8.out.cell 7, HX8.out.cell 8, HX8.out.cell 9, HX8.out.cell 10, HX8.out.cell 11⟩ | exact ⟨HX9.out.cell 0, HX9.out.cell 1, HX9.out.cell 2, HX9.out.cell 3, HX9.out.cell 4, HX9.out.cell 5, HX9.out.cell 6, HX9.out.cell 7, HX9.out.cell 8, HX9.out.cell 9, HX9.out.cell 10, HX9.out.cell 11⟩ | exact ⟨HX10.out.cell 0, HX10.out.cell 1, HX10.out.cell 2, HX10.out.cell 3, HX10.out.cell 4, HX10.out.cell 5, HX10.out.cell 6, HX10.out.cell 7, HX10.out.cell 8, HX10.out.cell 9, HX10.out.cell 10, HX10.out.cell 11⟩) (fun hHeld => ?_)
      refine takeO 0 (some 23) (v := ?_) rfl rfl (by kernel_rfl) (by kernel_rfl) (by kernel_rfl) (fun _ _ _ h => h) (Or.inl ⟨by rfl, ?_⟩) (by assumption) ?_
      rotate_left 1
      · intro w hSw; (try dsimp only at hSw); go_simp; all_goals with_reducible rfl
      try simp only [Act.put, List.setIfInBounds_toArray, List.set_cons_zero, List.set_cons_succ]
      refine takeO 1 (some 24) (v := ?_) rfl rfl (by kernel_rfl) (by kernel_rfl) (by kernel_rfl) (fun _ _ _ h => h) (Or.inl ⟨by rfl, ?_⟩) (by assumption) ?_
      rotate_left 1
      · intro w hSw; (try dsimp only at hSw); go_simp; all_goals with_reducible rfl
      try simp only [Act.put, List.setIfInBounds_toArray, List.set_cons_zero, List.set_cons_succ]
      refine takeO 2 (some 25) (v := ?_) rfl rfl (by kernel_rfl) (by kernel_rfl) (by kernel_rfl) (fun _ _ _ h => h) (Or.inl ⟨by rfl, ?_⟩) (by assumption) ?_
      rotate_left 1
      · intro w hSw; (try dsimp only at hSw); go_simp; all_goals with_reducible rfl
      try simp only [Act.put, List.setIfInBounds_toArray, List.set_cons_zero, List.set_cons_succ]
      refine takeO 3 (some 26) (v := ?_) rfl rfl (by kernel_rfl) (by kernel_rfl) (by kernel_rfl) (fun _ _ _ h => h) (Or.inl ⟨by rfl, ?_⟩) (by assumption) ?_
      rotate_left 1
      · intro w hSw; (try dsimp only at hSw); go_simp; all_goals with_reducible rfl
      try simp only [Act.put, List.setIfInBounds_toArray, List.set_cons_zero, List.set_cons_succ]
      refine takeO 5 (some 28) (v := ?_) rfl rfl (by kernel_rfl) (by kernel_rfl) (by kernel_rfl) (fun _ _ _ h => h) (Or.inl ⟨by rfl, ?_⟩) (by assumption) ?_
      rotate_left 1
      · intro w hSw; (try dsimp only at hSw); go_simp; all_goals with_reducible rfl
      try simp only [Act.put, List.setIfInBounds_toArray, List.set_cons_zero, List.set_cons_succ]
      refine takeO 6 (some 29) (v := ?_) rfl rfl (by kernel_rfl) (by kernel_rfl) (by kernel_rfl) (fun _ _ _ h => h) (Or.inl ⟨by rfl, ?_⟩) (by assumption) ?_
      rotate_left 1
      · intro w hSw; (try dsimp only at hSw); go_simp; all_goals with_reducible rfl
      try simp only [Act.put, List.setIfInBounds_toArray, List.set_cons_zero, List.set_cons_succ]
      refine wpAnyH_ready (rs := [4, 7]) (by kernel_rfl) (by simp) ?_
      refine AllReadyH.cons rfl (fun K hK => ?_) (AllReadyH.cons rfl (fun K hK => ?_) AllReadyH.nil)
      · go_simp
        go_wp2_with fail
        refine hK.out _ _ (by first | exact ⟨HX7.out.cell 0, HX7.out.cell 1, HX7.out.cell 2, HX7.out.cell 3, HX7.out.cell 4, HX7.out.cell 5, HX7.out.cell 6, HX7.out.cell 7, HX7.out.cell 8, HX7.out.cell 9, HX7.out.cell 10, HX7.out.cell 11⟩ | exact ⟨HX7b.out.cell 0, HX7b.out.cell 1, HX7b.out.cell 2, HX7b.out.cell 3, HX7b.out.cell 4, HX7b.out.cell 5, HX7b.out.cell 6, HX7b.out.cell 7, HX7b.out.cell 8, HX7b.out.cell 9, HX7b.out.cell 10, HX7b.out.cell 11⟩ | exact ⟨HX8.out.cell 0, HX8.out.cell 1, HX8.out.cell 2, HX8.out.cell 3, HX8.out.cell 4, HX8.out.cell 5, HX8.out.cell 6, HX8.out.cell 7, HX8.out.cell 8, HX8.out.cell 9, HX8.out.cell 10, HX8.out.cell 11⟩ | exact ⟨HX9.out.cell 0, HX9.out.cell 1, HX9.out.cell 2, HX9.out.cell 3, HX9.out.cell 4, HX9.out.cell 5, HX9.out.cell 6, HX9.out.cell 7, HX9.out.cell 8, HX9.out.cell 9, HX9.out.cell 10, HX9.out.cell 11⟩ | exact ⟨HX10.out.cell 0, HX10.out.cell 1, HX10.out.cell 2, HX10.out.cell 3, HX10.out.cell 4, HX10.out.cell 5, HX10.out.cell 6, HX10.out.cell 7, HX10.out.cell 8, HX10.out.cell 9, HX10.out.cell 10, HX10.out.cell 11⟩) (fun hHeld => ?_)
        clear hK K
        try simp only [Act.put, List.setIfInBounds_toArray, List.set_cons_zero, List.set_cons_succ]
        refine wpAnyH_ready (rs := [7]) (by kernel_rfl) (by simp) ?_
        refine AllReadyH.cons rfl (fun K hK => ?_) AllReadyH.nil
        · go_simp
          refine HCP.out.mono ?_
          rintro e w7 ⟨a7, n7, c7, rfl, hown7, hb7⟩
          clear HCP
          have HX7b := Lib.hid (HX7.out.below hb7 HX7.out.lt)
          have hn7 := hown7.1
          rw [HPL.out, Nat.mul_one] at hn7
          have HN7b := Lib.hid (HN7.out.below hb7)
          have t12b : w7.cell? ⟨qm + 1, 12, none⟩ = some (.slice cpa k cpc) := (hb7.cell (p := ⟨qm + 1, 12, none⟩) (cell?_lt t12)).trans t12
          have HN7e := Lib.hid hn7
          have HOW := Lib.hid (own0 hown7 HBR.out)
          have HB7 := Lib.hid hb7
          have HX8 := Lib.hid (show Blk (w7.alloc (.cells #[.slice a7 n7 c7] 26)) w.heap.size 25 [.slice none 0 0, .slice ac c.nc cc, .int .i64 c.wk, .int .i64 c.cp, .int .i64 c.sl, .int .i64 c.ba, .int .i64 c.le, .int .i64 c.he, .int .i64 c.fi, .int .i64 c.ca, .int .i64 c.ji, .int .i64 c.ne] from HX7b.out.alloc _)
          have t12c : (w7.alloc (.cells #[.slice a7 n7 c7] 26)).cell? ⟨qm + 1, 12, none⟩ = some (.slice cpa k cpc) := (((Below.refl w7.heap.size w7).alloc (Nat.le_refl _) _).cell (p := ⟨qm + 1, 12, none⟩) (cell?_lt t12b)).trans t12b
          clear hown7 hn7 hb7
          go_wp2_with fail
          refine hK.out _ _ (by first | exact ⟨HX7.out.cell 0, HX7.out.cell 1, HX7.out.cell 2, HX7.out.cell 3, HX7.out.cell 4, HX7.out.cell 5, HX7.out.cell 6, HX7.out.cell 7, HX7.out.cell 8, HX7.out.cell 9, HX7.out.cell 10, HX7.out.cell 11⟩ | exact ⟨HX7b.out.cell 0, HX7b.out.cell 1, HX7b.out.cell 2, HX7b.out.cell 3, HX7b.out.cell 4, HX7b.out.cell 5, HX7b.out.cell 6, HX7b.out.cell 7, HX7b.out.cell 8, HX7b.out.cell 9, HX7b.out.cell 10, HX7b.out.cell 11⟩ | exact ⟨HX8.out.cell 0, HX8.out.cell 1, HX8.out.cell 2, HX8.out.cell 3, HX8.out.cell 4, HX8.out.cell 5, HX8.out.cell 6, HX8.out.cell 7, HX8.out.cell 8, HX8.out.cell 9, HX8.out.cell 10, HX8.out.cell 11⟩ | exact ⟨HX9.out.cell 0, HX9.out.cell 1, HX9.out.cell 2, HX9.out.cell 3, HX9.out.cell 4, HX9.out.cell 5, HX9.out.cell 6, HX9.out.cell 7, HX9.out.cell 8, HX9.out.cell 9, HX9.out.cell 10, HX9.out.cell 11⟩ | exact ⟨HX10.out.cell 0, HX10.out.cell 1, HX10.out.cell 2, HX10.out.cell 3, HX10.out.cell 4, HX10.out.cell 5, HX10.out.cell 6, HX10.out.cell 7, HX10.out.cell 8, HX10.out.cell 9, HX10.out.cell 10, HX10.out.cell 11⟩) (fun hHeld => ?_)
          clear hK K
          try simp only [Act.put, List.setIfInBounds_toArray, List.set_cons_zero, List.set_cons_succ]
          refine wpAnyH_ready (rs := [8]) (by kernel_rfl) (by simp) ?_
          refine AllReadyH.cons rfl (fun K hK => ?_) AllReadyH.nil
          · go_simp
            go_wp2_with fail
            refine hK.out _ _ (by first | exact ⟨HX7.out.cell 0, HX7.out.cell 1, HX7.out.cell 2, HX7.out.cell 3, HX7.out.cell 4, HX7.out.cell 5, HX7.out.cell 6, HX7.out.cell 7, HX7.out.cell 8, HX7.out.cell 9, HX7.out.cell 10, HX7.out.cell 11⟩ | exact ⟨HX7b.out.cell 0, HX7b.out.cell 1, HX7b.out.cell 2, HX7b.out.cell 3, HX7b.out.cell 4, HX7b.out.cell 5, HX7b.out.cell 6, HX7b.out.cell 7, HX7b.out.cell 8, HX7b.out.cell 9, HX7b.out.cell 10, HX7b.out.cell 11⟩ | exact ⟨HX8.out.cell 0, HX8.out.cell 1, HX8.out.cell 2, HX8.out.cell 3, HX8.out.cell 4, HX8.out.cell 5, HX8.out.cell 6, HX8.out.cell 7, HX8.out.cell 8, HX8.out.cell 9, HX8.out.cell 10, HX8.out.cell 11⟩ | exact ⟨HX9.out.cell 0, HX9.out.cell 1, HX9.out.cell 2, HX9.out.cell 3, HX9.out.cell 4, HX9.out.cell 5, HX9.out.cell 6, HX9.out.cell 7, HX9.out.cell 8, HX9.out.cell 9, HX9.out.cell 10, HX9.out.cell 11⟩ | exact ⟨HX10.out.cell 0, HX10.out.cell 1, HX10.out.cell 2, HX10.out.cell 3, HX10.out.cell 4, HX10.out.cell 5, HX10.out.cell 6, HX10.out.cell 7, HX10.out.cell 8, HX10.out.cell 9, HX10.out.cell 10, HX10.out.cell 11⟩) (fun hHeld => ?_)
            clear hK K
            try simp only [Act.put, List.setIfInBounds_toArray, List.set_cons_zero, List.set_cons_succ]
            refine wpAnyH_ready (rs := [9]) (by kernel_rfl) (by simp) ?_
            refine AllReadyH.cons rfl (fun K hK => ?_) AllReadyH.nil
            · have hbA : Below w7.heap.size w7 (w7.alloc (.cells #[.slice a7 n7 c7] 26)) := (Below.refl _ w7).alloc (Nat.le_refl _) _
              have HN8 := Lib.hid (HN7b.out.below hbA)
              have hrw : (w7.alloc (.cells #[.slice a7 n7 c7] 26)).ownsRow B 26 1 (.slice cpa k cpc) k (cps.map (fun x => .slice x.1 C.cp.toNat x.2)) := by have q := HN8.out.row; rw [HCL.out] at q; exact q
              have HRW := Lib.hid hrw
              have HB8 := Lib.hid (show B ≤ (w7.alloc (.cells #[.slice a7 n7 c7] 26)).heap.size from Nat.le_trans HBR.out (Nat.le_trans HB7.out.size hbA.size))
              have HF8 := Lib.hid (show Frm (fun b => b = qm + 1) w6 (w7.alloc (.cells #[.slice a7 n7 c7] 26)) from Frm.trans HF7.out (Frm.trans (Frm.below HB7.out) (Frm.below hbA) (fun i hi hl => hi)) (fun i hi hl => hi))
              have HO8 := Lib.hid (ownsRow_below HOW.out hbA)
              clear hbA hrw
              refine step_app rfl (.tmp 27) (.tmp 31) 115 115 rfl B 26 i0 (.slice none 0 0) 1 24 Tryz.underlying115 HI.out HZ0.out HZ1.out HZ2.out rfl (by decide) cpa k cpc (cps.map (fun x => .slice x.1 C.cp.toNat x.2)) (by kernel_rfl) HRW.out (.slice (some ⟨w7.heap.size, 0, none⟩) 1 1) 1 [.slice a7 n7 c7] (by kernel_rfl) (Src.one' Tryz.underlying115 w7 (.slice a7 n7 c7) 26 rfl) A1 A2 HB8.out ?_
              intro a9 c9 w9 hown9 hg9
              have HP9 := Lib.hid (keptB HN8.out.blk HPB.out HRW.out hg9)
              have HX9 := Lib.hid (keptB HX8.out HWB.out HRW.out hg9)
              have HG9 := Lib.hid hg9
              have HO9 := Lib.hid hown9
              clear hown9 hg9 t12b t12c
              have t12d : w9.cell? ⟨qm + 1, 12, none⟩ = some (.slice cpa cps.length cpc) := HP9.out.cell 12
              have fz9 : w9.frozen? ⟨qm + 1, 12, none⟩ = false := HP9.out.frozen 12
              have HX10 := Lib.hid (show Blk (w9.setCell ⟨qm + 1, 12, none⟩ (.slice a9 (k + 1) c9)) w.heap.size 25 [.slice none 0 0, .slice ac c.nc cc, .int .i64 c.wk, .int .i64 c.cp, .int .i64 c.sl, .int .i64 c.ba, .int .i64 c.le, .int .i64 c.he, .int .i64 c.fi, .int .i64 c.ca, .int .i64 c.ji, .int .i64 c.ne] from HX9.out.frm ((Frm.refl (fun b => b = qm + 1) w9).setCell ⟨qm + 1, 12, none⟩ _ (.inl rfl)) (fun e => by have := HLT.out; have := HS6.out; omega))
              refine hK.out _ _ (by first | exact ⟨HX7.out.cell 0, HX7.out.cell 1, HX7.out.cell 2, HX7.out.cell 3, HX7.out.cell 4, HX7.out.cell 5, HX7.out.cell 6, HX7.out.cell 7, HX7.out.cell 8, HX7.out.cell 9, HX7.out.cell 10, HX7.out.cell 11⟩ | exact ⟨HX7b.out.cell 0, HX7b.out.cell 1, HX7b.out.cell 2, HX7b.out.cell 3, HX7b.out.cell 4, HX7b.out.cell 5, HX7b.out.cell 6, HX7b.out.cell 7, HX7b.out.cell 8, HX7b.out.cell 9, HX7b.out.cell 10, HX7b.out.cell 11⟩ | exact ⟨HX8.out.cell 0, HX8.out.cell 1, HX8.out.cell 2, HX8.out.cell 3, HX8.out.cell 4, HX8.out.cell 5, HX8.out.cell 6, HX8.out.cell 7, HX8.out.cell 8, HX8.out.cell 9, HX8.out.cell 10, HX8.out.cell 11⟩ | exact ⟨HX9.out.cell 0, HX9.out.cell 1, HX9.out.cell 2, HX9.out.cell 3, HX9.out.cell 4, HX9.out.cell 5, HX9.out.cell 6, HX9.out.cell 7, HX9.out.cell 8, HX9.out.cell 9, HX9.out.cell 10, HX9.out.cell 11⟩ | exact ⟨HX10.out.cell 0, HX10.out.cell 1, HX10.out.cell 2, HX10.out.cell 3, HX10.out.cell 4, HX10.out.cell 5, HX10.out.cell 6, HX10.out.cell 7, HX10.out.cell 8, HX10.out.cell 9, HX10.out.cell 10, HX10.out.cell 11⟩) (fun hHeld => ?_)
              clear hK K
              try simp only [Act.put, List.setIfInBounds_toArray, List.set_cons_zero, List.set_cons_succ]
              refine takeO 10 (some 33) (v := ?_) rfl rfl (by kernel_rfl) (by kernel_rfl) (by kernel_rfl) (fun _ _ _ h => h) (Or.inl ⟨by rfl, ?_⟩) (by assumption) ?_
              rotate_left 1
              · intro w hSw; (try dsimp only at hSw); go_simp; all_goals with_reducible rfl
              try simp only [Act.put, List.setIfInBounds_toArray, List.set_cons_zero, List.set_cons_succ]
              refine takeO 11 (some 34) (v := ?_) rfl rfl (by kernel_rfl) (by kernel_rfl) (by kernel_rfl) (fun _ _ _ h => h) (Or.inl ⟨by rfl, ?_⟩) (by assumption) ?_
              rotate_left 1
              · intro w hSw; (try dsimp only at hSw); go_simp; all_goals with_reducible rfl
              try simp only [Act.put, List.setIfInBounds_toArray, List.set_cons_zero, List.set_cons_succ]
              refine wpAnyH_ready (rs := [12]) (by kernel_rfl) (by simp) ?_
              refine AllReadyH.cons rfl (fun K hK => ?_) AllReadyH.nil
              · go_simp
                go_wp2_with fail
                refine hK.out _ _ (by first | exact ⟨HX7.out.cell 0, HX7.out.cell 1, HX7.out.cell 2, HX7.out.cell 3, HX7.out.cell 4, HX7.out.cell 5, HX7.out.cell 6, HX7.out.cell 7, HX7.out.cell 8, HX7.out.cell 9, HX7.out.cell 10, HX7.out.cell 11⟩ | exact ⟨HX7b.out.cell 0, HX7b.out.cell 1, HX7b.out.cell 2, HX7b.out.cell 3, HX7b.out.cell 4, HX7b.out.cell 5, HX7b.out.cell 6, HX7b.out.cell 7, HX7b.out.cell 8, HX7b.out.cell 9, HX7b.out.cell 10, HX7b.out.cell 11⟩ | exact ⟨HX8.out.cell 0, HX8.out.cell 1, HX8.out.cell 2, HX8.out.cell 3, HX8.out.cell 4, HX8.out.cell 5, HX8.out.cell 6, HX8.out.cell 7, HX8.out.cell 8, HX8.out.cell 9, HX8.out.cell 10, HX8.out.cell 11⟩ | exact ⟨HX9.out.cell 0, HX9.out.cell 1, HX9.out.cell 2, HX9.out.cell 3, HX9.out.cell 4, HX9.out.cell 5, HX9.out.cell 6, HX9.out.cell 7, HX9.out.cell 8, HX9.out.cell 9, HX9.out.cell 10, HX9.out.cell 11⟩ | exact ⟨HX10.out.cell 0, HX10.out.cell 1, HX10.out.cell 2, HX10.out.cell 3, HX10.out.cell 4, HX10.out.cell 5, HX10.out.cell 6, HX10.out.cell 7, HX10.out.cell 8, HX10.out.cell 9, HX10.out.cell 10, HX10.out.cell 11⟩) (fun hHeld => ?_)
                clear hK K
                try simp only [Act.put, List.setIfInBounds_toArray, List.set_cons_zero, List.set_cons_succ]
                refine wpAnyH_done (by kernel_rfl) ?_ _
                have HNA := Lib.hid (NwS.add (a := a7) (cap := c7) HN8.out HPB.out (by rw [HCL.out, HN7e.out]; exact HO8.out) (by rw [HCL.out]; exact HG9.out) (by rw [HCL.out, HN7e.out]; have q := HO9.out; rw [HN7e.out] at q; exact q))
                rw [HCL.out] at HNA
                have HFA := Lib.hid (NeF (x := .slice a9 (k + 1) c9) HF8.out HBS.out HRW.out HG9.out)
                clear hHeld t12 t12d fz9
                skip
                go_wp2_with fail
                go_roundw
                case rel => exact ⟨k + 1, a9, c9, cps ++ [(a7, c7)], by omega, by go_num, by rw [List.length_append, HCL.out]; rfl, HNA.out, HFA.out⟩
                case measure => simp [intOf]; omega
      · go_simp
        refine HCP.out.mono ?_
        rintro e w7 ⟨a7, n7, c7, rfl, hown7, hb7⟩
        clear HCP
        have HX7b := Lib.hid (HX7.out.below hb7 HX7.out.lt)
        have hn7 := hown7.1
        rw [HPL.out, Nat.mul_one] at hn7
        have HN7b := Lib.hid (HN7.out.below hb7)
        have t12b : w7.cell? ⟨qm + 1, 12, none⟩ = some (.slice cpa k cpc) := (hb7.cell (p := ⟨qm + 1, 12, none⟩) (cell?_lt t12)).trans t12
        have HN7e := Lib.hid hn7
        have HOW := Lib.hid (own0 hown7 HBR.out)
        have HB7 := Lib.hid hb7
        have HX8 := Lib.hid (show Blk (w7.alloc (.cells #[.slice a7 n7 c7] 26)) w.heap.size 25 [.slice none 0 0, .slice ac c.nc cc, .int .i64 c.wk, .int .i64 c.cp, .int .i64 c.sl, .int .i64 c.ba, .int .i64 c.le, .int .i64 c.he, .int .i64 c.fi, .int .i64 c.ca, .int .i64 c.ji, .int .i64 c.ne] from HX7b.out.alloc _)
        have t12c : (w7.alloc (.cells #[.slice a7 n7 c7] 26)).cell? ⟨qm + 1, 12, none⟩ = some (.slice cpa k cpc) := (((Below.refl w7.heap.size w7).alloc (Nat.le_refl _) _).cell (p := ⟨qm + 1, 12, none⟩) (cell?_lt t12b)).trans t12b
        clear hown7 hn7 hb7
        go_wp2_with fail
        refine hK.out _ _ (by first | exact ⟨HX7.out.cell 0, HX7.out.cell 1, HX7.out.cell 2, HX7.out.cell 3, HX7.out.cell 4, HX7.out.cell 5, HX7.out.cell 6, HX7.out.cell 7, HX7.out.cell 8, HX7.out.cell 9, HX7.out.cell 10, HX7.out.cell 11⟩ | exact ⟨HX7b.out.cell 0, HX7b.out.cell 1, HX7b.out.cell 2, HX7b.out.cell 3, HX7b.out.cell 4, HX7b.out.cell 5, HX7b.out.cell 6, HX7b.out.cell 7, HX7b.out.cell 8, HX7b.out.cell 9, HX7b.out.cell 10, HX7b.out.cell 11⟩ | exact ⟨HX8.out.cell 0, HX8.out.cell 1, HX8.out.cell 2, HX8.out.cell 3, HX8.out.cell 4, HX8.out.cell 5, HX8.out.cell 6, HX8.out.cell 7, HX8.out.cell 8, HX8.out.cell 9, HX8.out.cell 10, HX8.out.cell 11⟩ | exact ⟨HX9.out.cell 0, HX9.out.cell 1, HX9.out.cell 2, HX9.out.cell 3, HX9.out.cell 4, HX9.out.cell 5, HX9.out.cell 6, HX9.out.cell 7, HX9.out.cell 8, HX9.out.cell 9, HX9.out.cell 10, HX9.out.cell 11⟩ | exact ⟨HX10.out.cell 0, HX10.out.cell 1, HX10.out.cell 2, HX10.out.cell 3, HX10.out.cell 4, HX10.out.cell 5, HX10.out.cell 6, HX10.out.cell 7, HX10.out.cell 8, HX10.out.cell 9, HX10.out.cell 10, HX10.out.cell 11⟩) (fun hHeld => ?_)
        clear hK K
        try simp only [Act.put, List.setIfInBounds_toArray, List.set_cons_zero, List.set_cons_succ]
        refine wpAnyH_ready (rs := [4, 8]) (by kernel_rfl) (by simp) ?_
        refine AllReadyH.cons rfl (fun K hK => ?_) (AllReadyH.cons rfl (fun K hK => ?_) AllReadyH.nil)
        · go_simp
          go_wp2_with fail
          refine hK.out _ _ (by first | exact ⟨HX7.out.cell 0, HX7.out.cell 1, HX7.out.cell 2, HX7.out.cell 3, HX7.out.cell 4, HX7.out.cell 5, HX7.out.cell 6, HX7.out.cell 7, HX7.out.cell 8, HX7.out.cell 9, HX7.out.cell 10, HX7.out.cell 11⟩ | exact ⟨HX7b.out.cell 0, HX7b.out.cell 1, HX7b.out.cell 2, HX7b.out.cell 3, HX7b.out.cell 4, HX7b.out.cell 5, HX7b.out.cell 6, HX7b.out.cell 7, HX7b.out.cell 8, HX7b.out.cell 9, HX7b.out.cell 10, HX7b.out.cell 11⟩ | exact ⟨HX8.out.cell 0, HX8.out.cell 1, HX8.out.cell 2, HX8.out.cell 3, HX8.out.cell 4, HX8.out.cell 5, HX8.out.cell 6, HX8.out.cell 7, HX8.out.cell 8, HX8.out.cell 9, HX8.out.cell 10, HX8.out.cell 11⟩ | exact ⟨HX9.out.cell 0, HX9.out.cell 1, HX9.out.cell 2, HX9.out.cell 3, HX9.out.cell 4, HX9.out.cell 5, HX9.out.cell 6, HX9.out.cell 7, HX9.out.cell 8, HX9.out.cell 9, HX9.out.cell 10, HX9.out.cell 11⟩ | exact ⟨HX10.out.cell 0, HX10.out.cell 1, HX10.out.cell 2, HX10.out.cell 3, HX10.out.cell 4, HX10.out.cell 5, HX10.out.cell 6, HX10.out.cell 7, HX10.out.cell 8, HX10.out.cell 9, HX10.out.cell 10, HX10.out.cell 11⟩) (fun hHeld => ?_)
          clear hK K
          try simp only [Act.put, List.setIfInBounds_toArray, List.set_cons_zero, List.set_cons_succ]
          refine wpAnyH_ready (rs := [8]) (by kernel_rfl) (by simp) ?_
          refine AllReadyH.cons rfl (fun K hK => ?_) AllReadyH.nil
          · go_simp
            go_wp2_with fail
            refine hK.out _ _ (by first | exact ⟨HX7.out.cell 0, HX7.out.cell 1, HX7.out.cell 2, HX7.out.cell 3, HX7.out.cell 4, HX7.out.cell 5, HX7.out.cell 6, HX7.out.cell 7, HX7.out.cell 8, HX7.out.cell 9, HX7.out.cell 10, HX7.out.cell 11⟩ | exact ⟨HX7b.out.cell 0, HX7b.out.cell 1, HX7b.out.cell 2, HX7b.out.cell 3, HX7b.out.cell 4, HX7b.out.cell 5, HX7b.out.cell 6, HX7b.out.cell 7, HX7b.out.cell 8, HX7b.out.cell 9, HX7b.out.cell 10, HX7b.out.cell 11⟩ | exact ⟨HX8.out.cell 0, HX8.out.cell 1, HX8.out.cell 2, HX8.out.cell 3, HX8.out.cell 4, HX8.out.cell 5, HX8.out.cell 6, HX8.out.cell 7, HX8.out.cell 8, HX8.out.cell 9, HX8.out.cell 10, HX8.out.cell 11⟩ | exact ⟨HX9.out.cell 0, HX9.out.cell 1, HX9.out.cell 2, HX9.out.cell 3, HX9.out.cell 4, HX9.out.cell 5, HX9.out.cell 6, HX9.out.cell 7, HX9.out.cell 8, HX9.out.cell 9, HX9.out.cell 10, HX9.out.cell 11⟩ | exact ⟨HX10.out.cell 0, HX10.out.cell 1, HX10.out.cell 2, HX10.out.cell 3, HX10.out.cell 4, HX10.out.cell 5, HX10.out.cell 6, HX10.out.cell 7, HX10.out.cell 8, HX10.out.cell 9, HX10.out.cell 10, HX10.out.cell 11⟩) (fun hHeld => ?_)
            clear hK K
            try simp only [Act.put, List.setIfInBounds_toArray, List.set_cons_zero, List.set_cons_succ]
            refine wpAnyH_ready (rs := [9]) (by kernel_rfl) (by simp) ?_
            refine AllReadyH.cons rfl (fun K hK => ?_) AllReadyH.nil
            · have hbA : Below w7.heap.size w7 (w7.alloc (.cells #[.slice a7 n7 c7] 26)) := (Below.refl _ w7).alloc (Nat.le_refl _) _
              have HN8 := Lib.hid (HN7b.out.below hbA)
              have hrw : (w7.alloc (.cells #[.slice a7 n7 c7] 26)).ownsRow B 26 1 (.slice cpa k cpc) k (cps.map (fun x => .slice x.1 C.cp.toNat x.2)) := by have q := HN8.out.row; rw [HCL.out] at q; exact q
              have HRW := Lib.hid hrw
              have HB8 := Lib.hid (show B ≤ (w7.alloc (.cells #[.slice a7 n7 c7] 26)).heap.size from Nat.le_trans HBR.out (Nat.le_trans HB7.out.size hbA.size))
              have HF8 := Lib.hid (show Frm (fun b => b = qm + 1) w6 (w7.alloc (.cells #[.slice a7 n7 c7] 26)) from Frm.trans HF7.out (Frm.trans (Frm.below HB7.out) (Frm.below hbA) (fun i hi hl => hi)) (fun i hi hl => hi))
              have HO8 := Lib.hid (ownsRow_below HOW.out hbA)
              clear hbA hrw
              refine step_app rfl (.tmp 27) (.tmp 31) 115 115 rfl B 26 i0 (.slice none 0 0) 1 24 Tryz.underlying115 HI.out HZ0.out HZ1.out HZ2.out rfl (by decide) cpa k cpc (cps.map (fun x => .slice x.1 C.cp.toNat x.2)) (by kernel_rfl) HRW.out (.slice (some ⟨w7.heap.size, 0, none⟩) 1 1) 1 [.slice a7 n7 c7] (by kernel_rfl) (Src.one' Tryz.underlying115 w7 (.slice a7 n7 c7) 26 rfl) A1 A2 HB8.out ?_
              intro a9 c9 w9 hown9 hg9
              have HP9 := Lib.hid (keptB HN8.out.blk HPB.out HRW.out hg9)
              have HX9 := Lib.hid (keptB HX8.out HWB.out HRW.out hg9)
              have HG9 := Lib.hid hg9
              have HO9 := Lib.hid hown9
              clear hown9 hg9 t12b t12c
              have t12d : w9.cell? ⟨qm + 1, 12, none⟩ = some (.slice cpa cps.length cpc) := HP9.out.cell 12
              have fz9 : w9.frozen? ⟨qm + 1, 12, none⟩ = false := HP9.out.frozen 12
              have HX10 := Lib.hid (show Blk (w9.setCell ⟨qm + 1, 12, none⟩ (.slice a9 (k + 1) c9)) w.heap.size 25 [.slice none 0 0, .slice ac c.nc cc, .int .i64 c.wk, .int .i64 c.cp, .int .i64 c.sl, .int .i64 c.ba, .int .i64 c.le, .int .i64 c.he, .int .i64 c.fi, .int .i64 c.ca, .int .i64 c.ji, .int .i64 c.ne] from HX9.out.frm ((Frm.refl (fun b => b = qm + 1) w9).setCell ⟨qm + 1, 12, none⟩ _ (.inl rfl)) (fun e => by have := HLT.out; have := HS6.out; omega))
              refine hK.out _ _ (by first | exact ⟨HX7.out.cell 0, HX7.out.cell 1, HX7.out.cell 2, HX7.out.cell 3, HX7.out.cell 4, HX7.out.cell 5, HX7.out.cell 6, HX7.out.cell 7, HX7.out.cell 8, HX7.out.cell 9, HX7.out.cell 10, HX7.out.cell 11⟩ | exact ⟨HX7b.out.cell 0, HX7b.out.cell 1, HX7b.out.cell 2, HX7b.out.cell 3, HX7b.out.cell 4, HX7b.out.cell 5, HX7b.out.cell 6, HX7b.out.cell 7, HX7b.out.cell 8, HX7b.out.cell 9, HX7b.out.cell 10, HX7b.out.cell 11⟩ | exact ⟨HX8.out.cell 0, HX8.out.cell 1, HX8.out.cell 2, HX8.out.cell 3, HX8.out.cell 4, HX8.out.cell 5, HX8.out.cell 6, HX8.out.cell 7, HX8.out.cell 8, HX8.out.cell 9, HX8.out.cell 10, HX8.out.cell 11⟩ | exact ⟨HX9.out.cell 0, HX9.out.cell 1, HX9.out.cell 2, HX9.out.cell 3, HX9.out.cell 4, HX9.out.cell 5, HX9.out.cell 6, HX9.out.cell 7, HX9.out.cell 8, HX9.out.cell 9, HX9.out.cell 10, HX9.out.cell 11⟩ | exact ⟨HX10.out.cell 0, HX10.out.cell 1, HX10.out.cell 2, HX10.out.cell 3, HX10.out.cell 4, HX10.out.cell 5, HX10.out.cell 6, HX10.out.cell 7, HX10.out.cell 8, HX10.out.cell 9, HX10.out.cell 10, HX10.out.cell 11⟩) (fun hHeld => ?_)
              clear hK K
              try simp only [Act.put, List.setIfInBounds_toArray, List.set_cons_zero, List.set_cons_succ]
              refine takeO 10 (some 33) (v := ?_) rfl rfl (by kernel_rfl) (by kernel_rfl) (by kernel_rfl) (fun _ _ _ h => h) (Or.inl ⟨by rfl, ?_⟩) (by assumption) ?_
              rotate_left 1
              · intro w hSw; (try dsimp only at hSw); go_simp; all_goals with_reducible rfl
              try simp only [Act.put, List.setIfInBounds_toArray, List.set_cons_zero, List.set_cons_succ]
              refine takeO 11 (some 34) (v := ?_) rfl rfl (by kernel_rfl) (by kernel_rfl) (by kernel_rfl) (fun _ _ _ h => h) (Or.inl ⟨by rfl, ?_⟩) (by assumption) ?_
              rotate_left 1
              · intro w hSw; (try dsimp only at hSw); go_simp; all_goals with_reducible rfl
              try simp only [Act.put, List.setIfInBounds_toArray, List.set_cons_zero, List.set_cons_succ]
              refine wpAnyH_ready (rs := [12]) (by kernel_rfl) (by simp) ?_
              refine AllReadyH.cons rfl (fun K hK => ?_) AllReadyH.nil
              · go_simp
                go_wp2_with fail
                refine hK.out _ _ (by first | exact ⟨HX7.out.cell 0, HX7.out.cell 1, HX7.out.cell 2, HX7.out.cell 3, HX7.out.cell 4, HX7.out.cell 5, HX7.out.cell 6, HX7.out.cell 7, HX7.out.cell 8, HX7.out.cell 9, HX7.out.cell 10, HX7.out.cell 11⟩ | exact ⟨HX7b.out.cell 0, HX7b.out.cell 1, HX7b.out.cell 2, HX7b.out.cell 3, HX7b.out.cell 4, HX7b.out.cell 5, HX7b.out.cell 6, HX7b.out.cell 7, HX7b.out.cell 8, HX7b.out.cell 9, HX7b.out.cell 10, HX7b.out.cell 11⟩ | exact ⟨HX8.out.cell 0, HX8.out.cell 1, HX8.out.cell 2, HX8.out.cell 3, HX8.out.cell 4, HX8.out.cell 5, HX8.out.cell 6, HX8.out.cell 7, HX8.out.cell 8, HX8.out.cell 9, HX8.out.cell 10, HX8.out.cell 11⟩ | exact ⟨HX9.out.cell 0, HX9.out.cell 1, HX9.out.cell 2, HX9.out.cell 3, HX9.out.cell 4, HX9.out.cell 5, HX9.out.cell 6, HX9.out.cell 7, HX9.out.cell 8, HX9.out.cell 9, HX9.out.cell 10, HX9.out.cell 11⟩ | exact ⟨HX10.out.cell 0, HX10.out.cell 1, HX10.out.cell 2, HX10.out.cell 3, HX10.out.cell 4, HX10.out.cell 5, HX10.out.cell 6, HX10.out.cell 7, HX10.out.cell 8, HX10.out.cell 9, HX10.out.cell 10, HX10.out.cell 11⟩) (fun hHeld => ?_)
                clear hK K
                try simp only [Act.put, List.setIfInBounds_toArray, List.set_cons_zero, List.set_cons_succ]
                refine wpAnyH_done (by kernel_rfl) ?_ _
                have HNA := Lib.hid (NwS.add (a := a7) (cap := c7) HN8.out HPB.out (by rw [HCL.out, HN7e.out]; exact HO8.out) (by rw [HCL.out]; exact HG9.out) (by rw [HCL.out, HN7e.out]; have q := HO9.out; rw [HN7e.out] at q; exact q))
                rw [HCL.out] at HNA
                have HFA := Lib.hid (NeF (x := .slice a9 (k + 1) c9) HF8.out HBS.out HRW.out HG9.out)
                clear hHeld t12 t12d fz9
                skip
                go_wp2_with fail
                go_roundw
                case rel => exact ⟨k + 1, a9, c9, cps ++ [(a7, c7)], by omega, by go_num, by rw [List.length_append, HCL.out]; rfl, HNA.out, HFA.out⟩
                case measure => simp [intOf]; omega
        · go_simp
          go_wp2_with fail
          refine hK.out _ _ (by first | exact ⟨HX7.out.cell 0, HX7.out.cell 1, HX7.out.cell 2, HX7.out.cell 3, HX7.out.cell 4, HX7.out.cell 5, HX7.out.cell 6, HX7.out.cell 7, HX7.out.cell 8, HX7.out.cell 9, HX7.out.cell 10, HX7.out.cell 11⟩ | exact ⟨HX7b.out.cell 0, HX7b.out.cell 1, HX7b.out.cell 2, HX7b.out.cell 3, HX7b.out.cell 4, HX7b.out.cell 5, HX7b.out.cell 6, HX7b.out.cell 7, HX7b.out.cell 8, HX7b.out.cell 9, HX7b.out.cell 10, HX7b.out.cell 11⟩ | exact ⟨HX8.out.cell 0, HX8.out.cell 1, HX8.out.cell 2, HX8.out.cell 3, HX8.out.cell 4, HX8.out.cell 5, HX8.out.cell 6, HX8.out.cell 7, HX8.out.cell 8, HX8.out.cell 9, HX8.out.cell 10, HX8.out.cell 11⟩ | exact ⟨HX9.out.cell 0, HX9.out.cell 1, HX9.out.cell 2, HX9.out.cell 3, HX9.out.cell 4, HX9.out.cell 5, HX9.out.cell 6, HX9.out.cell 7, HX9.out.cell 8, HX9.out.cell 9, HX9.out.cell 10, HX9.out.cell 11⟩ | exact ⟨HX10.out.cell 0, HX10.out.cell 1, HX10.out.cell 2, HX10.out.cell 3, HX10.out.cell 4, HX10.out.cell 5, HX10.out.cell 6, HX10.out.cell 7, HX10.out.cell 8, HX10.out.cell 9, HX10.out.cell 10, HX10.out.cell 11⟩) (fun hHeld => ?_)
          clear hK K
          try simp only [Act.put, List.setIfInBounds_toArray, List.set_cons_zero, List.set_cons_succ]
          refine wpAnyH_ready (rs := [4]) (by kernel_rfl) (by simp) ?_
          refine AllReadyH.cons rfl (fun K hK => ?_) AllReadyH.nil
          · go_simp
            go_wp2_with fail
            refine hK.out _ _ (by first | exact ⟨HX7.out.cell 0, HX7.out.cell 1, HX7.out.cell 2, HX7.out.cell 3, HX7.out.cell 4, HX7.out.cell 5, HX7.out.cell 6, HX7.out.cell 7, HX7.out.cell 8, HX7.out.cell 9, HX7.out.cell 10, HX7.out.cell 11⟩ | exact ⟨HX7b.out.cell 0, HX7b.out.cell 1, HX7b.out.cell 2, HX7b.out.cell 3, HX7b.out.cell 4, HX7b.out.cell 5, HX7b.out.cell 6, HX7b.out.cell 7, HX7b.out.cell 8, HX7b.out.cell 9, HX7b.out.cell 10, HX7b.out.cell 11⟩ | exact ⟨HX8.out.cell 0, HX8.out.cell 1, HX8.out.cell 2, HX8.out.cell 3, HX8.out.cell 4, HX8.out.cell 5, HX8.out.cell 6, HX8.out.cell 7, HX8.out.cell 8, HX8.out.cell 9, HX8.out.cell 10, HX8.out.cell 11⟩ | exact ⟨HX9.out.cell 0, HX9.out.cell 1, HX9.out.cell 2, HX9.out.cell 3, HX9.out.cell 4, HX9.out.cell 5, HX9.out.cell 6, HX9.out.cell 7, HX9.out.cell 8, HX9.out.cell 9, HX9.out.cell 10, HX9.out.cell 11⟩ | exact ⟨HX10.out.cell 0, HX10.out.cell 1, HX10.out.cell 2, HX10.out.cell 3, HX10.out.cell 4, HX10.out.cell 5, HX10.out.cell 6, HX10.out.cell 7, HX10.out.cell 8, HX10.out.cell 9, HX10.out.cell 10, HX10.out.cell 11⟩) (fun hHeld => ?_)
            clear hK K
            try simp only [Act.put, List.setIfInBounds_toArray, List.set_cons_zero, List.set_cons_succ]
            refine wpAnyH_ready (rs := [9]) (by kernel_rfl) (by simp) ?_
            refine AllReadyH.cons rfl (fun K hK => ?_) AllReadyH.nil
            · have hbA : Below w7.heap.size w7 (w7.alloc (.cells #[.slice a7 n7 c7] 26)) := (Below.refl _ w7).alloc (Nat.le_refl _) _
              have HN8 := Lib.hid (HN7b.out.below hbA)
              have hrw : (w7.alloc (.cells #[.slice a7 n7 c7] 26)).ownsRow B 26 1 (.slice cpa k cpc) k (cps.map (fun x => .slice x.1 C.cp.toNat x.2)) := by have q := HN8.out.row; rw [HCL.out] at q; exact q
              have HRW := Lib.hid hrw
              have HB8 := Lib.hid (show B ≤ (w7.alloc (.cells #[.slice a7 n7 c7] 26)).heap.size from Nat.le_trans HBR.out (Nat.le_trans HB7.out.size hbA.size))
              have HF8 := Lib.hid (show Frm (fun b => b = qm + 1) w6 (w7.alloc (.cells #[.slice a7 n7 c7] 26)) from Frm.trans HF7.out (Frm.trans (Frm.below HB7.out) (Frm.below hbA) (fun i hi hl => hi)) (fun i hi hl => hi))
              have HO8 := Lib.hid (ownsRow_below HOW.out hbA)
              clear hbA hrw
              refine step_app rfl (.tmp 27) (.tmp 31) 115 115 rfl B 26 i0 (.slice none 0 0) 1 24 Tryz.underlying115 HI.out HZ0.out HZ1.out HZ2.out rfl (by decide) cpa k cpc (cps.map (fun x => .slice x.1 C.cp.toNat x.2)) (by kernel_rfl) HRW.out (.slice (some ⟨w7.heap.size, 0, none⟩) 1 1) 1 [.slice a7 n7 c7] (by kernel_rfl) (Src.one' Tryz.underlying115 w7 (.slice a7 n7 c7) 26 rfl) A1 A2 HB8.out ?_
              intro a9 c9 w9 hown9 hg9
              have HP9 := Lib.hid (keptB HN8.out.blk HPB.out HRW.out hg9)
              have HX9 := Lib.hid (keptB HX8.out HWB.out HRW.out hg9)
              have HG9 := Lib.hid hg9
              have HO9 := Lib.hid hown9
              clear hown9 hg9 t12b t12c
              have t12d : w9.cell? ⟨qm + 1, 12, none⟩ = some (.slice cpa cps.length cpc) := HP9.out.cell 12
              have fz9 : w9.frozen? ⟨qm + 1, 12, none⟩ = false := HP9.out.frozen 12
              have HX10 := Lib.hid (show Blk (w9.setCell ⟨qm + 1, 12, none⟩ (.slice a9 (k + 1) c9)) w.heap.size 25 [.slice none 0 0, .slice ac c.nc cc, .int .i64 c.wk, .int .i64 c.cp, .int .i64 c.sl, .int .i64 c.ba, .int .i64 c.le, .int .i64 c.he, .int .i64 c.fi, .int .i64 c.ca, .int .i64 c.ji, .int .i64 c.ne] from HX9.out.frm ((Frm.refl (fun b => b = qm + 1) w9).setCell ⟨qm + 1, 12, none⟩ _ (.inl rfl)) (fun e => by have := HLT.out; have := HS6.out; omega))
              refine hK.out _ _ (by first | exact ⟨HX7.out.cell 0, HX7.out.cell 1, HX7.out.cell 2, HX7.out.cell 3, HX7.out.cell 4, HX7.out.cell 5, HX7.out.cell 6, HX7.out.cell 7, HX7.out.cell 8, HX7.out.cell 9, HX7.out.cell 10, HX7.out.cell 11⟩ | exact ⟨HX7b.out.cell 0, HX7b.out.cell 1, HX7b.out.cell 2, HX7b.out.cell 3, HX7b.out.cell 4, HX7b.out.cell 5, HX7b.out.cell 6, HX7b.out.cell 7, HX7b.out.cell 8, HX7b.out.cell 9, HX7b.out.cell 10, HX7b.out.cell 11⟩ | exact ⟨HX8.out.cell 0, HX8.out.cell 1, HX8.out.cell 2, HX8.out.cell 3, HX8.out.cell 4, HX8.out.cell 5, HX8.out.cell 6, HX8.out.cell 7, HX8.out.cell 8, HX8.out.cell 9, HX8.out.cell 10, HX8.out.cell 11⟩ | exact ⟨HX9.out.cell 0, HX9.out.cell 1, HX9.out.cell 2, HX9.out.cell 3, HX9.out.cell 4, HX9.out.cell 5, HX9.out.cell 6, HX9.out.cell 7, HX9.out.cell 8, HX9.out.cell 9, HX9.out.cell 10, HX9.out.cell 11⟩ | exact ⟨HX10.out.cell 0, HX10.out.cell 1, HX10.out.cell 2, HX10.out.cell 3, HX10.out.cell 4, HX10.out.cell 5, HX10.out.cell 6, HX10.out.cell 7, HX10.out.cell 8, HX10.out.cell 9, HX10.out.cell 10, HX10.out.cell 11⟩) (fun hHeld => ?_)
              clear hK K
              try simp only [Act.put, List.setIfInBounds_toArray, List.set_cons_zero, List.set_cons_succ]
              refine takeO 10 (some 33) (v := ?_) rfl rfl (by kernel_rfl) (by kernel_rfl) (by kernel_rfl) (fun _ _ _ h => h) (Or.inl ⟨by rfl, ?_⟩) (by assumption) ?_
              rotate_left 1
              · intro w hSw; (try dsimp only at hSw); go_simp; all_goals with_reducible rfl
              try simp only [Act.put, List.setIfInBounds_toArray, List.set_cons_zero, List.set_cons_succ]
              refine takeO 11 (some 34) (v := ?_) rfl rfl (by kernel_rfl) (by kernel_rfl) (by kernel_rfl) (fun _ _ _ h => h) (Or.inl ⟨by rfl, ?_⟩) (by assumption) ?_
              rotate_left 1
              · intro w hSw; (try dsimp only at hSw); go_simp; all_goals with_reducible rfl
              try simp only [Act.put, List.setIfInBounds_toArray, List.set_cons_zero, List.set_cons_succ]
              refine wpAnyH_ready (rs := [12]) (by kernel_rfl) (by simp) ?_
              refine AllReadyH.cons rfl (fun K hK => ?_) AllReadyH.nil
              · go_simp
                go_wp2_with fail
                refine hK.out _ _ (by first | exact ⟨HX7.out.cell 0, HX7.out.cell 1, HX7.out.cell 2, HX7.out.cell 3, HX7.out.cell 4, HX7.out.cell 5, HX7.out.cell 6, HX7.out.cell 7, HX7.out.cell 8, HX7.out.cell 9, HX7.out.cell 10, HX7.out.cell 11⟩ | exact ⟨HX7b.out.cell 0, HX7b.out.cell 1, HX7b.out.cell 2, HX7b.out.cell 3, HX7b.out.cell 4, HX7b.out.cell 5, HX7b.out.cell 6, HX7b.out.cell 7, HX7b.out.cell 8, HX7b.out.cell 9, HX7b.out.cell 10, HX7b.out.cell 11⟩ | exact ⟨HX8.out.cell 0, HX8.out.cell 1, HX8.out.cell 2, HX8.out.cell 3, HX8.out.cell 4, HX8.out.cell 5, HX8.out.cell 6, HX8.out.cell 7, HX8.out.cell 8, HX8.out.cell 9, HX8.out.cell 10, HX8.out.cell 11⟩ | exact ⟨HX9.out.cell 0, HX9.out.cell 1, HX9.out.cell 2, HX9.out.cell 3, HX9.out.cell 4, HX9.out.cell 5, HX9.out.cell 6, HX9.out.cell 7, HX9.out.cell 8, HX9.out.cell 9, HX9.out.cell 10, HX9.out.cell 11⟩ | exact ⟨HX10.out.cell 0, HX10.out.cell 1, HX10.out.cell 2, HX10.out.cell 3, HX10.out.cell 4, HX10.out.cell 5, HX10.out.cell 6, HX10.out.cell 7, HX10.out.cell 8, HX10.out.cell 9, HX10.out.cell 10, HX10.out.cell 11⟩) (fun hHeld => ?_)
                clear hK K
                try simp only [Act.put, List.setIfInBounds_toArray, List.set_cons_zero, List.set_cons_succ]
                refine wpAnyH_done (by kernel_rfl) ?_ _
                have HNA := Lib.hid (NwS.add (a := a7) (cap := c7) HN8.out HPB.out (by rw [HCL.out, HN7e.out]; exact HO8.out) (by rw [HCL.out]; exact HG9.out) (by rw [HCL.out, HN7e.out]; have q := HO9.out; rw [HN7e.out] at q; exact q))
                rw [HCL.out] at HNA
                have HFA := Lib.hid (NeF (x := .slice a9 (k + 1) c9) HF8.out HBS.out HRW.out HG9.out)
                clear hHeld t12 t12d fz9
                skip
                go_wp2_with fail
                go_roundw
                case rel => exact ⟨k + 1, a9, c9, cps ++ [(a7, c7)], by omega, by go_num, by rw [List.length_append, HCL.out]; rfl, HNA.out, HFA.out⟩
                case measure => simp [intOf]; omega
    · obtain rfl : k = ns := by omega
      clear hlt hk hcl
      have hne : w.heap.size ≠ qm + 1 := by have := HLT.out; have := HS6.out; omega
      have hfw : Frm (fun b => b = qm + 1) w6 wr := HF.out
      have hx7 := HX6.out.frm hfw hne
      have b2 : wr.cell? ⟨w.heap.size, 2, none⟩ = some (.int .i64 c.wk) := hx7.cell 2
      have b6 : wr.cell? ⟨w.heap.size, 6, none⟩ = some (.int .i64 c.le) := hx7.cell 6
      have HLN := Lib.hid (new_good wr c.wk c.le HMO.out.2.1 HMO.out.2.2.1 HLE.out.1 HLE.out.2)
      have HX7 := Lib.hid hx7
      have HNE := Lib.hid hne
      have HFW := Lib.hid hfw
      clear hx7 hne hfw
      go_wp2_with fail
      refine HLN.out.mono ?_
      clear HLN b2 b6
      rintro e w8 ⟨rfl, htb8, hb8⟩
      have HT8 := Lib.hid htb8
      have HB8 := Lib.hid hb8
      have HP8 := Lib.hid (HN.out.blk.below hb8 HN.out.blk.lt)
      have c14 : w8.cell? ⟨qm + 1, 14, none⟩ = some (.pointer none) := HP8.out.cell 14
      have fz8 : w8.frozen? ⟨qm + 1, 14, none⟩ = false := HP8.out.frozen 14
      obtain ⟨s8, hs8⟩ : ∃ V, w8.setCell ⟨qm + 1, 14, none⟩ (.pointer (some ⟨wr.heap.size, 0, none⟩)) = V := ⟨_, rfl⟩
      have hf8 : Frm (fun b => b = qm + 1) w8 s8 := by rw [← hs8]; exact (Frm.refl (fun b => b = qm + 1) w8).setCell ⟨qm + 1, 14, none⟩ _ (.inl rfl)
      have hfw8 : Frm (fun b => b = qm + 1) wr s8 := Frm.trans (Frm.below hb8) hf8 (fun i hi hl => hi)
      have HPS8 := Lib.hid (show Blk s8 (qm + 1) _ _ from by rw [← hs8]; exact HP8.out.set 14 _)
      have HF8 := Lib.hid hf8
      have HFW8 := Lib.hid hfw8
      have HX8 := Lib.hid (HX7.out.frm hfw8 HNE.out)
      have b4 : s8.cell? ⟨w.heap.size, 4, none⟩ = some (.int .i64 c.sl) := HX8.out.cell 4
      have HSN := Lib.hid (s_new c.sl s8 HMO.out.2.2.2.2.2.2.1 HMO.out.2.2.2.2.2.2.2.1)
      clear htb8 hb8 hf8 hfw8
      go_wp2_with (rw [hs8])
      clear hs8 c14 fz8
      refine HSN.out.mono ?_
      clear HSN b4
      rintro e w9 ⟨rfl, hsl9, hb9⟩
      have HS9 := Lib.hid hsl9
      have HB9 := Lib.hid hb9
      have HP9 := Lib.hid (HPS8.out.below hb9 HPS8.out.lt)
      have c15 : w9.cell? ⟨qm + 1, 15, none⟩ = some (.pointer none) := HP9.out.cell 15
      have fz9 : w9.frozen? ⟨qm + 1, 15, none⟩ = false := HP9.out.frozen 15
      obtain ⟨s9, hs9⟩ : ∃ V, w9.setCell ⟨qm + 1, 15, none⟩ (.pointer (some ⟨s8.heap.size + 2, 0, none⟩)) = V := ⟨_, rfl⟩
      have hf9 : Frm (fun b => b = qm + 1) w9 s9 := by rw [← hs9]; exact (Frm.refl (fun b => b = qm + 1) w9).setCell ⟨qm + 1, 15, none⟩ _ (.inl rfl)
      have hfw9 : Frm (fun b => b = qm + 1) s8 s9 := Frm.trans (Frm.below hb9) hf9 (fun i hi hl => hi)
      have HPS9 := Lib.hid (show Blk s9 (qm + 1) _ _ from by rw [← hs9]; exact HP9.out.set 15 _)
      have HF9 := Lib.hid hf9
      have HFW9 := Lib.hid hfw9
      have HTN := Lib.hid (t_new 24 s9 (by decide) (by decide))
      clear hsl9 hb9 hf9 hfw9
      go_wp2_with (rw [hs9])
      clear hs9 c15 fz9
      refine HTN.out.mono ?_
      clear HTN
      rintro e w10 ⟨rfl, htl10, hb10⟩
      have HT10 := Lib.hid htl10
      have HB10 := Lib.hid hb10
      have HP10 := Lib.hid (HPS9.out.below hb10 HPS9.out.lt)
      have c16 : w10.cell? ⟨qm + 1, 16, none⟩ = some (.pointer none) := HP10.out.cell 16
      have fz10 : w10.frozen? ⟨qm + 1, 16, none⟩ = false := HP10.out.frozen 16
      obtain ⟨s10, hs10⟩ : ∃ V, w10.setCell ⟨qm + 1, 16, none⟩ (.pointer (some ⟨s9.heap.size, 0, none⟩)) = V := ⟨_, rfl⟩
      have hf10 : Frm (fun b => b = qm + 1) w10 s10 := by rw [← hs10]; exact (Frm.refl (fun b => b = qm + 1) w10).setCell ⟨qm + 1, 16, none⟩ _ (.inl rfl)
      have hfw10 : Frm (fun b => b = qm + 1) s9 s10 := Frm.trans (Frm.below hb10) hf10 (fun i hi hl => hi)
      have HPS10 := Lib.hid (show Blk s10 (qm + 1) _ _ from by rw [← hs10]; exact HP10.out.set 16 _)
      have HF10 := Lib.hid hf10
      have HFW10 := Lib.hid hfw10
      clear htl10 hb10 hf10 hfw10
      go_wp2_with (rw [hs10])
      clear hs10 c16 fz10
      go_ret2
      have hz1 := HLT.out
      have hz2 := HS6.out
      have hz3 := HFW.out.size
      rw [HBS.out] at hz3
      have hz4 : wr.heap.size < s8.heap.size := Nat.lt_of_lt_of_le HT8.out.lt HF8.out.size
      have hz5 : s8.heap.size + 2 < s9.heap.size := Nat.lt_of_lt_of_le HS9.out.blk.lt HF9.out.size
      have hw810 : Frm (fun b => b = qm + 1) s8 s10 := Frm.trans HFW9.out HFW10.out (fun i hi hl => hi)
      have hwr10 : Frm (fun b => b = qm + 1) wr s10 := Frm.trans HFW8.out hw810 (fun i hi hl => hi)
      have hw610 : Frm (fun b => b = qm + 1) w6 s10 := Frm.trans HFW.out hwr10 (fun i hi hl => hi)
      obtain ⟨O', hO'⟩ : ∃ x, ownNew O w.heap.size qm wr.heap.size s8.heap.size s9.heap.size = x := ⟨_, rfl⟩
      refine ⟨qm + 1, ac, cc, ⟨cpa, cpc, cps, wr.heap.size, s8.heap.size + 2, s8.heap.size, s8.heap.size + 1, s9.heap.size, qm, none, 0, fun _ => 0, fun _ => 0, fun _ => (none, 0)⟩, O', rfl, cw_init ?_ ?_ ?_ ?_ ?_ ?_ rfl rfl, ?_, ?_, ?_⟩
      · rw [HCC.out]; exact ⟨HPS10.out, by rw [← hO']; exact own0_p (by omega)⟩
      · refine ⟨⟨?_, ?_⟩, ⟨?_, ?_⟩, fun s x hx => ⟨?_, ?_⟩⟩
        · exact own0 (ownsRow_frm HO6.out hw610 (fun q hq e => by have := HOL.out q hq; omega)) (Nat.zero_le _)
        · intro q hq; rw [← hO']; exact own1_a (by have := own_ge HO6.out q hq; omega) (HOL.out q hq)
        · rw [HCC.out]; exact own0 (ownsRow_frm HN.out.row hwr10 (fun q hq e => by have := own_ge HN.out.row q hq; omega)) (Nat.zero_le _)
        · intro q hq; rw [← hO']; exact own1_b (by omega) (by have := own_ge HN.out.row q hq; omega) (own_lt HN.out.row q hq)
        · rw [HCC.out]; exact own0 (ownsRow_frm (HN.out.each s x hx) hwr10 (fun q hq e => by have := own_ge (HN.out.each s x hx) q hq; omega)) (Nat.zero_le _)
        · rw [HCC.out]; intro q hq; rw [← hO']; exact own1_b (by omega) (by have := own_ge (HN.out.each s x hx) q hq; omega) (own_lt (HN.out.each s x hx) q hq)
      · exact ⟨Blk.frm (Blk.frm HT8.out HF8.out (by show ¬ wr.heap.size = qm + 1; omega)) hw810 (by show ¬ wr.heap.size = qm + 1; omega), by show O' wr.heap.size = ct 2; rw [← hO']; exact own2 (by omega) (by omega) (by omega) (by omega)⟩
      · exact ⟨(HS9.out.frm HF9.out (by show ¬ s8.heap.size + 2 = qm + 1; omega) (by show ¬ s8.heap.size = qm + 1; omega) (by show ¬ s8.heap.size + 1 = qm + 1; omega)).frm HFW10.out (by show ¬ s8.heap.size + 2 = qm + 1; omega) (by show ¬ s8.heap.size = qm + 1; omega) (by show ¬ s8.heap.size + 1 = qm + 1; omega), by show O' (s8.heap.size + 2) = ct 3; rw [← hO']; exact own3 (by omega) (by omega) (by omega) (by omega) (by omega), by show O' (s8.heap.size) = ct 3; rw [← hO']; exact own3 (by omega) (by omega) (by omega) (by omega) (by omega), by show O' (s8.heap.size + 1) = ct 3; rw [← hO']; exact own3 (by omega) (by omega) (by omega) (by omega) (by omega)⟩
      · exact ⟨none, HT10.out.frm HF10.out (by show ¬ s9.heap.size = qm + 1; omega) (fun q hq => by cases hq), by show O' s9.heap.size = ct 4; rw [← hO']; exact own4 (by omega) (by omega) (by omega) (by omega) (by omega), fun q hq => by cases hq⟩
      · exact ⟨HM6.out.frm hw610 (by show ¬ qm = qm + 1; omega), by rw [← hO']; exact own5 (by omega)⟩
      · show (cps.length : Int) = shardsC c; rw [HCL.out, ← HNS.out, ← HCC.out, own_shards HM.out]
      · intro q hq; rw [← hO']; exact own0_lt hq
      · exact ⟨hw610.os.trans HB6.out.os, hw610.tape.trans HB6.out.tape, hw610.output.trans HB6.out.output, Nat.le_trans HB6.out.size hw610.size, fun q hq => (hw610.block q (Nat.lt_of_lt_of_le hq HB6.out.size) (by omega)).trans (HB6.out.block q hq)⟩
end
end Go.Proofs.YtinkbgeckjbnbaaGreat
namespace Go.Proofs.YtinkbgeckjbnbaaGreat
section
open Go.RowKit
set_option linter.unusedVariables false

set_option maxRecDepth 100000 in
theorem stepP_some {n : Int} {S : List PS} {T : List KeyL} {x : KeyL} {b : Nat} {s : PS} (h : stepP n S T = some (x, b, s)) : ∃ s0, S[b]? = some s0 ∧ s = s0.less := by
  unfold stepP at h
  split at h
  · cases h
  · split at h
    · cases h
    · split at h
      · cases h
      · rename_i b' _ s0 hs
        split at h
        · cases h
        · cases h; exact ⟨s0, hs, rfl⟩
set_option maxRecDepth 100000 in
theorem tellA_T (n : Int) : ∀ (f : Nat) (S : List PS) (T out : List KeyL), ∃ l, (tellA n f S T out).1 = out ++ l ∧ (tellA n f S T out).2.2 = T ++ l
  | 0, S, T, out => ⟨[], by simp [tellA], by simp [tellA]⟩
  | f + 1, S, T, out => by
    unfold tellA
    cases h : stepP n S T with
    | none => exact ⟨[], by simp, by simp⟩
    | some r =>
      obtain ⟨x, b, s⟩ := r
      obtain ⟨l, h1, h2⟩ := tellA_T n f (S.set b s) (T ++ [x]) (out ++ [x])
      exact ⟨x :: l, by simp only [h1, List.append_assoc]; rfl, by simp only [h2, List.append_assoc]; rfl⟩
set_option maxRecDepth 100000 in
theorem tellA_seq (n : Int) : ∀ (f : Nat) (S : List PS) (T out : List KeyL), ∀ s' ∈ (tellA n f S T out).2.1, ∃ s ∈ S, s'.seq = s.seq
  | 0, S, T, out => fun s' h => ⟨s', by simpa [tellA] using h, rfl⟩
  | f + 1, S, T, out => by
    unfold tellA
    cases h : stepP n S T with
    | none => exact fun s' h => ⟨s', h, rfl⟩
    | some r =>
      obtain ⟨x, b, s⟩ := r
      obtain ⟨s0, hs0, rfl⟩ := stepP_some h
      intro s' hs'
      obtain ⟨s1, h1, h2⟩ := tellA_seq n f (S.set b s0.less) (T ++ [x]) (out ++ [x]) s' hs'
      rcases List.mem_or_eq_of_mem_set h1 with h1 | rfl
      · exact ⟨s1, h1, h2⟩
      · exact ⟨s0, List.mem_of_getElem? hs0, h2⟩
set_option maxRecDepth 100000 in
theorem QOK.of_same {S S' : CS} {j ns : Nat} {b : Int} (h : QOK S j ns b) (hQ : S'.Q j = S.Q j) (hT : S'.told[j - 1]? = S.told[j - 1]?) (hL : S'.L[(S.Q j).slot]? = some j) : QOK S' j ns b := by
  refine ⟨?_, ?_, ?_, ?_, ?_, ?_, ?_, ?_, ?_⟩ <;> rw [hQ]
  · exact hL
  · exact h.sh6
  · exact h.len
  · exact h.turn
  · exact h.seq
  · exact h.tn
  · exact h.n
  · exact h.k
  · rw [hT]; exact h.told
set_option maxRecDepth 100000 in
theorem tell_Qne (S : CS) (id j : Nat) (h : j ≠ id) : (S.tell id).Q j = S.Q j := by show (if j = id then _ else _) = _; rw [if_neg h]
set_option maxRecDepth 100000 in
theorem tell_told_ne (S : CS) (id j : Nat) (h0 : id ≠ 0) (h1 : j ≠ 0) (h : j ≠ id) : (S.tell id).told[j - 1]? = S.told[j - 1]? := by
  show (S.told.set (id - 1) _)[j - 1]? = _
  rw [List.getElem?_set_ne (by omega)]
set_option maxRecDepth 100000 in
theorem tell_ok {S : CS} {ns : Nat} {b : Int} (h : S.OK ns b) {id : Nat} (hm : id ∈ S.L) (h0 : id ≠ 0) : (S.tell id).OK ns b := by
  have q := h.q id hm h0
  have hid := h.sl.le id hm
  have hlen := tellP_len (S := (S.Q id).S) q.tn
  obtain ⟨l, hl1, hl2⟩ := tellA_T (S.Q id).n ((S.Q id).n.toNat - (S.Q id).T.length) (S.Q id).S (S.Q id).T []
  have hs := tellA_seq (S.Q id).n ((S.Q id).n.toNat - (S.Q id).T.length) (S.Q id).S (S.Q id).T []
  refine ⟨h.t, h.now, by rw [tell_len]; exact h.sl, by rw [tell_len]; exact h.tl, fun j hj hj0 => ?_⟩
  by_cases e : j = id
  · subst e
    refine ⟨?_, ?_, ?_, ?_, ?_, ?_, ?_, ?_, ?_⟩ <;> rw [tell_Q]
    · exact q.slot
    · exact q.sh6
    · exact hlen.2.2.trans q.len
    · exact q.turn
    · intro s' hs'
      obtain ⟨s, h1, h2⟩ := hs s' hs'
      rw [h2]; exact q.seq s h1
    · exact hlen.2.1
    · exact q.n
    · exact q.k
    · show (S.told.set (j - 1) _)[j - 1]? = _
      rw [List.getElem?_set_self (by omega), q.tof]
      have e1 : (S.tellR j).1 = l := hl1
      have e2 : (S.tellR j).2.2 = (S.Q j).T ++ l := hl2
      show some _ = some _
      rw [e1, e2]
  · exact (h.q j hj hj0).of_same (tell_Qne S id j e) (tell_told_ne S id j h0 hj0 e) (h.q j hj hj0).slot
set_option maxRecDepth 100000 in
/-- a query is gone -/
theorem over_ok {S S' : CS} {ns : Nat} {b : Int} (h : S.OK ns b) {id n : Nat} (hm : id ∈ S.L) (h0 : id ≠ 0) (hc : S'.t = S.t) (hn : S'.now = S.now) (hL : S'.L = S.L) (hlen : S'.told.length = S.told.length) (hQ : ∀ j, j ≠ id → S'.Q j = S.Q j) (hT : ∀ j, j ≠ 0 → j ≠ id → S'.told[j - 1]? = S.told[j - 1]?) : (S'.over id n).OK ns b := by
  obtain ⟨s, hs⟩ := List.getElem?_of_mem hm
  have hof : ofF S.L (id : Int) = some (s : Int) := by rw [ofF_some h.sl]; exact ⟨by omega, by omega, by rw [Int.toNat_natCast, Int.toNat_natCast]; exact hs⟩
  have hfl : (S'.over id n).L = S.L.set s 0 := by
    show freeL S'.L (id : Int) = _
    rw [hL]; unfold freeL; rw [hof]; rfl
  have hmem : ∀ j, j ∈ (S'.over id n).L → j ≠ 0 → j ∈ S.L ∧ j ≠ id := fun j hj hj0 => by
    have hj' : j ∈ freeL S.L (id : Int) := by have : (S'.over id n).L = freeL S.L (id : Int) := by show freeL S'.L _ = _; rw [hL]
                                              rw [this] at hj; exact hj
    exact (mem_freeL h.sl hm h0 j hj0).1 hj'
  refine ⟨?_, ?_, ?_, ?_, fun j hj hj0 => ?_⟩
  · show S'.t.ok; rw [hc]; exact h.t
  · show 0 ≤ S'.now ∧ S'.now ≤ b; rw [hn]; exact h.now
  · rw [hfl]; show SlOK _ S'.told.length; rw [hlen]; exact h.sl.free
  · show (S'.told.length : Int) ≤ b; rw [hlen]; exact h.tl
  · obtain ⟨h1, h2⟩ := hmem j hj hj0
    have q := h.q j h1 hj0
    refine q.of_same (hQ j h2) (hT j hj0 h2) ?_
    rw [hfl, List.getElem?_set_ne (fun e => ?_)]
    · exact q.slot
    · have := q.slot
      rw [← e, hs] at this
      exact h2 (Option.some.inj this).symm
set_option maxRecDepth 100000 in
theorem goes_ok {S : CS} {ns : Nat} {b : Int} (h : S.OK ns b) {id : Nat} (hm : id ∈ S.L) (h0 : id ≠ 0) (n : Nat) : (S.goes id n).OK ns b := by
  have ht := tell_ok h hm h0
  unfold CS.goes
  split
  · refine over_ok h hm h0 rfl rfl rfl ?_ (fun j e => tell_Qne S id j e) (fun j h1 e => ?_)
    · show ((S.tell id).told.set (id - 1) _).length = _; rw [List.length_set, tell_len]
    · show ((S.tell id).told.set (id - 1) _)[j - 1]? = _
      rw [List.getElem?_set_ne (by omega), tell_told_ne S id j h0 h1 e]
  · exact ht
set_option maxRecDepth 100000 in
theorem hello_ok {S : CS} {ns : Nat} {b : Int} (h : S.OK ns b) (v life : Int) : (S.hello v life).OK ns b :=
  ⟨h.t.hello _ _ _, h.now, h.sl, h.tl, fun j h1 h2 => (h.q j h1 h2).of_same rfl rfl (h.q j h1 h2).slot⟩
set_option maxRecDepth 100000 in
theorem free_at {L : List Nat} {s : Nat} (h : freeS L = some s) : L[s]? = some 0 := by
  unfold freeS at h
  rw [List.findIdx?_eq_some_iff_getElem] at h
  obtain ⟨hs, h1, _⟩ := h
  rw [List.getElem?_eq_getElem hs]
  simp only [decide_eq_true_eq] at h1
  rw [h1]
set_option maxRecDepth 100000 in
theorem add_ok {S : CS} {ns : Nat} {b : Int} (h : S.OK ns b) {q : ByteArray} {k n : Int} (hm : mayQ q k n = true) {s : Nat} (hs : S.L[s]? = some 0) (hb : 0 ≤ b) : (S.add q k n s ns).OK ns (b + 1) := by
  have hq := mayQ_of hm
  have hsl : s < S.L.length := (List.getElem?_eq_some_iff.1 hs).1
  have hl : (S.add q k n s ns).told.length = S.told.length + 1 := by show (S.told ++ [_]).length = _; simp
  refine ⟨h.t, ⟨h.now.1, by have := h.now.2; show S.now ≤ b + 1; omega⟩, by rw [hl]; exact h.sl.put hs, by rw [hl]; have := h.tl; omega, fun j hj hj0 => ?_⟩
  by_cases e : j = S.told.length + 1
  · subst e
    have hQ : (S.add q k n s ns).Q (S.told.length + 1) = S.newQ q k n s ns := by show (if _ = _ then _ else _) = _; rw [if_pos rfl]
    refine ⟨?_, ?_, ?_, ?_, ?_, ?_, ?_, ?_, ?_⟩ <;> rw [hQ]
    · show (S.L.set s _)[s]? = _; rw [List.getElem?_set_self hsl]
    · show (List.replicate 6 SH.zero).length = 6; simp
    · show (((List.range ns).map _).map _).length = ns; simp
    · intro x hx; have : x = SH.zero := List.eq_of_mem_replicate hx; subst this; exact ⟨⟨by decide, by show (0 : Int) ≤ b + 1; omega⟩, by decide, by show (0 : Int) ≤ b + 1; omega⟩
    · intro x hx
      obtain ⟨d, _, rfl⟩ := List.mem_map.1 hx
      exact ⟨by show (0 : Int) ≤ 0; omega, by show (0 : Int) ≤ b + 1; omega⟩
    · show ((0 : Nat) : Int) ≤ n; omega
    · exact ⟨hq.2.2.2.1, hq.2.2.2.2⟩
    · exact ⟨hq.2.1, hq.2.2.1⟩
    · show (S.told ++ [_])[S.told.length + 1 - 1]? = _
      rw [Nat.add_sub_cancel, List.getElem?_append_right (Nat.le_refl _), Nat.sub_self]; rfl
  · have hj1 : j ∈ S.L := by
      rcases List.mem_or_eq_of_mem_set (show j ∈ S.L.set s (S.told.length + 1) from hj) with h1 | h1
      · exact h1
      · exact absurd h1 e
    have hjl := h.sl.le j hj1
    have qj := (h.q j hj1 hj0).mono (b' := b + 1) (by omega)
    refine qj.of_same (by show (if j = _ then _ else _) = _; rw [if_neg e]) (by show (S.told ++ [_])[j - 1]? = _; rw [List.getElem?_append_left (by omega)]) ?_
    show (S.L.set s _)[(S.Q j).slot]? = _
    rw [List.getElem?_set_ne (fun e2 => ?_)]
    · exact qj.slot
    · have := qj.slot; rw [← e2, hs] at this; exact hj0 (Option.some.inj this).symm
set_option maxRecDepth 100000 in
theorem sub_ok {S : CS} {ns : Nat} {b : Int} (h : S.OK ns b) (hb : 0 ≤ b) (q : ByteArray) (k n : Int) : (S.sub q k n ns).OK ns (b + 1) := by
  unfold CS.sub
  split
  · exact h.mono (by omega)
  · rename_i hm
    split
    · exact h.mono (by omega)
    · rename_i s hs
      have hs0 := free_at hs
      refine goes_ok (add_ok h (by simpa using hm) hs0 hb) ?_ (by omega) ns
      show _ ∈ S.L.set s (S.told.length + 1)
      exact List.mem_of_getElem? (List.getElem?_set_self (List.getElem?_eq_some_iff.1 hs0).1)
set_option maxRecDepth 100000 in
theorem init_ok {c : CfgM} (h : mayC c = true) (hle : 1 ≤ c.le ∧ c.le ≤ 1000) (ns : Nat) {b : Int} (hb : 0 ≤ b) : (CS.init c).OK ns b := by
  have hm := may_of h
  have hno : ∀ id ∈ (CS.init c).L, id ≠ 0 → False := fun id hm h0 => h0 (List.eq_of_mem_replicate hm)
  refine ⟨Tab.new_ok _ _ hm.2.1 hm.2.2.1 hle.1 hle.2, ⟨Int.le_refl _, hb⟩, ⟨fun s s' x hs _ hx => (hno x (List.mem_of_getElem? hs) hx).elim, fun x hx => by rw [List.eq_of_mem_replicate hx]; exact Nat.zero_le _, ?_⟩, hb, fun id h1 h2 => (hno id h1 h2).elim⟩
  show 1 ≤ (List.replicate c.sl.toNat 0).length ∧ (List.replicate c.sl.toNat 0).length ≤ 4
  rw [List.length_replicate]
  omega
end
end Go.Proofs.YtinkbgeckjbnbaaGreat
namespace Go.Proofs.YtinkbgeckjbnbaaGreat
section
open Go.RowKit
set_option linter.unusedVariables false

/-- who was heard last when; -1: never -/
structure Heard (S : CS) (last : Nat → Int) : Prop where
  ok : S.t.ok
  wk : S.t.workers = S.c.wk
  tm : S.t.term = S.c.le
  now : 0 ≤ S.now ∧ S.now ≤ 1000
  each : ∀ w : Nat, 1 ≤ w → (w : Int) ≤ S.c.wk → (last w = -1 ∧ S.t.at w = L1.zero) ∨ (0 ≤ last w ∧ last w ≤ S.now ∧ S.t.at w = ⟨1, 1, last w + S.c.le⟩)
set_option maxRecDepth 100000 in
theorem heard_init {c : CfgM} (h : mayC c = true) (hle : 1 ≤ c.le ∧ c.le ≤ 1000) : Heard (CS.init c) (fun _ => -1) := by
  have hm := may_of h
  refine ⟨Tab.new_ok _ _ hm.2.1 hm.2.2.1 hle.1 hle.2, rfl, rfl, ⟨Int.le_refl _, by show (0 : Int) ≤ 1000; decide⟩, fun w h1 h2 => .inl ⟨rfl, ?_⟩⟩
  show (List.replicate 6 L1.zero).getD ((w : Int)).toNat L1.zero = L1.zero
  rw [List.getD_eq_getElem?_getD, List.getElem?_replicate]
  split <;> rfl
set_option maxRecDepth 100000 in
theorem heard_hello {S : CS} {last : Nat → Int} (h : Heard S last) {w : Nat} (h1 : 1 ≤ w) (h2 : (w : Int) ≤ S.c.wk) : Heard (S.hello w 1) (fun v => if v = w then S.now else last v) := by
  have hw := h.wk
  have hb := h.ok.workers1
  have his : S.t.is (w : Int) = true := by unfold Tab.is; simp; omega
  have hok : okHello S.t (w : Int) 1 S.now = true := by unfold okHello okTime; rw [his]; have := h.now; simp; omega
  have hat : ∀ v : Nat, 1 ≤ v → (v : Int) ≤ S.c.wk → (S.t.put (w : Int) (((S.t.at w).told 1).on (S.now + S.t.term))).at v = if v = w then ⟨1, 1, S.now + S.c.le⟩ else S.t.at v := fun v hv1 hv2 => by
    rw [Tab.at_put h.ok _ _ _ his, Int.toNat_natCast, Int.toNat_natCast]
    by_cases e : v = w
    · rw [if_pos e, if_pos e]
      have hn := h.now
      have ht := h.tm
      have hle := h.ok.term0
      rcases h.each w h1 h2 with ⟨_, ez⟩ | ⟨ha, hb', ez⟩
      · rw [ez]; unfold L1.told L1.zero L1.on; simp only; rw [if_pos (by decide)]; simp only; congr 1; omega
      · rw [ez]; unfold L1.told L1.on; simp only; rw [if_neg (by decide)]; simp only; congr 1; omega
    · rw [if_neg e, if_neg e]
  have hlife : ¬ 1 < (S.t.at (w : Int)).life := by
    rcases h.each w h1 h2 with ⟨_, ez⟩ | ⟨_, _, ez⟩
    · rw [ez]; decide
    · rw [ez]; show ¬ (1 : Int) < 1; decide
  have ht : (S.hello w 1).t = S.t.put (w : Int) (((S.t.at w).told 1).on (S.now + S.t.term)) := by
    show (S.t.hello (w : Int) 1 S.now).1 = _
    unfold Tab.hello
    rw [if_pos hok, if_neg hlife]
  refine ⟨h.ok.hello _ _ _, ?_, ?_, h.now, fun v hv1 hv2 => ?_⟩
  · rw [ht]; exact h.wk
  · rw [ht]; exact h.tm
  · rw [ht, hat v hv1 hv2]
    by_cases e : v = w
    · simp only [if_pos e]
      exact .inr ⟨h.now.1, Int.le_refl _, rfl⟩
    · simp only [if_neg e]
      rcases h.each v hv1 hv2 with ⟨ha, ez⟩ | ⟨ha, hb', ez⟩
      · exact .inl ⟨ha, ez⟩
      · exact .inr ⟨ha, hb', ez⟩
set_option maxRecDepth 100000 in
theorem heard_tick {S : CS} {last : Nat → Int} (h : Heard S last) (hn : S.now ≤ 999) : Heard S.tick last := by
  have e : S.tick.now = S.now + 1 := by show min (S.now + 1) _ = _; omega
  exact ⟨h.ok, h.wk, h.tm, by rw [e]; have := h.now; omega, fun w h1 h2 => by
    rcases h.each w h1 h2 with hh | ⟨ha, hb, ez⟩
    · exact .inl hh
    · exact .inr ⟨ha, by rw [e]; omega, ez⟩⟩
set_option maxRecDepth 100000 in
theorem heard_live {S : CS} {last : Nat → Int} (h : Heard S last) {w : Nat} (h1 : 1 ≤ w) (h2 : (w : Int) ≤ S.c.wk) : S.t.live w S.now = decide (0 ≤ last w ∧ S.now ≤ last w + S.c.le) := by
  have his : S.t.is (w : Int) = true := by unfold Tab.is; have := h.wk; simp; omega
  unfold Tab.live
  rw [his]
  rcases h.each w h1 h2 with ⟨ha, ez⟩ | ⟨ha, hb, ez⟩
  · rw [ez, ha]; simp [L1.zero]
  · rw [ez]; simp [ha]
set_option maxRecDepth 100000 in
theorem heard_epoch {S : CS} {last : Nat → Int} (h : Heard S last) {w : Nat} (h1 : 1 ≤ w) (h2 : (w : Int) ≤ S.c.wk) : S.t.epoch w = if last w < 0 then 0 else 1 := by
  have his : S.t.is (w : Int) = true := by unfold Tab.is; have := h.wk; simp; omega
  unfold Tab.epoch
  rw [if_pos his]
  rcases h.each w h1 h2 with ⟨ha, ez⟩ | ⟨ha, hb, ez⟩
  · rw [ez, ha]; rfl
  · rw [ez, if_neg (by omega)]
set_option maxRecDepth 100000 in
/-- a fresh query -/
theorem ahead_none {S : List PS} (h : ∀ s ∈ S, s.waits = []) : ∀ i, aheadP S i = none
  | 0 => rfl
  | i + 1 => by
    unfold aheadP
    rw [ahead_none h i]
    cases e : S[i]? with
    | none => rfl
    | some s => simp only; rw [h s (List.mem_of_getElem? e)]; rfl
set_option maxRecDepth 100000 in
theorem tell_none {S : List PS} (h : ∀ s ∈ S, s.waits = []) (n : Int) (T : List KeyL) : tellP n S T = ([], S, T) := by
  unfold tellP
  exact tellA_stop (step_none (ahead_none h _)) _ _
set_option maxRecDepth 100000 in
theorem newPS_waits (l : List Int) : ∀ s ∈ l.map newPS, s.waits = [] := fun s hs => by obtain ⟨d, _, rfl⟩ := List.mem_map.1 hs; rfl
/-- a fresh coordinator that was told of workers alone -/
structure Fresh (S : CS) (sl : Nat) : Prop where
  L : S.L = List.replicate sl 0
  told : S.told = []
  tm : S.tm = []
set_option maxRecDepth 100000 in
theorem free_rep {n : Nat} (h : 1 ≤ n) : freeS (List.replicate n 0) = some 0 := by
  obtain ⟨m, rfl⟩ : ∃ m, n = m + 1 := ⟨n - 1, by omega⟩
  rfl
def leastsQ (S : CS) (q : ByteArray) (k : Int) (ns : Nat) : List Int := (List.range ns).map (fun j : Nat => leastQ S.c q k (j : Nat))
set_option maxRecDepth 100000 in
theorem sub_eq {S : CS} {sl ns : Nat} {q : ByteArray} {k n : Int} (h : Fresh S sl) (hsl : 1 ≤ sl) (hm : mayQ q k n = true) : S.sub q k n ns = (S.add q k n 0 ns).goes 1 ns := by
  unfold CS.sub
  rw [if_neg (by rw [hm]; decide), h.L, free_rep hsl, h.told]
  rfl
set_option maxRecDepth 100000 in
theorem subV_eq {S : CS} {sl : Nat} {q : ByteArray} {k n : Int} (h : Fresh S sl) (hsl : 1 ≤ sl) (hm : mayQ q k n = true) : S.subV q k n = (3, 1) := by
  unfold CS.subV subS
  rw [if_neg (by rw [hm]; decide), h.L, free_rep hsl, h.told]
  rfl
set_option maxRecDepth 100000 in
theorem add_Q {S : CS} {sl ns : Nat} {q : ByteArray} {k n : Int} (h : Fresh S sl) (hsl : 1 ≤ sl) (hm : mayQ q k n = true) : (S.add q k n 0 ns).Q 1 = S.newQ q k n 0 ns := by
  show (if (1 : Nat) = S.told.length + 1 then _ else _) = _
  rw [h.told]; rfl
set_option maxRecDepth 100000 in
theorem add_told {S : CS} {sl ns : Nat} {q : ByteArray} {k n : Int} (h : Fresh S sl) (hsl : 1 ≤ sl) (hm : mayQ q k n = true) : (S.add q k n 0 ns).told = [⟨q, k, n, [], false, false⟩] := by show S.told ++ [_] = _; rw [h.told]; rfl
set_option maxRecDepth 100000 in
theorem add_L {S : CS} {sl ns : Nat} {q : ByteArray} {k n : Int} (h : Fresh S sl) (hsl : 1 ≤ sl) (hm : mayQ q k n = true) : (S.add q k n 0 ns).L = (List.replicate sl 0).set 0 1 := by show S.L.set 0 (S.told.length + 1) = _; rw [h.told, h.L]; rfl
set_option maxRecDepth 100000 in
theorem add_tell {S : CS} {sl ns : Nat} {q : ByteArray} {k n : Int} (h : Fresh S sl) (hsl : 1 ≤ sl) (hm : mayQ q k n = true) : (S.add q k n 0 ns).tell 1 = ((S.add q k n 0 ns).setQ 1 (S.newQ q k n 0 ns)).setT 0 ⟨q, k, n, [], false, false⟩ := by
  have e : (S.add q k n 0 ns).tellR 1 = ([], (leastsQ S q k ns).map newPS, []) := by
    unfold CS.tellR
    rw [add_Q h hsl hm]
    exact tell_none (newPS_waits _) _ _
  have et : (S.add q k n 0 ns).tof 1 = ⟨q, k, n, [], false, false⟩ := by unfold CS.tof; rw [add_told h hsl hm]; rfl
  unfold CS.tell
  rw [e, et, add_Q h hsl hm]
  rfl
set_option maxRecDepth 100000 in
theorem tell_Q1 {S : CS} {sl ns : Nat} {q : ByteArray} {k n : Int} (h : Fresh S sl) (hsl : 1 ≤ sl) (hm : mayQ q k n = true) : ((S.add q k n 0 ns).tell 1).Q 1 = S.newQ q k n 0 ns := by rw [add_tell h hsl hm]; show ((S.add q k n 0 ns).setQ 1 (S.newQ q k n 0 ns)).Q 1 = _; exact setQ_at _ _ _
set_option maxRecDepth 100000 in
theorem tell_L {S : CS} {sl ns : Nat} {q : ByteArray} {k n : Int} (h : Fresh S sl) (hsl : 1 ≤ sl) (hm : mayQ q k n = true) : ((S.add q k n 0 ns).tell 1).L = (List.replicate sl 0).set 0 1 := add_L (ns := ns) h hsl hm
set_option maxRecDepth 100000 in
theorem sub_c {S : CS} {sl ns : Nat} {q : ByteArray} {k n : Int} (h : Fresh S sl) (hsl : 1 ≤ sl) (hm : mayQ q k n = true) : (S.sub q k n ns).c = S.c ∧ (S.sub q k n ns).now = S.now ∧ (S.sub q k n ns).t = S.t := by
  rw [sub_eq h hsl hm]
  unfold CS.goes
  split <;> exact ⟨rfl, rfl, rfl⟩
set_option maxRecDepth 100000 in
theorem wake_none {S : CS} (h : ∀ x ∈ S.L, x = 0) (draw : Int) (k : Nat) : S.wakeN draw k = (S, []) := by
  induction k with
  | zero => rfl
  | succ k ih =>
    rw [wakeN_succ, ih]
    unfold CS.wakeA
    rw [if_pos]
    show S.L.getD k 0 = 0
    rw [List.getD_eq_getElem?_getD]
    cases e : S.L[k]? with
    | none => rfl
    | some x => exact h x (List.mem_of_getElem? e)
set_option maxRecDepth 100000 in
/-- one query, in slot 0 -/
theorem wake_one {S : CS} {sl : Nat} (h : S.L = (List.replicate sl 0).set 0 1) (hsl : 1 ≤ sl) (draw : Int) (k : Nat) : S.wakeN draw (k + 1) = S.lookN 1 draw (S.wl 1) := by
  have h0 : ∀ T : CS, T.L = S.L → T.L.getD 0 0 = 1 := fun T e => by
    rw [e, h, List.getD_eq_getElem?_getD, List.getElem?_set_self (by rw [List.length_replicate]; omega)]; rfl
  induction k with
  | zero =>
    rw [wakeN_succ]
    show CS.wakeA draw (S, []) 0 = _
    unfold CS.wakeA
    simp only [h0 S rfl]
    rw [if_neg (by decide), List.nil_append]
  | succ k ih =>
    rw [wakeN_succ, ih]
    unfold CS.wakeA
    have hl := (lookN_lk S 1 draw (S.wl 1)).L
    rw [if_pos]
    show (S.lookN 1 draw (S.wl 1)).1.L.getD (k + 1) 0 = 0
    rw [hl, h, List.getD_eq_getElem?_getD, List.getElem?_set_ne (by omega), List.getElem?_replicate]
    split <;> rfl
set_option maxRecDepth 100000 in
theorem atL_has (id : Int) (L : List One) : (atL id L).2 = hasL id L := by
  unfold atL hasL
  cases e : L.find? (fun y => decide (y.2 = id)) with
  | none =>
    rw [List.find?_eq_none] at e
    symm
    rw [List.any_eq_false]
    intro x hx; exact e x hx
  | some y =>
    symm
    rw [List.any_eq_true]
    exact ⟨y, List.mem_of_find?_eq_some e, by have := List.find?_some e; simpa using this⟩
set_option maxRecDepth 100000 in
theorem askL_cong {S S' : CS} (hl : Lk S S') (id s : Nat) (t : Int) : S'.askL id s t = S.askL id s t := by
  unfold CS.askL
  obtain ⟨sh, hq⟩ := hl.Q id
  rw [hl.t, hl.c, hq]
set_option maxRecDepth 100000 in
theorem firstL_cong {S S' : CS} (hl : Lk S S') (s : Nat) : S'.firstL s = S.firstL s := by
  have : S'.liveJ s = S.liveJ s := by funext j; unfold CS.liveJ; rw [hl.t, hl.c, hl.now]
  unfold CS.firstL
  rw [hl.c, this]
set_option maxRecDepth 100000 in
theorem copN_at {c : CfgM} {s j : Nat} (hj : j < c.cp.toNat) : (copN c s)[j]? = some (1 + ((s : Int) + (j : Int)) % c.wk) := by
  unfold copN; rw [List.getElem?_map, List.getElem?_range hj]; rfl
set_option maxRecDepth 100000 in
theorem cop_bd {c : CfgM} (h : 1 ≤ c.wk) (s j : Nat) : 1 ≤ 1 + ((s : Int) + (j : Int)) % c.wk ∧ 1 + ((s : Int) + (j : Int)) % c.wk ≤ c.wk := by
  have h1 := Int.emod_nonneg ((s : Int) + (j : Int)) (show c.wk ≠ 0 by omega)
  have h2 := Int.emod_lt_of_pos ((s : Int) + (j : Int)) (show 0 < c.wk by omega)
  omega
/-- a shard's copy, by its place -/
def copW (c : CfgM) (s j : Nat) : Nat := (1 + ((s : Int) + (j : Int)) % c.wk).toNat
set_option maxRecDepth 100000 in
theorem copW_eq {c : CfgM} (h : 1 ≤ c.wk) (s j : Nat) : ((copW c s j : Nat) : Int) = 1 + ((s : Int) + (j : Int)) % c.wk := by
  unfold copW; have := cop_bd h s j; omega
set_option maxRecDepth 100000 in
theorem liveJ_eq {S : CS} {last : Nat → Int} (h : Heard S last) (hw : 1 ≤ S.c.wk) {s j : Nat} (hj : j < S.c.cp.toNat) : S.liveJ s j = decide (0 ≤ last (copW S.c s j) ∧ S.now ≤ last (copW S.c s j) + S.c.le) := by
  have e := copW_eq hw s j
  have hb := cop_bd hw s j
  unfold CS.liveJ
  rw [List.getD_eq_getElem?_getD, copN_at hj]
  show S.t.live (1 + ((s : Int) + (j : Int)) % S.c.wk) S.now = _
  rw [← e]
  exact heard_live h (by omega) (by omega)
set_option maxRecDepth 100000 in
theorem sub_over {S : CS} {sl ns : Nat} {q : ByteArray} {k n : Int} (h : Fresh S sl) (hsl : 1 ≤ sl) (hm : mayQ q k n = true) (hd : ((S.add q k n 0 ns).tell 1).isDone 1 = true) : ∀ x ∈ (S.sub q k n ns).L, x = 0 := by
  rw [sub_eq h hsl hm]
  unfold CS.goes
  rw [if_pos hd]
  show ∀ x ∈ freeL ((S.add q k n 0 ns).tell 1).L ((1 : Nat) : Int), x = 0
  rw [tell_L (ns := ns) h hsl hm]
  obtain ⟨m, rfl⟩ : ∃ m, sl = m + 1 := ⟨sl - 1, by omega⟩
  have e : (List.replicate (m + 1) 0).set 0 1 = 1 :: List.replicate m 0 := rfl
  rw [e]
  have e2 : freeL (1 :: List.replicate m 0) ((1 : Nat) : Int) = 0 :: List.replicate m 0 := by
    unfold freeL ofF
    rw [if_pos (by decide)]
    rfl
  rw [e2]
  intro x hx
  rcases List.mem_cons.1 hx with rfl | hx
  · rfl
  · exact List.eq_of_mem_replicate hx
set_option maxRecDepth 100000 in
theorem fresh_ok {S : CS} {sl : Nat} {last : Nat → Int} (h : Fresh S sl) (hh : Heard S last) (h1 : 1 ≤ sl) (h4 : sl ≤ 4) (ns : Nat) : S.OK ns 1000 := by
  have hno : ∀ id ∈ S.L, id ≠ 0 → False := fun id hm h0 => by rw [h.L] at hm; exact h0 (List.eq_of_mem_replicate hm)
  refine ⟨hh.ok, hh.now, ⟨fun s s' x hs _ hx => (hno x (List.mem_of_getElem? hs) hx).elim, fun x hx => by rw [h.L] at hx; rw [List.eq_of_mem_replicate hx]; exact Nat.zero_le _, by rw [h.L, List.length_replicate]; exact ⟨h1, h4⟩⟩, by rw [h.told]; decide, fun id h1 h2 => (hno id h1 h2).elim⟩
set_option maxRecDepth 100000 in
theorem cuts_bd {c : CfgM} (h : mayC c = true) : ∀ x ∈ c.cuts, -1000 ≤ x.1 ∧ x.1 ≤ 1000 := by
  unfold mayC goodE at h
  simp only [Bool.and_eq_true, decide_eq_true_eq] at h
  have h1 := h.1.2
  split at h1
  · omega
  · split at h1
    · omega
    · rename_i hb
      intro x hx
      rw [Bool.not_eq_true, List.any_eq_false] at hb
      have := hb x hx
      unfold badK at this
      simp at this
      omega
end
end Go.Proofs.YtinkbgeckjbnbaaGreat
namespace Go.Proofs.YtinkbgeckjbnbaaGreat
section
open Go.RowKit
set_option linter.unusedVariables false

/-- the bytes of a number, the most significant one first -/
def be (v : Nat) : Nat → List Nat
  | 0 => []
  | k + 1 => be (v / 256) k ++ [v % 256]
def u64 (n : Int) : Nat := (n % 18446744073709551616).toNat
end
end Go.Proofs.YtinkbgeckjbnbaaGreat
namespace Go.Proofs.YtinkbgeckjbnbaaGreat
section
open Go.RowKit
set_option linter.unusedVariables false

/-- the spare room while it is marked -/
def Spare (w wr : World) (g : Nat) (l : List Nat) (k : Nat) : Prop :=
  ∃ cs : List Value, Blk wr g 5 (u8s l ++ cs) ∧ cs.length = 3 ∧ cs.take k = List.replicate k (.int .u8 119) ∧ Below w.heap.size w wr
set_option maxRecDepth 100000 in
theorem Spare.next {w wr : World} {g : Nat} {l : List Nat} {k : Nat} {cs : List Value} (hb : Blk wr g 5 (u8s l ++ cs)) (h3 : cs.length = 3) (ht : cs.take k = List.replicate k (.int .u8 119)) (hbel : Below w.heap.size w wr)
    (hk : k < 3) (hg : w.heap.size ≤ g) : Spare w (wr.setCell ⟨g, l.length + k, none⟩ (.int .u8 119)) g l (k + 1) := by
  refine ⟨cs.set k (.int .u8 119), ?_, by simp [h3], ?_, hbel.setCell hg _⟩
  · have := hb.set (l.length + k) (.int .u8 119)
    rw [List.set_append_right _ _ (by rw [u8s_length]; omega), u8s_length, show l.length + k - l.length = k from by omega] at this
    exact this
  · rw [List.take_succ_eq_append_getElem (by simp; omega), List.take_set_of_le (by omega), ht, List.replicate_succ']
    simp
end
end Go.Proofs.YtinkbgeckjbnbaaGreat
namespace Go.Proofs.YtinkbgeckjbnbaaGreat
section
open Go.RowKit
set_option linter.unusedVariables false

set_option maxRecDepth 100000 in
theorem Frm.cell {S : Nat → Prop} {w w' : World} (h : Frm S w w') {p : Addr} (hp : p.block < w.heap.size) (hs : ¬ S p.block) : w'.cell? p = w.cell? p := World.cell?_of_block (w := w) (h.block p.block hp hs)
end
end Go.Proofs.YtinkbgeckjbnbaaGreat
namespace Go.Proofs.YtinkbgeckjbnbaaGreat
section
open Go
def poly : Nat := 3988292384
/-- one bit out -/
def step (c : Nat) : Nat := if c % 2 = 1 then (c / 2) ^^^ poly else c / 2
/-- all bits turned -/
def inv (c : Nat) : Nat := 4294967295 - c
end
end Go.Proofs.YtinkbgeckjbnbaaGreat
namespace Go.Proofs.YtinkbgeckjbnbaaGreat
section
open Go.RowKit
set_option linter.unusedVariables false

/-- its texts are of moderate size -/
def MV.short : MV → Prop
  | .ask s q h sq ep tx k b f d wd => tx.size ≤ 2000 ∧ wd.size ≤ 2000
  | .reply s q h sq wk ep l en => ∀ x ∈ l, x.2.size ≤ 2000
  | _ => True
set_option maxRecDepth 100000 in
theorem MV.short.small {m : MV} (h : m.short) : m.small := by
  cases m with
  | ask => exact ⟨by have := h.1; unfold maxLen; omega, by have := h.2; unfold maxLen; omega⟩
  | reply => exact fun x hx => by have := h x hx; unfold maxLen; omega
  | _ => trivial
set_option maxRecDepth 100000 in
theorem Rd.frm {S : Nat → Prop} {w w' : World} {a : Option Addr} {n c : Nat} {xs : List Value} (h : Rd w a n c xs) (hf : Frm S w w') (hne : ∀ b o, a = some ⟨b, o, none⟩ → ¬ S b) : Rd w' a n c xs := by
  obtain ⟨h1, h2, h3, h4, h5⟩ := h
  refine ⟨h1, h2, h3, h4, fun i hi => ?_⟩
  obtain ⟨b, o, e, hl, hc⟩ := h5 i hi
  exact ⟨b, o, e, Nat.lt_of_lt_of_le hl hf.size, by rw [Frm.cell hf (p := ⟨b, o + i, none⟩) hl (hne b o e)]; exact hc⟩
end
end Go.Proofs.YtinkbgeckjbnbaaGreat
