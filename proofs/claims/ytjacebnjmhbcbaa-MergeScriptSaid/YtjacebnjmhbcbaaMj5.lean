/- The walk of MergeScript. -/
import Derived.Test.YtjacebnjmhbcbaaMj2
import Derived.Test.YtjacebnjmhbcbaaMj3
import Derived.Test.YtjacebnjmhbcbaaMj4
namespace Go.Proofs.Ytjacebnjmhbcbaa
open Go.RowKit
set_option linter.unusedVariables false

theorem lent_rd {w : World} {g n : Nat} {l : List KeyL} (h : Blk w g 31 (l.flatMap KeyL.cells ++ marksI 3)) (hl : l.length = n) (hn : n ≤ 1000) : RdE KeyL.cells 2 w (some ⟨g, 0, none⟩) n (n + 3) l := by
  subst hl
  exact Blk.rdE (enc := KeyL.cells) (fun _ => rfl) h (l.length + 3) (by omega) (by unfold maxLen; omega)
theorem lent_own {w : World} {g n : Nat} {l : List KeyL} (h : Blk w g 31 (l.flatMap KeyL.cells ++ marksI 3)) (hl : l.length = n) (hn : n ≤ 1000) : w.ownsRow g 31 2 (.slice (some ⟨g, 0, none⟩) n (n + 3)) n (l.flatMap KeyL.cells) := by
  have h2 := ilen l
  have h3 := marksI_len 3
  refine ⟨by rw [h2, hl], .inr ⟨g, n + 3, (l.flatMap KeyL.cells ++ marksI 3).toArray, rfl, Nat.le_refl _, h, by omega, by unfold maxLen; omega, ?_, ?_⟩⟩
  · simp only [List.size_toArray, List.length_append]
    rw [h2, h3, hl]; omega
  · rw [List.take_append_of_le_length (by rw [h2, hl]; exact Nat.le_refl _), List.take_of_length_le (by rw [h2, hl]; exact Nat.le_refl _)]
theorem keptM {w : World} {g n cap : Nat} {a : Option Addr} {l : List KeyL} (hl : l.length = n) (hn : n ≤ 1000) (hk : Blk w g 31 (l.flatMap KeyL.cells ++ marksI 3)) (hr : RdE KeyL.cells 2 w a n cap l) :
    Calls Try.prog 23 #[.slice (some ⟨g, 0, none⟩) n (n + 3), .slice a n cap] w fun e w' => e = .returned (.bool true) ∧ Drew w w' := by
  have := keptI_any g a n cap l l w (by omega) hk hr
  rw [hl, show eqIs l l = true from by simp [eqIs]] at this
  exact this
def ScR (w : World) (p q : Nat) (n : Int) (N : Nat) (v : Value) (wr : World) : Prop := ∃ (i : Nat) (S : List PS) (T : List KeyL), i ≤ N ∧ v = .int .i64 i ∧ RowKit.Hid (J2 w wr p q n S T S T) ∧ RowKit.Hid (∀ s ∈ S, 0 ≤ s.seq ∧ s.seq ≤ (i : Int))
set_option maxRecDepth 100000 in
set_option maxHeartbeats 8000000 in
theorem mscript_any (a1 : Option Addr) (n1 cap1 : Nat) (L1 : List Int) (n : Int) (a2 : Option Addr) (n2 cap2 : Nat) (L : List ActM) (w : World) (hr1 : Rd w a1 n1 cap1 (ints L1)) (hr2 : RdE ActM.cells 5 w a2 n2 cap2 L) (hs : ∀ x ∈ L, RdE KeyL.cells 2 w x.a x.n x.cap x.l ∧ ∀ y ∈ x.l, y.2.size ≤ maxLen) :
    Calls Try.prog 4 #[.slice a1 n1 cap1, .int .i64 n, .slice a2 n2 cap2] w fun e w' => e = .returned (.bool true) ∧ Below w.heap.size w w' := by
  have HG := Lib.hid (greatM_any a2 n2 cap2 L w hr2 hs)
  have HR1 := Lib.hid hr1
  have HR2 := Lib.hid hr2
  have HS := Lib.hid hs
  have HN2 := Lib.hid hr2.1
  have hc1 := hr1.2.1
  have hc2 := hr1.2.2.1
  clear hr1 hr2 hs
  go_enter Try.func4, Try.ntmps4
  go_wp2_with fail
  refine HG.out.mono ?_
  rintro e w' ⟨rfl, rfl⟩
  cases hg : greatM L with
  | true =>
    clear hg HR1 HR2 HS HG HN2
    go_wp2_with fail
    refine (awake_any _).mono ?_
    rintro e w2 ⟨rfl, hb⟩
    have HB := Lib.hid hb
    clear hb
    go_wp2_with fail
    go_ret
    exact ⟨rfl, HB.out⟩
  | false =>
    have hgm := greatM_false hg
    have hn60 : n2 ≤ 60 := by rw [← HN2.out]; exact hgm.1
    have HGS := Lib.hid hgm.2
    clear hg hgm HG
    by_cases h10 : 10 < n1
    · have d1 : decide (10 < n1) = true := by simpa using h10
      have d1' : decide ((10 : Int) < (n1 : Int)) = true := by simp; omega
      clear HR1 HR2 HS HN2 HGS
      go_wp2_with fail
      refine (awake_any _).mono ?_
      rintro e w2 ⟨rfl, hb⟩
      have HB := Lib.hid hb
      clear hb
      go_wp2_with fail
      go_ret
      exact ⟨rfl, HB.out⟩
    · have d1 : decide (10 < n1) = false := by simpa using h10
      have d1' : decide ((10 : Int) < (n1 : Int)) = false := by simp; omega
      go_wp2_with fail
      by_cases hbad : n1 = 0 ∨ 6 < n1 ∨ n < 1 ∨ 10 < n
      · refine (mnew_no a1 n1 cap1 n w ⟨hc1, hc2⟩ hbad).mono ?_
        rintro e w' ⟨rfl, rfl⟩
        go_wp2_with fail
        refine (rnew_no a1 n1 cap1 n _ hbad).mono ?_
        rintro e w' ⟨rfl, rfl⟩
        go_wp2_with fail
        refine (num_any 2 _).mono ?_
        rintro e w' ⟨rfl, rfl⟩
        have hq1 : ∀ W : World, (binOp .eql 25 (.pointer none) (.pointer none)).run Try.prog W = .ok (.bool true) W := fun W => by kernel_rfl
        have hq2 : ∀ W : World, (binOp .eql 41 (.pointer none) (.pointer none)).run Try.prog W = .ok (.bool true) W := fun W => by kernel_rfl
        clear HR1 HR2 HS HN2 HGS
        go_wp2_with fail
        refine (awake_any _).mono ?_
        rintro e w2 ⟨rfl, hb⟩
        have HB := Lib.hid hb
        clear hb
        go_wp2_with fail
        go_ret
        exact ⟨rfl, HB.out⟩
      · have hn1 : 1 ≤ n1 ∧ n1 ≤ 6 ∧ 1 ≤ n ∧ n ≤ 10 := by omega
        clear hbad
        obtain ⟨g1, g2, g3, g4⟩ := hn1
        refine (mnew_any a1 n1 cap1 L1 n w HR1.out g1 g2 g3 g4).mono ?_
        rintro e w1 ⟨rfl, hM, hb1⟩
        have HM := Lib.hid hM
        have HB1 := Lib.hid hb1
        clear hM hb1
        go_wp2_with fail
        refine (rnew_any a1 n1 cap1 L1 n w1 (HR1.out.below HB1.out rfl) g1 g2 g3 g4).mono ?_
        rintro e w2 ⟨rfl, hR, hb2⟩
        have hj : J2 w w2 w.heap.size w1.heap.size n (L1.map newPS) [] (L1.map newPS) [] := by
          obtain ⟨gs, c, M, sp, ta, tc, hX⟩ := HM.out.x
          obtain ⟨qs, c', R, sp', ta', tc', hY, hge, hta, hwa⟩ := hR
          refine ⟨gs, c, M, sp, ta, tc, qs, c', R, sp', ta', tc', hX.below hb2, hY, fun k h => ?_, HB1.out.size, Nat.le_trans HB1.out.size hge, HB1.out.trans (hb2.mono HB1.out.size), by simp; omega, by simp; omega⟩
          rcases h with ⟨o, s, e⟩ | ⟨i, m, o, s, hm, e⟩
          · rw [hta] at e; cases e
          · rw [hwa i m hm] at e; cases e
        have HJ := Lib.hid hj
        clear hR hb2 hj HM HB1 HR1
        generalize hqq : w1.heap.size = q at *
        clear hqq
        have HSQ0 : RowKit.Hid (∀ s ∈ L1.map newPS, 0 ≤ s.seq ∧ s.seq ≤ ((0 : Nat) : Int)) := by
          intro s hs
          obtain ⟨d, _, rfl⟩ := List.mem_map.1 hs
          exact ⟨by show (0 : Int) ≤ 0; omega, by show (0 : Int) ≤ 0; omega⟩
        go_wp2_with fail
        refine (num_any 0 _).mono ?_
        rintro e w' ⟨rfl, rfl⟩
        have hq1 : ∀ W : World, (binOp .eql 25 (.pointer (some ⟨w.heap.size, 0, none⟩)) (.pointer none)).run Try.prog W = .ok (.bool false) W := fun W => ptr_ne _ _ W
        have hq2 : ∀ W : World, (binOp .eql 41 (.pointer (some ⟨q, 0, none⟩)) (.pointer none)).run Try.prog W = .ok (.bool false) W := fun W => by kernel_rfl
        go_wp2_with fail
        go_loopw [11] (fun v wr => ScR w w.heap.size q n n2 v wr) (fun v _ => n2 - (intOf v).toNat)
        case atStart => exact ⟨0, _, _, Nat.zero_le _, rfl, HJ.out, HSQ0.out⟩
        case round =>
          clear HJ HSQ0
          obtain ⟨i, S, T, hi, rfl, HJ, HSQ⟩ := hrel
          by_cases hlt : i < n2
          · obtain ⟨x, hx⟩ : ∃ x, L[i]? = some x := ⟨_, List.getElem?_eq_getElem (show i < L.length by rw [HN2.out]; exact hlt)⟩
            have hmem := List.mem_of_getElem? hx
            obtain ⟨hl80, hlz⟩ := greatI_false (HGS.out x hmem)
            have hrd := (HS.out x hmem).1
            have hln := hrd.1
            obtain ⟨b, o, rfl, x0, x1, x2, x3, x4, hbl⟩ := (HR2.out.below HJ.out.bel rfl).at5 hx
            have k1 : (0 : Int) ≤ (i : Int) := by omega
            have k2 : (i : Int) < (n2 : Int) := by omega
            have hx80 : x.n ≤ 80 := by rw [← hln]; exact hl80
            have hbx : Blk (wr.alloc (.cells #[.bool x.tl, .bool x.en, .int .i64 x.sh, .int .i64 x.sq, .slice x.a x.n x.cap] 46)) wr.heap.size 46 [.bool x.tl, .bool x.en, .int .i64 x.sh, .int .i64 x.sq, .slice x.a x.n x.cap] := heap_alloc_new wr _
            have hba : Below wr.heap.size wr (wr.alloc (.cells #[.bool x.tl, .bool x.en, .int .i64 x.sh, .int .i64 x.sq, .slice x.a x.n x.cap] 46)) := (Below.refl _ _).alloc (Nat.le_refl _) _
            have hj1 := HJ.out.below hba
            have z4 := (hbx.cell 4).trans (show _ = some (.slice x.a x.n x.cap) from rfl)
            have HBX := Lib.hid hbx
            have HJ1 := Lib.hid hj1
            have HRX := Lib.hid hrd
            have HLN := Lib.hid hln
            have HLZ := Lib.hid (fun y (hy : y ∈ x.l) => show y.2.size ≤ 1000000 by have := hlz y hy; omega)
            have hsz6 : ∀ s ∈ S, 0 ≤ s.seq ∧ s.seq ≤ 1000000 := fun s hs' => by have := HSQ.out s hs'; omega
            have HSZ := Lib.hid hsz6
            clear hx hmem hl80 hlz hrd hln hbx hba hj1 hsz6 HJ
            go_wp2_with fail
            generalize wr.alloc (.cells #[.bool x.tl, .bool x.en, .int .i64 x.sh, .int .i64 x.sq, .slice x.a x.n x.cap] 46) = u1 at *
            generalize wr.heap.size = xb at *
            refine (lendI_any x.a x.n x.cap x.l u1 (HRX.out.below HJ1.out.bel rfl) (by omega)).mono ?_
            rintro e u2 ⟨rfl, hk, hb⟩
            have hja := HJ1.out.lend hb (lent_own hk HLN.out (by omega))
            have hbx2 := HBX.out.below hb HBX.out.lt
            have z0 := (hbx2.cell 0).trans (show _ = some (.bool x.tl) from rfl)
            have z1 := (hbx2.cell 1).trans (show _ = some (.bool x.en) from rfl)
            have z2 := (hbx2.cell 2).trans (show _ = some (.int .i64 x.sh) from rfl)
            have z3 := (hbx2.cell 3).trans (show _ = some (.int .i64 x.sq) from rfl)
            have z4' := (hbx2.cell 4).trans (show _ = some (.slice x.a x.n x.cap) from rfl)
            obtain ⟨r, hr0⟩ : ∃ r, (putP n S T x.sh x.sq x.l x.en).1 = r := ⟨_, rfl⟩
            obtain ⟨S2, hS2⟩ : ∃ r, (putP n S T x.sh x.sq x.l x.en).2 = r := ⟨_, rfl⟩
            have HPE : RowKit.Hid (putP n S T x.sh x.sq x.l x.en = (r, S2)) := by rw [← hr0, ← hS2]; exact rfl
            have HSQ2 : RowKit.Hid (∀ s ∈ S2, 0 ≤ s.seq ∧ s.seq ≤ (i : Int) + 1) := by rw [← hS2]; exact putP_seq HSQ.out
            have hrr : (r != r) = false := by simp
            have HJD : RowKit.Hid (J2a w u2.drew w.heap.size q n S T S T u1.heap.size (.slice (some ⟨u1.heap.size, 0, none⟩) x.n (x.n + 3)) x.n (x.l.flatMap KeyL.cells)) := hja.below (below_drewN (Below.refl _ _) 1)
            have HKD : RowKit.Hid (Blk u2.drew u1.heap.size 31 (x.l.flatMap KeyL.cells ++ marksI 3)) := hk
            have HBD : RowKit.Hid (Blk u2.drew xb 46 [.bool x.tl, .bool x.en, .int .i64 x.sh, .int .i64 x.sq, .slice x.a x.n x.cap]) := hbx2
            have HRW := Lib.hid (fun W (hb' : Below w.heap.size w W) => HRX.out.below hb' rfl)
            clear hr0 hS2 hja hk hb hbx2 HJ1 HBX HRX z4 HSQ
            generalize u1.heap.size = g at *
            go_wp2_with fail
            go_region_held3 (fun w' => w'.cell? ⟨xb, 1, none⟩ = some (.bool x.en) ∧ w'.cell? ⟨xb, 2, none⟩ = some (.int .i64 x.sh) ∧ w'.cell? ⟨xb, 3, none⟩ = some (.int .i64 x.sq) ∧ w'.cell? ⟨xb, 4, none⟩ = some (.slice x.a x.n x.cap)) (exact ⟨(HBD.out.cell 1).trans rfl, (HBD.out.cell 2).trans rfl, (HBD.out.cell 3).trans rfl, (HBD.out.cell 4).trans rfl⟩) (first | (go_at_call 13; refine (ja_mput HJD.out (lent_rd HKD.out HLN.out (by omega)) HSZ.out HPE.out).mono ?_; rintro e' v ⟨rfl, hj, hf⟩; have HKN := Lib.hid (HKD.out.frm hf (fun ⟨cs, h'⟩ => blk_ne h' HKD.out (by decide) rfl)); have HBN := Lib.hid (HBD.out.frm hf (fun ⟨cs, h'⟩ => blk_ne h' HBD.out (by decide) rfl)); have HJN := Lib.hid hj; clear HKD HBD HJD; have HKD := HKN; have HBD := HBN; have HJD := HJN; clear HKN HBN HJN hj hf) | (go_at_call 22; refine (ja_rput HJD.out (HRW.out _ HJD.out.j.bel) HLZ.out HSZ.out (by omega) HPE.out).mono ?_; rintro e' v ⟨rfl, hj, hf⟩; have HKN := Lib.hid (HKD.out.frm hf (fun ⟨cs, h'⟩ => blk_ne h' HKD.out (by decide) rfl)); have HBN := Lib.hid (HBD.out.frm hf (fun ⟨cs, h'⟩ => blk_ne h' HBD.out (by decide) rfl)); have HJN := Lib.hid hj; clear HKD HBD HJD; have HKD := HKN; have HBD := HBN; have HJD := HJN; clear HKN HBN HJN hj hf) | (go_at_call 23; refine (keptM HLN.out (by omega) HKD.out (HRW.out _ HJD.out.j.bel)).mono ?_; rintro e' v ⟨rfl, hd⟩; have HKN := Lib.hid (HKD.out.below (hd.below _) HKD.out.lt); have HBN := Lib.hid (HBD.out.below (hd.below _) HBD.out.lt); have HJN := Lib.hid (HJD.out.below (hd.below _)); clear HKD HBD HJD; have HKD := HKN; have HBD := HBN; have HJD := HJN; clear HKN HBN HJN hd))
            all_goals
              go_wp2_with fail
              refine (overI_any g x.n (x.n + 3) (some ⟨g, 0, none⟩) _ _ HJD.out.1 (by omega)).mono ?_
              rintro e2 v2 ⟨rfl, hf⟩
              have hj2 := HJD.out.over hf
              have hbx3 := HBD.out.frm hf (fun e => ownsRow_ne HJD.out.1 HBD.out (by decide) xb e rfl)
              have y0 := (hbx3.cell 0).trans (show _ = some (.bool x.tl) from rfl)
              have y2 := (hbx3.cell 2).trans (show _ = some (.int .i64 x.sh) from rfl)
              have HJ3 := Lib.hid hj2
              have HBX3 := Lib.hid hbx3
              clear hf hj2 hbx3 HJD HBD HKD HPE HRW HLZ HLN HSZ z0 z1 z2 z3 z4'
              obtain ⟨tl, htl⟩ : ∃ b, x.tl = b := ⟨_, rfl⟩
              rw [htl] at y0
              clear htl
              cases tl with
              | false =>
                go_wp2_with fail
                refine (jsame_any w v2 w.heap.size q n S2 T x.sh HJ3.out).mono ?_
                rintro e3 v3 ⟨rfl, hb⟩
                have HJ4 := Lib.hid (HJ3.out.below hb)
                clear hb HJ3 HBX3
                go_wp2_with fail
                go_roundw
                case rel => exact ⟨i + 1, S2, T, by omega, by go_num, HJ4.out, fun s hs' => by have := HSQ2.out s hs'; omega⟩
                case measure => simp [intOf]; omega
              | true =>
                obtain ⟨l3, hl3⟩ : ∃ l, (tellP n S2 T).1 = l := ⟨_, rfl⟩
                obtain ⟨S3, hS3⟩ : ∃ l, (tellP n S2 T).2.1 = l := ⟨_, rfl⟩
                obtain ⟨T3, hT3⟩ : ∃ l, (tellP n S2 T).2.2 = l := ⟨_, rfl⟩
                have HTP : RowKit.Hid (tellP n S2 T = (l3, S3, T3)) := by rw [← hl3, ← hS3, ← hT3]; exact rfl
                have HS3 : RowKit.Hid (∀ s ∈ S3, 0 ≤ s.seq ∧ s.seq ≤ (i : Int) + 1) := by rw [← hS3]; exact tellA_seq _ S2 T [] HSQ2.out
                have hl1000 : l3.length ≤ 1000 := by
                  have := tellA_out (n := n) (n.toNat - T.length) S2 T []
                  rw [show (tellA n (n.toNat - T.length) S2 T []).1 = l3 from hl3] at this
                  simp at this
                  omega
                clear hl3 hS3 hT3
                go_wp2_with fail
                refine (j_mtell HJ3.out HTP.out).mono ?_
                rintro e3 v3 ⟨ao3, c3, rfl, hja, hna⟩
                have HJ4 := Lib.hid hja
                have HB4 := Lib.hid (hna.blk HBX3.out)
                clear hja hna HJ3 HBX3
                go_wp2_with fail
                refine (j_rtell HJ4.out HTP.out).mono ?_
                rintro e4 v4 ⟨ao4, c4, rfl, hrd4, hja, hna⟩
                have HJ5 := Lib.hid hja
                have HB5 := Lib.hid (hna.blk HB4.out)
                have HR4 := Lib.hid hrd4
                clear hja hna hrd4 HJ4 HB4
                go_wp2_with fail
                refine (sameI_any ao3 _ c3 ao4 _ c4 l3 l3 v4 (rdE_own rfl HJ5.out.1) HR4.out).mono ?_
                rintro e5 v5 ⟨rfl, hd⟩
                have hbb := hd.below v4.heap.size
                have HJ6 := Lib.hid (HJ5.out.below hbb)
                have HB6 := Lib.hid (HB5.out.below hbb HB5.out.lt)
                clear hd hbb HJ5 HB5 HR4
                rw [show eqIs l3 l3 = true from by simp [eqIs]]
                go_wp2_with fail
                refine (overI_any _ l3.length c3 ao3 _ _ HJ6.out.1 hl1000).mono ?_
                rintro e6 v6 ⟨rfl, hf⟩
                have HJ7 := Lib.hid (HJ6.out.over hf)
                have hbx7 := HB6.out.frm hf (fun e => ownsRow_ne HJ6.out.1 HB6.out (by decide) xb e rfl)
                have y2' := (hbx7.cell 2).trans (show _ = some (.int .i64 x.sh) from rfl)
                clear hf hbx7 HJ6 HB6
                go_wp2_with fail
                refine (jsame_any w v6 w.heap.size q n S3 T3 x.sh HJ7.out).mono ?_
                rintro e7 v7 ⟨rfl, hb⟩
                have HJ8 := Lib.hid (HJ7.out.below hb)
                clear hb HJ7
                go_wp2_with fail
                go_roundw
                case rel => exact ⟨i + 1, S3, T3, by omega, by go_num, HJ8.out, fun s hs' => by have := HS3.out s hs'; omega⟩
                case measure => simp [intOf]; omega
          · have hin : i = n2 := by omega
            subst hin
            clear hlt HSQ HR2 HS HN2 HGS
            go_wp2_with fail
            refine (awake_any _).mono ?_
            rintro e w3 ⟨rfl, hb⟩
            have HB3 := Lib.hid ((HJ.out.below hb).bel)
            clear hb HJ
            go_wp2_with fail
            go_ret
            exact ⟨rfl, HB3.out⟩
end Go.Proofs.Ytjacebnjmhbcbaa
