/- The document's table of distances: inkhornref5.Table, Runes. -/
import Derived.Test.YtiohngcmojkheaaBd1
import Derived.Test.YtiohngcmojkheaaFrm
namespace Go.Proofs.Ytiohngcmojkheaa
open Go.RowKit
set_option linter.unusedVariables false

def trow (a b : List Int) (i m : Nat) : List Value := (List.range m).map fun k => Value.int .i64 (Dm a b i k)
theorem trow_get (a b : List Int) (i : Nat) {m k : Nat} (h : k < m) : (trow a b i m)[k]? = some (.int .i64 (Dm a b i k)) := by unfold trow; rw [List.getElem?_map, List.getElem?_range h]; rfl
theorem trow_succ (a b : List Int) (i m : Nat) : trow a b i (m + 1) = trow a b i m ++ [.int .i64 (Dm a b i m)] := by unfold trow; rw [List.range_succ, List.map_append]; rfl
theorem trow_len (a b : List Int) (i m : Nat) : (trow a b i m).length = m := by simp [trow]
/-- the rows so far: where each lies -/
def tabV (m : Nat) (rs : List (Option Addr × Nat)) : List Value := rs.map fun p => Value.slice p.1 m p.2
structure TabOK (wr : World) (base : Nat) (a b : List Int) (i : Nat) (ao : Option Addr) (c : Nat) (rs : List (Option Addr × Nat)) : Prop where
  own : wr.ownsRow base 73 1 (.slice ao i c) i (tabV (b.length + 1) rs)
  len : rs.length = i
  rows : ∀ j p, rs[j]? = some p → wr.ownsRow base 3 1 (.slice p.1 (b.length + 1) p.2) (b.length + 1) (trow a b j (b.length + 1))
theorem TabOK.below {w w' : World} {base : Nat} {a b : List Int} {i : Nat} {ao : Option Addr} {c : Nat} {rs : List (Option Addr × Nat)} (h : TabOK w base a b i ao c rs) (hb : Below w.heap.size w w') : TabOK w' base a b i ao c rs :=
  ⟨ownsRow_below h.own hb, h.len, fun j p hp => ownsRow_below (h.rows j p hp) hb⟩
theorem own_cell {w : World} {base e : Nat} {g n cap : Nat} {xs : List Value} (h : w.ownsRow base e 1 (.slice (some ⟨g, 0, none⟩) n cap) n xs) {k : Nat} (hk : k < n) : w.cell? ⟨g, k, none⟩ = xs[k]? := by
  obtain ⟨sp, _, hb⟩ := ownsRow_blk h
  rw [hb.cell, List.getElem?_append_left (by rw [h.1]; omega)]
theorem min3_comm (x y z : Int) : min3 x y z = min3 z y x := by
  have h1 := min3_le x y z
  have h2 := min3_le z y x
  omega
theorem infoS : (Try.prog.info? 73).map (fun i => (i.zero, i.size, i.bytes)) = some (some (.slice none 0 0), 1, 24) := by kernel_rfl
theorem tab_snoc {w w' : World} {base base2 : Nat} {a b : List Int} {i : Nat} {ao a3 : Option Addr} {c c3 : Nat} {rs : List (Option Addr × Nat)} {ro : Option Addr} {rc : Nat} (h : TabOK w base a b i ao c rs) (hr : w.ownsRow base2 3 1 (.slice ro (b.length + 1) rc) (b.length + 1) (trow a b i (b.length + 1))) (hb : base ≤ base2)
    (ho : w'.ownsRow base 73 1 (.slice a3 (i + 1) c3) (i + 1) (tabV (b.length + 1) rs ++ [.slice ro (b.length + 1) rc])) (hg : w.grownBy w' (Value.ownBlock (.slice ao i c))) : TabOK w' base a b (i + 1) a3 c3 (rs ++ [(ro, rc)]) := by
  have hf : Frm (fun k => (Value.slice ao i c).ownBlock = some k) w w' := Frm.grown hg (fun g h => h)
  refine ⟨by unfold tabV at *; rw [List.map_append]; exact ho, by rw [List.length_append, h.len]; rfl, fun j p hp => ?_⟩
  by_cases hj : j < rs.length
  · rw [List.getElem?_append_left hj] at hp
    have h1 := h.rows j p hp
    exact ownsRow_frm h1 hf (fun k hk e => ownsRow_ne2 h1 h.own (by decide) k hk e)
  · rw [List.getElem?_append_right (by omega)] at hp
    have hj2 : j - rs.length = 0 := by
      have := (List.getElem?_eq_some_iff.1 hp).1
      simp at this
      omega
    rw [hj2] at hp
    simp at hp
    subst hp
    have hji : j = i := by rw [← h.len]; omega
    subst hji
    exact own0 (ownsRow_frm hr hf (fun k hk e => ownsRow_ne2 hr h.own (by decide) k hk e)) hb
def TbO (w : World) (a b : List Int) (v5 v6 : Value) (wr : World) : Prop := ∃ (i : Nat) (ao : Option Addr) (c : Nat) (rs : List (Option Addr × Nat)), i ≤ a.length + 1 ∧ v6 = .int .i64 i ∧ v5 = .slice ao i c ∧ RowKit.Hid (TabOK wr w.heap.size a b i ao c rs) ∧ RowKit.Hid (Below w.heap.size w wr)
def TbI (w : World) (a b : List Int) (i : Nat) (v7 v8 : Value) (wr : World) : Prop := ∃ (k : Nat) (ao : Option Addr) (c : Nat), k ≤ b.length + 1 ∧ v8 = .int .i64 k ∧ v7 = .slice ao k c ∧ RowKit.Hid (wr.ownsRow w.heap.size 3 1 (.slice ao k c) k (trow a b i k)) ∧ RowKit.Hid (Below w.heap.size w wr)
def TabEnd (w : World) (a b : List Int) (e : Ending) (w' : World) : Prop := ∃ ao c rs, e = .returned (.slice ao (a.length + 1) c) ∧ TabOK w' w.heap.size a b (a.length + 1) ao c rs ∧ Below w.heap.size w w'
set_option maxRecDepth 100000 in
set_option maxHeartbeats 8000000 in
theorem table_any (a : Option Addr) (n cap : Nat) (la : List Int) (b : Option Addr) (m bc : Nat) (lb : List Int) (w : World) (ha : RdR w a n cap la) (hb : RdR w b m bc lb) (h1 : la.length ≤ 1000) (h2 : lb.length ≤ 1000) :
    Calls Try.prog 78 #[.slice a n cap, .slice b m bc] w fun e w' => TabEnd w la lb e w' := by
  have hn := ha.len
  subst hn
  have hn := hb.len
  subst hn
  obtain ⟨i0, hi, hz0, hz1, hz2⟩ := info_parts infoI
  have HI := Lib.hid hi
  have HZ0 := Lib.hid hz0
  have HZ1 := Lib.hid hz1
  have HZ2 := Lib.hid hz2
  obtain ⟨i1, hi1, hy0, hy1, hy2⟩ := info_parts infoS
  have HJ := Lib.hid hi1
  have HY0 := Lib.hid hy0
  have HY1 := Lib.hid hy1
  have HY2 := Lib.hid hy2
  have HA := Lib.hid ha
  have HBB := Lib.hid hb
  have hcap := ha.2.1
  have hcap2 := hb.2.1
  clear hi hz0 hz1 hz2 ha hb hi1 hy0 hy1 hy2
  go_enter Try.func78, Try.ntmps78
  go_wp2_with fail
  go_loopw [5, 6] (fun v5 v6 wr => TbO w la lb v5 v6 wr) (fun _ v _ => la.length + 1 - (intOf v).toNat)
  case atStart => exact ⟨0, none, 0, [], by omega, rfl, rfl, ⟨World.ownsRow_nil _ _ _ _, rfl, fun j p h => by simp at h⟩, Below.refl _ _⟩
  case round =>
    obtain ⟨i, ao, c, rs, hi, rfl, rfl, HT, HB⟩ := hrel
    by_cases hlt : i ≤ la.length
    · have HBB0 := Lib.hid (Below.refl wr.heap.size wr)
      obtain ⟨wo, hwo⟩ : ∃ wo : World, wo = wr := ⟨_, rfl⟩
      have hlt2 : i < la.length + 1 := by omega
      subst hwo
      go_wp2_with fail
      go_loopw [7, 8] (fun v7 v8 wz => TbI wo la lb i v7 v8 wz) (fun _ v _ => lb.length + 1 - (intOf v).toNat)
      case atStart => exact ⟨0, none, 0, by omega, rfl, rfl, World.ownsRow_nil _ _ _ _, HBB0.out⟩
      case round =>
        clear HBB0
        obtain ⟨k, ro, rc, hk, rfl, rfl, HO, HW⟩ := hrel
        by_cases hltk : k ≤ lb.length
        · have hltk2 : k < lb.length + 1 := by omega
          by_cases hi0 : i = 0
          · have di : ((i : Int) == 0) = true := by simp; omega
            have HD := Lib.hid (show Dm la lb i k = (k : Int) from by rw [hi0, Dm_0j])
            clear hi0
            have A1 : k + 1 ≤ maxLen := by unfold maxLen; omega
            have A2 : (k + 1) * 8 ≤ 140737488355328 := by omega
            have HAL := Lib.hid ((Below.refl _ wr).alloc (Nat.le_refl _) (.cells #[.int .i64 (k : Int)] 3))
            have HO' := Lib.hid (ownsRow_below HO.out HAL.out)
            have hz : wo.heap.size ≤ (wr.alloc (.cells #[.int .i64 (k : Int)] 3)).heap.size := Nat.le_trans HW.out.size HAL.out.size
            have HBA := Lib.hid (HW.out.alloc HW.out.size (.cells #[.int .i64 (k : Int)] 3))
            have HSR := Lib.hid (Src.one' (P := Try.prog) Try.underlying73 wr (.int .i64 (k : Int)) 3 rfl)
            go_wp2_with (at_builtin; refine wpList_app rfl _ _ 73 73 rfl wo.heap.size 3 i0 (.int .i64 0) 1 8 Try.underlying73 HI.out HZ0.out HZ1.out HZ2.out rfl (by decide) ro k rc (trow la lb i k) rfl HO'.out _ 1 [.int .i64 (k : Int)] rfl HSR.out A1 A2 hz ?_; intro a3 c3 w5 hown5 hg5; have HO5 := Lib.hid (show w5.ownsRow wo.heap.size 3 1 (.slice a3 (k + 1) c3) (k + 1) (trow la lb i (k + 1)) from by rw [trow_succ, HD.out]; exact hown5); have HB5 := Lib.hid (HBA.out.grown hg5 hz (fun b hb => (HO'.out.lt b hb).1)); clear hown5 hg5)
            go_roundw
            case rel => exact ⟨k + 1, a3, c3, by omega, by go_num, rfl, HO5.out, HB5.out⟩
            case measure => simp [intOf]; omega
          · have di : ((i : Int) == 0) = false := by simp; omega
            by_cases hk0 : k = 0
            · have dk : ((k : Int) == 0) = true := by simp; omega
              have HD := Lib.hid (show Dm la lb i k = (i : Int) from by rw [hk0, Dm_i0 _ _ hlt])
              clear hi0 hk0
              have A1 : k + 1 ≤ maxLen := by unfold maxLen; omega
              have A2 : (k + 1) * 8 ≤ 140737488355328 := by omega
              have HAL := Lib.hid ((Below.refl _ wr).alloc (Nat.le_refl _) (.cells #[.int .i64 (i : Int)] 3))
              have HO' := Lib.hid (ownsRow_below HO.out HAL.out)
              have hz : wo.heap.size ≤ (wr.alloc (.cells #[.int .i64 (i : Int)] 3)).heap.size := Nat.le_trans HW.out.size HAL.out.size
              have HBA := Lib.hid (HW.out.alloc HW.out.size (.cells #[.int .i64 (i : Int)] 3))
              have HSR := Lib.hid (Src.one' (P := Try.prog) Try.underlying73 wr (.int .i64 (i : Int)) 3 rfl)
              go_wp2_with (at_builtin; refine wpList_app rfl _ _ 73 73 rfl wo.heap.size 3 i0 (.int .i64 0) 1 8 Try.underlying73 HI.out HZ0.out HZ1.out HZ2.out rfl (by decide) ro k rc (trow la lb i k) rfl HO'.out _ 1 [.int .i64 (i : Int)] rfl HSR.out A1 A2 hz ?_; intro a3 c3 w5 hown5 hg5; have HO5 := Lib.hid (show w5.ownsRow wo.heap.size 3 1 (.slice a3 (k + 1) c3) (k + 1) (trow la lb i (k + 1)) from by rw [trow_succ, HD.out]; exact hown5); have HB5 := Lib.hid (HBA.out.grown hg5 hz (fun b hb => (HO'.out.lt b hb).1)); clear hown5 hg5)
              go_roundw
              case rel => exact ⟨k + 1, a3, c3, by omega, by go_num, rfl, HO5.out, HB5.out⟩
              case measure => simp [intOf]; omega
            · have dk : ((k : Int) == 0) = false := by simp; omega
              obtain ⟨im, him⟩ : ∃ im, i - 1 = im := ⟨_, rfl⟩
              have hie : im + 1 = i := by omega
              obtain ⟨km, hkm⟩ : ∃ km, k - 1 = km := ⟨_, rfl⟩
              have hke : km + 1 = k := by omega
              have wi : IntKind.i64.wrap ((i : Int) - 1) = (im : Int) := by rw [IntWalk.i64_in _ (by omega)]; omega
              have wk : IntKind.i64.wrap ((k : Int) - 1) = (km : Int) := by rw [IntWalk.i64_in _ (by omega)]; omega
              obtain ⟨gt, rfl, hgt⟩ := ownsRow_some HT.out.own (by omega)
              obtain ⟨⟨po, pc⟩, hp⟩ : ∃ q, rs[im]? = some q := ⟨_, List.getElem?_eq_getElem (by rw [HT.out.len]; omega)⟩
              have hrow := HT.out.rows im (po, pc) hp
              obtain ⟨gp, hpo, hgp⟩ := ownsRow_some hrow (by omega)
              simp only at hpo hrow
              subst hpo
              obtain ⟨gr, rfl, hgr⟩ := ownsRow_some HO.out (by omega)
              have tc0 : wo.cell? ⟨gt, im, none⟩ = some (.slice (some ⟨gp, 0, none⟩) (lb.length + 1) pc) := by rw [own_cell HT.out.own (by omega)]; unfold tabV; rw [List.getElem?_map, hp]; rfl
              have tc := (HW.out.cell (p := ⟨gt, im, none⟩) (cell?_lt tc0)).trans tc0
              have pk0 : wo.cell? ⟨gp, k, none⟩ = some (.int .i64 (Dm la lb im k)) := by rw [own_cell hrow (by omega), trow_get _ _ _ (by omega)]
              have pk := (HW.out.cell (p := ⟨gp, k, none⟩) (cell?_lt pk0)).trans pk0
              have pm0 : wo.cell? ⟨gp, km, none⟩ = some (.int .i64 (Dm la lb im km)) := by rw [own_cell hrow (by omega), trow_get _ _ _ (by omega)]
              have pm := (HW.out.cell (p := ⟨gp, km, none⟩) (cell?_lt pm0)).trans pm0
              have rm : wr.cell? ⟨gr, km, none⟩ = some (.int .i64 (Dm la lb i km)) := by rw [own_cell HO.out (by omega), trow_get _ _ _ (by omega)]
              have hpc : lb.length + 1 ≤ pc := by
                have := ownsRow_rd hrow
                exact this.2.1
              have hrc : k ≤ rc := (ownsRow_rd HO.out).2.1
              have htc : i ≤ c := (ownsRow_rd HT.out.own).2.1
              obtain ⟨ga, oa, rfl, hbla, hca⟩ := HA.out.at (k := im) (by omega)
              have hWW := HB.out.trans (HW.out.mono HB.out.size)
              have ca := (hWW.cell (p := ⟨ga, oa + im, none⟩) hbla).trans hca
              obtain ⟨gb, ob, rfl, hblb, hcb⟩ := HBB.out.at (k := km) (by omega)
              have cb := (hWW.cell (p := ⟨gb, ob + km, none⟩) hblb).trans hcb
              have hss := Dm_ss la lb (i := im) km (by omega)
              rw [hie, hke] at hss
              have bu := Dm_bd la lb (i := im) k (by omega)
              have bv := Dm_bd la lb (i := i) km hlt
              have bt := Dm_bd la lb (i := im) km (by omega)
              obtain ⟨u, hu⟩ : ∃ x, Dm la lb im k = x := ⟨_, rfl⟩
              obtain ⟨v, hv⟩ : ∃ x, Dm la lb i km = x := ⟨_, rfl⟩
              obtain ⟨t, ht⟩ : ∃ x, Dm la lb im km = x := ⟨_, rfl⟩
              rw [hu] at pk hss bu
              rw [hv] at rm hss bv
              rw [ht] at pm hss bt
              have b1 : im < i := by omega
              have b2 : (0 : Int) ≤ (im : Int) := by omega
              have b3 : (im : Int) < (i : Int) := by omega
              have b4 : km < lb.length + 1 := by omega
              have b5 : (0 : Int) ≤ (km : Int) := by omega
              have b6 : (km : Int) < (lb.length : Int) + 1 := by omega
              have b7 : (k : Int) < (lb.length : Int) + 1 := by omega
              have b8 : (0 : Int) ≤ (k : Int) := by omega
              have b9 : km < k := by omega
              have b10 : (km : Int) < (k : Int) := by omega
              have b11 : im < la.length := by omega
              have b12 : (im : Int) < (la.length : Int) := by omega
              have b13 : km < lb.length := by omega
              have b14 : (km : Int) < (lb.length : Int) := by omega
              generalize la.getD im 0 = qa at *
              generalize lb.getD km 0 = qb at *
              have HSS := Lib.hid hss
              clear hp hrow tc0 pk0 pm0 hca hcb hu hv ht hWW hi0 hk0 him hie hkm hke hss
              by_cases hqr : qa = qb
              · subst hqr
                have dq : (qa != qa) = false := by simp
                obtain ⟨d, hd⟩ : ∃ d, (if v + 1 < (if u + 1 < t then u + 1 else t) then v + 1 else if u + 1 < t then u + 1 else t) = d := ⟨_, rfl⟩
                have HD := Lib.hid (show Dm la lb i k = d from by rw [HSS.out, if_pos rfl, Int.add_zero, min3_comm, ← hd]; rfl)
                clear HSS
                go_wp2_with fail
                go_quiet (fail)
                obtain ⟨q1, rfl⟩ : ∃ q, q = nq := ⟨_, rfl⟩
                go_wp2_with fail
                go_quiet (fail)
                have HON := Lib.hid (show ((wr.drewN q1).drewN nq).ownsRow wo.heap.size 3 1 (.slice (some ⟨gr, 0, none⟩) k rc) k (trow la lb i k) from HO.out)
                have HWN := Lib.hid (below_drewN (below_drewN HW.out q1) nq)
                clear HO HW
                generalize (wr.drewN q1).drewN nq = V at *
                clear tc pk pm rm ca cb
                try clear hd2
                clear hd

                have A1 : k + 1 ≤ maxLen := by unfold maxLen; omega
                have A2 : (k + 1) * 8 ≤ 140737488355328 := by omega
                have HAL := Lib.hid ((Below.refl _ V).alloc (Nat.le_refl _) (.cells #[.int .i64 d] 3))
                have HO' := Lib.hid (ownsRow_below HON.out HAL.out)
                have hz : wo.heap.size ≤ (V.alloc (.cells #[.int .i64 d] 3)).heap.size := Nat.le_trans HWN.out.size HAL.out.size
                have HBA := Lib.hid (HWN.out.alloc HWN.out.size (.cells #[.int .i64 d] 3))
                have HSR := Lib.hid (Src.one' (P := Try.prog) Try.underlying73 V (.int .i64 d) 3 rfl)
                go_wp2_with (at_builtin; refine wpList_app rfl _ _ 73 73 rfl wo.heap.size 3 i0 (.int .i64 0) 1 8 Try.underlying73 HI.out HZ0.out HZ1.out HZ2.out rfl (by decide) (some ⟨gr, 0, none⟩) k rc (trow la lb i k) rfl HO'.out _ 1 [.int .i64 d] rfl HSR.out A1 A2 hz ?_; intro a3 c3 w5 hown5 hg5; have HO5 := Lib.hid (show w5.ownsRow wo.heap.size 3 1 (.slice a3 (k + 1) c3) (k + 1) (trow la lb i (k + 1)) from by rw [trow_succ, HD.out]; exact hown5); have HB5 := Lib.hid (HBA.out.grown hg5 hz (fun b hb => (HO'.out.lt b hb).1)); clear hown5 hg5)
                go_roundw
                case rel => exact ⟨k + 1, a3, c3, by omega, by go_num, rfl, HO5.out, HB5.out⟩
                case measure => simp [intOf]; omega
              · have dq : (qa != qb) = true := by simpa using hqr
                obtain ⟨d, hd⟩ : ∃ d, (if v + 1 < (if u + 1 < t + 1 then u + 1 else t + 1) then v + 1 else if u + 1 < t + 1 then u + 1 else t + 1) = d := ⟨_, rfl⟩
                have hd2 : (if v + 1 < (if u < t then u + 1 else t + 1) then v + 1 else if u < t then u + 1 else t + 1) = d := by rw [← hd]; simp only [Int.add_lt_add_iff_right]
                have HD := Lib.hid (show Dm la lb i k = d from by rw [HSS.out, if_neg hqr, min3_comm, ← hd]; rfl)
                clear HSS hqr
                go_wp2_with fail
                go_quiet (fail)
                obtain ⟨q1, rfl⟩ : ∃ q, q = nq := ⟨_, rfl⟩
                go_wp2_with fail
                go_quiet (fail)
                have HON := Lib.hid (show ((wr.drewN q1).drewN nq).ownsRow wo.heap.size 3 1 (.slice (some ⟨gr, 0, none⟩) k rc) k (trow la lb i k) from HO.out)
                have HWN := Lib.hid (below_drewN (below_drewN HW.out q1) nq)
                clear HO HW
                generalize (wr.drewN q1).drewN nq = V at *
                clear tc pk pm rm ca cb
                try clear hd2
                clear hd

                have A1 : k + 1 ≤ maxLen := by unfold maxLen; omega
                have A2 : (k + 1) * 8 ≤ 140737488355328 := by omega
                have HAL := Lib.hid ((Below.refl _ V).alloc (Nat.le_refl _) (.cells #[.int .i64 d] 3))
                have HO' := Lib.hid (ownsRow_below HON.out HAL.out)
                have hz : wo.heap.size ≤ (V.alloc (.cells #[.int .i64 d] 3)).heap.size := Nat.le_trans HWN.out.size HAL.out.size
                have HBA := Lib.hid (HWN.out.alloc HWN.out.size (.cells #[.int .i64 d] 3))
                have HSR := Lib.hid (Src.one' (P := Try.prog) Try.underlying73 V (.int .i64 d) 3 rfl)
                go_wp2_with (at_builtin; refine wpList_app rfl _ _ 73 73 rfl wo.heap.size 3 i0 (.int .i64 0) 1 8 Try.underlying73 HI.out HZ0.out HZ1.out HZ2.out rfl (by decide) (some ⟨gr, 0, none⟩) k rc (trow la lb i k) rfl HO'.out _ 1 [.int .i64 d] rfl HSR.out A1 A2 hz ?_; intro a3 c3 w5 hown5 hg5; have HO5 := Lib.hid (show w5.ownsRow wo.heap.size 3 1 (.slice a3 (k + 1) c3) (k + 1) (trow la lb i (k + 1)) from by rw [trow_succ, HD.out]; exact hown5); have HB5 := Lib.hid (HBA.out.grown hg5 hz (fun b hb => (HO'.out.lt b hb).1)); clear hown5 hg5)
                go_roundw
                case rel => exact ⟨k + 1, a3, c3, by omega, by go_num, rfl, HO5.out, HB5.out⟩
                case measure => simp [intOf]; omega
        · obtain rfl : k = lb.length + 1 := by omega
          have A1 : i + 1 ≤ maxLen := by unfold maxLen; omega
          have A2 : (i + 1) * 24 ≤ 140737488355328 := by omega
          have HAL := Lib.hid ((Below.refl _ wr).alloc (Nat.le_refl _) (.cells #[.slice ro (lb.length + 1) rc] 73))
          have HWA := Lib.hid (HW.out.alloc HW.out.size (.cells #[.slice ro (lb.length + 1) rc] 73))
          have HTA := Lib.hid (HT.out.below HWA.out)
          have HRA := Lib.hid (ownsRow_below HO.out HAL.out)
          have HBA := Lib.hid (HB.out.trans (HWA.out.mono HB.out.size))
          have hz : w.heap.size ≤ (wr.alloc (.cells #[.slice ro (lb.length + 1) rc] 73)).heap.size := HBA.out.size
          have HSR := Lib.hid (Src.one' (P := Try.prog) Try.underlying78 wr (.slice ro (lb.length + 1) rc) 73 rfl)
          have hwo := HB.out.size
          have hnk : ¬ lb.length + 1 ≤ lb.length := by omega
          clear hltk
          go_wp2_with (at_builtin; refine wpList_app rfl _ _ 78 78 rfl w.heap.size 73 i1 (.slice none 0 0) 1 24 Try.underlying78 HJ.out HY0.out HY1.out HY2.out rfl (by decide) ao i c (tabV (lb.length + 1) rs) rfl HTA.out.own _ 1 [.slice ro (lb.length + 1) rc] rfl HSR.out A1 A2 hz ?_; intro a3 c3 w5 hown5 hg5; have HT5 := Lib.hid (tab_snoc HTA.out HRA.out hwo hown5 hg5); have HB5 := Lib.hid (HBA.out.grown hg5 hz (fun b hb => (HTA.out.own.lt b hb).1)); clear hown5 hg5)
          go_roundw
          case rel => exact ⟨i + 1, a3, c3, rs ++ [(ro, rc)], by omega, by go_num, rfl, HT5.out, HB5.out⟩
          case measure => simp [intOf]; omega
    · obtain rfl : i = la.length + 1 := by omega
      have hlf : ¬ la.length + 1 ≤ la.length := by omega
      have HE := Lib.hid (show TabEnd w la lb (.returned (.slice ao (la.length + 1) c)) wr from ⟨ao, c, rs, rfl, HT.out, HB.out⟩)
      clear hlt
      go_wp2_with fail
      go_ret
      exact HE.out
end Go.Proofs.Ytiohngcmojkheaa
