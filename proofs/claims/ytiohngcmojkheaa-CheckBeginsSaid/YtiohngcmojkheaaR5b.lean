/- The document's Runes over its table of distances, and its Distance. -/
import Derived.Test.YtiohngcmojkheaaR5a
import Derived.Test.YtiohngcmojkheaaRef3
import Derived.Test.YtiohngcmojkheaaDst
namespace Go.Proofs.Ytiohngcmojkheaa
open Go.RowKit
set_option linter.unusedVariables false

theorem rrunesD_any (a : Option Addr) (n cap : Nat) (la : List Int) (b : Option Addr) (m bc : Nat) (lb : List Int) (w : World) (ha : RdR w a n cap la) (hb : RdR w b m bc lb) (h1 : la.length ≤ 1000) (h2 : lb.length ≤ 1000) :
    Calls Try.prog 70 #[.slice a n cap, .slice b m bc] w fun e w' => e = .returned (.int .i64 (distL la lb)) ∧ Below w.heap.size w w' := by
  have hn := ha.len
  subst hn
  have hn := hb.len
  subst hn
  have HR := Lib.hid (table_any a la.length cap la b lb.length bc lb w ha hb h1 h2)
  have hcap := ha.2.1
  have hcap2 := hb.2.1
  obtain ⟨d, hd⟩ : ∃ d, distL la lb = d := ⟨_, rfl⟩
  rw [hd]
  have HD := Lib.hid hd
  clear ha hb hd
  go_enter Try.func70, Try.ntmps70
  go_wp2_with fail
  refine HR.out.mono ?_
  rintro e wt ⟨ao, c, rs, rfl, hT, hb⟩
  have HB := Lib.hid hb
  clear hb
  obtain ⟨gt, rfl, hgt⟩ := ownsRow_some hT.own (by omega)
  obtain ⟨⟨po, pc⟩, hp⟩ : ∃ q, rs[la.length]? = some q := ⟨_, List.getElem?_eq_getElem (by rw [hT.len]; omega)⟩
  have hrow := hT.rows la.length (po, pc) hp
  obtain ⟨gp, hpo, hgp⟩ := ownsRow_some hrow (by omega)
  simp only at hpo hrow
  subst hpo
  have tc : wt.cell? ⟨gt, la.length, none⟩ = some (.slice (some ⟨gp, 0, none⟩) (lb.length + 1) pc) := by rw [own_cell hT.own (by omega)]; unfold tabV; rw [List.getElem?_map, hp]; rfl
  have pk : wt.cell? ⟨gp, lb.length, none⟩ = some (.int .i64 d) := by rw [own_cell hrow (by omega), trow_get _ _ _ (by omega), ← HD.out, distL_Dm]
  have hpc : lb.length + 1 ≤ pc := by
    have := ownsRow_rd hrow
    exact this.2.1
  have htc : la.length + 1 ≤ c := by
    have := ownsRow_rd hT.own
    exact this.2.1
  clear hT hrow hp HR
  go_wp2_with fail
  go_ret
  exact ⟨rfl, HB.out⟩
set_option maxHeartbeats 1000000 in
theorem rdistance_any (s t : ByteArray) (w : World) (h1 : s.size ≤ 1000) (h2 : t.size ≤ 1000) :
    Calls Try.prog 53 #[.string s, .string t] w fun e w' => e = .returned (.int .i64 (distT s t)) ∧ Below w.heap.size w w' := by
  have HA := Lib.hid (fun W => rrunes_any s W (by omega))
  have HB := Lib.hid (fun W => rrunes_any t W (by omega))
  obtain ⟨d, hd⟩ : ∃ d, distT s t = d := ⟨_, rfl⟩
  rw [hd]
  have HD := Lib.hid hd
  clear hd
  cases hs : runesO s with
  | none =>
    rw [hs] at HA
    have HSO := Lib.hid hs
    clear hs
    go_enter Try.func53, Try.ntmps53
    go_wp2_with fail
    refine (HA.out _).mono ?_
    rintro e w1 ⟨rfl, hb⟩
    have HB1 := Lib.hid hb
    clear hb
    cases ht : runesO t with
    | none =>
      rw [ht] at HB
      have HTO := Lib.hid ht
      clear ht
      go_wp2_with fail
      refine (HB.out _).mono ?_
      rintro e w2 ⟨rfl, hb⟩
      have HB2 := Lib.hid (HB1.out.trans (hb.mono HB1.out.size))
      clear hb
      go_wp2_with fail
      go_ret
      obtain rfl : d = -1 := by rw [← HD.out]; exact distT_none1 HSO.out
      exact ⟨rfl, HB2.out⟩
    | some lb =>
      rw [ht] at HB
      have HTO := Lib.hid ht
      clear ht
      go_wp2_with fail
      refine (HB.out _).mono ?_
      rintro e w2 ⟨⟨ao, c, rfl, hr⟩, hb⟩
      have HB2 := Lib.hid (HB1.out.trans (hb.mono HB1.out.size))
      clear hb hr
      go_wp2_with fail
      go_ret
      obtain rfl : d = -1 := by rw [← HD.out]; exact distT_none1 HSO.out
      exact ⟨rfl, HB2.out⟩
  | some la =>
    have hl1 := runesO_le hs
    rw [hs] at HA
    have HSO := Lib.hid hs
    clear hs
    go_enter Try.func53, Try.ntmps53
    go_wp2_with fail
    refine (HA.out _).mono ?_
    rintro e w1 ⟨⟨ao, c, rfl, hr⟩, hb⟩
    have HB1 := Lib.hid hb
    have HR1 := Lib.hid hr
    clear hb hr
    cases ht : runesO t with
    | none =>
      rw [ht] at HB
      have HTO := Lib.hid ht
      clear ht
      go_wp2_with fail
      refine (HB.out _).mono ?_
      rintro e w2 ⟨rfl, hb⟩
      have HB2 := Lib.hid (HB1.out.trans (hb.mono HB1.out.size))
      clear hb
      go_wp2_with fail
      go_ret
      obtain rfl : d = -1 := by rw [← HD.out]; exact distT_none2 HTO.out
      exact ⟨rfl, HB2.out⟩
    | some lb =>
      have hl2 := runesO_le ht
      rw [ht] at HB
      have HTO := Lib.hid ht
      clear ht
      go_wp2_with fail
      refine (HB.out _).mono ?_
      rintro e w2 ⟨⟨ao2, c2, rfl, hr⟩, hb⟩
      have HB2 := Lib.hid (HB1.out.trans (hb.mono HB1.out.size))
      have HR2 := Lib.hid hr
      have HR3 := Lib.hid (HR1.out.below hb rfl)
      clear hb hr
      go_wp2_with fail
      refine (rrunesD_any _ _ _ la _ _ _ lb _ HR3.out HR2.out (by omega) (by omega)).mono ?_
      rintro e w3 ⟨rfl, hb⟩
      have HB3 := Lib.hid (HB2.out.trans (hb.mono HB2.out.size))
      clear hb
      go_wp2_with fail
      go_ret
      obtain rfl : d = distL la lb := by rw [← HD.out]; exact distT_some HSO.out HTO.out
      exact ⟨rfl, HB3.out⟩
end Go.Proofs.Ytiohngcmojkheaa
