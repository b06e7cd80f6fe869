/- The walk of Tell. -/
import Derived.Test.YtjacebnjmhbcbaaMg9
namespace Go.Proofs.Ytjacebnjmhbcbaa
open Go.RowKit
set_option linter.unusedVariables false

theorem tell_nil (w : World) : Calls Try.prog 25 #[.pointer none] w fun e w' => e = .returned (.slice none 0 0) ∧ w = w' := by
  go_enter Try.func25, Try.ntmps25
  go_wp2_with fail
  go_ret
  exact ⟨rfl, rfl⟩
/-- what Tell may change: the Merge, its shards, the row that told lies in -/
def TX (p gs : Nat) (told : Value) (i : Nat) : Prop := i = p ∨ i = gs ∨ told.ownBlock = some i
/-- told lies where told0 lay, or in a new block -/
def TB (w : World) (told0 told : Value) : Prop := ∀ g, told.ownBlock = some g → told0.ownBlock = some g ∨ w.heap.size ≤ g
def TellEnd (B : Nat) (w : World) (p : Nat) (n : Int) (gs c : Nat) (sp : List Value) (told0 : Value) (R : List KeyL × List PS × List KeyL) (e : Ending) (w' : World) : Prop := ∃ (ao : Option Addr) (c' : Nat), e = .returned (.slice ao R.1.length c') ∧ w'.ownsRow w.heap.size 31 2 (.slice ao R.1.length c') R.1.length (R.1.flatMap KeyL.cells) ∧
  (∃ (M : List MS) (ta : Option Addr) (tc : Nat), MGx B w' p n R.2.1 R.2.2 gs c M sp ta tc ∧ TB w told0 (.slice ta R.2.2.length tc) ∧ ApartL (.slice ao R.1.length c') (.slice ta R.2.2.length tc) M) ∧ Frm (TX p gs told0) w w'
/-- each row of M lies in a block in which one of M0 lay -/
def WSub (M0 M : List MS) : Prop := ∀ (i : Nat) (x : MS), M[i]? = some x → ∀ b o s, x.wa = some ⟨b, o, s⟩ → ∃ (j : Nat) (y : MS) (o2 : Nat) (s2 : Option Nat), M0[j]? = some y ∧ y.wa = some ⟨b, o2, s2⟩
theorem WSub.refl (M : List MS) : WSub M M := fun i x hx b o s e => ⟨i, x, o, s, hx, e⟩
theorem WSub.set {M0 M : List MS} (h : WSub M0 M) {k : Nat} {m m' : MS} (hm : M[k]? = some m) {wb wo o' : Nat} (hw : m.wa = some ⟨wb, wo, none⟩) (hw' : m'.wa = some ⟨wb, o', none⟩) : WSub M0 (M.set k m') := by
  intro i x hx b o s e
  by_cases e2 : i = k
  · subst e2
    rw [List.getElem?_set_self (List.getElem?_eq_some_iff.1 hm).1] at hx
    cases hx
    rw [hw'] at e
    cases e
    exact h i m hm wb wo none hw
  · rw [List.getElem?_set_ne (fun q => e2 q.symm)] at hx
    exact h i x hx b o s e
def TellEnd2 (B : Nat) (w : World) (p : Nat) (n : Int) (gs c : Nat) (sp : List Value) (told0 : Value) (M0 : List MS) (R : List KeyL × List PS × List KeyL) (e : Ending) (w' : World) : Prop := ∃ (ao : Option Addr) (c' : Nat), e = .returned (.slice ao R.1.length c') ∧ w'.ownsRow w.heap.size 31 2 (.slice ao R.1.length c') R.1.length (R.1.flatMap KeyL.cells) ∧
  (∃ (M : List MS) (ta : Option Addr) (tc : Nat), MGx B w' p n R.2.1 R.2.2 gs c M sp ta tc ∧ TB w told0 (.slice ta R.2.2.length tc) ∧ ApartL (.slice ao R.1.length c') (.slice ta R.2.2.length tc) M ∧ WSub M0 M) ∧ Frm (TX p gs told0) w w'
theorem te_end {B : Nat} {w wr w' : World} {p : Nat} {n : Int} {S : List PS} {T out : List KeyL} {gs c : Nat} {M : List MS} {sp : List Value} {ta : Option Addr} {tc : Nat} {ao : Option Addr} {lc : Nat} {told0 : Value} {M0 : List MS} {R : List KeyL × List PS × List KeyL}
    (hw : WSub M0 M) (hx : MGx B wr p n S T gs c M sp ta tc) (ho : wr.ownsRow w.heap.size 31 2 (.slice ao out.length lc) out.length (out.flatMap KeyL.cells)) (ha : ApartL (.slice ao out.length lc) (.slice ta T.length tc) M) (hb : Frm (TX p gs told0) w wr) (htb : TB w told0 (.slice ta T.length tc)) (hR : (out, S, T) = R) (hbb : Below wr.heap.size wr w') :
    TellEnd2 B w p n gs c sp told0 M0 R (.returned (.slice ao out.length lc)) w' := by
  subst hR
  have ho2 := ownsRow_frm (S := fun _ => False) ho (Frm.below hbb) (fun _ _ h => h.elim)
  exact ⟨ao, lc, rfl, ho2, ⟨M, ta, tc, hx.below hbb, htb, ha, hw⟩, hb.trans (Frm.below (S := TX p gs told0) hbb) (fun i h _ => h)⟩
def TeR (B : Nat) (w : World) (p : Nat) (n : Int) (gs c : Nat) (sp : List Value) (told0 : Value) (M0 : List MS) (R : List KeyL × List PS × List KeyL) (v3 : Value) (wr : World) : Prop := ∃ (S : List PS) (T out : List KeyL) (M : List MS) (ta : Option Addr) (tc : Nat) (ao : Option Addr) (lc : Nat),
  v3 = .slice ao out.length lc ∧ RowKit.Hid (MGx B wr p n S T gs c M sp ta tc) ∧ RowKit.Hid (wr.ownsRow w.heap.size 31 2 (.slice ao out.length lc) out.length (out.flatMap KeyL.cells)) ∧ RowKit.Hid (ApartL (.slice ao out.length lc) (.slice ta T.length tc) M) ∧
  RowKit.Hid (Frm (TX p gs told0) w wr) ∧ RowKit.Hid (TB w told0 (.slice ta T.length tc)) ∧ RowKit.Hid ((T.length : Int) ≤ n) ∧ RowKit.Hid (tellA n (n.toNat - T.length) S T out = R) ∧ RowKit.Hid (out.length ≤ T.length ∧ WSub M0 M)
def teM (v : Value) : Nat := match v with | .slice _ n _ => 10 - n | _ => 0
set_option linter.unusedSimpArgs false in
set_option maxRecDepth 100000 in
set_option maxHeartbeats 4000000 in
theorem tell_any2 (B p : Nat) (n : Int) (S : List PS) (T : List KeyL) (w : World) (gs c : Nat) (M : List MS) (sp : List Value) (ta : Option Addr) (tc : Nat) (hX : MGx B w p n S T gs c M sp ta tc) (hT : (T.length : Int) ≤ n) (hB : B ≤ w.heap.size) :
    Calls Try.prog 25 #[.pointer (some ⟨p, 0, none⟩)] w (TellEnd2 B w p n gs c sp (.slice ta T.length tc) M (tellP n S T)) := by
  obtain ⟨i0, hi, hz0, hz1, hz2⟩ := info_parts infoI2
  have HI := Lib.hid hi
  have HZ0 := Lib.hid hz0
  have HZ1 := Lib.hid hz1
  have HZ2 := Lib.hid hz2
  clear hi hz0 hz1 hz2
  obtain ⟨R, hR⟩ : ∃ R, tellP n S T = R := ⟨_, rfl⟩
  rw [hR]
  unfold tellP at hR
  obtain ⟨told0, htold⟩ : ∃ v, Value.slice ta T.length tc = v := ⟨_, rfl⟩
  rw [htold]
  have H0 : RowKit.Hid (TeR B w p n gs c sp told0 M R (.slice none 0 0) w) := ⟨S, T, [], M, ta, tc, none, 0, rfl, hX, World.ownsRow_nil _ _ _ _, fun k hk => by simp [Value.ownBlock] at hk, Frm.refl _ _, fun g hg => .inl (by rw [← htold]; exact hg), hT, hR, Nat.zero_le _, WSub.refl M⟩
  clear hX hR hT htold
  have hq1 := fun W => ptr_ne p 0 W
  go_enter Try.func25, Try.ntmps25
  go_wp2_with fail
  go_loopw [3] (fun v3 wr => TeR B w p n gs c sp told0 M R v3 wr) (fun v _ => teM v)
  case atStart => exact H0.out
  case round =>
    clear H0
    obtain ⟨S', T', out, M', ta', tc', ao, lc, rfl, HX, HO, HA, HB, HTB, HT, HR, HL⟩ := hrel
    have HD := Lib.hid (done_any B p n S' T' wr HX.out.mg)
    cases hd : doneP n S' T' with
    | true =>
      rw [hd] at HD
      have HE := Lib.hid (fun W hb => te_end (w' := W) HL.out.2 HX.out HO.out HA.out HB.out HTB.out ((tellA_stop (step_done hd) _ _).symm.trans HR.out) hb)
      clear hd HX HO HA HB HTB HT HR HL
      go_wp2_with fail
      refine HD.out.mono ?_
      rintro e w1 ⟨rfl, hb⟩
      have HB1 := Lib.hid hb
      clear hb HD
      go_wp2_with fail
      go_ret
      exact HE.out _ HB1.out
    | false =>
      rw [hd] at HD
      have hlt := not_done hd HT.out
      have HAH := Lib.hid (fun (W : World) (hb : Below wr.heap.size wr W) => ahead_any B p gs c n S' T' W (HX.out.below hb).mg (HX.out.below hb).read.2.1)
      have HDD := Lib.hid hd
      have HLT := Lib.hid hlt
      clear hd hlt HT
      go_wp2_with fail
      refine HD.out.mono ?_
      rintro e w1 ⟨rfl, hb⟩
      have HB1 := Lib.hid hb
      have hc1 := HAH.out w1 hb
      have HC1 := Lib.hid hc1
      clear hb HD hc1 HAH
      go_wp2_with fail
      refine HC1.out.mono ?_
      rintro e w2 ⟨rfl, hb⟩
      have HB2 := Lib.hid (HB1.out.trans (hb.mono HB1.out.size))
      clear hb HB1 HC1
      cases ha : aheadP S' S'.length with
      | none =>
        have HE := Lib.hid (fun W hb => te_end (w' := W) HL.out.2 HX.out HO.out HA.out HB.out HTB.out ((tellA_stop (step_none ha) _ _).symm.trans HR.out) hb)
        have HB3 := Lib.hid (HB2.out.alloc HB2.out.size (.cells #[.pointer none] 76))
        clear ha HX HO HA HB HTB HR HL HB2 HDD HLT
        rw [show optPtr gs none = .pointer none from rfl]
        go_wp2_with fail
        go_ret
        exact HE.out _ HB3.out
      | some b =>
        obtain ⟨hbS, s, hs, h0⟩ := aheadP_lt ha
        obtain ⟨m, hm⟩ : ∃ m, M'[b]? = some m := ⟨_, List.getElem?_eq_getElem (show b < M'.length by rw [HX.out.len]; exact hbS)⟩
        have hsh := HX.out.sh b m s hm hs
        obtain ⟨wb, wo, hwa, hx0, hx1⟩ := hsh.head h0
        obtain ⟨x, hx⟩ : ∃ x, headP s = x := ⟨_, rfl⟩
        rw [hx] at hx0 hx1
        obtain ⟨k, hk⟩ : ∃ k, m.wn = k + 1 := ⟨m.wn - 1, by have := hsh.wlen; omega⟩
        have hB3 := HB2.out.alloc HB2.out.size (.cells #[.pointer (some ⟨gs, b * 7, none⟩)] 76)
        have hsb : Blk (w2.alloc (.cells #[.pointer (some ⟨gs, b * 7, none⟩)] 76)) w2.heap.size 76 [.pointer (some ⟨gs, b * 7, none⟩)] := heap_alloc_new w2 _
        have hX3 := HX.out.below hB3
        have hS3 := (ShAt.of_row hX3.G hm).c2.2.2.2.2.2.2
        have hS3' := hS3
        rw [hwa, hk] at hS3'
        have hy0 := (hB3.cell (p := ⟨wb, wo, none⟩) (cell?_lt hx0)).trans hx0
        have hy1 := (hB3.cell (p := ⟨wb, wo + 1, none⟩) (cell?_lt hx1)).trans hx1
        have hTl : TlAt (w2.alloc (.cells #[.pointer (some ⟨gs, b * 7, none⟩)] 76)) w2.heap.size gs (b * 7) x := ⟨wb, wo, k, m.wc, by rw [hsb.cell]; rfl, hS3', hy0, hy1⟩
        have hmig := mig_any gs c M' w2.heap.size gs (b * 7) x _ hX3.read.2.2.2.2.1 hX3.G.lt (by have := hX3.len; have := hX3.bd; omega) hTl
        rw [any_two hX3.len hX3.sh (fun m => m.might x) (fun s => s.might x) (fun m s h => h.might x), hX3.len] at hmig
        have c1 := hX3.read.2.1
        have HMG := Lib.hid hmig
        have HBK := Lib.hid hsb
        have HB3 := Lib.hid hB3
        have HA0 := Lib.hid ha
        have HS := Lib.hid hs
        have HM := Lib.hid hm
        have HWA := Lib.hid hwa
        have HK := Lib.hid hk
        have HXH := Lib.hid hx
        have H00 := Lib.hid h0
        have hq2 := fun W => sptr_eq gs (b * 7) W
        have hsz : w2.heap.size < (w2.alloc (.cells #[.pointer (some ⟨gs, b * 7, none⟩)] 76)).heap.size := by simp
        clear ha hs hm hsh hwa hx0 hx1 hx h0 hk hB3 hsb hX3 hS3 hS3' hy0 hy1 hTl hmig hbS HB2
        have y0 := HBK.out.cell 0
        rw [show ([.pointer (some ⟨gs, b * 7, none⟩)] : List Value)[0]? = some (.pointer (some ⟨gs, b * 7, none⟩)) from rfl] at y0
        obtain ⟨k2, hk2⟩ : ∃ k2, S'.length = k2 := ⟨_, rfl⟩
        rw [hk2] at c1 HMG
        rw [show optPtr gs (some b) = .pointer (some ⟨gs, b * 7, none⟩) from rfl]
        go_wp2_with fail
        generalize w2.alloc (.cells #[.pointer (some ⟨gs, b * 7, none⟩)] 76) = w3 at *
        generalize w2.heap.size = sb at *
        clear hk2
        cases hA2 : S'.any (fun t => t.might x) with
        | true =>
          rw [hA2] at HMG
          have HE := Lib.hid (fun W hb => te_end (w' := W) HL.out.2 HX.out HO.out HA.out HB.out HTB.out ((tellA_stop (step_might HA0.out HS.out (by rw [HXH.out]; exact hA2)) _ _).symm.trans HR.out) hb)
          clear hA2
          refine HMG.out.mono ?_
          rintro e w4 ⟨rfl, hb⟩
          have HB4 := Lib.hid (HB3.out.trans (hb.mono HB3.out.size))
          clear hb HMG HX HO HA HB HTB HR HL HDD HLT HB3 HBK HA0 HS HM HWA HK HXH H00
          go_wp2_with fail
          go_ret
          exact HE.out _ HB4.out
        | false =>
          rw [hA2] at HMG
          have hstep := step_some HDD.out HA0.out HS.out (by rw [HXH.out]; exact hA2)
          rw [HXH.out] at hstep
          have hrr := (tellA_go hstep HLT.out out).symm.trans HR.out
          have HRR := Lib.hid hrr
          clear hA2 hstep hrr HR HDD
          refine HMG.out.mono ?_
          rintro e w4 ⟨rfl, hb⟩
          have hB4 := HB3.out.trans (hb.mono HB3.out.size)
          have hX4 := HX.out.below hB4
          have hO4 := ownsRow_frm (S := fun _ => False) HO.out (Frm.below hB4) (fun _ _ h => h.elim)
          have hBK4 := HBK.out.below hb hsz
          have hB5 := HB.out.trans (Frm.below (S := TX p gs told0) hB4) (fun i h _ => h)
          have HX4 := Lib.hid hX4
          have HO4 := Lib.hid hO4
          have HBK4 := Lib.hid hBK4
          have HB5 := Lib.hid hB5
          have t6 := (ShAt.of_row hX4.G HM.out).c2.2.2.2.2.2.2
          obtain ⟨wb', wo', hwa', z0, z1⟩ := (hX4.sh b m s HM.out HS.out).head H00.out
          rw [HWA.out] at hwa'
          cases hwa'
          rw [HXH.out] at z0 z1
          rw [HWA.out, HK.out] at t6
          have y0 : w4.cell? ⟨sb, 0, none⟩ = some (.pointer (some ⟨gs, b * 7, none⟩)) := by rw [hBK4.cell]; rfl
          have hx4 := hX4.G.lt
          have hbd := hX4.bd
          have hle := HL.out.1
          have hszB : w.heap.size ≤ w4.heap.size := Nat.le_trans HB.out.size hB4.size
          clear hb hB4 hX4 hO4 hBK4 hB5 HMG HX HO HB HBK HB3 hsz c1
          have HO5 : RowKit.Hid ((w4.alloc (.cells #[.int .i64 x.1, .string x.2] 31)).ownsRow w.heap.size 31 2 (.slice ao out.length lc) out.length (out.flatMap KeyL.cells)) := HO4.out.alloc _
          have HN5 : RowKit.Hid (∀ j u, ([.int .i64 x.1, .string x.2] : List Value)[j]? = some u → (w4.alloc (.cells #[.int .i64 x.1, .string x.2] 31)).cell? ((⟨w4.heap.size, 0, none⟩ : Addr).add j) = some u) := World.news_of_block (heap_alloc_new w4 _)
          have A1 : out.length + 1 ≤ maxLen := by unfold maxLen; omega
          have A2 : (out.length + 1) * 24 ≤ 140737488355328 := by omega
          have A3 : w.heap.size ≤ (w4.alloc (.cells #[.int .i64 x.1, .string x.2] 31)).heap.size := by simp; omega
          have HA4 : RowKit.Hid (∀ u ∈ ([.int .i64 x.1, .string x.2] : List Value), u.oneCell' = true) := by intro u hu; simp at hu; rcases hu with rfl | rfl <;> rfl
          have k1 : (0 : Int) < ((k + 1 : Nat) : Int) := by omega
          go_wp2_with (at_builtin; refine wpList_append_lies _ rfl _ _ 22 rfl w.heap.size 31 i0 (.agg #[.int .i64 0, .string ⟨#[]⟩]) 2 24 Try.underlying22 HI.out HZ0.out HZ1.out HZ2.out rfl (by decide) (.slice ao out.length lc) out.length (out.flatMap KeyL.cells) rfl HO5.out ⟨w4.heap.size, 0, none⟩ 1 1 [.int .i64 x.1, .string x.2] rfl rfl HN5.out HA4.out (by decide) A1 A2 A3 (w4.heap.size + 1) (by simp) ?_; intro g cap w6 hown hgr hat hlt; have HO6 := Lib.hid hown; have HGR := Lib.hid hgr; have HAT := Lib.hid hat; clear hown hgr hat)
          have hF6 : Frm (fun i => (Value.slice ao out.length lc).ownBlock = some i) w4 w6 := ((Frm.refl (fun i => (Value.slice ao out.length lc).ownBlock = some i) w4).alloc _).trans (Frm.grown (S := fun i => (Value.slice ao out.length lc).ownBlock = some i) HGR.out (fun _ h => h)) (fun i h _ => h)
          have hX6 := HX4.out.far HO4.out HA.out hF6
          have hat6 : (Value.slice ao out.length lc).ownBlock = some g ∨ w4.heap.size ≤ g := HAT.out.imp id (fun h => by omega)
          have hA6 := ApartL.step HX4.out (l' := .slice (some ⟨g, 0, none⟩) (out.length + 1) cap) HA.out rfl hat6
          have hBK6 := HBK4.out.frm hF6 (fun e => ownsRow_ne HO4.out HBK4.out (by decide) sb e rfl)
          have hB6 := HB5.out.trans hF6 (fun i e hi => by have := own_ge HO4.out i e; omega)
          have hg6 : ∀ k, (Value.slice (some ⟨g, 0, none⟩) (out.length + 1) cap).ownBlock = some k → k < w6.heap.size := fun k hk => (HO6.out.lt k hk).2
          have HX6 := Lib.hid hX6
          have HA6 := Lib.hid hA6
          have HBK6 := Lib.hid hBK6
          have HB6 := Lib.hid hB6
          have HG6 := Lib.hid hg6
          have hsz6 : w.heap.size ≤ w6.heap.size := Nat.le_trans hszB hF6.size
          clear t6 z0 z1 y0 hx4 hat6 hX6 hA6 hBK6 hB6 hg6 HX4 HO4 HBK4 HB5 HO5 HN5 HGR HAT HA hF6 hlt
          have t6 := (ShAt.of_row HX6.out.G HM.out).c2.2.2.2.2.2.2
          obtain ⟨wb', wo', hwa', z0, z1⟩ := (HX6.out.sh b m s HM.out HS.out).head H00.out
          rw [HWA.out] at hwa'
          cases hwa'
          rw [HXH.out] at z0 z1
          rw [HWA.out, HK.out] at t6
          have y0 : w6.cell? ⟨sb, 0, none⟩ = some (.pointer (some ⟨gs, b * 7, none⟩)) := by rw [HBK6.out.cell]; rfl
          have c2 := HX6.out.read.2.2.1
          obtain ⟨tl, htl⟩ : ∃ tl, T'.length = tl := ⟨_, rfl⟩
          have hT1 : tl + 1 ≤ 10 := by have := HLT.out; have := hbd; omega
          have HTL := Lib.hid htl
          rw [htl] at c2
          have hP1 : RowKit.Hid ((w6.alloc (.cells #[.int .i64 x.1, .string x.2] 31)).drew.ownsRow B 31 2 (.slice ta' tl tc') tl (T'.flatMap KeyL.cells)) := by have := HX6.out.told; rw [htl] at this; exact this.alloc _
          have HN6 : RowKit.Hid (∀ j u, ([.int .i64 x.1, .string x.2] : List Value)[j]? = some u → (w6.alloc (.cells #[.int .i64 x.1, .string x.2] 31)).drew.cell? ((⟨w6.heap.size, 0, none⟩ : Addr).add j) = some u) := World.news_of_block (show ((w6.alloc (.cells #[.int .i64 x.1, .string x.2] 31)).drew).heap[w6.heap.size]? = _ from heap_alloc_new w6 _)
          have B1 : tl + 1 ≤ maxLen := by unfold maxLen; omega
          have B2 : (tl + 1) * 24 ≤ 140737488355328 := by omega
          have B3 : B ≤ (w6.alloc (.cells #[.int .i64 x.1, .string x.2] 31)).drew.heap.size := by show B ≤ (w6.alloc (.cells #[.int .i64 x.1, .string x.2] 31)).heap.size; simp; omega
          have hk2 : (Value.slice ta' tl tc').ownBlock = (Value.slice ta' T'.length tc').ownBlock := by cases ta' <;> rfl
          have hcA : (w6.alloc (.cells #[.int .i64 x.1, .string x.2] 31)).cell? ⟨p, 2, none⟩ = some (.slice ta' tl tc') := by
            have hp0 : p < w6.heap.size := HX6.out.P.lt
            rw [World.cell?_alloc_lt _ _ _ (by exact hp0)]; exact c2
          clear htl hbd hle A1 A2 A3
          go_region_law (first | (refine step_append_lies _ rfl (.tmp 35) (.tmp 42) 22 rfl B 31 i0 (.agg #[.int .i64 0, .string ⟨#[]⟩]) 2 24 Try.underlying22 HI.out HZ0.out HZ1.out HZ2.out rfl (by decide) (.slice ta' tl tc') tl (T'.flatMap KeyL.cells) (by kernel_rfl) hP1.out ⟨w6.heap.size, 0, none⟩ 1 1 [.int .i64 x.1, .string x.2] (by kernel_rfl) rfl HN6.out HA4.out (by decide) B1 B2 B3 (w6.heap.size + 1) (by simp) ?_; intro g2 c2' w8 hown hgr hat hlt; have HO8 := Lib.hid hown; have HAT := Lib.hid hat; have hF8 : Frm (fun i => (Value.slice ta' T'.length tc').ownBlock = some i) w6 w8 := (((Frm.refl (fun i => (Value.slice ta' T'.length tc').ownBlock = some i) w6).alloc (.cells #[.int .i64 x.1, .string x.2] 31)).drew).trans (Frm.grown (S := fun i => (Value.slice ta' T'.length tc').ownBlock = some i) hgr (fun _ h => hk2.symm.trans h)) (fun i h _ => h); have hP8 := HX6.out.P.frm hF8 (fun e => ownsRow_ne HX6.out.told HX6.out.P (by decide) p e rfl); have p8 : w8.cell? ⟨p, 2, none⟩ = some (.slice ta' T'.length tc') := (hP8.cell 2).trans rfl; have f8 := hP8.frozen 2; have HF8 := Lib.hid hF8; clear hown hgr hat hF8 hP8))
          all_goals
            have htl := HTL.out
            subst htl
            have hat8 : (Value.slice ta' T'.length tc').ownBlock = some g2 ∨ w6.heap.size ≤ g2 := HAT.out.imp id (fun h => by omega)
            have hX9 := mg_told HX6.out (x := x) hT1 HF8.out hat8 HO8.out
            have hF9 : Frm (fun i => i = p) w8 (w8.setCell ⟨p, 2, none⟩ (.slice (some ⟨g2, 0, none⟩) (T'.length + 1 : Nat) c2')) := (Frm.refl (fun i => i = p) w8).setCell _ _ (.inl rfl)
            have hO9 := ownsRow_frm (ownsRow_frm HO6.out HF8.out (fun j hj e => (HA6.out j hj).1 e)) hF9 (fun j hj e => ownsRow_ne HO6.out HX6.out.P (by decide) j hj e)
            have hA9 := ApartL.told (told' := .slice (some ⟨g2, 0, none⟩) (T' ++ [x]).length c2') HA6.out HG6.out rfl hat8
            have hBK9 := (HBK6.out.frm HF8.out (fun e => ownsRow_ne HX6.out.told HBK6.out (by decide) sb e rfl)).frm hF9 (fun e => blk_ne HBK6.out HX6.out.P (by decide) e)
            have hB9 := (HB6.out.trans HF8.out (fun i h hi => by rcases HTB.out i h with h | h; exact .inr (.inr h); omega)).trans hF9 (fun i h hi => .inl h)
            have HX9 := Lib.hid hX9
            have HO9 := Lib.hid hO9
            have HA9 := Lib.hid hA9
            have HBK9 := Lib.hid hBK9
            have HB9 := Lib.hid hB9
            have HTB9 : RowKit.Hid (TB w told0 (.slice (some ⟨g2, 0, none⟩) (T' ++ [x]).length c2')) := fun g' h' => by
              simp only [Value.ownBlock, Option.some.injEq] at h'
              subst h'
              rcases hat8 with h | h
              · exact HTB.out _ h
              · exact .inr (Nat.le_trans hsz6 h)
            have t6' := (ShAt.of_row hX9.G HM.out).c2.2.2.2.2.2.2
            rw [HWA.out, HK.out] at t6'
            have f6 := hX9.G.frozen (b * 7 + 6)
            have y0' : (w8.setCell ⟨p, 2, none⟩ (.slice (some ⟨g2, 0, none⟩) (T'.length + 1 : Nat) c2')).cell? ⟨sb, 0, none⟩ = some (.pointer (some ⟨gs, b * 7, none⟩)) := (hBK9.cell 0).trans rfl
            have hrd := (hX9.sh b m s HM.out HS.out).waits
            have k3 : k + 1 ≤ m.wc := by have := hrd.2.1; rw [HK.out] at this; exact this
            have k4 : m.wc ≤ maxLen := hrd.2.2.1
            unfold maxLen at k4
            have k5 : (0 : Int) ≤ 1 := by decide
            clear hat8 hX9 hF9 hO9 hA9 hBK9 hB9 hrd p8 f8 HF8 HO8 HX6 HO6 HA6 HBK6 HB6 HG6 t6 z0 z1 y0 c2 hcA hP1 HN6
            generalize w8.setCell ⟨p, 2, none⟩ (.slice (some ⟨g2, 0, none⟩) (T'.length + 1 : Nat) c2') = w9 at *
            go_wp2_with fail
            go_region
            obtain ⟨o', ho', he'⟩ : ∃ o', (1 < m.wn → o' = wo + 2) ∧ (if m.wc = 1 then some (⟨wb, wo, none⟩ : Addr) else some ⟨wb, wo + 2, none⟩) = some ⟨wb, o', none⟩ := by
              by_cases h : m.wc = 1
              · exact ⟨wo, fun h' => by have := HK.out; omega, by rw [if_pos h]⟩
              · exact ⟨wo + 2, fun _ => rfl, by rw [if_neg h]⟩
            rw [he']
            have hf : Frm (fun i => i = gs) w9 (w9.setCell ⟨gs, b * 7 + 6, none⟩ (.slice (some ⟨wb, o', none⟩) k (m.wc - 1))).drew := ((Frm.refl (fun i => i = gs) w9).setCell _ _ (.inl rfl)).drew
            have hg : Blk (w9.setCell ⟨gs, b * 7 + 6, none⟩ (.slice (some ⟨wb, o', none⟩) k (m.wc - 1))).drew gs 74 ((M'.set b (m.less wb o')).flatMap MS.cells ++ sp) := by
              have h7 := Blk.set HX9.out.G (b * 7 + 6) (.slice (some ⟨wb, o', none⟩) k (m.wc - 1))
              rw [show (.slice (some ⟨wb, o', none⟩) k (m.wc - 1) : Value) = .slice (some ⟨wb, o', none⟩) (m.wn - 1) (m.wc - 1) from by rw [HK.out]; rfl] at h7 ⊢
              rw [row_less HM.out] at h7
              exact h7
            have hX := Lib.hid (mg_set HX9.out (k := b) (m' := m.less wb o') (s' := s.less) hf hg (fun _ => ((HX9.out.sh b m s HM.out HS.out).frm hf (fun b' o sp e => by obtain ⟨cs, hb⟩ := (HX9.out.sh b m s HM.out HS.out).ty b' o sp e; exact blk_ne hb HX9.out.G (by decide))).less HWA.out H00.out o' ho'))
            have hO := Lib.hid (ownsRow_frm HO9.out hf (fun j hj e => ownsRow_ne HO9.out HX9.out.G (by decide) j hj e))
            have hA := Lib.hid (HA9.out.set HM.out HWA.out o')
            have hBz := Lib.hid (HB9.out.trans hf (fun i h _ => .inr (.inl h)))
            have hTz := HLT.out
            have hLz := HL.out.1
            have hWz := HL.out.2.set (o' := o') (m' := m.less wb o') HM.out HWA.out rfl
            go_wp2_with fail
            go_roundw
            case rel => exact ⟨S'.set b s.less, T' ++ [x], out ++ [x], M'.set b (m.less wb o'), some ⟨g2, 0, none⟩, c2', some ⟨g, 0, none⟩, cap, by rw [List.length_append]; rfl, hX.out, by rw [List.length_append, List.flatMap_append, List.flatMap_singleton]; exact hO.out, hA.out, hBz.out, HTB9.out, by rw [List.length_append, List.length_singleton]; unfold RowKit.Hid; omega, HRR.out, ⟨by rw [List.length_append, List.length_append, List.length_singleton]; omega, hWz⟩⟩
            case measure => simp [teM]; omega
theorem tell_any (B p : Nat) (n : Int) (S : List PS) (T : List KeyL) (w : World) (gs c : Nat) (M : List MS) (sp : List Value) (ta : Option Addr) (tc : Nat) (hX : MGx B w p n S T gs c M sp ta tc) (hT : (T.length : Int) ≤ n) (hB : B ≤ w.heap.size) :
    Calls Try.prog 25 #[.pointer (some ⟨p, 0, none⟩)] w (TellEnd B w p n gs c sp (.slice ta T.length tc) (tellP n S T)) :=
  (tell_any2 B p n S T w gs c M sp ta tc hX hT hB).mono fun _ _ ⟨ao, c', h1, h2, ⟨M', ta', tc', h3, h4, h5, _⟩, h6⟩ => ⟨ao, c', h1, h2, ⟨M', ta', tc', h3, h4, h5⟩, h6⟩
end Go.Proofs.Ytjacebnjmhbcbaa
