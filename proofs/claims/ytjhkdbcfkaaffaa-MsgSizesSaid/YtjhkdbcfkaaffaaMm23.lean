/- The law MsgSizes's walk. -/
import Derived.Test.YtjhkdbcfkaaffaaMm18
namespace Go.Proofs.Ytjhkdbcfkaaffaa
open Go.RowKit
set_option linter.unusedVariables false

def sumS (l : List KeyL) : Nat := (l.map fun x => 3 + x.2.size).sum
set_option maxRecDepth 100000 in
theorem sumS_next {l : List KeyL} {i : Nat} {x : KeyL} (h : l[i]? = some x) : sumS (l.take i) + (3 + x.2.size) = sumS (l.take (i + 1)) := by
  unfold sumS
  rw [List.take_add_one, h]
  simp
set_option maxRecDepth 100000 in
theorem sumS_le (l : List KeyL) (h : ∀ x ∈ l, x.2.size ≤ 100) : sumS l ≤ l.length * 103 := sum_le l 100 h
set_option maxRecDepth 100000 in
set_option maxHeartbeats 16000000 in
theorem sizes_law (p : P5) (w : World) (h : p.ok w) :
    Calls Try.prog 8 #[.agg #[.int .i64 p.ai, .int .i64 p.aq, .int .i64 p.ah, .int .i64 p.an, .int .i64 p.ae, .string p.ax, .int .i64 p.ak, .int .i64 p.ab, .bool p.af, .int .i64 p.ad, .string p.aw], .agg #[.int .i64 p.rs, .int .i64 p.rq, .int .i64 p.rh, .int .i64 p.rn, .int .i64 p.rw, .int .i64 p.re, .slice p.ra p.rl.length p.rc, .bool p.rb]] w fun e w' => e = .returned (.bool true) ∧ Below w.heap.size w w' := by
  have HAW := Lib.hid (fun W => awake_any W)
  have HRI := Lib.hid (fun W (hb : Below w.heap.size w W) => h.1.below hb rfl)
  have HZ := Lib.hid h.2.1
  have hs1 := h.2.2.1
  have hs2 := h.2.2.2
  have hcap := h.1.2.1
  have hcm := h.1.2.2.1
  unfold maxLen at hs1 hs2 hcm
  clear h
  have HB := Lib.hid (show Below w.heap.size w ((w.alloc (.cells #[.int .i64 p.ai, .int .i64 p.aq, .int .i64 p.ah, .int .i64 p.an, .int .i64 p.ae, .string p.ax, .int .i64 p.ak, .int .i64 p.ab, .bool p.af, .int .i64 p.ad, .string p.aw] 29)).alloc (.cells #[.int .i64 p.rs, .int .i64 p.rq, .int .i64 p.rh, .int .i64 p.rn, .int .i64 p.rw, .int .i64 p.re, .slice p.ra p.rl.length p.rc, .bool p.rb] 32)) from (by repeat (first | exact Below.refl _ _ | refine Below.alloc ?_ (by first | (simp; done) | (simp; omega)) _)))
  have HXa := Lib.hid (Blk.alloc (show Blk (w.alloc (.cells #[.int .i64 p.ai, .int .i64 p.aq, .int .i64 p.ah, .int .i64 p.an, .int .i64 p.ae, .string p.ax, .int .i64 p.ak, .int .i64 p.ab, .bool p.af, .int .i64 p.ad, .string p.aw] 29)) w.heap.size 29 [.int .i64 p.ai, .int .i64 p.aq, .int .i64 p.ah, .int .i64 p.an, .int .i64 p.ae, .string p.ax, .int .i64 p.ak, .int .i64 p.ab, .bool p.af, .int .i64 p.ad, .string p.aw] from heap_alloc_new w _) (.cells #[.int .i64 p.rs, .int .i64 p.rq, .int .i64 p.rh, .int .i64 p.rn, .int .i64 p.rw, .int .i64 p.re, .slice p.ra p.rl.length p.rc, .bool p.rb] 32))
  have HXr := Lib.hid (show Blk ((w.alloc (.cells #[.int .i64 p.ai, .int .i64 p.aq, .int .i64 p.ah, .int .i64 p.an, .int .i64 p.ae, .string p.ax, .int .i64 p.ak, .int .i64 p.ab, .bool p.af, .int .i64 p.ad, .string p.aw] 29)).alloc (.cells #[.int .i64 p.rs, .int .i64 p.rq, .int .i64 p.rh, .int .i64 p.rn, .int .i64 p.rw, .int .i64 p.re, .slice p.ra p.rl.length p.rc, .bool p.rb] 32)) (w.heap.size + 1) 32 [.int .i64 p.rs, .int .i64 p.rq, .int .i64 p.rh, .int .i64 p.rn, .int .i64 p.rw, .int .i64 p.re, .slice p.ra p.rl.length p.rc, .bool p.rb] from by have q := heap_alloc_new (w.alloc (.cells #[.int .i64 p.ai, .int .i64 p.aq, .int .i64 p.ah, .int .i64 p.an, .int .i64 p.ae, .string p.ax, .int .i64 p.ak, .int .i64 p.ab, .bool p.af, .int .i64 p.ad, .string p.aw] 29)) (.cells #[.int .i64 p.rs, .int .i64 p.rq, .int .i64 p.rh, .int .i64 p.rn, .int .i64 p.rw, .int .i64 p.re, .slice p.ra p.rl.length p.rc, .bool p.rb] 32); rw [show (w.alloc (.cells #[.int .i64 p.ai, .int .i64 p.aq, .int .i64 p.ah, .int .i64 p.an, .int .i64 p.ae, .string p.ax, .int .i64 p.ak, .int .i64 p.ab, .bool p.af, .int .i64 p.ad, .string p.aw] 29)).heap.size = w.heap.size + 1 from by simp] at q; exact q)
  obtain ⟨W, hW⟩ : ∃ W, ((w.alloc (.cells #[.int .i64 p.ai, .int .i64 p.aq, .int .i64 p.ah, .int .i64 p.an, .int .i64 p.ae, .string p.ax, .int .i64 p.ak, .int .i64 p.ab, .bool p.af, .int .i64 p.ad, .string p.aw] 29)).alloc (.cells #[.int .i64 p.rs, .int .i64 p.rq, .int .i64 p.rh, .int .i64 p.rn, .int .i64 p.rw, .int .i64 p.re, .slice p.ra p.rl.length p.rc, .bool p.rb] 32)) = W := ⟨_, rfl⟩
  rw [hW] at HB HXa HXr
  have ta0 : W.cell? ⟨w.heap.size, 0, none⟩ = some (.int .i64 p.ai) := HXa.out.cell 0
  have ta1 : W.cell? ⟨w.heap.size, 1, none⟩ = some (.int .i64 p.aq) := HXa.out.cell 1
  have ta2 : W.cell? ⟨w.heap.size, 2, none⟩ = some (.int .i64 p.ah) := HXa.out.cell 2
  have ta3 : W.cell? ⟨w.heap.size, 3, none⟩ = some (.int .i64 p.an) := HXa.out.cell 3
  have ta4 : W.cell? ⟨w.heap.size, 4, none⟩ = some (.int .i64 p.ae) := HXa.out.cell 4
  have ta5 : W.cell? ⟨w.heap.size, 5, none⟩ = some (.string p.ax) := HXa.out.cell 5
  have ta6 : W.cell? ⟨w.heap.size, 6, none⟩ = some (.int .i64 p.ak) := HXa.out.cell 6
  have ta7 : W.cell? ⟨w.heap.size, 7, none⟩ = some (.int .i64 p.ab) := HXa.out.cell 7
  have ta8 : W.cell? ⟨w.heap.size, 8, none⟩ = some (.bool p.af) := HXa.out.cell 8
  have ta9 : W.cell? ⟨w.heap.size, 9, none⟩ = some (.int .i64 p.ad) := HXa.out.cell 9
  have ta10 : W.cell? ⟨w.heap.size, 10, none⟩ = some (.string p.aw) := HXa.out.cell 10
  have tr0 : W.cell? ⟨w.heap.size + 1, 0, none⟩ = some (.int .i64 p.rs) := HXr.out.cell 0
  have tr1 : W.cell? ⟨w.heap.size + 1, 1, none⟩ = some (.int .i64 p.rq) := HXr.out.cell 1
  have tr2 : W.cell? ⟨w.heap.size + 1, 2, none⟩ = some (.int .i64 p.rh) := HXr.out.cell 2
  have tr3 : W.cell? ⟨w.heap.size + 1, 3, none⟩ = some (.int .i64 p.rn) := HXr.out.cell 3
  have tr4 : W.cell? ⟨w.heap.size + 1, 4, none⟩ = some (.int .i64 p.rw) := HXr.out.cell 4
  have tr5 : W.cell? ⟨w.heap.size + 1, 5, none⟩ = some (.int .i64 p.re) := HXr.out.cell 5
  have tr6 : W.cell? ⟨w.heap.size + 1, 6, none⟩ = some (.slice p.ra p.rl.length p.rc) := HXr.out.cell 6
  have tr7 : W.cell? ⟨w.heap.size + 1, 7, none⟩ = some (.bool p.rb) := HXr.out.cell 7
  go_enter Try.func8, Try.ntmps8
  by_cases c1 : 100 < p.ax.size
  · have d1 : (100 : Int) < (p.ax.size : Int) := by omega
    go_wp2_with (rw [hW])
    refine (HAW.out _).mono ?_
    rintro e w9 ⟨rfl, hb⟩
    have HB9 := Lib.hid (HB.out.trans (hb.mono HB.out.size))
    clear hb
    go_wp2_with fail
    go_ret
    exact ⟨rfl, HB9.out⟩
  have d1 : ¬ (100 : Int) < (p.ax.size : Int) := by omega
  by_cases c2 : 100 < p.aw.size
  · have d2 : (100 : Int) < (p.aw.size : Int) := by omega
    go_wp2_with (rw [hW])
    refine (HAW.out _).mono ?_
    rintro e w9 ⟨rfl, hb⟩
    have HB9 := Lib.hid (HB.out.trans (hb.mono HB.out.size))
    clear hb
    go_wp2_with fail
    go_ret
    exact ⟨rfl, HB9.out⟩
  have d2 : ¬ (100 : Int) < (p.aw.size : Int) := by omega
  by_cases c3 : 10 < p.rl.length
  · have d3 : (10 : Int) < (p.rl.length : Int) := by omega
    go_wp2_with (rw [hW])
    refine (HAW.out _).mono ?_
    rintro e w9 ⟨rfl, hb⟩
    have HB9 := Lib.hid (HB.out.trans (hb.mono HB.out.size))
    clear hb
    go_wp2_with fail
    go_ret
    exact ⟨rfl, HB9.out⟩
  have d3 : ¬ (10 : Int) < (p.rl.length : Int) := by omega
  have HTA := Lib.hid (show MV.tiny (.ask p.ai p.aq p.ah p.an p.ae p.ax p.ak p.ab p.af p.ad p.aw) from ⟨by omega, by omega⟩)
  have HLA := Lib.hid (enc_ask_len p.ai p.aq p.ah p.an p.ae p.ax p.ak p.ab p.af p.ad p.aw (by omega) (by omega))
  have HMY := Lib.hid (fun W => mmay_any (.ask p.ai p.aq p.ah p.an p.ae p.ax p.ak p.ab p.af p.ad p.aw) _ W rfl HTA.out.short.small)
  cases hma : MV.may (.ask p.ai p.aq p.ah p.an p.ae p.ax p.ak p.ab p.af p.ad p.aw)
  · have HE := Lib.hid (mencode_no (.ask p.ai p.aq p.ah p.an p.ae p.ax p.ak p.ab p.af p.ad p.aw) _ W rfl HTA.out.short.small hma)
    rw [hma] at HMY
    clear hma
    go_wp2_with (rw [hW])
    clear hW
    refine HE.out.mono ?_
    rintro e w3 ⟨rfl, hb⟩
    have HXa3 := Lib.hid (HXa.out.below hb HXa.out.lt)
    have HXr3 := Lib.hid (HXr.out.below hb HXr.out.lt)
    have HB3 := Lib.hid (HB.out.trans (hb.mono HB.out.size))
    clear ta0 ta1 ta2 ta3 ta4 ta5 ta6 ta7 ta8 ta9 ta10 tr0 tr1 tr2 tr3 tr4 tr5 tr6 tr7
    clear hb HE
    have ta0 : w3.cell? ⟨w.heap.size, 0, none⟩ = some (.int .i64 p.ai) := HXa3.out.cell 0
    have ta1 : w3.cell? ⟨w.heap.size, 1, none⟩ = some (.int .i64 p.aq) := HXa3.out.cell 1
    have ta2 : w3.cell? ⟨w.heap.size, 2, none⟩ = some (.int .i64 p.ah) := HXa3.out.cell 2
    have ta3 : w3.cell? ⟨w.heap.size, 3, none⟩ = some (.int .i64 p.an) := HXa3.out.cell 3
    have ta4 : w3.cell? ⟨w.heap.size, 4, none⟩ = some (.int .i64 p.ae) := HXa3.out.cell 4
    have ta5 : w3.cell? ⟨w.heap.size, 5, none⟩ = some (.string p.ax) := HXa3.out.cell 5
    have ta6 : w3.cell? ⟨w.heap.size, 6, none⟩ = some (.int .i64 p.ak) := HXa3.out.cell 6
    have ta7 : w3.cell? ⟨w.heap.size, 7, none⟩ = some (.int .i64 p.ab) := HXa3.out.cell 7
    have ta8 : w3.cell? ⟨w.heap.size, 8, none⟩ = some (.bool p.af) := HXa3.out.cell 8
    have ta9 : w3.cell? ⟨w.heap.size, 9, none⟩ = some (.int .i64 p.ad) := HXa3.out.cell 9
    have ta10 : w3.cell? ⟨w.heap.size, 10, none⟩ = some (.string p.aw) := HXa3.out.cell 10
    have tr0 : w3.cell? ⟨w.heap.size + 1, 0, none⟩ = some (.int .i64 p.rs) := HXr3.out.cell 0
    have tr1 : w3.cell? ⟨w.heap.size + 1, 1, none⟩ = some (.int .i64 p.rq) := HXr3.out.cell 1
    have tr2 : w3.cell? ⟨w.heap.size + 1, 2, none⟩ = some (.int .i64 p.rh) := HXr3.out.cell 2
    have tr3 : w3.cell? ⟨w.heap.size + 1, 3, none⟩ = some (.int .i64 p.rn) := HXr3.out.cell 3
    have tr4 : w3.cell? ⟨w.heap.size + 1, 4, none⟩ = some (.int .i64 p.rw) := HXr3.out.cell 4
    have tr5 : w3.cell? ⟨w.heap.size + 1, 5, none⟩ = some (.int .i64 p.re) := HXr3.out.cell 5
    have tr6 : w3.cell? ⟨w.heap.size + 1, 6, none⟩ = some (.slice p.ra p.rl.length p.rc) := HXr3.out.cell 6
    have tr7 : w3.cell? ⟨w.heap.size + 1, 7, none⟩ = some (.bool p.rb) := HXr3.out.cell 7
    go_wp2_with fail
    refine (HMY.out w3).mono ?_
    rintro e w4 ⟨rfl, hb⟩
    have HXa4 := Lib.hid (HXa3.out.below hb HXa3.out.lt)
    have HXr4 := Lib.hid (HXr3.out.below hb HXr3.out.lt)
    have HB4 := Lib.hid (HB3.out.trans (hb.mono HB3.out.size))
    clear ta0 ta1 ta2 ta3 ta4 ta5 ta6 ta7 ta8 ta9 ta10 tr0 tr1 tr2 tr3 tr4 tr5 tr6 tr7
    clear hb HXa3 HXr3 HB3 HXa HXr HB HMY HLA HTA
    have tr0 : w4.cell? ⟨w.heap.size + 1, 0, none⟩ = some (.int .i64 p.rs) := HXr4.out.cell 0
    have tr1 : w4.cell? ⟨w.heap.size + 1, 1, none⟩ = some (.int .i64 p.rq) := HXr4.out.cell 1
    have tr2 : w4.cell? ⟨w.heap.size + 1, 2, none⟩ = some (.int .i64 p.rh) := HXr4.out.cell 2
    have tr3 : w4.cell? ⟨w.heap.size + 1, 3, none⟩ = some (.int .i64 p.rn) := HXr4.out.cell 3
    have tr4 : w4.cell? ⟨w.heap.size + 1, 4, none⟩ = some (.int .i64 p.rw) := HXr4.out.cell 4
    have tr5 : w4.cell? ⟨w.heap.size + 1, 5, none⟩ = some (.int .i64 p.re) := HXr4.out.cell 5
    have tr6 : w4.cell? ⟨w.heap.size + 1, 6, none⟩ = some (.slice p.ra p.rl.length p.rc) := HXr4.out.cell 6
    have tr7 : w4.cell? ⟨w.heap.size + 1, 7, none⟩ = some (.bool p.rb) := HXr4.out.cell 7
    go_wp2_with fail
    clear tr0 tr1 tr2 tr3 tr4 tr5 tr6 tr7
    go_loopw [7, 8] (fun nv v wr => ∃ i : Nat, i ≤ p.rl.length ∧ v = .int .i64 i ∧ nv = .int .i64 ((33 + sumS (p.rl.take i) : Nat) : Int) ∧ (∀ x ∈ p.rl.take i, x.2.size ≤ 100) ∧ RowKit.Hid (Blk wr (w.heap.size + 1) 32 [.int .i64 p.rs, .int .i64 p.rq, .int .i64 p.rh, .int .i64 p.rn, .int .i64 p.rw, .int .i64 p.re, .slice p.ra p.rl.length p.rc, .bool p.rb]) ∧ RowKit.Hid (Below w.heap.size w wr)) (fun _ v _ => p.rl.length - (intOf v).toNat)
    case atStart => exact ⟨0, by omega, rfl, rfl, by simp, HXr4, HB4⟩
    case round =>
      clear HXr4 HXa4 HB4
      obtain ⟨i, hi, rfl, rfl, hall, HXr5, HB5⟩ := hrel
      have tr6 : wr.cell? ⟨w.heap.size + 1, 6, none⟩ = some (.slice p.ra p.rl.length p.rc) := HXr5.out.cell 6
      by_cases hlt : i < p.rl.length
      · obtain ⟨x, hx⟩ : ∃ x, p.rl[i]? = some x := ⟨_, List.getElem?_eq_getElem hlt⟩
        obtain ⟨bb, ob, hab, hbb, hcx⟩ := (HRI.out wr HB5.out).2.2.2.2 i x hx
        have x1 : wr.cell? ⟨bb, ob + i * 2 + 1, none⟩ = some (.string x.2) := hcx 1 (by decide)
        have hxz := HZ.out x (List.mem_of_getElem? hx)
        have k1 : (0 : Int) ≤ (i : Int) := by omega
        have k2 : (i : Int) < (p.rl.length : Int) := by omega
        have HNX := Lib.hid (sumS_next hx)
        have hsb := sumS_le (p.rl.take i) hall
        have hti : (p.rl.take i).length ≤ 10 := by rw [List.length_take]; omega
        rw [hab] at tr6
        clear hcx
        generalize hsm : sumS (p.rl.take i) = sm at *
        have HSM := Lib.hid hsm
        clear hsm
        by_cases hbig : 100 < x.2.size
        · have k3 : (100 : Int) < (x.2.size : Int) := by omega
          go_wp2_with fail
          refine (HAW.out _).mono ?_
          rintro e w9 ⟨rfl, hb⟩
          have HB9 := Lib.hid (HB5.out.trans (hb.mono HB5.out.size))
          clear hb
          go_wp2_with fail
          go_ret
          exact ⟨rfl, HB9.out⟩
        · have k3 : ¬ (100 : Int) < (x.2.size : Int) := by omega
          have kw1 : IntKind.i64.wrap (((33 + sm : Nat) : Int) + 3) = ((33 + sm + 3 : Nat) : Int) := by rw [IntWalk.i64_in _ (by omega)]; omega
          have kw2 : IntKind.i64.wrap (((33 + sm + 3 : Nat) : Int) + (x.2.size : Int)) = ((33 + sm + 3 + x.2.size : Nat) : Int) := by rw [IntWalk.i64_in _ (by omega)]; omega
          obtain ⟨N0, hN0⟩ : ∃ N0, 33 + sm = N0 := ⟨_, rfl⟩
          obtain ⟨N1, hN1⟩ : ∃ N1, N0 + 3 = N1 := ⟨_, rfl⟩
          obtain ⟨N2, hN2⟩ : ∃ N2, N1 + x.2.size = N2 := ⟨_, rfl⟩
          rw [hN0] at kw1 kw2 ⊢
          rw [hN1] at kw1 kw2
          rw [hN2] at kw2
          have HNN := Lib.hid (show N2 = 33 + sumS (p.rl.take (i + 1)) from by rw [← HNX.out]; omega)
          have HALL := Lib.hid (show ∀ y ∈ p.rl.take (i + 1), y.2.size ≤ 100 from by
            intro y hy
            rw [List.take_add_one, hx] at hy
            rcases List.mem_append.1 hy with h1 | h1
            · exact hall y h1
            · have : y = x := by simpa using h1
              rw [this]; omega)
          clear hN0 hN1 hN2 hall hsb hti
          go_wp2_with fail
          go_roundw
          case rel => exact ⟨i + 1, by omega, by go_num, by rw [← HNN.out], HALL.out, HXr5, HB5⟩
          case measure => simp [intOf]; omega
      · obtain rfl : i = p.rl.length := by omega
        rw [List.take_length] at hall ⊢
        clear tr6
        have HTR := Lib.hid (show MV.tiny (.reply p.rs p.rq p.rh p.rn p.rw p.re p.rl p.rb) from hall)
        have hsb := sumS_le p.rl hall
        have HLN := Lib.hid (enc_reply_len p.rs p.rq p.rh p.rn p.rw p.re p.rl p.rb (fun y hy => by have := hall y hy; omega))
        have HRA := Lib.hid (fun W (hb : Below w.heap.size w W) => (show MV.At W (.iface 32 (.agg #[.int .i64 p.rs, .int .i64 p.rq, .int .i64 p.rh, .int .i64 p.rn, .int .i64 p.rw, .int .i64 p.re, .slice p.ra p.rl.length p.rc, .bool p.rb])) (.reply p.rs p.rq p.rh p.rn p.rw p.re p.rl p.rb) from ⟨p.ra, p.rc, rfl, HRI.out W hb⟩))
        clear hall
        have tr0 : wr.cell? ⟨w.heap.size + 1, 0, none⟩ = some (.int .i64 p.rs) := HXr5.out.cell 0
        have tr1 : wr.cell? ⟨w.heap.size + 1, 1, none⟩ = some (.int .i64 p.rq) := HXr5.out.cell 1
        have tr2 : wr.cell? ⟨w.heap.size + 1, 2, none⟩ = some (.int .i64 p.rh) := HXr5.out.cell 2
        have tr3 : wr.cell? ⟨w.heap.size + 1, 3, none⟩ = some (.int .i64 p.rn) := HXr5.out.cell 3
        have tr4 : wr.cell? ⟨w.heap.size + 1, 4, none⟩ = some (.int .i64 p.rw) := HXr5.out.cell 4
        have tr5 : wr.cell? ⟨w.heap.size + 1, 5, none⟩ = some (.int .i64 p.re) := HXr5.out.cell 5
        have tr6 : wr.cell? ⟨w.heap.size + 1, 6, none⟩ = some (.slice p.ra p.rl.length p.rc) := HXr5.out.cell 6
        have tr7 : wr.cell? ⟨w.heap.size + 1, 7, none⟩ = some (.bool p.rb) := HXr5.out.cell 7
        cases hmr : MV.may (.reply p.rs p.rq p.rh p.rn p.rw p.re p.rl p.rb)
        · have HE := Lib.hid (mencode_no (.reply p.rs p.rq p.rh p.rn p.rw p.re p.rl p.rb) _ wr (HRA.out wr HB5.out) HTR.out.short.small hmr)
          have HMY := Lib.hid (fun W (hb : Below w.heap.size w W) => mmay_any (.reply p.rs p.rq p.rh p.rn p.rw p.re p.rl p.rb) _ W (HRA.out W hb) HTR.out.short.small)
          rw [hmr] at HMY
          clear hmr
          go_wp2_with fail
          refine HE.out.mono ?_
          rintro e w6 ⟨rfl, hb⟩
          have HB6 := Lib.hid (HB5.out.trans (hb.mono HB5.out.size))
          have HXr6 := Lib.hid (HXr5.out.below hb HXr5.out.lt)
          clear tr0 tr1 tr2 tr3 tr4 tr5 tr6 tr7
          clear hb HE
          have tr0 : w6.cell? ⟨w.heap.size + 1, 0, none⟩ = some (.int .i64 p.rs) := HXr6.out.cell 0
          have tr1 : w6.cell? ⟨w.heap.size + 1, 1, none⟩ = some (.int .i64 p.rq) := HXr6.out.cell 1
          have tr2 : w6.cell? ⟨w.heap.size + 1, 2, none⟩ = some (.int .i64 p.rh) := HXr6.out.cell 2
          have tr3 : w6.cell? ⟨w.heap.size + 1, 3, none⟩ = some (.int .i64 p.rn) := HXr6.out.cell 3
          have tr4 : w6.cell? ⟨w.heap.size + 1, 4, none⟩ = some (.int .i64 p.rw) := HXr6.out.cell 4
          have tr5 : w6.cell? ⟨w.heap.size + 1, 5, none⟩ = some (.int .i64 p.re) := HXr6.out.cell 5
          have tr6 : w6.cell? ⟨w.heap.size + 1, 6, none⟩ = some (.slice p.ra p.rl.length p.rc) := HXr6.out.cell 6
          have tr7 : w6.cell? ⟨w.heap.size + 1, 7, none⟩ = some (.bool p.rb) := HXr6.out.cell 7
          go_wp2_with fail
          refine (HMY.out _ HB6.out).mono ?_
          rintro e w7 ⟨rfl, hb⟩
          have HB7 := Lib.hid (HB6.out.trans (hb.mono HB6.out.size))
          clear tr0 tr1 tr2 tr3 tr4 tr5 tr6 tr7
          clear hb
          go_wp2_with fail
          refine (HAW.out _).mono ?_
          rintro e w9 ⟨rfl, hb⟩
          have HB9 := Lib.hid (HB7.out.trans (hb.mono HB7.out.size))
          clear hb
          go_wp2_with fail
          go_ret
          exact ⟨rfl, HB9.out⟩
        · have HE := Lib.hid (mencode_yes (.reply p.rs p.rq p.rh p.rn p.rw p.re p.rl p.rb) _ wr (HRA.out wr HB5.out) HTR.out.short hmr)
          have HMY := Lib.hid (fun W (hb : Below w.heap.size w W) => mmay_any (.reply p.rs p.rq p.rh p.rn p.rw p.re p.rl p.rb) _ W (HRA.out W hb) HTR.out.short.small)
          have hz := enc_size hmr HTR.out
          rw [HLN.out] at hz
          rw [hmr] at HMY
          clear hmr
          obtain ⟨fl, hfl⟩ : ∃ fl, encL (.reply p.rs p.rq p.rh p.rn p.rw p.re p.rl p.rb) = fl := ⟨_, rfl⟩
          rw [hfl] at HE HLN
          clear hfl
          have hl1 : fl.length = 33 + sumS p.rl := HLN.out
          have hl2 : 33 + sumS p.rl ≤ 1024 := hz
          generalize 33 + sumS p.rl = S at *
          obtain ⟨L, hL⟩ : ∃ L, fl.length = L := ⟨_, rfl⟩
          unfold EncE at HE
          rw [hl1] at HE
          have k9 : (S : Int) ≤ 1024 := by omega
          clear hl1 hL hz hl2 hsb
          go_wp2_with fail
          refine HE.out.mono ?_
          rintro e w6 ⟨a6, c6, rfl, ho, hb⟩
          have HB6 := Lib.hid (HB5.out.trans (hb.mono HB5.out.size))
          have HXr6 := Lib.hid (HXr5.out.below hb HXr5.out.lt)
          clear tr0 tr1 tr2 tr3 tr4 tr5 tr6 tr7
          clear hb HE ho
          have tr0 : w6.cell? ⟨w.heap.size + 1, 0, none⟩ = some (.int .i64 p.rs) := HXr6.out.cell 0
          have tr1 : w6.cell? ⟨w.heap.size + 1, 1, none⟩ = some (.int .i64 p.rq) := HXr6.out.cell 1
          have tr2 : w6.cell? ⟨w.heap.size + 1, 2, none⟩ = some (.int .i64 p.rh) := HXr6.out.cell 2
          have tr3 : w6.cell? ⟨w.heap.size + 1, 3, none⟩ = some (.int .i64 p.rn) := HXr6.out.cell 3
          have tr4 : w6.cell? ⟨w.heap.size + 1, 4, none⟩ = some (.int .i64 p.rw) := HXr6.out.cell 4
          have tr5 : w6.cell? ⟨w.heap.size + 1, 5, none⟩ = some (.int .i64 p.re) := HXr6.out.cell 5
          have tr6 : w6.cell? ⟨w.heap.size + 1, 6, none⟩ = some (.slice p.ra p.rl.length p.rc) := HXr6.out.cell 6
          have tr7 : w6.cell? ⟨w.heap.size + 1, 7, none⟩ = some (.bool p.rb) := HXr6.out.cell 7
          go_wp2_with fail
          refine (HMY.out _ HB6.out).mono ?_
          rintro e w7 ⟨rfl, hb⟩
          have HB7 := Lib.hid (HB6.out.trans (hb.mono HB6.out.size))
          clear tr0 tr1 tr2 tr3 tr4 tr5 tr6 tr7
          clear hb
          go_wp2_with fail
          refine (HAW.out _).mono ?_
          rintro e w9 ⟨rfl, hb⟩
          have HB9 := Lib.hid (HB7.out.trans (hb.mono HB7.out.size))
          clear hb
          go_wp2_with fail
          go_ret
          exact ⟨rfl, HB9.out⟩
  · have HE := Lib.hid (mencode_yes (.ask p.ai p.aq p.ah p.an p.ae p.ax p.ak p.ab p.af p.ad p.aw) _ W rfl HTA.out.short hma)
    rw [hma] at HMY
    clear hma
    unfold EncE at HE
    rw [HLA.out] at HE
    obtain ⟨L, hL⟩ : ∃ L, 35 + p.ax.size + p.aw.size = L := ⟨_, rfl⟩
    rw [hL] at HE
    have kw1 : IntKind.i64.wrap (29 + (p.ax.size : Int)) = 29 + (p.ax.size : Int) := IntWalk.i64_in _ (by omega)
    have kw2 : IntKind.i64.wrap (29 + (p.ax.size : Int) + 3) = 29 + (p.ax.size : Int) + 3 := IntWalk.i64_in _ (by omega)
    have kw3 : IntKind.i64.wrap (29 + (p.ax.size : Int) + 3 + 1) = 29 + (p.ax.size : Int) + 3 + 1 := IntWalk.i64_in _ (by omega)
    have kw4 : IntKind.i64.wrap (29 + (p.ax.size : Int) + 3 + 1 + 2) = 29 + (p.ax.size : Int) + 3 + 1 + 2 := IntWalk.i64_in _ (by omega)
    have kw5 : IntKind.i64.wrap (29 + (p.ax.size : Int) + 3 + 1 + 2 + (p.aw.size : Int)) = (L : Int) := by rw [IntWalk.i64_in _ (by omega)]; omega
    clear hL
    go_wp2_with (rw [hW])
    clear hW
    refine HE.out.mono ?_
    rintro e w3 ⟨a3, c3', rfl, ho, hb⟩
    have HXa3 := Lib.hid (HXa.out.below hb HXa.out.lt)
    have HXr3 := Lib.hid (HXr.out.below hb HXr.out.lt)
    have HB3 := Lib.hid (HB.out.trans (hb.mono HB.out.size))
    clear ta0 ta1 ta2 ta3 ta4 ta5 ta6 ta7 ta8 ta9 ta10 tr0 tr1 tr2 tr3 tr4 tr5 tr6 tr7
    clear hb ho HE
    have ta0 : w3.cell? ⟨w.heap.size, 0, none⟩ = some (.int .i64 p.ai) := HXa3.out.cell 0
    have ta1 : w3.cell? ⟨w.heap.size, 1, none⟩ = some (.int .i64 p.aq) := HXa3.out.cell 1
    have ta2 : w3.cell? ⟨w.heap.size, 2, none⟩ = some (.int .i64 p.ah) := HXa3.out.cell 2
    have ta3 : w3.cell? ⟨w.heap.size, 3, none⟩ = some (.int .i64 p.an) := HXa3.out.cell 3
    have ta4 : w3.cell? ⟨w.heap.size, 4, none⟩ = some (.int .i64 p.ae) := HXa3.out.cell 4
    have ta5 : w3.cell? ⟨w.heap.size, 5, none⟩ = some (.string p.ax) := HXa3.out.cell 5
    have ta6 : w3.cell? ⟨w.heap.size, 6, none⟩ = some (.int .i64 p.ak) := HXa3.out.cell 6
    have ta7 : w3.cell? ⟨w.heap.size, 7, none⟩ = some (.int .i64 p.ab) := HXa3.out.cell 7
    have ta8 : w3.cell? ⟨w.heap.size, 8, none⟩ = some (.bool p.af) := HXa3.out.cell 8
    have ta9 : w3.cell? ⟨w.heap.size, 9, none⟩ = some (.int .i64 p.ad) := HXa3.out.cell 9
    have ta10 : w3.cell? ⟨w.heap.size, 10, none⟩ = some (.string p.aw) := HXa3.out.cell 10
    have tr0 : w3.cell? ⟨w.heap.size + 1, 0, none⟩ = some (.int .i64 p.rs) := HXr3.out.cell 0
    have tr1 : w3.cell? ⟨w.heap.size + 1, 1, none⟩ = some (.int .i64 p.rq) := HXr3.out.cell 1
    have tr2 : w3.cell? ⟨w.heap.size + 1, 2, none⟩ = some (.int .i64 p.rh) := HXr3.out.cell 2
    have tr3 : w3.cell? ⟨w.heap.size + 1, 3, none⟩ = some (.int .i64 p.rn) := HXr3.out.cell 3
    have tr4 : w3.cell? ⟨w.heap.size + 1, 4, none⟩ = some (.int .i64 p.rw) := HXr3.out.cell 4
    have tr5 : w3.cell? ⟨w.heap.size + 1, 5, none⟩ = some (.int .i64 p.re) := HXr3.out.cell 5
    have tr6 : w3.cell? ⟨w.heap.size + 1, 6, none⟩ = some (.slice p.ra p.rl.length p.rc) := HXr3.out.cell 6
    have tr7 : w3.cell? ⟨w.heap.size + 1, 7, none⟩ = some (.bool p.rb) := HXr3.out.cell 7
    go_wp2_with fail
    refine (HMY.out w3).mono ?_
    rintro e w4 ⟨rfl, hb⟩
    have HXa4 := Lib.hid (HXa3.out.below hb HXa3.out.lt)
    have HXr4 := Lib.hid (HXr3.out.below hb HXr3.out.lt)
    have HB4 := Lib.hid (HB3.out.trans (hb.mono HB3.out.size))
    clear ta0 ta1 ta2 ta3 ta4 ta5 ta6 ta7 ta8 ta9 ta10 tr0 tr1 tr2 tr3 tr4 tr5 tr6 tr7
    have ta5 : w4.cell? ⟨w.heap.size, 5, none⟩ = some (.string p.ax) := HXa4.out.cell 5
    have ta10 : w4.cell? ⟨w.heap.size, 10, none⟩ = some (.string p.aw) := HXa4.out.cell 10
    clear hb HXa3 HXr3 HB3 HXa HXr HB HMY HLA HTA
    have tr0 : w4.cell? ⟨w.heap.size + 1, 0, none⟩ = some (.int .i64 p.rs) := HXr4.out.cell 0
    have tr1 : w4.cell? ⟨w.heap.size + 1, 1, none⟩ = some (.int .i64 p.rq) := HXr4.out.cell 1
    have tr2 : w4.cell? ⟨w.heap.size + 1, 2, none⟩ = some (.int .i64 p.rh) := HXr4.out.cell 2
    have tr3 : w4.cell? ⟨w.heap.size + 1, 3, none⟩ = some (.int .i64 p.rn) := HXr4.out.cell 3
    have tr4 : w4.cell? ⟨w.heap.size + 1, 4, none⟩ = some (.int .i64 p.rw) := HXr4.out.cell 4
    have tr5 : w4.cell? ⟨w.heap.size + 1, 5, none⟩ = some (.int .i64 p.re) := HXr4.out.cell 5
    have tr6 : w4.cell? ⟨w.heap.size + 1, 6, none⟩ = some (.slice p.ra p.rl.length p.rc) := HXr4.out.cell 6
    have tr7 : w4.cell? ⟨w.heap.size + 1, 7, none⟩ = some (.bool p.rb) := HXr4.out.cell 7
    go_wp2_with fail
    clear tr0 tr1 tr2 tr3 tr4 tr5 tr6 tr7
    go_loopw [7, 8] (fun nv v wr => ∃ i : Nat, i ≤ p.rl.length ∧ v = .int .i64 i ∧ nv = .int .i64 ((33 + sumS (p.rl.take i) : Nat) : Int) ∧ (∀ x ∈ p.rl.take i, x.2.size ≤ 100) ∧ RowKit.Hid (Blk wr (w.heap.size + 1) 32 [.int .i64 p.rs, .int .i64 p.rq, .int .i64 p.rh, .int .i64 p.rn, .int .i64 p.rw, .int .i64 p.re, .slice p.ra p.rl.length p.rc, .bool p.rb]) ∧ RowKit.Hid (Below w.heap.size w wr)) (fun _ v _ => p.rl.length - (intOf v).toNat)
    case atStart => exact ⟨0, by omega, rfl, rfl, by simp, HXr4, HB4⟩
    case round =>
      clear HXr4 HXa4 HB4
      obtain ⟨i, hi, rfl, rfl, hall, HXr5, HB5⟩ := hrel
      have tr6 : wr.cell? ⟨w.heap.size + 1, 6, none⟩ = some (.slice p.ra p.rl.length p.rc) := HXr5.out.cell 6
      by_cases hlt : i < p.rl.length
      · obtain ⟨x, hx⟩ : ∃ x, p.rl[i]? = some x := ⟨_, List.getElem?_eq_getElem hlt⟩
        obtain ⟨bb, ob, hab, hbb, hcx⟩ := (HRI.out wr HB5.out).2.2.2.2 i x hx
        have x1 : wr.cell? ⟨bb, ob + i * 2 + 1, none⟩ = some (.string x.2) := hcx 1 (by decide)
        have hxz := HZ.out x (List.mem_of_getElem? hx)
        have k1 : (0 : Int) ≤ (i : Int) := by omega
        have k2 : (i : Int) < (p.rl.length : Int) := by omega
        have HNX := Lib.hid (sumS_next hx)
        have hsb := sumS_le (p.rl.take i) hall
        have hti : (p.rl.take i).length ≤ 10 := by rw [List.length_take]; omega
        rw [hab] at tr6
        clear hcx
        generalize hsm : sumS (p.rl.take i) = sm at *
        have HSM := Lib.hid hsm
        clear hsm
        by_cases hbig : 100 < x.2.size
        · have k3 : (100 : Int) < (x.2.size : Int) := by omega
          go_wp2_with fail
          refine (HAW.out _).mono ?_
          rintro e w9 ⟨rfl, hb⟩
          have HB9 := Lib.hid (HB5.out.trans (hb.mono HB5.out.size))
          clear hb
          go_wp2_with fail
          go_ret
          exact ⟨rfl, HB9.out⟩
        · have k3 : ¬ (100 : Int) < (x.2.size : Int) := by omega
          have kw1 : IntKind.i64.wrap (((33 + sm : Nat) : Int) + 3) = ((33 + sm + 3 : Nat) : Int) := by rw [IntWalk.i64_in _ (by omega)]; omega
          have kw2 : IntKind.i64.wrap (((33 + sm + 3 : Nat) : Int) + (x.2.size : Int)) = ((33 + sm + 3 + x.2.size : Nat) : Int) := by rw [IntWalk.i64_in _ (by omega)]; omega
          obtain ⟨N0, hN0⟩ : ∃ N0, 33 + sm = N0 := ⟨_, rfl⟩
          obtain ⟨N1, hN1⟩ : ∃ N1, N0 + 3 = N1 := ⟨_, rfl⟩
          obtain ⟨N2, hN2⟩ : ∃ N2, N1 + x.2.size = N2 := ⟨_, rfl⟩
          rw [hN0] at kw1 kw2 ⊢
          rw [hN1] at kw1 kw2
          rw [hN2] at kw2
          have HNN := Lib.hid (show N2 = 33 + sumS (p.rl.take (i + 1)) from by rw [← HNX.out]; omega)
          have HALL := Lib.hid (show ∀ y ∈ p.rl.take (i + 1), y.2.size ≤ 100 from by
            intro y hy
            rw [List.take_add_one, hx] at hy
            rcases List.mem_append.1 hy with h1 | h1
            · exact hall y h1
            · have : y = x := by simpa using h1
              rw [this]; omega)
          clear hN0 hN1 hN2 hall hsb hti
          go_wp2_with fail
          go_roundw
          case rel => exact ⟨i + 1, by omega, by go_num, by rw [← HNN.out], HALL.out, HXr5, HB5⟩
          case measure => simp [intOf]; omega
      · obtain rfl : i = p.rl.length := by omega
        rw [List.take_length] at hall ⊢
        clear tr6
        have HTR := Lib.hid (show MV.tiny (.reply p.rs p.rq p.rh p.rn p.rw p.re p.rl p.rb) from hall)
        have hsb := sumS_le p.rl hall
        have HLN := Lib.hid (enc_reply_len p.rs p.rq p.rh p.rn p.rw p.re p.rl p.rb (fun y hy => by have := hall y hy; omega))
        have HRA := Lib.hid (fun W (hb : Below w.heap.size w W) => (show MV.At W (.iface 32 (.agg #[.int .i64 p.rs, .int .i64 p.rq, .int .i64 p.rh, .int .i64 p.rn, .int .i64 p.rw, .int .i64 p.re, .slice p.ra p.rl.length p.rc, .bool p.rb])) (.reply p.rs p.rq p.rh p.rn p.rw p.re p.rl p.rb) from ⟨p.ra, p.rc, rfl, HRI.out W hb⟩))
        clear hall
        have tr0 : wr.cell? ⟨w.heap.size + 1, 0, none⟩ = some (.int .i64 p.rs) := HXr5.out.cell 0
        have tr1 : wr.cell? ⟨w.heap.size + 1, 1, none⟩ = some (.int .i64 p.rq) := HXr5.out.cell 1
        have tr2 : wr.cell? ⟨w.heap.size + 1, 2, none⟩ = some (.int .i64 p.rh) := HXr5.out.cell 2
        have tr3 : wr.cell? ⟨w.heap.size + 1, 3, none⟩ = some (.int .i64 p.rn) := HXr5.out.cell 3
        have tr4 : wr.cell? ⟨w.heap.size + 1, 4, none⟩ = some (.int .i64 p.rw) := HXr5.out.cell 4
        have tr5 : wr.cell? ⟨w.heap.size + 1, 5, none⟩ = some (.int .i64 p.re) := HXr5.out.cell 5
        have tr6 : wr.cell? ⟨w.heap.size + 1, 6, none⟩ = some (.slice p.ra p.rl.length p.rc) := HXr5.out.cell 6
        have tr7 : wr.cell? ⟨w.heap.size + 1, 7, none⟩ = some (.bool p.rb) := HXr5.out.cell 7
        cases hmr : MV.may (.reply p.rs p.rq p.rh p.rn p.rw p.re p.rl p.rb)
        · have HE := Lib.hid (mencode_no (.reply p.rs p.rq p.rh p.rn p.rw p.re p.rl p.rb) _ wr (HRA.out wr HB5.out) HTR.out.short.small hmr)
          have HMY := Lib.hid (fun W (hb : Below w.heap.size w W) => mmay_any (.reply p.rs p.rq p.rh p.rn p.rw p.re p.rl p.rb) _ W (HRA.out W hb) HTR.out.short.small)
          rw [hmr] at HMY
          clear hmr
          go_wp2_with fail
          refine HE.out.mono ?_
          rintro e w6 ⟨rfl, hb⟩
          have HB6 := Lib.hid (HB5.out.trans (hb.mono HB5.out.size))
          have HXr6 := Lib.hid (HXr5.out.below hb HXr5.out.lt)
          clear tr0 tr1 tr2 tr3 tr4 tr5 tr6 tr7
          clear hb HE
          have tr0 : w6.cell? ⟨w.heap.size + 1, 0, none⟩ = some (.int .i64 p.rs) := HXr6.out.cell 0
          have tr1 : w6.cell? ⟨w.heap.size + 1, 1, none⟩ = some (.int .i64 p.rq) := HXr6.out.cell 1
          have tr2 : w6.cell? ⟨w.heap.size + 1, 2, none⟩ = some (.int .i64 p.rh) := HXr6.out.cell 2
          have tr3 : w6.cell? ⟨w.heap.size + 1, 3, none⟩ = some (.int .i64 p.rn) := HXr6.out.cell 3
          have tr4 : w6.cell? ⟨w.heap.size + 1, 4, none⟩ = some (.int .i64 p.rw) := HXr6.out.cell 4
          have tr5 : w6.cell? ⟨w.heap.size + 1, 5, none⟩ = some (.int .i64 p.re) := HXr6.out.cell 5
          have tr6 : w6.cell? ⟨w.heap.size + 1, 6, none⟩ = some (.slice p.ra p.rl.length p.rc) := HXr6.out.cell 6
          have tr7 : w6.cell? ⟨w.heap.size + 1, 7, none⟩ = some (.bool p.rb) := HXr6.out.cell 7
          go_wp2_with fail
          refine (HMY.out _ HB6.out).mono ?_
          rintro e w7 ⟨rfl, hb⟩
          have HB7 := Lib.hid (HB6.out.trans (hb.mono HB6.out.size))
          clear tr0 tr1 tr2 tr3 tr4 tr5 tr6 tr7
          clear hb
          go_wp2_with fail
          refine (HAW.out _).mono ?_
          rintro e w9 ⟨rfl, hb⟩
          have HB9 := Lib.hid (HB7.out.trans (hb.mono HB7.out.size))
          clear hb
          go_wp2_with fail
          go_ret
          exact ⟨rfl, HB9.out⟩
        · have HE := Lib.hid (mencode_yes (.reply p.rs p.rq p.rh p.rn p.rw p.re p.rl p.rb) _ wr (HRA.out wr HB5.out) HTR.out.short hmr)
          have HMY := Lib.hid (fun W (hb : Below w.heap.size w W) => mmay_any (.reply p.rs p.rq p.rh p.rn p.rw p.re p.rl p.rb) _ W (HRA.out W hb) HTR.out.short.small)
          have hz := enc_size hmr HTR.out
          rw [HLN.out] at hz
          rw [hmr] at HMY
          clear hmr
          obtain ⟨fl, hfl⟩ : ∃ fl, encL (.reply p.rs p.rq p.rh p.rn p.rw p.re p.rl p.rb) = fl := ⟨_, rfl⟩
          rw [hfl] at HE HLN
          clear hfl
          have hl1 : fl.length = 33 + sumS p.rl := HLN.out
          have hl2 : 33 + sumS p.rl ≤ 1024 := hz
          generalize 33 + sumS p.rl = S at *
          obtain ⟨L, hL⟩ : ∃ L, fl.length = L := ⟨_, rfl⟩
          unfold EncE at HE
          rw [hl1] at HE
          have k9 : (S : Int) ≤ 1024 := by omega
          clear hl1 hL hz hl2 hsb
          go_wp2_with fail
          refine HE.out.mono ?_
          rintro e w6 ⟨a6, c6, rfl, ho, hb⟩
          have HB6 := Lib.hid (HB5.out.trans (hb.mono HB5.out.size))
          have HXr6 := Lib.hid (HXr5.out.below hb HXr5.out.lt)
          clear tr0 tr1 tr2 tr3 tr4 tr5 tr6 tr7
          clear hb HE ho
          have tr0 : w6.cell? ⟨w.heap.size + 1, 0, none⟩ = some (.int .i64 p.rs) := HXr6.out.cell 0
          have tr1 : w6.cell? ⟨w.heap.size + 1, 1, none⟩ = some (.int .i64 p.rq) := HXr6.out.cell 1
          have tr2 : w6.cell? ⟨w.heap.size + 1, 2, none⟩ = some (.int .i64 p.rh) := HXr6.out.cell 2
          have tr3 : w6.cell? ⟨w.heap.size + 1, 3, none⟩ = some (.int .i64 p.rn) := HXr6.out.cell 3
          have tr4 : w6.cell? ⟨w.heap.size + 1, 4, none⟩ = some (.int .i64 p.rw) := HXr6.out.cell 4
          have tr5 : w6.cell? ⟨w.heap.size + 1, 5, none⟩ = some (.int .i64 p.re) := HXr6.out.cell 5
          have tr6 : w6.cell? ⟨w.heap.size + 1, 6, none⟩ = some (.slice p.ra p.rl.length p.rc) := HXr6.out.cell 6
          have tr7 : w6.cell? ⟨w.heap.size + 1, 7, none⟩ = some (.bool p.rb) := HXr6.out.cell 7
          go_wp2_with fail
          refine (HMY.out _ HB6.out).mono ?_
          rintro e w7 ⟨rfl, hb⟩
          have HB7 := Lib.hid (HB6.out.trans (hb.mono HB6.out.size))
          clear tr0 tr1 tr2 tr3 tr4 tr5 tr6 tr7
          clear hb
          go_wp2_with fail
          refine (HAW.out _).mono ?_
          rintro e w9 ⟨rfl, hb⟩
          have HB9 := Lib.hid (HB7.out.trans (hb.mono HB7.out.size))
          clear hb
          go_wp2_with fail
          go_ret
          exact ⟨rfl, HB9.out⟩
end Go.Proofs.Ytjhkdbcfkaaffaa
