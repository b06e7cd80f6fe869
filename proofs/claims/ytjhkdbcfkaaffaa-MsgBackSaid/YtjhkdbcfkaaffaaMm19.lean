/- The law MsgBack's walk. -/
import Derived.Test.YtjhkdbcfkaaffaaMm18
namespace Go.Proofs.Ytjhkdbcfkaaffaa
open Go.RowKit
set_option linter.unusedVariables false

set_option maxRecDepth 100000 in
set_option maxHeartbeats 8000000 in
theorem back_law (k : Int) (p : P5) (w : World) (h : p.ok w) (hk : -9223372036854775808 ≤ k ∧ k ≤ 9223372036854775807) :
    Calls Try.prog 5 #[.int .i64 k, .agg #[.int .i64 p.hw, .int .i64 p.hl], .agg #[.int .i64 p.gw, .int .i64 p.gl, .int .i64 p.ge], .agg #[.int .i64 p.ai, .int .i64 p.aq, .int .i64 p.ah, .int .i64 p.an, .int .i64 p.ae, .string p.ax, .int .i64 p.ak, .int .i64 p.ab, .bool p.af, .int .i64 p.ad, .string p.aw], .agg #[.int .i64 p.rs, .int .i64 p.rq, .int .i64 p.rh, .int .i64 p.rn, .int .i64 p.rw, .int .i64 p.re, .slice p.ra p.rl.length p.rc, .bool p.rb], .agg #[.int .i64 p.ss, .int .i64 p.sq]] w fun e w' => e = .returned (.bool true) ∧ Below w.heap.size w w' := by
  have HAW := Lib.hid (fun W => awake_any W)
  have HP := Lib.hid h
  clear h
  have HB := Lib.hid (show Below w.heap.size w (((((w.alloc (.cells #[.int .i64 p.hw, .int .i64 p.hl] 23)).alloc (.cells #[.int .i64 p.gw, .int .i64 p.gl, .int .i64 p.ge] 25)).alloc (.cells #[.int .i64 p.ai, .int .i64 p.aq, .int .i64 p.ah, .int .i64 p.an, .int .i64 p.ae, .string p.ax, .int .i64 p.ak, .int .i64 p.ab, .bool p.af, .int .i64 p.ad, .string p.aw] 29)).alloc (.cells #[.int .i64 p.rs, .int .i64 p.rq, .int .i64 p.rh, .int .i64 p.rn, .int .i64 p.rw, .int .i64 p.re, .slice p.ra p.rl.length p.rc, .bool p.rb] 32)).alloc (.cells #[.int .i64 p.ss, .int .i64 p.sq] 34)) from (by repeat (first | exact Below.refl _ _ | refine Below.alloc ?_ (by first | (simp; done) | (simp; omega)) _)))
  have HXh := Lib.hid (Blk.alloc (Blk.alloc (Blk.alloc (Blk.alloc (show Blk (w.alloc (.cells #[.int .i64 p.hw, .int .i64 p.hl] 23)) (w.heap.size) 23 [.int .i64 p.hw, .int .i64 p.hl] from by have q := heap_alloc_new w (.cells #[.int .i64 p.hw, .int .i64 p.hl] 23); exact q) (.cells #[.int .i64 p.gw, .int .i64 p.gl, .int .i64 p.ge] 25)) (.cells #[.int .i64 p.ai, .int .i64 p.aq, .int .i64 p.ah, .int .i64 p.an, .int .i64 p.ae, .string p.ax, .int .i64 p.ak, .int .i64 p.ab, .bool p.af, .int .i64 p.ad, .string p.aw] 29)) (.cells #[.int .i64 p.rs, .int .i64 p.rq, .int .i64 p.rh, .int .i64 p.rn, .int .i64 p.rw, .int .i64 p.re, .slice p.ra p.rl.length p.rc, .bool p.rb] 32)) (.cells #[.int .i64 p.ss, .int .i64 p.sq] 34))
  have HXg := Lib.hid (Blk.alloc (Blk.alloc (Blk.alloc (show Blk ((w.alloc (.cells #[.int .i64 p.hw, .int .i64 p.hl] 23)).alloc (.cells #[.int .i64 p.gw, .int .i64 p.gl, .int .i64 p.ge] 25)) (w.heap.size + 1) 25 [.int .i64 p.gw, .int .i64 p.gl, .int .i64 p.ge] from by have q := heap_alloc_new (w.alloc (.cells #[.int .i64 p.hw, .int .i64 p.hl] 23)) (.cells #[.int .i64 p.gw, .int .i64 p.gl, .int .i64 p.ge] 25); rw [show (w.alloc (.cells #[.int .i64 p.hw, .int .i64 p.hl] 23)).heap.size = w.heap.size + 1 from by simp] at q; exact q) (.cells #[.int .i64 p.ai, .int .i64 p.aq, .int .i64 p.ah, .int .i64 p.an, .int .i64 p.ae, .string p.ax, .int .i64 p.ak, .int .i64 p.ab, .bool p.af, .int .i64 p.ad, .string p.aw] 29)) (.cells #[.int .i64 p.rs, .int .i64 p.rq, .int .i64 p.rh, .int .i64 p.rn, .int .i64 p.rw, .int .i64 p.re, .slice p.ra p.rl.length p.rc, .bool p.rb] 32)) (.cells #[.int .i64 p.ss, .int .i64 p.sq] 34))
  have HXa := Lib.hid (Blk.alloc (Blk.alloc (show Blk (((w.alloc (.cells #[.int .i64 p.hw, .int .i64 p.hl] 23)).alloc (.cells #[.int .i64 p.gw, .int .i64 p.gl, .int .i64 p.ge] 25)).alloc (.cells #[.int .i64 p.ai, .int .i64 p.aq, .int .i64 p.ah, .int .i64 p.an, .int .i64 p.ae, .string p.ax, .int .i64 p.ak, .int .i64 p.ab, .bool p.af, .int .i64 p.ad, .string p.aw] 29)) (w.heap.size + 1 + 1) 29 [.int .i64 p.ai, .int .i64 p.aq, .int .i64 p.ah, .int .i64 p.an, .int .i64 p.ae, .string p.ax, .int .i64 p.ak, .int .i64 p.ab, .bool p.af, .int .i64 p.ad, .string p.aw] from by have q := heap_alloc_new ((w.alloc (.cells #[.int .i64 p.hw, .int .i64 p.hl] 23)).alloc (.cells #[.int .i64 p.gw, .int .i64 p.gl, .int .i64 p.ge] 25)) (.cells #[.int .i64 p.ai, .int .i64 p.aq, .int .i64 p.ah, .int .i64 p.an, .int .i64 p.ae, .string p.ax, .int .i64 p.ak, .int .i64 p.ab, .bool p.af, .int .i64 p.ad, .string p.aw] 29); rw [show ((w.alloc (.cells #[.int .i64 p.hw, .int .i64 p.hl] 23)).alloc (.cells #[.int .i64 p.gw, .int .i64 p.gl, .int .i64 p.ge] 25)).heap.size = w.heap.size + 1 + 1 from by simp] at q; exact q) (.cells #[.int .i64 p.rs, .int .i64 p.rq, .int .i64 p.rh, .int .i64 p.rn, .int .i64 p.rw, .int .i64 p.re, .slice p.ra p.rl.length p.rc, .bool p.rb] 32)) (.cells #[.int .i64 p.ss, .int .i64 p.sq] 34))
  have HXr := Lib.hid (Blk.alloc (show Blk ((((w.alloc (.cells #[.int .i64 p.hw, .int .i64 p.hl] 23)).alloc (.cells #[.int .i64 p.gw, .int .i64 p.gl, .int .i64 p.ge] 25)).alloc (.cells #[.int .i64 p.ai, .int .i64 p.aq, .int .i64 p.ah, .int .i64 p.an, .int .i64 p.ae, .string p.ax, .int .i64 p.ak, .int .i64 p.ab, .bool p.af, .int .i64 p.ad, .string p.aw] 29)).alloc (.cells #[.int .i64 p.rs, .int .i64 p.rq, .int .i64 p.rh, .int .i64 p.rn, .int .i64 p.rw, .int .i64 p.re, .slice p.ra p.rl.length p.rc, .bool p.rb] 32)) (w.heap.size + 1 + 1 + 1) 32 [.int .i64 p.rs, .int .i64 p.rq, .int .i64 p.rh, .int .i64 p.rn, .int .i64 p.rw, .int .i64 p.re, .slice p.ra p.rl.length p.rc, .bool p.rb] from by have q := heap_alloc_new (((w.alloc (.cells #[.int .i64 p.hw, .int .i64 p.hl] 23)).alloc (.cells #[.int .i64 p.gw, .int .i64 p.gl, .int .i64 p.ge] 25)).alloc (.cells #[.int .i64 p.ai, .int .i64 p.aq, .int .i64 p.ah, .int .i64 p.an, .int .i64 p.ae, .string p.ax, .int .i64 p.ak, .int .i64 p.ab, .bool p.af, .int .i64 p.ad, .string p.aw] 29)) (.cells #[.int .i64 p.rs, .int .i64 p.rq, .int .i64 p.rh, .int .i64 p.rn, .int .i64 p.rw, .int .i64 p.re, .slice p.ra p.rl.length p.rc, .bool p.rb] 32); rw [show (((w.alloc (.cells #[.int .i64 p.hw, .int .i64 p.hl] 23)).alloc (.cells #[.int .i64 p.gw, .int .i64 p.gl, .int .i64 p.ge] 25)).alloc (.cells #[.int .i64 p.ai, .int .i64 p.aq, .int .i64 p.ah, .int .i64 p.an, .int .i64 p.ae, .string p.ax, .int .i64 p.ak, .int .i64 p.ab, .bool p.af, .int .i64 p.ad, .string p.aw] 29)).heap.size = w.heap.size + 1 + 1 + 1 from by simp] at q; exact q) (.cells #[.int .i64 p.ss, .int .i64 p.sq] 34))
  have HXs := Lib.hid (show Blk (((((w.alloc (.cells #[.int .i64 p.hw, .int .i64 p.hl] 23)).alloc (.cells #[.int .i64 p.gw, .int .i64 p.gl, .int .i64 p.ge] 25)).alloc (.cells #[.int .i64 p.ai, .int .i64 p.aq, .int .i64 p.ah, .int .i64 p.an, .int .i64 p.ae, .string p.ax, .int .i64 p.ak, .int .i64 p.ab, .bool p.af, .int .i64 p.ad, .string p.aw] 29)).alloc (.cells #[.int .i64 p.rs, .int .i64 p.rq, .int .i64 p.rh, .int .i64 p.rn, .int .i64 p.rw, .int .i64 p.re, .slice p.ra p.rl.length p.rc, .bool p.rb] 32)).alloc (.cells #[.int .i64 p.ss, .int .i64 p.sq] 34)) (w.heap.size + 1 + 1 + 1 + 1) 34 [.int .i64 p.ss, .int .i64 p.sq] from by have q := heap_alloc_new ((((w.alloc (.cells #[.int .i64 p.hw, .int .i64 p.hl] 23)).alloc (.cells #[.int .i64 p.gw, .int .i64 p.gl, .int .i64 p.ge] 25)).alloc (.cells #[.int .i64 p.ai, .int .i64 p.aq, .int .i64 p.ah, .int .i64 p.an, .int .i64 p.ae, .string p.ax, .int .i64 p.ak, .int .i64 p.ab, .bool p.af, .int .i64 p.ad, .string p.aw] 29)).alloc (.cells #[.int .i64 p.rs, .int .i64 p.rq, .int .i64 p.rh, .int .i64 p.rn, .int .i64 p.rw, .int .i64 p.re, .slice p.ra p.rl.length p.rc, .bool p.rb] 32)) (.cells #[.int .i64 p.ss, .int .i64 p.sq] 34); rw [show ((((w.alloc (.cells #[.int .i64 p.hw, .int .i64 p.hl] 23)).alloc (.cells #[.int .i64 p.gw, .int .i64 p.gl, .int .i64 p.ge] 25)).alloc (.cells #[.int .i64 p.ai, .int .i64 p.aq, .int .i64 p.ah, .int .i64 p.an, .int .i64 p.ae, .string p.ax, .int .i64 p.ak, .int .i64 p.ab, .bool p.af, .int .i64 p.ad, .string p.aw] 29)).alloc (.cells #[.int .i64 p.rs, .int .i64 p.rq, .int .i64 p.rh, .int .i64 p.rn, .int .i64 p.rw, .int .i64 p.re, .slice p.ra p.rl.length p.rc, .bool p.rb] 32)).heap.size = w.heap.size + 1 + 1 + 1 + 1 from by simp] at q; exact q)
  obtain ⟨W, hW⟩ : ∃ W, (((((w.alloc (.cells #[.int .i64 p.hw, .int .i64 p.hl] 23)).alloc (.cells #[.int .i64 p.gw, .int .i64 p.gl, .int .i64 p.ge] 25)).alloc (.cells #[.int .i64 p.ai, .int .i64 p.aq, .int .i64 p.ah, .int .i64 p.an, .int .i64 p.ae, .string p.ax, .int .i64 p.ak, .int .i64 p.ab, .bool p.af, .int .i64 p.ad, .string p.aw] 29)).alloc (.cells #[.int .i64 p.rs, .int .i64 p.rq, .int .i64 p.rh, .int .i64 p.rn, .int .i64 p.rw, .int .i64 p.re, .slice p.ra p.rl.length p.rc, .bool p.rb] 32)).alloc (.cells #[.int .i64 p.ss, .int .i64 p.sq] 34)) = W := ⟨_, rfl⟩
  rw [hW] at HB HXh HXg HXa HXr HXs
  have th0 : W.cell? ⟨w.heap.size, 0, none⟩ = some (.int .i64 p.hw) := HXh.out.cell 0
  have th1 : W.cell? ⟨w.heap.size, 1, none⟩ = some (.int .i64 p.hl) := HXh.out.cell 1
  have tg0 : W.cell? ⟨w.heap.size + 1, 0, none⟩ = some (.int .i64 p.gw) := HXg.out.cell 0
  have tg1 : W.cell? ⟨w.heap.size + 1, 1, none⟩ = some (.int .i64 p.gl) := HXg.out.cell 1
  have tg2 : W.cell? ⟨w.heap.size + 1, 2, none⟩ = some (.int .i64 p.ge) := HXg.out.cell 2
  have ta0 : W.cell? ⟨w.heap.size + 1 + 1, 0, none⟩ = some (.int .i64 p.ai) := HXa.out.cell 0
  have ta1 : W.cell? ⟨w.heap.size + 1 + 1, 1, none⟩ = some (.int .i64 p.aq) := HXa.out.cell 1
  have ta2 : W.cell? ⟨w.heap.size + 1 + 1, 2, none⟩ = some (.int .i64 p.ah) := HXa.out.cell 2
  have ta3 : W.cell? ⟨w.heap.size + 1 + 1, 3, none⟩ = some (.int .i64 p.an) := HXa.out.cell 3
  have ta4 : W.cell? ⟨w.heap.size + 1 + 1, 4, none⟩ = some (.int .i64 p.ae) := HXa.out.cell 4
  have ta5 : W.cell? ⟨w.heap.size + 1 + 1, 5, none⟩ = some (.string p.ax) := HXa.out.cell 5
  have ta6 : W.cell? ⟨w.heap.size + 1 + 1, 6, none⟩ = some (.int .i64 p.ak) := HXa.out.cell 6
  have ta7 : W.cell? ⟨w.heap.size + 1 + 1, 7, none⟩ = some (.int .i64 p.ab) := HXa.out.cell 7
  have ta8 : W.cell? ⟨w.heap.size + 1 + 1, 8, none⟩ = some (.bool p.af) := HXa.out.cell 8
  have ta9 : W.cell? ⟨w.heap.size + 1 + 1, 9, none⟩ = some (.int .i64 p.ad) := HXa.out.cell 9
  have ta10 : W.cell? ⟨w.heap.size + 1 + 1, 10, none⟩ = some (.string p.aw) := HXa.out.cell 10
  have tr0 : W.cell? ⟨w.heap.size + 1 + 1 + 1, 0, none⟩ = some (.int .i64 p.rs) := HXr.out.cell 0
  have tr1 : W.cell? ⟨w.heap.size + 1 + 1 + 1, 1, none⟩ = some (.int .i64 p.rq) := HXr.out.cell 1
  have tr2 : W.cell? ⟨w.heap.size + 1 + 1 + 1, 2, none⟩ = some (.int .i64 p.rh) := HXr.out.cell 2
  have tr3 : W.cell? ⟨w.heap.size + 1 + 1 + 1, 3, none⟩ = some (.int .i64 p.rn) := HXr.out.cell 3
  have tr4 : W.cell? ⟨w.heap.size + 1 + 1 + 1, 4, none⟩ = some (.int .i64 p.rw) := HXr.out.cell 4
  have tr5 : W.cell? ⟨w.heap.size + 1 + 1 + 1, 5, none⟩ = some (.int .i64 p.re) := HXr.out.cell 5
  have tr6 : W.cell? ⟨w.heap.size + 1 + 1 + 1, 6, none⟩ = some (.slice p.ra p.rl.length p.rc) := HXr.out.cell 6
  have tr7 : W.cell? ⟨w.heap.size + 1 + 1 + 1, 7, none⟩ = some (.bool p.rb) := HXr.out.cell 7
  have ts0 : W.cell? ⟨w.heap.size + 1 + 1 + 1 + 1, 0, none⟩ = some (.int .i64 p.ss) := HXs.out.cell 0
  have ts1 : W.cell? ⟨w.heap.size + 1 + 1 + 1 + 1, 1, none⟩ = some (.int .i64 p.sq) := HXs.out.cell 1
  have HGR := Lib.hid (great_any p W (HP.out.below HB.out))
  go_enter Try.func5, Try.ntmps5
  go_wp2_with (rw [hW])
  clear hW
  refine HGR.out.mono ?_
  rintro e w1 ⟨rfl, hb⟩
  clear HGR
  have HB1 := Lib.hid (HB.out.trans (hb.mono HB.out.size))
  have HXh1 := Lib.hid (HXh.out.below hb HXh.out.lt)
  have HXg1 := Lib.hid (HXg.out.below hb HXg.out.lt)
  have HXa1 := Lib.hid (HXa.out.below hb HXa.out.lt)
  have HXr1 := Lib.hid (HXr.out.below hb HXr.out.lt)
  have HXs1 := Lib.hid (HXs.out.below hb HXs.out.lt)
  clear th0 th1 tg0 tg1 tg2 ta0 ta1 ta2 ta3 ta4 ta5 ta6 ta7 ta8 ta9 ta10 tr0 tr1 tr2 tr3 tr4 tr5 tr6 tr7 ts0 ts1
  clear hb HB HXh HXg HXa HXr HXs
  cases hg : p.great
  rotate_left 1
  · go_wp2_with fail
    refine (HAW.out _).mono ?_
    rintro e w9 ⟨rfl, hb⟩
    have HB9 := Lib.hid (HB1.out.trans (hb.mono HB1.out.size))
    clear hb
    go_wp2_with fail
    go_ret
    exact ⟨rfl, HB9.out⟩
  have HT := Lib.hid (one_tiny (k := k) hg)
  clear hg
  have th0 : w1.cell? ⟨w.heap.size, 0, none⟩ = some (.int .i64 p.hw) := HXh1.out.cell 0
  have th1 : w1.cell? ⟨w.heap.size, 1, none⟩ = some (.int .i64 p.hl) := HXh1.out.cell 1
  have tg0 : w1.cell? ⟨w.heap.size + 1, 0, none⟩ = some (.int .i64 p.gw) := HXg1.out.cell 0
  have tg1 : w1.cell? ⟨w.heap.size + 1, 1, none⟩ = some (.int .i64 p.gl) := HXg1.out.cell 1
  have tg2 : w1.cell? ⟨w.heap.size + 1, 2, none⟩ = some (.int .i64 p.ge) := HXg1.out.cell 2
  have ta0 : w1.cell? ⟨w.heap.size + 1 + 1, 0, none⟩ = some (.int .i64 p.ai) := HXa1.out.cell 0
  have ta1 : w1.cell? ⟨w.heap.size + 1 + 1, 1, none⟩ = some (.int .i64 p.aq) := HXa1.out.cell 1
  have ta2 : w1.cell? ⟨w.heap.size + 1 + 1, 2, none⟩ = some (.int .i64 p.ah) := HXa1.out.cell 2
  have ta3 : w1.cell? ⟨w.heap.size + 1 + 1, 3, none⟩ = some (.int .i64 p.an) := HXa1.out.cell 3
  have ta4 : w1.cell? ⟨w.heap.size + 1 + 1, 4, none⟩ = some (.int .i64 p.ae) := HXa1.out.cell 4
  have ta5 : w1.cell? ⟨w.heap.size + 1 + 1, 5, none⟩ = some (.string p.ax) := HXa1.out.cell 5
  have ta6 : w1.cell? ⟨w.heap.size + 1 + 1, 6, none⟩ = some (.int .i64 p.ak) := HXa1.out.cell 6
  have ta7 : w1.cell? ⟨w.heap.size + 1 + 1, 7, none⟩ = some (.int .i64 p.ab) := HXa1.out.cell 7
  have ta8 : w1.cell? ⟨w.heap.size + 1 + 1, 8, none⟩ = some (.bool p.af) := HXa1.out.cell 8
  have ta9 : w1.cell? ⟨w.heap.size + 1 + 1, 9, none⟩ = some (.int .i64 p.ad) := HXa1.out.cell 9
  have ta10 : w1.cell? ⟨w.heap.size + 1 + 1, 10, none⟩ = some (.string p.aw) := HXa1.out.cell 10
  have tr0 : w1.cell? ⟨w.heap.size + 1 + 1 + 1, 0, none⟩ = some (.int .i64 p.rs) := HXr1.out.cell 0
  have tr1 : w1.cell? ⟨w.heap.size + 1 + 1 + 1, 1, none⟩ = some (.int .i64 p.rq) := HXr1.out.cell 1
  have tr2 : w1.cell? ⟨w.heap.size + 1 + 1 + 1, 2, none⟩ = some (.int .i64 p.rh) := HXr1.out.cell 2
  have tr3 : w1.cell? ⟨w.heap.size + 1 + 1 + 1, 3, none⟩ = some (.int .i64 p.rn) := HXr1.out.cell 3
  have tr4 : w1.cell? ⟨w.heap.size + 1 + 1 + 1, 4, none⟩ = some (.int .i64 p.rw) := HXr1.out.cell 4
  have tr5 : w1.cell? ⟨w.heap.size + 1 + 1 + 1, 5, none⟩ = some (.int .i64 p.re) := HXr1.out.cell 5
  have tr6 : w1.cell? ⟨w.heap.size + 1 + 1 + 1, 6, none⟩ = some (.slice p.ra p.rl.length p.rc) := HXr1.out.cell 6
  have tr7 : w1.cell? ⟨w.heap.size + 1 + 1 + 1, 7, none⟩ = some (.bool p.rb) := HXr1.out.cell 7
  have ts0 : w1.cell? ⟨w.heap.size + 1 + 1 + 1 + 1, 0, none⟩ = some (.int .i64 p.ss) := HXs1.out.cell 0
  have ts1 : w1.cell? ⟨w.heap.size + 1 + 1 + 1 + 1, 1, none⟩ = some (.int .i64 p.sq) := HXs1.out.cell 1
  have HON := Lib.hid (one_any p k w1 (HP.out.below HB1.out) hk)
  go_wp2_with fail
  refine HON.out.mono ?_
  rintro e w2 ⟨u, rfl, hu, hb⟩
  have HU := Lib.hid hu
  have HB2 := Lib.hid (HB1.out.trans (hb.mono HB1.out.size))
  clear th0 th1 tg0 tg1 tg2 ta0 ta1 ta2 ta3 ta4 ta5 ta6 ta7 ta8 ta9 ta10 tr0 tr1 tr2 tr3 tr4 tr5 tr6 tr7 ts0 ts1
  clear hu hb HON HB1 HXh1 HXg1 HXa1 HXr1 HXs1
  generalize p.one k = m at *
  cases hm : m.may
  · have HE := Lib.hid (mencode_no m u w2 HU.out HT.out.short.small hm)
    have HMY := Lib.hid (fun W (h : Below w2.heap.size w2 W) => mmay_any m u W (HU.out.below h) HT.out.short.small)
    rw [hm] at HMY
    clear hm
    go_wp2_with fail
    refine HE.out.mono ?_
    rintro e w3 ⟨rfl, hb⟩
    have HC := Lib.hid hb
    have HB3 := Lib.hid (HB2.out.trans (hb.mono HB2.out.size))
    clear hb HE
    go_wp2_with fail
    refine (HMY.out _ HC.out).mono ?_
    rintro e w4 ⟨rfl, hb⟩
    have HB4 := Lib.hid (HB3.out.trans (hb.mono HB3.out.size))
    clear hb
    go_wp2_with fail
    refine (HAW.out _).mono ?_
    rintro e w9 ⟨rfl, hb⟩
    have HB9 := Lib.hid (HB4.out.trans (hb.mono HB4.out.size))
    clear hb
    go_wp2_with fail
    go_ret
    exact ⟨rfl, HB9.out⟩
  · have HE := Lib.hid (mencode_yes m u w2 HU.out HT.out.short hm)
    have HS := Lib.hid (same_refl (may_isMsg hm))
    have HD := Lib.hid (dec_back m hm HT.out.short (enc_size hm HT.out))
    have HLT := Lib.hid (coreL_lt m (may_isMsg hm))
    have HSZ := Lib.hid (enc_size hm HT.out)
    have HE2 := Lib.hid (fun u W (h : m.At W u) => mencode_yes m u W h HT.out.short hm)
    have HMY := Lib.hid (fun u W (h : m.At W u) => mmay_any m u W h HT.out.short.small)
    rw [hm] at HMY
    clear hm
    generalize encL m = fl at *
    go_wp2_with fail
    refine HE.out.mono ?_
    rintro e w3 ⟨a, c, rfl, ho, hb⟩
    have HO3 := Lib.hid ho
    have HU3 := Lib.hid (HU.out.below hb)
    have HB3 := Lib.hid (HB2.out.trans (hb.mono HB2.out.size))
    clear ho hb HE HU
    go_wp2_with fail
    refine (mdecode_any a c fl w3 (ownsRow_rd HO3.out) HLT.out (by have := HSZ.out; omega)).mono ?_
    rintro e w4 ⟨u4, rfl, hu, hb⟩
    rw [HD.out] at hu ⊢
    have HM4 := Lib.hid (show m.At w4 u4 from hu)
    have HU4 := Lib.hid (HU3.out.below hb)
    have HO4 := Lib.hid (ownsRow_below HO3.out hb)
    have HB4 := Lib.hid (HB3.out.trans (hb.mono HB3.out.size))
    clear hu hb HU3 HO3
    go_wp2_with fail
    refine (HE2.out u4 w4 HM4.out).mono ?_
    rintro e w5 ⟨a5, c5, rfl, ho, hb⟩
    have HO5 := Lib.hid ho
    have HM5 := Lib.hid (HM4.out.below hb)
    have HU5 := Lib.hid (HU4.out.below hb)
    have HO45 := Lib.hid (ownsRow_below HO4.out hb)
    have HB5 := Lib.hid (HB4.out.trans (hb.mono HB4.out.size))
    clear ho hb HU4 HM4 HO4
    go_wp2_with fail
    refine (msame_any m m u4 u w5 HM5.out HU5.out).mono ?_
    rintro e w6 ⟨rfl, hb⟩
    rw [HS.out]
    have HO6 := Lib.hid (ownsRow_below HO5.out hb)
    have HO46 := Lib.hid (ownsRow_below HO45.out hb)
    have HM6 := Lib.hid (HM5.out.below hb)
    have HB6 := Lib.hid (HB5.out.trans (hb.mono HB5.out.size))
    clear hb HO5 HO45 HM5 HU5
    go_wp2_with fail
    refine (sameB_any a5 fl.length c5 a fl.length c fl fl w6 (ownsRow_rd HO6.out) (ownsRow_rd HO46.out)).mono ?_
    rintro e w7 ⟨rfl, hd⟩
    have hb := hd.below w6.heap.size
    rw [eqL_self]
    have HM7 := Lib.hid (HM6.out.below hb)
    have HB7 := Lib.hid (HB6.out.trans (hb.mono HB6.out.size))
    clear hd hb HO6 HO46 HM6
    have hsz : (fl.length : Int) ≤ 1024 := by have := HSZ.out; omega
    go_wp2_with fail
    refine (HMY.out u4 w7 HM7.out).mono ?_
    rintro e w8 ⟨rfl, hb⟩
    have HB8 := Lib.hid (HB7.out.trans (hb.mono HB7.out.size))
    clear hb
    go_wp2_with fail
    refine (HAW.out _).mono ?_
    rintro e w9 ⟨rfl, hb⟩
    have HB9 := Lib.hid (HB8.out.trans (hb.mono HB8.out.size))
    clear hb
    go_wp2_with fail
    go_ret
    exact ⟨rfl, HB9.out⟩
end Go.Proofs.Ytjhkdbcfkaaffaa
