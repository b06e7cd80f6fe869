/- The law MsgTurned's walk. -/
import Derived.Test.YtjhkdbcfkaaffaaMm21
namespace Go.Proofs.Ytjhkdbcfkaaffaa
open Go.RowKit
set_option linter.unusedVariables false

set_option maxRecDepth 100000 in
set_option maxHeartbeats 8000000 in
theorem turned_law15 (k : Int) (p : P5) (at' x : Int) (w : World) (h : p.ok w) (hk : -9223372036854775808 ≤ k ∧ k ≤ 9223372036854775807) :
    Calls Try.prog 6 #[.int .i64 k, .agg #[.int .i64 p.hw, .int .i64 p.hl], .agg #[.int .i64 p.gw, .int .i64 p.gl, .int .i64 p.ge], .agg #[.int .i64 p.ai, .int .i64 p.aq, .int .i64 p.ah, .int .i64 p.an, .int .i64 p.ae, .string p.ax, .int .i64 p.ak, .int .i64 p.ab, .bool p.af, .int .i64 p.ad, .string p.aw], .agg #[.int .i64 p.rs, .int .i64 p.rq, .int .i64 p.rh, .int .i64 p.rn, .int .i64 p.rw, .int .i64 p.re, .slice p.ra p.rl.length p.rc, .bool p.rb], .agg #[.int .i64 p.ss, .int .i64 p.sq], .int .i64 at', .int .i64 x] w fun e w' => e = .returned (.bool true) ∧ Below w.heap.size w w' := by
  obtain ⟨i0, hi, hz0, hz1, hz2⟩ := info_parts info5
  have HI := Lib.hid hi
  have HZ0 := Lib.hid hz0
  have HZ1 := Lib.hid hz1
  have HZ2 : RowKit.Hid (i0.bytes = 1) := hz2
  clear hi hz0 hz1 hz2
  have HAW := Lib.hid (fun W => awake_any W)
  have HP := Lib.hid h
  clear h
  have HB := Lib.hid (show Below w.heap.size w (((((w.alloc (.cells #[.int .i64 p.hw, .int .i64 p.hl] 23)).alloc (.cells #[.int .i64 p.gw, .int .i64 p.gl, .int .i64 p.ge] 25)).alloc (.cells #[.int .i64 p.ai, .int .i64 p.aq, .int .i64 p.ah, .int .i64 p.an, .int .i64 p.ae, .string p.ax, .int .i64 p.ak, .int .i64 p.ab, .bool p.af, .int .i64 p.ad, .string p.aw] 29)).alloc (.cells #[.int .i64 p.rs, .int .i64 p.rq, .int .i64 p.rh, .int .i64 p.rn, .int .i64 p.rw, .int .i64 p.re, .slice p.ra p.rl.length p.rc, .bool p.rb] 32)).alloc (.cells #[.int .i64 p.ss, .int .i64 p.sq] 34)) from (by repeat (first | exact Below.refl _ _ | refine Below.alloc ?_ (by first | (simp; done) | (simp; omega)) _)))
  have HXh := Lib.hid (Blk.alloc (Blk.alloc (Blk.alloc (Blk.alloc (show Blk (w.alloc (.cells #[.int .i64 p.hw, .int .i64 p.hl] 23)) (w.heap.size) 23 [.int .i64 p.hw, .int .i64 p.hl] from by have q := heap_alloc_new w (.cells #[.int .i64 p.hw, .int .i64 p.hl] 23); exact q) (.cells #[.int .i64 p.gw, .int .i64 p.gl, .int .i64 p.ge] 25)) (.cells #[.int .i64 p.ai, .int .i64 p.aq, .int .i64 p.ah, .int .i64 p.an, .int .i64 p.ae, .string p.ax, .int .i64 p.ak, .int .i64 p.ab, .bool p.af, .int .i64 p.ad, .string p.aw] 29)) (.cells #[.int .i64 p.rs, .int .i64 p.rq, .int .i64 p.rh, .int .i64 p.rn, .int .i64 p.rw, .int .i64 p.re, .slice p.ra p.rl.length p.rc, .bool p.rb] 32)) (.cells #[.int .i64 p.ss, .int .i64 p.sq] 34))
  have HXg := Lib.hid (Blk.alloc (Blk.alloc (Blk.alloc (show Blk ((w.alloc (.cells #[.int .i64 p.hw, .int .i64 p.hl] 23)).alloc (.cells #[.int .i64 p.gw, .int .i64 p.gl, .int .i64 p.ge] 25)) (w.heap.size + 1) 25 [.int .i64 p.gw, .int .i64 p.gl, .int .i64 p.ge] from by have q := heap_alloc_new (w.alloc (.cells #[.int .i64 p.hw, .int .i64 p.hl] 23)) (.cells #[.int .i64 p.gw, .int .i64 p.gl, .int .i64 p.ge] 25); rw [show (w.alloc (.cells #[.int .i64 p.hw, .int .i64 p.hl] 23)).heap.size = w.heap.size + 1 from by simp] at q; exact q) (.cells #[.int .i64 p.ai, .int .i64 p.aq, .int .i64 p.ah, .int .i64 p.an, .int .i64 p.ae, .string p.ax, .int .i64 p.ak, .int .i64 p.ab, .bool p.af, .int .i64 p.ad, .string p.aw] 29)) (.cells #[.int .i64 p.rs, .int .i64 p.rq, .int .i64 p.rh, .int .i64 p.rn, .int .i64 p.rw, .int .i64 p.re, .slice p.ra p.rl.length p.rc, .bool p.rb] 32)) (.cells #[.int .i64 p.ss, .int .i64 p.sq] 34))
  have HXa := Lib.hid (Blk.alloc (Blk.alloc (show Blk (((w.alloc (.cells #[.int .i64 p.hw, .int .i64 p.hl] 23)).alloc (.cells #[.int .i64 p.gw, .int .i64 p.gl, .int .i64 p.ge] 25)).alloc (.cells #[.int .i64 p.ai, .int .i64 p.aq, .int .i64 p.ah, .int .i64 p.an, .int .i64 p.ae, .string p.ax, .int .i64 p.ak, .int .i64 p.ab, .bool p.af, .int .i64 p.ad, .string p.aw] 29)) (w.heap.size + 1 + 1) 29 [.int .i64 p.ai, .int .i64 p.aq, .int .i64 p.ah, .int .i64 p.an, .int .i64 p.ae, .string p.ax, .int .i64 p.ak, .int .i64 p.ab, .bool p.af, .int .i64 p.ad, .string p.aw] from by have q := heap_alloc_new ((w.alloc (.cells #[.int .i64 p.hw, .int .i64 p.hl] 23)).alloc (.cells #[.int .i64 p.gw, .int .i64 p.gl, .int .i64 p.ge] 25)) (.cells #[.int .i64 p.ai, .int .i64 p.aq, .int .i64 p.ah, .int .i64 p.an, .int .i64 p.ae, .string p.ax, .int .i64 p.ak, .int .i64 p.ab, .bool p.af, .int .i64 p.ad, .string p.aw] 29); rw [show ((w.alloc (.cells #[.int .i64 p.hw, .int .i64 p.hl] 23)).alloc (.cells #[.int .i64 p.gw, .int .i64 p.gl, .int .i64 p.ge] 25)).heap.size = w.heap.size + 1 + 1 from by simp] at q; exact q) (.cells #[.int .i64 p.rs, .int .i64 p.rq, .int .i64 p.rh, .int .i64 p.rn, .int .i64 p.rw, .int .i64 p.re, .slice p.ra p.rl.length p.rc, .bool p.rb] 32)) (.cells #[.int .i64 p.ss, .int .i64 p.sq] 34))
  have HXr := Lib.hid (Blk.alloc (show Blk ((((w.alloc (.cells #[.int .i64 p.hw, .int .i64 p.hl] 23)).alloc (.cells #[.int .i64 p.gw, .int .i64 p.gl, .int .i64 p.ge] 25)).alloc (.cells #[.int .i64 p.ai, .int .i64 p.aq, .int .i64 p.ah, .int .i64 p.an, .int .i64 p.ae, .string p.ax, .int .i64 p.ak, .int .i64 p.ab, .bool p.af, .int .i64 p.ad, .string p.aw] 29)).alloc (.cells #[.int .i64 p.rs, .int .i64 p.rq, .int .i64 p.rh, .int .i64 p.rn, .int .i64 p.rw, .int .i64 p.re, .slice p.ra p.rl.length p.rc, .bool p.rb] 32)) (w.heap.size + 1 + 1 + 1) 32 [.int .i64 p.rs, .int .i64 p.rq, .int .i64 p.rh, .int .i64 p.rn, .int .i64 p.rw, .int .i64 p.re, .slice p.ra p.rl.length p.rc, .bool p.rb] from by have q := heap_alloc_new (((w.alloc (.cells #[.int .i64 p.hw, .int .i64 p.hl] 23)).alloc (.cells #[.int .i64 p.gw, .int .i64 p.gl, .int .i64 p.ge] 25)).alloc (.cells #[.int .i64 p.ai, .int .i64 p.aq, .int .i64 p.ah, .int .i64 p.an, .int .i64 p.ae, .string p.ax, .int .i64 p.ak, .int .i64 p.ab, .bool p.af, .int .i64 p.ad, .string p.aw] 29)) (.cells #[.int .i64 p.rs, .int .i64 p.rq, .int .i64 p.rh, .int .i64 p.rn, .int .i64 p.rw, .int .i64 p.re, .slice p.ra p.rl.length p.rc, .bool p.rb] 32); rw [show (((w.alloc (.cells #[.int .i64 p.hw, .int .i64 p.hl] 23)).alloc (.cells #[.int .i64 p.gw, .int .i64 p.gl, .int .i64 p.ge] 25)).alloc (.cells #[.int .i64 p.ai, .int .i64 p.aq, .int .i64 p.ah, .int .i64 p.an, .int .i64 p.ae, .string p.ax, .int .i64 p.ak, .int .i64 p.ab, .bool p.af, .int .i64 p.ad, .string p.aw] 29)).heap.size = w.heap.size + 1 + 1 + 1 from by simp] at q; exact q) (.cells #[.int .i64 p.ss, .int .i64 p.sq] 34))
  have HXs := Lib.hid (show Blk (((((w.alloc (.cells #[.int .i64 p.hw, .int .i64 p.hl] 23)).alloc (.cells #[.int .i64 p.gw, .int .i64 p.gl, .int .i64 p.ge] 25)).alloc (.cells #[.int .i64 p.ai, .int .i64 p.aq, .int .i64 p.ah, .int .i64 p.an, .int .i64 p.ae, .string p.ax, .int .i64 p.ak, .int .i64 p.ab, .bool p.af, .int .i64 p.ad, .string p.aw] 29)).alloc (.cells #[.int .i64 p.rs, .int .i64 p.rq, .int .i64 p.rh, .int .i64 p.rn, .int .i64 p.rw, .int .i64 p.re, .slice p.ra p.rl.length p.rc, .bool p.rb] 32)).alloc (.cells #[.int .i64 p.ss, .int .i64 p.sq] 34)) (w.heap.size + 1 + 1 + 1 + 1) 34 [.int .i64 p.ss, .int .i64 p.sq] from by have q := heap_alloc_new ((((w.alloc (.cells #[.int .i64 p.hw, .int .i64 p.hl] 23)).alloc (.cells #[.int .i64 p.gw, .int .i64 p.gl, .int .i64 p.ge] 25)).alloc (.cells #[.int .i64 p.ai, .int .i64 p.aq, .int .i64 p.ah, .int .i64 p.an, .int .i64 p.ae, .string p.ax, .int .i64 p.ak, .int .i64 p.ab, .bool p.af, .int .i64 p.ad, .string p.aw] 29)).alloc (.cells #[.int .i64 p.rs, .int .i64 p.rq, .int .i64 p.rh, .int .i64 p.rn, .int .i64 p.rw, .int .i64 p.re, .slice p.ra p.rl.length p.rc, .bool p.rb] 32)) (.cells #[.int .i64 p.ss, .int .i64 p.sq] 34); rw [show ((((w.alloc (.cells #[.int .i64 p.hw, .int .i64 p.hl] 23)).alloc (.cells #[.int .i64 p.gw, .int .i64 p.gl, .int .i64 p.ge] 25)).alloc (.cells #[.int .i64 p.ai, .int .i64 p.aq, .int .i64 p.ah, .int .i64 p.an, .int .i64 p.ae, .string p.ax, .int .i64 p.ak, .int .i64 p.ab, .bool p.af, .int .i64 p.ad, .string p.aw] 29)).alloc (.cells #[.int .i64 p.rs, .int .i64 p.rq, .int .i64 p.rh, .int .i64 p.rn, .int .i64 p.rw, .int .i64 p.re, .slice p.ra p.rl.length p.rc, .bool p.rb] 32)).heap.size = w.heap.size + 1 + 1 + 1 + 1 from by simp] at q; exact q)
  obtain ⟨W, hW⟩ : ∃ W, (((((w.alloc (.cells #[.int .i64 p.hw, .int .i64 p.hl] 23)).alloc (.cells #[.int .i64 p.gw, .int .i64 p.gl, .int .i64 p.ge] 25)).alloc (.cells #[.int .i64 p.ai, .int .i64 p.aq, .int .i64 p.ah, .int .i64 p.an, .int .i64 p.ae, .string p.ax, .int .i64 p.ak, .int .i64 p.ab, .bool p.af, .int .i64 p.ad, .string p.aw] 29)).alloc (.cells #[.int .i64 p.rs, .int .i64 p.rq, .int .i64 p.rh, .int .i64 p.rn, .int .i64 p.rw, .int .i64 p.re, .slice p.ra p.rl.length p.rc, .bool p.rb] 32)).alloc (.cells #[.int .i64 p.ss, .int .i64 p.sq] 34)) = W := ⟨_, rfl⟩
  rw [hW] at HB HXh HXg HXa HXr HXs
  have th0 : W.cell? ⟨w.heap.size, 0, none⟩ = some (.int .i64 p.hw) := HXh.out.cell 0
  have th1 : W.cell? ⟨w.heap.size, 1, none⟩ = some (.int .i64 p.hl) := HXh.out.cell 1
  have tg0 : W.cell? ⟨w.heap.size + 1, 0, none⟩ = some (.int .i64 p.gw) := HXg.out.cell 0
  have tg1 : W.cell? ⟨w.heap.size + 1, 1, none⟩ = some (.int .i64 p.gl) := HXg.out.cell 1
  have tg2 : W.cell? ⟨w.heap.size + 1, 2, none⟩ = some (.int .i64 p.ge) := HXg.out.cell 2
  have ta0 : W.cell? ⟨w.heap.size + 1 + 1, 0, none⟩ = some (.int .i64 p.ai) := HXa.out.cell 0
  have ta1 : W.cell? ⟨w.heap.size + 1 + 1, 1, none⟩ = some (.int .i64 p.aq) := HXa.out.cell 1
  have ta2 : W.cell? ⟨w.heap.size + 1 + 1, 2, none⟩ = some (.int .i64 p.ah) := HXa.out.cell 2
  have ta3 : W.cell? ⟨w.heap.size + 1 + 1, 3, none⟩ = some (.int .i64 p.an) := HXa.out.cell 3
  have ta4 : W.cell? ⟨w.heap.size + 1 + 1, 4, none⟩ = some (.int .i64 p.ae) := HXa.out.cell 4
  have ta5 : W.cell? ⟨w.heap.size + 1 + 1, 5, none⟩ = some (.string p.ax) := HXa.out.cell 5
  have ta6 : W.cell? ⟨w.heap.size + 1 + 1, 6, none⟩ = some (.int .i64 p.ak) := HXa.out.cell 6
  have ta7 : W.cell? ⟨w.heap.size + 1 + 1, 7, none⟩ = some (.int .i64 p.ab) := HXa.out.cell 7
  have ta8 : W.cell? ⟨w.heap.size + 1 + 1, 8, none⟩ = some (.bool p.af) := HXa.out.cell 8
  have ta9 : W.cell? ⟨w.heap.size + 1 + 1, 9, none⟩ = some (.int .i64 p.ad) := HXa.out.cell 9
  have ta10 : W.cell? ⟨w.heap.size + 1 + 1, 10, none⟩ = some (.string p.aw) := HXa.out.cell 10
  have tr0 : W.cell? ⟨w.heap.size + 1 + 1 + 1, 0, none⟩ = some (.int .i64 p.rs) := HXr.out.cell 0
  have tr1 : W.cell? ⟨w.heap.size + 1 + 1 + 1, 1, none⟩ = some (.int .i64 p.rq) := HXr.out.cell 1
  have tr2 : W.cell? ⟨w.heap.size + 1 + 1 + 1, 2, none⟩ = some (.int .i64 p.rh) := HXr.out.cell 2
  have tr3 : W.cell? ⟨w.heap.size + 1 + 1 + 1, 3, none⟩ = some (.int .i64 p.rn) := HXr.out.cell 3
  have tr4 : W.cell? ⟨w.heap.size + 1 + 1 + 1, 4, none⟩ = some (.int .i64 p.rw) := HXr.out.cell 4
  have tr5 : W.cell? ⟨w.heap.size + 1 + 1 + 1, 5, none⟩ = some (.int .i64 p.re) := HXr.out.cell 5
  have tr6 : W.cell? ⟨w.heap.size + 1 + 1 + 1, 6, none⟩ = some (.slice p.ra p.rl.length p.rc) := HXr.out.cell 6
  have tr7 : W.cell? ⟨w.heap.size + 1 + 1 + 1, 7, none⟩ = some (.bool p.rb) := HXr.out.cell 7
  have ts0 : W.cell? ⟨w.heap.size + 1 + 1 + 1 + 1, 0, none⟩ = some (.int .i64 p.ss) := HXs.out.cell 0
  have ts1 : W.cell? ⟨w.heap.size + 1 + 1 + 1 + 1, 1, none⟩ = some (.int .i64 p.sq) := HXs.out.cell 1
  have HGR := Lib.hid (great_any p W (HP.out.below HB.out))
  go_enter Try.func6, Try.ntmps6
  go_wp2_with (rw [hW])
  clear hW
  refine HGR.out.mono ?_
  rintro e w1 ⟨rfl, hb⟩
  clear HGR
  have HB1 := Lib.hid (HB.out.trans (hb.mono HB.out.size))
  have HXh1 := Lib.hid (HXh.out.below hb HXh.out.lt)
  have HXg1 := Lib.hid (HXg.out.below hb HXg.out.lt)
  have HXa1 := Lib.hid (HXa.out.below hb HXa.out.lt)
  have HXr1 := Lib.hid (HXr.out.below hb HXr.out.lt)
  have HXs1 := Lib.hid (HXs.out.below hb HXs.out.lt)
  clear th0 th1 tg0 tg1 tg2 ta0 ta1 ta2 ta3 ta4 ta5 ta6 ta7 ta8 ta9 ta10 tr0 tr1 tr2 tr3 tr4 tr5 tr6 tr7 ts0 ts1
  clear hb HB HXh HXg HXa HXr HXs
  cases hg : p.great
  rotate_left 1
  · go_wp2_with fail
    refine (HAW.out _).mono ?_
    rintro e w9 ⟨rfl, hb⟩
    have HB9 := Lib.hid (HB1.out.trans (hb.mono HB1.out.size))
    clear hb
    go_wp2_with fail
    go_ret
    exact ⟨rfl, HB9.out⟩
  have HT := Lib.hid (one_tiny (k := k) hg)
  clear hg
  have th0 : w1.cell? ⟨w.heap.size, 0, none⟩ = some (.int .i64 p.hw) := HXh1.out.cell 0
  have th1 : w1.cell? ⟨w.heap.size, 1, none⟩ = some (.int .i64 p.hl) := HXh1.out.cell 1
  have tg0 : w1.cell? ⟨w.heap.size + 1, 0, none⟩ = some (.int .i64 p.gw) := HXg1.out.cell 0
  have tg1 : w1.cell? ⟨w.heap.size + 1, 1, none⟩ = some (.int .i64 p.gl) := HXg1.out.cell 1
  have tg2 : w1.cell? ⟨w.heap.size + 1, 2, none⟩ = some (.int .i64 p.ge) := HXg1.out.cell 2
  have ta0 : w1.cell? ⟨w.heap.size + 1 + 1, 0, none⟩ = some (.int .i64 p.ai) := HXa1.out.cell 0
  have ta1 : w1.cell? ⟨w.heap.size + 1 + 1, 1, none⟩ = some (.int .i64 p.aq) := HXa1.out.cell 1
  have ta2 : w1.cell? ⟨w.heap.size + 1 + 1, 2, none⟩ = some (.int .i64 p.ah) := HXa1.out.cell 2
  have ta3 : w1.cell? ⟨w.heap.size + 1 + 1, 3, none⟩ = some (.int .i64 p.an) := HXa1.out.cell 3
  have ta4 : w1.cell? ⟨w.heap.size + 1 + 1, 4, none⟩ = some (.int .i64 p.ae) := HXa1.out.cell 4
  have ta5 : w1.cell? ⟨w.heap.size + 1 + 1, 5, none⟩ = some (.string p.ax) := HXa1.out.cell 5
  have ta6 : w1.cell? ⟨w.heap.size + 1 + 1, 6, none⟩ = some (.int .i64 p.ak) := HXa1.out.cell 6
  have ta7 : w1.cell? ⟨w.heap.size + 1 + 1, 7, none⟩ = some (.int .i64 p.ab) := HXa1.out.cell 7
  have ta8 : w1.cell? ⟨w.heap.size + 1 + 1, 8, none⟩ = some (.bool p.af) := HXa1.out.cell 8
  have ta9 : w1.cell? ⟨w.heap.size + 1 + 1, 9, none⟩ = some (.int .i64 p.ad) := HXa1.out.cell 9
  have ta10 : w1.cell? ⟨w.heap.size + 1 + 1, 10, none⟩ = some (.string p.aw) := HXa1.out.cell 10
  have tr0 : w1.cell? ⟨w.heap.size + 1 + 1 + 1, 0, none⟩ = some (.int .i64 p.rs) := HXr1.out.cell 0
  have tr1 : w1.cell? ⟨w.heap.size + 1 + 1 + 1, 1, none⟩ = some (.int .i64 p.rq) := HXr1.out.cell 1
  have tr2 : w1.cell? ⟨w.heap.size + 1 + 1 + 1, 2, none⟩ = some (.int .i64 p.rh) := HXr1.out.cell 2
  have tr3 : w1.cell? ⟨w.heap.size + 1 + 1 + 1, 3, none⟩ = some (.int .i64 p.rn) := HXr1.out.cell 3
  have tr4 : w1.cell? ⟨w.heap.size + 1 + 1 + 1, 4, none⟩ = some (.int .i64 p.rw) := HXr1.out.cell 4
  have tr5 : w1.cell? ⟨w.heap.size + 1 + 1 + 1, 5, none⟩ = some (.int .i64 p.re) := HXr1.out.cell 5
  have tr6 : w1.cell? ⟨w.heap.size + 1 + 1 + 1, 6, none⟩ = some (.slice p.ra p.rl.length p.rc) := HXr1.out.cell 6
  have tr7 : w1.cell? ⟨w.heap.size + 1 + 1 + 1, 7, none⟩ = some (.bool p.rb) := HXr1.out.cell 7
  have ts0 : w1.cell? ⟨w.heap.size + 1 + 1 + 1 + 1, 0, none⟩ = some (.int .i64 p.ss) := HXs1.out.cell 0
  have ts1 : w1.cell? ⟨w.heap.size + 1 + 1 + 1 + 1, 1, none⟩ = some (.int .i64 p.sq) := HXs1.out.cell 1
  have HON := Lib.hid (one_any p k w1 (HP.out.below HB1.out) hk)
  go_wp2_with fail
  refine HON.out.mono ?_
  rintro e w2 ⟨u, rfl, hu, hb⟩
  have HU := Lib.hid hu
  have HB2 := Lib.hid (HB1.out.trans (hb.mono HB1.out.size))
  clear th0 th1 tg0 tg1 tg2 ta0 ta1 ta2 ta3 ta4 ta5 ta6 ta7 ta8 ta9 ta10 tr0 tr1 tr2 tr3 tr4 tr5 tr6 tr7 ts0 ts1
  clear hu hb HON HB1 HXh1 HXg1 HXa1 HXr1 HXs1
  generalize p.one k = m at *
  cases hm : m.may
  · have HE := Lib.hid (mencode_no m u w2 HU.out HT.out.short.small hm)
    clear hm
    go_wp2_with fail
    refine HE.out.mono ?_
    rintro e w3 ⟨rfl, hb⟩
    have HB3 := Lib.hid (HB2.out.trans (hb.mono HB2.out.size))
    clear hb HE
    go_wp2_with fail
    refine (HAW.out _).mono ?_
    rintro e w9 ⟨rfl, hb⟩
    have HB9 := Lib.hid (HB3.out.trans (hb.mono HB3.out.size))
    clear hb
    go_wp2_with fail
    go_ret
    exact ⟨rfl, HB9.out⟩
  · have HE := Lib.hid (mencode_yes m u w2 HU.out HT.out.short hm)
    have HG := Lib.hid (enc_good hm HT.out)
    clear hm HU HT
    generalize encL m = fl at *
    have HLT := Lib.hid HG.out.2.2.1
    have hl7 := HG.out.1
    have hl9 := HG.out.2.1
    have HLB := Lib.hid (show 7 ≤ fl.length ∧ fl.length ≤ 1024 from ⟨hl7, hl9⟩)
    have k0 : ¬ (fl.length : Int) = 0 := by omega
    obtain ⟨N, hN⟩ : ∃ N, fl.length = N + 1 := ⟨fl.length - 1, by omega⟩
    have kw : IntKind.i64.wrap ((fl.length : Int) - 1) = (N : Int) := by rw [IntWalk.i64_in _ (by omega)]; omega
    have HS1 := Lib.hid (show decL (fl.take N) = (.nil, 8) from by have q := good_short HG.out; rw [show fl.length - 1 = N from by omega] at q; exact q)
    have HS2 := Lib.hid (fun b => good_long HG.out b)
    have htl : (fl.take N).length = N := by rw [List.length_take]; omega
    have HTN := Lib.hid htl
    have HNN := Lib.hid hN
    clear htl hN hl7 hl9
    go_wp2_with fail
    refine HE.out.mono ?_
    rintro e w3 ⟨a, c, rfl, ho, hb⟩
    obtain ⟨g0, rfl, hg0⟩ := ownsRow_some ho (by have := HLB.out; omega)
    have hcc : fl.length ≤ c := (ownsRow_rd ho).2.1
    have hcm := (ownsRow_rd ho).2.2.1
    unfold maxLen at hcm
    have HO3 := Lib.hid ho
    have HB3 := Lib.hid (HB2.out.trans (hb.mono HB2.out.size))
    clear ho hb HE
    go_wp2_with fail
    refine (turned_any (some ⟨g0, 0, none⟩) c fl at' x w3 (ownsRow_rd HO3.out) HLT.out (by have := HLB.out; omega) (by have := HLB.out; omega)).mono ?_
    rintro e w4 ⟨i, d, ao, c4, hil, hd1, hd2, rfl, ho, hb⟩
    have HDT := Lib.hid (good_turned HG.out hil hd1 hd2)
    have HLT4 := Lib.hid (turnL_lt (i := i) HLT.out hd2)
    have HO4 := Lib.hid (ownsRow_below HO3.out hb)
    have HR4 := Lib.hid (ownsRow_rd ho)
    have HTL := Lib.hid (turnL_len fl i d)
    have HB4 := Lib.hid (HB3.out.trans (hb.mono HB3.out.size))
    clear ho hb HO3 hil hd1 hd2
    generalize turnL fl i d = tl at *
    have HDC := Lib.hid (mdecode_any ao c4 tl w4 (by rw [HTL.out]; exact HR4.out) HLT4.out (by have := HLB.out; rw [HTL.out]; omega))
    rw [HTL.out] at HDC
    go_wp2_with fail
    refine HDC.out.mono ?_
    rintro e w5 ⟨u5, rfl, hu, hb⟩
    obtain ⟨hd1, hd2⟩ := HDT.out
    rw [hd1] at hu
    obtain rfl : u5 = .nilIface := hu
    generalize (decL tl).2 = e5 at *
    have HO5 := Lib.hid (ownsRow_below HO4.out hb)
    have HB5 := Lib.hid (HB4.out.trans (hb.mono HB4.out.size))
    clear hb hd1 HDT HDC HO4 HR4
    have hk6 : N ≤ c := by have := HNN.out; omega
    have HR5 := Lib.hid (by have q := (ownsRow_rd HO5.out).cut' 0 N (by have := HNN.out; omega) (some ⟨g0, 0, none⟩) (fun _ => rfl) (by simp) c (by omega); rw [List.drop_zero] at q; exact q)
    have HDC := Lib.hid (mdecode_any (some ⟨g0, 0, none⟩) c (fl.take N) w5 (by rw [HTN.out]; exact HR5.out) (fun z hz => HLT.out z (List.mem_of_mem_take hz)) (by have := HLB.out; have := HNN.out; rw [HTN.out]; omega))
    rw [HTN.out] at HDC
    go_wp2_with fail
    refine HDC.out.mono ?_
    rintro e w6 ⟨u6, rfl, hu, hb⟩
    rw [HS1.out] at hu ⊢
    obtain rfl : u6 = .nilIface := hu
    have HO6 := Lib.hid (ownsRow_below HO5.out hb)
    have HB6 := Lib.hid (HB5.out.trans (hb.mono HB5.out.size))
    clear hb HDC HR5 HO5 kw
    have HS7 := Lib.hid (Src.ofRd (P := Try.prog) Try.underlying39 (ownsRow_rd HO6.out) (u8s_one fl))
    obtain ⟨bx, hbx, hbl⟩ : ∃ bx : Nat, IntKind.u8.wrap x = (bx : Int) ∧ bx < 256 := ⟨(IntKind.u8.wrap x).toNat, by simp [IntKind.wrap, IntKind.bits, IntKind.signed]; omega, by simp [IntKind.wrap, IntKind.bits, IntKind.signed]; omega⟩
    have HBL := Lib.hid hbl
    clear hbl
    go_wp2_with (at_builtin; first | (refine wpList_app rfl _ _ 39 39 rfl w6.heap.size 5 i0 (.int .u8 0) 1 1 Try.underlying39 HI.out HZ0.out HZ1.out HZ2.out rfl (by decide) none 0 0 [] rfl (World.ownsRow_nil _ _ _ _) _ fl.length (u8s fl) rfl HS7.out (by have := HLB.out; unfold maxLen; omega) (by have := HLB.out; omega) (Nat.le_refl _) ?_; intro ao7 c7 w7 hown hg; simp only [Nat.zero_add, List.nil_append] at hown; have HO7 := Lib.hid hown; have HG7 := Lib.hid ((Below.refl w6.heap.size w6).grown hg (Nat.le_refl _) (by intro k hk; cases hk)); clear hown hg) | (refine wpList_app rfl _ _ 39 39 rfl w6.heap.size 5 i0 (.int .u8 0) 1 1 Try.underlying39 HI.out HZ0.out HZ1.out HZ2.out rfl (by decide) ao7 fl.length c7 (u8s fl) rfl (HO7.out.alloc _) _ 1 _ rfl (Src.one' Try.underlying39 w7 _ 5 rfl) (by have := HLB.out; unfold maxLen; omega) (by have := HLB.out; omega) (by have := HG7.out.size; simp; omega) ?_; intro ao8 c8 w8 hown hg; have HO8 := Lib.hid hown; have HG8 := Lib.hid ((HG7.out.alloc HG7.out.size _).grown hg (by have := HG7.out.size; simp; omega) (fun k hk => (HO7.out.lt k hk).1)); clear hown hg))
    have hO8 := HO8.out
    rw [show u8s fl ++ [Value.int .u8 (bx : Int)] = u8s (fl ++ [bx]) from by rw [u8s_append]; rfl] at hO8
    have HDC := Lib.hid (mdecode_any ao8 c8 (fl ++ [bx]) w8 (by rw [show (fl ++ [bx]).length = fl.length + 1 from by simp]; exact ownsRow_rd hO8) (fun z hz => by rcases List.mem_append.1 hz with h | h; exact HLT.out z h; rw [List.mem_singleton.1 h]; exact HBL.out) (by have := HLB.out; simp; omega))
    rw [show (fl ++ [bx]).length = fl.length + 1 from by simp] at HDC
    have HB8 := Lib.hid (HB6.out.trans (HG8.out.mono HB6.out.size))
    clear HB6 hO8
    refine HDC.out.mono ?_
    rintro e w11 ⟨u11, rfl, hu, hb⟩
    rw [HS2.out] at hu ⊢
    obtain rfl : u11 = .nilIface := hu
    have HB11 := Lib.hid (HB8.out.trans (hb.mono HB8.out.size))
    clear hb HDC
    have he5 : (e5 != 0) = true := by simpa using hd2
    go_wp2_with fail
    refine (HAW.out _).mono ?_
    rintro e w9 ⟨rfl, hb⟩
    have HB9 := Lib.hid (HB11.out.trans (hb.mono HB11.out.size))
    clear hb
    go_wp2_with fail
    go_ret
    exact ⟨rfl, HB9.out⟩
end Go.Proofs.Ytjhkdbcfkaaffaa
