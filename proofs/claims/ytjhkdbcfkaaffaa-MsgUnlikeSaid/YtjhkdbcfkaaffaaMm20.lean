/- pick; the law MsgUnlike's walk. -/
import Derived.Test.YtjhkdbcfkaaffaaMm18
namespace Go.Proofs.Ytjhkdbcfkaaffaa
open Go.RowKit
set_option linter.unusedVariables false

/-- another Ask in the place of the first -/
def P5.mix (p b : P5) : P5 := { p with ai := b.ai, aq := b.aq, ah := b.ah, an := b.an, ae := b.ae, ax := b.ax, ak := b.ak, ab := b.ab, af := b.af, ad := b.ad, aw := b.aw }
set_option maxRecDepth 100000 in
theorem unlike_plain {x y : MV} (hx : x.may = true) (hy : y.may = true) (tx : x.tiny) (ty : y.tiny) : eqL (encL x) (encL y) = x.same y := by
  cases hs : x.same y
  · simp only [eqL, decide_eq_false_iff_not]
    intro e
    have h1 := dec_back x hx tx.short (enc_size hx tx)
    have h2 := dec_back y hy ty.short (enc_size hy ty)
    rw [e, h2] at h1
    have e2 : y = x := congrArg Prod.fst h1
    subst e2
    rw [same_refl (may_isMsg hx)] at hs
    cases hs
  · rw [same_eq hs]; exact eqL_self _
set_option maxRecDepth 100000 in
set_option maxHeartbeats 8000000 in
theorem pick_any (p : P5) (k : Int) (w : World) (h : p.ok w) :
    Calls Try.prog 30 #[.int .i64 k, .agg #[.int .i64 p.hw, .int .i64 p.hl], .agg #[.int .i64 p.gw, .int .i64 p.gl, .int .i64 p.ge], .agg #[.int .i64 p.ai, .int .i64 p.aq, .int .i64 p.ah, .int .i64 p.an, .int .i64 p.ae, .string p.ax, .int .i64 p.ak, .int .i64 p.ab, .bool p.af, .int .i64 p.ad, .string p.aw], .agg #[.int .i64 p.rs, .int .i64 p.rq, .int .i64 p.rh, .int .i64 p.rn, .int .i64 p.rw, .int .i64 p.re, .slice p.ra p.rl.length p.rc, .bool p.rb], .agg #[.int .i64 p.ss, .int .i64 p.sq]] w fun e w' => ∃ u, e = .returned u ∧ (p.one (lowI k 5)).At w' u ∧ Below w.heap.size w w' := by
  have HL := Lib.hid (fun W => low_any k 5 W (by decide) (by decide))
  have hlo := lowI_bd k 5 (by decide)
  have HP := Lib.hid h
  clear h
  have HB := Lib.hid (show Below w.heap.size w (((((w.alloc (.cells #[.int .i64 p.hw, .int .i64 p.hl] 23)).alloc (.cells #[.int .i64 p.gw, .int .i64 p.gl, .int .i64 p.ge] 25)).alloc (.cells #[.int .i64 p.ai, .int .i64 p.aq, .int .i64 p.ah, .int .i64 p.an, .int .i64 p.ae, .string p.ax, .int .i64 p.ak, .int .i64 p.ab, .bool p.af, .int .i64 p.ad, .string p.aw] 29)).alloc (.cells #[.int .i64 p.rs, .int .i64 p.rq, .int .i64 p.rh, .int .i64 p.rn, .int .i64 p.rw, .int .i64 p.re, .slice p.ra p.rl.length p.rc, .bool p.rb] 32)).alloc (.cells #[.int .i64 p.ss, .int .i64 p.sq] 34)) from (by repeat (first | exact Below.refl _ _ | refine Below.alloc ?_ (by first | (simp; done) | (simp; omega)) _)))
  have HXh := Lib.hid (Blk.alloc (Blk.alloc (Blk.alloc (Blk.alloc (show Blk (w.alloc (.cells #[.int .i64 p.hw, .int .i64 p.hl] 23)) (w.heap.size) 23 [.int .i64 p.hw, .int .i64 p.hl] from by have q := heap_alloc_new w (.cells #[.int .i64 p.hw, .int .i64 p.hl] 23); exact q) (.cells #[.int .i64 p.gw, .int .i64 p.gl, .int .i64 p.ge] 25)) (.cells #[.int .i64 p.ai, .int .i64 p.aq, .int .i64 p.ah, .int .i64 p.an, .int .i64 p.ae, .string p.ax, .int .i64 p.ak, .int .i64 p.ab, .bool p.af, .int .i64 p.ad, .string p.aw] 29)) (.cells #[.int .i64 p.rs, .int .i64 p.rq, .int .i64 p.rh, .int .i64 p.rn, .int .i64 p.rw, .int .i64 p.re, .slice p.ra p.rl.length p.rc, .bool p.rb] 32)) (.cells #[.int .i64 p.ss, .int .i64 p.sq] 34))
  have HXg := Lib.hid (Blk.alloc (Blk.alloc (Blk.alloc (show Blk ((w.alloc (.cells #[.int .i64 p.hw, .int .i64 p.hl] 23)).alloc (.cells #[.int .i64 p.gw, .int .i64 p.gl, .int .i64 p.ge] 25)) (w.heap.size + 1) 25 [.int .i64 p.gw, .int .i64 p.gl, .int .i64 p.ge] from by have q := heap_alloc_new (w.alloc (.cells #[.int .i64 p.hw, .int .i64 p.hl] 23)) (.cells #[.int .i64 p.gw, .int .i64 p.gl, .int .i64 p.ge] 25); rw [show (w.alloc (.cells #[.int .i64 p.hw, .int .i64 p.hl] 23)).heap.size = w.heap.size + 1 from by simp] at q; exact q) (.cells #[.int .i64 p.ai, .int .i64 p.aq, .int .i64 p.ah, .int .i64 p.an, .int .i64 p.ae, .string p.ax, .int .i64 p.ak, .int .i64 p.ab, .bool p.af, .int .i64 p.ad, .string p.aw] 29)) (.cells #[.int .i64 p.rs, .int .i64 p.rq, .int .i64 p.rh, .int .i64 p.rn, .int .i64 p.rw, .int .i64 p.re, .slice p.ra p.rl.length p.rc, .bool p.rb] 32)) (.cells #[.int .i64 p.ss, .int .i64 p.sq] 34))
  have HXa := Lib.hid (Blk.alloc (Blk.alloc (show Blk (((w.alloc (.cells #[.int .i64 p.hw, .int .i64 p.hl] 23)).alloc (.cells #[.int .i64 p.gw, .int .i64 p.gl, .int .i64 p.ge] 25)).alloc (.cells #[.int .i64 p.ai, .int .i64 p.aq, .int .i64 p.ah, .int .i64 p.an, .int .i64 p.ae, .string p.ax, .int .i64 p.ak, .int .i64 p.ab, .bool p.af, .int .i64 p.ad, .string p.aw] 29)) (w.heap.size + 1 + 1) 29 [.int .i64 p.ai, .int .i64 p.aq, .int .i64 p.ah, .int .i64 p.an, .int .i64 p.ae, .string p.ax, .int .i64 p.ak, .int .i64 p.ab, .bool p.af, .int .i64 p.ad, .string p.aw] from by have q := heap_alloc_new ((w.alloc (.cells #[.int .i64 p.hw, .int .i64 p.hl] 23)).alloc (.cells #[.int .i64 p.gw, .int .i64 p.gl, .int .i64 p.ge] 25)) (.cells #[.int .i64 p.ai, .int .i64 p.aq, .int .i64 p.ah, .int .i64 p.an, .int .i64 p.ae, .string p.ax, .int .i64 p.ak, .int .i64 p.ab, .bool p.af, .int .i64 p.ad, .string p.aw] 29); rw [show ((w.alloc (.cells #[.int .i64 p.hw, .int .i64 p.hl] 23)).alloc (.cells #[.int .i64 p.gw, .int .i64 p.gl, .int .i64 p.ge] 25)).heap.size = w.heap.size + 1 + 1 from by simp] at q; exact q) (.cells #[.int .i64 p.rs, .int .i64 p.rq, .int .i64 p.rh, .int .i64 p.rn, .int .i64 p.rw, .int .i64 p.re, .slice p.ra p.rl.length p.rc, .bool p.rb] 32)) (.cells #[.int .i64 p.ss, .int .i64 p.sq] 34))
  have HXr := Lib.hid (Blk.alloc (show Blk ((((w.alloc (.cells #[.int .i64 p.hw, .int .i64 p.hl] 23)).alloc (.cells #[.int .i64 p.gw, .int .i64 p.gl, .int .i64 p.ge] 25)).alloc (.cells #[.int .i64 p.ai, .int .i64 p.aq, .int .i64 p.ah, .int .i64 p.an, .int .i64 p.ae, .string p.ax, .int .i64 p.ak, .int .i64 p.ab, .bool p.af, .int .i64 p.ad, .string p.aw] 29)).alloc (.cells #[.int .i64 p.rs, .int .i64 p.rq, .int .i64 p.rh, .int .i64 p.rn, .int .i64 p.rw, .int .i64 p.re, .slice p.ra p.rl.length p.rc, .bool p.rb] 32)) (w.heap.size + 1 + 1 + 1) 32 [.int .i64 p.rs, .int .i64 p.rq, .int .i64 p.rh, .int .i64 p.rn, .int .i64 p.rw, .int .i64 p.re, .slice p.ra p.rl.length p.rc, .bool p.rb] from by have q := heap_alloc_new (((w.alloc (.cells #[.int .i64 p.hw, .int .i64 p.hl] 23)).alloc (.cells #[.int .i64 p.gw, .int .i64 p.gl, .int .i64 p.ge] 25)).alloc (.cells #[.int .i64 p.ai, .int .i64 p.aq, .int .i64 p.ah, .int .i64 p.an, .int .i64 p.ae, .string p.ax, .int .i64 p.ak, .int .i64 p.ab, .bool p.af, .int .i64 p.ad, .string p.aw] 29)) (.cells #[.int .i64 p.rs, .int .i64 p.rq, .int .i64 p.rh, .int .i64 p.rn, .int .i64 p.rw, .int .i64 p.re, .slice p.ra p.rl.length p.rc, .bool p.rb] 32); rw [show (((w.alloc (.cells #[.int .i64 p.hw, .int .i64 p.hl] 23)).alloc (.cells #[.int .i64 p.gw, .int .i64 p.gl, .int .i64 p.ge] 25)).alloc (.cells #[.int .i64 p.ai, .int .i64 p.aq, .int .i64 p.ah, .int .i64 p.an, .int .i64 p.ae, .string p.ax, .int .i64 p.ak, .int .i64 p.ab, .bool p.af, .int .i64 p.ad, .string p.aw] 29)).heap.size = w.heap.size + 1 + 1 + 1 from by simp] at q; exact q) (.cells #[.int .i64 p.ss, .int .i64 p.sq] 34))
  have HXs := Lib.hid (show Blk (((((w.alloc (.cells #[.int .i64 p.hw, .int .i64 p.hl] 23)).alloc (.cells #[.int .i64 p.gw, .int .i64 p.gl, .int .i64 p.ge] 25)).alloc (.cells #[.int .i64 p.ai, .int .i64 p.aq, .int .i64 p.ah, .int .i64 p.an, .int .i64 p.ae, .string p.ax, .int .i64 p.ak, .int .i64 p.ab, .bool p.af, .int .i64 p.ad, .string p.aw] 29)).alloc (.cells #[.int .i64 p.rs, .int .i64 p.rq, .int .i64 p.rh, .int .i64 p.rn, .int .i64 p.rw, .int .i64 p.re, .slice p.ra p.rl.length p.rc, .bool p.rb] 32)).alloc (.cells #[.int .i64 p.ss, .int .i64 p.sq] 34)) (w.heap.size + 1 + 1 + 1 + 1) 34 [.int .i64 p.ss, .int .i64 p.sq] from by have q := heap_alloc_new ((((w.alloc (.cells #[.int .i64 p.hw, .int .i64 p.hl] 23)).alloc (.cells #[.int .i64 p.gw, .int .i64 p.gl, .int .i64 p.ge] 25)).alloc (.cells #[.int .i64 p.ai, .int .i64 p.aq, .int .i64 p.ah, .int .i64 p.an, .int .i64 p.ae, .string p.ax, .int .i64 p.ak, .int .i64 p.ab, .bool p.af, .int .i64 p.ad, .string p.aw] 29)).alloc (.cells #[.int .i64 p.rs, .int .i64 p.rq, .int .i64 p.rh, .int .i64 p.rn, .int .i64 p.rw, .int .i64 p.re, .slice p.ra p.rl.length p.rc, .bool p.rb] 32)) (.cells #[.int .i64 p.ss, .int .i64 p.sq] 34); rw [show ((((w.alloc (.cells #[.int .i64 p.hw, .int .i64 p.hl] 23)).alloc (.cells #[.int .i64 p.gw, .int .i64 p.gl, .int .i64 p.ge] 25)).alloc (.cells #[.int .i64 p.ai, .int .i64 p.aq, .int .i64 p.ah, .int .i64 p.an, .int .i64 p.ae, .string p.ax, .int .i64 p.ak, .int .i64 p.ab, .bool p.af, .int .i64 p.ad, .string p.aw] 29)).alloc (.cells #[.int .i64 p.rs, .int .i64 p.rq, .int .i64 p.rh, .int .i64 p.rn, .int .i64 p.rw, .int .i64 p.re, .slice p.ra p.rl.length p.rc, .bool p.rb] 32)).heap.size = w.heap.size + 1 + 1 + 1 + 1 from by simp] at q; exact q)
  obtain ⟨W, hW⟩ : ∃ W, (((((w.alloc (.cells #[.int .i64 p.hw, .int .i64 p.hl] 23)).alloc (.cells #[.int .i64 p.gw, .int .i64 p.gl, .int .i64 p.ge] 25)).alloc (.cells #[.int .i64 p.ai, .int .i64 p.aq, .int .i64 p.ah, .int .i64 p.an, .int .i64 p.ae, .string p.ax, .int .i64 p.ak, .int .i64 p.ab, .bool p.af, .int .i64 p.ad, .string p.aw] 29)).alloc (.cells #[.int .i64 p.rs, .int .i64 p.rq, .int .i64 p.rh, .int .i64 p.rn, .int .i64 p.rw, .int .i64 p.re, .slice p.ra p.rl.length p.rc, .bool p.rb] 32)).alloc (.cells #[.int .i64 p.ss, .int .i64 p.sq] 34)) = W := ⟨_, rfl⟩
  rw [hW] at HB HXh HXg HXa HXr HXs
  have HBd := Lib.hid HB.out.drew
  have HXhd := Lib.hid (show Blk W.drew (w.heap.size) 23 [.int .i64 p.hw, .int .i64 p.hl] from HXh.out)
  have HXgd := Lib.hid (show Blk W.drew (w.heap.size + 1) 25 [.int .i64 p.gw, .int .i64 p.gl, .int .i64 p.ge] from HXg.out)
  have HXad := Lib.hid (show Blk W.drew (w.heap.size + 1 + 1) 29 [.int .i64 p.ai, .int .i64 p.aq, .int .i64 p.ah, .int .i64 p.an, .int .i64 p.ae, .string p.ax, .int .i64 p.ak, .int .i64 p.ab, .bool p.af, .int .i64 p.ad, .string p.aw] from HXa.out)
  have HXrd := Lib.hid (show Blk W.drew (w.heap.size + 1 + 1 + 1) 32 [.int .i64 p.rs, .int .i64 p.rq, .int .i64 p.rh, .int .i64 p.rn, .int .i64 p.rw, .int .i64 p.re, .slice p.ra p.rl.length p.rc, .bool p.rb] from HXr.out)
  have HXsd := Lib.hid (show Blk W.drew (w.heap.size + 1 + 1 + 1 + 1) 34 [.int .i64 p.ss, .int .i64 p.sq] from HXs.out)
  clear HB HXh HXg HXa HXr HXs
  have HON := Lib.hid (one_any p (lowI k 5) W.drew (HP.out.below HBd.out) (by omega))
  generalize lowI k 5 = q at *
  go_enter Try.func30, Try.ntmps30
  go_wp2_with (rw [hW])
  clear hW
  refine wp_region_held_drew (S := (fun w' => w'.cell? ⟨w.heap.size, 0, none⟩ = some (.int .i64 p.hw) ∧ w'.cell? ⟨w.heap.size, 1, none⟩ = some (.int .i64 p.hl) ∧ w'.cell? ⟨w.heap.size + 1, 0, none⟩ = some (.int .i64 p.gw) ∧ w'.cell? ⟨w.heap.size + 1, 1, none⟩ = some (.int .i64 p.gl) ∧ w'.cell? ⟨w.heap.size + 1, 2, none⟩ = some (.int .i64 p.ge) ∧ w'.cell? ⟨w.heap.size + 1 + 1, 0, none⟩ = some (.int .i64 p.ai) ∧ w'.cell? ⟨w.heap.size + 1 + 1, 1, none⟩ = some (.int .i64 p.aq) ∧ w'.cell? ⟨w.heap.size + 1 + 1, 2, none⟩ = some (.int .i64 p.ah) ∧ w'.cell? ⟨w.heap.size + 1 + 1, 3, none⟩ = some (.int .i64 p.an) ∧ w'.cell? ⟨w.heap.size + 1 + 1, 4, none⟩ = some (.int .i64 p.ae) ∧ w'.cell? ⟨w.heap.size + 1 + 1, 5, none⟩ = some (.string p.ax) ∧ w'.cell? ⟨w.heap.size + 1 + 1, 6, none⟩ = some (.int .i64 p.ak) ∧ w'.cell? ⟨w.heap.size + 1 + 1, 7, none⟩ = some (.int .i64 p.ab) ∧ w'.cell? ⟨w.heap.size + 1 + 1, 8, none⟩ = some (.bool p.af) ∧ w'.cell? ⟨w.heap.size + 1 + 1, 9, none⟩ = some (.int .i64 p.ad) ∧ w'.cell? ⟨w.heap.size + 1 + 1, 10, none⟩ = some (.string p.aw) ∧ w'.cell? ⟨w.heap.size + 1 + 1 + 1, 0, none⟩ = some (.int .i64 p.rs) ∧ w'.cell? ⟨w.heap.size + 1 + 1 + 1, 1, none⟩ = some (.int .i64 p.rq) ∧ w'.cell? ⟨w.heap.size + 1 + 1 + 1, 2, none⟩ = some (.int .i64 p.rh) ∧ w'.cell? ⟨w.heap.size + 1 + 1 + 1, 3, none⟩ = some (.int .i64 p.rn) ∧ w'.cell? ⟨w.heap.size + 1 + 1 + 1, 4, none⟩ = some (.int .i64 p.rw) ∧ w'.cell? ⟨w.heap.size + 1 + 1 + 1, 5, none⟩ = some (.int .i64 p.re) ∧ w'.cell? ⟨w.heap.size + 1 + 1 + 1, 6, none⟩ = some (.slice p.ra p.rl.length p.rc) ∧ w'.cell? ⟨w.heap.size + 1 + 1 + 1, 7, none⟩ = some (.bool p.rb) ∧ w'.cell? ⟨w.heap.size + 1 + 1 + 1 + 1, 0, none⟩ = some (.int .i64 p.ss) ∧ w'.cell? ⟨w.heap.size + 1 + 1 + 1 + 1, 1, none⟩ = some (.int .i64 p.sq))) (by kernel_rfl) (by first | exact ⟨HXhd.out.cell 0, HXhd.out.cell 1, HXgd.out.cell 0, HXgd.out.cell 1, HXgd.out.cell 2, HXad.out.cell 0, HXad.out.cell 1, HXad.out.cell 2, HXad.out.cell 3, HXad.out.cell 4, HXad.out.cell 5, HXad.out.cell 6, HXad.out.cell 7, HXad.out.cell 8, HXad.out.cell 9, HXad.out.cell 10, HXrd.out.cell 0, HXrd.out.cell 1, HXrd.out.cell 2, HXrd.out.cell 3, HXrd.out.cell 4, HXrd.out.cell 5, HXrd.out.cell 6, HXrd.out.cell 7, HXsd.out.cell 0, HXsd.out.cell 1⟩ | exact ⟨HXh2.out.cell 0, HXh2.out.cell 1, HXg2.out.cell 0, HXg2.out.cell 1, HXg2.out.cell 2, HXa2.out.cell 0, HXa2.out.cell 1, HXa2.out.cell 2, HXa2.out.cell 3, HXa2.out.cell 4, HXa2.out.cell 5, HXa2.out.cell 6, HXa2.out.cell 7, HXa2.out.cell 8, HXa2.out.cell 9, HXa2.out.cell 10, HXr2.out.cell 0, HXr2.out.cell 1, HXr2.out.cell 2, HXr2.out.cell 3, HXr2.out.cell 4, HXr2.out.cell 5, HXr2.out.cell 6, HXr2.out.cell 7, HXs2.out.cell 0, HXs2.out.cell 1⟩) (fun hHeld => ?_)
  refine takeO 0 (some 13) (v := ?_) rfl rfl (by kernel_rfl) (by kernel_rfl) (by kernel_rfl) (fun _ _ _ h => h) (Or.inl ⟨by rfl, ?_⟩) (by assumption) ?_
  rotate_left 1
  · intro w hSw; (try dsimp only at hSw); go_simp; all_goals with_reducible rfl
  try simp only [Act.put, List.setIfInBounds_toArray, List.set_cons_zero, List.set_cons_succ]
  refine takeO 2 (some 15) (v := ?_) rfl rfl (by kernel_rfl) (by kernel_rfl) (by kernel_rfl) (fun _ _ _ h => h) (Or.inl ⟨by rfl, ?_⟩) (by assumption) ?_
  rotate_left 1
  · intro w hSw; (try dsimp only at hSw); go_simp; all_goals with_reducible rfl
  try simp only [Act.put, List.setIfInBounds_toArray, List.set_cons_zero, List.set_cons_succ]
  refine takeO 3 (some 16) (v := ?_) rfl rfl (by kernel_rfl) (by kernel_rfl) (by kernel_rfl) (fun _ _ _ h => h) (Or.inl ⟨by rfl, ?_⟩) (by assumption) ?_
  rotate_left 1
  · intro w hSw; (try dsimp only at hSw); go_simp; all_goals with_reducible rfl
  try simp only [Act.put, List.setIfInBounds_toArray, List.set_cons_zero, List.set_cons_succ]
  refine takeO 4 (some 17) (v := ?_) rfl rfl (by kernel_rfl) (by kernel_rfl) (by kernel_rfl) (fun _ _ _ h => h) (Or.inl ⟨by rfl, ?_⟩) (by assumption) ?_
  rotate_left 1
  · intro w hSw; (try dsimp only at hSw); go_simp; all_goals with_reducible rfl
  try simp only [Act.put, List.setIfInBounds_toArray, List.set_cons_zero, List.set_cons_succ]
  refine takeO 5 (some 18) (v := ?_) rfl rfl (by kernel_rfl) (by kernel_rfl) (by kernel_rfl) (fun _ _ _ h => h) (Or.inl ⟨by rfl, ?_⟩) (by assumption) ?_
  rotate_left 1
  · intro w hSw; (try dsimp only at hSw); go_simp; all_goals with_reducible rfl
  try simp only [Act.put, List.setIfInBounds_toArray, List.set_cons_zero, List.set_cons_succ]
  refine takeO 6 (some 19) (v := ?_) rfl rfl (by kernel_rfl) (by kernel_rfl) (by kernel_rfl) (fun _ _ _ h => h) (Or.inl ⟨by rfl, ?_⟩) (by assumption) ?_
  rotate_left 1
  · intro w hSw; (try dsimp only at hSw); go_simp; all_goals with_reducible rfl
  try simp only [Act.put, List.setIfInBounds_toArray, List.set_cons_zero, List.set_cons_succ]
  refine wpAnyH_ready (rs := [1]) (by kernel_rfl) (by simp) ?_
  refine AllReadyH.cons rfl (fun K hK => ?_) AllReadyH.nil
  go_simp
  refine (HL.out _).mono ?_; rintro e w' ⟨rfl, rfl⟩
  go_wp2_with fail
  refine hK.out _ _ (by first | exact ⟨HXhd.out.cell 0, HXhd.out.cell 1, HXgd.out.cell 0, HXgd.out.cell 1, HXgd.out.cell 2, HXad.out.cell 0, HXad.out.cell 1, HXad.out.cell 2, HXad.out.cell 3, HXad.out.cell 4, HXad.out.cell 5, HXad.out.cell 6, HXad.out.cell 7, HXad.out.cell 8, HXad.out.cell 9, HXad.out.cell 10, HXrd.out.cell 0, HXrd.out.cell 1, HXrd.out.cell 2, HXrd.out.cell 3, HXrd.out.cell 4, HXrd.out.cell 5, HXrd.out.cell 6, HXrd.out.cell 7, HXsd.out.cell 0, HXsd.out.cell 1⟩ | exact ⟨HXh2.out.cell 0, HXh2.out.cell 1, HXg2.out.cell 0, HXg2.out.cell 1, HXg2.out.cell 2, HXa2.out.cell 0, HXa2.out.cell 1, HXa2.out.cell 2, HXa2.out.cell 3, HXa2.out.cell 4, HXa2.out.cell 5, HXa2.out.cell 6, HXa2.out.cell 7, HXa2.out.cell 8, HXa2.out.cell 9, HXa2.out.cell 10, HXr2.out.cell 0, HXr2.out.cell 1, HXr2.out.cell 2, HXr2.out.cell 3, HXr2.out.cell 4, HXr2.out.cell 5, HXr2.out.cell 6, HXr2.out.cell 7, HXs2.out.cell 0, HXs2.out.cell 1⟩) (fun hHeld => ?_)
  clear hK K
  try simp only [Act.put, List.setIfInBounds_toArray, List.set_cons_zero, List.set_cons_succ]
  refine wpAnyH_ready (rs := [7]) (by kernel_rfl) (by simp) ?_
  refine AllReadyH.cons rfl (fun K hK => ?_) AllReadyH.nil
  go_simp
  refine HON.out.mono ?_; rintro e w2 ⟨u, rfl, hu, hb⟩; have HU := Lib.hid hu; have HB2 := Lib.hid (HBd.out.trans (hb.mono HBd.out.size)); have HXh2 := Lib.hid (HXhd.out.below hb HXhd.out.lt); have HXg2 := Lib.hid (HXgd.out.below hb HXgd.out.lt); have HXa2 := Lib.hid (HXad.out.below hb HXad.out.lt); have HXr2 := Lib.hid (HXrd.out.below hb HXrd.out.lt); have HXs2 := Lib.hid (HXsd.out.below hb HXsd.out.lt); clear hu hb
  go_wp2_with fail
  refine hK.out _ _ (by first | exact ⟨HXhd.out.cell 0, HXhd.out.cell 1, HXgd.out.cell 0, HXgd.out.cell 1, HXgd.out.cell 2, HXad.out.cell 0, HXad.out.cell 1, HXad.out.cell 2, HXad.out.cell 3, HXad.out.cell 4, HXad.out.cell 5, HXad.out.cell 6, HXad.out.cell 7, HXad.out.cell 8, HXad.out.cell 9, HXad.out.cell 10, HXrd.out.cell 0, HXrd.out.cell 1, HXrd.out.cell 2, HXrd.out.cell 3, HXrd.out.cell 4, HXrd.out.cell 5, HXrd.out.cell 6, HXrd.out.cell 7, HXsd.out.cell 0, HXsd.out.cell 1⟩ | exact ⟨HXh2.out.cell 0, HXh2.out.cell 1, HXg2.out.cell 0, HXg2.out.cell 1, HXg2.out.cell 2, HXa2.out.cell 0, HXa2.out.cell 1, HXa2.out.cell 2, HXa2.out.cell 3, HXa2.out.cell 4, HXa2.out.cell 5, HXa2.out.cell 6, HXa2.out.cell 7, HXa2.out.cell 8, HXa2.out.cell 9, HXa2.out.cell 10, HXr2.out.cell 0, HXr2.out.cell 1, HXr2.out.cell 2, HXr2.out.cell 3, HXr2.out.cell 4, HXr2.out.cell 5, HXr2.out.cell 6, HXr2.out.cell 7, HXs2.out.cell 0, HXs2.out.cell 1⟩) (fun hHeld => ?_)
  clear hK K
  try simp only [Act.put, List.setIfInBounds_toArray, List.set_cons_zero, List.set_cons_succ]
  refine takeO 8 (some 12) (v := ?_) rfl rfl (by kernel_rfl) (by kernel_rfl) (by kernel_rfl) (fun _ _ _ h => h) (Or.inl ⟨by rfl, ?_⟩) (by assumption) ?_
  rotate_left 1
  · intro w hSw; (try dsimp only at hSw); go_simp; all_goals with_reducible rfl
  try simp only [Act.put, List.setIfInBounds_toArray, List.set_cons_zero, List.set_cons_succ]
  refine wpAnyH_done (by kernel_rfl) ?_ _
  go_wp2_with fail
  go_ret
  exact ⟨u, rfl, HU.out, HB2.out⟩
set_option maxRecDepth 100000 in
set_option maxHeartbeats 16000000 in
theorem unlike_law (k k2 : Int) (p b : P5) (w : World) (h : p.ok w) (hb1 : b.ax.size ≤ maxLen) (hb2 : b.aw.size ≤ maxLen) :
    Calls Try.prog 7 #[.int .i64 k, .int .i64 k2, .agg #[.int .i64 p.hw, .int .i64 p.hl], .agg #[.int .i64 p.gw, .int .i64 p.gl, .int .i64 p.ge], .agg #[.int .i64 p.ai, .int .i64 p.aq, .int .i64 p.ah, .int .i64 p.an, .int .i64 p.ae, .string p.ax, .int .i64 p.ak, .int .i64 p.ab, .bool p.af, .int .i64 p.ad, .string p.aw], .agg #[.int .i64 p.rs, .int .i64 p.rq, .int .i64 p.rh, .int .i64 p.rn, .int .i64 p.rw, .int .i64 p.re, .slice p.ra p.rl.length p.rc, .bool p.rb], .agg #[.int .i64 p.ss, .int .i64 p.sq], .agg #[.int .i64 b.ai, .int .i64 b.aq, .int .i64 b.ah, .int .i64 b.an, .int .i64 b.ae, .string b.ax, .int .i64 b.ak, .int .i64 b.ab, .bool b.af, .int .i64 b.ad, .string b.aw]] w fun e w' => e = .returned (.bool true) ∧ Below w.heap.size w w' := by
  have HAW := Lib.hid (fun W => awake_any W)
  have HP := Lib.hid h
  have HP2 := Lib.hid (show (p.mix b).ok w from ⟨h.1, h.2.1, hb1, hb2⟩)
  clear h hb1 hb2
  have HB := Lib.hid (show Below w.heap.size w ((((((w.alloc (.cells #[.int .i64 p.hw, .int .i64 p.hl] 23)).alloc (.cells #[.int .i64 p.gw, .int .i64 p.gl, .int .i64 p.ge] 25)).alloc (.cells #[.int .i64 p.ai, .int .i64 p.aq, .int .i64 p.ah, .int .i64 p.an, .int .i64 p.ae, .string p.ax, .int .i64 p.ak, .int .i64 p.ab, .bool p.af, .int .i64 p.ad, .string p.aw] 29)).alloc (.cells #[.int .i64 p.rs, .int .i64 p.rq, .int .i64 p.rh, .int .i64 p.rn, .int .i64 p.rw, .int .i64 p.re, .slice p.ra p.rl.length p.rc, .bool p.rb] 32)).alloc (.cells #[.int .i64 p.ss, .int .i64 p.sq] 34)).alloc (.cells #[.int .i64 b.ai, .int .i64 b.aq, .int .i64 b.ah, .int .i64 b.an, .int .i64 b.ae, .string b.ax, .int .i64 b.ak, .int .i64 b.ab, .bool b.af, .int .i64 b.ad, .string b.aw] 29)) from (by repeat (first | exact Below.refl _ _ | refine Below.alloc ?_ (by first | (simp; done) | (simp; omega)) _)))
  have HXh := Lib.hid (Blk.alloc (Blk.alloc (Blk.alloc (Blk.alloc (Blk.alloc (show Blk (w.alloc (.cells #[.int .i64 p.hw, .int .i64 p.hl] 23)) (w.heap.size) 23 [.int .i64 p.hw, .int .i64 p.hl] from by have q := heap_alloc_new w (.cells #[.int .i64 p.hw, .int .i64 p.hl] 23); exact q) (.cells #[.int .i64 p.gw, .int .i64 p.gl, .int .i64 p.ge] 25)) (.cells #[.int .i64 p.ai, .int .i64 p.aq, .int .i64 p.ah, .int .i64 p.an, .int .i64 p.ae, .string p.ax, .int .i64 p.ak, .int .i64 p.ab, .bool p.af, .int .i64 p.ad, .string p.aw] 29)) (.cells #[.int .i64 p.rs, .int .i64 p.rq, .int .i64 p.rh, .int .i64 p.rn, .int .i64 p.rw, .int .i64 p.re, .slice p.ra p.rl.length p.rc, .bool p.rb] 32)) (.cells #[.int .i64 p.ss, .int .i64 p.sq] 34)) (.cells #[.int .i64 b.ai, .int .i64 b.aq, .int .i64 b.ah, .int .i64 b.an, .int .i64 b.ae, .string b.ax, .int .i64 b.ak, .int .i64 b.ab, .bool b.af, .int .i64 b.ad, .string b.aw] 29))
  have HXg := Lib.hid (Blk.alloc (Blk.alloc (Blk.alloc (Blk.alloc (show Blk ((w.alloc (.cells #[.int .i64 p.hw, .int .i64 p.hl] 23)).alloc (.cells #[.int .i64 p.gw, .int .i64 p.gl, .int .i64 p.ge] 25)) (w.heap.size + 1) 25 [.int .i64 p.gw, .int .i64 p.gl, .int .i64 p.ge] from by have q := heap_alloc_new (w.alloc (.cells #[.int .i64 p.hw, .int .i64 p.hl] 23)) (.cells #[.int .i64 p.gw, .int .i64 p.gl, .int .i64 p.ge] 25); rw [show (w.alloc (.cells #[.int .i64 p.hw, .int .i64 p.hl] 23)).heap.size = w.heap.size + 1 from by simp] at q; exact q) (.cells #[.int .i64 p.ai, .int .i64 p.aq, .int .i64 p.ah, .int .i64 p.an, .int .i64 p.ae, .string p.ax, .int .i64 p.ak, .int .i64 p.ab, .bool p.af, .int .i64 p.ad, .string p.aw] 29)) (.cells #[.int .i64 p.rs, .int .i64 p.rq, .int .i64 p.rh, .int .i64 p.rn, .int .i64 p.rw, .int .i64 p.re, .slice p.ra p.rl.length p.rc, .bool p.rb] 32)) (.cells #[.int .i64 p.ss, .int .i64 p.sq] 34)) (.cells #[.int .i64 b.ai, .int .i64 b.aq, .int .i64 b.ah, .int .i64 b.an, .int .i64 b.ae, .string b.ax, .int .i64 b.ak, .int .i64 b.ab, .bool b.af, .int .i64 b.ad, .string b.aw] 29))
  have HXa := Lib.hid (Blk.alloc (Blk.alloc (Blk.alloc (show Blk (((w.alloc (.cells #[.int .i64 p.hw, .int .i64 p.hl] 23)).alloc (.cells #[.int .i64 p.gw, .int .i64 p.gl, .int .i64 p.ge] 25)).alloc (.cells #[.int .i64 p.ai, .int .i64 p.aq, .int .i64 p.ah, .int .i64 p.an, .int .i64 p.ae, .string p.ax, .int .i64 p.ak, .int .i64 p.ab, .bool p.af, .int .i64 p.ad, .string p.aw] 29)) (w.heap.size + 1 + 1) 29 [.int .i64 p.ai, .int .i64 p.aq, .int .i64 p.ah, .int .i64 p.an, .int .i64 p.ae, .string p.ax, .int .i64 p.ak, .int .i64 p.ab, .bool p.af, .int .i64 p.ad, .string p.aw] from by have q := heap_alloc_new ((w.alloc (.cells #[.int .i64 p.hw, .int .i64 p.hl] 23)).alloc (.cells #[.int .i64 p.gw, .int .i64 p.gl, .int .i64 p.ge] 25)) (.cells #[.int .i64 p.ai, .int .i64 p.aq, .int .i64 p.ah, .int .i64 p.an, .int .i64 p.ae, .string p.ax, .int .i64 p.ak, .int .i64 p.ab, .bool p.af, .int .i64 p.ad, .string p.aw] 29); rw [show ((w.alloc (.cells #[.int .i64 p.hw, .int .i64 p.hl] 23)).alloc (.cells #[.int .i64 p.gw, .int .i64 p.gl, .int .i64 p.ge] 25)).heap.size = w.heap.size + 1 + 1 from by simp] at q; exact q) (.cells #[.int .i64 p.rs, .int .i64 p.rq, .int .i64 p.rh, .int .i64 p.rn, .int .i64 p.rw, .int .i64 p.re, .slice p.ra p.rl.length p.rc, .bool p.rb] 32)) (.cells #[.int .i64 p.ss, .int .i64 p.sq] 34)) (.cells #[.int .i64 b.ai, .int .i64 b.aq, .int .i64 b.ah, .int .i64 b.an, .int .i64 b.ae, .string b.ax, .int .i64 b.ak, .int .i64 b.ab, .bool b.af, .int .i64 b.ad, .string b.aw] 29))
  have HXr := Lib.hid (Blk.alloc (Blk.alloc (show Blk ((((w.alloc (.cells #[.int .i64 p.hw, .int .i64 p.hl] 23)).alloc (.cells #[.int .i64 p.gw, .int .i64 p.gl, .int .i64 p.ge] 25)).alloc (.cells #[.int .i64 p.ai, .int .i64 p.aq, .int .i64 p.ah, .int .i64 p.an, .int .i64 p.ae, .string p.ax, .int .i64 p.ak, .int .i64 p.ab, .bool p.af, .int .i64 p.ad, .string p.aw] 29)).alloc (.cells #[.int .i64 p.rs, .int .i64 p.rq, .int .i64 p.rh, .int .i64 p.rn, .int .i64 p.rw, .int .i64 p.re, .slice p.ra p.rl.length p.rc, .bool p.rb] 32)) (w.heap.size + 1 + 1 + 1) 32 [.int .i64 p.rs, .int .i64 p.rq, .int .i64 p.rh, .int .i64 p.rn, .int .i64 p.rw, .int .i64 p.re, .slice p.ra p.rl.length p.rc, .bool p.rb] from by have q := heap_alloc_new (((w.alloc (.cells #[.int .i64 p.hw, .int .i64 p.hl] 23)).alloc (.cells #[.int .i64 p.gw, .int .i64 p.gl, .int .i64 p.ge] 25)).alloc (.cells #[.int .i64 p.ai, .int .i64 p.aq, .int .i64 p.ah, .int .i64 p.an, .int .i64 p.ae, .string p.ax, .int .i64 p.ak, .int .i64 p.ab, .bool p.af, .int .i64 p.ad, .string p.aw] 29)) (.cells #[.int .i64 p.rs, .int .i64 p.rq, .int .i64 p.rh, .int .i64 p.rn, .int .i64 p.rw, .int .i64 p.re, .slice p.ra p.rl.length p.rc, .bool p.rb] 32); rw [show (((w.alloc (.cells #[.int .i64 p.hw, .int .i64 p.hl] 23)).alloc (.cells #[.int .i64 p.gw, .int .i64 p.gl, .int .i64 p.ge] 25)).alloc (.cells #[.int .i64 p.ai, .int .i64 p.aq, .int .i64 p.ah, .int .i64 p.an, .int .i64 p.ae, .string p.ax, .int .i64 p.ak, .int .i64 p.ab, .bool p.af, .int .i64 p.ad, .string p.aw] 29)).heap.size = w.heap.size + 1 + 1 + 1 from by simp] at q; exact q) (.cells #[.int .i64 p.ss, .int .i64 p.sq] 34)) (.cells #[.int .i64 b.ai, .int .i64 b.aq, .int .i64 b.ah, .int .i64 b.an, .int .i64 b.ae, .string b.ax, .int .i64 b.ak, .int .i64 b.ab, .bool b.af, .int .i64 b.ad, .string b.aw] 29))
  have HXs := Lib.hid (Blk.alloc (show Blk (((((w.alloc (.cells #[.int .i64 p.hw, .int .i64 p.hl] 23)).alloc (.cells #[.int .i64 p.gw, .int .i64 p.gl, .int .i64 p.ge] 25)).alloc (.cells #[.int .i64 p.ai, .int .i64 p.aq, .int .i64 p.ah, .int .i64 p.an, .int .i64 p.ae, .string p.ax, .int .i64 p.ak, .int .i64 p.ab, .bool p.af, .int .i64 p.ad, .string p.aw] 29)).alloc (.cells #[.int .i64 p.rs, .int .i64 p.rq, .int .i64 p.rh, .int .i64 p.rn, .int .i64 p.rw, .int .i64 p.re, .slice p.ra p.rl.length p.rc, .bool p.rb] 32)).alloc (.cells #[.int .i64 p.ss, .int .i64 p.sq] 34)) (w.heap.size + 1 + 1 + 1 + 1) 34 [.int .i64 p.ss, .int .i64 p.sq] from by have q := heap_alloc_new ((((w.alloc (.cells #[.int .i64 p.hw, .int .i64 p.hl] 23)).alloc (.cells #[.int .i64 p.gw, .int .i64 p.gl, .int .i64 p.ge] 25)).alloc (.cells #[.int .i64 p.ai, .int .i64 p.aq, .int .i64 p.ah, .int .i64 p.an, .int .i64 p.ae, .string p.ax, .int .i64 p.ak, .int .i64 p.ab, .bool p.af, .int .i64 p.ad, .string p.aw] 29)).alloc (.cells #[.int .i64 p.rs, .int .i64 p.rq, .int .i64 p.rh, .int .i64 p.rn, .int .i64 p.rw, .int .i64 p.re, .slice p.ra p.rl.length p.rc, .bool p.rb] 32)) (.cells #[.int .i64 p.ss, .int .i64 p.sq] 34); rw [show ((((w.alloc (.cells #[.int .i64 p.hw, .int .i64 p.hl] 23)).alloc (.cells #[.int .i64 p.gw, .int .i64 p.gl, .int .i64 p.ge] 25)).alloc (.cells #[.int .i64 p.ai, .int .i64 p.aq, .int .i64 p.ah, .int .i64 p.an, .int .i64 p.ae, .string p.ax, .int .i64 p.ak, .int .i64 p.ab, .bool p.af, .int .i64 p.ad, .string p.aw] 29)).alloc (.cells #[.int .i64 p.rs, .int .i64 p.rq, .int .i64 p.rh, .int .i64 p.rn, .int .i64 p.rw, .int .i64 p.re, .slice p.ra p.rl.length p.rc, .bool p.rb] 32)).heap.size = w.heap.size + 1 + 1 + 1 + 1 from by simp] at q; exact q) (.cells #[.int .i64 b.ai, .int .i64 b.aq, .int .i64 b.ah, .int .i64 b.an, .int .i64 b.ae, .string b.ax, .int .i64 b.ak, .int .i64 b.ab, .bool b.af, .int .i64 b.ad, .string b.aw] 29))
  have HXb := Lib.hid (show Blk ((((((w.alloc (.cells #[.int .i64 p.hw, .int .i64 p.hl] 23)).alloc (.cells #[.int .i64 p.gw, .int .i64 p.gl, .int .i64 p.ge] 25)).alloc (.cells #[.int .i64 p.ai, .int .i64 p.aq, .int .i64 p.ah, .int .i64 p.an, .int .i64 p.ae, .string p.ax, .int .i64 p.ak, .int .i64 p.ab, .bool p.af, .int .i64 p.ad, .string p.aw] 29)).alloc (.cells #[.int .i64 p.rs, .int .i64 p.rq, .int .i64 p.rh, .int .i64 p.rn, .int .i64 p.rw, .int .i64 p.re, .slice p.ra p.rl.length p.rc, .bool p.rb] 32)).alloc (.cells #[.int .i64 p.ss, .int .i64 p.sq] 34)).alloc (.cells #[.int .i64 b.ai, .int .i64 b.aq, .int .i64 b.ah, .int .i64 b.an, .int .i64 b.ae, .string b.ax, .int .i64 b.ak, .int .i64 b.ab, .bool b.af, .int .i64 b.ad, .string b.aw] 29)) (w.heap.size + 1 + 1 + 1 + 1 + 1) 29 [.int .i64 b.ai, .int .i64 b.aq, .int .i64 b.ah, .int .i64 b.an, .int .i64 b.ae, .string b.ax, .int .i64 b.ak, .int .i64 b.ab, .bool b.af, .int .i64 b.ad, .string b.aw] from by have q := heap_alloc_new (((((w.alloc (.cells #[.int .i64 p.hw, .int .i64 p.hl] 23)).alloc (.cells #[.int .i64 p.gw, .int .i64 p.gl, .int .i64 p.ge] 25)).alloc (.cells #[.int .i64 p.ai, .int .i64 p.aq, .int .i64 p.ah, .int .i64 p.an, .int .i64 p.ae, .string p.ax, .int .i64 p.ak, .int .i64 p.ab, .bool p.af, .int .i64 p.ad, .string p.aw] 29)).alloc (.cells #[.int .i64 p.rs, .int .i64 p.rq, .int .i64 p.rh, .int .i64 p.rn, .int .i64 p.rw, .int .i64 p.re, .slice p.ra p.rl.length p.rc, .bool p.rb] 32)).alloc (.cells #[.int .i64 p.ss, .int .i64 p.sq] 34)) (.cells #[.int .i64 b.ai, .int .i64 b.aq, .int .i64 b.ah, .int .i64 b.an, .int .i64 b.ae, .string b.ax, .int .i64 b.ak, .int .i64 b.ab, .bool b.af, .int .i64 b.ad, .string b.aw] 29); rw [show (((((w.alloc (.cells #[.int .i64 p.hw, .int .i64 p.hl] 23)).alloc (.cells #[.int .i64 p.gw, .int .i64 p.gl, .int .i64 p.ge] 25)).alloc (.cells #[.int .i64 p.ai, .int .i64 p.aq, .int .i64 p.ah, .int .i64 p.an, .int .i64 p.ae, .string p.ax, .int .i64 p.ak, .int .i64 p.ab, .bool p.af, .int .i64 p.ad, .string p.aw] 29)).alloc (.cells #[.int .i64 p.rs, .int .i64 p.rq, .int .i64 p.rh, .int .i64 p.rn, .int .i64 p.rw, .int .i64 p.re, .slice p.ra p.rl.length p.rc, .bool p.rb] 32)).alloc (.cells #[.int .i64 p.ss, .int .i64 p.sq] 34)).heap.size = w.heap.size + 1 + 1 + 1 + 1 + 1 from by simp] at q; exact q)
  obtain ⟨W, hW⟩ : ∃ W, ((((((w.alloc (.cells #[.int .i64 p.hw, .int .i64 p.hl] 23)).alloc (.cells #[.int .i64 p.gw, .int .i64 p.gl, .int .i64 p.ge] 25)).alloc (.cells #[.int .i64 p.ai, .int .i64 p.aq, .int .i64 p.ah, .int .i64 p.an, .int .i64 p.ae, .string p.ax, .int .i64 p.ak, .int .i64 p.ab, .bool p.af, .int .i64 p.ad, .string p.aw] 29)).alloc (.cells #[.int .i64 p.rs, .int .i64 p.rq, .int .i64 p.rh, .int .i64 p.rn, .int .i64 p.rw, .int .i64 p.re, .slice p.ra p.rl.length p.rc, .bool p.rb] 32)).alloc (.cells #[.int .i64 p.ss, .int .i64 p.sq] 34)).alloc (.cells #[.int .i64 b.ai, .int .i64 b.aq, .int .i64 b.ah, .int .i64 b.an, .int .i64 b.ae, .string b.ax, .int .i64 b.ak, .int .i64 b.ab, .bool b.af, .int .i64 b.ad, .string b.aw] 29)) = W := ⟨_, rfl⟩
  rw [hW] at HB HXh HXg HXa HXr HXs HXb
  have th0 : W.cell? ⟨w.heap.size, 0, none⟩ = some (.int .i64 p.hw) := HXh.out.cell 0
  have th1 : W.cell? ⟨w.heap.size, 1, none⟩ = some (.int .i64 p.hl) := HXh.out.cell 1
  have tg0 : W.cell? ⟨w.heap.size + 1, 0, none⟩ = some (.int .i64 p.gw) := HXg.out.cell 0
  have tg1 : W.cell? ⟨w.heap.size + 1, 1, none⟩ = some (.int .i64 p.gl) := HXg.out.cell 1
  have tg2 : W.cell? ⟨w.heap.size + 1, 2, none⟩ = some (.int .i64 p.ge) := HXg.out.cell 2
  have ta0 : W.cell? ⟨w.heap.size + 1 + 1, 0, none⟩ = some (.int .i64 p.ai) := HXa.out.cell 0
  have ta1 : W.cell? ⟨w.heap.size + 1 + 1, 1, none⟩ = some (.int .i64 p.aq) := HXa.out.cell 1
  have ta2 : W.cell? ⟨w.heap.size + 1 + 1, 2, none⟩ = some (.int .i64 p.ah) := HXa.out.cell 2
  have ta3 : W.cell? ⟨w.heap.size + 1 + 1, 3, none⟩ = some (.int .i64 p.an) := HXa.out.cell 3
  have ta4 : W.cell? ⟨w.heap.size + 1 + 1, 4, none⟩ = some (.int .i64 p.ae) := HXa.out.cell 4
  have ta5 : W.cell? ⟨w.heap.size + 1 + 1, 5, none⟩ = some (.string p.ax) := HXa.out.cell 5
  have ta6 : W.cell? ⟨w.heap.size + 1 + 1, 6, none⟩ = some (.int .i64 p.ak) := HXa.out.cell 6
  have ta7 : W.cell? ⟨w.heap.size + 1 + 1, 7, none⟩ = some (.int .i64 p.ab) := HXa.out.cell 7
  have ta8 : W.cell? ⟨w.heap.size + 1 + 1, 8, none⟩ = some (.bool p.af) := HXa.out.cell 8
  have ta9 : W.cell? ⟨w.heap.size + 1 + 1, 9, none⟩ = some (.int .i64 p.ad) := HXa.out.cell 9
  have ta10 : W.cell? ⟨w.heap.size + 1 + 1, 10, none⟩ = some (.string p.aw) := HXa.out.cell 10
  have tr0 : W.cell? ⟨w.heap.size + 1 + 1 + 1, 0, none⟩ = some (.int .i64 p.rs) := HXr.out.cell 0
  have tr1 : W.cell? ⟨w.heap.size + 1 + 1 + 1, 1, none⟩ = some (.int .i64 p.rq) := HXr.out.cell 1
  have tr2 : W.cell? ⟨w.heap.size + 1 + 1 + 1, 2, none⟩ = some (.int .i64 p.rh) := HXr.out.cell 2
  have tr3 : W.cell? ⟨w.heap.size + 1 + 1 + 1, 3, none⟩ = some (.int .i64 p.rn) := HXr.out.cell 3
  have tr4 : W.cell? ⟨w.heap.size + 1 + 1 + 1, 4, none⟩ = some (.int .i64 p.rw) := HXr.out.cell 4
  have tr5 : W.cell? ⟨w.heap.size + 1 + 1 + 1, 5, none⟩ = some (.int .i64 p.re) := HXr.out.cell 5
  have tr6 : W.cell? ⟨w.heap.size + 1 + 1 + 1, 6, none⟩ = some (.slice p.ra p.rl.length p.rc) := HXr.out.cell 6
  have tr7 : W.cell? ⟨w.heap.size + 1 + 1 + 1, 7, none⟩ = some (.bool p.rb) := HXr.out.cell 7
  have ts0 : W.cell? ⟨w.heap.size + 1 + 1 + 1 + 1, 0, none⟩ = some (.int .i64 p.ss) := HXs.out.cell 0
  have ts1 : W.cell? ⟨w.heap.size + 1 + 1 + 1 + 1, 1, none⟩ = some (.int .i64 p.sq) := HXs.out.cell 1
  have tb0 : W.cell? ⟨w.heap.size + 1 + 1 + 1 + 1 + 1, 0, none⟩ = some (.int .i64 b.ai) := HXb.out.cell 0
  have tb1 : W.cell? ⟨w.heap.size + 1 + 1 + 1 + 1 + 1, 1, none⟩ = some (.int .i64 b.aq) := HXb.out.cell 1
  have tb2 : W.cell? ⟨w.heap.size + 1 + 1 + 1 + 1 + 1, 2, none⟩ = some (.int .i64 b.ah) := HXb.out.cell 2
  have tb3 : W.cell? ⟨w.heap.size + 1 + 1 + 1 + 1 + 1, 3, none⟩ = some (.int .i64 b.an) := HXb.out.cell 3
  have tb4 : W.cell? ⟨w.heap.size + 1 + 1 + 1 + 1 + 1, 4, none⟩ = some (.int .i64 b.ae) := HXb.out.cell 4
  have tb5 : W.cell? ⟨w.heap.size + 1 + 1 + 1 + 1 + 1, 5, none⟩ = some (.string b.ax) := HXb.out.cell 5
  have tb6 : W.cell? ⟨w.heap.size + 1 + 1 + 1 + 1 + 1, 6, none⟩ = some (.int .i64 b.ak) := HXb.out.cell 6
  have tb7 : W.cell? ⟨w.heap.size + 1 + 1 + 1 + 1 + 1, 7, none⟩ = some (.int .i64 b.ab) := HXb.out.cell 7
  have tb8 : W.cell? ⟨w.heap.size + 1 + 1 + 1 + 1 + 1, 8, none⟩ = some (.bool b.af) := HXb.out.cell 8
  have tb9 : W.cell? ⟨w.heap.size + 1 + 1 + 1 + 1 + 1, 9, none⟩ = some (.int .i64 b.ad) := HXb.out.cell 9
  have tb10 : W.cell? ⟨w.heap.size + 1 + 1 + 1 + 1 + 1, 10, none⟩ = some (.string b.aw) := HXb.out.cell 10
  have HGR := Lib.hid (great_any p W (HP.out.below HB.out))
  have HGR2 := Lib.hid (fun W (hb : Below w.heap.size w W) => (show Calls Try.prog 10 #[.agg #[.int .i64 b.ai, .int .i64 b.aq, .int .i64 b.ah, .int .i64 b.an, .int .i64 b.ae, .string b.ax, .int .i64 b.ak, .int .i64 b.ab, .bool b.af, .int .i64 b.ad, .string b.aw], .agg #[.int .i64 p.rs, .int .i64 p.rq, .int .i64 p.rh, .int .i64 p.rn, .int .i64 p.rw, .int .i64 p.re, .slice p.ra p.rl.length p.rc, .bool p.rb]] W fun e w' => e = .returned (.bool (p.mix b).great) ∧ Below W.heap.size W w' from great_any (p.mix b) W (HP2.out.below hb)))
  go_enter Try.func7, Try.ntmps7
  go_wp2_with (rw [hW])
  clear hW
  refine HGR.out.mono ?_
  rintro e w1 ⟨rfl, hb⟩
  clear HGR
  have HB1 := Lib.hid (HB.out.trans (hb.mono HB.out.size))
  have HXh1 := Lib.hid (HXh.out.below hb HXh.out.lt)
  have HXg1 := Lib.hid (HXg.out.below hb HXg.out.lt)
  have HXa1 := Lib.hid (HXa.out.below hb HXa.out.lt)
  have HXr1 := Lib.hid (HXr.out.below hb HXr.out.lt)
  have HXs1 := Lib.hid (HXs.out.below hb HXs.out.lt)
  have HXb1 := Lib.hid (HXb.out.below hb HXb.out.lt)
  clear th0 th1 tg0 tg1 tg2 ta0 ta1 ta2 ta3 ta4 ta5 ta6 ta7 ta8 ta9 ta10 tr0 tr1 tr2 tr3 tr4 tr5 tr6 tr7 ts0 ts1 tb0 tb1 tb2 tb3 tb4 tb5 tb6 tb7 tb8 tb9 tb10
  clear hb HB HXh HXg HXa HXr HXs HXb
  cases hg : p.great
  rotate_left 1
  · go_wp2_with fail
    refine (HAW.out _).mono ?_
    rintro e w9 ⟨rfl, hb⟩
    have HB9 := Lib.hid (HB1.out.trans (hb.mono HB1.out.size))
    clear hb
    go_wp2_with fail
    go_ret
    exact ⟨rfl, HB9.out⟩
  have HT := Lib.hid (fun k => one_tiny (k := k) hg)
  clear hg
  have th0 : w1.cell? ⟨w.heap.size, 0, none⟩ = some (.int .i64 p.hw) := HXh1.out.cell 0
  have th1 : w1.cell? ⟨w.heap.size, 1, none⟩ = some (.int .i64 p.hl) := HXh1.out.cell 1
  have tg0 : w1.cell? ⟨w.heap.size + 1, 0, none⟩ = some (.int .i64 p.gw) := HXg1.out.cell 0
  have tg1 : w1.cell? ⟨w.heap.size + 1, 1, none⟩ = some (.int .i64 p.gl) := HXg1.out.cell 1
  have tg2 : w1.cell? ⟨w.heap.size + 1, 2, none⟩ = some (.int .i64 p.ge) := HXg1.out.cell 2
  have ta0 : w1.cell? ⟨w.heap.size + 1 + 1, 0, none⟩ = some (.int .i64 p.ai) := HXa1.out.cell 0
  have ta1 : w1.cell? ⟨w.heap.size + 1 + 1, 1, none⟩ = some (.int .i64 p.aq) := HXa1.out.cell 1
  have ta2 : w1.cell? ⟨w.heap.size + 1 + 1, 2, none⟩ = some (.int .i64 p.ah) := HXa1.out.cell 2
  have ta3 : w1.cell? ⟨w.heap.size + 1 + 1, 3, none⟩ = some (.int .i64 p.an) := HXa1.out.cell 3
  have ta4 : w1.cell? ⟨w.heap.size + 1 + 1, 4, none⟩ = some (.int .i64 p.ae) := HXa1.out.cell 4
  have ta5 : w1.cell? ⟨w.heap.size + 1 + 1, 5, none⟩ = some (.string p.ax) := HXa1.out.cell 5
  have ta6 : w1.cell? ⟨w.heap.size + 1 + 1, 6, none⟩ = some (.int .i64 p.ak) := HXa1.out.cell 6
  have ta7 : w1.cell? ⟨w.heap.size + 1 + 1, 7, none⟩ = some (.int .i64 p.ab) := HXa1.out.cell 7
  have ta8 : w1.cell? ⟨w.heap.size + 1 + 1, 8, none⟩ = some (.bool p.af) := HXa1.out.cell 8
  have ta9 : w1.cell? ⟨w.heap.size + 1 + 1, 9, none⟩ = some (.int .i64 p.ad) := HXa1.out.cell 9
  have ta10 : w1.cell? ⟨w.heap.size + 1 + 1, 10, none⟩ = some (.string p.aw) := HXa1.out.cell 10
  have tr0 : w1.cell? ⟨w.heap.size + 1 + 1 + 1, 0, none⟩ = some (.int .i64 p.rs) := HXr1.out.cell 0
  have tr1 : w1.cell? ⟨w.heap.size + 1 + 1 + 1, 1, none⟩ = some (.int .i64 p.rq) := HXr1.out.cell 1
  have tr2 : w1.cell? ⟨w.heap.size + 1 + 1 + 1, 2, none⟩ = some (.int .i64 p.rh) := HXr1.out.cell 2
  have tr3 : w1.cell? ⟨w.heap.size + 1 + 1 + 1, 3, none⟩ = some (.int .i64 p.rn) := HXr1.out.cell 3
  have tr4 : w1.cell? ⟨w.heap.size + 1 + 1 + 1, 4, none⟩ = some (.int .i64 p.rw) := HXr1.out.cell 4
  have tr5 : w1.cell? ⟨w.heap.size + 1 + 1 + 1, 5, none⟩ = some (.int .i64 p.re) := HXr1.out.cell 5
  have tr6 : w1.cell? ⟨w.heap.size + 1 + 1 + 1, 6, none⟩ = some (.slice p.ra p.rl.length p.rc) := HXr1.out.cell 6
  have tr7 : w1.cell? ⟨w.heap.size + 1 + 1 + 1, 7, none⟩ = some (.bool p.rb) := HXr1.out.cell 7
  have ts0 : w1.cell? ⟨w.heap.size + 1 + 1 + 1 + 1, 0, none⟩ = some (.int .i64 p.ss) := HXs1.out.cell 0
  have ts1 : w1.cell? ⟨w.heap.size + 1 + 1 + 1 + 1, 1, none⟩ = some (.int .i64 p.sq) := HXs1.out.cell 1
  have tb0 : w1.cell? ⟨w.heap.size + 1 + 1 + 1 + 1 + 1, 0, none⟩ = some (.int .i64 b.ai) := HXb1.out.cell 0
  have tb1 : w1.cell? ⟨w.heap.size + 1 + 1 + 1 + 1 + 1, 1, none⟩ = some (.int .i64 b.aq) := HXb1.out.cell 1
  have tb2 : w1.cell? ⟨w.heap.size + 1 + 1 + 1 + 1 + 1, 2, none⟩ = some (.int .i64 b.ah) := HXb1.out.cell 2
  have tb3 : w1.cell? ⟨w.heap.size + 1 + 1 + 1 + 1 + 1, 3, none⟩ = some (.int .i64 b.an) := HXb1.out.cell 3
  have tb4 : w1.cell? ⟨w.heap.size + 1 + 1 + 1 + 1 + 1, 4, none⟩ = some (.int .i64 b.ae) := HXb1.out.cell 4
  have tb5 : w1.cell? ⟨w.heap.size + 1 + 1 + 1 + 1 + 1, 5, none⟩ = some (.string b.ax) := HXb1.out.cell 5
  have tb6 : w1.cell? ⟨w.heap.size + 1 + 1 + 1 + 1 + 1, 6, none⟩ = some (.int .i64 b.ak) := HXb1.out.cell 6
  have tb7 : w1.cell? ⟨w.heap.size + 1 + 1 + 1 + 1 + 1, 7, none⟩ = some (.int .i64 b.ab) := HXb1.out.cell 7
  have tb8 : w1.cell? ⟨w.heap.size + 1 + 1 + 1 + 1 + 1, 8, none⟩ = some (.bool b.af) := HXb1.out.cell 8
  have tb9 : w1.cell? ⟨w.heap.size + 1 + 1 + 1 + 1 + 1, 9, none⟩ = some (.int .i64 b.ad) := HXb1.out.cell 9
  have tb10 : w1.cell? ⟨w.heap.size + 1 + 1 + 1 + 1 + 1, 10, none⟩ = some (.string b.aw) := HXb1.out.cell 10
  go_wp2_with fail
  refine (HGR2.out _ HB1.out).mono ?_
  rintro e w2 ⟨rfl, hb⟩
  clear HGR2
  have HB2 := Lib.hid (HB1.out.trans (hb.mono HB1.out.size))
  have HXh2 := Lib.hid (HXh1.out.below hb HXh1.out.lt)
  have HXg2 := Lib.hid (HXg1.out.below hb HXg1.out.lt)
  have HXa2 := Lib.hid (HXa1.out.below hb HXa1.out.lt)
  have HXr2 := Lib.hid (HXr1.out.below hb HXr1.out.lt)
  have HXs2 := Lib.hid (HXs1.out.below hb HXs1.out.lt)
  have HXb2 := Lib.hid (HXb1.out.below hb HXb1.out.lt)
  clear th0 th1 tg0 tg1 tg2 ta0 ta1 ta2 ta3 ta4 ta5 ta6 ta7 ta8 ta9 ta10 tr0 tr1 tr2 tr3 tr4 tr5 tr6 tr7 ts0 ts1 tb0 tb1 tb2 tb3 tb4 tb5 tb6 tb7 tb8 tb9 tb10
  clear hb HB1 HXh1 HXg1 HXa1 HXr1 HXs1 HXb1
  cases hg : (p.mix b).great
  rotate_left 1
  · go_wp2_with fail
    refine (HAW.out _).mono ?_
    rintro e w9 ⟨rfl, hb⟩
    have HB9 := Lib.hid (HB2.out.trans (hb.mono HB2.out.size))
    clear hb
    go_wp2_with fail
    go_ret
    exact ⟨rfl, HB9.out⟩
  have HT2 := Lib.hid (fun k => one_tiny (k := k) hg)
  clear hg
  have th0 : w2.cell? ⟨w.heap.size, 0, none⟩ = some (.int .i64 p.hw) := HXh2.out.cell 0
  have th1 : w2.cell? ⟨w.heap.size, 1, none⟩ = some (.int .i64 p.hl) := HXh2.out.cell 1
  have tg0 : w2.cell? ⟨w.heap.size + 1, 0, none⟩ = some (.int .i64 p.gw) := HXg2.out.cell 0
  have tg1 : w2.cell? ⟨w.heap.size + 1, 1, none⟩ = some (.int .i64 p.gl) := HXg2.out.cell 1
  have tg2 : w2.cell? ⟨w.heap.size + 1, 2, none⟩ = some (.int .i64 p.ge) := HXg2.out.cell 2
  have ta0 : w2.cell? ⟨w.heap.size + 1 + 1, 0, none⟩ = some (.int .i64 p.ai) := HXa2.out.cell 0
  have ta1 : w2.cell? ⟨w.heap.size + 1 + 1, 1, none⟩ = some (.int .i64 p.aq) := HXa2.out.cell 1
  have ta2 : w2.cell? ⟨w.heap.size + 1 + 1, 2, none⟩ = some (.int .i64 p.ah) := HXa2.out.cell 2
  have ta3 : w2.cell? ⟨w.heap.size + 1 + 1, 3, none⟩ = some (.int .i64 p.an) := HXa2.out.cell 3
  have ta4 : w2.cell? ⟨w.heap.size + 1 + 1, 4, none⟩ = some (.int .i64 p.ae) := HXa2.out.cell 4
  have ta5 : w2.cell? ⟨w.heap.size + 1 + 1, 5, none⟩ = some (.string p.ax) := HXa2.out.cell 5
  have ta6 : w2.cell? ⟨w.heap.size + 1 + 1, 6, none⟩ = some (.int .i64 p.ak) := HXa2.out.cell 6
  have ta7 : w2.cell? ⟨w.heap.size + 1 + 1, 7, none⟩ = some (.int .i64 p.ab) := HXa2.out.cell 7
  have ta8 : w2.cell? ⟨w.heap.size + 1 + 1, 8, none⟩ = some (.bool p.af) := HXa2.out.cell 8
  have ta9 : w2.cell? ⟨w.heap.size + 1 + 1, 9, none⟩ = some (.int .i64 p.ad) := HXa2.out.cell 9
  have ta10 : w2.cell? ⟨w.heap.size + 1 + 1, 10, none⟩ = some (.string p.aw) := HXa2.out.cell 10
  have tr0 : w2.cell? ⟨w.heap.size + 1 + 1 + 1, 0, none⟩ = some (.int .i64 p.rs) := HXr2.out.cell 0
  have tr1 : w2.cell? ⟨w.heap.size + 1 + 1 + 1, 1, none⟩ = some (.int .i64 p.rq) := HXr2.out.cell 1
  have tr2 : w2.cell? ⟨w.heap.size + 1 + 1 + 1, 2, none⟩ = some (.int .i64 p.rh) := HXr2.out.cell 2
  have tr3 : w2.cell? ⟨w.heap.size + 1 + 1 + 1, 3, none⟩ = some (.int .i64 p.rn) := HXr2.out.cell 3
  have tr4 : w2.cell? ⟨w.heap.size + 1 + 1 + 1, 4, none⟩ = some (.int .i64 p.rw) := HXr2.out.cell 4
  have tr5 : w2.cell? ⟨w.heap.size + 1 + 1 + 1, 5, none⟩ = some (.int .i64 p.re) := HXr2.out.cell 5
  have tr6 : w2.cell? ⟨w.heap.size + 1 + 1 + 1, 6, none⟩ = some (.slice p.ra p.rl.length p.rc) := HXr2.out.cell 6
  have tr7 : w2.cell? ⟨w.heap.size + 1 + 1 + 1, 7, none⟩ = some (.bool p.rb) := HXr2.out.cell 7
  have ts0 : w2.cell? ⟨w.heap.size + 1 + 1 + 1 + 1, 0, none⟩ = some (.int .i64 p.ss) := HXs2.out.cell 0
  have ts1 : w2.cell? ⟨w.heap.size + 1 + 1 + 1 + 1, 1, none⟩ = some (.int .i64 p.sq) := HXs2.out.cell 1
  have tb0 : w2.cell? ⟨w.heap.size + 1 + 1 + 1 + 1 + 1, 0, none⟩ = some (.int .i64 b.ai) := HXb2.out.cell 0
  have tb1 : w2.cell? ⟨w.heap.size + 1 + 1 + 1 + 1 + 1, 1, none⟩ = some (.int .i64 b.aq) := HXb2.out.cell 1
  have tb2 : w2.cell? ⟨w.heap.size + 1 + 1 + 1 + 1 + 1, 2, none⟩ = some (.int .i64 b.ah) := HXb2.out.cell 2
  have tb3 : w2.cell? ⟨w.heap.size + 1 + 1 + 1 + 1 + 1, 3, none⟩ = some (.int .i64 b.an) := HXb2.out.cell 3
  have tb4 : w2.cell? ⟨w.heap.size + 1 + 1 + 1 + 1 + 1, 4, none⟩ = some (.int .i64 b.ae) := HXb2.out.cell 4
  have tb5 : w2.cell? ⟨w.heap.size + 1 + 1 + 1 + 1 + 1, 5, none⟩ = some (.string b.ax) := HXb2.out.cell 5
  have tb6 : w2.cell? ⟨w.heap.size + 1 + 1 + 1 + 1 + 1, 6, none⟩ = some (.int .i64 b.ak) := HXb2.out.cell 6
  have tb7 : w2.cell? ⟨w.heap.size + 1 + 1 + 1 + 1 + 1, 7, none⟩ = some (.int .i64 b.ab) := HXb2.out.cell 7
  have tb8 : w2.cell? ⟨w.heap.size + 1 + 1 + 1 + 1 + 1, 8, none⟩ = some (.bool b.af) := HXb2.out.cell 8
  have tb9 : w2.cell? ⟨w.heap.size + 1 + 1 + 1 + 1 + 1, 9, none⟩ = some (.int .i64 b.ad) := HXb2.out.cell 9
  have tb10 : w2.cell? ⟨w.heap.size + 1 + 1 + 1 + 1 + 1, 10, none⟩ = some (.string b.aw) := HXb2.out.cell 10
  go_wp2_with fail
  clear th0 th1 tg0 tg1 tg2 ta0 ta1 ta2 ta3 ta4 ta5 ta6 ta7 ta8 ta9 ta10 tr0 tr1 tr2 tr3 tr4 tr5 tr6 tr7 ts0 ts1 tb0 tb1 tb2 tb3 tb4 tb5 tb6 tb7 tb8 tb9 tb10
  have HB2d := Lib.hid HB2.out.drew
  have HXhd := Lib.hid (show Blk w2.drew (w.heap.size) 23 [.int .i64 p.hw, .int .i64 p.hl] from HXh2.out)
  have HXgd := Lib.hid (show Blk w2.drew (w.heap.size + 1) 25 [.int .i64 p.gw, .int .i64 p.gl, .int .i64 p.ge] from HXg2.out)
  have HXad := Lib.hid (show Blk w2.drew (w.heap.size + 1 + 1) 29 [.int .i64 p.ai, .int .i64 p.aq, .int .i64 p.ah, .int .i64 p.an, .int .i64 p.ae, .string p.ax, .int .i64 p.ak, .int .i64 p.ab, .bool p.af, .int .i64 p.ad, .string p.aw] from HXa2.out)
  have HXrd := Lib.hid (show Blk w2.drew (w.heap.size + 1 + 1 + 1) 32 [.int .i64 p.rs, .int .i64 p.rq, .int .i64 p.rh, .int .i64 p.rn, .int .i64 p.rw, .int .i64 p.re, .slice p.ra p.rl.length p.rc, .bool p.rb] from HXr2.out)
  have HXsd := Lib.hid (show Blk w2.drew (w.heap.size + 1 + 1 + 1 + 1) 34 [.int .i64 p.ss, .int .i64 p.sq] from HXs2.out)
  have HXbd := Lib.hid (show Blk w2.drew (w.heap.size + 1 + 1 + 1 + 1 + 1) 29 [.int .i64 b.ai, .int .i64 b.aq, .int .i64 b.ah, .int .i64 b.an, .int .i64 b.ae, .string b.ax, .int .i64 b.ak, .int .i64 b.ab, .bool b.af, .int .i64 b.ad, .string b.aw] from HXb2.out)
  clear HB2 HXh2 HXg2 HXa2 HXr2 HXs2 HXb2
  refine wp_region_held_drew (S := (fun w' => w'.cell? ⟨w.heap.size, 0, none⟩ = some (.int .i64 p.hw) ∧ w'.cell? ⟨w.heap.size, 1, none⟩ = some (.int .i64 p.hl) ∧ w'.cell? ⟨w.heap.size + 1, 0, none⟩ = some (.int .i64 p.gw) ∧ w'.cell? ⟨w.heap.size + 1, 1, none⟩ = some (.int .i64 p.gl) ∧ w'.cell? ⟨w.heap.size + 1, 2, none⟩ = some (.int .i64 p.ge) ∧ w'.cell? ⟨w.heap.size + 1 + 1, 0, none⟩ = some (.int .i64 p.ai) ∧ w'.cell? ⟨w.heap.size + 1 + 1, 1, none⟩ = some (.int .i64 p.aq) ∧ w'.cell? ⟨w.heap.size + 1 + 1, 2, none⟩ = some (.int .i64 p.ah) ∧ w'.cell? ⟨w.heap.size + 1 + 1, 3, none⟩ = some (.int .i64 p.an) ∧ w'.cell? ⟨w.heap.size + 1 + 1, 4, none⟩ = some (.int .i64 p.ae) ∧ w'.cell? ⟨w.heap.size + 1 + 1, 5, none⟩ = some (.string p.ax) ∧ w'.cell? ⟨w.heap.size + 1 + 1, 6, none⟩ = some (.int .i64 p.ak) ∧ w'.cell? ⟨w.heap.size + 1 + 1, 7, none⟩ = some (.int .i64 p.ab) ∧ w'.cell? ⟨w.heap.size + 1 + 1, 8, none⟩ = some (.bool p.af) ∧ w'.cell? ⟨w.heap.size + 1 + 1, 9, none⟩ = some (.int .i64 p.ad) ∧ w'.cell? ⟨w.heap.size + 1 + 1, 10, none⟩ = some (.string p.aw) ∧ w'.cell? ⟨w.heap.size + 1 + 1 + 1, 0, none⟩ = some (.int .i64 p.rs) ∧ w'.cell? ⟨w.heap.size + 1 + 1 + 1, 1, none⟩ = some (.int .i64 p.rq) ∧ w'.cell? ⟨w.heap.size + 1 + 1 + 1, 2, none⟩ = some (.int .i64 p.rh) ∧ w'.cell? ⟨w.heap.size + 1 + 1 + 1, 3, none⟩ = some (.int .i64 p.rn) ∧ w'.cell? ⟨w.heap.size + 1 + 1 + 1, 4, none⟩ = some (.int .i64 p.rw) ∧ w'.cell? ⟨w.heap.size + 1 + 1 + 1, 5, none⟩ = some (.int .i64 p.re) ∧ w'.cell? ⟨w.heap.size + 1 + 1 + 1, 6, none⟩ = some (.slice p.ra p.rl.length p.rc) ∧ w'.cell? ⟨w.heap.size + 1 + 1 + 1, 7, none⟩ = some (.bool p.rb) ∧ w'.cell? ⟨w.heap.size + 1 + 1 + 1 + 1, 0, none⟩ = some (.int .i64 p.ss) ∧ w'.cell? ⟨w.heap.size + 1 + 1 + 1 + 1, 1, none⟩ = some (.int .i64 p.sq) ∧ w'.cell? ⟨w.heap.size + 1 + 1 + 1 + 1 + 1, 0, none⟩ = some (.int .i64 b.ai) ∧ w'.cell? ⟨w.heap.size + 1 + 1 + 1 + 1 + 1, 1, none⟩ = some (.int .i64 b.aq) ∧ w'.cell? ⟨w.heap.size + 1 + 1 + 1 + 1 + 1, 2, none⟩ = some (.int .i64 b.ah) ∧ w'.cell? ⟨w.heap.size + 1 + 1 + 1 + 1 + 1, 3, none⟩ = some (.int .i64 b.an) ∧ w'.cell? ⟨w.heap.size + 1 + 1 + 1 + 1 + 1, 4, none⟩ = some (.int .i64 b.ae) ∧ w'.cell? ⟨w.heap.size + 1 + 1 + 1 + 1 + 1, 5, none⟩ = some (.string b.ax) ∧ w'.cell? ⟨w.heap.size + 1 + 1 + 1 + 1 + 1, 6, none⟩ = some (.int .i64 b.ak) ∧ w'.cell? ⟨w.heap.size + 1 + 1 + 1 + 1 + 1, 7, none⟩ = some (.int .i64 b.ab) ∧ w'.cell? ⟨w.heap.size + 1 + 1 + 1 + 1 + 1, 8, none⟩ = some (.bool b.af) ∧ w'.cell? ⟨w.heap.size + 1 + 1 + 1 + 1 + 1, 9, none⟩ = some (.int .i64 b.ad) ∧ w'.cell? ⟨w.heap.size + 1 + 1 + 1 + 1 + 1, 10, none⟩ = some (.string b.aw))) (by kernel_rfl) (by first | exact ⟨HXhd.out.cell 0, HXhd.out.cell 1, HXgd.out.cell 0, HXgd.out.cell 1, HXgd.out.cell 2, HXad.out.cell 0, HXad.out.cell 1, HXad.out.cell 2, HXad.out.cell 3, HXad.out.cell 4, HXad.out.cell 5, HXad.out.cell 6, HXad.out.cell 7, HXad.out.cell 8, HXad.out.cell 9, HXad.out.cell 10, HXrd.out.cell 0, HXrd.out.cell 1, HXrd.out.cell 2, HXrd.out.cell 3, HXrd.out.cell 4, HXrd.out.cell 5, HXrd.out.cell 6, HXrd.out.cell 7, HXsd.out.cell 0, HXsd.out.cell 1, HXbd.out.cell 0, HXbd.out.cell 1, HXbd.out.cell 2, HXbd.out.cell 3, HXbd.out.cell 4, HXbd.out.cell 5, HXbd.out.cell 6, HXbd.out.cell 7, HXbd.out.cell 8, HXbd.out.cell 9, HXbd.out.cell 10⟩ | exact ⟨HXh3.out.cell 0, HXh3.out.cell 1, HXg3.out.cell 0, HXg3.out.cell 1, HXg3.out.cell 2, HXa3.out.cell 0, HXa3.out.cell 1, HXa3.out.cell 2, HXa3.out.cell 3, HXa3.out.cell 4, HXa3.out.cell 5, HXa3.out.cell 6, HXa3.out.cell 7, HXa3.out.cell 8, HXa3.out.cell 9, HXa3.out.cell 10, HXr3.out.cell 0, HXr3.out.cell 1, HXr3.out.cell 2, HXr3.out.cell 3, HXr3.out.cell 4, HXr3.out.cell 5, HXr3.out.cell 6, HXr3.out.cell 7, HXs3.out.cell 0, HXs3.out.cell 1, HXb3.out.cell 0, HXb3.out.cell 1, HXb3.out.cell 2, HXb3.out.cell 3, HXb3.out.cell 4, HXb3.out.cell 5, HXb3.out.cell 6, HXb3.out.cell 7, HXb3.out.cell 8, HXb3.out.cell 9, HXb3.out.cell 10⟩ | exact ⟨HXh4.out.cell 0, HXh4.out.cell 1, HXg4.out.cell 0, HXg4.out.cell 1, HXg4.out.cell 2, HXa4.out.cell 0, HXa4.out.cell 1, HXa4.out.cell 2, HXa4.out.cell 3, HXa4.out.cell 4, HXa4.out.cell 5, HXa4.out.cell 6, HXa4.out.cell 7, HXa4.out.cell 8, HXa4.out.cell 9, HXa4.out.cell 10, HXr4.out.cell 0, HXr4.out.cell 1, HXr4.out.cell 2, HXr4.out.cell 3, HXr4.out.cell 4, HXr4.out.cell 5, HXr4.out.cell 6, HXr4.out.cell 7, HXs4.out.cell 0, HXs4.out.cell 1, HXb4.out.cell 0, HXb4.out.cell 1, HXb4.out.cell 2, HXb4.out.cell 3, HXb4.out.cell 4, HXb4.out.cell 5, HXb4.out.cell 6, HXb4.out.cell 7, HXb4.out.cell 8, HXb4.out.cell 9, HXb4.out.cell 10⟩) (fun hHeld => ?_)
  refine takeO 0 (some 32) (v := ?_) rfl rfl (by kernel_rfl) (by kernel_rfl) (by kernel_rfl) (fun _ _ _ h => h) (Or.inl ⟨by rfl, ?_⟩) (by assumption) ?_
  rotate_left 1
  · intro w hSw; (try dsimp only at hSw); go_simp; all_goals with_reducible rfl
  try simp only [Act.put, List.setIfInBounds_toArray, List.set_cons_zero, List.set_cons_succ]
  refine takeO 1 (some 33) (v := ?_) rfl rfl (by kernel_rfl) (by kernel_rfl) (by kernel_rfl) (fun _ _ _ h => h) (Or.inl ⟨by rfl, ?_⟩) (by assumption) ?_
  rotate_left 1
  · intro w hSw; (try dsimp only at hSw); go_simp; all_goals with_reducible rfl
  try simp only [Act.put, List.setIfInBounds_toArray, List.set_cons_zero, List.set_cons_succ]
  refine takeO 2 (some 34) (v := ?_) rfl rfl (by kernel_rfl) (by kernel_rfl) (by kernel_rfl) (fun _ _ _ h => h) (Or.inl ⟨by rfl, ?_⟩) (by assumption) ?_
  rotate_left 1
  · intro w hSw; (try dsimp only at hSw); go_simp; all_goals with_reducible rfl
  try simp only [Act.put, List.setIfInBounds_toArray, List.set_cons_zero, List.set_cons_succ]
  refine takeO 3 (some 35) (v := ?_) rfl rfl (by kernel_rfl) (by kernel_rfl) (by kernel_rfl) (fun _ _ _ h => h) (Or.inl ⟨by rfl, ?_⟩) (by assumption) ?_
  rotate_left 1
  · intro w hSw; (try dsimp only at hSw); go_simp; all_goals with_reducible rfl
  try simp only [Act.put, List.setIfInBounds_toArray, List.set_cons_zero, List.set_cons_succ]
  refine takeO 4 (some 36) (v := ?_) rfl rfl (by kernel_rfl) (by kernel_rfl) (by kernel_rfl) (fun _ _ _ h => h) (Or.inl ⟨by rfl, ?_⟩) (by assumption) ?_
  rotate_left 1
  · intro w hSw; (try dsimp only at hSw); go_simp; all_goals with_reducible rfl
  try simp only [Act.put, List.setIfInBounds_toArray, List.set_cons_zero, List.set_cons_succ]
  refine takeO 5 (some 37) (v := ?_) rfl rfl (by kernel_rfl) (by kernel_rfl) (by kernel_rfl) (fun _ _ _ h => h) (Or.inl ⟨by rfl, ?_⟩) (by assumption) ?_
  rotate_left 1
  · intro w hSw; (try dsimp only at hSw); go_simp; all_goals with_reducible rfl
  try simp only [Act.put, List.setIfInBounds_toArray, List.set_cons_zero, List.set_cons_succ]
  refine takeO 7 (some 39) (v := ?_) rfl rfl (by kernel_rfl) (by kernel_rfl) (by kernel_rfl) (fun _ _ _ h => h) (Or.inl ⟨by rfl, ?_⟩) (by assumption) ?_
  rotate_left 1
  · intro w hSw; (try dsimp only at hSw); go_simp; all_goals with_reducible rfl
  try simp only [Act.put, List.setIfInBounds_toArray, List.set_cons_zero, List.set_cons_succ]
  refine takeO 8 (some 40) (v := ?_) rfl rfl (by kernel_rfl) (by kernel_rfl) (by kernel_rfl) (fun _ _ _ h => h) (Or.inl ⟨by rfl, ?_⟩) (by assumption) ?_
  rotate_left 1
  · intro w hSw; (try dsimp only at hSw); go_simp; all_goals with_reducible rfl
  try simp only [Act.put, List.setIfInBounds_toArray, List.set_cons_zero, List.set_cons_succ]
  refine takeO 9 (some 41) (v := ?_) rfl rfl (by kernel_rfl) (by kernel_rfl) (by kernel_rfl) (fun _ _ _ h => h) (Or.inl ⟨by rfl, ?_⟩) (by assumption) ?_
  rotate_left 1
  · intro w hSw; (try dsimp only at hSw); go_simp; all_goals with_reducible rfl
  try simp only [Act.put, List.setIfInBounds_toArray, List.set_cons_zero, List.set_cons_succ]
  refine takeO 10 (some 42) (v := ?_) rfl rfl (by kernel_rfl) (by kernel_rfl) (by kernel_rfl) (fun _ _ _ h => h) (Or.inl ⟨by rfl, ?_⟩) (by assumption) ?_
  rotate_left 1
  · intro w hSw; (try dsimp only at hSw); go_simp; all_goals with_reducible rfl
  try simp only [Act.put, List.setIfInBounds_toArray, List.set_cons_zero, List.set_cons_succ]
  refine takeO 11 (some 43) (v := ?_) rfl rfl (by kernel_rfl) (by kernel_rfl) (by kernel_rfl) (fun _ _ _ h => h) (Or.inl ⟨by rfl, ?_⟩) (by assumption) ?_
  rotate_left 1
  · intro w hSw; (try dsimp only at hSw); go_simp; all_goals with_reducible rfl
  try simp only [Act.put, List.setIfInBounds_toArray, List.set_cons_zero, List.set_cons_succ]
  refine takeO 12 (some 44) (v := ?_) rfl rfl (by kernel_rfl) (by kernel_rfl) (by kernel_rfl) (fun _ _ _ h => h) (Or.inl ⟨by rfl, ?_⟩) (by assumption) ?_
  rotate_left 1
  · intro w hSw; (try dsimp only at hSw); go_simp; all_goals with_reducible rfl
  try simp only [Act.put, List.setIfInBounds_toArray, List.set_cons_zero, List.set_cons_succ]
  refine wpAnyH_ready (rs := [6]) (by kernel_rfl) (by simp) ?_
  refine AllReadyH.cons rfl (fun K hK => ?_) AllReadyH.nil
  go_simp
  refine (pick_any p k w2.drew (HP.out.below HB2d.out)).mono ?_; rintro e w3 ⟨u, rfl, hu, hb⟩; have HU := Lib.hid hu; have HB3 := Lib.hid (HB2d.out.trans (hb.mono HB2d.out.size)); have HXh3 := Lib.hid (HXhd.out.below hb HXhd.out.lt); have HXg3 := Lib.hid (HXgd.out.below hb HXgd.out.lt); have HXa3 := Lib.hid (HXad.out.below hb HXad.out.lt); have HXr3 := Lib.hid (HXrd.out.below hb HXrd.out.lt); have HXs3 := Lib.hid (HXsd.out.below hb HXsd.out.lt); have HXb3 := Lib.hid (HXbd.out.below hb HXbd.out.lt); clear hu hb
  go_wp2_with fail
  refine hK.out _ _ (by first | exact ⟨HXhd.out.cell 0, HXhd.out.cell 1, HXgd.out.cell 0, HXgd.out.cell 1, HXgd.out.cell 2, HXad.out.cell 0, HXad.out.cell 1, HXad.out.cell 2, HXad.out.cell 3, HXad.out.cell 4, HXad.out.cell 5, HXad.out.cell 6, HXad.out.cell 7, HXad.out.cell 8, HXad.out.cell 9, HXad.out.cell 10, HXrd.out.cell 0, HXrd.out.cell 1, HXrd.out.cell 2, HXrd.out.cell 3, HXrd.out.cell 4, HXrd.out.cell 5, HXrd.out.cell 6, HXrd.out.cell 7, HXsd.out.cell 0, HXsd.out.cell 1, HXbd.out.cell 0, HXbd.out.cell 1, HXbd.out.cell 2, HXbd.out.cell 3, HXbd.out.cell 4, HXbd.out.cell 5, HXbd.out.cell 6, HXbd.out.cell 7, HXbd.out.cell 8, HXbd.out.cell 9, HXbd.out.cell 10⟩ | exact ⟨HXh3.out.cell 0, HXh3.out.cell 1, HXg3.out.cell 0, HXg3.out.cell 1, HXg3.out.cell 2, HXa3.out.cell 0, HXa3.out.cell 1, HXa3.out.cell 2, HXa3.out.cell 3, HXa3.out.cell 4, HXa3.out.cell 5, HXa3.out.cell 6, HXa3.out.cell 7, HXa3.out.cell 8, HXa3.out.cell 9, HXa3.out.cell 10, HXr3.out.cell 0, HXr3.out.cell 1, HXr3.out.cell 2, HXr3.out.cell 3, HXr3.out.cell 4, HXr3.out.cell 5, HXr3.out.cell 6, HXr3.out.cell 7, HXs3.out.cell 0, HXs3.out.cell 1, HXb3.out.cell 0, HXb3.out.cell 1, HXb3.out.cell 2, HXb3.out.cell 3, HXb3.out.cell 4, HXb3.out.cell 5, HXb3.out.cell 6, HXb3.out.cell 7, HXb3.out.cell 8, HXb3.out.cell 9, HXb3.out.cell 10⟩ | exact ⟨HXh4.out.cell 0, HXh4.out.cell 1, HXg4.out.cell 0, HXg4.out.cell 1, HXg4.out.cell 2, HXa4.out.cell 0, HXa4.out.cell 1, HXa4.out.cell 2, HXa4.out.cell 3, HXa4.out.cell 4, HXa4.out.cell 5, HXa4.out.cell 6, HXa4.out.cell 7, HXa4.out.cell 8, HXa4.out.cell 9, HXa4.out.cell 10, HXr4.out.cell 0, HXr4.out.cell 1, HXr4.out.cell 2, HXr4.out.cell 3, HXr4.out.cell 4, HXr4.out.cell 5, HXr4.out.cell 6, HXr4.out.cell 7, HXs4.out.cell 0, HXs4.out.cell 1, HXb4.out.cell 0, HXb4.out.cell 1, HXb4.out.cell 2, HXb4.out.cell 3, HXb4.out.cell 4, HXb4.out.cell 5, HXb4.out.cell 6, HXb4.out.cell 7, HXb4.out.cell 8, HXb4.out.cell 9, HXb4.out.cell 10⟩) (fun hHeld => ?_)
  clear hK K
  try simp only [Act.put, List.setIfInBounds_toArray, List.set_cons_zero, List.set_cons_succ]
  refine wpAnyH_ready (rs := [13]) (by kernel_rfl) (by simp) ?_
  refine AllReadyH.cons rfl (fun K hK => ?_) AllReadyH.nil
  go_simp
  refine (show Calls Try.prog 30 #[.int .i64 k2, .agg #[.int .i64 p.hw, .int .i64 p.hl], .agg #[.int .i64 p.gw, .int .i64 p.gl, .int .i64 p.ge], .agg #[.int .i64 b.ai, .int .i64 b.aq, .int .i64 b.ah, .int .i64 b.an, .int .i64 b.ae, .string b.ax, .int .i64 b.ak, .int .i64 b.ab, .bool b.af, .int .i64 b.ad, .string b.aw], .agg #[.int .i64 p.rs, .int .i64 p.rq, .int .i64 p.rh, .int .i64 p.rn, .int .i64 p.rw, .int .i64 p.re, .slice p.ra p.rl.length p.rc, .bool p.rb], .agg #[.int .i64 p.ss, .int .i64 p.sq]] w3 fun e w' => ∃ u, e = .returned u ∧ ((p.mix b).one (lowI k2 5)).At w' u ∧ Below w3.heap.size w3 w' from pick_any (p.mix b) k2 w3 (HP2.out.below HB3.out)).mono ?_; rintro e w4 ⟨u2, rfl, hu, hb⟩; have HV := Lib.hid hu; have HU4 := Lib.hid (HU.out.below hb); have HB4 := Lib.hid (HB3.out.trans (hb.mono HB3.out.size)); have HXh4 := Lib.hid (HXh3.out.below hb HXh3.out.lt); have HXg4 := Lib.hid (HXg3.out.below hb HXg3.out.lt); have HXa4 := Lib.hid (HXa3.out.below hb HXa3.out.lt); have HXr4 := Lib.hid (HXr3.out.below hb HXr3.out.lt); have HXs4 := Lib.hid (HXs3.out.below hb HXs3.out.lt); have HXb4 := Lib.hid (HXb3.out.below hb HXb3.out.lt); clear hu hb
  go_wp2_with fail
  refine hK.out _ _ (by first | exact ⟨HXhd.out.cell 0, HXhd.out.cell 1, HXgd.out.cell 0, HXgd.out.cell 1, HXgd.out.cell 2, HXad.out.cell 0, HXad.out.cell 1, HXad.out.cell 2, HXad.out.cell 3, HXad.out.cell 4, HXad.out.cell 5, HXad.out.cell 6, HXad.out.cell 7, HXad.out.cell 8, HXad.out.cell 9, HXad.out.cell 10, HXrd.out.cell 0, HXrd.out.cell 1, HXrd.out.cell 2, HXrd.out.cell 3, HXrd.out.cell 4, HXrd.out.cell 5, HXrd.out.cell 6, HXrd.out.cell 7, HXsd.out.cell 0, HXsd.out.cell 1, HXbd.out.cell 0, HXbd.out.cell 1, HXbd.out.cell 2, HXbd.out.cell 3, HXbd.out.cell 4, HXbd.out.cell 5, HXbd.out.cell 6, HXbd.out.cell 7, HXbd.out.cell 8, HXbd.out.cell 9, HXbd.out.cell 10⟩ | exact ⟨HXh3.out.cell 0, HXh3.out.cell 1, HXg3.out.cell 0, HXg3.out.cell 1, HXg3.out.cell 2, HXa3.out.cell 0, HXa3.out.cell 1, HXa3.out.cell 2, HXa3.out.cell 3, HXa3.out.cell 4, HXa3.out.cell 5, HXa3.out.cell 6, HXa3.out.cell 7, HXa3.out.cell 8, HXa3.out.cell 9, HXa3.out.cell 10, HXr3.out.cell 0, HXr3.out.cell 1, HXr3.out.cell 2, HXr3.out.cell 3, HXr3.out.cell 4, HXr3.out.cell 5, HXr3.out.cell 6, HXr3.out.cell 7, HXs3.out.cell 0, HXs3.out.cell 1, HXb3.out.cell 0, HXb3.out.cell 1, HXb3.out.cell 2, HXb3.out.cell 3, HXb3.out.cell 4, HXb3.out.cell 5, HXb3.out.cell 6, HXb3.out.cell 7, HXb3.out.cell 8, HXb3.out.cell 9, HXb3.out.cell 10⟩ | exact ⟨HXh4.out.cell 0, HXh4.out.cell 1, HXg4.out.cell 0, HXg4.out.cell 1, HXg4.out.cell 2, HXa4.out.cell 0, HXa4.out.cell 1, HXa4.out.cell 2, HXa4.out.cell 3, HXa4.out.cell 4, HXa4.out.cell 5, HXa4.out.cell 6, HXa4.out.cell 7, HXa4.out.cell 8, HXa4.out.cell 9, HXa4.out.cell 10, HXr4.out.cell 0, HXr4.out.cell 1, HXr4.out.cell 2, HXr4.out.cell 3, HXr4.out.cell 4, HXr4.out.cell 5, HXr4.out.cell 6, HXr4.out.cell 7, HXs4.out.cell 0, HXs4.out.cell 1, HXb4.out.cell 0, HXb4.out.cell 1, HXb4.out.cell 2, HXb4.out.cell 3, HXb4.out.cell 4, HXb4.out.cell 5, HXb4.out.cell 6, HXb4.out.cell 7, HXb4.out.cell 8, HXb4.out.cell 9, HXb4.out.cell 10⟩) (fun hHeld => ?_)
  clear hK K
  try simp only [Act.put, List.setIfInBounds_toArray, List.set_cons_zero, List.set_cons_succ]
  refine takeO 14 (some 17) (v := ?_) rfl rfl (by kernel_rfl) (by kernel_rfl) (by kernel_rfl) (fun _ _ _ h => h) (Or.inl ⟨by rfl, ?_⟩) (by assumption) ?_
  rotate_left 1
  · intro w hSw; (try dsimp only at hSw); go_simp; all_goals with_reducible rfl
  try simp only [Act.put, List.setIfInBounds_toArray, List.set_cons_zero, List.set_cons_succ]
  refine takeO 15 (some 18) (v := ?_) rfl rfl (by kernel_rfl) (by kernel_rfl) (by kernel_rfl) (fun _ _ _ h => h) (Or.inl ⟨by rfl, ?_⟩) (by assumption) ?_
  rotate_left 1
  · intro w hSw; (try dsimp only at hSw); go_simp; all_goals with_reducible rfl
  try simp only [Act.put, List.setIfInBounds_toArray, List.set_cons_zero, List.set_cons_succ]
  refine wpAnyH_done (by kernel_rfl) ?_ _
  clear HXhd HXgd HXad HXrd HXsd HXbd HXh3 HXg3 HXa3 HXr3 HXs3 HXb3 HXh4 HXg4 HXa4 HXr4 HXs4 HXb4 HB2d HB3 HU
  have HT1 := Lib.hid (HT.out (lowI k 5))
  have HTB := Lib.hid (HT2.out (lowI k2 5))
  clear HT HT2
  generalize p.one (lowI k 5) = x at *
  generalize (p.mix b).one (lowI k2 5) = y at *
  cases hm : x.may
  · have HE := Lib.hid (mencode_no x u w4 HU4.out HT1.out.short.small hm)
    clear hm
    go_wp2_with fail
    refine HE.out.mono ?_
    rintro e w5 ⟨rfl, hb⟩
    have HB5 := Lib.hid (HB4.out.trans (hb.mono HB4.out.size))
    have HV5 := Lib.hid (HV.out.below hb)
    clear hb HE
    cases hm : y.may
    · have HE := Lib.hid (mencode_no y u2 w5 HV5.out HTB.out.short.small hm)
      go_wp2_with fail
      refine HE.out.mono ?_
      rintro e w6 ⟨rfl, hb⟩
      have HB6 := Lib.hid (HB5.out.trans (hb.mono HB5.out.size))
      clear hb
      go_wp2_with fail
      refine (HAW.out _).mono ?_
      rintro e w9 ⟨rfl, hb⟩
      have HB9 := Lib.hid (HB6.out.trans (hb.mono HB6.out.size))
      clear hb
      go_wp2_with fail
      go_ret
      exact ⟨rfl, HB9.out⟩
    · have HE := Lib.hid (mencode_yes y u2 w5 HV5.out HTB.out.short hm)
      generalize encL y = fl at *
      go_wp2_with fail
      refine HE.out.mono ?_
      rintro e w6 ⟨a, c, rfl, ho, hb⟩
      have HB6 := Lib.hid (HB5.out.trans (hb.mono HB5.out.size))
      clear ho hb
      go_wp2_with fail
      refine (HAW.out _).mono ?_
      rintro e w9 ⟨rfl, hb⟩
      have HB9 := Lib.hid (HB6.out.trans (hb.mono HB6.out.size))
      clear hb
      go_wp2_with fail
      go_ret
      exact ⟨rfl, HB9.out⟩
  · have HE := Lib.hid (mencode_yes x u w4 HU4.out HT1.out.short hm)
    have HL1 := Lib.hid hm
    obtain ⟨fl, hfl⟩ : ∃ fl, encL x = fl := ⟨_, rfl⟩
    rw [hfl] at HE
    have HFL := Lib.hid hfl
    clear hm hfl
    go_wp2_with fail
    refine HE.out.mono ?_
    rintro e w5 ⟨a, c, rfl, ho, hb⟩
    have HB5 := Lib.hid (HB4.out.trans (hb.mono HB4.out.size))
    have HV5 := Lib.hid (HV.out.below hb)
    have HU5 := Lib.hid (HU4.out.below hb)
    have HO5 := Lib.hid ho
    clear ho hb HE
    cases hm : y.may
    · have HE := Lib.hid (mencode_no y u2 w5 HV5.out HTB.out.short.small hm)
      go_wp2_with fail
      refine HE.out.mono ?_
      rintro e w6 ⟨rfl, hb⟩
      have HB6 := Lib.hid (HB5.out.trans (hb.mono HB5.out.size))
      clear hb
      go_wp2_with fail
      refine (HAW.out _).mono ?_
      rintro e w9 ⟨rfl, hb⟩
      have HB9 := Lib.hid (HB6.out.trans (hb.mono HB6.out.size))
      clear hb
      go_wp2_with fail
      go_ret
      exact ⟨rfl, HB9.out⟩
    · have HE := Lib.hid (mencode_yes y u2 w5 HV5.out HTB.out.short hm)
      have HL2 := Lib.hid hm
      obtain ⟨fr, hfr⟩ : ∃ fr, encL y = fr := ⟨_, rfl⟩
      rw [hfr] at HE
      have HFR := Lib.hid hfr
      clear hm hfr
      go_wp2_with fail
      refine HE.out.mono ?_
      rintro e w6 ⟨a2, c2, rfl, ho, hb⟩
      have HB6 := Lib.hid (HB5.out.trans (hb.mono HB5.out.size))
      have HV6 := Lib.hid (HV5.out.below hb)
      have HU6 := Lib.hid (HU5.out.below hb)
      have HO6 := Lib.hid (ownsRow_below HO5.out hb)
      have HQ6 := Lib.hid ho
      clear ho hb HE HO5 HU5 HV5 HB5
      go_wp2_with fail
      refine (sameB_any a fl.length c a2 fr.length c2 fl fr w6 (ownsRow_rd HO6.out) (ownsRow_rd HQ6.out)).mono ?_
      rintro e w7 ⟨rfl, hd⟩
      have hb := hd.below w6.heap.size
      have HB7 := Lib.hid (HB6.out.trans (hb.mono HB6.out.size))
      have HV7 := Lib.hid (HV6.out.below hb)
      have HU7 := Lib.hid (HU6.out.below hb)
      clear hd hb
      have HEQ := Lib.hid (show eqL fl fr = x.same y from by rw [← HFL.out, ← HFR.out]; exact unlike_plain HL1.out HL2.out HT1.out HTB.out)
      rw [HEQ.out]
      go_wp2_with fail
      refine (msame_any x y u u2 w7 HU7.out HV7.out).mono ?_
      rintro e w8 ⟨rfl, hb⟩
      have HB8 := Lib.hid (HB7.out.trans (hb.mono HB7.out.size))
      clear hb
      generalize x.same y = sm at *
      go_wp2_with fail
      refine (HAW.out _).mono ?_
      rintro e w9 ⟨rfl, hb⟩
      have HB9 := Lib.hid (HB8.out.trans (hb.mono HB8.out.size))
      clear hb
      go_wp2_with fail
      go_ret
      exact ⟨rfl, HB9.out⟩
end Go.Proofs.Ytjhkdbcfkaaffaa
