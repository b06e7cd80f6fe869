/- The five messages of a statement; great, one. -/
import Derived.Test.YtjhkdbcfkaaffaaMm15
namespace Go.Proofs.Ytjhkdbcfkaaffaa
open Go.RowKit
set_option linter.unusedVariables false

structure P5 where
  hw : Int
  hl : Int
  gw : Int
  gl : Int
  ge : Int
  ai : Int
  aq : Int
  ah : Int
  an : Int
  ae : Int
  ax : ByteArray
  ak : Int
  ab : Int
  af : Bool
  ad : Int
  aw : ByteArray
  rs : Int
  rq : Int
  rh : Int
  rn : Int
  rw : Int
  re : Int
  ra : Option Addr
  rc : Nat
  rl : List KeyL
  rb : Bool
  ss : Int
  sq : Int
/-- its texts are no greater than memory, its items lie in the world -/
def P5.ok (p : P5) (w : World) : Prop := RdE KeyL.cells 2 w p.ra p.rl.length p.rc p.rl ∧ (∀ x ∈ p.rl, x.2.size ≤ maxLen) ∧ p.ax.size ≤ maxLen ∧ p.aw.size ≤ maxLen
set_option maxRecDepth 100000 in
theorem P5.ok.below {p : P5} {w w' : World} (h : p.ok w) (hb : Below w.heap.size w w') : p.ok w' := ⟨h.1.below hb rfl, h.2⟩
def P5.great (p : P5) : Bool := decide (100 < p.ax.size) || decide (100 < p.aw.size) || greatI p.rl
/-- which of the five, or something else -/
def P5.one (p : P5) (k : Int) : MV :=
  if lowI k 6 = 0 then (.hello p.hw p.hl) else if lowI k 6 = 1 then (.grant p.gw p.gl p.ge) else if lowI k 6 = 2 then (.ask p.ai p.aq p.ah p.an p.ae p.ax p.ak p.ab p.af p.ad p.aw) else if lowI k 6 = 3 then (.reply p.rs p.rq p.rh p.rn p.rw p.re p.rl p.rb) else if lowI k 6 = 4 then (.stop p.ss p.sq) else .other 3 (.int .i64 k)
set_option maxRecDepth 100000 in
set_option maxHeartbeats 8000000 in
theorem great_any (p : P5) (w : World) (h : p.ok w) :
    Calls Try.prog 10 #[.agg #[.int .i64 p.ai, .int .i64 p.aq, .int .i64 p.ah, .int .i64 p.an, .int .i64 p.ae, .string p.ax, .int .i64 p.ak, .int .i64 p.ab, .bool p.af, .int .i64 p.ad, .string p.aw], .agg #[.int .i64 p.rs, .int .i64 p.rq, .int .i64 p.rh, .int .i64 p.rn, .int .i64 p.rw, .int .i64 p.re, .slice p.ra p.rl.length p.rc, .bool p.rb]] w fun e w' => e = .returned (.bool p.great) ∧ Below w.heap.size w w' := by
  unfold P5.great
  have HG := Lib.hid (fun W (hb : Below w.heap.size w W) => greatI_any p.ra p.rl.length p.rc p.rl W (h.1.below hb rfl) h.2.1)
  have hs1 := h.2.2.1
  have hs2 := h.2.2.2
  unfold maxLen at hs1 hs2
  clear h
  go_enter Try.func10, Try.ntmps10
  by_cases c1 : 100 < p.ax.size
  · have d1 : (100 : Int) < (p.ax.size : Int) := by omega
    go_wp2_with fail
    go_ret
    exact ⟨by simp [c1], (by repeat (first | exact Below.refl _ _ | refine Below.alloc ?_ (by first | (simp; done) | (simp; omega)) _))⟩
  have d1 : ¬ (100 : Int) < (p.ax.size : Int) := by omega
  by_cases c2 : 100 < p.aw.size
  · have d2 : (100 : Int) < (p.aw.size : Int) := by omega
    go_wp2_with fail
    go_ret
    exact ⟨by simp, (by repeat (first | exact Below.refl _ _ | refine Below.alloc ?_ (by first | (simp; done) | (simp; omega)) _))⟩
  have d2 : ¬ (100 : Int) < (p.aw.size : Int) := by omega
  go_wp2_with (go_at_call 32; refine (HG.out _ (by repeat (first | exact Below.refl _ _ | refine Below.alloc ?_ (by first | (simp; done) | (simp; omega)) _))).mono ?_; rintro e w' ⟨rfl, rfl⟩)
  go_ret
  exact ⟨by simp [c1, c2], (by repeat (first | exact Below.refl _ _ | refine Below.alloc ?_ (by first | (simp; done) | (simp; omega)) _))⟩
set_option maxRecDepth 100000 in
set_option maxHeartbeats 8000000 in
theorem oneM_any (p : P5) (k : Int) (w : World) (h : p.ok w) (hk : -9223372036854775808 ≤ k ∧ k ≤ 9223372036854775807) :
    Calls Try.prog 13 #[.int .i64 k, .agg #[.int .i64 p.hw, .int .i64 p.hl], .agg #[.int .i64 p.gw, .int .i64 p.gl, .int .i64 p.ge], .agg #[.int .i64 p.ai, .int .i64 p.aq, .int .i64 p.ah, .int .i64 p.an, .int .i64 p.ae, .string p.ax, .int .i64 p.ak, .int .i64 p.ab, .bool p.af, .int .i64 p.ad, .string p.aw], .agg #[.int .i64 p.rs, .int .i64 p.rq, .int .i64 p.rh, .int .i64 p.rn, .int .i64 p.rw, .int .i64 p.re, .slice p.ra p.rl.length p.rc, .bool p.rb], .agg #[.int .i64 p.ss, .int .i64 p.sq]] w fun e w' => ∃ u, e = .returned u ∧ (p.one k).At w' u ∧ Below w.heap.size w w' := by
  have HL := Lib.hid (fun W => low_any k 6 W (by decide) (by decide))
  have HR := Lib.hid (fun W (hb : Below w.heap.size w W) => h.1.below hb rfl)
  have hlo := lowI_bd k 6 (by decide)
  unfold P5.one
  clear h
  obtain ⟨q, hq⟩ : ∃ q, lowI k 6 = q := ⟨_, rfl⟩
  rw [hq] at hlo HL ⊢
  clear hq
  have hc : q = 0 ∨ q = 1 ∨ q = 2 ∨ q = 3 ∨ q = 4 ∨ q = 5 := by omega
  rcases hc with rfl | rfl | rfl | rfl | rfl | rfl
  · show Calls Try.prog 13 _ w fun e w' => ∃ u, e = .returned u ∧ MV.At w' u (.hello p.hw p.hl) ∧ Below w.heap.size w w'
    go_enter Try.func13, Try.ntmps13
    go_wp2_with (go_at_call 33; refine (HL.out _).mono ?_; rintro e w' ⟨rfl, rfl⟩)
    go_ret
    exact ⟨_, rfl, rfl, (by repeat (first | exact Below.refl _ _ | refine Below.alloc ?_ (by first | (simp; done) | (simp; omega)) _))⟩
  · show Calls Try.prog 13 _ w fun e w' => ∃ u, e = .returned u ∧ MV.At w' u (.grant p.gw p.gl p.ge) ∧ Below w.heap.size w w'
    go_enter Try.func13, Try.ntmps13
    go_wp2_with (go_at_call 33; refine (HL.out _).mono ?_; rintro e w' ⟨rfl, rfl⟩)
    go_ret
    exact ⟨_, rfl, rfl, (by repeat (first | exact Below.refl _ _ | refine Below.alloc ?_ (by first | (simp; done) | (simp; omega)) _))⟩
  · show Calls Try.prog 13 _ w fun e w' => ∃ u, e = .returned u ∧ MV.At w' u (.ask p.ai p.aq p.ah p.an p.ae p.ax p.ak p.ab p.af p.ad p.aw) ∧ Below w.heap.size w w'
    go_enter Try.func13, Try.ntmps13
    go_wp2_with (go_at_call 33; refine (HL.out _).mono ?_; rintro e w' ⟨rfl, rfl⟩)
    go_ret
    exact ⟨_, rfl, rfl, (by repeat (first | exact Below.refl _ _ | refine Below.alloc ?_ (by first | (simp; done) | (simp; omega)) _))⟩
  · show Calls Try.prog 13 _ w fun e w' => ∃ u, e = .returned u ∧ MV.At w' u (.reply p.rs p.rq p.rh p.rn p.rw p.re p.rl p.rb) ∧ Below w.heap.size w w'
    go_enter Try.func13, Try.ntmps13
    go_wp2_with (go_at_call 33; refine (HL.out _).mono ?_; rintro e w' ⟨rfl, rfl⟩)
    go_ret
    exact ⟨_, rfl, ⟨p.ra, p.rc, rfl, HR.out _ (by repeat (first | exact Below.refl _ _ | refine Below.alloc ?_ (by first | (simp; done) | (simp; omega)) _))⟩, (by repeat (first | exact Below.refl _ _ | refine Below.alloc ?_ (by first | (simp; done) | (simp; omega)) _))⟩
  · show Calls Try.prog 13 _ w fun e w' => ∃ u, e = .returned u ∧ MV.At w' u (.stop p.ss p.sq) ∧ Below w.heap.size w w'
    go_enter Try.func13, Try.ntmps13
    go_wp2_with (go_at_call 33; refine (HL.out _).mono ?_; rintro e w' ⟨rfl, rfl⟩)
    go_ret
    exact ⟨_, rfl, rfl, (by repeat (first | exact Below.refl _ _ | refine Below.alloc ?_ (by first | (simp; done) | (simp; omega)) _))⟩
  · show Calls Try.prog 13 _ w fun e w' => ∃ u, e = .returned u ∧ MV.At w' u (.other 3 (.int .i64 k)) ∧ Below w.heap.size w w'
    go_enter Try.func13, Try.ntmps13
    go_wp2_with (go_at_call 33; refine (HL.out _).mono ?_; rintro e w' ⟨rfl, rfl⟩)
    go_ret
    exact ⟨_, rfl, ⟨rfl, by decide, by decide, by decide, by decide, by decide⟩, (by repeat (first | exact Below.refl _ _ | refine Below.alloc ?_ (by first | (simp; done) | (simp; omega)) _))⟩
end Go.Proofs.Ytjhkdbcfkaaffaa
