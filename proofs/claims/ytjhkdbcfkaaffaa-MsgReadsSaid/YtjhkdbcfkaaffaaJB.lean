/- l.Of. -/
import Derived.Test.YtjhkdbcfkaaffaaJA
import Derived.Test.YtjhkdbcfkaaffaaMm13
namespace Go.Proofs.Ytjhkdbcfkaaffaa
open Go.RowKit
set_option linter.unusedVariables false

set_option maxRecDepth 100000 in
theorem rdE_nil0 (w : World) : RdE KeyL.cells 2 w none ([] : List KeyL).length 0 [] := ⟨rfl, Nat.le_refl _, Nat.zero_le _, fun _ => rfl, fun i x h => by simp at h⟩
def OfE (m : MV) (w : World) (e : Ending) (w' : World) : Prop := ∃ (p : P5) (k : Int), e = .returned (p.msg k) ∧ k = m.kind ∧ (m.isMsg = true → p.kd k = m) ∧ (m.isMsg = false → p.kd k = .nil) ∧ p.fit w' ∧ Below w.heap.size w w'
set_option maxRecDepth 100000 in
set_option maxHeartbeats 8000000 in
theorem of_hello (w0 l0 : Int) (w : World) : Calls Try.prog 16 #[.iface 23 (.agg #[.int .i64 w0, .int .i64 l0])] w fun e w' => OfE (.hello w0 l0) w e w' := by
  have HG := Lib.hid (Blk.alloc (show Blk (w.alloc (.cells #[.int .i64 0, .int .i64 0, .int .i64 0, .int .i64 0, .int .i64 0, .int .i64 0, .int .i64 0, .int .i64 0, .int .i64 0, .int .i64 0, .int .i64 0, .string ⟨#[]⟩, .int .i64 0, .int .i64 0, .bool false, .int .i64 0, .string ⟨#[]⟩, .int .i64 0, .int .i64 0, .int .i64 0, .int .i64 0, .int .i64 0, .int .i64 0, .slice none 0 0, .bool false, .int .i64 0, .int .i64 0] 46)) w.heap.size 46 [.int .i64 0, .int .i64 0, .int .i64 0, .int .i64 0, .int .i64 0, .int .i64 0, .int .i64 0, .int .i64 0, .int .i64 0, .int .i64 0, .int .i64 0, .string ⟨#[]⟩, .int .i64 0, .int .i64 0, .bool false, .int .i64 0, .string ⟨#[]⟩, .int .i64 0, .int .i64 0, .int .i64 0, .int .i64 0, .int .i64 0, .int .i64 0, .slice none 0 0, .bool false, .int .i64 0, .int .i64 0] from heap_alloc_new w _) (.cells #[.int .i64 w0, .int .i64 l0] 23))
  have HB := Lib.hid (show Below w.heap.size w ((w.alloc (.cells #[.int .i64 0, .int .i64 0, .int .i64 0, .int .i64 0, .int .i64 0, .int .i64 0, .int .i64 0, .int .i64 0, .int .i64 0, .int .i64 0, .int .i64 0, .string ⟨#[]⟩, .int .i64 0, .int .i64 0, .bool false, .int .i64 0, .string ⟨#[]⟩, .int .i64 0, .int .i64 0, .int .i64 0, .int .i64 0, .int .i64 0, .int .i64 0, .slice none 0 0, .bool false, .int .i64 0, .int .i64 0] 46)).alloc (.cells #[.int .i64 w0, .int .i64 l0] 23)) from (by repeat (first | exact Below.refl _ _ | refine Below.alloc ?_ (by first | (simp; done) | (simp; omega)) _)))
  go_enter Try.func16, Try.ntmps16
  go_wp2_with (first | rw [ta_hello_hello] | rw [ta_grant_hello] | rw [ta_ask_hello] | rw [ta_reply_hello] | rw [ta_stop_hello] | (refine wpList_store_row rfl 46 _ _ rfl w.heap.size #[.int .i64 1, .int .i64 w0, .int .i64 l0, .int .i64 0, .int .i64 0, .int .i64 0, .int .i64 0, .int .i64 0, .int .i64 0, .int .i64 0, .int .i64 0, .string ⟨#[]⟩, .int .i64 0, .int .i64 0, .bool false, .int .i64 0, .string ⟨#[]⟩, .int .i64 0, .int .i64 0, .int .i64 0, .int .i64 0, .int .i64 0, .int .i64 0, .slice none 0 0, .bool false, .int .i64 0, .int .i64 0] rfl rfl _ #[.int .i64 0, .int .i64 0, .int .i64 0, .int .i64 0, .int .i64 0, .int .i64 0, .int .i64 0, .int .i64 0, .int .i64 0, .int .i64 0, .int .i64 0, .string ⟨#[]⟩, .int .i64 0, .int .i64 0, .bool false, .int .i64 0, .string ⟨#[]⟩, .int .i64 0, .int .i64 0, .int .i64 0, .int .i64 0, .int .i64 0, .int .i64 0, .slice none 0 0, .bool false, .int .i64 0, .int .i64 0] HG.out isz_msg rfl (by simp [Value.oneCell']) ?_))
  have hS := setRow_heap ((w.alloc (.cells #[.int .i64 0, .int .i64 0, .int .i64 0, .int .i64 0, .int .i64 0, .int .i64 0, .int .i64 0, .int .i64 0, .int .i64 0, .int .i64 0, .int .i64 0, .string ⟨#[]⟩, .int .i64 0, .int .i64 0, .bool false, .int .i64 0, .string ⟨#[]⟩, .int .i64 0, .int .i64 0, .int .i64 0, .int .i64 0, .int .i64 0, .int .i64 0, .slice none 0 0, .bool false, .int .i64 0, .int .i64 0] 46)).alloc (.cells #[.int .i64 w0, .int .i64 l0] 23)) w.heap.size #[.int .i64 0, .int .i64 0, .int .i64 0, .int .i64 0, .int .i64 0, .int .i64 0, .int .i64 0, .int .i64 0, .int .i64 0, .int .i64 0, .int .i64 0, .string ⟨#[]⟩, .int .i64 0, .int .i64 0, .bool false, .int .i64 0, .string ⟨#[]⟩, .int .i64 0, .int .i64 0, .int .i64 0, .int .i64 0, .int .i64 0, .int .i64 0, .slice none 0 0, .bool false, .int .i64 0, .int .i64 0] #[.int .i64 1, .int .i64 w0, .int .i64 l0, .int .i64 0, .int .i64 0, .int .i64 0, .int .i64 0, .int .i64 0, .int .i64 0, .int .i64 0, .int .i64 0, .string ⟨#[]⟩, .int .i64 0, .int .i64 0, .bool false, .int .i64 0, .string ⟨#[]⟩, .int .i64 0, .int .i64 0, .int .i64 0, .int .i64 0, .int .i64 0, .int .i64 0, .slice none 0 0, .bool false, .int .i64 0, .int .i64 0] 46 (0, 0) HG.out
  have hBs := below_setRow HB.out (Nat.le_refl w.heap.size) #[.int .i64 1, .int .i64 w0, .int .i64 l0, .int .i64 0, .int .i64 0, .int .i64 0, .int .i64 0, .int .i64 0, .int .i64 0, .int .i64 0, .int .i64 0, .string ⟨#[]⟩, .int .i64 0, .int .i64 0, .bool false, .int .i64 0, .string ⟨#[]⟩, .int .i64 0, .int .i64 0, .int .i64 0, .int .i64 0, .int .i64 0, .int .i64 0, .slice none 0 0, .bool false, .int .i64 0, .int .i64 0]
  refine bodyPost_ret (results_cell_row rfl _ _ w.heap.size 46 #[.int .i64 1, .int .i64 w0, .int .i64 l0, .int .i64 0, .int .i64 0, .int .i64 0, .int .i64 0, .int .i64 0, .int .i64 0, .int .i64 0, .int .i64 0, .string ⟨#[]⟩, .int .i64 0, .int .i64 0, .bool false, .int .i64 0, .string ⟨#[]⟩, .int .i64 0, .int .i64 0, .int .i64 0, .int .i64 0, .int .i64 0, .int .i64 0, .slice none 0 0, .bool false, .int .i64 0, .int .i64 0] (0, 0) _ rfl hS Try.underlying46 rfl isz_msg) rfl ?_
  exact ⟨(⟨w0, l0, 0, 0, 0, 0, 0, 0, 0, 0, ⟨#[]⟩, 0, 0, false, 0, ⟨#[]⟩, 0, 0, 0, 0, 0, 0, none, 0, [], false, 0, 0⟩ : P5), 1, rfl, rfl, fun _ => rfl, fun h => (by cases h), ⟨rdE_nil0 _, by simp, Nat.zero_le 2000, Nat.zero_le 2000⟩, hBs⟩
set_option maxRecDepth 100000 in
set_option maxHeartbeats 8000000 in
theorem of_grant (w0 l0 e0 : Int) (w : World) : Calls Try.prog 16 #[.iface 25 (.agg #[.int .i64 w0, .int .i64 l0, .int .i64 e0])] w fun e w' => OfE (.grant w0 l0 e0) w e w' := by
  have HG := Lib.hid (Blk.alloc (show Blk (w.alloc (.cells #[.int .i64 0, .int .i64 0, .int .i64 0, .int .i64 0, .int .i64 0, .int .i64 0, .int .i64 0, .int .i64 0, .int .i64 0, .int .i64 0, .int .i64 0, .string ⟨#[]⟩, .int .i64 0, .int .i64 0, .bool false, .int .i64 0, .string ⟨#[]⟩, .int .i64 0, .int .i64 0, .int .i64 0, .int .i64 0, .int .i64 0, .int .i64 0, .slice none 0 0, .bool false, .int .i64 0, .int .i64 0] 46)) w.heap.size 46 [.int .i64 0, .int .i64 0, .int .i64 0, .int .i64 0, .int .i64 0, .int .i64 0, .int .i64 0, .int .i64 0, .int .i64 0, .int .i64 0, .int .i64 0, .string ⟨#[]⟩, .int .i64 0, .int .i64 0, .bool false, .int .i64 0, .string ⟨#[]⟩, .int .i64 0, .int .i64 0, .int .i64 0, .int .i64 0, .int .i64 0, .int .i64 0, .slice none 0 0, .bool false, .int .i64 0, .int .i64 0] from heap_alloc_new w _) (.cells #[.int .i64 w0, .int .i64 l0, .int .i64 e0] 25))
  have HB := Lib.hid (show Below w.heap.size w ((w.alloc (.cells #[.int .i64 0, .int .i64 0, .int .i64 0, .int .i64 0, .int .i64 0, .int .i64 0, .int .i64 0, .int .i64 0, .int .i64 0, .int .i64 0, .int .i64 0, .string ⟨#[]⟩, .int .i64 0, .int .i64 0, .bool false, .int .i64 0, .string ⟨#[]⟩, .int .i64 0, .int .i64 0, .int .i64 0, .int .i64 0, .int .i64 0, .int .i64 0, .slice none 0 0, .bool false, .int .i64 0, .int .i64 0] 46)).alloc (.cells #[.int .i64 w0, .int .i64 l0, .int .i64 e0] 25)) from (by repeat (first | exact Below.refl _ _ | refine Below.alloc ?_ (by first | (simp; done) | (simp; omega)) _)))
  go_enter Try.func16, Try.ntmps16
  go_wp2_with (first | rw [ta_hello_grant] | rw [ta_grant_grant] | rw [ta_ask_grant] | rw [ta_reply_grant] | rw [ta_stop_grant] | (refine wpList_store_row rfl 46 _ _ rfl w.heap.size #[.int .i64 2, .int .i64 0, .int .i64 0, .int .i64 w0, .int .i64 l0, .int .i64 e0, .int .i64 0, .int .i64 0, .int .i64 0, .int .i64 0, .int .i64 0, .string ⟨#[]⟩, .int .i64 0, .int .i64 0, .bool false, .int .i64 0, .string ⟨#[]⟩, .int .i64 0, .int .i64 0, .int .i64 0, .int .i64 0, .int .i64 0, .int .i64 0, .slice none 0 0, .bool false, .int .i64 0, .int .i64 0] rfl rfl _ #[.int .i64 0, .int .i64 0, .int .i64 0, .int .i64 0, .int .i64 0, .int .i64 0, .int .i64 0, .int .i64 0, .int .i64 0, .int .i64 0, .int .i64 0, .string ⟨#[]⟩, .int .i64 0, .int .i64 0, .bool false, .int .i64 0, .string ⟨#[]⟩, .int .i64 0, .int .i64 0, .int .i64 0, .int .i64 0, .int .i64 0, .int .i64 0, .slice none 0 0, .bool false, .int .i64 0, .int .i64 0] HG.out isz_msg rfl (by simp [Value.oneCell']) ?_))
  have hS := setRow_heap ((w.alloc (.cells #[.int .i64 0, .int .i64 0, .int .i64 0, .int .i64 0, .int .i64 0, .int .i64 0, .int .i64 0, .int .i64 0, .int .i64 0, .int .i64 0, .int .i64 0, .string ⟨#[]⟩, .int .i64 0, .int .i64 0, .bool false, .int .i64 0, .string ⟨#[]⟩, .int .i64 0, .int .i64 0, .int .i64 0, .int .i64 0, .int .i64 0, .int .i64 0, .slice none 0 0, .bool false, .int .i64 0, .int .i64 0] 46)).alloc (.cells #[.int .i64 w0, .int .i64 l0, .int .i64 e0] 25)) w.heap.size #[.int .i64 0, .int .i64 0, .int .i64 0, .int .i64 0, .int .i64 0, .int .i64 0, .int .i64 0, .int .i64 0, .int .i64 0, .int .i64 0, .int .i64 0, .string ⟨#[]⟩, .int .i64 0, .int .i64 0, .bool false, .int .i64 0, .string ⟨#[]⟩, .int .i64 0, .int .i64 0, .int .i64 0, .int .i64 0, .int .i64 0, .int .i64 0, .slice none 0 0, .bool false, .int .i64 0, .int .i64 0] #[.int .i64 2, .int .i64 0, .int .i64 0, .int .i64 w0, .int .i64 l0, .int .i64 e0, .int .i64 0, .int .i64 0, .int .i64 0, .int .i64 0, .int .i64 0, .string ⟨#[]⟩, .int .i64 0, .int .i64 0, .bool false, .int .i64 0, .string ⟨#[]⟩, .int .i64 0, .int .i64 0, .int .i64 0, .int .i64 0, .int .i64 0, .int .i64 0, .slice none 0 0, .bool false, .int .i64 0, .int .i64 0] 46 (0, 0) HG.out
  have hBs := below_setRow HB.out (Nat.le_refl w.heap.size) #[.int .i64 2, .int .i64 0, .int .i64 0, .int .i64 w0, .int .i64 l0, .int .i64 e0, .int .i64 0, .int .i64 0, .int .i64 0, .int .i64 0, .int .i64 0, .string ⟨#[]⟩, .int .i64 0, .int .i64 0, .bool false, .int .i64 0, .string ⟨#[]⟩, .int .i64 0, .int .i64 0, .int .i64 0, .int .i64 0, .int .i64 0, .int .i64 0, .slice none 0 0, .bool false, .int .i64 0, .int .i64 0]
  refine bodyPost_ret (results_cell_row rfl _ _ w.heap.size 46 #[.int .i64 2, .int .i64 0, .int .i64 0, .int .i64 w0, .int .i64 l0, .int .i64 e0, .int .i64 0, .int .i64 0, .int .i64 0, .int .i64 0, .int .i64 0, .string ⟨#[]⟩, .int .i64 0, .int .i64 0, .bool false, .int .i64 0, .string ⟨#[]⟩, .int .i64 0, .int .i64 0, .int .i64 0, .int .i64 0, .int .i64 0, .int .i64 0, .slice none 0 0, .bool false, .int .i64 0, .int .i64 0] (0, 0) _ rfl hS Try.underlying46 rfl isz_msg) rfl ?_
  exact ⟨(⟨0, 0, w0, l0, e0, 0, 0, 0, 0, 0, ⟨#[]⟩, 0, 0, false, 0, ⟨#[]⟩, 0, 0, 0, 0, 0, 0, none, 0, [], false, 0, 0⟩ : P5), 2, rfl, rfl, fun _ => rfl, fun h => (by cases h), ⟨rdE_nil0 _, by simp, Nat.zero_le 2000, Nat.zero_le 2000⟩, hBs⟩
set_option maxRecDepth 100000 in
set_option maxHeartbeats 8000000 in
theorem of_ask (s q hh sq ep : Int) (tx : ByteArray) (k b : Int) (f : Bool) (d : Int) (wd : ByteArray) (w : World) (h1 : tx.size ≤ 2000) (h2 : wd.size ≤ 2000) : Calls Try.prog 16 #[.iface 29 (.agg #[.int .i64 s, .int .i64 q, .int .i64 hh, .int .i64 sq, .int .i64 ep, .string tx, .int .i64 k, .int .i64 b, .bool f, .int .i64 d, .string wd])] w fun e w' => OfE (.ask s q hh sq ep tx k b f d wd) w e w' := by
  have HG := Lib.hid (Blk.alloc (show Blk (w.alloc (.cells #[.int .i64 0, .int .i64 0, .int .i64 0, .int .i64 0, .int .i64 0, .int .i64 0, .int .i64 0, .int .i64 0, .int .i64 0, .int .i64 0, .int .i64 0, .string ⟨#[]⟩, .int .i64 0, .int .i64 0, .bool false, .int .i64 0, .string ⟨#[]⟩, .int .i64 0, .int .i64 0, .int .i64 0, .int .i64 0, .int .i64 0, .int .i64 0, .slice none 0 0, .bool false, .int .i64 0, .int .i64 0] 46)) w.heap.size 46 [.int .i64 0, .int .i64 0, .int .i64 0, .int .i64 0, .int .i64 0, .int .i64 0, .int .i64 0, .int .i64 0, .int .i64 0, .int .i64 0, .int .i64 0, .string ⟨#[]⟩, .int .i64 0, .int .i64 0, .bool false, .int .i64 0, .string ⟨#[]⟩, .int .i64 0, .int .i64 0, .int .i64 0, .int .i64 0, .int .i64 0, .int .i64 0, .slice none 0 0, .bool false, .int .i64 0, .int .i64 0] from heap_alloc_new w _) (.cells #[.int .i64 s, .int .i64 q, .int .i64 hh, .int .i64 sq, .int .i64 ep, .string tx, .int .i64 k, .int .i64 b, .bool f, .int .i64 d, .string wd] 29))
  have HB := Lib.hid (show Below w.heap.size w ((w.alloc (.cells #[.int .i64 0, .int .i64 0, .int .i64 0, .int .i64 0, .int .i64 0, .int .i64 0, .int .i64 0, .int .i64 0, .int .i64 0, .int .i64 0, .int .i64 0, .string ⟨#[]⟩, .int .i64 0, .int .i64 0, .bool false, .int .i64 0, .string ⟨#[]⟩, .int .i64 0, .int .i64 0, .int .i64 0, .int .i64 0, .int .i64 0, .int .i64 0, .slice none 0 0, .bool false, .int .i64 0, .int .i64 0] 46)).alloc (.cells #[.int .i64 s, .int .i64 q, .int .i64 hh, .int .i64 sq, .int .i64 ep, .string tx, .int .i64 k, .int .i64 b, .bool f, .int .i64 d, .string wd] 29)) from (by repeat (first | exact Below.refl _ _ | refine Below.alloc ?_ (by first | (simp; done) | (simp; omega)) _)))
  go_enter Try.func16, Try.ntmps16
  go_wp2_with (first | rw [ta_hello_ask] | rw [ta_grant_ask] | rw [ta_ask_ask] | rw [ta_reply_ask] | rw [ta_stop_ask] | (refine wpList_store_row rfl 46 _ _ rfl w.heap.size #[.int .i64 3, .int .i64 0, .int .i64 0, .int .i64 0, .int .i64 0, .int .i64 0, .int .i64 s, .int .i64 q, .int .i64 hh, .int .i64 sq, .int .i64 ep, .string tx, .int .i64 k, .int .i64 b, .bool f, .int .i64 d, .string wd, .int .i64 0, .int .i64 0, .int .i64 0, .int .i64 0, .int .i64 0, .int .i64 0, .slice none 0 0, .bool false, .int .i64 0, .int .i64 0] rfl rfl _ #[.int .i64 0, .int .i64 0, .int .i64 0, .int .i64 0, .int .i64 0, .int .i64 0, .int .i64 0, .int .i64 0, .int .i64 0, .int .i64 0, .int .i64 0, .string ⟨#[]⟩, .int .i64 0, .int .i64 0, .bool false, .int .i64 0, .string ⟨#[]⟩, .int .i64 0, .int .i64 0, .int .i64 0, .int .i64 0, .int .i64 0, .int .i64 0, .slice none 0 0, .bool false, .int .i64 0, .int .i64 0] HG.out isz_msg rfl (by simp [Value.oneCell']) ?_))
  have hS := setRow_heap ((w.alloc (.cells #[.int .i64 0, .int .i64 0, .int .i64 0, .int .i64 0, .int .i64 0, .int .i64 0, .int .i64 0, .int .i64 0, .int .i64 0, .int .i64 0, .int .i64 0, .string ⟨#[]⟩, .int .i64 0, .int .i64 0, .bool false, .int .i64 0, .string ⟨#[]⟩, .int .i64 0, .int .i64 0, .int .i64 0, .int .i64 0, .int .i64 0, .int .i64 0, .slice none 0 0, .bool false, .int .i64 0, .int .i64 0] 46)).alloc (.cells #[.int .i64 s, .int .i64 q, .int .i64 hh, .int .i64 sq, .int .i64 ep, .string tx, .int .i64 k, .int .i64 b, .bool f, .int .i64 d, .string wd] 29)) w.heap.size #[.int .i64 0, .int .i64 0, .int .i64 0, .int .i64 0, .int .i64 0, .int .i64 0, .int .i64 0, .int .i64 0, .int .i64 0, .int .i64 0, .int .i64 0, .string ⟨#[]⟩, .int .i64 0, .int .i64 0, .bool false, .int .i64 0, .string ⟨#[]⟩, .int .i64 0, .int .i64 0, .int .i64 0, .int .i64 0, .int .i64 0, .int .i64 0, .slice none 0 0, .bool false, .int .i64 0, .int .i64 0] #[.int .i64 3, .int .i64 0, .int .i64 0, .int .i64 0, .int .i64 0, .int .i64 0, .int .i64 s, .int .i64 q, .int .i64 hh, .int .i64 sq, .int .i64 ep, .string tx, .int .i64 k, .int .i64 b, .bool f, .int .i64 d, .string wd, .int .i64 0, .int .i64 0, .int .i64 0, .int .i64 0, .int .i64 0, .int .i64 0, .slice none 0 0, .bool false, .int .i64 0, .int .i64 0] 46 (0, 0) HG.out
  have hBs := below_setRow HB.out (Nat.le_refl w.heap.size) #[.int .i64 3, .int .i64 0, .int .i64 0, .int .i64 0, .int .i64 0, .int .i64 0, .int .i64 s, .int .i64 q, .int .i64 hh, .int .i64 sq, .int .i64 ep, .string tx, .int .i64 k, .int .i64 b, .bool f, .int .i64 d, .string wd, .int .i64 0, .int .i64 0, .int .i64 0, .int .i64 0, .int .i64 0, .int .i64 0, .slice none 0 0, .bool false, .int .i64 0, .int .i64 0]
  refine bodyPost_ret (results_cell_row rfl _ _ w.heap.size 46 #[.int .i64 3, .int .i64 0, .int .i64 0, .int .i64 0, .int .i64 0, .int .i64 0, .int .i64 s, .int .i64 q, .int .i64 hh, .int .i64 sq, .int .i64 ep, .string tx, .int .i64 k, .int .i64 b, .bool f, .int .i64 d, .string wd, .int .i64 0, .int .i64 0, .int .i64 0, .int .i64 0, .int .i64 0, .int .i64 0, .slice none 0 0, .bool false, .int .i64 0, .int .i64 0] (0, 0) _ rfl hS Try.underlying46 rfl isz_msg) rfl ?_
  exact ⟨(⟨0, 0, 0, 0, 0, s, q, hh, sq, ep, tx, k, b, f, d, wd, 0, 0, 0, 0, 0, 0, none, 0, [], false, 0, 0⟩ : P5), 3, rfl, rfl, fun _ => rfl, fun h => (by cases h), ⟨rdE_nil0 _, by simp, h1, h2⟩, hBs⟩
set_option maxRecDepth 100000 in
set_option maxHeartbeats 8000000 in
theorem of_reply (s q hh sq wk ep : Int) (l : List KeyL) (en : Bool) (a : Option Addr) (c : Nat) (w : World) (hr : RdE KeyL.cells 2 w a l.length c l) (h1 : ∀ x ∈ l, x.2.size ≤ 2000) : Calls Try.prog 16 #[.iface 32 (.agg #[.int .i64 s, .int .i64 q, .int .i64 hh, .int .i64 sq, .int .i64 wk, .int .i64 ep, .slice a l.length c, .bool en])] w fun e w' => OfE (.reply s q hh sq wk ep l en) w e w' := by
  have HRI := Lib.hid (fun W (hb : Below w.heap.size w W) => hr.below hb rfl)
  clear hr
  have HG := Lib.hid (Blk.alloc (show Blk (w.alloc (.cells #[.int .i64 0, .int .i64 0, .int .i64 0, .int .i64 0, .int .i64 0, .int .i64 0, .int .i64 0, .int .i64 0, .int .i64 0, .int .i64 0, .int .i64 0, .string ⟨#[]⟩, .int .i64 0, .int .i64 0, .bool false, .int .i64 0, .string ⟨#[]⟩, .int .i64 0, .int .i64 0, .int .i64 0, .int .i64 0, .int .i64 0, .int .i64 0, .slice none 0 0, .bool false, .int .i64 0, .int .i64 0] 46)) w.heap.size 46 [.int .i64 0, .int .i64 0, .int .i64 0, .int .i64 0, .int .i64 0, .int .i64 0, .int .i64 0, .int .i64 0, .int .i64 0, .int .i64 0, .int .i64 0, .string ⟨#[]⟩, .int .i64 0, .int .i64 0, .bool false, .int .i64 0, .string ⟨#[]⟩, .int .i64 0, .int .i64 0, .int .i64 0, .int .i64 0, .int .i64 0, .int .i64 0, .slice none 0 0, .bool false, .int .i64 0, .int .i64 0] from heap_alloc_new w _) (.cells #[.int .i64 s, .int .i64 q, .int .i64 hh, .int .i64 sq, .int .i64 wk, .int .i64 ep, .slice a l.length c, .bool en] 32))
  have HB := Lib.hid (show Below w.heap.size w ((w.alloc (.cells #[.int .i64 0, .int .i64 0, .int .i64 0, .int .i64 0, .int .i64 0, .int .i64 0, .int .i64 0, .int .i64 0, .int .i64 0, .int .i64 0, .int .i64 0, .string ⟨#[]⟩, .int .i64 0, .int .i64 0, .bool false, .int .i64 0, .string ⟨#[]⟩, .int .i64 0, .int .i64 0, .int .i64 0, .int .i64 0, .int .i64 0, .int .i64 0, .slice none 0 0, .bool false, .int .i64 0, .int .i64 0] 46)).alloc (.cells #[.int .i64 s, .int .i64 q, .int .i64 hh, .int .i64 sq, .int .i64 wk, .int .i64 ep, .slice a l.length c, .bool en] 32)) from (by repeat (first | exact Below.refl _ _ | refine Below.alloc ?_ (by first | (simp; done) | (simp; omega)) _)))
  go_enter Try.func16, Try.ntmps16
  go_wp2_with (first | rw [ta_hello_reply] | rw [ta_grant_reply] | rw [ta_ask_reply] | rw [ta_reply_reply] | rw [ta_stop_reply] | (refine wpList_store_row rfl 46 _ _ rfl w.heap.size #[.int .i64 4, .int .i64 0, .int .i64 0, .int .i64 0, .int .i64 0, .int .i64 0, .int .i64 0, .int .i64 0, .int .i64 0, .int .i64 0, .int .i64 0, .string ⟨#[]⟩, .int .i64 0, .int .i64 0, .bool false, .int .i64 0, .string ⟨#[]⟩, .int .i64 s, .int .i64 q, .int .i64 hh, .int .i64 sq, .int .i64 wk, .int .i64 ep, .slice a l.length c, .bool en, .int .i64 0, .int .i64 0] rfl rfl _ #[.int .i64 0, .int .i64 0, .int .i64 0, .int .i64 0, .int .i64 0, .int .i64 0, .int .i64 0, .int .i64 0, .int .i64 0, .int .i64 0, .int .i64 0, .string ⟨#[]⟩, .int .i64 0, .int .i64 0, .bool false, .int .i64 0, .string ⟨#[]⟩, .int .i64 0, .int .i64 0, .int .i64 0, .int .i64 0, .int .i64 0, .int .i64 0, .slice none 0 0, .bool false, .int .i64 0, .int .i64 0] HG.out isz_msg rfl (by simp [Value.oneCell']) ?_))
  have hS := setRow_heap ((w.alloc (.cells #[.int .i64 0, .int .i64 0, .int .i64 0, .int .i64 0, .int .i64 0, .int .i64 0, .int .i64 0, .int .i64 0, .int .i64 0, .int .i64 0, .int .i64 0, .string ⟨#[]⟩, .int .i64 0, .int .i64 0, .bool false, .int .i64 0, .string ⟨#[]⟩, .int .i64 0, .int .i64 0, .int .i64 0, .int .i64 0, .int .i64 0, .int .i64 0, .slice none 0 0, .bool false, .int .i64 0, .int .i64 0] 46)).alloc (.cells #[.int .i64 s, .int .i64 q, .int .i64 hh, .int .i64 sq, .int .i64 wk, .int .i64 ep, .slice a l.length c, .bool en] 32)) w.heap.size #[.int .i64 0, .int .i64 0, .int .i64 0, .int .i64 0, .int .i64 0, .int .i64 0, .int .i64 0, .int .i64 0, .int .i64 0, .int .i64 0, .int .i64 0, .string ⟨#[]⟩, .int .i64 0, .int .i64 0, .bool false, .int .i64 0, .string ⟨#[]⟩, .int .i64 0, .int .i64 0, .int .i64 0, .int .i64 0, .int .i64 0, .int .i64 0, .slice none 0 0, .bool false, .int .i64 0, .int .i64 0] #[.int .i64 4, .int .i64 0, .int .i64 0, .int .i64 0, .int .i64 0, .int .i64 0, .int .i64 0, .int .i64 0, .int .i64 0, .int .i64 0, .int .i64 0, .string ⟨#[]⟩, .int .i64 0, .int .i64 0, .bool false, .int .i64 0, .string ⟨#[]⟩, .int .i64 s, .int .i64 q, .int .i64 hh, .int .i64 sq, .int .i64 wk, .int .i64 ep, .slice a l.length c, .bool en, .int .i64 0, .int .i64 0] 46 (0, 0) HG.out
  have hBs := below_setRow HB.out (Nat.le_refl w.heap.size) #[.int .i64 4, .int .i64 0, .int .i64 0, .int .i64 0, .int .i64 0, .int .i64 0, .int .i64 0, .int .i64 0, .int .i64 0, .int .i64 0, .int .i64 0, .string ⟨#[]⟩, .int .i64 0, .int .i64 0, .bool false, .int .i64 0, .string ⟨#[]⟩, .int .i64 s, .int .i64 q, .int .i64 hh, .int .i64 sq, .int .i64 wk, .int .i64 ep, .slice a l.length c, .bool en, .int .i64 0, .int .i64 0]
  refine bodyPost_ret (results_cell_row rfl _ _ w.heap.size 46 #[.int .i64 4, .int .i64 0, .int .i64 0, .int .i64 0, .int .i64 0, .int .i64 0, .int .i64 0, .int .i64 0, .int .i64 0, .int .i64 0, .int .i64 0, .string ⟨#[]⟩, .int .i64 0, .int .i64 0, .bool false, .int .i64 0, .string ⟨#[]⟩, .int .i64 s, .int .i64 q, .int .i64 hh, .int .i64 sq, .int .i64 wk, .int .i64 ep, .slice a l.length c, .bool en, .int .i64 0, .int .i64 0] (0, 0) _ rfl hS Try.underlying46 rfl isz_msg) rfl ?_
  exact ⟨(⟨0, 0, 0, 0, 0, 0, 0, 0, 0, 0, ⟨#[]⟩, 0, 0, false, 0, ⟨#[]⟩, s, q, hh, sq, wk, ep, a, c, l, en, 0, 0⟩ : P5), 4, rfl, rfl, fun _ => rfl, fun h => (by cases h), ⟨HRI.out _ hBs, h1, Nat.zero_le 2000, Nat.zero_le 2000⟩, hBs⟩
set_option maxRecDepth 100000 in
set_option maxHeartbeats 8000000 in
theorem of_stop (s q : Int) (w : World) : Calls Try.prog 16 #[.iface 34 (.agg #[.int .i64 s, .int .i64 q])] w fun e w' => OfE (.stop s q) w e w' := by
  have HG := Lib.hid (Blk.alloc (show Blk (w.alloc (.cells #[.int .i64 0, .int .i64 0, .int .i64 0, .int .i64 0, .int .i64 0, .int .i64 0, .int .i64 0, .int .i64 0, .int .i64 0, .int .i64 0, .int .i64 0, .string ⟨#[]⟩, .int .i64 0, .int .i64 0, .bool false, .int .i64 0, .string ⟨#[]⟩, .int .i64 0, .int .i64 0, .int .i64 0, .int .i64 0, .int .i64 0, .int .i64 0, .slice none 0 0, .bool false, .int .i64 0, .int .i64 0] 46)) w.heap.size 46 [.int .i64 0, .int .i64 0, .int .i64 0, .int .i64 0, .int .i64 0, .int .i64 0, .int .i64 0, .int .i64 0, .int .i64 0, .int .i64 0, .int .i64 0, .string ⟨#[]⟩, .int .i64 0, .int .i64 0, .bool false, .int .i64 0, .string ⟨#[]⟩, .int .i64 0, .int .i64 0, .int .i64 0, .int .i64 0, .int .i64 0, .int .i64 0, .slice none 0 0, .bool false, .int .i64 0, .int .i64 0] from heap_alloc_new w _) (.cells #[.int .i64 s, .int .i64 q] 34))
  have HB := Lib.hid (show Below w.heap.size w ((w.alloc (.cells #[.int .i64 0, .int .i64 0, .int .i64 0, .int .i64 0, .int .i64 0, .int .i64 0, .int .i64 0, .int .i64 0, .int .i64 0, .int .i64 0, .int .i64 0, .string ⟨#[]⟩, .int .i64 0, .int .i64 0, .bool false, .int .i64 0, .string ⟨#[]⟩, .int .i64 0, .int .i64 0, .int .i64 0, .int .i64 0, .int .i64 0, .int .i64 0, .slice none 0 0, .bool false, .int .i64 0, .int .i64 0] 46)).alloc (.cells #[.int .i64 s, .int .i64 q] 34)) from (by repeat (first | exact Below.refl _ _ | refine Below.alloc ?_ (by first | (simp; done) | (simp; omega)) _)))
  go_enter Try.func16, Try.ntmps16
  go_wp2_with (first | rw [ta_hello_stop] | rw [ta_grant_stop] | rw [ta_ask_stop] | rw [ta_reply_stop] | rw [ta_stop_stop] | (refine wpList_store_row rfl 46 _ _ rfl w.heap.size #[.int .i64 5, .int .i64 0, .int .i64 0, .int .i64 0, .int .i64 0, .int .i64 0, .int .i64 0, .int .i64 0, .int .i64 0, .int .i64 0, .int .i64 0, .string ⟨#[]⟩, .int .i64 0, .int .i64 0, .bool false, .int .i64 0, .string ⟨#[]⟩, .int .i64 0, .int .i64 0, .int .i64 0, .int .i64 0, .int .i64 0, .int .i64 0, .slice none 0 0, .bool false, .int .i64 s, .int .i64 q] rfl rfl _ #[.int .i64 0, .int .i64 0, .int .i64 0, .int .i64 0, .int .i64 0, .int .i64 0, .int .i64 0, .int .i64 0, .int .i64 0, .int .i64 0, .int .i64 0, .string ⟨#[]⟩, .int .i64 0, .int .i64 0, .bool false, .int .i64 0, .string ⟨#[]⟩, .int .i64 0, .int .i64 0, .int .i64 0, .int .i64 0, .int .i64 0, .int .i64 0, .slice none 0 0, .bool false, .int .i64 0, .int .i64 0] HG.out isz_msg rfl (by simp [Value.oneCell']) ?_))
  have hS := setRow_heap ((w.alloc (.cells #[.int .i64 0, .int .i64 0, .int .i64 0, .int .i64 0, .int .i64 0, .int .i64 0, .int .i64 0, .int .i64 0, .int .i64 0, .int .i64 0, .int .i64 0, .string ⟨#[]⟩, .int .i64 0, .int .i64 0, .bool false, .int .i64 0, .string ⟨#[]⟩, .int .i64 0, .int .i64 0, .int .i64 0, .int .i64 0, .int .i64 0, .int .i64 0, .slice none 0 0, .bool false, .int .i64 0, .int .i64 0] 46)).alloc (.cells #[.int .i64 s, .int .i64 q] 34)) w.heap.size #[.int .i64 0, .int .i64 0, .int .i64 0, .int .i64 0, .int .i64 0, .int .i64 0, .int .i64 0, .int .i64 0, .int .i64 0, .int .i64 0, .int .i64 0, .string ⟨#[]⟩, .int .i64 0, .int .i64 0, .bool false, .int .i64 0, .string ⟨#[]⟩, .int .i64 0, .int .i64 0, .int .i64 0, .int .i64 0, .int .i64 0, .int .i64 0, .slice none 0 0, .bool false, .int .i64 0, .int .i64 0] #[.int .i64 5, .int .i64 0, .int .i64 0, .int .i64 0, .int .i64 0, .int .i64 0, .int .i64 0, .int .i64 0, .int .i64 0, .int .i64 0, .int .i64 0, .string ⟨#[]⟩, .int .i64 0, .int .i64 0, .bool false, .int .i64 0, .string ⟨#[]⟩, .int .i64 0, .int .i64 0, .int .i64 0, .int .i64 0, .int .i64 0, .int .i64 0, .slice none 0 0, .bool false, .int .i64 s, .int .i64 q] 46 (0, 0) HG.out
  have hBs := below_setRow HB.out (Nat.le_refl w.heap.size) #[.int .i64 5, .int .i64 0, .int .i64 0, .int .i64 0, .int .i64 0, .int .i64 0, .int .i64 0, .int .i64 0, .int .i64 0, .int .i64 0, .int .i64 0, .string ⟨#[]⟩, .int .i64 0, .int .i64 0, .bool false, .int .i64 0, .string ⟨#[]⟩, .int .i64 0, .int .i64 0, .int .i64 0, .int .i64 0, .int .i64 0, .int .i64 0, .slice none 0 0, .bool false, .int .i64 s, .int .i64 q]
  refine bodyPost_ret (results_cell_row rfl _ _ w.heap.size 46 #[.int .i64 5, .int .i64 0, .int .i64 0, .int .i64 0, .int .i64 0, .int .i64 0, .int .i64 0, .int .i64 0, .int .i64 0, .int .i64 0, .int .i64 0, .string ⟨#[]⟩, .int .i64 0, .int .i64 0, .bool false, .int .i64 0, .string ⟨#[]⟩, .int .i64 0, .int .i64 0, .int .i64 0, .int .i64 0, .int .i64 0, .int .i64 0, .slice none 0 0, .bool false, .int .i64 s, .int .i64 q] (0, 0) _ rfl hS Try.underlying46 rfl isz_msg) rfl ?_
  exact ⟨(⟨0, 0, 0, 0, 0, 0, 0, 0, 0, 0, ⟨#[]⟩, 0, 0, false, 0, ⟨#[]⟩, 0, 0, 0, 0, 0, 0, none, 0, [], false, s, q⟩ : P5), 5, rfl, rfl, fun _ => rfl, fun h => (by cases h), ⟨rdE_nil0 _, by simp, Nat.zero_le 2000, Nat.zero_le 2000⟩, hBs⟩
set_option maxRecDepth 100000 in
set_option maxHeartbeats 8000000 in
theorem of_nil (w : World) : Calls Try.prog 16 #[.nilIface] w fun e w' => OfE .nil w e w' := by
  have HG := Lib.hid (show Blk (w.alloc (.cells #[.int .i64 0, .int .i64 0, .int .i64 0, .int .i64 0, .int .i64 0, .int .i64 0, .int .i64 0, .int .i64 0, .int .i64 0, .int .i64 0, .int .i64 0, .string ⟨#[]⟩, .int .i64 0, .int .i64 0, .bool false, .int .i64 0, .string ⟨#[]⟩, .int .i64 0, .int .i64 0, .int .i64 0, .int .i64 0, .int .i64 0, .int .i64 0, .slice none 0 0, .bool false, .int .i64 0, .int .i64 0] 46)) w.heap.size 46 [.int .i64 0, .int .i64 0, .int .i64 0, .int .i64 0, .int .i64 0, .int .i64 0, .int .i64 0, .int .i64 0, .int .i64 0, .int .i64 0, .int .i64 0, .string ⟨#[]⟩, .int .i64 0, .int .i64 0, .bool false, .int .i64 0, .string ⟨#[]⟩, .int .i64 0, .int .i64 0, .int .i64 0, .int .i64 0, .int .i64 0, .int .i64 0, .slice none 0 0, .bool false, .int .i64 0, .int .i64 0] from heap_alloc_new w _)
  have HB := Lib.hid (show Below w.heap.size w (w.alloc (.cells #[.int .i64 0, .int .i64 0, .int .i64 0, .int .i64 0, .int .i64 0, .int .i64 0, .int .i64 0, .int .i64 0, .int .i64 0, .int .i64 0, .int .i64 0, .string ⟨#[]⟩, .int .i64 0, .int .i64 0, .bool false, .int .i64 0, .string ⟨#[]⟩, .int .i64 0, .int .i64 0, .int .i64 0, .int .i64 0, .int .i64 0, .int .i64 0, .slice none 0 0, .bool false, .int .i64 0, .int .i64 0] 46)) from (by repeat (first | exact Below.refl _ _ | refine Below.alloc ?_ (by first | (simp; done) | (simp; omega)) _)))
  go_enter Try.func16, Try.ntmps16
  go_wp2_with (first | rw [ta_hello_nil] | rw [ta_grant_nil] | rw [ta_ask_nil] | rw [ta_reply_nil] | rw [ta_stop_nil] | (refine wpList_store_row rfl 46 _ _ rfl w.heap.size #[.int .i64 0, .int .i64 0, .int .i64 0, .int .i64 0, .int .i64 0, .int .i64 0, .int .i64 0, .int .i64 0, .int .i64 0, .int .i64 0, .int .i64 0, .string ⟨#[]⟩, .int .i64 0, .int .i64 0, .bool false, .int .i64 0, .string ⟨#[]⟩, .int .i64 0, .int .i64 0, .int .i64 0, .int .i64 0, .int .i64 0, .int .i64 0, .slice none 0 0, .bool false, .int .i64 0, .int .i64 0] rfl rfl _ #[.int .i64 0, .int .i64 0, .int .i64 0, .int .i64 0, .int .i64 0, .int .i64 0, .int .i64 0, .int .i64 0, .int .i64 0, .int .i64 0, .int .i64 0, .string ⟨#[]⟩, .int .i64 0, .int .i64 0, .bool false, .int .i64 0, .string ⟨#[]⟩, .int .i64 0, .int .i64 0, .int .i64 0, .int .i64 0, .int .i64 0, .int .i64 0, .slice none 0 0, .bool false, .int .i64 0, .int .i64 0] HG.out isz_msg rfl (by simp [Value.oneCell']) ?_))
  have hS := setRow_heap (w.alloc (.cells #[.int .i64 0, .int .i64 0, .int .i64 0, .int .i64 0, .int .i64 0, .int .i64 0, .int .i64 0, .int .i64 0, .int .i64 0, .int .i64 0, .int .i64 0, .string ⟨#[]⟩, .int .i64 0, .int .i64 0, .bool false, .int .i64 0, .string ⟨#[]⟩, .int .i64 0, .int .i64 0, .int .i64 0, .int .i64 0, .int .i64 0, .int .i64 0, .slice none 0 0, .bool false, .int .i64 0, .int .i64 0] 46)) w.heap.size #[.int .i64 0, .int .i64 0, .int .i64 0, .int .i64 0, .int .i64 0, .int .i64 0, .int .i64 0, .int .i64 0, .int .i64 0, .int .i64 0, .int .i64 0, .string ⟨#[]⟩, .int .i64 0, .int .i64 0, .bool false, .int .i64 0, .string ⟨#[]⟩, .int .i64 0, .int .i64 0, .int .i64 0, .int .i64 0, .int .i64 0, .int .i64 0, .slice none 0 0, .bool false, .int .i64 0, .int .i64 0] #[.int .i64 0, .int .i64 0, .int .i64 0, .int .i64 0, .int .i64 0, .int .i64 0, .int .i64 0, .int .i64 0, .int .i64 0, .int .i64 0, .int .i64 0, .string ⟨#[]⟩, .int .i64 0, .int .i64 0, .bool false, .int .i64 0, .string ⟨#[]⟩, .int .i64 0, .int .i64 0, .int .i64 0, .int .i64 0, .int .i64 0, .int .i64 0, .slice none 0 0, .bool false, .int .i64 0, .int .i64 0] 46 (0, 0) HG.out
  have hBs := below_setRow HB.out (Nat.le_refl w.heap.size) #[.int .i64 0, .int .i64 0, .int .i64 0, .int .i64 0, .int .i64 0, .int .i64 0, .int .i64 0, .int .i64 0, .int .i64 0, .int .i64 0, .int .i64 0, .string ⟨#[]⟩, .int .i64 0, .int .i64 0, .bool false, .int .i64 0, .string ⟨#[]⟩, .int .i64 0, .int .i64 0, .int .i64 0, .int .i64 0, .int .i64 0, .int .i64 0, .slice none 0 0, .bool false, .int .i64 0, .int .i64 0]
  refine bodyPost_ret (results_cell_row rfl _ _ w.heap.size 46 #[.int .i64 0, .int .i64 0, .int .i64 0, .int .i64 0, .int .i64 0, .int .i64 0, .int .i64 0, .int .i64 0, .int .i64 0, .int .i64 0, .int .i64 0, .string ⟨#[]⟩, .int .i64 0, .int .i64 0, .bool false, .int .i64 0, .string ⟨#[]⟩, .int .i64 0, .int .i64 0, .int .i64 0, .int .i64 0, .int .i64 0, .int .i64 0, .slice none 0 0, .bool false, .int .i64 0, .int .i64 0] (0, 0) _ rfl hS Try.underlying46 rfl isz_msg) rfl ?_
  exact ⟨(⟨0, 0, 0, 0, 0, 0, 0, 0, 0, 0, ⟨#[]⟩, 0, 0, false, 0, ⟨#[]⟩, 0, 0, 0, 0, 0, 0, none, 0, [], false, 0, 0⟩ : P5), 0, rfl, rfl, fun h => (by cases h), fun _ => rfl, ⟨rdE_nil0 _, by simp, Nat.zero_le 2000, Nat.zero_le 2000⟩, hBs⟩
set_option maxRecDepth 100000 in
set_option maxHeartbeats 8000000 in
theorem of_other (t : TypeId) (v : Value) (w : World) (h1 : t ≠ 23) (h2 : t ≠ 25) (h3 : t ≠ 29) (h4 : t ≠ 32) (h5 : t ≠ 34) : Calls Try.prog 16 #[.iface t v] w fun e w' => OfE (.other t v) w e w' := by
  have HG := Lib.hid (show Blk (w.alloc (.cells #[.int .i64 0, .int .i64 0, .int .i64 0, .int .i64 0, .int .i64 0, .int .i64 0, .int .i64 0, .int .i64 0, .int .i64 0, .int .i64 0, .int .i64 0, .string ⟨#[]⟩, .int .i64 0, .int .i64 0, .bool false, .int .i64 0, .string ⟨#[]⟩, .int .i64 0, .int .i64 0, .int .i64 0, .int .i64 0, .int .i64 0, .int .i64 0, .slice none 0 0, .bool false, .int .i64 0, .int .i64 0] 46)) w.heap.size 46 [.int .i64 0, .int .i64 0, .int .i64 0, .int .i64 0, .int .i64 0, .int .i64 0, .int .i64 0, .int .i64 0, .int .i64 0, .int .i64 0, .int .i64 0, .string ⟨#[]⟩, .int .i64 0, .int .i64 0, .bool false, .int .i64 0, .string ⟨#[]⟩, .int .i64 0, .int .i64 0, .int .i64 0, .int .i64 0, .int .i64 0, .int .i64 0, .slice none 0 0, .bool false, .int .i64 0, .int .i64 0] from heap_alloc_new w _)
  have HB := Lib.hid (show Below w.heap.size w (w.alloc (.cells #[.int .i64 0, .int .i64 0, .int .i64 0, .int .i64 0, .int .i64 0, .int .i64 0, .int .i64 0, .int .i64 0, .int .i64 0, .int .i64 0, .int .i64 0, .string ⟨#[]⟩, .int .i64 0, .int .i64 0, .bool false, .int .i64 0, .string ⟨#[]⟩, .int .i64 0, .int .i64 0, .int .i64 0, .int .i64 0, .int .i64 0, .int .i64 0, .slice none 0 0, .bool false, .int .i64 0, .int .i64 0] 46)) from (by repeat (first | exact Below.refl _ _ | refine Below.alloc ?_ (by first | (simp; done) | (simp; omega)) _)))
  go_enter Try.func16, Try.ntmps16
  go_wp2_with (first | rw [ta_hello_other _ _ _ _ h1] | rw [ta_grant_other _ _ _ _ h2] | rw [ta_ask_other _ _ _ _ h3] | rw [ta_reply_other _ _ _ _ h4] | rw [ta_stop_other _ _ _ _ h5] | (refine wpList_store_row rfl 46 _ _ rfl w.heap.size #[.int .i64 0, .int .i64 0, .int .i64 0, .int .i64 0, .int .i64 0, .int .i64 0, .int .i64 0, .int .i64 0, .int .i64 0, .int .i64 0, .int .i64 0, .string ⟨#[]⟩, .int .i64 0, .int .i64 0, .bool false, .int .i64 0, .string ⟨#[]⟩, .int .i64 0, .int .i64 0, .int .i64 0, .int .i64 0, .int .i64 0, .int .i64 0, .slice none 0 0, .bool false, .int .i64 0, .int .i64 0] rfl rfl _ #[.int .i64 0, .int .i64 0, .int .i64 0, .int .i64 0, .int .i64 0, .int .i64 0, .int .i64 0, .int .i64 0, .int .i64 0, .int .i64 0, .int .i64 0, .string ⟨#[]⟩, .int .i64 0, .int .i64 0, .bool false, .int .i64 0, .string ⟨#[]⟩, .int .i64 0, .int .i64 0, .int .i64 0, .int .i64 0, .int .i64 0, .int .i64 0, .slice none 0 0, .bool false, .int .i64 0, .int .i64 0] HG.out isz_msg rfl (by simp [Value.oneCell']) ?_))
  have hS := setRow_heap (w.alloc (.cells #[.int .i64 0, .int .i64 0, .int .i64 0, .int .i64 0, .int .i64 0, .int .i64 0, .int .i64 0, .int .i64 0, .int .i64 0, .int .i64 0, .int .i64 0, .string ⟨#[]⟩, .int .i64 0, .int .i64 0, .bool false, .int .i64 0, .string ⟨#[]⟩, .int .i64 0, .int .i64 0, .int .i64 0, .int .i64 0, .int .i64 0, .int .i64 0, .slice none 0 0, .bool false, .int .i64 0, .int .i64 0] 46)) w.heap.size #[.int .i64 0, .int .i64 0, .int .i64 0, .int .i64 0, .int .i64 0, .int .i64 0, .int .i64 0, .int .i64 0, .int .i64 0, .int .i64 0, .int .i64 0, .string ⟨#[]⟩, .int .i64 0, .int .i64 0, .bool false, .int .i64 0, .string ⟨#[]⟩, .int .i64 0, .int .i64 0, .int .i64 0, .int .i64 0, .int .i64 0, .int .i64 0, .slice none 0 0, .bool false, .int .i64 0, .int .i64 0] #[.int .i64 0, .int .i64 0, .int .i64 0, .int .i64 0, .int .i64 0, .int .i64 0, .int .i64 0, .int .i64 0, .int .i64 0, .int .i64 0, .int .i64 0, .string ⟨#[]⟩, .int .i64 0, .int .i64 0, .bool false, .int .i64 0, .string ⟨#[]⟩, .int .i64 0, .int .i64 0, .int .i64 0, .int .i64 0, .int .i64 0, .int .i64 0, .slice none 0 0, .bool false, .int .i64 0, .int .i64 0] 46 (0, 0) HG.out
  have hBs := below_setRow HB.out (Nat.le_refl w.heap.size) #[.int .i64 0, .int .i64 0, .int .i64 0, .int .i64 0, .int .i64 0, .int .i64 0, .int .i64 0, .int .i64 0, .int .i64 0, .int .i64 0, .int .i64 0, .string ⟨#[]⟩, .int .i64 0, .int .i64 0, .bool false, .int .i64 0, .string ⟨#[]⟩, .int .i64 0, .int .i64 0, .int .i64 0, .int .i64 0, .int .i64 0, .int .i64 0, .slice none 0 0, .bool false, .int .i64 0, .int .i64 0]
  refine bodyPost_ret (results_cell_row rfl _ _ w.heap.size 46 #[.int .i64 0, .int .i64 0, .int .i64 0, .int .i64 0, .int .i64 0, .int .i64 0, .int .i64 0, .int .i64 0, .int .i64 0, .int .i64 0, .int .i64 0, .string ⟨#[]⟩, .int .i64 0, .int .i64 0, .bool false, .int .i64 0, .string ⟨#[]⟩, .int .i64 0, .int .i64 0, .int .i64 0, .int .i64 0, .int .i64 0, .int .i64 0, .slice none 0 0, .bool false, .int .i64 0, .int .i64 0] (0, 0) _ rfl hS Try.underlying46 rfl isz_msg) rfl ?_
  exact ⟨(⟨0, 0, 0, 0, 0, 0, 0, 0, 0, 0, ⟨#[]⟩, 0, 0, false, 0, ⟨#[]⟩, 0, 0, 0, 0, 0, 0, none, 0, [], false, 0, 0⟩ : P5), 0, rfl, rfl, fun h => (by cases h), fun _ => rfl, ⟨rdE_nil0 _, by simp, Nat.zero_le 2000, Nat.zero_le 2000⟩, hBs⟩
set_option maxRecDepth 100000 in
theorem of15_any (m : MV) (u : Value) (w : World) (h : m.At w u) (hz : m.short) : Calls Try.prog 16 #[u] w fun e w' => OfE m w e w' := by
  cases m with
  | hello w0 l0 => obtain rfl := h; exact of_hello w0 l0 w
  | grant w0 l0 e0 => obtain rfl := h; exact of_grant w0 l0 e0 w
  | stop s q => obtain rfl := h; exact of_stop s q w
  | ask s q h' sq ep tx k b f d wd => obtain rfl := h; exact of_ask s q h' sq ep tx k b f d wd w hz.1 hz.2
  | reply s q h' sq wk ep l en => obtain ⟨a, c, rfl, hr⟩ := h; exact of_reply s q h' sq wk ep l en a c w hr hz
  | other t v => obtain ⟨rfl, h1, h2, h3, h4, h5⟩ := h; exact of_other t v w h1 h2 h3 h4 h5
  | nil => obtain rfl := h; exact of_nil w

end Go.Proofs.Ytjhkdbcfkaaffaa
/- OverBytes, Num; the law MsgLays's walk. -/
namespace Go.Proofs.Ytjhkdbcfkaaffaa
open Go.RowKit
set_option linter.unusedVariables false

set_option maxRecDepth 100000 in
set_option maxHeartbeats 600000 in
theorem over_any (ao : Option Addr) (n c base : Nat) (xs : List Value) (w : World) (hown : w.ownsRow base 5 1 (.slice ao n c) n xs) (hb : base ≤ w.heap.size) (hn9 : n ≤ 1000000000) :
    Calls Try.prog 22 #[.slice ao n c] w fun e w' => e = .returned (.tuple #[]) ∧ w.grownBy w' (Value.ownBlock (.slice ao n c)) := by
  obtain ⟨i0, hi, hz0, hz1, hz2⟩ := info_parts info5
  have HI := Lib.hid hi
  have HZ0 := Lib.hid hz0
  have HZ1 := Lib.hid hz1
  have HZ2 : RowKit.Hid (i0.bytes = 1) := hz2
  have HO := Lib.hid hown
  clear hi hz0 hz1 hz2 hown
  go_enter Try.func22, Try.ntmps22
  go_wp2
  go_loopw [2] (fun i wr => ∃ k : Nat, k ≤ n ∧ i = .int .i64 k ∧ ∃ ys, RowKit.Hid (wr.ownsRow base 5 1 (.slice ao n c) n ys) ∧ RowKit.Hid (w.grownBy wr (Value.ownBlock (.slice ao n c)))) (fun i _ => n - (intOf i).toNat)
  case atStart => exact ⟨0, by omega, rfl, xs, HO.out, World.grownBy.refl _ _⟩
  case round =>
    obtain ⟨k, hk, rfl, ys, HO1, HG1⟩ := hrel
    by_cases hlt : k < n
    · obtain ⟨g, rfl, hg⟩ := ownsRow_some HO1.out (by omega)
      obtain ⟨spare, _, hblk⟩ := ownsRow_blk HO1.out
      have hl : ys.length = n := by simpa using HO1.out.1
      have hc : wr.cell? ⟨g, k, none⟩ = some (ys[k]'(by omega)) := by
        rw [hblk.cell, List.getElem?_append_left (by omega), List.getElem?_eq_getElem (by omega)]
      have hf := hblk.frozen k
      have HS := Lib.hid (HO1.out.stored k (.int .u8 238))
      obtain ⟨v0, hv0⟩ : ∃ v0, v0 = ys[k]'(by omega) := ⟨_, rfl⟩
      rw [← hv0] at hc
      clear hv0 hblk hl
      go_wp2
      go_roundw
      case rel => exact ⟨k + 1, by omega, by go_num, _, HS.out.1, grownBy_trans HG1.out HS.out.2⟩
      case measure => simp [intOf]; omega
    · obtain rfl : k = n := by omega
      have hsz := HG1.out.size
      go_wp2_with (at_builtin; refine wpList_app rfl _ _ 39 39 rfl base 5 i0 (.int .u8 0) 1 1 Try.underlying39 HI.out HZ0.out HZ1.out HZ2.out rfl (by decide) ao k c ys rfl (HO1.out.alloc _) _ 1 _ rfl (Src.one' Try.underlying39 wr _ 5 rfl) (by unfold maxLen; omega) (by omega) (by simp; omega) ?_; intro ao2 c2 w2 hown2 hg2; have HG2 := Lib.hid (grownBy_trans HG1.out (grownBy_trans (grownBy_alloc' _ _ _) hg2)); clear hown2 hg2)
      go_end0
      exact ⟨rfl, HG2.out⟩
set_option maxRecDepth 100000 in
theorem num15_any (x : Int) (w : World) : Calls Try.prog 18 #[.int .i64 x] w fun e w' => e = .returned (.int .i64 x) ∧ w = w' := by
  go_enter Try.func18, Try.ntmps18
  go_wp2
  go_ret
  exact ⟨rfl, rfl⟩
/-- with the items lent -/
def P5.lent (p : P5) (q : Nat) : P5 := { p with ra := some ⟨q, 0, none⟩, rc := p.rl.length + 3 }
set_option maxRecDepth 100000 in
theorem msg_field0 (p : P5) (k : Int) (w : World) : (Instr.field 46 (p.msg k) 0).run Try.prog w = .ok (.int .i64 k) w := by kernel_rfl
set_option maxRecDepth 100000 in
theorem isMsg_no {m : MV} (h : m.isMsg = false) : m.may = false := by cases m <;> first | rfl | simp [MV.isMsg] at h
set_option maxRecDepth 100000 in
theorem great_items {p : P5} (h : p.great = false) : p.rl.length ≤ 80 ∧ ∀ x ∈ p.rl, x.2.size ≤ 100 := by
  unfold P5.great at h
  simp only [Bool.or_eq_false_iff] at h
  exact greatI_false h.2
set_option maxRecDepth 100000 in
set_option maxHeartbeats 16000000 in
theorem lays_law (k : Int) (p : P5) (w : World) (h : p.ok w) (hk : -9223372036854775808 ≤ k ∧ k ≤ 9223372036854775807) :
    Calls Try.prog 3 #[.int .i64 k, .agg #[.int .i64 p.hw, .int .i64 p.hl], .agg #[.int .i64 p.gw, .int .i64 p.gl, .int .i64 p.ge], .agg #[.int .i64 p.ai, .int .i64 p.aq, .int .i64 p.ah, .int .i64 p.an, .int .i64 p.ae, .string p.ax, .int .i64 p.ak, .int .i64 p.ab, .bool p.af, .int .i64 p.ad, .string p.aw], .agg #[.int .i64 p.rs, .int .i64 p.rq, .int .i64 p.rh, .int .i64 p.rn, .int .i64 p.rw, .int .i64 p.re, .slice p.ra p.rl.length p.rc, .bool p.rb], .agg #[.int .i64 p.ss, .int .i64 p.sq]] w fun e w' => e = .returned (.bool true) ∧ Below w.heap.size w w' := by
  have HAW := Lib.hid (fun W => awake_any W)
  have HP := Lib.hid h
  have hcap := h.1.2.1
  have hcm := h.1.2.2.1
  unfold maxLen at hcm
  clear h
  have HB := Lib.hid (show Below w.heap.size w (((((w.alloc (.cells #[.int .i64 p.hw, .int .i64 p.hl] 23)).alloc (.cells #[.int .i64 p.gw, .int .i64 p.gl, .int .i64 p.ge] 25)).alloc (.cells #[.int .i64 p.ai, .int .i64 p.aq, .int .i64 p.ah, .int .i64 p.an, .int .i64 p.ae, .string p.ax, .int .i64 p.ak, .int .i64 p.ab, .bool p.af, .int .i64 p.ad, .string p.aw] 29)).alloc (.cells #[.int .i64 p.rs, .int .i64 p.rq, .int .i64 p.rh, .int .i64 p.rn, .int .i64 p.rw, .int .i64 p.re, .slice p.ra p.rl.length p.rc, .bool p.rb] 32)).alloc (.cells #[.int .i64 p.ss, .int .i64 p.sq] 34)) from (by repeat (first | exact Below.refl _ _ | refine Below.alloc ?_ (by first | (simp; done) | (simp; omega)) _)))
  have HXh := Lib.hid (Blk.alloc (Blk.alloc (Blk.alloc (Blk.alloc (show Blk (w.alloc (.cells #[.int .i64 p.hw, .int .i64 p.hl] 23)) (w.heap.size) 23 [.int .i64 p.hw, .int .i64 p.hl] from by have q := heap_alloc_new w (.cells #[.int .i64 p.hw, .int .i64 p.hl] 23); exact q) (.cells #[.int .i64 p.gw, .int .i64 p.gl, .int .i64 p.ge] 25)) (.cells #[.int .i64 p.ai, .int .i64 p.aq, .int .i64 p.ah, .int .i64 p.an, .int .i64 p.ae, .string p.ax, .int .i64 p.ak, .int .i64 p.ab, .bool p.af, .int .i64 p.ad, .string p.aw] 29)) (.cells #[.int .i64 p.rs, .int .i64 p.rq, .int .i64 p.rh, .int .i64 p.rn, .int .i64 p.rw, .int .i64 p.re, .slice p.ra p.rl.length p.rc, .bool p.rb] 32)) (.cells #[.int .i64 p.ss, .int .i64 p.sq] 34))
  have HXg := Lib.hid (Blk.alloc (Blk.alloc (Blk.alloc (show Blk ((w.alloc (.cells #[.int .i64 p.hw, .int .i64 p.hl] 23)).alloc (.cells #[.int .i64 p.gw, .int .i64 p.gl, .int .i64 p.ge] 25)) (w.heap.size + 1) 25 [.int .i64 p.gw, .int .i64 p.gl, .int .i64 p.ge] from by have q := heap_alloc_new (w.alloc (.cells #[.int .i64 p.hw, .int .i64 p.hl] 23)) (.cells #[.int .i64 p.gw, .int .i64 p.gl, .int .i64 p.ge] 25); rw [show (w.alloc (.cells #[.int .i64 p.hw, .int .i64 p.hl] 23)).heap.size = w.heap.size + 1 from by simp] at q; exact q) (.cells #[.int .i64 p.ai, .int .i64 p.aq, .int .i64 p.ah, .int .i64 p.an, .int .i64 p.ae, .string p.ax, .int .i64 p.ak, .int .i64 p.ab, .bool p.af, .int .i64 p.ad, .string p.aw] 29)) (.cells #[.int .i64 p.rs, .int .i64 p.rq, .int .i64 p.rh, .int .i64 p.rn, .int .i64 p.rw, .int .i64 p.re, .slice p.ra p.rl.length p.rc, .bool p.rb] 32)) (.cells #[.int .i64 p.ss, .int .i64 p.sq] 34))
  have HXa := Lib.hid (Blk.alloc (Blk.alloc (show Blk (((w.alloc (.cells #[.int .i64 p.hw, .int .i64 p.hl] 23)).alloc (.cells #[.int .i64 p.gw, .int .i64 p.gl, .int .i64 p.ge] 25)).alloc (.cells #[.int .i64 p.ai, .int .i64 p.aq, .int .i64 p.ah, .int .i64 p.an, .int .i64 p.ae, .string p.ax, .int .i64 p.ak, .int .i64 p.ab, .bool p.af, .int .i64 p.ad, .string p.aw] 29)) (w.heap.size + 1 + 1) 29 [.int .i64 p.ai, .int .i64 p.aq, .int .i64 p.ah, .int .i64 p.an, .int .i64 p.ae, .string p.ax, .int .i64 p.ak, .int .i64 p.ab, .bool p.af, .int .i64 p.ad, .string p.aw] from by have q := heap_alloc_new ((w.alloc (.cells #[.int .i64 p.hw, .int .i64 p.hl] 23)).alloc (.cells #[.int .i64 p.gw, .int .i64 p.gl, .int .i64 p.ge] 25)) (.cells #[.int .i64 p.ai, .int .i64 p.aq, .int .i64 p.ah, .int .i64 p.an, .int .i64 p.ae, .string p.ax, .int .i64 p.ak, .int .i64 p.ab, .bool p.af, .int .i64 p.ad, .string p.aw] 29); rw [show ((w.alloc (.cells #[.int .i64 p.hw, .int .i64 p.hl] 23)).alloc (.cells #[.int .i64 p.gw, .int .i64 p.gl, .int .i64 p.ge] 25)).heap.size = w.heap.size + 1 + 1 from by simp] at q; exact q) (.cells #[.int .i64 p.rs, .int .i64 p.rq, .int .i64 p.rh, .int .i64 p.rn, .int .i64 p.rw, .int .i64 p.re, .slice p.ra p.rl.length p.rc, .bool p.rb] 32)) (.cells #[.int .i64 p.ss, .int .i64 p.sq] 34))
  have HXr := Lib.hid (Blk.alloc (show Blk ((((w.alloc (.cells #[.int .i64 p.hw, .int .i64 p.hl] 23)).alloc (.cells #[.int .i64 p.gw, .int .i64 p.gl, .int .i64 p.ge] 25)).alloc (.cells #[.int .i64 p.ai, .int .i64 p.aq, .int .i64 p.ah, .int .i64 p.an, .int .i64 p.ae, .string p.ax, .int .i64 p.ak, .int .i64 p.ab, .bool p.af, .int .i64 p.ad, .string p.aw] 29)).alloc (.cells #[.int .i64 p.rs, .int .i64 p.rq, .int .i64 p.rh, .int .i64 p.rn, .int .i64 p.rw, .int .i64 p.re, .slice p.ra p.rl.length p.rc, .bool p.rb] 32)) (w.heap.size + 1 + 1 + 1) 32 [.int .i64 p.rs, .int .i64 p.rq, .int .i64 p.rh, .int .i64 p.rn, .int .i64 p.rw, .int .i64 p.re, .slice p.ra p.rl.length p.rc, .bool p.rb] from by have q := heap_alloc_new (((w.alloc (.cells #[.int .i64 p.hw, .int .i64 p.hl] 23)).alloc (.cells #[.int .i64 p.gw, .int .i64 p.gl, .int .i64 p.ge] 25)).alloc (.cells #[.int .i64 p.ai, .int .i64 p.aq, .int .i64 p.ah, .int .i64 p.an, .int .i64 p.ae, .string p.ax, .int .i64 p.ak, .int .i64 p.ab, .bool p.af, .int .i64 p.ad, .string p.aw] 29)) (.cells #[.int .i64 p.rs, .int .i64 p.rq, .int .i64 p.rh, .int .i64 p.rn, .int .i64 p.rw, .int .i64 p.re, .slice p.ra p.rl.length p.rc, .bool p.rb] 32); rw [show (((w.alloc (.cells #[.int .i64 p.hw, .int .i64 p.hl] 23)).alloc (.cells #[.int .i64 p.gw, .int .i64 p.gl, .int .i64 p.ge] 25)).alloc (.cells #[.int .i64 p.ai, .int .i64 p.aq, .int .i64 p.ah, .int .i64 p.an, .int .i64 p.ae, .string p.ax, .int .i64 p.ak, .int .i64 p.ab, .bool p.af, .int .i64 p.ad, .string p.aw] 29)).heap.size = w.heap.size + 1 + 1 + 1 from by simp] at q; exact q) (.cells #[.int .i64 p.ss, .int .i64 p.sq] 34))
  have HXs := Lib.hid (show Blk (((((w.alloc (.cells #[.int .i64 p.hw, .int .i64 p.hl] 23)).alloc (.cells #[.int .i64 p.gw, .int .i64 p.gl, .int .i64 p.ge] 25)).alloc (.cells #[.int .i64 p.ai, .int .i64 p.aq, .int .i64 p.ah, .int .i64 p.an, .int .i64 p.ae, .string p.ax, .int .i64 p.ak, .int .i64 p.ab, .bool p.af, .int .i64 p.ad, .string p.aw] 29)).alloc (.cells #[.int .i64 p.rs, .int .i64 p.rq, .int .i64 p.rh, .int .i64 p.rn, .int .i64 p.rw, .int .i64 p.re, .slice p.ra p.rl.length p.rc, .bool p.rb] 32)).alloc (.cells #[.int .i64 p.ss, .int .i64 p.sq] 34)) (w.heap.size + 1 + 1 + 1 + 1) 34 [.int .i64 p.ss, .int .i64 p.sq] from by have q := heap_alloc_new ((((w.alloc (.cells #[.int .i64 p.hw, .int .i64 p.hl] 23)).alloc (.cells #[.int .i64 p.gw, .int .i64 p.gl, .int .i64 p.ge] 25)).alloc (.cells #[.int .i64 p.ai, .int .i64 p.aq, .int .i64 p.ah, .int .i64 p.an, .int .i64 p.ae, .string p.ax, .int .i64 p.ak, .int .i64 p.ab, .bool p.af, .int .i64 p.ad, .string p.aw] 29)).alloc (.cells #[.int .i64 p.rs, .int .i64 p.rq, .int .i64 p.rh, .int .i64 p.rn, .int .i64 p.rw, .int .i64 p.re, .slice p.ra p.rl.length p.rc, .bool p.rb] 32)) (.cells #[.int .i64 p.ss, .int .i64 p.sq] 34); rw [show ((((w.alloc (.cells #[.int .i64 p.hw, .int .i64 p.hl] 23)).alloc (.cells #[.int .i64 p.gw, .int .i64 p.gl, .int .i64 p.ge] 25)).alloc (.cells #[.int .i64 p.ai, .int .i64 p.aq, .int .i64 p.ah, .int .i64 p.an, .int .i64 p.ae, .string p.ax, .int .i64 p.ak, .int .i64 p.ab, .bool p.af, .int .i64 p.ad, .string p.aw] 29)).alloc (.cells #[.int .i64 p.rs, .int .i64 p.rq, .int .i64 p.rh, .int .i64 p.rn, .int .i64 p.rw, .int .i64 p.re, .slice p.ra p.rl.length p.rc, .bool p.rb] 32)).heap.size = w.heap.size + 1 + 1 + 1 + 1 from by simp] at q; exact q)
  obtain ⟨W, hW⟩ : ∃ W, (((((w.alloc (.cells #[.int .i64 p.hw, .int .i64 p.hl] 23)).alloc (.cells #[.int .i64 p.gw, .int .i64 p.gl, .int .i64 p.ge] 25)).alloc (.cells #[.int .i64 p.ai, .int .i64 p.aq, .int .i64 p.ah, .int .i64 p.an, .int .i64 p.ae, .string p.ax, .int .i64 p.ak, .int .i64 p.ab, .bool p.af, .int .i64 p.ad, .string p.aw] 29)).alloc (.cells #[.int .i64 p.rs, .int .i64 p.rq, .int .i64 p.rh, .int .i64 p.rn, .int .i64 p.rw, .int .i64 p.re, .slice p.ra p.rl.length p.rc, .bool p.rb] 32)).alloc (.cells #[.int .i64 p.ss, .int .i64 p.sq] 34)) = W := ⟨_, rfl⟩
  rw [hW] at HB HXh HXg HXa HXr HXs
  have th0 : W.cell? ⟨w.heap.size, 0, none⟩ = some (.int .i64 p.hw) := HXh.out.cell 0
  have th1 : W.cell? ⟨w.heap.size, 1, none⟩ = some (.int .i64 p.hl) := HXh.out.cell 1
  have tg0 : W.cell? ⟨w.heap.size + 1, 0, none⟩ = some (.int .i64 p.gw) := HXg.out.cell 0
  have tg1 : W.cell? ⟨w.heap.size + 1, 1, none⟩ = some (.int .i64 p.gl) := HXg.out.cell 1
  have tg2 : W.cell? ⟨w.heap.size + 1, 2, none⟩ = some (.int .i64 p.ge) := HXg.out.cell 2
  have ta0 : W.cell? ⟨w.heap.size + 1 + 1, 0, none⟩ = some (.int .i64 p.ai) := HXa.out.cell 0
  have ta1 : W.cell? ⟨w.heap.size + 1 + 1, 1, none⟩ = some (.int .i64 p.aq) := HXa.out.cell 1
  have ta2 : W.cell? ⟨w.heap.size + 1 + 1, 2, none⟩ = some (.int .i64 p.ah) := HXa.out.cell 2
  have ta3 : W.cell? ⟨w.heap.size + 1 + 1, 3, none⟩ = some (.int .i64 p.an) := HXa.out.cell 3
  have ta4 : W.cell? ⟨w.heap.size + 1 + 1, 4, none⟩ = some (.int .i64 p.ae) := HXa.out.cell 4
  have ta5 : W.cell? ⟨w.heap.size + 1 + 1, 5, none⟩ = some (.string p.ax) := HXa.out.cell 5
  have ta6 : W.cell? ⟨w.heap.size + 1 + 1, 6, none⟩ = some (.int .i64 p.ak) := HXa.out.cell 6
  have ta7 : W.cell? ⟨w.heap.size + 1 + 1, 7, none⟩ = some (.int .i64 p.ab) := HXa.out.cell 7
  have ta8 : W.cell? ⟨w.heap.size + 1 + 1, 8, none⟩ = some (.bool p.af) := HXa.out.cell 8
  have ta9 : W.cell? ⟨w.heap.size + 1 + 1, 9, none⟩ = some (.int .i64 p.ad) := HXa.out.cell 9
  have ta10 : W.cell? ⟨w.heap.size + 1 + 1, 10, none⟩ = some (.string p.aw) := HXa.out.cell 10
  have tr0 : W.cell? ⟨w.heap.size + 1 + 1 + 1, 0, none⟩ = some (.int .i64 p.rs) := HXr.out.cell 0
  have tr1 : W.cell? ⟨w.heap.size + 1 + 1 + 1, 1, none⟩ = some (.int .i64 p.rq) := HXr.out.cell 1
  have tr2 : W.cell? ⟨w.heap.size + 1 + 1 + 1, 2, none⟩ = some (.int .i64 p.rh) := HXr.out.cell 2
  have tr3 : W.cell? ⟨w.heap.size + 1 + 1 + 1, 3, none⟩ = some (.int .i64 p.rn) := HXr.out.cell 3
  have tr4 : W.cell? ⟨w.heap.size + 1 + 1 + 1, 4, none⟩ = some (.int .i64 p.rw) := HXr.out.cell 4
  have tr5 : W.cell? ⟨w.heap.size + 1 + 1 + 1, 5, none⟩ = some (.int .i64 p.re) := HXr.out.cell 5
  have tr6 : W.cell? ⟨w.heap.size + 1 + 1 + 1, 6, none⟩ = some (.slice p.ra p.rl.length p.rc) := HXr.out.cell 6
  have tr7 : W.cell? ⟨w.heap.size + 1 + 1 + 1, 7, none⟩ = some (.bool p.rb) := HXr.out.cell 7
  have ts0 : W.cell? ⟨w.heap.size + 1 + 1 + 1 + 1, 0, none⟩ = some (.int .i64 p.ss) := HXs.out.cell 0
  have ts1 : W.cell? ⟨w.heap.size + 1 + 1 + 1 + 1, 1, none⟩ = some (.int .i64 p.sq) := HXs.out.cell 1
  have HGR := Lib.hid (great_any p W (HP.out.below HB.out))
  go_enter Try.func3, Try.ntmps3
  go_wp2_with (rw [hW])
  clear hW
  refine HGR.out.mono ?_
  rintro e w1 ⟨rfl, hb⟩
  clear HGR
  have HB1 := Lib.hid (HB.out.trans (hb.mono HB.out.size))
  have HXh1 := Lib.hid (HXh.out.below hb HXh.out.lt)
  have HXg1 := Lib.hid (HXg.out.below hb HXg.out.lt)
  have HXa1 := Lib.hid (HXa.out.below hb HXa.out.lt)
  have HXr1 := Lib.hid (HXr.out.below hb HXr.out.lt)
  have HXs1 := Lib.hid (HXs.out.below hb HXs.out.lt)
  clear th0 th1 tg0 tg1 tg2 ta0 ta1 ta2 ta3 ta4 ta5 ta6 ta7 ta8 ta9 ta10 tr0 tr1 tr2 tr3 tr4 tr5 tr6 tr7 ts0 ts1
  clear hb HB HXh HXg HXa HXr HXs
  cases hg : p.great
  rotate_left 1
  · go_wp2_with fail
    refine (HAW.out _).mono ?_
    rintro e w9 ⟨rfl, hb⟩
    have HB9 := Lib.hid (HB1.out.trans (hb.mono HB1.out.size))
    clear hb
    go_wp2_with fail
    go_ret
    exact ⟨rfl, HB9.out⟩
  have HT := Lib.hid (one_tiny (k := k) hg)
  have hl80 := (great_items hg).1
  clear hg
  have tr6 : w1.cell? ⟨w.heap.size + 1 + 1 + 1, 6, none⟩ = some (.slice p.ra p.rl.length p.rc) := HXr1.out.cell 6
  go_wp2_with fail
  refine (lendI_any p.ra p.rl.length p.rc p.rl w1 (HP.out.below HB1.out).1 (by omega)).mono ?_
  rintro e w2 ⟨rfl, hkb, hb⟩
  clear tr6
  obtain ⟨q, hq⟩ : ∃ q, w1.heap.size = q := ⟨_, rfl⟩
  have hqs : w.heap.size + 1 + 1 + 1 + 1 < q := by rw [← hq]; exact HXs1.out.lt
  rw [hq] at hkb ⊢
  have HXh2 := Lib.hid (HXh1.out.below hb HXh1.out.lt)
  have HXg2 := Lib.hid (HXg1.out.below hb HXg1.out.lt)
  have HXa2 := Lib.hid (HXa1.out.below hb HXa1.out.lt)
  have HXr2 := Lib.hid (HXr1.out.below hb HXr1.out.lt)
  have HXs2 := Lib.hid (HXs1.out.below hb HXs1.out.lt)
  have HB2 := Lib.hid (HB1.out.trans (hb.mono HB1.out.size))
  have HK2 := Lib.hid hkb
  clear hb hkb hq HB1 HXh1 HXg1 HXa1 HXr1 HXs1
  have fz := fz_of (o := 6) HXr2.out
  have tr6 : w2.cell? ⟨w.heap.size + 1 + 1 + 1, 6, none⟩ = some (.slice p.ra p.rl.length p.rc) := HXr2.out.cell 6
  obtain ⟨w3, hw3⟩ : ∃ w3, w2.setCell ⟨w.heap.size + 1 + 1 + 1, 6, none⟩ (.slice (some ⟨q, 0, none⟩) p.rl.length (p.rl.length + 3)) = w3 := ⟨_, rfl⟩
  have HXr3 := Lib.hid (show Blk w3 (w.heap.size + 1 + 1 + 1) 32 [.int .i64 p.rs, .int .i64 p.rq, .int .i64 p.rh, .int .i64 p.rn, .int .i64 p.rw, .int .i64 p.re, .slice (some ⟨q, 0, none⟩) p.rl.length (p.rl.length + 3), .bool p.rb] from hw3 ▸ HXr2.out.set 6 (.slice (some ⟨q, 0, none⟩) p.rl.length (p.rl.length + 3)))
  have HXh3 := Lib.hid (show Blk w3 (w.heap.size) 23 [.int .i64 p.hw, .int .i64 p.hl] from hw3 ▸ HXh2.out.far ⟨w.heap.size + 1 + 1 + 1, 6, none⟩ _ (by show w.heap.size ≠ w.heap.size + 1 + 1 + 1; omega))
  have HXg3 := Lib.hid (show Blk w3 (w.heap.size + 1) 25 [.int .i64 p.gw, .int .i64 p.gl, .int .i64 p.ge] from hw3 ▸ HXg2.out.far ⟨w.heap.size + 1 + 1 + 1, 6, none⟩ _ (by show w.heap.size + 1 ≠ w.heap.size + 1 + 1 + 1; omega))
  have HXa3 := Lib.hid (show Blk w3 (w.heap.size + 1 + 1) 29 [.int .i64 p.ai, .int .i64 p.aq, .int .i64 p.ah, .int .i64 p.an, .int .i64 p.ae, .string p.ax, .int .i64 p.ak, .int .i64 p.ab, .bool p.af, .int .i64 p.ad, .string p.aw] from hw3 ▸ HXa2.out.far ⟨w.heap.size + 1 + 1 + 1, 6, none⟩ _ (by show w.heap.size + 1 + 1 ≠ w.heap.size + 1 + 1 + 1; omega))
  have HXs3 := Lib.hid (show Blk w3 (w.heap.size + 1 + 1 + 1 + 1) 34 [.int .i64 p.ss, .int .i64 p.sq] from hw3 ▸ HXs2.out.far ⟨w.heap.size + 1 + 1 + 1, 6, none⟩ _ (by show w.heap.size + 1 + 1 + 1 + 1 ≠ w.heap.size + 1 + 1 + 1; omega))
  have HK3 := Lib.hid (show Blk w3 q 27 (p.rl.flatMap KeyL.cells ++ marksI 3) from hw3 ▸ HK2.out.far ⟨w.heap.size + 1 + 1 + 1, 6, none⟩ _ (by show q ≠ w.heap.size + 1 + 1 + 1; omega))
  have HB3 := Lib.hid (show Below w.heap.size w w3 from hw3 ▸ HB2.out.setCell (show w.heap.size ≤ w.heap.size + 1 + 1 + 1 by omega) _)
  have HQ := Lib.hid hw3
  clear hw3 HB2 HK2 HXh2 HXg2 HXa2 HXr2 HXs2
  have th0 : w3.cell? ⟨w.heap.size, 0, none⟩ = some (.int .i64 p.hw) := HXh3.out.cell 0
  have th1 : w3.cell? ⟨w.heap.size, 1, none⟩ = some (.int .i64 p.hl) := HXh3.out.cell 1
  have tg0 : w3.cell? ⟨w.heap.size + 1, 0, none⟩ = some (.int .i64 p.gw) := HXg3.out.cell 0
  have tg1 : w3.cell? ⟨w.heap.size + 1, 1, none⟩ = some (.int .i64 p.gl) := HXg3.out.cell 1
  have tg2 : w3.cell? ⟨w.heap.size + 1, 2, none⟩ = some (.int .i64 p.ge) := HXg3.out.cell 2
  have ta0 : w3.cell? ⟨w.heap.size + 1 + 1, 0, none⟩ = some (.int .i64 p.ai) := HXa3.out.cell 0
  have ta1 : w3.cell? ⟨w.heap.size + 1 + 1, 1, none⟩ = some (.int .i64 p.aq) := HXa3.out.cell 1
  have ta2 : w3.cell? ⟨w.heap.size + 1 + 1, 2, none⟩ = some (.int .i64 p.ah) := HXa3.out.cell 2
  have ta3 : w3.cell? ⟨w.heap.size + 1 + 1, 3, none⟩ = some (.int .i64 p.an) := HXa3.out.cell 3
  have ta4 : w3.cell? ⟨w.heap.size + 1 + 1, 4, none⟩ = some (.int .i64 p.ae) := HXa3.out.cell 4
  have ta5 : w3.cell? ⟨w.heap.size + 1 + 1, 5, none⟩ = some (.string p.ax) := HXa3.out.cell 5
  have ta6 : w3.cell? ⟨w.heap.size + 1 + 1, 6, none⟩ = some (.int .i64 p.ak) := HXa3.out.cell 6
  have ta7 : w3.cell? ⟨w.heap.size + 1 + 1, 7, none⟩ = some (.int .i64 p.ab) := HXa3.out.cell 7
  have ta8 : w3.cell? ⟨w.heap.size + 1 + 1, 8, none⟩ = some (.bool p.af) := HXa3.out.cell 8
  have ta9 : w3.cell? ⟨w.heap.size + 1 + 1, 9, none⟩ = some (.int .i64 p.ad) := HXa3.out.cell 9
  have ta10 : w3.cell? ⟨w.heap.size + 1 + 1, 10, none⟩ = some (.string p.aw) := HXa3.out.cell 10
  have tr0 : w3.cell? ⟨w.heap.size + 1 + 1 + 1, 0, none⟩ = some (.int .i64 p.rs) := HXr3.out.cell 0
  have tr1 : w3.cell? ⟨w.heap.size + 1 + 1 + 1, 1, none⟩ = some (.int .i64 p.rq) := HXr3.out.cell 1
  have tr2 : w3.cell? ⟨w.heap.size + 1 + 1 + 1, 2, none⟩ = some (.int .i64 p.rh) := HXr3.out.cell 2
  have tr3 : w3.cell? ⟨w.heap.size + 1 + 1 + 1, 3, none⟩ = some (.int .i64 p.rn) := HXr3.out.cell 3
  have tr4 : w3.cell? ⟨w.heap.size + 1 + 1 + 1, 4, none⟩ = some (.int .i64 p.rw) := HXr3.out.cell 4
  have tr5 : w3.cell? ⟨w.heap.size + 1 + 1 + 1, 5, none⟩ = some (.int .i64 p.re) := HXr3.out.cell 5
  have tr6 : w3.cell? ⟨w.heap.size + 1 + 1 + 1, 6, none⟩ = some (.slice (some ⟨q, 0, none⟩) p.rl.length (p.rl.length + 3)) := HXr3.out.cell 6
  have tr7 : w3.cell? ⟨w.heap.size + 1 + 1 + 1, 7, none⟩ = some (.bool p.rb) := HXr3.out.cell 7
  have ts0 : w3.cell? ⟨w.heap.size + 1 + 1 + 1 + 1, 0, none⟩ = some (.int .i64 p.ss) := HXs3.out.cell 0
  have ts1 : w3.cell? ⟨w.heap.size + 1 + 1 + 1 + 1, 1, none⟩ = some (.int .i64 p.sq) := HXs3.out.cell 1
  have HL2 := Lib.hid (show (p.lent q).ok w3 from ⟨Blk.rdE (enc := KeyL.cells) (size := 2) (fun _ => rfl) HK3.out (p.rl.length + 3) (by omega) (by unfold maxLen; omega), HP.out.2⟩)
  have HON := Lib.hid (show Calls Try.prog 13 #[.int .i64 k, .agg #[.int .i64 p.hw, .int .i64 p.hl], .agg #[.int .i64 p.gw, .int .i64 p.gl, .int .i64 p.ge], .agg #[.int .i64 p.ai, .int .i64 p.aq, .int .i64 p.ah, .int .i64 p.an, .int .i64 p.ae, .string p.ax, .int .i64 p.ak, .int .i64 p.ab, .bool p.af, .int .i64 p.ad, .string p.aw], .agg #[.int .i64 p.rs, .int .i64 p.rq, .int .i64 p.rh, .int .i64 p.rn, .int .i64 p.rw, .int .i64 p.re, .slice (some ⟨q, 0, none⟩) p.rl.length (p.rl.length + 3), .bool p.rb], .agg #[.int .i64 p.ss, .int .i64 p.sq]] w3 fun e w' => ∃ u, e = .returned u ∧ (p.one k).At w' u ∧ Below w3.heap.size w3 w' from oneM_any (p.lent q) k w3 HL2.out hk)
  go_wp2_with (rw [HQ.out])
  refine HON.out.mono ?_
  clear HON
  rintro e w4 ⟨u, rfl, hu, hb⟩
  have HU4 := Lib.hid hu
  have HK4 := Lib.hid (HK3.out.below hb HK3.out.lt)
  have HB4 := Lib.hid (HB3.out.trans (hb.mono HB3.out.size))
  clear hu hb HQ HL2 HB3 HK3 fz tr6 HXh3 HXg3 HXa3 HXr3 HXs3 th0 th1 tg0 tg1 tg2 ta0 ta1 ta2 ta3 ta4 ta5 ta6 ta7 ta8 ta9 ta10 tr0 tr1 tr2 tr3 tr4 tr5 tr7 ts0 ts1
  generalize p.one k = mm at *
  have HMY := Lib.hid (fun W (h : mm.At W u) => mmay_any mm u W h HT.out.short.small)
  have HKI := Lib.hid (fun W (h : mm.At W u) => mkind_any mm u W h)
  have HOF := Lib.hid (fun W (h : mm.At W u) => of15_any mm u W h HT.out.short)
  have HBS := Lib.hid HB4.out.size
  cases hm : mm.may
  · have HE := Lib.hid (mencode_no mm u w4 HU4.out HT.out.short.small hm)
    go_wp2_with fail
    refine HE.out.mono ?_
    clear HE
    rintro e w5 ⟨rfl, hb⟩
    have HU5 := Lib.hid (HU4.out.below hb)
    have HK5 := Lib.hid (HK4.out.below hb HK4.out.lt)
    have HB5 := Lib.hid (HB4.out.trans (hb.mono HB4.out.size))
    clear hb
    clear HU4 HK4 HB4
    go_wp2_with fail
    refine (HOF.out _ HU5.out).mono ?_
    rintro e w6 ⟨p6, k6, rfl, hk6, hy6, hn6, hf6, hb⟩
    have hkm6 : (p6.kd k6).may = mm.may := by cases hi : mm.isMsg; (rw [hn6 hi, isMsg_no hi]; rfl); rw [hy6 hi]
    have HU6 := Lib.hid (HU5.out.below hb)
    have HK6 := Lib.hid (HK5.out.below hb HK5.out.lt)
    have HB6 := Lib.hid (HB5.out.trans (hb.mono HB5.out.size))
    clear hb
    clear HU5 HK5 HB5
    have HE := Lib.hid (rencode_no p6 k6 w6 hf6 (hkm6.trans hm))
    clear hk6 hy6 hn6 hf6 hkm6
    go_wp2_with fail
    refine HE.out.mono ?_
    clear HE
    rintro e w7 ⟨rfl, hb⟩
    have HU7 := Lib.hid (HU6.out.below hb)
    have HK7 := Lib.hid (HK6.out.below hb HK6.out.lt)
    have HB7 := Lib.hid (HB6.out.trans (hb.mono HB6.out.size))
    clear hb
    clear HU6 HK6 HB6
    go_wp2_with fail
    refine (sameB_any none 0 0 none 0 0 [] [] w7 (rd_nil _ _ rfl) (rd_nil _ _ rfl)).mono ?_
    rintro e w8 ⟨rfl, hd⟩
    have hb := hd.below w7.heap.size
    rw [eqL_self]
    have HU8 := Lib.hid (HU7.out.below hb)
    have HK8 := Lib.hid (HK7.out.below hb HK7.out.lt)
    have HB8 := Lib.hid (HB7.out.trans (hb.mono HB7.out.size))
    clear hd hb
    clear HU7 HK7 HB7
    go_wp2_with fail
    refine (num15_any _ _).mono ?_
    rintro e w' ⟨rfl, rfl⟩
    go_wp2_with fail
    refine (HMY.out _ HU8.out).mono ?_
    rintro e w9 ⟨rfl, hb⟩
    have HU9 := Lib.hid (HU8.out.below hb)
    have HK9 := Lib.hid (HK8.out.below hb HK8.out.lt)
    have HB9 := Lib.hid (HB8.out.trans (hb.mono HB8.out.size))
    clear hb
    clear HU8 HK8 HB8
    go_wp2_with fail
    refine (HOF.out _ HU9.out).mono ?_
    rintro e w10 ⟨p10, k10, rfl, hk10, hy10, hn10, hf10, hb⟩
    have hkm10 : (p10.kd k10).may = mm.may := by cases hi : mm.isMsg; (rw [hn10 hi, isMsg_no hi]; rfl); rw [hy10 hi]
    have HU10 := Lib.hid (HU9.out.below hb)
    have HK10 := Lib.hid (HK9.out.below hb HK9.out.lt)
    have HB10 := Lib.hid (HB9.out.trans (hb.mono HB9.out.size))
    clear hb
    clear HU9 HK9 HB9
    have HRM := Lib.hid (rmay_any p10 k10 w10 hf10)
    rw [hkm10] at HRM
    clear hk10 hy10 hn10 hf10 hkm10
    go_wp2_with fail
    refine HRM.out.mono ?_
    clear HRM
    rintro e w11 ⟨rfl, hb⟩
    have HU11 := Lib.hid (HU10.out.below hb)
    have HK11 := Lib.hid (HK10.out.below hb HK10.out.lt)
    have HB11 := Lib.hid (HB10.out.trans (hb.mono HB10.out.size))
    clear hb
    clear HU10 HK10 HB10
    rw [hm]
    go_wp2_with fail
    refine (HKI.out _ HU11.out).mono ?_
    rintro e w12 ⟨rfl, hb⟩
    have HU12 := Lib.hid (HU11.out.below hb)
    have HK12 := Lib.hid (HK11.out.below hb HK11.out.lt)
    have HB12 := Lib.hid (HB11.out.trans (hb.mono HB11.out.size))
    clear hb
    clear HU11 HK11 HB11
    go_wp2_with fail
    refine (HOF.out _ HU12.out).mono ?_
    rintro e w13 ⟨p13, k13, rfl, hk13, hy13, hn13, hf13, hb⟩
    have HU13 := Lib.hid (HU12.out.below hb)
    have HK13 := Lib.hid (HK12.out.below hb HK12.out.lt)
    have HB13 := Lib.hid (HB12.out.trans (hb.mono HB12.out.size))
    clear hb hy13 hn13 hf13
    clear HU12 HK12 HB12
    subst hk13
    have hfd := msg_field0 p13 mm.kind w13
    unfold P5.msg at hfd ⊢
    go_wp2_with (rw [hfd])
    clear hfd
    refine (mkind_any (.other 53 (.pointer (some ⟨w.heap.size, 0, none⟩))) _ w13 ⟨rfl, by decide, by decide, by decide, by decide, by decide⟩).mono ?_
    rintro e w14 ⟨rfl, hb⟩
    have HU14 := Lib.hid (HU13.out.below hb)
    have HK14 := Lib.hid (HK13.out.below hb HK13.out.lt)
    have HB14 := Lib.hid (HB13.out.trans (hb.mono HB13.out.size))
    clear hb
    clear HU13 HK13 HB13
    rw [show MV.kind (.other 53 (.pointer (some ⟨w.heap.size, 0, none⟩))) = 0 from rfl]
    go_wp2_with fail
    refine (mmay_any .nil .nilIface w14 rfl trivial).mono ?_
    rintro e w15 ⟨rfl, hb⟩
    have HU15 := Lib.hid (HU14.out.below hb)
    have HK15 := Lib.hid (HK14.out.below hb HK14.out.lt)
    have HB15 := Lib.hid (HB14.out.trans (hb.mono HB14.out.size))
    clear hb
    clear HU14 HK14 HB14
    rw [show MV.may .nil = false from rfl]
    go_wp2_with fail
    refine (over_any none 0 0 w15.heap.size [] w15 (World.ownsRow_nil _ _ _ _) (Nat.le_refl _) (by decide)).mono ?_
    rintro e w16 ⟨rfl, hgr⟩
    have HK16 := Lib.hid (show Blk w16 q 27 (p.rl.flatMap KeyL.cells ++ marksI 3) from (hgr.block q HK15.out.lt (fun e => by cases e)).trans HK15.out)
    have HB16 := Lib.hid (HB15.out.grown hgr HB15.out.size (fun k hk => by cases hk))
    clear hgr HB15 HK15
    go_wp2_with fail
    refine (keptI_any q p.ra p.rl.length p.rc p.rl p.rl w16 (by omega) HK16.out (HP.out.below HB16.out).1).mono ?_
    rintro e w17 ⟨rfl, hd⟩
    have hb := hd.below w16.heap.size
    have HB17 := Lib.hid (HB16.out.trans (hb.mono HB16.out.size))
    clear hd hb
    rw [show eqIs p.rl p.rl = true from by simp [eqIs]]
    go_wp2_with fail
    refine (HAW.out _).mono ?_
    rintro e w9 ⟨rfl, hb⟩
    have HB9 := Lib.hid (HB17.out.trans (hb.mono HB17.out.size))
    clear hb
    go_wp2_with fail
    go_ret
    exact ⟨rfl, HB9.out⟩
  · have HE := Lib.hid (mencode_yes mm u w4 HU4.out HT.out.short hm)
    have hisM := may_isMsg hm
    obtain ⟨fl, hfl⟩ : ∃ fl, encL mm = fl := ⟨_, rfl⟩
    rw [hfl] at HE
    have HLB := Lib.hid (show fl.length ≤ 1024 from by rw [← hfl]; exact enc_size hm HT.out)
    go_wp2_with fail
    refine HE.out.mono ?_
    clear HE
    rintro e w5 ⟨a5, c5, rfl, ho, hb⟩
    have HU5 := Lib.hid (HU4.out.below hb)
    have HK5 := Lib.hid (HK4.out.below hb HK4.out.lt)
    have HB5 := Lib.hid (HB4.out.trans (hb.mono HB4.out.size))
    have HO5 := Lib.hid (own0 ho (Nat.le_trans (show w.heap.size ≤ w4.heap.size from HBS.out) (Nat.le_refl _)))
    clear hb ho
    clear HU4 HK4 HB4
    go_wp2_with fail
    refine (HOF.out _ HU5.out).mono ?_
    rintro e w6 ⟨p6, k6, rfl, hk6, hy6, hn6, hf6, hb⟩
    have hkm6 : (p6.kd k6).may = mm.may := by cases hi : mm.isMsg; (rw [hn6 hi, isMsg_no hi]; rfl); rw [hy6 hi]
    have HU6 := Lib.hid (HU5.out.below hb)
    have HK6 := Lib.hid (HK5.out.below hb HK5.out.lt)
    have HB6 := Lib.hid (HB5.out.trans (hb.mono HB5.out.size))
    have HO6 := Lib.hid (ownsRow_below HO5.out hb)
    clear HO5
    clear hb
    clear HU5 HK5 HB5
    have HE := Lib.hid (rencode_yes p6 k6 w6 hf6 (hkm6.trans hm))
    rw [hy6 hisM, hfl] at HE
    clear hk6 hy6 hn6 hf6 hkm6
    go_wp2_with fail
    refine HE.out.mono ?_
    clear HE
    rintro e w7 ⟨a7, c7, rfl, ho, hb⟩
    have HU7 := Lib.hid (HU6.out.below hb)
    have HK7 := Lib.hid (HK6.out.below hb HK6.out.lt)
    have HB7 := Lib.hid (HB6.out.trans (hb.mono HB6.out.size))
    have HO7 := Lib.hid (ownsRow_below HO6.out hb)
    clear HO6
    have HQ7 := Lib.hid ho
    clear hb ho
    clear HU6 HK6 HB6
    go_wp2_with fail
    refine (sameB_any a5 fl.length c5 a7 fl.length c7 fl fl w7 (ownsRow_rd HO7.out) (ownsRow_rd HQ7.out)).mono ?_
    rintro e w8 ⟨rfl, hd⟩
    have hb := hd.below w7.heap.size
    rw [eqL_self]
    have HU8 := Lib.hid (HU7.out.below hb)
    have HK8 := Lib.hid (HK7.out.below hb HK7.out.lt)
    have HB8 := Lib.hid (HB7.out.trans (hb.mono HB7.out.size))
    have HO8 := Lib.hid (ownsRow_below HO7.out hb)
    clear HO7
    clear hd hb HQ7
    clear HU7 HK7 HB7
    go_wp2_with fail
    refine (num15_any _ _).mono ?_
    rintro e w' ⟨rfl, rfl⟩
    go_wp2_with fail
    refine (HMY.out _ HU8.out).mono ?_
    rintro e w9 ⟨rfl, hb⟩
    have HU9 := Lib.hid (HU8.out.below hb)
    have HK9 := Lib.hid (HK8.out.below hb HK8.out.lt)
    have HB9 := Lib.hid (HB8.out.trans (hb.mono HB8.out.size))
    have HO9 := Lib.hid (ownsRow_below HO8.out hb)
    clear HO8
    clear hb
    clear HU8 HK8 HB8
    go_wp2_with fail
    refine (HOF.out _ HU9.out).mono ?_
    rintro e w10 ⟨p10, k10, rfl, hk10, hy10, hn10, hf10, hb⟩
    have hkm10 : (p10.kd k10).may = mm.may := by cases hi : mm.isMsg; (rw [hn10 hi, isMsg_no hi]; rfl); rw [hy10 hi]
    have HU10 := Lib.hid (HU9.out.below hb)
    have HK10 := Lib.hid (HK9.out.below hb HK9.out.lt)
    have HB10 := Lib.hid (HB9.out.trans (hb.mono HB9.out.size))
    have HO10 := Lib.hid (ownsRow_below HO9.out hb)
    clear HO9
    clear hb
    clear HU9 HK9 HB9
    have HRM := Lib.hid (rmay_any p10 k10 w10 hf10)
    rw [hkm10] at HRM
    clear hk10 hy10 hn10 hf10 hkm10
    go_wp2_with fail
    refine HRM.out.mono ?_
    clear HRM
    rintro e w11 ⟨rfl, hb⟩
    have HU11 := Lib.hid (HU10.out.below hb)
    have HK11 := Lib.hid (HK10.out.below hb HK10.out.lt)
    have HB11 := Lib.hid (HB10.out.trans (hb.mono HB10.out.size))
    have HO11 := Lib.hid (ownsRow_below HO10.out hb)
    clear HO10
    clear hb
    clear HU10 HK10 HB10
    rw [hm]
    go_wp2_with fail
    refine (HKI.out _ HU11.out).mono ?_
    rintro e w12 ⟨rfl, hb⟩
    have HU12 := Lib.hid (HU11.out.below hb)
    have HK12 := Lib.hid (HK11.out.below hb HK11.out.lt)
    have HB12 := Lib.hid (HB11.out.trans (hb.mono HB11.out.size))
    have HO12 := Lib.hid (ownsRow_below HO11.out hb)
    clear HO11
    clear hb
    clear HU11 HK11 HB11
    go_wp2_with fail
    refine (HOF.out _ HU12.out).mono ?_
    rintro e w13 ⟨p13, k13, rfl, hk13, hy13, hn13, hf13, hb⟩
    have HU13 := Lib.hid (HU12.out.below hb)
    have HK13 := Lib.hid (HK12.out.below hb HK12.out.lt)
    have HB13 := Lib.hid (HB12.out.trans (hb.mono HB12.out.size))
    have HO13 := Lib.hid (ownsRow_below HO12.out hb)
    clear HO12
    clear hb hy13 hn13 hf13
    clear HU12 HK12 HB12
    subst hk13
    have hfd := msg_field0 p13 mm.kind w13
    unfold P5.msg at hfd ⊢
    go_wp2_with (rw [hfd])
    clear hfd
    refine (mkind_any (.other 53 (.pointer (some ⟨w.heap.size, 0, none⟩))) _ w13 ⟨rfl, by decide, by decide, by decide, by decide, by decide⟩).mono ?_
    rintro e w14 ⟨rfl, hb⟩
    have HU14 := Lib.hid (HU13.out.below hb)
    have HK14 := Lib.hid (HK13.out.below hb HK13.out.lt)
    have HB14 := Lib.hid (HB13.out.trans (hb.mono HB13.out.size))
    have HO14 := Lib.hid (ownsRow_below HO13.out hb)
    clear HO13
    clear hb
    clear HU13 HK13 HB13
    rw [show MV.kind (.other 53 (.pointer (some ⟨w.heap.size, 0, none⟩))) = 0 from rfl]
    go_wp2_with fail
    refine (mmay_any .nil .nilIface w14 rfl trivial).mono ?_
    rintro e w15 ⟨rfl, hb⟩
    have HU15 := Lib.hid (HU14.out.below hb)
    have HK15 := Lib.hid (HK14.out.below hb HK14.out.lt)
    have HB15 := Lib.hid (HB14.out.trans (hb.mono HB14.out.size))
    have HO15 := Lib.hid (ownsRow_below HO14.out hb)
    clear HO14
    clear hb
    clear HU14 HK14 HB14
    rw [show MV.may .nil = false from rfl]
    go_wp2_with fail
    refine (over_any a5 fl.length c5 _ (u8s fl) w15 HO15.out HB15.out.size (by have := HLB.out; omega)).mono ?_
    rintro e w16 ⟨rfl, hgr⟩
    have HK16 := Lib.hid (show Blk w16 q 27 (p.rl.flatMap KeyL.cells ++ marksI 3) from (hgr.block q HK15.out.lt (fun e => ownsRow_ne HO15.out HK15.out (by decide) q e.symm rfl)).trans HK15.out)
    have HB16 := Lib.hid (HB15.out.grown hgr HB15.out.size (fun k hk => (HO15.out.lt k hk).1))
    clear hgr HO15 HB15 HK15
    go_wp2_with fail
    refine (keptI_any q p.ra p.rl.length p.rc p.rl p.rl w16 (by omega) HK16.out (HP.out.below HB16.out).1).mono ?_
    rintro e w17 ⟨rfl, hd⟩
    have hb := hd.below w16.heap.size
    have HB17 := Lib.hid (HB16.out.trans (hb.mono HB16.out.size))
    clear hd hb
    rw [show eqIs p.rl p.rl = true from by simp [eqIs]]
    go_wp2_with fail
    refine (HAW.out _).mono ?_
    rintro e w9 ⟨rfl, hb⟩
    have HB9 := Lib.hid (HB17.out.trans (hb.mono HB17.out.size))
    clear hb
    go_wp2_with fail
    go_ret
    exact ⟨rfl, HB9.out⟩
end Go.Proofs.Ytjhkdbcfkaaffaa
