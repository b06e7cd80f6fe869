/- Messages as values of an interface; msg.May, msg.Kind. -/
import Derived.Test.YtjhkdbcfkaaffaaMm1
namespace Go.Proofs.Ytjhkdbcfkaaffaa
open Go.RowKit
set_option linter.unusedVariables false

inductive MV where
  | hello (w0 l0 : Int)
  | grant (w0 l0 e0 : Int)
  | ask (s q h sq ep : Int) (tx : ByteArray) (k b : Int) (f : Bool) (d : Int) (wd : ByteArray)
  | reply (s q h sq wk ep : Int) (l : List KeyL) (en : Bool)
  | stop (s q : Int)
  | other (t : TypeId) (v : Value)
  | nil
/-- the message lies so in the world (a Reply's items in a row) -/
def MV.At (w : World) (u : Value) : MV → Prop
  | .hello w0 l0 => u = .iface 23 (.agg #[.int .i64 w0, .int .i64 l0])
  | .grant w0 l0 e0 => u = .iface 25 (.agg #[.int .i64 w0, .int .i64 l0, .int .i64 e0])
  | .ask s q h sq ep tx k b f d wd => u = .iface 29 (.agg #[.int .i64 s, .int .i64 q, .int .i64 h, .int .i64 sq, .int .i64 ep, .string tx, .int .i64 k, .int .i64 b, .bool f, .int .i64 d, .string wd])
  | .stop s q => u = .iface 34 (.agg #[.int .i64 s, .int .i64 q])
  | .reply s q h sq wk ep l en => ∃ a c, u = .iface 32 (.agg #[.int .i64 s, .int .i64 q, .int .i64 h, .int .i64 sq, .int .i64 wk, .int .i64 ep, .slice a l.length c, .bool en]) ∧ RdE KeyL.cells 2 w a l.length c l
  | .other t v => u = .iface t v ∧ t ≠ 23 ∧ t ≠ 25 ∧ t ≠ 29 ∧ t ≠ 32 ∧ t ≠ 34
  | .nil => u = .nilIface
/-- its texts are no greater than can be -/
def MV.small : MV → Prop
  | .ask s q h sq ep tx k b f d wd => tx.size ≤ maxLen ∧ wd.size ≤ maxLen
  | .reply s q h sq wk ep l en => ∀ x ∈ l, x.2.size ≤ maxLen
  | _ => True
def MV.may : MV → Bool
  | .hello w0 l0 => workerB w0 && withinL [l0]
  | .grant w0 l0 e0 => workerB w0 && withinL [l0, e0]
  | .ask s q h sq ep tx k b f d wd => askB s q h sq ep tx k b f d wd
  | .reply s q h sq wk ep l en => replyB s q h sq wk ep l
  | .stop s q => placeB s 0 && withinL [q]
  | _ => false
def MV.kind : MV → Int
  | .hello .. => 1
  | .grant .. => 2
  | .ask .. => 3
  | .reply .. => 4
  | .stop .. => 5
  | _ => 0
set_option maxRecDepth 100000 in
theorem MV.At.below {w w' : World} {u : Value} {m : MV} (h : m.At w u) (hb : Below w.heap.size w w') : m.At w' u := by
  cases m with
  | reply s q h0 sq wk ep l en =>
    obtain ⟨a, c, e, hr⟩ := h
    exact ⟨a, c, e, hr.below hb rfl⟩
  | _ => exact h
set_option maxRecDepth 100000 in
theorem ta_hello_hello (v : Value) (X : TypeId) (w : World) : (Instr.typeAssert (.iface 23 v) X 23 true).run Try.prog w = .ok (.tuple #[v, .bool true]) w := by kernel_rfl
set_option maxRecDepth 100000 in
theorem ta_hello_grant (v : Value) (X : TypeId) (w : World) : (Instr.typeAssert (.iface 25 v) X 23 true).run Try.prog w = .ok (.tuple #[.agg #[.int .i64 0, .int .i64 0], .bool false]) w := by kernel_rfl
set_option maxRecDepth 100000 in
theorem ta_hello_ask (v : Value) (X : TypeId) (w : World) : (Instr.typeAssert (.iface 29 v) X 23 true).run Try.prog w = .ok (.tuple #[.agg #[.int .i64 0, .int .i64 0], .bool false]) w := by kernel_rfl
set_option maxRecDepth 100000 in
theorem ta_hello_reply (v : Value) (X : TypeId) (w : World) : (Instr.typeAssert (.iface 32 v) X 23 true).run Try.prog w = .ok (.tuple #[.agg #[.int .i64 0, .int .i64 0], .bool false]) w := by kernel_rfl
set_option maxRecDepth 100000 in
theorem ta_hello_stop (v : Value) (X : TypeId) (w : World) : (Instr.typeAssert (.iface 34 v) X 23 true).run Try.prog w = .ok (.tuple #[.agg #[.int .i64 0, .int .i64 0], .bool false]) w := by kernel_rfl
set_option maxRecDepth 100000 in
theorem ta_hello_nil (X : TypeId) (w : World) : (Instr.typeAssert .nilIface X 23 true).run Try.prog w = .ok (.tuple #[.agg #[.int .i64 0, .int .i64 0], .bool false]) w := by kernel_rfl
set_option maxRecDepth 100000 in
theorem ta_hello_other (t : TypeId) (v : Value) (X : TypeId) (w : World) (h : t ≠ 23) : (Instr.typeAssert (.iface t v) X 23 true).run Try.prog w = .ok (.tuple #[.agg #[.int .i64 0, .int .i64 0], .bool false]) w := by
  have e : Nat.decEq t 23 = .isFalse h := Subsingleton.elim _ _
  have : (Instr.typeAssert (.iface t v) X 23 true).run Try.prog w = (fun d : Decidable (t = 23) => (@ite (Sem Value) (t = 23) d (pure (.tuple #[v, .bool true])) (do let z ← zeroValue 23; pure (.tuple #[z, .bool false]))).run Try.prog w) (Nat.decEq t 23) := by kernel_rfl
  rw [this, e]
  show _ = _
  kernel_rfl
set_option maxRecDepth 100000 in
theorem ta_grant_hello (v : Value) (X : TypeId) (w : World) : (Instr.typeAssert (.iface 23 v) X 25 true).run Try.prog w = .ok (.tuple #[.agg #[.int .i64 0, .int .i64 0, .int .i64 0], .bool false]) w := by kernel_rfl
set_option maxRecDepth 100000 in
theorem ta_grant_grant (v : Value) (X : TypeId) (w : World) : (Instr.typeAssert (.iface 25 v) X 25 true).run Try.prog w = .ok (.tuple #[v, .bool true]) w := by kernel_rfl
set_option maxRecDepth 100000 in
theorem ta_grant_ask (v : Value) (X : TypeId) (w : World) : (Instr.typeAssert (.iface 29 v) X 25 true).run Try.prog w = .ok (.tuple #[.agg #[.int .i64 0, .int .i64 0, .int .i64 0], .bool false]) w := by kernel_rfl
set_option maxRecDepth 100000 in
theorem ta_grant_reply (v : Value) (X : TypeId) (w : World) : (Instr.typeAssert (.iface 32 v) X 25 true).run Try.prog w = .ok (.tuple #[.agg #[.int .i64 0, .int .i64 0, .int .i64 0], .bool false]) w := by kernel_rfl
set_option maxRecDepth 100000 in
theorem ta_grant_stop (v : Value) (X : TypeId) (w : World) : (Instr.typeAssert (.iface 34 v) X 25 true).run Try.prog w = .ok (.tuple #[.agg #[.int .i64 0, .int .i64 0, .int .i64 0], .bool false]) w := by kernel_rfl
set_option maxRecDepth 100000 in
theorem ta_grant_nil (X : TypeId) (w : World) : (Instr.typeAssert .nilIface X 25 true).run Try.prog w = .ok (.tuple #[.agg #[.int .i64 0, .int .i64 0, .int .i64 0], .bool false]) w := by kernel_rfl
set_option maxRecDepth 100000 in
theorem ta_grant_other (t : TypeId) (v : Value) (X : TypeId) (w : World) (h : t ≠ 25) : (Instr.typeAssert (.iface t v) X 25 true).run Try.prog w = .ok (.tuple #[.agg #[.int .i64 0, .int .i64 0, .int .i64 0], .bool false]) w := by
  have e : Nat.decEq t 25 = .isFalse h := Subsingleton.elim _ _
  have : (Instr.typeAssert (.iface t v) X 25 true).run Try.prog w = (fun d : Decidable (t = 25) => (@ite (Sem Value) (t = 25) d (pure (.tuple #[v, .bool true])) (do let z ← zeroValue 25; pure (.tuple #[z, .bool false]))).run Try.prog w) (Nat.decEq t 25) := by kernel_rfl
  rw [this, e]
  show _ = _
  kernel_rfl
set_option maxRecDepth 100000 in
theorem ta_ask_hello (v : Value) (X : TypeId) (w : World) : (Instr.typeAssert (.iface 23 v) X 29 true).run Try.prog w = .ok (.tuple #[.agg #[.int .i64 0, .int .i64 0, .int .i64 0, .int .i64 0, .int .i64 0, .string ByteArray.empty, .int .i64 0, .int .i64 0, .bool false, .int .i64 0, .string ByteArray.empty], .bool false]) w := by kernel_rfl
set_option maxRecDepth 100000 in
theorem ta_ask_grant (v : Value) (X : TypeId) (w : World) : (Instr.typeAssert (.iface 25 v) X 29 true).run Try.prog w = .ok (.tuple #[.agg #[.int .i64 0, .int .i64 0, .int .i64 0, .int .i64 0, .int .i64 0, .string ByteArray.empty, .int .i64 0, .int .i64 0, .bool false, .int .i64 0, .string ByteArray.empty], .bool false]) w := by kernel_rfl
set_option maxRecDepth 100000 in
theorem ta_ask_ask (v : Value) (X : TypeId) (w : World) : (Instr.typeAssert (.iface 29 v) X 29 true).run Try.prog w = .ok (.tuple #[v, .bool true]) w := by kernel_rfl
set_option maxRecDepth 100000 in
theorem ta_ask_reply (v : Value) (X : TypeId) (w : World) : (Instr.typeAssert (.iface 32 v) X 29 true).run Try.prog w = .ok (.tuple #[.agg #[.int .i64 0, .int .i64 0, .int .i64 0, .int .i64 0, .int .i64 0, .string ByteArray.empty, .int .i64 0, .int .i64 0, .bool false, .int .i64 0, .string ByteArray.empty], .bool false]) w := by kernel_rfl
set_option maxRecDepth 100000 in
theorem ta_ask_stop (v : Value) (X : TypeId) (w : World) : (Instr.typeAssert (.iface 34 v) X 29 true).run Try.prog w = .ok (.tuple #[.agg #[.int .i64 0, .int .i64 0, .int .i64 0, .int .i64 0, .int .i64 0, .string ByteArray.empty, .int .i64 0, .int .i64 0, .bool false, .int .i64 0, .string ByteArray.empty], .bool false]) w := by kernel_rfl
set_option maxRecDepth 100000 in
theorem ta_ask_nil (X : TypeId) (w : World) : (Instr.typeAssert .nilIface X 29 true).run Try.prog w = .ok (.tuple #[.agg #[.int .i64 0, .int .i64 0, .int .i64 0, .int .i64 0, .int .i64 0, .string ByteArray.empty, .int .i64 0, .int .i64 0, .bool false, .int .i64 0, .string ByteArray.empty], .bool false]) w := by kernel_rfl
set_option maxRecDepth 100000 in
theorem ta_ask_other (t : TypeId) (v : Value) (X : TypeId) (w : World) (h : t ≠ 29) : (Instr.typeAssert (.iface t v) X 29 true).run Try.prog w = .ok (.tuple #[.agg #[.int .i64 0, .int .i64 0, .int .i64 0, .int .i64 0, .int .i64 0, .string ByteArray.empty, .int .i64 0, .int .i64 0, .bool false, .int .i64 0, .string ByteArray.empty], .bool false]) w := by
  have e : Nat.decEq t 29 = .isFalse h := Subsingleton.elim _ _
  have : (Instr.typeAssert (.iface t v) X 29 true).run Try.prog w = (fun d : Decidable (t = 29) => (@ite (Sem Value) (t = 29) d (pure (.tuple #[v, .bool true])) (do let z ← zeroValue 29; pure (.tuple #[z, .bool false]))).run Try.prog w) (Nat.decEq t 29) := by kernel_rfl
  rw [this, e]
  show _ = _
  kernel_rfl
set_option maxRecDepth 100000 in
theorem ta_reply_hello (v : Value) (X : TypeId) (w : World) : (Instr.typeAssert (.iface 23 v) X 32 true).run Try.prog w = .ok (.tuple #[.agg #[.int .i64 0, .int .i64 0, .int .i64 0, .int .i64 0, .int .i64 0, .int .i64 0, .slice none 0 0, .bool false], .bool false]) w := by kernel_rfl
set_option maxRecDepth 100000 in
theorem ta_reply_grant (v : Value) (X : TypeId) (w : World) : (Instr.typeAssert (.iface 25 v) X 32 true).run Try.prog w = .ok (.tuple #[.agg #[.int .i64 0, .int .i64 0, .int .i64 0, .int .i64 0, .int .i64 0, .int .i64 0, .slice none 0 0, .bool false], .bool false]) w := by kernel_rfl
set_option maxRecDepth 100000 in
theorem ta_reply_ask (v : Value) (X : TypeId) (w : World) : (Instr.typeAssert (.iface 29 v) X 32 true).run Try.prog w = .ok (.tuple #[.agg #[.int .i64 0, .int .i64 0, .int .i64 0, .int .i64 0, .int .i64 0, .int .i64 0, .slice none 0 0, .bool false], .bool false]) w := by kernel_rfl
set_option maxRecDepth 100000 in
theorem ta_reply_reply (v : Value) (X : TypeId) (w : World) : (Instr.typeAssert (.iface 32 v) X 32 true).run Try.prog w = .ok (.tuple #[v, .bool true]) w := by kernel_rfl
set_option maxRecDepth 100000 in
theorem ta_reply_stop (v : Value) (X : TypeId) (w : World) : (Instr.typeAssert (.iface 34 v) X 32 true).run Try.prog w = .ok (.tuple #[.agg #[.int .i64 0, .int .i64 0, .int .i64 0, .int .i64 0, .int .i64 0, .int .i64 0, .slice none 0 0, .bool false], .bool false]) w := by kernel_rfl
set_option maxRecDepth 100000 in
theorem ta_reply_nil (X : TypeId) (w : World) : (Instr.typeAssert .nilIface X 32 true).run Try.prog w = .ok (.tuple #[.agg #[.int .i64 0, .int .i64 0, .int .i64 0, .int .i64 0, .int .i64 0, .int .i64 0, .slice none 0 0, .bool false], .bool false]) w := by kernel_rfl
set_option maxRecDepth 100000 in
theorem ta_reply_other (t : TypeId) (v : Value) (X : TypeId) (w : World) (h : t ≠ 32) : (Instr.typeAssert (.iface t v) X 32 true).run Try.prog w = .ok (.tuple #[.agg #[.int .i64 0, .int .i64 0, .int .i64 0, .int .i64 0, .int .i64 0, .int .i64 0, .slice none 0 0, .bool false], .bool false]) w := by
  have e : Nat.decEq t 32 = .isFalse h := Subsingleton.elim _ _
  have : (Instr.typeAssert (.iface t v) X 32 true).run Try.prog w = (fun d : Decidable (t = 32) => (@ite (Sem Value) (t = 32) d (pure (.tuple #[v, .bool true])) (do let z ← zeroValue 32; pure (.tuple #[z, .bool false]))).run Try.prog w) (Nat.decEq t 32) := by kernel_rfl
  rw [this, e]
  show _ = _
  kernel_rfl
set_option maxRecDepth 100000 in
theorem ta_stop_hello (v : Value) (X : TypeId) (w : World) : (Instr.typeAssert (.iface 23 v) X 34 true).run Try.prog w = .ok (.tuple #[.agg #[.int .i64 0, .int .i64 0], .bool false]) w := by kernel_rfl
set_option maxRecDepth 100000 in
theorem ta_stop_grant (v : Value) (X : TypeId) (w : World) : (Instr.typeAssert (.iface 25 v) X 34 true).run Try.prog w = .ok (.tuple #[.agg #[.int .i64 0, .int .i64 0], .bool false]) w := by kernel_rfl
set_option maxRecDepth 100000 in
theorem ta_stop_ask (v : Value) (X : TypeId) (w : World) : (Instr.typeAssert (.iface 29 v) X 34 true).run Try.prog w = .ok (.tuple #[.agg #[.int .i64 0, .int .i64 0], .bool false]) w := by kernel_rfl
set_option maxRecDepth 100000 in
theorem ta_stop_reply (v : Value) (X : TypeId) (w : World) : (Instr.typeAssert (.iface 32 v) X 34 true).run Try.prog w = .ok (.tuple #[.agg #[.int .i64 0, .int .i64 0], .bool false]) w := by kernel_rfl
set_option maxRecDepth 100000 in
theorem ta_stop_stop (v : Value) (X : TypeId) (w : World) : (Instr.typeAssert (.iface 34 v) X 34 true).run Try.prog w = .ok (.tuple #[v, .bool true]) w := by kernel_rfl
set_option maxRecDepth 100000 in
theorem ta_stop_nil (X : TypeId) (w : World) : (Instr.typeAssert .nilIface X 34 true).run Try.prog w = .ok (.tuple #[.agg #[.int .i64 0, .int .i64 0], .bool false]) w := by kernel_rfl
set_option maxRecDepth 100000 in
theorem ta_stop_other (t : TypeId) (v : Value) (X : TypeId) (w : World) (h : t ≠ 34) : (Instr.typeAssert (.iface t v) X 34 true).run Try.prog w = .ok (.tuple #[.agg #[.int .i64 0, .int .i64 0], .bool false]) w := by
  have e : Nat.decEq t 34 = .isFalse h := Subsingleton.elim _ _
  have : (Instr.typeAssert (.iface t v) X 34 true).run Try.prog w = (fun d : Decidable (t = 34) => (@ite (Sem Value) (t = 34) d (pure (.tuple #[v, .bool true])) (do let z ← zeroValue 34; pure (.tuple #[z, .bool false]))).run Try.prog w) (Nat.decEq t 34) := by kernel_rfl
  rw [this, e]
  show _ = _
  kernel_rfl
set_option maxRecDepth 100000 in
set_option maxHeartbeats 8000000 in
theorem mmay_any (m : MV) (u : Value) (w : World) (h : m.At w u) (hz : m.small) :
    Calls Try.prog 19 #[u] w fun e w' => e = .returned (.bool m.may) ∧ Below w.heap.size w w' := by
  cases m with
  | hello w0 l0 =>
    obtain rfl := h
    have HB := Lib.hid ((Below.refl _ w).alloc (Nat.le_refl _) (.cells #[.int .i64 w0, .int .i64 l0] 23))
    have HK := Lib.hid (show Blk (w.alloc (.cells #[.int .i64 w0, .int .i64 l0] 23)) w.heap.size 23 [.int .i64 w0, .int .i64 l0] from heap_alloc_new w _)
    obtain ⟨W, hW⟩ : ∃ W, w.alloc (.cells #[.int .i64 w0, .int .i64 l0] 23) = W := ⟨_, rfl⟩
    rw [hW] at HB HK
    have HF := Lib.hid (fun V => worker_any w0 V)
    have HWI := Lib.hid (fun V a c hr => within_any a 1 c [l0] V hr)
    show Calls Try.prog 19 _ w fun e w' => e = .returned (.bool (workerB w0 && withinL [l0])) ∧ Below w.heap.size w w'
    generalize workerB w0 = fb at *
    generalize withinL [l0] = wb at *
    have t0 : W.cell? ⟨w.heap.size, 0, none⟩ = some (.int .i64 w0) := HK.out.cell 0
    have t1 : W.cell? ⟨w.heap.size, 1, none⟩ = some (.int .i64 l0) := HK.out.cell 1
    go_enter Try.func19, Try.ntmps19
    go_wp2_with (first | rw [hW] | rw [ta_hello_hello] | rw [ta_grant_hello] | rw [ta_ask_hello] | rw [ta_reply_hello] | rw [ta_stop_hello])
    clear hW
    refine (HF.out _).mono ?_
    rintro e V1 ⟨rfl, rfl⟩
    cases fb
    · go_wp2_with fail
      go_ret
      exact ⟨rfl, HB.out⟩
    have HNI := Lib.hid (show Rd (W.alloc (.cells #[.int .i64 l0] 3)) (some ⟨W.heap.size, 0, none⟩) 1 1 (ints [l0]) from new_ints W [l0] (by simp [maxLen]))
    have HBN := Lib.hid (HB.out.alloc HB.out.size (.cells #[.int .i64 l0] 3))
    go_wp2_with fail
    refine (HWI.out _ _ _ HNI.out).mono ?_
    rintro e V2 ⟨rfl, rfl⟩
    go_wp2_with fail
    go_ret
    exact ⟨by cases wb <;> rfl, HBN.out⟩
  | grant w0 l0 e0 =>
    obtain rfl := h
    have HB := Lib.hid ((Below.refl _ w).alloc (Nat.le_refl _) (.cells #[.int .i64 w0, .int .i64 l0, .int .i64 e0] 25))
    have HK := Lib.hid (show Blk (w.alloc (.cells #[.int .i64 w0, .int .i64 l0, .int .i64 e0] 25)) w.heap.size 25 [.int .i64 w0, .int .i64 l0, .int .i64 e0] from heap_alloc_new w _)
    obtain ⟨W, hW⟩ : ∃ W, w.alloc (.cells #[.int .i64 w0, .int .i64 l0, .int .i64 e0] 25) = W := ⟨_, rfl⟩
    rw [hW] at HB HK
    have HF := Lib.hid (fun V => worker_any w0 V)
    have HWI := Lib.hid (fun V a c hr => within_any a 2 c [l0, e0] V hr)
    show Calls Try.prog 19 _ w fun e w' => e = .returned (.bool (workerB w0 && withinL [l0, e0])) ∧ Below w.heap.size w w'
    generalize workerB w0 = fb at *
    generalize withinL [l0, e0] = wb at *
    have t0 : W.cell? ⟨w.heap.size, 0, none⟩ = some (.int .i64 w0) := HK.out.cell 0
    have t1 : W.cell? ⟨w.heap.size, 1, none⟩ = some (.int .i64 l0) := HK.out.cell 1
    have t2 : W.cell? ⟨w.heap.size, 2, none⟩ = some (.int .i64 e0) := HK.out.cell 2
    go_enter Try.func19, Try.ntmps19
    go_wp2_with (first | rw [hW] | rw [ta_hello_grant] | rw [ta_grant_grant] | rw [ta_ask_grant] | rw [ta_reply_grant] | rw [ta_stop_grant])
    clear hW
    refine (HF.out _).mono ?_
    rintro e V1 ⟨rfl, rfl⟩
    cases fb
    · go_wp2_with fail
      go_ret
      exact ⟨rfl, HB.out⟩
    have HNI := Lib.hid (show Rd (W.alloc (.cells #[.int .i64 l0, .int .i64 e0] 3)) (some ⟨W.heap.size, 0, none⟩) 2 2 (ints [l0, e0]) from new_ints W [l0, e0] (by simp [maxLen]))
    have HBN := Lib.hid (HB.out.alloc HB.out.size (.cells #[.int .i64 l0, .int .i64 e0] 3))
    go_wp2_with fail
    refine (HWI.out _ _ _ HNI.out).mono ?_
    rintro e V2 ⟨rfl, rfl⟩
    go_wp2_with fail
    go_ret
    exact ⟨by cases wb <;> rfl, HBN.out⟩
  | ask s q h0 sq ep tx k b f d wd =>
    obtain rfl := h
    obtain ⟨z1, z2⟩ := hz
    have HC := Lib.hid (fun V => mask_any s q h0 sq ep tx k b f d wd V z1 z2)
    have HB := Lib.hid ((Below.refl _ w).alloc (Nat.le_refl _) (.cells #[.int .i64 s, .int .i64 q, .int .i64 h0, .int .i64 sq, .int .i64 ep, .string tx, .int .i64 k, .int .i64 b, .bool f, .int .i64 d, .string wd] 29))
    have HK := Lib.hid (show Blk (w.alloc (.cells #[.int .i64 s, .int .i64 q, .int .i64 h0, .int .i64 sq, .int .i64 ep, .string tx, .int .i64 k, .int .i64 b, .bool f, .int .i64 d, .string wd] 29)) w.heap.size 29 [.int .i64 s, .int .i64 q, .int .i64 h0, .int .i64 sq, .int .i64 ep, .string tx, .int .i64 k, .int .i64 b, .bool f, .int .i64 d, .string wd] from heap_alloc_new w _)
    obtain ⟨W, hW⟩ : ∃ W, w.alloc (.cells #[.int .i64 s, .int .i64 q, .int .i64 h0, .int .i64 sq, .int .i64 ep, .string tx, .int .i64 k, .int .i64 b, .bool f, .int .i64 d, .string wd] 29) = W := ⟨_, rfl⟩
    rw [hW] at HB HK
    show Calls Try.prog 19 _ w fun e w' => e = .returned (.bool (askB s q h0 sq ep tx k b f d wd)) ∧ Below w.heap.size w w'
    generalize askB s q h0 sq ep tx k b f d wd = R at *
    have t0 : W.cell? ⟨w.heap.size, 0, none⟩ = some (.int .i64 s) := HK.out.cell 0
    have t1 : W.cell? ⟨w.heap.size, 1, none⟩ = some (.int .i64 q) := HK.out.cell 1
    have t2 : W.cell? ⟨w.heap.size, 2, none⟩ = some (.int .i64 h0) := HK.out.cell 2
    have t3 : W.cell? ⟨w.heap.size, 3, none⟩ = some (.int .i64 sq) := HK.out.cell 3
    have t4 : W.cell? ⟨w.heap.size, 4, none⟩ = some (.int .i64 ep) := HK.out.cell 4
    have t5 : W.cell? ⟨w.heap.size, 5, none⟩ = some (.string tx) := HK.out.cell 5
    have t6 : W.cell? ⟨w.heap.size, 6, none⟩ = some (.int .i64 k) := HK.out.cell 6
    have t7 : W.cell? ⟨w.heap.size, 7, none⟩ = some (.int .i64 b) := HK.out.cell 7
    have t8 : W.cell? ⟨w.heap.size, 8, none⟩ = some (.bool f) := HK.out.cell 8
    have t9 : W.cell? ⟨w.heap.size, 9, none⟩ = some (.int .i64 d) := HK.out.cell 9
    have t10 : W.cell? ⟨w.heap.size, 10, none⟩ = some (.string wd) := HK.out.cell 10
    go_enter Try.func19, Try.ntmps19
    go_wp2_with (first | rw [hW] | rw [ta_hello_ask] | rw [ta_grant_ask] | rw [ta_ask_ask] | rw [ta_reply_ask] | rw [ta_stop_ask])
    clear hW
    refine (HC.out _).mono ?_
    rintro e V1 ⟨rfl, hb⟩
    have HB2 := Lib.hid (HB.out.trans (hb.mono HB.out.size))
    clear hb
    go_wp2_with fail
    go_ret
    exact ⟨rfl, HB2.out⟩
  | reply s q h0 sq wk ep l en =>
    obtain ⟨a, c, rfl, hr⟩ := h
    have HB := Lib.hid ((Below.refl _ w).alloc (Nat.le_refl _) (.cells #[.int .i64 s, .int .i64 q, .int .i64 h0, .int .i64 sq, .int .i64 wk, .int .i64 ep, .slice a l.length c, .bool en] 32))
    have HK := Lib.hid (show Blk (w.alloc (.cells #[.int .i64 s, .int .i64 q, .int .i64 h0, .int .i64 sq, .int .i64 wk, .int .i64 ep, .slice a l.length c, .bool en] 32)) w.heap.size 32 [.int .i64 s, .int .i64 q, .int .i64 h0, .int .i64 sq, .int .i64 wk, .int .i64 ep, .slice a l.length c, .bool en] from heap_alloc_new w _)
    obtain ⟨W, hW⟩ : ∃ W, w.alloc (.cells #[.int .i64 s, .int .i64 q, .int .i64 h0, .int .i64 sq, .int .i64 wk, .int .i64 ep, .slice a l.length c, .bool en] 32) = W := ⟨_, rfl⟩
    rw [hW] at HB HK
    have HC := Lib.hid (fun V : World => mreply_any s q h0 sq wk ep a c l en W (hr.below HB.out rfl) hz)
    clear hr hz
    show Calls Try.prog 19 _ w fun e w' => e = .returned (.bool (replyB s q h0 sq wk ep l)) ∧ Below w.heap.size w w'
    generalize replyB s q h0 sq wk ep l = R at *
    have t0 : W.cell? ⟨w.heap.size, 0, none⟩ = some (.int .i64 s) := HK.out.cell 0
    have t1 : W.cell? ⟨w.heap.size, 1, none⟩ = some (.int .i64 q) := HK.out.cell 1
    have t2 : W.cell? ⟨w.heap.size, 2, none⟩ = some (.int .i64 h0) := HK.out.cell 2
    have t3 : W.cell? ⟨w.heap.size, 3, none⟩ = some (.int .i64 sq) := HK.out.cell 3
    have t4 : W.cell? ⟨w.heap.size, 4, none⟩ = some (.int .i64 wk) := HK.out.cell 4
    have t5 : W.cell? ⟨w.heap.size, 5, none⟩ = some (.int .i64 ep) := HK.out.cell 5
    have t6 : W.cell? ⟨w.heap.size, 6, none⟩ = some (.slice a l.length c) := HK.out.cell 6
    have t7 : W.cell? ⟨w.heap.size, 7, none⟩ = some (.bool en) := HK.out.cell 7
    go_enter Try.func19, Try.ntmps19
    go_wp2_with (first | rw [hW] | rw [ta_hello_reply] | rw [ta_grant_reply] | rw [ta_ask_reply] | rw [ta_reply_reply] | rw [ta_stop_reply])
    clear hW
    refine (HC.out W).mono ?_
    rintro e V1 ⟨rfl, hb⟩
    have HB2 := Lib.hid (HB.out.trans (hb.mono HB.out.size))
    clear hb
    go_wp2_with fail
    go_ret
    exact ⟨rfl, HB2.out⟩
  | stop s q =>
    obtain rfl := h
    have HB := Lib.hid ((Below.refl _ w).alloc (Nat.le_refl _) (.cells #[.int .i64 s, .int .i64 q] 34))
    have HK := Lib.hid (show Blk (w.alloc (.cells #[.int .i64 s, .int .i64 q] 34)) w.heap.size 34 [.int .i64 s, .int .i64 q] from heap_alloc_new w _)
    obtain ⟨W, hW⟩ : ∃ W, w.alloc (.cells #[.int .i64 s, .int .i64 q] 34) = W := ⟨_, rfl⟩
    rw [hW] at HB HK
    have HF := Lib.hid (fun V => place_any s 0 V)
    have HWI := Lib.hid (fun V a c hr => within_any a 1 c [q] V hr)
    show Calls Try.prog 19 _ w fun e w' => e = .returned (.bool (placeB s 0 && withinL [q])) ∧ Below w.heap.size w w'
    generalize placeB s 0 = fb at *
    generalize withinL [q] = wb at *
    have t0 : W.cell? ⟨w.heap.size, 0, none⟩ = some (.int .i64 s) := HK.out.cell 0
    have t1 : W.cell? ⟨w.heap.size, 1, none⟩ = some (.int .i64 q) := HK.out.cell 1
    go_enter Try.func19, Try.ntmps19
    go_wp2_with (first | rw [hW] | rw [ta_hello_stop] | rw [ta_grant_stop] | rw [ta_ask_stop] | rw [ta_reply_stop] | rw [ta_stop_stop])
    clear hW
    refine (HF.out _).mono ?_
    rintro e V1 ⟨rfl, rfl⟩
    cases fb
    · go_wp2_with fail
      go_ret
      exact ⟨rfl, HB.out⟩
    have HNI := Lib.hid (show Rd (W.alloc (.cells #[.int .i64 q] 3)) (some ⟨W.heap.size, 0, none⟩) 1 1 (ints [q]) from new_ints W [q] (by simp [maxLen]))
    have HBN := Lib.hid (HB.out.alloc HB.out.size (.cells #[.int .i64 q] 3))
    go_wp2_with fail
    refine (HWI.out _ _ _ HNI.out).mono ?_
    rintro e V2 ⟨rfl, rfl⟩
    go_wp2_with fail
    go_ret
    exact ⟨by cases wb <;> rfl, HBN.out⟩
  | other t v =>
    obtain ⟨rfl, n1, n2, n3, n4, n5⟩ := h
    show Calls Try.prog 19 _ w fun e w' => e = .returned (.bool false) ∧ Below w.heap.size w w'
    go_enter Try.func19, Try.ntmps19
    go_wp2_with (first | rw [ta_hello_other _ _ _ _ n1] | rw [ta_grant_other _ _ _ _ n2] | rw [ta_ask_other _ _ _ _ n3] | rw [ta_reply_other _ _ _ _ n4] | rw [ta_stop_other _ _ _ _ n5])
    go_ret
    exact ⟨rfl, Below.refl _ _⟩
  | nil =>
    obtain rfl := h
    show Calls Try.prog 19 _ w fun e w' => e = .returned (.bool false) ∧ Below w.heap.size w w'
    go_enter Try.func19, Try.ntmps19
    go_wp2_with (first | rw [ta_hello_nil] | rw [ta_grant_nil] | rw [ta_ask_nil] | rw [ta_reply_nil] | rw [ta_stop_nil])
    go_ret
    exact ⟨rfl, Below.refl _ _⟩
set_option maxRecDepth 100000 in
set_option maxHeartbeats 8000000 in
theorem mkind_any (m : MV) (u : Value) (w : World) (h : m.At w u) :
    Calls Try.prog 21 #[u] w fun e w' => e = .returned (.int .i64 m.kind) ∧ Below w.heap.size w w' := by
  cases m with
  | hello w0 l0 =>
    obtain rfl := h
    show Calls Try.prog 21 _ w fun e w' => e = .returned (.int .i64 1) ∧ Below w.heap.size w w'
    go_enter Try.func21, Try.ntmps21
    go_wp2_with (first | rw [ta_hello_hello] | rw [ta_grant_hello] | rw [ta_ask_hello] | rw [ta_reply_hello] | rw [ta_stop_hello])
    go_ret
    exact ⟨rfl, (by repeat (first | exact Below.refl _ _ | refine Below.alloc ?_ (by first | (simp; done) | (simp; omega)) _))⟩
  | grant w0 l0 e0 =>
    obtain rfl := h
    show Calls Try.prog 21 _ w fun e w' => e = .returned (.int .i64 2) ∧ Below w.heap.size w w'
    go_enter Try.func21, Try.ntmps21
    go_wp2_with (first | rw [ta_hello_grant] | rw [ta_grant_grant] | rw [ta_ask_grant] | rw [ta_reply_grant] | rw [ta_stop_grant])
    go_ret
    exact ⟨rfl, (by repeat (first | exact Below.refl _ _ | refine Below.alloc ?_ (by first | (simp; done) | (simp; omega)) _))⟩
  | ask s q h0 sq ep tx k b f d wd =>
    obtain rfl := h
    show Calls Try.prog 21 _ w fun e w' => e = .returned (.int .i64 3) ∧ Below w.heap.size w w'
    go_enter Try.func21, Try.ntmps21
    go_wp2_with (first | rw [ta_hello_ask] | rw [ta_grant_ask] | rw [ta_ask_ask] | rw [ta_reply_ask] | rw [ta_stop_ask])
    go_ret
    exact ⟨rfl, (by repeat (first | exact Below.refl _ _ | refine Below.alloc ?_ (by first | (simp; done) | (simp; omega)) _))⟩
  | reply s q h0 sq wk ep l en =>
    obtain ⟨a, c, rfl, hr⟩ := h
    clear hr
    show Calls Try.prog 21 _ w fun e w' => e = .returned (.int .i64 4) ∧ Below w.heap.size w w'
    go_enter Try.func21, Try.ntmps21
    go_wp2_with (first | rw [ta_hello_reply] | rw [ta_grant_reply] | rw [ta_ask_reply] | rw [ta_reply_reply] | rw [ta_stop_reply])
    go_ret
    exact ⟨rfl, (by repeat (first | exact Below.refl _ _ | refine Below.alloc ?_ (by first | (simp; done) | (simp; omega)) _))⟩
  | stop s q =>
    obtain rfl := h
    show Calls Try.prog 21 _ w fun e w' => e = .returned (.int .i64 5) ∧ Below w.heap.size w w'
    go_enter Try.func21, Try.ntmps21
    go_wp2_with (first | rw [ta_hello_stop] | rw [ta_grant_stop] | rw [ta_ask_stop] | rw [ta_reply_stop] | rw [ta_stop_stop])
    go_ret
    exact ⟨rfl, (by repeat (first | exact Below.refl _ _ | refine Below.alloc ?_ (by first | (simp; done) | (simp; omega)) _))⟩
  | other t v =>
    obtain ⟨rfl, n1, n2, n3, n4, n5⟩ := h
    show Calls Try.prog 21 _ w fun e w' => e = .returned (.int .i64 0) ∧ Below w.heap.size w w'
    go_enter Try.func21, Try.ntmps21
    go_wp2_with (first | rw [ta_hello_other _ _ _ _ n1] | rw [ta_grant_other _ _ _ _ n2] | rw [ta_ask_other _ _ _ _ n3] | rw [ta_reply_other _ _ _ _ n4] | rw [ta_stop_other _ _ _ _ n5])
    go_ret
    exact ⟨rfl, (by repeat (first | exact Below.refl _ _ | refine Below.alloc ?_ (by first | (simp; done) | (simp; omega)) _))⟩
  | nil  =>
    obtain rfl := h
    show Calls Try.prog 21 _ w fun e w' => e = .returned (.int .i64 0) ∧ Below w.heap.size w w'
    go_enter Try.func21, Try.ntmps21
    go_wp2_with (first | rw [ta_hello_nil] | rw [ta_grant_nil] | rw [ta_ask_nil] | rw [ta_reply_nil] | rw [ta_stop_nil])
    go_ret
    exact ⟨rfl, (by repeat (first | exact Below.refl _ _ | refine Below.alloc ?_ (by first | (simp; done) | (simp; omega)) _))⟩
end Go.Proofs.Ytjhkdbcfkaaffaa
