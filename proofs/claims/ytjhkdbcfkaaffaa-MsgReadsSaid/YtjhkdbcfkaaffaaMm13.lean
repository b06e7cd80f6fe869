/- l.SameReply, l.SameMsg. -/
import Derived.Test.YtjhkdbcfkaaffaaMm12
namespace Go.Proofs.Ytjhkdbcfkaaffaa
open Go.RowKit
set_option linter.unusedVariables false

set_option maxRecDepth 100000 in
theorem tolist_iff (a b : ByteArray) : (a.toList = b.toList) = (a = b) := by
  by_cases h : a = b
  · simp [h]
  · have := str_ne h
    simp only [h, eq_iff_iff, iff_false]
    intro e; rw [e] at this; simp at this
def MV.same : MV → MV → Bool
  | .hello w0 l0, .hello w0' l0' => decide (w0 = w0') && decide (l0 = l0')
  | .grant w0 l0 e0, .grant w0' l0' e0' => decide (w0 = w0') && decide (l0 = l0') && decide (e0 = e0')
  | .ask s q h sq ep tx k b f d wd, .ask s' q' h' sq' ep' tx' k' b' f' d' wd' => decide (s = s') && decide (q = q') && decide (h = h') && decide (sq = sq') && decide (ep = ep') && decide (tx = tx') && decide (k = k') && decide (b = b') && decide (f = f') && decide (d = d') && decide (wd = wd')
  | .reply s q h sq wk ep l en, .reply s' q' h' sq' wk' ep' l' en' => decide (s = s') && decide (q = q') && decide (h = h') && decide (sq = sq') && decide (wk = wk') && decide (ep = ep') && decide (en = en') && eqIs l l'
  | .stop s q, .stop s' q' => decide (s = s') && decide (q = q')
  | _, _ => false
def MV.is_hello : MV → Bool
  | .hello .. => true
  | _ => false
set_option maxRecDepth 100000 in
theorem ta_hello_miss (m : MV) (u : Value) (w : World) (h : m.At w u) (hn : m.is_hello = false) (X : TypeId) (W : World) : (Instr.typeAssert u X 23 true).run Try.prog W = .ok (.tuple #[.agg #[.int .i64 0, .int .i64 0], .bool false]) W := by
  cases m with
  | hello _ _ => simp [MV.is_hello] at hn
  | grant _ _ _ => obtain rfl := h; exact ta_hello_grant _ _ _
  | ask _ _ _ _ _ _ _ _ _ _ _ => obtain rfl := h; exact ta_hello_ask _ _ _
  | reply _ _ _ _ _ _ _ _ => obtain ⟨a, c, rfl, hr⟩ := h; exact ta_hello_reply _ _ _
  | stop _ _ => obtain rfl := h; exact ta_hello_stop _ _ _
  | other t v => obtain ⟨rfl, h1, h2, h3, h4, h5⟩ := h; exact ta_hello_other _ _ _ _ h1
  | nil => obtain rfl := h; exact ta_hello_nil _ _
def MV.is_grant : MV → Bool
  | .grant .. => true
  | _ => false
set_option maxRecDepth 100000 in
theorem ta_grant_miss (m : MV) (u : Value) (w : World) (h : m.At w u) (hn : m.is_grant = false) (X : TypeId) (W : World) : (Instr.typeAssert u X 25 true).run Try.prog W = .ok (.tuple #[.agg #[.int .i64 0, .int .i64 0, .int .i64 0], .bool false]) W := by
  cases m with
  | hello _ _ => obtain rfl := h; exact ta_grant_hello _ _ _
  | grant _ _ _ => simp [MV.is_grant] at hn
  | ask _ _ _ _ _ _ _ _ _ _ _ => obtain rfl := h; exact ta_grant_ask _ _ _
  | reply _ _ _ _ _ _ _ _ => obtain ⟨a, c, rfl, hr⟩ := h; exact ta_grant_reply _ _ _
  | stop _ _ => obtain rfl := h; exact ta_grant_stop _ _ _
  | other t v => obtain ⟨rfl, h1, h2, h3, h4, h5⟩ := h; exact ta_grant_other _ _ _ _ h2
  | nil => obtain rfl := h; exact ta_grant_nil _ _
def MV.is_ask : MV → Bool
  | .ask .. => true
  | _ => false
set_option maxRecDepth 100000 in
theorem ta_ask_miss (m : MV) (u : Value) (w : World) (h : m.At w u) (hn : m.is_ask = false) (X : TypeId) (W : World) : (Instr.typeAssert u X 29 true).run Try.prog W = .ok (.tuple #[.agg #[.int .i64 0, .int .i64 0, .int .i64 0, .int .i64 0, .int .i64 0, .string ByteArray.empty, .int .i64 0, .int .i64 0, .bool false, .int .i64 0, .string ByteArray.empty], .bool false]) W := by
  cases m with
  | hello _ _ => obtain rfl := h; exact ta_ask_hello _ _ _
  | grant _ _ _ => obtain rfl := h; exact ta_ask_grant _ _ _
  | ask _ _ _ _ _ _ _ _ _ _ _ => simp [MV.is_ask] at hn
  | reply _ _ _ _ _ _ _ _ => obtain ⟨a, c, rfl, hr⟩ := h; exact ta_ask_reply _ _ _
  | stop _ _ => obtain rfl := h; exact ta_ask_stop _ _ _
  | other t v => obtain ⟨rfl, h1, h2, h3, h4, h5⟩ := h; exact ta_ask_other _ _ _ _ h3
  | nil => obtain rfl := h; exact ta_ask_nil _ _
def MV.is_reply : MV → Bool
  | .reply .. => true
  | _ => false
set_option maxRecDepth 100000 in
theorem ta_reply_miss (m : MV) (u : Value) (w : World) (h : m.At w u) (hn : m.is_reply = false) (X : TypeId) (W : World) : (Instr.typeAssert u X 32 true).run Try.prog W = .ok (.tuple #[.agg #[.int .i64 0, .int .i64 0, .int .i64 0, .int .i64 0, .int .i64 0, .int .i64 0, .slice none 0 0, .bool false], .bool false]) W := by
  cases m with
  | hello _ _ => obtain rfl := h; exact ta_reply_hello _ _ _
  | grant _ _ _ => obtain rfl := h; exact ta_reply_grant _ _ _
  | ask _ _ _ _ _ _ _ _ _ _ _ => obtain rfl := h; exact ta_reply_ask _ _ _
  | reply _ _ _ _ _ _ _ _ => simp [MV.is_reply] at hn
  | stop _ _ => obtain rfl := h; exact ta_reply_stop _ _ _
  | other t v => obtain ⟨rfl, h1, h2, h3, h4, h5⟩ := h; exact ta_reply_other _ _ _ _ h4
  | nil => obtain rfl := h; exact ta_reply_nil _ _
def MV.is_stop : MV → Bool
  | .stop .. => true
  | _ => false
set_option maxRecDepth 100000 in
theorem ta_stop_miss (m : MV) (u : Value) (w : World) (h : m.At w u) (hn : m.is_stop = false) (X : TypeId) (W : World) : (Instr.typeAssert u X 34 true).run Try.prog W = .ok (.tuple #[.agg #[.int .i64 0, .int .i64 0], .bool false]) W := by
  cases m with
  | hello _ _ => obtain rfl := h; exact ta_stop_hello _ _ _
  | grant _ _ _ => obtain rfl := h; exact ta_stop_grant _ _ _
  | ask _ _ _ _ _ _ _ _ _ _ _ => obtain rfl := h; exact ta_stop_ask _ _ _
  | reply _ _ _ _ _ _ _ _ => obtain ⟨a, c, rfl, hr⟩ := h; exact ta_stop_reply _ _ _
  | stop _ _ => simp [MV.is_stop] at hn
  | other t v => obtain ⟨rfl, h1, h2, h3, h4, h5⟩ := h; exact ta_stop_other _ _ _ _ h5
  | nil => obtain rfl := h; exact ta_stop_nil _ _
set_option maxRecDepth 100000 in
set_option maxHeartbeats 4000000 in
theorem same_hello (w0 : Int) (l0 : Int) (w0' : Int) (l0' : Int) (w : World) :
    Calls Try.prog 27 #[.iface 23 (.agg #[.int .i64 w0, .int .i64 l0]), .iface 23 (.agg #[.int .i64 w0', .int .i64 l0'])] w fun e w' => e = .returned (.bool (MV.same (.hello w0 l0) (.hello w0' l0'))) ∧ Below w.heap.size w w' := by
  unfold MV.same
  go_enter Try.func27, Try.ntmps27
  go_wp2_with (first | rw [ta_hello_hello] | rw [ta_grant_hello] | rw [ta_ask_hello] | rw [ta_reply_hello] | rw [ta_stop_hello])
  all_goals
    go_ret
    exact ⟨by simp [*], (by repeat (first | exact Below.refl _ _ | refine Below.alloc ?_ (by first | (simp; done) | (simp; omega)) _))⟩
set_option maxRecDepth 100000 in
set_option maxHeartbeats 4000000 in
theorem same_hello_no (w0 : Int) (l0 : Int) (m : MV) (u : Value) (w : World) (hu : m.At w u) (hn : m.is_hello = false) :
    Calls Try.prog 27 #[.iface 23 (.agg #[.int .i64 w0, .int .i64 l0]), u] w fun e w' => e = .returned (.bool false) ∧ Below w.heap.size w w' := by
  have HM := Lib.hid (fun X W => ta_hello_miss m u w hu hn X W)
  clear hu hn
  go_enter Try.func27, Try.ntmps27
  go_wp2_with (first | rw [ta_hello_hello] | rw [ta_grant_hello] | rw [ta_ask_hello] | rw [ta_reply_hello] | rw [ta_stop_hello] | rw [HM.out])
  go_ret
  exact ⟨rfl, (by repeat (first | exact Below.refl _ _ | refine Below.alloc ?_ (by first | (simp; done) | (simp; omega)) _))⟩
set_option maxRecDepth 100000 in
set_option maxHeartbeats 4000000 in
theorem same_grant (w0 : Int) (l0 : Int) (e0 : Int) (w0' : Int) (l0' : Int) (e0' : Int) (w : World) :
    Calls Try.prog 27 #[.iface 25 (.agg #[.int .i64 w0, .int .i64 l0, .int .i64 e0]), .iface 25 (.agg #[.int .i64 w0', .int .i64 l0', .int .i64 e0'])] w fun e w' => e = .returned (.bool (MV.same (.grant w0 l0 e0) (.grant w0' l0' e0'))) ∧ Below w.heap.size w w' := by
  unfold MV.same
  go_enter Try.func27, Try.ntmps27
  go_wp2_with (first | rw [ta_hello_grant] | rw [ta_grant_grant] | rw [ta_ask_grant] | rw [ta_reply_grant] | rw [ta_stop_grant])
  all_goals
    go_ret
    exact ⟨by simp [*], (by repeat (first | exact Below.refl _ _ | refine Below.alloc ?_ (by first | (simp; done) | (simp; omega)) _))⟩
set_option maxRecDepth 100000 in
set_option maxHeartbeats 4000000 in
theorem same_grant_no (w0 : Int) (l0 : Int) (e0 : Int) (m : MV) (u : Value) (w : World) (hu : m.At w u) (hn : m.is_grant = false) :
    Calls Try.prog 27 #[.iface 25 (.agg #[.int .i64 w0, .int .i64 l0, .int .i64 e0]), u] w fun e w' => e = .returned (.bool false) ∧ Below w.heap.size w w' := by
  have HM := Lib.hid (fun X W => ta_grant_miss m u w hu hn X W)
  clear hu hn
  go_enter Try.func27, Try.ntmps27
  go_wp2_with (first | rw [ta_hello_grant] | rw [ta_grant_grant] | rw [ta_ask_grant] | rw [ta_reply_grant] | rw [ta_stop_grant] | rw [HM.out])
  go_ret
  exact ⟨rfl, (by repeat (first | exact Below.refl _ _ | refine Below.alloc ?_ (by first | (simp; done) | (simp; omega)) _))⟩
set_option maxRecDepth 100000 in
set_option maxHeartbeats 4000000 in
theorem same_ask (s : Int) (q : Int) (h : Int) (sq : Int) (ep : Int) (tx : ByteArray) (k : Int) (b : Int) (f : Bool) (d : Int) (wd : ByteArray) (s' : Int) (q' : Int) (h' : Int) (sq' : Int) (ep' : Int) (tx' : ByteArray) (k' : Int) (b' : Int) (f' : Bool) (d' : Int) (wd' : ByteArray) (w : World) :
    Calls Try.prog 27 #[.iface 29 (.agg #[.int .i64 s, .int .i64 q, .int .i64 h, .int .i64 sq, .int .i64 ep, .string tx, .int .i64 k, .int .i64 b, .bool f, .int .i64 d, .string wd]), .iface 29 (.agg #[.int .i64 s', .int .i64 q', .int .i64 h', .int .i64 sq', .int .i64 ep', .string tx', .int .i64 k', .int .i64 b', .bool f', .int .i64 d', .string wd'])] w fun e w' => e = .returned (.bool (MV.same (.ask s q h sq ep tx k b f d wd) (.ask s' q' h' sq' ep' tx' k' b' f' d' wd'))) ∧ Below w.heap.size w w' := by
  unfold MV.same
  go_enter Try.func27, Try.ntmps27
  go_wp2_with (first | rw [ta_hello_ask] | rw [ta_grant_ask] | rw [ta_ask_ask] | rw [ta_reply_ask] | rw [ta_stop_ask])
  all_goals
    go_ret
    (try simp only [tolist_iff] at *)
    exact ⟨by simp [*], (by repeat (first | exact Below.refl _ _ | refine Below.alloc ?_ (by first | (simp; done) | (simp; omega)) _))⟩
set_option maxRecDepth 100000 in
set_option maxHeartbeats 4000000 in
theorem same_ask_no (s : Int) (q : Int) (h : Int) (sq : Int) (ep : Int) (tx : ByteArray) (k : Int) (b : Int) (f : Bool) (d : Int) (wd : ByteArray) (m : MV) (u : Value) (w : World) (hu : m.At w u) (hn : m.is_ask = false) :
    Calls Try.prog 27 #[.iface 29 (.agg #[.int .i64 s, .int .i64 q, .int .i64 h, .int .i64 sq, .int .i64 ep, .string tx, .int .i64 k, .int .i64 b, .bool f, .int .i64 d, .string wd]), u] w fun e w' => e = .returned (.bool false) ∧ Below w.heap.size w w' := by
  have HM := Lib.hid (fun X W => ta_ask_miss m u w hu hn X W)
  clear hu hn
  go_enter Try.func27, Try.ntmps27
  go_wp2_with (first | rw [ta_hello_ask] | rw [ta_grant_ask] | rw [ta_ask_ask] | rw [ta_reply_ask] | rw [ta_stop_ask] | rw [HM.out])
  go_ret
  exact ⟨rfl, (by repeat (first | exact Below.refl _ _ | refine Below.alloc ?_ (by first | (simp; done) | (simp; omega)) _))⟩
set_option maxRecDepth 100000 in
set_option maxHeartbeats 4000000 in
theorem same_reply_no (s q h sq wk ep : Int) (l : List KeyL) (en : Bool) (a : Option Addr) (c : Nat) (m : MV) (u : Value) (w : World) (hu : m.At w u) (hn : m.is_reply = false) :
    Calls Try.prog 27 #[.iface 32 (.agg #[.int .i64 s, .int .i64 q, .int .i64 h, .int .i64 sq, .int .i64 wk, .int .i64 ep, .slice a l.length c, .bool en]), u] w fun e w' => e = .returned (.bool false) ∧ Below w.heap.size w w' := by
  have HM := Lib.hid (fun X W => ta_reply_miss m u w hu hn X W)
  clear hu hn
  go_enter Try.func27, Try.ntmps27
  go_wp2_with (first | rw [ta_hello_reply] | rw [ta_grant_reply] | rw [ta_ask_reply] | rw [ta_reply_reply] | rw [ta_stop_reply] | rw [HM.out])
  go_ret
  exact ⟨rfl, (by repeat (first | exact Below.refl _ _ | refine Below.alloc ?_ (by first | (simp; done) | (simp; omega)) _))⟩
set_option maxRecDepth 100000 in
set_option maxHeartbeats 4000000 in
theorem same_stop (s : Int) (q : Int) (s' : Int) (q' : Int) (w : World) :
    Calls Try.prog 27 #[.iface 34 (.agg #[.int .i64 s, .int .i64 q]), .iface 34 (.agg #[.int .i64 s', .int .i64 q'])] w fun e w' => e = .returned (.bool (MV.same (.stop s q) (.stop s' q'))) ∧ Below w.heap.size w w' := by
  unfold MV.same
  go_enter Try.func27, Try.ntmps27
  go_wp2_with (first | rw [ta_hello_stop] | rw [ta_grant_stop] | rw [ta_ask_stop] | rw [ta_reply_stop] | rw [ta_stop_stop])
  all_goals
    go_ret
    exact ⟨by simp [*], (by repeat (first | exact Below.refl _ _ | refine Below.alloc ?_ (by first | (simp; done) | (simp; omega)) _))⟩
set_option maxRecDepth 100000 in
set_option maxHeartbeats 4000000 in
theorem same_stop_no (s : Int) (q : Int) (m : MV) (u : Value) (w : World) (hu : m.At w u) (hn : m.is_stop = false) :
    Calls Try.prog 27 #[.iface 34 (.agg #[.int .i64 s, .int .i64 q]), u] w fun e w' => e = .returned (.bool false) ∧ Below w.heap.size w w' := by
  have HM := Lib.hid (fun X W => ta_stop_miss m u w hu hn X W)
  clear hu hn
  go_enter Try.func27, Try.ntmps27
  go_wp2_with (first | rw [ta_hello_stop] | rw [ta_grant_stop] | rw [ta_ask_stop] | rw [ta_reply_stop] | rw [ta_stop_stop] | rw [HM.out])
  go_ret
  exact ⟨rfl, (by repeat (first | exact Below.refl _ _ | refine Below.alloc ?_ (by first | (simp; done) | (simp; omega)) _))⟩
set_option maxRecDepth 100000 in
set_option maxHeartbeats 4000000 in
theorem same_nil (m : MV) (u : Value) (w : World) :
    Calls Try.prog 27 #[.nilIface, u] w fun e w' => e = .returned (.bool false) ∧ Below w.heap.size w w' := by
  go_enter Try.func27, Try.ntmps27
  go_wp2_with (first | rw [ta_hello_nil] | rw [ta_grant_nil] | rw [ta_ask_nil] | rw [ta_reply_nil] | rw [ta_stop_nil])
  go_ret
  exact ⟨rfl, (by repeat (first | exact Below.refl _ _ | refine Below.alloc ?_ (by first | (simp; done) | (simp; omega)) _))⟩
set_option maxRecDepth 100000 in
set_option maxHeartbeats 4000000 in
theorem same_other (t : TypeId) (v u : Value) (w : World) (h1 : t ≠ 23) (h2 : t ≠ 25) (h3 : t ≠ 29) (h4 : t ≠ 32) (h5 : t ≠ 34) :
    Calls Try.prog 27 #[.iface t v, u] w fun e w' => e = .returned (.bool false) ∧ Below w.heap.size w w' := by
  go_enter Try.func27, Try.ntmps27
  go_wp2_with (first | rw [ta_hello_other _ _ _ _ h1] | rw [ta_grant_other _ _ _ _ h2] | rw [ta_ask_other _ _ _ _ h3] | rw [ta_reply_other _ _ _ _ h4] | rw [ta_stop_other _ _ _ _ h5])
  go_ret
  exact ⟨rfl, (by repeat (first | exact Below.refl _ _ | refine Below.alloc ?_ (by first | (simp; done) | (simp; omega)) _))⟩
set_option maxRecDepth 100000 in
set_option maxHeartbeats 4000000 in
theorem samereply_any (s q h sq wk ep : Int) (l : List KeyL) (en : Bool) (a : Option Addr) (c : Nat) (s' q' h' sq' wk' ep' : Int) (l' : List KeyL) (en' : Bool) (a' : Option Addr) (c' : Nat) (w : World) (hr : RdE KeyL.cells 2 w a l.length c l) (hr' : RdE KeyL.cells 2 w a' l'.length c' l') :
    Calls Try.prog 59 #[.agg #[.int .i64 s, .int .i64 q, .int .i64 h, .int .i64 sq, .int .i64 wk, .int .i64 ep, .slice a l.length c, .bool en], .agg #[.int .i64 s', .int .i64 q', .int .i64 h', .int .i64 sq', .int .i64 wk', .int .i64 ep', .slice a' l'.length c', .bool en']] w fun e w' => e = .returned (.bool (MV.same (.reply s q h sq wk ep l en) (.reply s' q' h' sq' wk' ep' l' en'))) ∧ Below w.heap.size w w' := by
  have HR := Lib.hid (fun W (hb : Below w.heap.size w W) => hr.below hb rfl)
  have HR2 := Lib.hid (fun W (hb : Below w.heap.size w W) => hr'.below hb rfl)
  clear hr hr'
  unfold MV.same
  go_enter Try.func59, Try.ntmps59
  go_wp2_with (go_at_call 53; refine (sameI_any _ _ _ _ _ _ l l' _ (HR.out _ (by repeat (first | exact Below.refl _ _ | refine Below.alloc ?_ (by first | (simp; done) | (simp; omega)) _))) (HR2.out _ (by repeat (first | exact Below.refl _ _ | refine Below.alloc ?_ (by first | (simp; done) | (simp; omega)) _)))).mono ?_; rintro e w' ⟨rfl, hd⟩; have HD := Lib.hid (hd.below w.heap.size); clear hd)
  all_goals
    go_ret
    refine ⟨by simp [*], ?_⟩
    first
      | exact Below.trans (by repeat (first | exact Below.refl _ _ | refine Below.alloc ?_ (by first | (simp; done) | (simp; omega)) _)) HD.out
      | exact (by repeat (first | exact Below.refl _ _ | refine Below.alloc ?_ (by first | (simp; done) | (simp; omega)) _))
set_option maxRecDepth 100000 in
set_option maxHeartbeats 4000000 in
theorem same_reply (s q h sq wk ep : Int) (l : List KeyL) (en : Bool) (a : Option Addr) (c : Nat) (s' q' h' sq' wk' ep' : Int) (l' : List KeyL) (en' : Bool) (a' : Option Addr) (c' : Nat) (w : World) (hr : RdE KeyL.cells 2 w a l.length c l) (hr' : RdE KeyL.cells 2 w a' l'.length c' l') :
    Calls Try.prog 27 #[.iface 32 (.agg #[.int .i64 s, .int .i64 q, .int .i64 h, .int .i64 sq, .int .i64 wk, .int .i64 ep, .slice a l.length c, .bool en]), .iface 32 (.agg #[.int .i64 s', .int .i64 q', .int .i64 h', .int .i64 sq', .int .i64 wk', .int .i64 ep', .slice a' l'.length c', .bool en'])] w fun e w' => e = .returned (.bool (MV.same (.reply s q h sq wk ep l en) (.reply s' q' h' sq' wk' ep' l' en'))) ∧ Below w.heap.size w w' := by
  have HR := Lib.hid (fun W (hb : Below w.heap.size w W) => hr.below hb rfl)
  have HR2 := Lib.hid (fun W (hb : Below w.heap.size w W) => hr'.below hb rfl)
  clear hr hr'
  go_enter Try.func27, Try.ntmps27
  go_wp2_with (first | rw [ta_hello_reply] | rw [ta_grant_reply] | rw [ta_ask_reply] | rw [ta_reply_reply] | rw [ta_stop_reply] | (go_at_call 59; refine (samereply_any s q h sq wk ep l en a c s' q' h' sq' wk' ep' l' en' a' c' _ (HR.out _ (by repeat (first | exact Below.refl _ _ | refine Below.alloc ?_ (by first | (simp; done) | (simp; omega)) _))) (HR2.out _ (by repeat (first | exact Below.refl _ _ | refine Below.alloc ?_ (by first | (simp; done) | (simp; omega)) _)))).mono ?_; rintro e w' ⟨rfl, hd⟩; have HD := Lib.hid (hd.mono (show w.heap.size ≤ _ from by first | (simp; done) | (simp; omega))); clear hd))
  go_ret
  exact ⟨rfl, Below.trans (by repeat (first | exact Below.refl _ _ | refine Below.alloc ?_ (by first | (simp; done) | (simp; omega)) _)) HD.out⟩
set_option maxRecDepth 100000 in
theorem msame_any (m m' : MV) (u u' : Value) (w : World) (h : m.At w u) (h' : m'.At w u') :
    Calls Try.prog 27 #[u, u'] w fun e w' => e = .returned (.bool (m.same m')) ∧ Below w.heap.size w w' := by
  cases m with
  | hello w00 l00 =>
    obtain rfl := h
    cases hk : m'.is_hello
    · have e : MV.same (.hello w00 l00) m' = false := by cases m' <;> first | rfl | simp [MV.is_hello] at hk
      rw [e]
      exact same_hello_no w00 l00 m' u' w h' hk
    · cases m' with
      | hello w01 l01 => obtain rfl := h'; exact same_hello w00 l00 w01 l01 w
      | _ => simp [MV.is_hello] at hk
  | grant w00 l00 e00 =>
    obtain rfl := h
    cases hk : m'.is_grant
    · have e : MV.same (.grant w00 l00 e00) m' = false := by cases m' <;> first | rfl | simp [MV.is_grant] at hk
      rw [e]
      exact same_grant_no w00 l00 e00 m' u' w h' hk
    · cases m' with
      | grant w01 l01 e01 => obtain rfl := h'; exact same_grant w00 l00 e00 w01 l01 e01 w
      | _ => simp [MV.is_grant] at hk
  | ask s0 q0 h0 sq0 ep0 tx0 k0 b0 f0 d0 wd0 =>
    obtain rfl := h
    cases hk : m'.is_ask
    · have e : MV.same (.ask s0 q0 h0 sq0 ep0 tx0 k0 b0 f0 d0 wd0) m' = false := by cases m' <;> first | rfl | simp [MV.is_ask] at hk
      rw [e]
      exact same_ask_no s0 q0 h0 sq0 ep0 tx0 k0 b0 f0 d0 wd0 m' u' w h' hk
    · cases m' with
      | ask s1 q1 h1 sq1 ep1 tx1 k1 b1 f1 d1 wd1 => obtain rfl := h'; exact same_ask s0 q0 h0 sq0 ep0 tx0 k0 b0 f0 d0 wd0 s1 q1 h1 sq1 ep1 tx1 k1 b1 f1 d1 wd1 w
      | _ => simp [MV.is_ask] at hk
  | reply s0 q0 h0 sq0 wk0 ep0 l0 en0 =>
    obtain ⟨a, c, rfl, hr⟩ := h
    cases hk : m'.is_reply
    · have e : MV.same (.reply s0 q0 h0 sq0 wk0 ep0 l0 en0) m' = false := by cases m' <;> first | rfl | simp [MV.is_reply] at hk
      rw [e]
      exact same_reply_no s0 q0 h0 sq0 wk0 ep0 l0 en0 a c m' u' w h' hk
    · cases m' with
      | reply s1 q1 h1 sq1 wk1 ep1 l1 en1 => obtain ⟨a', c', rfl, hr'⟩ := h'; exact same_reply s0 q0 h0 sq0 wk0 ep0 l0 en0 a c s1 q1 h1 sq1 wk1 ep1 l1 en1 a' c' w hr hr'
      | _ => simp [MV.is_reply] at hk
  | stop s0 q0 =>
    obtain rfl := h
    cases hk : m'.is_stop
    · have e : MV.same (.stop s0 q0) m' = false := by cases m' <;> first | rfl | simp [MV.is_stop] at hk
      rw [e]
      exact same_stop_no s0 q0 m' u' w h' hk
    · cases m' with
      | stop s1 q1 => obtain rfl := h'; exact same_stop s0 q0 s1 q1 w
      | _ => simp [MV.is_stop] at hk
  | other t v => obtain ⟨rfl, h1, h2, h3, h4, h5⟩ := h; exact same_other t v u' w h1 h2 h3 h4 h5
  | nil => obtain rfl := h; exact same_nil m' u' w
end Go.Proofs.Ytjhkdbcfkaaffaa
