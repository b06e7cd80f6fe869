/- Lemmas for the law (part 10): Mm13, CoF, CoG, CoI, CoN0, CoP, CoPa -/
import Derived.Test.YtinkbgeckjbnbaaGreatQr9
namespace Go.Proofs.YtinkbgeckjbnbaaGreat
section
open Go.RowKit
set_option linter.unusedVariables false

set_option maxRecDepth 100000 in
theorem tolist_iff (a b : ByteArray) : (a.toList = b.toList) = (a = b) := by
  by_cases h : a = b
  · simp [h]
  · have := str_ne h
    simp only [h, eq_iff_iff, iff_false]
    intro e; rw [e] at this; simp at this
def MV.same : MV → MV → Bool
  | .hello w0 l0, .hello w0' l0' => decide (w0 = w0') && decide (l0 = l0')
  | .grant w0 l0 e0, .grant w0' l0' e0' => decide (w0 = w0') && decide (l0 = l0') && decide (e0 = e0')
  | .ask s q h sq ep tx k b f d wd, .ask s' q' h' sq' ep' tx' k' b' f' d' wd' => decide (s = s') && decide (q = q') && decide (h = h') && decide (sq = sq') && decide (ep = ep') && decide (tx = tx') && decide (k = k') && decide (b = b') && decide (f = f') && decide (d = d') && decide (wd = wd')
  | .reply s q h sq wk ep l en, .reply s' q' h' sq' wk' ep' l' en' => decide (s = s') && decide (q = q') && decide (h = h') && decide (sq = sq') && decide (wk = wk') && decide (ep = ep') && decide (en = en') && eqIs l l'
  | .stop s q, .stop s' q' => decide (s = s') && decide (q = q')
  | _, _ => false
def MV.is_hello : MV → Bool
  | .hello .. => true
  | _ => false
set_option maxRecDepth 100000 in
theorem ta_hello_miss (m : MV) (u : Value) (w : World) (h : m.At w u) (hn : m.is_hello = false) (X : TypeId) (W : World) : (Instr.typeAssert u X 36 true).run Tryz.prog W = .ok (.tuple #[.agg #[.int .i64 0, .int .i64 0], .bool false]) W := by
  cases m with
  | hello _ _ => simp [MV.is_hello] at hn
  | grant _ _ _ => obtain rfl := h; exact ta_hello_grant _ _ _
  | ask _ _ _ _ _ _ _ _ _ _ _ => obtain rfl := h; exact ta_hello_ask _ _ _
  | reply _ _ _ _ _ _ _ _ => obtain ⟨a, c, rfl, hr⟩ := h; exact ta_hello_reply _ _ _
  | stop _ _ => obtain rfl := h; exact ta_hello_stop _ _ _
  | other t v => obtain ⟨rfl, h1, h2, h3, h4, h5⟩ := h; exact ta_hello_other _ _ _ _ h1
  | nil => obtain rfl := h; exact ta_hello_nil _ _
def MV.is_grant : MV → Bool
  | .grant .. => true
  | _ => false
set_option maxRecDepth 100000 in
theorem ta_grant_miss (m : MV) (u : Value) (w : World) (h : m.At w u) (hn : m.is_grant = false) (X : TypeId) (W : World) : (Instr.typeAssert u X 99 true).run Tryz.prog W = .ok (.tuple #[.agg #[.int .i64 0, .int .i64 0, .int .i64 0], .bool false]) W := by
  cases m with
  | hello _ _ => obtain rfl := h; exact ta_grant_hello _ _ _
  | grant _ _ _ => simp [MV.is_grant] at hn
  | ask _ _ _ _ _ _ _ _ _ _ _ => obtain rfl := h; exact ta_grant_ask _ _ _
  | reply _ _ _ _ _ _ _ _ => obtain ⟨a, c, rfl, hr⟩ := h; exact ta_grant_reply _ _ _
  | stop _ _ => obtain rfl := h; exact ta_grant_stop _ _ _
  | other t v => obtain ⟨rfl, h1, h2, h3, h4, h5⟩ := h; exact ta_grant_other _ _ _ _ h2
  | nil => obtain rfl := h; exact ta_grant_nil _ _
def MV.is_ask : MV → Bool
  | .ask .. => true
  | _ => false
set_option maxRecDepth 100000 in
theorem ta_ask_miss (m : MV) (u : Value) (w : World) (h : m.At w u) (hn : m.is_ask = false) (X : TypeId) (W : World) : (Instr.typeAssert u X 48 true).run Tryz.prog W = .ok (.tuple #[.agg #[.int .i64 0, .int .i64 0, .int .i64 0, .int .i64 0, .int .i64 0, .string ByteArray.empty, .int .i64 0, .int .i64 0, .bool false, .int .i64 0, .string ByteArray.empty], .bool false]) W := by
  cases m with
  | hello _ _ => obtain rfl := h; exact ta_ask_hello _ _ _
  | grant _ _ _ => obtain rfl := h; exact ta_ask_grant _ _ _
  | ask _ _ _ _ _ _ _ _ _ _ _ => simp [MV.is_ask] at hn
  | reply _ _ _ _ _ _ _ _ => obtain ⟨a, c, rfl, hr⟩ := h; exact ta_ask_reply _ _ _
  | stop _ _ => obtain rfl := h; exact ta_ask_stop _ _ _
  | other t v => obtain ⟨rfl, h1, h2, h3, h4, h5⟩ := h; exact ta_ask_other _ _ _ _ h3
  | nil => obtain rfl := h; exact ta_ask_nil _ _
def MV.is_reply : MV → Bool
  | .reply .. => true
  | _ => false
set_option maxRecDepth 100000 in
theorem ta_reply_miss (m : MV) (u : Value) (w : World) (h : m.At w u) (hn : m.is_reply = false) (X : TypeId) (W : World) : (Instr.typeAssert u X 65 true).run Tryz.prog W = .ok (.tuple #[.agg #[.int .i64 0, .int .i64 0, .int .i64 0, .int .i64 0, .int .i64 0, .int .i64 0, .slice none 0 0, .bool false], .bool false]) W := by
  cases m with
  | hello _ _ => obtain rfl := h; exact ta_reply_hello _ _ _
  | grant _ _ _ => obtain rfl := h; exact ta_reply_grant _ _ _
  | ask _ _ _ _ _ _ _ _ _ _ _ => obtain rfl := h; exact ta_reply_ask _ _ _
  | reply _ _ _ _ _ _ _ _ => simp [MV.is_reply] at hn
  | stop _ _ => obtain rfl := h; exact ta_reply_stop _ _ _
  | other t v => obtain ⟨rfl, h1, h2, h3, h4, h5⟩ := h; exact ta_reply_other _ _ _ _ h4
  | nil => obtain rfl := h; exact ta_reply_nil _ _
def MV.is_stop : MV → Bool
  | .stop .. => true
  | _ => false
set_option maxRecDepth 100000 in
theorem ta_stop_miss (m : MV) (u : Value) (w : World) (h : m.At w u) (hn : m.is_stop = false) (X : TypeId) (W : World) : (Instr.typeAssert u X 87 true).run Tryz.prog W = .ok (.tuple #[.agg #[.int .i64 0, .int .i64 0], .bool false]) W := by
  cases m with
  | hello _ _ => obtain rfl := h; exact ta_stop_hello _ _ _
  | grant _ _ _ => obtain rfl := h; exact ta_stop_grant _ _ _
  | ask _ _ _ _ _ _ _ _ _ _ _ => obtain rfl := h; exact ta_stop_ask _ _ _
  | reply _ _ _ _ _ _ _ _ => obtain ⟨a, c, rfl, hr⟩ := h; exact ta_stop_reply _ _ _
  | stop _ _ => simp [MV.is_stop] at hn
  | other t v => obtain ⟨rfl, h1, h2, h3, h4, h5⟩ := h; exact ta_stop_other _ _ _ _ h5
  | nil => obtain rfl := h; exact ta_stop_nil _ _
set_option maxRecDepth 100000 in
set_option maxHeartbeats 4000000 in
theorem same_hello (w0 : Int) (l0 : Int) (w0' : Int) (l0' : Int) (w : World) :
    Calls Tryz.prog 39 #[.iface 36 (.agg #[.int .i64 w0, .int .i64 l0]), .iface 36 (.agg #[.int .i64 w0', .int .i64 l0'])] w fun e w' => e = .returned (.bool (MV.same (.hello w0 l0) (.hello w0' l0'))) ∧ Below w.heap.size w w' := by
  unfold MV.same
  go_enter Tryz.func39, Tryz.ntmps39
  go_wp2_with (first | rw [ta_hello_hello] | rw [ta_grant_hello] | rw [ta_ask_hello] | rw [ta_reply_hello] | rw [ta_stop_hello])
  all_goals
    go_ret
    exact ⟨by simp [*], (by repeat (first | exact Below.refl _ _ | refine Below.alloc ?_ (by first | (simp; done) | (simp; omega)) _))⟩
set_option maxRecDepth 100000 in
set_option maxHeartbeats 4000000 in
theorem same_hello_no (w0 : Int) (l0 : Int) (m : MV) (u : Value) (w : World) (hu : m.At w u) (hn : m.is_hello = false) :
    Calls Tryz.prog 39 #[.iface 36 (.agg #[.int .i64 w0, .int .i64 l0]), u] w fun e w' => e = .returned (.bool false) ∧ Below w.heap.size w w' := by
  have HM := Lib.hid (fun X W => ta_hello_miss m u w hu hn X W)
  clear hu hn
  go_enter Tryz.func39, Tryz.ntmps39
  go_wp2_with (first | rw [ta_hello_hello] | rw [ta_grant_hello] | rw [ta_ask_hello] | rw [ta_reply_hello] | rw [ta_stop_hello] | rw [HM.out])
  go_ret
  exact ⟨rfl, (by repeat (first | exact Below.refl _ _ | refine Below.alloc ?_ (by first | (simp; done) | (simp; omega)) _))⟩
set_option maxRecDepth 100000 in
set_option maxHeartbeats 4000000 in
theorem same_grant (w0 : Int) (l0 : Int) (e0 : Int) (w0' : Int) (l0' : Int) (e0' : Int) (w : World) :
    Calls Tryz.prog 39 #[.iface 99 (.agg #[.int .i64 w0, .int .i64 l0, .int .i64 e0]), .iface 99 (.agg #[.int .i64 w0', .int .i64 l0', .int .i64 e0'])] w fun e w' => e = .returned (.bool (MV.same (.grant w0 l0 e0) (.grant w0' l0' e0'))) ∧ Below w.heap.size w w' := by
  unfold MV.same
  go_enter Tryz.func39, Tryz.ntmps39
  go_wp2_with (first | rw [ta_hello_grant] | rw [ta_grant_grant] | rw [ta_ask_grant] | rw [ta_reply_grant] | rw [ta_stop_grant])
  all_goals
    go_ret
    exact ⟨by simp [*], (by repeat (first | exact Below.refl _ _ | refine Below.alloc ?_ (by first | (simp; done) | (simp; omega)) _))⟩
set_option maxRecDepth 100000 in
set_option maxHeartbeats 4000000 in
theorem same_grant_no (w0 : Int) (l0 : Int) (e0 : Int) (m : MV) (u : Value) (w : World) (hu : m.At w u) (hn : m.is_grant = false) :
    Calls Tryz.prog 39 #[.iface 99 (.agg #[.int .i64 w0, .int .i64 l0, .int .i64 e0]), u] w fun e w' => e = .returned (.bool false) ∧ Below w.heap.size w w' := by
  have HM := Lib.hid (fun X W => ta_grant_miss m u w hu hn X W)
  clear hu hn
  go_enter Tryz.func39, Tryz.ntmps39
  go_wp2_with (first | rw [ta_hello_grant] | rw [ta_grant_grant] | rw [ta_ask_grant] | rw [ta_reply_grant] | rw [ta_stop_grant] | rw [HM.out])
  go_ret
  exact ⟨rfl, (by repeat (first | exact Below.refl _ _ | refine Below.alloc ?_ (by first | (simp; done) | (simp; omega)) _))⟩
set_option maxRecDepth 100000 in
set_option maxHeartbeats 4000000 in
theorem same_ask (s : Int) (q : Int) (h : Int) (sq : Int) (ep : Int) (tx : ByteArray) (k : Int) (b : Int) (f : Bool) (d : Int) (wd : ByteArray) (s' : Int) (q' : Int) (h' : Int) (sq' : Int) (ep' : Int) (tx' : ByteArray) (k' : Int) (b' : Int) (f' : Bool) (d' : Int) (wd' : ByteArray) (w : World) :
    Calls Tryz.prog 39 #[.iface 48 (.agg #[.int .i64 s, .int .i64 q, .int .i64 h, .int .i64 sq, .int .i64 ep, .string tx, .int .i64 k, .int .i64 b, .bool f, .int .i64 d, .string wd]), .iface 48 (.agg #[.int .i64 s', .int .i64 q', .int .i64 h', .int .i64 sq', .int .i64 ep', .string tx', .int .i64 k', .int .i64 b', .bool f', .int .i64 d', .string wd'])] w fun e w' => e = .returned (.bool (MV.same (.ask s q h sq ep tx k b f d wd) (.ask s' q' h' sq' ep' tx' k' b' f' d' wd'))) ∧ Below w.heap.size w w' := by
  unfold MV.same
  go_enter Tryz.func39, Tryz.ntmps39
  go_wp2_with (first | rw [ta_hello_ask] | rw [ta_grant_ask] | rw [ta_ask_ask] | rw [ta_reply_ask] | rw [ta_stop_ask])
  all_goals
    go_ret
    (try simp only [tolist_iff] at *)
    exact ⟨by simp [*], (by repeat (first | exact Below.refl _ _ | refine Below.alloc ?_ (by first | (simp; done) | (simp; omega)) _))⟩
set_option maxRecDepth 100000 in
set_option maxHeartbeats 4000000 in
theorem same_ask_no (s : Int) (q : Int) (h : Int) (sq : Int) (ep : Int) (tx : ByteArray) (k : Int) (b : Int) (f : Bool) (d : Int) (wd : ByteArray) (m : MV) (u : Value) (w : World) (hu : m.At w u) (hn : m.is_ask = false) :
    Calls Tryz.prog 39 #[.iface 48 (.agg #[.int .i64 s, .int .i64 q, .int .i64 h, .int .i64 sq, .int .i64 ep, .string tx, .int .i64 k, .int .i64 b, .bool f, .int .i64 d, .string wd]), u] w fun e w' => e = .returned (.bool false) ∧ Below w.heap.size w w' := by
  have HM := Lib.hid (fun X W => ta_ask_miss m u w hu hn X W)
  clear hu hn
  go_enter Tryz.func39, Tryz.ntmps39
  go_wp2_with (first | rw [ta_hello_ask] | rw [ta_grant_ask] | rw [ta_ask_ask] | rw [ta_reply_ask] | rw [ta_stop_ask] | rw [HM.out])
  go_ret
  exact ⟨rfl, (by repeat (first | exact Below.refl _ _ | refine Below.alloc ?_ (by first | (simp; done) | (simp; omega)) _))⟩
set_option maxRecDepth 100000 in
set_option maxHeartbeats 4000000 in
theorem same_reply_no (s q h sq wk ep : Int) (l : List KeyL) (en : Bool) (a : Option Addr) (c : Nat) (m : MV) (u : Value) (w : World) (hu : m.At w u) (hn : m.is_reply = false) :
    Calls Tryz.prog 39 #[.iface 65 (.agg #[.int .i64 s, .int .i64 q, .int .i64 h, .int .i64 sq, .int .i64 wk, .int .i64 ep, .slice a l.length c, .bool en]), u] w fun e w' => e = .returned (.bool false) ∧ Below w.heap.size w w' := by
  have HM := Lib.hid (fun X W => ta_reply_miss m u w hu hn X W)
  clear hu hn
  go_enter Tryz.func39, Tryz.ntmps39
  go_wp2_with (first | rw [ta_hello_reply] | rw [ta_grant_reply] | rw [ta_ask_reply] | rw [ta_reply_reply] | rw [ta_stop_reply] | rw [HM.out])
  go_ret
  exact ⟨rfl, (by repeat (first | exact Below.refl _ _ | refine Below.alloc ?_ (by first | (simp; done) | (simp; omega)) _))⟩
set_option maxRecDepth 100000 in
set_option maxHeartbeats 4000000 in
theorem same_stop (s : Int) (q : Int) (s' : Int) (q' : Int) (w : World) :
    Calls Tryz.prog 39 #[.iface 87 (.agg #[.int .i64 s, .int .i64 q]), .iface 87 (.agg #[.int .i64 s', .int .i64 q'])] w fun e w' => e = .returned (.bool (MV.same (.stop s q) (.stop s' q'))) ∧ Below w.heap.size w w' := by
  unfold MV.same
  go_enter Tryz.func39, Tryz.ntmps39
  go_wp2_with (first | rw [ta_hello_stop] | rw [ta_grant_stop] | rw [ta_ask_stop] | rw [ta_reply_stop] | rw [ta_stop_stop])
  all_goals
    go_ret
    exact ⟨by simp [*], (by repeat (first | exact Below.refl _ _ | refine Below.alloc ?_ (by first | (simp; done) | (simp; omega)) _))⟩
set_option maxRecDepth 100000 in
set_option maxHeartbeats 4000000 in
theorem same_stop_no (s : Int) (q : Int) (m : MV) (u : Value) (w : World) (hu : m.At w u) (hn : m.is_stop = false) :
    Calls Tryz.prog 39 #[.iface 87 (.agg #[.int .i64 s, .int .i64 q]), u] w fun e w' => e = .returned (.bool false) ∧ Below w.heap.size w w' := by
  have HM := Lib.hid (fun X W => ta_stop_miss m u w hu hn X W)
  clear hu hn
  go_enter Tryz.func39, Tryz.ntmps39
  go_wp2_with (first | rw [ta_hello_stop] | rw [ta_grant_stop] | rw [ta_ask_stop] | rw [ta_reply_stop] | rw [ta_stop_stop] | rw [HM.out])
  go_ret
  exact ⟨rfl, (by repeat (first | exact Below.refl _ _ | refine Below.alloc ?_ (by first | (simp; done) | (simp; omega)) _))⟩
set_option maxRecDepth 100000 in
set_option maxHeartbeats 4000000 in
theorem same_nil (m : MV) (u : Value) (w : World) :
    Calls Tryz.prog 39 #[.nilIface, u] w fun e w' => e = .returned (.bool false) ∧ Below w.heap.size w w' := by
  go_enter Tryz.func39, Tryz.ntmps39
  go_wp2_with (first | rw [ta_hello_nil] | rw [ta_grant_nil] | rw [ta_ask_nil] | rw [ta_reply_nil] | rw [ta_stop_nil])
  go_ret
  exact ⟨rfl, (by repeat (first | exact Below.refl _ _ | refine Below.alloc ?_ (by first | (simp; done) | (simp; omega)) _))⟩
set_option maxRecDepth 100000 in
set_option maxHeartbeats 4000000 in
theorem same_other (t : TypeId) (v u : Value) (w : World) (h1 : t ≠ 36) (h2 : t ≠ 99) (h3 : t ≠ 48) (h4 : t ≠ 65) (h5 : t ≠ 87) :
    Calls Tryz.prog 39 #[.iface t v, u] w fun e w' => e = .returned (.bool false) ∧ Below w.heap.size w w' := by
  go_enter Tryz.func39, Tryz.ntmps39
  go_wp2_with (first | rw [ta_hello_other _ _ _ _ h1] | rw [ta_grant_other _ _ _ _ h2] | rw [ta_ask_other _ _ _ _ h3] | rw [ta_reply_other _ _ _ _ h4] | rw [ta_stop_other _ _ _ _ h5])
  go_ret
  exact ⟨rfl, (by repeat (first | exact Below.refl _ _ | refine Below.alloc ?_ (by first | (simp; done) | (simp; omega)) _))⟩
set_option maxRecDepth 100000 in
set_option maxHeartbeats 4000000 in
theorem samereply_any (s q h sq wk ep : Int) (l : List KeyL) (en : Bool) (a : Option Addr) (c : Nat) (s' q' h' sq' wk' ep' : Int) (l' : List KeyL) (en' : Bool) (a' : Option Addr) (c' : Nat) (w : World) (hr : RdE KeyL.cells 2 w a l.length c l) (hr' : RdE KeyL.cells 2 w a' l'.length c' l') :
    Calls Tryz.prog 89 #[.agg #[.int .i64 s, .int .i64 q, .int .i64 h, .int .i64 sq, .int .i64 wk, .int .i64 ep, .slice a l.length c, .bool en], .agg #[.int .i64 s', .int .i64 q', .int .i64 h', .int .i64 sq', .int .i64 wk', .int .i64 ep', .slice a' l'.length c', .bool en']] w fun e w' => e = .returned (.bool (MV.same (.reply s q h sq wk ep l en) (.reply s' q' h' sq' wk' ep' l' en'))) ∧ Below w.heap.size w w' := by
  have HR := Lib.hid (fun W (hb : Below w.heap.size w W) => hr.below hb rfl)
  have HR2 := Lib.hid (fun W (hb : Below w.heap.size w W) => hr'.below hb rfl)
  clear hr hr'
  unfold MV.same
  go_enter Tryz.func89, Tryz.ntmps89
  go_wp2_with (go_at_call 75; refine (sameI_any _ _ _ _ _ _ l l' _ (HR.out _ (by repeat (first | exact Below.refl _ _ | refine Below.alloc ?_ (by first | (simp; done) | (simp; omega)) _))) (HR2.out _ (by repeat (first | exact Below.refl _ _ | refine Below.alloc ?_ (by first | (simp; done) | (simp; omega)) _)))).mono ?_; rintro e w' ⟨rfl, hd⟩; have HD := Lib.hid (hd.below w.heap.size); clear hd)
  all_goals
    go_ret
    refine ⟨by simp [*], ?_⟩
    first
      | exact Below.trans (by repeat (first | exact Below.refl _ _ | refine Below.alloc ?_ (by first | (simp; done) | (simp; omega)) _)) HD.out
      | exact (by repeat (first | exact Below.refl _ _ | refine Below.alloc ?_ (by first | (simp; done) | (simp; omega)) _))
set_option maxRecDepth 100000 in
set_option maxHeartbeats 4000000 in
theorem same_reply (s q h sq wk ep : Int) (l : List KeyL) (en : Bool) (a : Option Addr) (c : Nat) (s' q' h' sq' wk' ep' : Int) (l' : List KeyL) (en' : Bool) (a' : Option Addr) (c' : Nat) (w : World) (hr : RdE KeyL.cells 2 w a l.length c l) (hr' : RdE KeyL.cells 2 w a' l'.length c' l') :
    Calls Tryz.prog 39 #[.iface 65 (.agg #[.int .i64 s, .int .i64 q, .int .i64 h, .int .i64 sq, .int .i64 wk, .int .i64 ep, .slice a l.length c, .bool en]), .iface 65 (.agg #[.int .i64 s', .int .i64 q', .int .i64 h', .int .i64 sq', .int .i64 wk', .int .i64 ep', .slice a' l'.length c', .bool en'])] w fun e w' => e = .returned (.bool (MV.same (.reply s q h sq wk ep l en) (.reply s' q' h' sq' wk' ep' l' en'))) ∧ Below w.heap.size w w' := by
  have HR := Lib.hid (fun W (hb : Below w.heap.size w W) => hr.below hb rfl)
  have HR2 := Lib.hid (fun W (hb : Below w.heap.size w W) => hr'.below hb rfl)
  clear hr hr'
  go_enter Tryz.func39, Tryz.ntmps39
  go_wp2_with (first | rw [ta_hello_reply] | rw [ta_grant_reply] | rw [ta_ask_reply] | rw [ta_reply_reply] | rw [ta_stop_reply] | (go_at_call 89; refine (samereply_any s q h sq wk ep l en a c s' q' h' sq' wk' ep' l' en' a' c' _ (HR.out _ (by repeat (first | exact Below.refl _ _ | refine Below.alloc ?_ (by first | (simp; done) | (simp; omega)) _))) (HR2.out _ (by repeat (first | exact Below.refl _ _ | refine Below.alloc ?_ (by first | (simp; done) | (simp; omega)) _)))).mono ?_; rintro e w' ⟨rfl, hd⟩; have HD := Lib.hid (hd.mono (show w.heap.size ≤ _ from by first | (simp; done) | (simp; omega))); clear hd))
  go_ret
  exact ⟨rfl, Below.trans (by repeat (first | exact Below.refl _ _ | refine Below.alloc ?_ (by first | (simp; done) | (simp; omega)) _)) HD.out⟩
set_option maxRecDepth 100000 in
theorem msame_any (m m' : MV) (u u' : Value) (w : World) (h : m.At w u) (h' : m'.At w u') :
    Calls Tryz.prog 39 #[u, u'] w fun e w' => e = .returned (.bool (m.same m')) ∧ Below w.heap.size w w' := by
  cases m with
  | hello w00 l00 =>
    obtain rfl := h
    cases hk : m'.is_hello
    · have e : MV.same (.hello w00 l00) m' = false := by cases m' <;> first | rfl | simp [MV.is_hello] at hk
      rw [e]
      exact same_hello_no w00 l00 m' u' w h' hk
    · cases m' with
      | hello w01 l01 => obtain rfl := h'; exact same_hello w00 l00 w01 l01 w
      | _ => simp [MV.is_hello] at hk
  | grant w00 l00 e00 =>
    obtain rfl := h
    cases hk : m'.is_grant
    · have e : MV.same (.grant w00 l00 e00) m' = false := by cases m' <;> first | rfl | simp [MV.is_grant] at hk
      rw [e]
      exact same_grant_no w00 l00 e00 m' u' w h' hk
    · cases m' with
      | grant w01 l01 e01 => obtain rfl := h'; exact same_grant w00 l00 e00 w01 l01 e01 w
      | _ => simp [MV.is_grant] at hk
  | ask s0 q0 h0 sq0 ep0 tx0 k0 b0 f0 d0 wd0 =>
    obtain rfl := h
    cases hk : m'.is_ask
    · have e : MV.same (.ask s0 q0 h0 sq0 ep0 tx0 k0 b0 f0 d0 wd0) m' = false := by cases m' <;> first | rfl | simp [MV.is_ask] at hk
      rw [e]
      exact same_ask_no s0 q0 h0 sq0 ep0 tx0 k0 b0 f0 d0 wd0 m' u' w h' hk
    · cases m' with
      | ask s1 q1 h1 sq1 ep1 tx1 k1 b1 f1 d1 wd1 => obtain rfl := h'; exact same_ask s0 q0 h0 sq0 ep0 tx0 k0 b0 f0 d0 wd0 s1 q1 h1 sq1 ep1 tx1 k1 b1 f1 d1 wd1 w
      | _ => simp [MV.is_ask] at hk
  | reply s0 q0 h0 sq0 wk0 ep0 l0 en0 =>
    obtain ⟨a, c, rfl, hr⟩ := h
    cases hk : m'.is_reply
    · have e : MV.same (.reply s0 q0 h0 sq0 wk0 ep0 l0 en0) m' = false := by cases m' <;> first | rfl | simp [MV.is_reply] at hk
      rw [e]
      exact same_reply_no s0 q0 h0 sq0 wk0 ep0 l0 en0 a c m' u' w h' hk
    · cases m' with
      | reply s1 q1 h1 sq1 wk1 ep1 l1 en1 => obtain ⟨a', c', rfl, hr'⟩ := h'; exact same_reply s0 q0 h0 sq0 wk0 ep0 l0 en0 a c s1 q1 h1 sq1 wk1 ep1 l1 en1 a' c' w hr hr'
      | _ => simp [MV.is_reply] at hk
  | stop s0 q0 =>
    obtain rfl := h
    cases hk : m'.is_stop
    · have e : MV.same (.stop s0 q0) m' = false := by cases m' <;> first | rfl | simp [MV.is_stop] at hk
      rw [e]
      exact same_stop_no s0 q0 m' u' w h' hk
    · cases m' with
      | stop s1 q1 => obtain rfl := h'; exact same_stop s0 q0 s1 q1 w
      | _ => simp [MV.is_stop] at hk
  | other t v => obtain ⟨rfl, h1, h2, h3, h4, h5⟩ := h; exact same_other t v u' w h1 h2 h3 h4 h5
  | nil => obtain rfl := h; exact same_nil m' u' w
end
end Go.Proofs.YtinkbgeckjbnbaaGreat
namespace Go.Proofs.YtinkbgeckjbnbaaGreat
section
open Go.RowKit
set_option linter.unusedVariables false
set_option linter.unusedSimpArgs false

set_option maxRecDepth 100000 in
theorem HeE.shift {O O1 : Own} {A : CA} {p : Nat} {S : CS} {v life : Int} {w W w' : World} {e : Ending} (hb : Below w.heap.size w W) (ha : AgO w.heap.size O O1) (h : HeE O1 A p S v life W e w') : HeE O A p S v life w e w' := by
  obtain ⟨u, O', he, hc, hl, ha', hf⟩ := h
  exact ⟨u, O', he, hc, hl.base hb.size, fun b hb' => (ha' b (Nat.lt_of_lt_of_le hb' hb.size)).trans (ha b hb'), COut.trans (COut.below hb) hf ha⟩
set_option maxRecDepth 100000 in
theorem ReE.shift {O O1 : Own} {A : CA} {p : Nat} {R : CS × List LV} {w W w' : World} {e : Ending} (hb : Below w.heap.size w W) (ha : AgO w.heap.size O O1) (h : ReE O1 A p R W e w') : ReE O A p R w e w' := by
  obtain ⟨u, O', A', he, hc, hcp, hl, ha', hf⟩ := h
  exact ⟨u, O', A', he, hc, hcp, hl.base hb.size, fun b hb' => (ha' b (Nat.lt_of_lt_of_le hb' hb.size)).trans (ha b hb'), COut.trans (COut.below hb) hf ha⟩
set_option maxRecDepth 100000 in
set_option maxHeartbeats 4000000 in
theorem ctake_hello (O : Own) (A : CA) (p : Nat) (S : CS) (v life : Int) (w : World) (h : CW w O A p S) (ho : S.t.ok) :
    Calls Tryz.prog 16 #[.pointer (some ⟨p, 0, none⟩), .iface 36 (.agg #[.int .i64 v, .int .i64 life])] w (HeE O A p S v life w) := by
  obtain ⟨W, hW⟩ : ∃ W, w.alloc (.cells #[.int .i64 v, .int .i64 life] 36) = W := ⟨_, rfl⟩
  have hbl : Below w.heap.size w W := by rw [← hW]; exact (Below.refl _ w).alloc (Nat.le_refl _) _
  have k0 : W.cell? ⟨w.heap.size, 0, none⟩ = some (.int .i64 v) := by rw [← hW]; exact (show Blk _ w.heap.size 36 [.int .i64 v, .int .i64 life] from heap_alloc_new w _).cell 0
  have k1 : W.cell? ⟨w.heap.size, 1, none⟩ = some (.int .i64 life) := by rw [← hW]; exact (show Blk _ w.heap.size 36 [.int .i64 v, .int .i64 life] from heap_alloc_new w _).cell 1
  have HHE := Lib.hid (chello_any O A p S v life W (h.below hbl (AgO.refl _ _)) ho)
  have HB := Lib.hid hbl
  have hqc := fun V => cptr_ne p 0 V
  clear h ho hbl
  go_enter Tryz.func16, Tryz.ntmps16
  go_wp2_with (first | rw [ta_hello_hello] | rw [hW])
  clear hW k0 k1
  refine HHE.out.mono ?_
  rintro e w2 hh
  have HH := Lib.hid (HeE.shift HB.out (AgO.refl _ O) hh)
  obtain ⟨u, O', rfl, -⟩ := hh
  go_wp2_with fail
  go_ret
  exact HH.out
end
end Go.Proofs.YtinkbgeckjbnbaaGreat
namespace Go.Proofs.YtinkbgeckjbnbaaGreat
section
open Go.RowKit
set_option linter.unusedVariables false

/-- a message that lies nowhere -/
def MV.flat : MV → Bool
  | .hello .. => true
  | .grant .. => true
  | .ask .. => true
  | .stop .. => true
  | _ => false
set_option maxRecDepth 100000 in
theorem MV.flat_at {m : MV} (h : m.flat = true) (w : World) : m.At w m.val := by cases m <;> first | rfl | cases h
def eqLs : List LV → List LV → Bool
  | [], [] => true
  | x :: a, y :: b => decide (x.1 = y.1) && x.2.same y.2 && eqLs a b
  | _, _ => false
set_option maxRecDepth 100000 in
theorem eqLs_len : ∀ {l l' : List LV}, eqLs l l' = true → l.length = l'.length
  | [], [], _ => rfl
  | [], _ :: _, h => by cases h
  | _ :: _, [], h => by cases h
  | x :: a, y :: b, h => by
    unfold eqLs at h
    rw [Bool.and_eq_true] at h
    simp [eqLs_len h.2]
set_option maxRecDepth 100000 in
theorem eqLs_at {l l' : List LV} {i : Nat} {x y : LV} (hx : l[i]? = some x) (hy : l'[i]? = some y) (h : (decide (x.1 = y.1) && x.2.same y.2) = false) : eqLs l l' = false := by
  induction l generalizing l' i with
  | nil => simp at hx
  | cons u a ih =>
    cases l' with
    | nil => simp at hy
    | cons v b =>
      unfold eqLs
      cases i with
      | zero => simp only [List.getElem?_cons_zero, Option.some.injEq] at hx hy; subst hx hy; rw [h]; rfl
      | succ i => rw [ih (by simpa using hx) (by simpa using hy), Bool.and_false]
set_option maxRecDepth 100000 in
theorem eqLs_all {l l' : List LV} (hn : l.length = l'.length) (h : ∀ (i : Nat) (x y : LV), l[i]? = some x → l'[i]? = some y → (decide (x.1 = y.1) && x.2.same y.2) = true) : eqLs l l' = true := by
  induction l generalizing l' with
  | nil => cases l' with
    | nil => rfl
    | cons _ _ => simp at hn
  | cons u a ih =>
    cases l' with
    | nil => simp at hn
    | cons v b =>
      unfold eqLs
      rw [h 0 u v (by simp) (by simp), ih (by simpa using hn) (fun i x y hx hy => h (i + 1) x y (by simpa using hx) (by simpa using hy))]
      rfl
def SlR (w : World) (l l' : List LV) (v : Value) (wr : World) : Prop := ∃ k : Nat, k ≤ l.length ∧ v = .int .i64 k ∧ RowKit.Hid (∀ (i : Nat) (x y : LV), i < k → l[i]? = some x → l'[i]? = some y → (decide (x.1 = y.1) && x.2.same y.2) = true) ∧ RowKit.Hid (Below w.heap.size w wr)
set_option linter.unusedSimpArgs false in
set_option maxRecDepth 100000 in
set_option maxHeartbeats 4000000 in
theorem sameletters_any (a a' : Option Addr) (c c' : Nat) (l l' : List LV) (w : World) (hr : RdE LV.cells 2 w a l.length c l) (hr' : RdE LV.cells 2 w a' l'.length c' l') (hl : ∀ x ∈ l, x.2.flat = true) (hl' : ∀ x ∈ l', x.2.flat = true) :
    Calls Tryz.prog 42 #[.slice a l.length c, .slice a' l'.length c'] w fun e w' => e = .returned (.bool (eqLs l l')) ∧ Below w.heap.size w w' := by
  obtain ⟨R, hR⟩ : ∃ R, eqLs l l' = R := ⟨_, rfl⟩
  rw [hR]
  have HR := Lib.hid hR
  have HA := Lib.hid hr
  have HA' := Lib.hid hr'
  have HL := Lib.hid hl
  have HL' := Lib.hid hl'
  have hb1 := hr.2.1
  have hb2 := hr.2.2.1
  unfold maxLen at hb2
  clear hr hr' hl hl' hR
  by_cases hn : l.length = l'.length
  · have HN := Lib.hid hn
    rw [← hn]
    clear hn
    obtain ⟨n, hn⟩ : ∃ n, l.length = n := ⟨_, rfl⟩
    have HNN := Lib.hid hn
    rw [hn] at hb1 ⊢
    clear hn
    go_enter Tryz.func42, Tryz.ntmps42
    go_wp2_with fail
    go_loopw [5] (fun v wr => SlR w l l' v wr) (fun v _ => n - (intOf v).toNat)
    case atStart => exact ⟨0, Nat.zero_le _, rfl, (fun i x y h => by omega), Below.refl _ _⟩
    case round =>
      obtain ⟨k, hk, rfl, HJ, HB⟩ := hrel
      rw [HNN.out] at hk
      by_cases hlt : k < n
      · obtain ⟨x, hx⟩ : ∃ x, l[k]? = some x := ⟨l[k]'(by rw [HNN.out]; exact hlt), List.getElem?_eq_getElem _⟩
        obtain ⟨y, hy⟩ : ∃ x, l'[k]? = some x := ⟨l'[k]'(by rw [← HN.out, HNN.out]; exact hlt), List.getElem?_eq_getElem _⟩
        obtain ⟨b1, o1, rfl, hl1, hc1⟩ := (HA.out.below HB.out rfl).2.2.2.2 k x hx
        obtain ⟨b2, o2, rfl, hl2, hc2⟩ := (HA'.out.below HB.out rfl).2.2.2.2 k y hy
        have u0 : wr.drew.cell? ⟨b1, o1 + k * 2, none⟩ = some (.int .i64 x.1) := hc1 0 (by decide)
        have u1 : wr.drew.cell? ⟨b1, o1 + k * 2 + 1, none⟩ = some x.2.val := hc1 1 (by decide)
        have v0 : wr.drew.cell? ⟨b2, o2 + k * 2, none⟩ = some (.int .i64 y.1) := hc2 0 (by decide)
        have v1 : wr.drew.cell? ⟨b2, o2 + k * 2 + 1, none⟩ = some y.2.val := hc2 1 (by decide)
        have HH := Lib.hid (And.intro u0 (And.intro u1 (And.intro v0 v1)))
        have HX := Lib.hid hx
        have HY := Lib.hid hy
        have HSM := Lib.hid (msame_any x.2 y.2 x.2.val y.2.val wr.drew (MV.flat_at (HL.out x (List.mem_of_getElem? hx)) _) (MV.flat_at (HL'.out y (List.mem_of_getElem? hy)) _))
        obtain ⟨xv, hxv⟩ : ∃ u, x.2.val = u := ⟨_, rfl⟩
        obtain ⟨yv, hyv⟩ : ∃ u, y.2.val = u := ⟨_, rfl⟩
        rw [hxv, hyv] at HSM HH
        obtain ⟨sm, hsm⟩ : ∃ s, x.2.same y.2 = s := ⟨_, rfl⟩
        rw [hsm] at HSM
        have HS := Lib.hid hsm
        obtain ⟨x1, hx1⟩ : ∃ u, x.1 = u := ⟨_, rfl⟩
        obtain ⟨y1, hy1⟩ : ∃ u, y.1 = u := ⟨_, rfl⟩
        rw [hx1, hy1] at HH
        have HX1 := Lib.hid hx1
        have HY1 := Lib.hid hy1
        have e1 : (k : Int) < (n : Int) := by omega
        have e2 : (0 : Int) ≤ (k : Int) := by omega
        clear hx hy hc1 hc2 u0 u1 v0 v1 hxv hyv hsm hx1 hy1 hl1 hl2
        go_upto_region 6 with fail
        by_cases ht : x1 = y1
        · subst ht
          refine wp_region_held_drew (S := (fun w' => w'.cell? ⟨b1, o1 + k * 2, none⟩ = some (.int .i64 x1) ∧ w'.cell? ⟨b1, o1 + k * 2 + 1, none⟩ = some xv ∧ w'.cell? ⟨b2, o2 + k * 2, none⟩ = some (.int .i64 x1) ∧ w'.cell? ⟨b2, o2 + k * 2 + 1, none⟩ = some yv)) (by kernel_rfl) (by first | exact HH.out | exact HH1.out) (fun hHeld => ?_)
          refine takeO 0 (some 17) (v := ?_) rfl rfl (by kernel_rfl) (by kernel_rfl) (by kernel_rfl) (fun _ _ _ h => h) (Or.inl ⟨by rfl, ?_⟩) (by assumption) ?_
          rotate_left 1
          · intro w hSw; (try dsimp only at hSw); go_simp; all_goals with_reducible rfl
          try simp only [Act.put, List.setIfInBounds_toArray, List.set_cons_zero, List.set_cons_succ]
          refine takeO 1 (some 18) (v := ?_) rfl rfl (by kernel_rfl) (by kernel_rfl) (by kernel_rfl) (fun _ _ _ h => h) (Or.inl ⟨by rfl, ?_⟩) (by assumption) ?_
          rotate_left 1
          · intro w hSw; (try dsimp only at hSw); go_simp; all_goals with_reducible rfl
          try simp only [Act.put, List.setIfInBounds_toArray, List.set_cons_zero, List.set_cons_succ]
          refine takeO 2 (some 19) (v := ?_) rfl rfl (by kernel_rfl) (by kernel_rfl) (by kernel_rfl) (fun _ _ _ h => h) (Or.inl ⟨by rfl, ?_⟩) (by assumption) ?_
          rotate_left 1
          · intro w hSw; (try dsimp only at hSw); go_simp; all_goals with_reducible rfl
          try simp only [Act.put, List.setIfInBounds_toArray, List.set_cons_zero, List.set_cons_succ]
          refine takeO 3 (some 20) (v := ?_) rfl rfl (by kernel_rfl) (by kernel_rfl) (by kernel_rfl) (fun _ _ _ h => h) (Or.inl ⟨by rfl, ?_⟩) (by assumption) ?_
          rotate_left 1
          · intro w hSw; (try dsimp only at hSw); go_simp; all_goals with_reducible rfl
          try simp only [Act.put, List.setIfInBounds_toArray, List.set_cons_zero, List.set_cons_succ]
          refine takeO 4 (some 21) (v := ?_) rfl rfl (by kernel_rfl) (by kernel_rfl) (by kernel_rfl) (fun _ _ _ h => h) (Or.inl ⟨by rfl, ?_⟩) (by assumption) ?_
          rotate_left 1
          · intro w hSw; (try dsimp only at hSw); go_simp; all_goals with_reducible rfl
          try simp only [Act.put, List.setIfInBounds_toArray, List.set_cons_zero, List.set_cons_succ]
          refine takeO 5 (some 22) (v := ?_) rfl rfl (by kernel_rfl) (by kernel_rfl) (by kernel_rfl) (fun _ _ _ h => h) (Or.inl ⟨by rfl, ?_⟩) (by assumption) ?_
          rotate_left 1
          · intro w hSw; (try dsimp only at hSw); go_simp; all_goals with_reducible rfl
          try simp only [Act.put, List.setIfInBounds_toArray, List.set_cons_zero, List.set_cons_succ]
          refine takeO 6 (some 23) (v := ?_) rfl rfl (by kernel_rfl) (by kernel_rfl) (by kernel_rfl) (fun _ _ _ h => h) (Or.inl ⟨by rfl, ?_⟩) (by assumption) ?_
          rotate_left 1
          · intro w hSw; (try dsimp only at hSw); go_simp; all_goals with_reducible rfl
          try simp only [Act.put, List.setIfInBounds_toArray, List.set_cons_zero, List.set_cons_succ]
          refine takeO 7 (some 24) (v := ?_) rfl rfl (by kernel_rfl) (by kernel_rfl) (by kernel_rfl) (fun _ _ _ h => h) (Or.inl ⟨by rfl, ?_⟩) (by assumption) ?_
          rotate_left 1
          · intro w hSw; (try dsimp only at hSw); go_simp; all_goals with_reducible rfl
          try simp only [Act.put, List.setIfInBounds_toArray, List.set_cons_zero, List.set_cons_succ]
          refine takeO 8 (some 25) (v := ?_) rfl rfl (by kernel_rfl) (by kernel_rfl) (by kernel_rfl) (fun _ _ _ h => h) (Or.inl ⟨by rfl, ?_⟩) (by assumption) ?_
          rotate_left 1
          · intro w hSw; (try dsimp only at hSw); go_simp; all_goals with_reducible rfl
          try simp only [Act.put, List.setIfInBounds_toArray, List.set_cons_zero, List.set_cons_succ]
          refine takeO 9 (some 26) (v := ?_) rfl rfl (by kernel_rfl) (by kernel_rfl) (by kernel_rfl) (fun _ _ _ h => h) (Or.inl ⟨by rfl, ?_⟩) (by assumption) ?_
          rotate_left 1
          · intro w hSw; (try dsimp only at hSw); go_simp; all_goals with_reducible rfl
          try simp only [Act.put, List.setIfInBounds_toArray, List.set_cons_zero, List.set_cons_succ]
          refine takeO 10 (some 27) (v := ?_) rfl rfl (by kernel_rfl) (by kernel_rfl) (by kernel_rfl) (fun _ _ _ h => h) (Or.inl ⟨by rfl, ?_⟩) (by assumption) ?_
          rotate_left 1
          · intro w hSw; (try dsimp only at hSw); go_simp; all_goals with_reducible rfl
          try simp only [Act.put, List.setIfInBounds_toArray, List.set_cons_zero, List.set_cons_succ]
          refine takeO 11 (some 28) (v := ?_) rfl rfl (by kernel_rfl) (by kernel_rfl) (by kernel_rfl) (fun _ _ _ h => h) (Or.inl ⟨by rfl, ?_⟩) (by assumption) ?_
          rotate_left 1
          · intro w hSw; (try dsimp only at hSw); go_simp; all_goals with_reducible rfl
          try simp only [Act.put, List.setIfInBounds_toArray, List.set_cons_zero, List.set_cons_succ]
          refine takeO 12 (some 29) (v := ?_) rfl rfl (by kernel_rfl) (by kernel_rfl) (by kernel_rfl) (fun _ _ _ h => h) (Or.inl ⟨by rfl, ?_⟩) (by assumption) ?_
          rotate_left 1
          · intro w hSw; (try dsimp only at hSw); go_simp; all_goals with_reducible rfl
          try simp only [Act.put, List.setIfInBounds_toArray, List.set_cons_zero, List.set_cons_succ]
          refine takeO 13 (some 30) (v := ?_) rfl rfl (by kernel_rfl) (by kernel_rfl) (by kernel_rfl) (fun _ _ _ h => h) (Or.inl ⟨by rfl, ?_⟩) (by assumption) ?_
          rotate_left 1
          · intro w hSw; (try dsimp only at hSw); go_simp; all_goals with_reducible rfl
          try simp only [Act.put, List.setIfInBounds_toArray, List.set_cons_zero, List.set_cons_succ]
          refine takeO 14 (some 31) (v := ?_) rfl rfl (by kernel_rfl) (by kernel_rfl) (by kernel_rfl) (fun _ _ _ h => h) (Or.inl ⟨by rfl, ?_⟩) (by assumption) ?_
          rotate_left 1
          · intro w hSw; (try dsimp only at hSw); go_simp; all_goals with_reducible rfl
          try simp only [Act.put, List.setIfInBounds_toArray, List.set_cons_zero, List.set_cons_succ]
          refine takeO 15 (some 32) (v := ?_) rfl rfl (by kernel_rfl) (by kernel_rfl) (by kernel_rfl) (fun _ _ _ h => h) (Or.inl ⟨by rfl, ?_⟩) (by assumption) ?_
          rotate_left 1
          · intro w hSw; (try dsimp only at hSw); go_simp; all_goals with_reducible rfl
          try simp only [Act.put, List.setIfInBounds_toArray, List.set_cons_zero, List.set_cons_succ]
          refine takeO 16 (some 33) (v := ?_) rfl rfl (by kernel_rfl) (by kernel_rfl) (by kernel_rfl) (fun _ _ _ h => h) (Or.inl ⟨by rfl, ?_⟩) (by assumption) ?_
          rotate_left 1
          · intro w hSw; (try dsimp only at hSw); go_simp; all_goals with_reducible rfl
          try simp only [Act.put, List.setIfInBounds_toArray, List.set_cons_zero, List.set_cons_succ]
          refine takeO 17 (some 34) (v := ?_) rfl rfl (by kernel_rfl) (by kernel_rfl) (by kernel_rfl) (fun _ _ _ h => h) (Or.inl ⟨by rfl, ?_⟩) (by assumption) ?_
          rotate_left 1
          · intro w hSw; (try dsimp only at hSw); go_simp; all_goals with_reducible rfl
          try simp only [Act.put, List.setIfInBounds_toArray, List.set_cons_zero, List.set_cons_succ]
          refine takeO 18 (some 35) (v := ?_) rfl rfl (by kernel_rfl) (by kernel_rfl) (by kernel_rfl) (fun _ _ _ h => h) (Or.inl ⟨by rfl, ?_⟩) (by assumption) ?_
          rotate_left 1
          · intro w hSw; (try dsimp only at hSw); go_simp; all_goals with_reducible rfl
          try simp only [Act.put, List.setIfInBounds_toArray, List.set_cons_zero, List.set_cons_succ]
          refine takeO 19 (some 36) (v := ?_) rfl rfl (by kernel_rfl) (by kernel_rfl) (by kernel_rfl) (fun _ _ _ h => h) (Or.inl ⟨by rfl, ?_⟩) (by assumption) ?_
          rotate_left 1
          · intro w hSw; (try dsimp only at hSw); go_simp; all_goals with_reducible rfl
          try simp only [Act.put, List.setIfInBounds_toArray, List.set_cons_zero, List.set_cons_succ]
          refine takeO 20 (some 37) (v := ?_) rfl rfl (by kernel_rfl) (by kernel_rfl) (by kernel_rfl) (fun _ _ _ h => h) (Or.inl ⟨by rfl, ?_⟩) (by assumption) ?_
          rotate_left 1
          · intro w hSw; (try dsimp only at hSw); go_simp; all_goals with_reducible rfl
          try simp only [Act.put, List.setIfInBounds_toArray, List.set_cons_zero, List.set_cons_succ]
          refine takeO 21 (some 38) (v := ?_) rfl rfl (by kernel_rfl) (by kernel_rfl) (by kernel_rfl) (fun _ _ _ h => h) (Or.inl ⟨by rfl, ?_⟩) (by assumption) ?_
          rotate_left 1
          · intro w hSw; (try dsimp only at hSw); go_simp; all_goals with_reducible rfl
          try simp only [Act.put, List.setIfInBounds_toArray, List.set_cons_zero, List.set_cons_succ]
          refine wpAnyH_ready (rs := [22]) (by kernel_rfl) (by simp) ?_
          refine AllReadyH.cons rfl (fun K hK => ?_) AllReadyH.nil
          go_simp
          refine HSM.out.mono ?_; rintro e w1 ⟨rfl, hb⟩; clear HSM; have HH1 := Lib.hid (And.intro ((hb.cell (cell?_lt HH.out.1)).trans HH.out.1) (And.intro ((hb.cell (cell?_lt HH.out.2.1)).trans HH.out.2.1) (And.intro ((hb.cell (cell?_lt HH.out.2.2.1)).trans HH.out.2.2.1) ((hb.cell (cell?_lt HH.out.2.2.2)).trans HH.out.2.2.2)))); have HB1 := Lib.hid (HB.out.drew.trans (hb.mono HB.out.size)); clear hb
          go_wp2_with fail
          refine hK.out _ _ (by first | exact HH.out | exact HH1.out) (fun hHeld => ?_)
          clear hK K
          try simp only [Act.put, List.setIfInBounds_toArray, List.set_cons_zero, List.set_cons_succ]
          refine takeO 23 (some 40) (v := ?_) rfl rfl (by kernel_rfl) (by kernel_rfl) (by kernel_rfl) (fun _ _ _ h => h) (Or.inl ⟨by rfl, ?_⟩) (by assumption) ?_
          rotate_left 1
          · intro w hSw; (try dsimp only at hSw); go_simp; all_goals with_reducible rfl
          try simp only [Act.put, List.setIfInBounds_toArray, List.set_cons_zero, List.set_cons_succ]
          refine takeO 24 (some 41) (v := ?_) rfl rfl (by kernel_rfl) (by kernel_rfl) (by kernel_rfl) (fun _ _ _ h => h) (Or.inl ⟨by rfl, ?_⟩) (by assumption) ?_
          rotate_left 1
          · intro w hSw; (try dsimp only at hSw); go_simp; all_goals with_reducible rfl
          try simp only [Act.put, List.setIfInBounds_toArray, List.set_cons_zero, List.set_cons_succ]
          refine wpAnyH_done (by kernel_rfl) ?_ _
          cases sm
          · go_wp2_with fail
            go_ret
            have e : R = false := by rw [← HR.out]; exact eqLs_at HX.out HY.out (by rw [HS.out, Bool.and_false])
            subst e
            exact ⟨rfl, HB1.out⟩
          · go_wp2_with fail
            go_roundw
            case rel => exact ⟨k + 1, by rw [HNN.out]; omega, by go_num, (fun i u v hi hu hv => by
                rcases (by omega : i < k ∨ i = k) with h | h
                · exact HJ.out i u v h hu hv
                · subst h
                  rw [HX.out] at hu; rw [HY.out] at hv; cases hu; cases hv
                  rw [HX1.out, HY1.out, HS.out]; simp), HB1.out⟩
            case measure => simp [intOf]; omega
        · have ht' : (x1 != y1) = true := by simpa using ht
          have HT := Lib.hid ht
          refine wp_region_held_drew (S := (fun w' => w'.cell? ⟨b1, o1 + k * 2, none⟩ = some (.int .i64 x1) ∧ w'.cell? ⟨b1, o1 + k * 2 + 1, none⟩ = some xv ∧ w'.cell? ⟨b2, o2 + k * 2, none⟩ = some (.int .i64 y1) ∧ w'.cell? ⟨b2, o2 + k * 2 + 1, none⟩ = some yv)) (by kernel_rfl) (by exact HH.out) (fun hHeld => ?_)
          refine takeO 0 (some 17) (v := ?_) rfl rfl (by kernel_rfl) (by kernel_rfl) (by kernel_rfl) (fun _ _ _ h => h) (Or.inl ⟨by rfl, ?_⟩) (by assumption) ?_
          rotate_left 1
          · intro w hSw; (try dsimp only at hSw); go_simp; all_goals with_reducible rfl
          try simp only [Act.put, List.setIfInBounds_toArray, List.set_cons_zero, List.set_cons_succ]
          refine takeO 1 (some 18) (v := ?_) rfl rfl (by kernel_rfl) (by kernel_rfl) (by kernel_rfl) (fun _ _ _ h => h) (Or.inl ⟨by rfl, ?_⟩) (by assumption) ?_
          rotate_left 1
          · intro w hSw; (try dsimp only at hSw); go_simp; all_goals with_reducible rfl
          try simp only [Act.put, List.setIfInBounds_toArray, List.set_cons_zero, List.set_cons_succ]
          refine takeO 2 (some 19) (v := ?_) rfl rfl (by kernel_rfl) (by kernel_rfl) (by kernel_rfl) (fun _ _ _ h => h) (Or.inl ⟨by rfl, ?_⟩) (by assumption) ?_
          rotate_left 1
          · intro w hSw; (try dsimp only at hSw); go_simp; all_goals with_reducible rfl
          try simp only [Act.put, List.setIfInBounds_toArray, List.set_cons_zero, List.set_cons_succ]
          refine takeO 3 (some 20) (v := ?_) rfl rfl (by kernel_rfl) (by kernel_rfl) (by kernel_rfl) (fun _ _ _ h => h) (Or.inl ⟨by rfl, ?_⟩) (by assumption) ?_
          rotate_left 1
          · intro w hSw; (try dsimp only at hSw); go_simp; all_goals with_reducible rfl
          try simp only [Act.put, List.setIfInBounds_toArray, List.set_cons_zero, List.set_cons_succ]
          refine takeO 4 (some 21) (v := ?_) rfl rfl (by kernel_rfl) (by kernel_rfl) (by kernel_rfl) (fun _ _ _ h => h) (Or.inl ⟨by rfl, ?_⟩) (by assumption) ?_
          rotate_left 1
          · intro w hSw; (try dsimp only at hSw); go_simp; all_goals with_reducible rfl
          try simp only [Act.put, List.setIfInBounds_toArray, List.set_cons_zero, List.set_cons_succ]
          refine takeO 5 (some 22) (v := ?_) rfl rfl (by kernel_rfl) (by kernel_rfl) (by kernel_rfl) (fun _ _ _ h => h) (Or.inl ⟨by rfl, ?_⟩) (by assumption) ?_
          rotate_left 1
          · intro w hSw; (try dsimp only at hSw); go_simp; all_goals with_reducible rfl
          try simp only [Act.put, List.setIfInBounds_toArray, List.set_cons_zero, List.set_cons_succ]
          refine takeO 6 (some 23) (v := ?_) rfl rfl (by kernel_rfl) (by kernel_rfl) (by kernel_rfl) (fun _ _ _ h => h) (Or.inl ⟨by rfl, ?_⟩) (by assumption) ?_
          rotate_left 1
          · intro w hSw; (try dsimp only at hSw); go_simp; all_goals with_reducible rfl
          try simp only [Act.put, List.setIfInBounds_toArray, List.set_cons_zero, List.set_cons_succ]
          refine takeO 7 (some 24) (v := ?_) rfl rfl (by kernel_rfl) (by kernel_rfl) (by kernel_rfl) (fun _ _ _ h => h) (Or.inl ⟨by rfl, ?_⟩) (by assumption) ?_
          rotate_left 1
          · intro w hSw; (try dsimp only at hSw); go_simp; all_goals with_reducible rfl
          try simp only [Act.put, List.setIfInBounds_toArray, List.set_cons_zero, List.set_cons_succ]
          refine takeO 8 (some 25) (v := ?_) rfl rfl (by kernel_rfl) (by kernel_rfl) (by kernel_rfl) (fun _ _ _ h => h) (Or.inl ⟨by rfl, ?_⟩) (by assumption) ?_
          rotate_left 1
          · intro w hSw; (try dsimp only at hSw); go_simp; all_goals with_reducible rfl
          try simp only [Act.put, List.setIfInBounds_toArray, List.set_cons_zero, List.set_cons_succ]
          refine takeO 9 (some 26) (v := ?_) rfl rfl (by kernel_rfl) (by kernel_rfl) (by kernel_rfl) (fun _ _ _ h => h) (Or.inl ⟨by rfl, ?_⟩) (by assumption) ?_
          rotate_left 1
          · intro w hSw; (try dsimp only at hSw); go_simp; all_goals with_reducible rfl
          try simp only [Act.put, List.setIfInBounds_toArray, List.set_cons_zero, List.set_cons_succ]
          refine takeO 10 (some 27) (v := ?_) rfl rfl (by kernel_rfl) (by kernel_rfl) (by kernel_rfl) (fun _ _ _ h => h) (Or.inl ⟨by rfl, ?_⟩) (by assumption) ?_
          rotate_left 1
          · intro w hSw; (try dsimp only at hSw); go_simp; all_goals with_reducible rfl
          try simp only [Act.put, List.setIfInBounds_toArray, List.set_cons_zero, List.set_cons_succ]
          refine takeO 11 (some 28) (v := ?_) rfl rfl (by kernel_rfl) (by kernel_rfl) (by kernel_rfl) (fun _ _ _ h => h) (Or.inl ⟨by rfl, ?_⟩) (by assumption) ?_
          rotate_left 1
          · intro w hSw; (try dsimp only at hSw); go_simp; all_goals with_reducible rfl
          try simp only [Act.put, List.setIfInBounds_toArray, List.set_cons_zero, List.set_cons_succ]
          refine takeO 12 (some 29) (v := undef) rfl rfl (by kernel_rfl) (by kernel_rfl) (by kernel_rfl) (fun _ _ _ h => h) (Or.inr ⟨by rfl, rfl⟩) (by assumption) ?_
          try simp only [Act.put, List.setIfInBounds_toArray, List.set_cons_zero, List.set_cons_succ]
          refine takeO 13 (some 30) (v := undef) rfl rfl (by kernel_rfl) (by kernel_rfl) (by kernel_rfl) (fun _ _ _ h => h) (Or.inr ⟨by rfl, rfl⟩) (by assumption) ?_
          try simp only [Act.put, List.setIfInBounds_toArray, List.set_cons_zero, List.set_cons_succ]
          refine takeO 14 (some 31) (v := undef) rfl rfl (by kernel_rfl) (by kernel_rfl) (by kernel_rfl) (fun _ _ _ h => h) (Or.inr ⟨by rfl, rfl⟩) (by assumption) ?_
          try simp only [Act.put, List.setIfInBounds_toArray, List.set_cons_zero, List.set_cons_succ]
          refine takeO 15 (some 32) (v := undef) rfl rfl (by kernel_rfl) (by kernel_rfl) (by kernel_rfl) (fun _ _ _ h => h) (Or.inr ⟨by rfl, rfl⟩) (by assumption) ?_
          try simp only [Act.put, List.setIfInBounds_toArray, List.set_cons_zero, List.set_cons_succ]
          refine takeO 16 (some 33) (v := undef) rfl rfl (by kernel_rfl) (by kernel_rfl) (by kernel_rfl) (fun _ _ _ h => h) (Or.inr ⟨by rfl, rfl⟩) (by assumption) ?_
          try simp only [Act.put, List.setIfInBounds_toArray, List.set_cons_zero, List.set_cons_succ]
          refine takeO 17 (some 34) (v := undef) rfl rfl (by kernel_rfl) (by kernel_rfl) (by kernel_rfl) (fun _ _ _ h => h) (Or.inr ⟨by rfl, rfl⟩) (by assumption) ?_
          try simp only [Act.put, List.setIfInBounds_toArray, List.set_cons_zero, List.set_cons_succ]
          refine takeO 18 (some 35) (v := undef) rfl rfl (by kernel_rfl) (by kernel_rfl) (by kernel_rfl) (fun _ _ _ h => h) (Or.inr ⟨by rfl, rfl⟩) (by assumption) ?_
          try simp only [Act.put, List.setIfInBounds_toArray, List.set_cons_zero, List.set_cons_succ]
          refine takeO 19 (some 36) (v := undef) rfl rfl (by kernel_rfl) (by kernel_rfl) (by kernel_rfl) (fun _ _ _ h => h) (Or.inr ⟨by rfl, rfl⟩) (by assumption) ?_
          try simp only [Act.put, List.setIfInBounds_toArray, List.set_cons_zero, List.set_cons_succ]
          refine takeO 20 (some 37) (v := undef) rfl rfl (by kernel_rfl) (by kernel_rfl) (by kernel_rfl) (fun _ _ _ h => h) (Or.inr ⟨by rfl, rfl⟩) (by assumption) ?_
          try simp only [Act.put, List.setIfInBounds_toArray, List.set_cons_zero, List.set_cons_succ]
          refine takeO 21 (some 38) (v := undef) rfl rfl (by kernel_rfl) (by kernel_rfl) (by kernel_rfl) (fun _ _ _ h => h) (Or.inr ⟨by rfl, rfl⟩) (by assumption) ?_
          try simp only [Act.put, List.setIfInBounds_toArray, List.set_cons_zero, List.set_cons_succ]
          refine takeO 22 (some 39) (v := undef) rfl rfl (by kernel_rfl) (by kernel_rfl) (by kernel_rfl) (fun _ _ _ h => h) (Or.inr ⟨by rfl, rfl⟩) (by assumption) ?_
          try simp only [Act.put, List.setIfInBounds_toArray, List.set_cons_zero, List.set_cons_succ]
          refine takeO 23 (some 40) (v := undef) rfl rfl (by kernel_rfl) (by kernel_rfl) (by kernel_rfl) (fun _ _ _ h => h) (Or.inr ⟨by rfl, rfl⟩) (by assumption) ?_
          try simp only [Act.put, List.setIfInBounds_toArray, List.set_cons_zero, List.set_cons_succ]
          refine takeO 24 (some 41) (v := ?_) rfl rfl (by kernel_rfl) (by kernel_rfl) (by kernel_rfl) (fun _ _ _ h => h) (Or.inl ⟨by rfl, ?_⟩) (by assumption) ?_
          rotate_left 1
          · intro w hSw; (try dsimp only at hSw); go_simp; all_goals with_reducible rfl
          try simp only [Act.put, List.setIfInBounds_toArray, List.set_cons_zero, List.set_cons_succ]
          refine wpAnyH_done (by kernel_rfl) ?_ _
          go_wp2_with fail
          go_ret
          have e : R = false := by rw [← HR.out]; exact eqLs_at HX.out HY.out (by rw [HX1.out, HY1.out]; have := HT.out; simp [this])
          subst e
          exact ⟨rfl, HB.out.drew⟩
      · obtain rfl : k = n := by omega
        go_wp2_with fail
        go_ret
        have e : R = true := by rw [← HR.out]; exact eqLs_all HN.out (fun i x y hx hy => HJ.out i x y (by have := (List.getElem?_eq_some_iff.1 hx).1; rw [HNN.out] at this; exact this) hx hy)
        subst e
        exact ⟨rfl, HB.out⟩
  · have hn' : ((l.length : Int) != (l'.length : Int)) = true := by simp; omega
    have HN := Lib.hid hn
    obtain ⟨n, hnn⟩ : ∃ n, l.length = n := ⟨_, rfl⟩
    obtain ⟨n', hnn'⟩ : ∃ n, l'.length = n := ⟨_, rfl⟩
    rw [hnn, hnn'] at hn hn' ⊢
    go_enter Tryz.func42, Tryz.ntmps42
    go_wp2_with fail
    go_ret
    have e : R = false := by rw [← HR.out]; cases e : eqLs l l' with | false => rfl | true => exact absurd (eqLs_len e) HN.out
    subst e
    exact ⟨rfl, Below.refl _ _⟩
end
end Go.Proofs.YtinkbgeckjbnbaaGreat
namespace Go.Proofs.YtinkbgeckjbnbaaGreat
section
open Go.RowKit
set_option linter.unusedVariables false
set_option linter.unusedSimpArgs false

set_option maxRecDepth 100000 in
theorem results_cellC {fn : Func} {p : Tmp} {ty : TypeId} (h : fn.results = #[.cell p ty]) (tmps : Array Value) (P : Program) (w : World) :
    (results fn tmps).run P w = ((asAddr (tmps.getD p undef)).run P w).andThen fun a w₁ => (loadVar ty a).run P w₁ := by
  simp only [results, h]
  simp [Sem.run_bind, Result.andThen]
def wordsA : List ByteArray := [⟨#[97]⟩, ⟨#[97, 98, 99]⟩, ⟨#[98]⟩]
def c24 (a : Nat) : CfgM := ⟨some ⟨a, 0, none⟩, 3, 3, none, 0, 0, wordsA, [], 1, 1, 1, 2, 5, 9, 2, 4, 0, 8⟩
set_option maxRecDepth 100000 in
theorem c24_may (a : Nat) : mayC (c24 a) = true := by
  have h : mayC (c24 a) = mayC (c24 0) := rfl
  rw [h]; decide
set_option maxRecDepth 100000 in
theorem c24_shards (a : Nat) : shardsC (c24 a) = 1 := by rw [shardsC_may (c24_may a)]; rfl
set_option maxRecDepth 100000 in
set_option maxHeartbeats 2000000 in
theorem small24_any (w : World) : Calls Tryz.prog 56 #[] w fun e w' => ∃ a, e = .returned (c24 a).val ∧ CfgOK w' (c24 a) ∧ Below w.heap.size w w' := by
  go_enter Tryz.func56, Tryz.ntmps56
  go_wp2_with fail
  refine bodyPost_ret (v := (c24 (w.heap.size + 1)).val) ?_ rfl ⟨w.heap.size + 1, rfl, ?_, ((Below.refl _ w).alloc (Nat.le_refl _) _).alloc (by simp) _⟩
  · rw [results_cellC rfl]
    go_simp
    rfl
  · obtain ⟨W, hW⟩ : ∃ V, w.alloc (.cells #[.slice (some ⟨w.heap.size + 1, 0, none⟩) 3 3, .slice none 0 0, .int .i64 1, .int .i64 1, .int .i64 1, .int .i64 2, .int .i64 5, .int .i64 9, .int .i64 2, .int .i64 4, .int .i64 0, .int .i64 8] 25) = V := ⟨_, rfl⟩
    have hs : W.heap.size = w.heap.size + 1 := by rw [← hW]; simp
    rw [hW]
    refine ⟨?_, ⟨rfl, Nat.le_refl _, Nat.zero_le _, fun _ => rfl, fun i x hx => absurd hx (by show ¬ ([] : List KeyL)[i]? = some x; simp)⟩, ?_, fun x hx => absurd (show x ∈ ([] : List KeyL) from hx) List.not_mem_nil⟩
    · rw [← hs]
      exact (show Blk (W.alloc (.cells #[.string ⟨#[97]⟩, .string ⟨#[97, 98, 99]⟩, .string ⟨#[98]⟩] 9)) W.heap.size 9 [.string ⟨#[97]⟩, .string ⟨#[97, 98, 99]⟩, .string ⟨#[98]⟩] from heap_alloc_new W _).rd 3 3 (wordsA.map Value.string) rfl (Nat.le_refl _) (by unfold maxLen; decide) (fun i hi => rfl)
    · intro x hx
      have : x.size ≤ 3 := by
        have hx' : x ∈ wordsA := hx
        unfold wordsA at hx'
        simp only [List.mem_cons, List.not_mem_nil, or_false] at hx'
        rcases hx' with rfl | rfl | rfl <;> decide
      unfold maxLen; omega
set_option maxRecDepth 100000 in
theorem LetAt.step {O O' : Own} {w w' : World} {base : Nat} {v : Value} {l : List LV} (h : LetAt O w base v l) (hf : COut O w w') (ha : AgO w.heap.size O O') : LetAt O' w' base v l := by
  obtain ⟨ao, c, h1, h2, h3⟩ := h
  exact ⟨ao, c, h1, ownsRow_frm h2 hf (fun k hk e => by rw [h3 k hk] at e; exact absurd e (by decide)), own_ag h2 ha h3⟩
set_option maxRecDepth 100000 in
theorem LetAt.below {O : Own} {w w' : World} {base : Nat} {v : Value} {l : List LV} (h : LetAt O w base v l) (hb : Below w.heap.size w w') : LetAt O w' base v l := h.step (COut.below hb) (AgO.refl _ _)
set_option maxRecDepth 100000 in
theorem LetAt.rde {O : Own} {w : World} {base : Nat} {v : Value} {l : List LV} (h : LetAt O w base v l) : ∃ ao c, v = .slice ao l.length c ∧ RdE LV.cells 2 w ao l.length c l := by
  obtain ⟨ao, c, h1, h2, h3⟩ := h
  exact ⟨ao, c, h1, ownsRow_rdE (enc := LV.cells) (fun _ => rfl) rfl h2⟩
set_option maxRecDepth 100000 in
/-- what changed is new -/
theorem COut.to_below {O : Own} {w0 w w' : World} (h : COut O w w') (hb : Below w0.heap.size w0 w) (ho : ∀ b, b < w0.heap.size → O b % 8 ≠ 1) : Below w0.heap.size w0 w' :=
  ⟨h.os.trans hb.os, h.tape.trans hb.tape, h.output.trans hb.output, Nat.le_trans hb.size h.size, fun k hk => (h.block k (Nat.lt_of_lt_of_le hk hb.size) (ho k hk)).trans (hb.block k hk)⟩
set_option maxRecDepth 100000 in
theorem new_let (w : World) (x : LV) : RdE LV.cells 2 (w.alloc (.cells #[.int .i64 x.1, x.2.val] 51)) (some ⟨w.heap.size, 0, none⟩) 1 1 [x] :=
  Blk.rdE (sp := []) (enc := LV.cells) (l := [x]) (fun _ => rfl) (show Blk _ w.heap.size 51 _ from heap_alloc_new w _) 1 (Nat.le_refl _) (by unfold maxLen; decide)
def askA : MV := .ask 0 1 0 0 1 ⟨#[97]⟩ 1 2 true 0 ⟨#[]⟩
section
variable (a : Nat) (ac : Option Addr) (cc : Nat)
def s24 : CS := CS.init ((c24 a).own ac cc)
set_option maxRecDepth 100000 in
theorem s24_hello : (s24 a ac cc).helloL 1 1 = [(1, .grant 1 1 1)] := by kernel_rfl
set_option maxRecDepth 100000 in
theorem s24_subV : ((s24 a ac cc).hello 1 1).subV ⟨#[97]⟩ 1 2 = (3, 1) := by kernel_rfl
set_option maxRecDepth 100000 in
theorem s24_subL : ((s24 a ac cc).hello 1 1).subLs ⟨#[97]⟩ 1 2 1 1 = [] := by kernel_rfl
set_option maxRecDepth 100000 in
theorem s24_wakeL : ((((s24 a ac cc).hello 1 1).sub ⟨#[97]⟩ 1 2 1).wake 0).2 = [(1, askA)] := by kernel_rfl
set_option maxRecDepth 100000 in
theorem s24_wakeT : ((((s24 a ac cc).hello 1 1).sub ⟨#[97]⟩ 1 2 1).wake 0).1.tm.length = 1 := by kernel_rfl
end
set_option maxRecDepth 100000 in
theorem s24_ok (a : Nat) (ac : Option Addr) (cc : Nat) : ((s24 a ac cc).hello 1 1).OK 1 3 := hello_ok (init_ok (own_may (c24_may a)) (show (1 : Int) ≤ 5 ∧ (5 : Int) ≤ 1000 by decide) 1 (by decide)) 1 1
set_option maxRecDepth 100000 in
theorem eqL1 : eqLs [(1, .grant 1 1 1)] [(1, .grant 1 1 1)] = true := by kernel_rfl
set_option maxRecDepth 100000 in
theorem eqL2 : eqLs [(1, askA)] [(1, askA)] = true := by kernel_rfl
set_option maxRecDepth 100000 in
set_option maxHeartbeats 8000000 in
theorem awake24_any (w : World) : Calls Tryz.prog 14 #[] w fun e w' => e = .returned (.bool true) ∧ Below w.heap.size w w' := by
  go_enter Tryz.func14, Tryz.ntmps14
  go_wp2_with fail
  refine (small24_any w).mono ?_
  rintro e w1 ⟨a, rfl, hc1, hb1⟩
  have HC1 := Lib.hid hc1
  have HB1 := Lib.hid hb1
  have HNW := Lib.hid (cnew_yes (fun _ => 0) (c24 a) w1 hc1 (c24_may a))
  obtain ⟨cv, hcv⟩ : ∃ v, (c24 a).val = v := ⟨_, rfl⟩
  rw [hcv] at HNW ⊢
  clear hc1 hb1 hcv
  go_wp2_with fail
  refine HNW.out.mono ?_
  clear HNW
  rintro e w2 ⟨p, ac, cc, A, O2, rfl, hcw, hlen, ha, hb2⟩
  rw [c24_shards] at hlen
  have hlen1 : A.cps.length = 1 := by omega
  have HC2 := Lib.hid (show CW w2 O2 A p (s24 a ac cc) from hcw)
  have HLN := Lib.hid hlen1
  have HB2 := Lib.hid (HB1.out.trans (hb2.mono HB1.out.size))
  have HO2 := Lib.hid (show ∀ b, b < w.heap.size → O2 b % 8 ≠ 1 from fun b hb => by rw [ha b (Nat.lt_of_lt_of_le hb HB1.out.size)]; show (0 : Nat) % 8 ≠ 1; decide)
  have hqc := fun V => cptr_ne p 0 V
  have HTK := Lib.hid (ctake_hello O2 A p (s24 a ac cc) 1 1 w2 HC2.out (init_ok (own_may (c24_may a)) (show (1 : Int) ≤ 5 ∧ (5 : Int) ≤ 1000 by decide) 1 (b := 3) (by decide)).t)
  clear hcw hlen hlen1 ha hb2
  go_wp2_with fail
  refine HTK.out.mono ?_
  clear HTK
  rintro e w3 ⟨u3, O3, rfl, hc3, hl3, ha3, hf3⟩
  rw [s24_hello] at hl3
  have HC3 := Lib.hid hc3
  have HL3 := Lib.hid hl3
  have HF3 := Lib.hid hf3
  have HA3 := Lib.hid (show AgO w2.heap.size O2 O3 from ha3)
  have hs := csubmit_any O3 A p ((s24 a ac cc).hello 1 1) ⟨#[97]⟩ 1 2 1 w3 HC3.out (by unfold maxLen; decide) (by rw [HLN.out]; decide) (by rw [HLN.out]; decide) rfl (by decide) (by show (0 : Nat) ≤ _; omega) (by show (0 : Nat) ≤ _; omega) (fun x hx => absurd (show x ∈ ([] : List KeyL) from hx) List.not_mem_nil)
  unfold SuE at hs
  rw [s24_subV, HLN.out, s24_subL] at hs
  have HSB := Lib.hid hs
  clear hc3 hl3 hf3 ha3 hs
  go_wp2_with fail
  refine HSB.out.mono ?_
  clear HSB
  rintro e w4 ⟨u4, O4, A4, rfl, hc4, hcp4, hl4, ha4, hf4⟩
  have HC4 := Lib.hid hc4
  have HL34 := Lib.hid (HL3.out.step hf4 ha4)
  have HF4 := Lib.hid (COut.trans HF3.out hf4 HA3.out)
  have HA4 := Lib.hid (show AgO w2.heap.size O2 O4 from HA3.out.trans ha4 HF3.out.size)
  have hok4 := sub_ok (s24_ok a ac cc) (by decide) ⟨#[97]⟩ 1 2
  have HWK := Lib.hid (cwake_any O4 A4 p _ 0 4 1 w4 HC4.out (by rw [hcp4, HLN.out]; exact hok4) (by decide) (by decide) (by rw [hcp4, HLN.out]; decide) (by show (1 : Int) ≤ 1; decide) (by show (1 : Int) ≤ 3; decide) (by show (1 : Int) = _; rfl) (by decide))
  clear hc4 hcp4 hl4 ha4 hf4 hok4 HL3 HF3 HA3 HC3
  go_wp2_with fail
  refine HWK.out.mono ?_
  clear HWK
  rintro e w5 ⟨u5, O5, rfl, hc5, hl5, ha5, hf5⟩
  rw [s24_wakeL] at hl5
  have HT := Lib.hid (s24_wakeT a ac cc)
  obtain ⟨S5, hS5⟩ : ∃ S, ((((s24 a ac cc).hello 1 1).sub ⟨#[97]⟩ 1 2 1).wake 0).1 = S := ⟨_, rfl⟩
  rw [hS5] at hc5 HT
  have HC5 := Lib.hid hc5
  have HL35 := Lib.hid (HL34.out.step hf5 ha5)
  have HL5 := Lib.hid hl5
  have HF5 := Lib.hid (COut.trans HF4.out hf5 HA4.out)
  have HA5 := Lib.hid (show AgO w2.heap.size O2 O5 from HA4.out.trans ha5 HF4.out.size)
  clear hS5 hc5 hl5 ha5 hf5 HC4 HL34 HF4 HA4
  obtain ⟨ao3, c3, hu3, hr3⟩ := HL35.out.rde
  obtain ⟨ao5, c5, hu5, hr5⟩ := HL5.out.rde
  subst hu3 hu5
  have HR3 := Lib.hid hr3
  have HR5 := Lib.hid hr5
  clear hr3 hr5 HL35 HL5
  obtain ⟨W6, hW6⟩ : ∃ W, w5.alloc (.cells #[.int .i64 0, .int .i64 1, .int .i64 0, .int .i64 0, .int .i64 1, .string ⟨#[97]⟩, .int .i64 1, .int .i64 2, .bool true, .int .i64 0, .string ⟨#[]⟩] 48) = W := ⟨_, rfl⟩
  obtain ⟨W7, hW7⟩ : ∃ W, W6.alloc (.cells #[.int .i64 1, .iface 99 (.agg #[.int .i64 1, .int .i64 1, .int .i64 1])] 51) = W := ⟨_, rfl⟩
  have hs6 : W6.heap.size = w5.heap.size + 1 := by rw [← hW6]; simp
  have hb6 : Below w5.heap.size w5 W6 := by rw [← hW6]; exact (Below.refl _ w5).alloc (Nat.le_refl _) _
  have hb7 : Below W6.heap.size W6 W7 := by rw [← hW7]; exact (Below.refl _ W6).alloc (Nat.le_refl _) _
  have hb57 := hb6.trans (hb7.mono hb6.size)
  have HX := Lib.hid ((show Blk W6 w5.heap.size 48 [.int .i64 0, .int .i64 1, .int .i64 0, .int .i64 0, .int .i64 1, .string ⟨#[97]⟩, .int .i64 1, .int .i64 2, .bool true, .int .i64 0, .string ⟨#[]⟩] from by rw [← hW6]; exact heap_alloc_new w5 _).below hb7 (by rw [hs6]; omega))
  have hn7 : RdE LV.cells 2 W7 (some ⟨w5.heap.size + 1, 0, none⟩) 1 1 [(1, .grant 1 1 1)] := by rw [← hW7, ← hs6]; exact new_let W6 (1, .grant 1 1 1)
  have hsl := sameletters_any ao3 (some ⟨w5.heap.size + 1, 0, none⟩) c3 1 [(1, .grant 1 1 1)] [(1, .grant 1 1 1)] W7 (HR3.out.below hb57 rfl) hn7 (by decide) (by decide)
  rw [eqL1] at hsl
  have HSL := Lib.hid hsl
  have HC7 := Lib.hid (HC5.out.below hb57 (AgO.refl _ _))
  have HR7 := Lib.hid (HR5.out.below hb57 rfl)
  have HF7 := Lib.hid (COut.trans HF5.out (COut.below (O := O5) hb57) HA5.out)
  rw [← hW6] at hW7
  clear hs6 hb6 hb7 hb57 hn7 hsl HC5 HR5 HR3 HF5 hW6
  go_wp2_with (rw [hW7])
  clear hW7
  refine HSL.out.mono ?_
  clear HSL
  rintro e w8 ⟨rfl, hb8⟩
  have HX8 := Lib.hid (HX.out.below hb8 HX.out.lt)
  have k0 : w8.cell? ⟨w5.heap.size, 0, none⟩ = some (.int .i64 0) := HX8.out.cell 0
  have k1 : w8.cell? ⟨w5.heap.size, 1, none⟩ = some (.int .i64 1) := HX8.out.cell 1
  have k2 : w8.cell? ⟨w5.heap.size, 2, none⟩ = some (.int .i64 0) := HX8.out.cell 2
  have k3 : w8.cell? ⟨w5.heap.size, 3, none⟩ = some (.int .i64 0) := HX8.out.cell 3
  have k4 : w8.cell? ⟨w5.heap.size, 4, none⟩ = some (.int .i64 1) := HX8.out.cell 4
  have k5 : w8.cell? ⟨w5.heap.size, 5, none⟩ = some (.string ⟨#[97]⟩) := HX8.out.cell 5
  have k6 : w8.cell? ⟨w5.heap.size, 6, none⟩ = some (.int .i64 1) := HX8.out.cell 6
  have k7 : w8.cell? ⟨w5.heap.size, 7, none⟩ = some (.int .i64 2) := HX8.out.cell 7
  have k8 : w8.cell? ⟨w5.heap.size, 8, none⟩ = some (.bool true) := HX8.out.cell 8
  have k9 : w8.cell? ⟨w5.heap.size, 9, none⟩ = some (.int .i64 0) := HX8.out.cell 9
  have k10 : w8.cell? ⟨w5.heap.size, 10, none⟩ = some (.string ⟨#[]⟩) := HX8.out.cell 10
  obtain ⟨W9, hW9⟩ : ∃ W, w8.alloc (.cells #[.int .i64 1, .iface 48 (.agg #[.int .i64 0, .int .i64 1, .int .i64 0, .int .i64 0, .int .i64 1, .string ⟨#[97]⟩, .int .i64 1, .int .i64 2, .bool true, .int .i64 0, .string ⟨#[]⟩])] 51) = W := ⟨_, rfl⟩
  have hb9 : Below w8.heap.size w8 W9 := by rw [← hW9]; exact (Below.refl _ w8).alloc (Nat.le_refl _) _
  have hb79 := hb8.trans (hb9.mono hb8.size)
  have hn9 : RdE LV.cells 2 W9 (some ⟨w8.heap.size, 0, none⟩) 1 1 [(1, askA)] := by rw [← hW9]; exact new_let w8 (1, askA)
  have hsl := sameletters_any ao5 (some ⟨w8.heap.size, 0, none⟩) c5 1 [(1, askA)] [(1, askA)] W9 (HR7.out.below hb79 rfl) hn9 (by decide) (by decide)
  rw [eqL2] at hsl
  have HSL := Lib.hid hsl
  have HC9 := Lib.hid (HC7.out.below hb79 (AgO.refl _ _))
  have HF9 := Lib.hid (COut.trans HF7.out (COut.below (O := O5) hb79) HA5.out)
  clear hb8 hb9 hb79 hn9 hsl HC7 HR7 HF7 HX HX8
  go_wp2_with (rw [hW9])
  clear hW9 k0 k1 k2 k3 k4 k5 k6 k7 k8 k9 k10
  refine HSL.out.mono ?_
  clear HSL
  rintro e w10 ⟨rfl, hb10⟩
  have HC10 := Lib.hid (HC9.out.below hb10 (AgO.refl _ _))
  have HF10 := Lib.hid (COut.trans HF9.out (COut.below (O := O5) hb10) HA5.out)
  have htm := timers_any w10 HC10.out
  rw [HT.out] at htm
  have HTM := Lib.hid htm
  clear hb10 htm HC9 HF9
  go_wp2_with fail
  refine HTM.out.mono ?_
  rintro e w11 ⟨rfl, rfl⟩
  have HB10 := Lib.hid (HF10.out.to_below HB2.out HO2.out)
  go_wp2_with fail
  go_ret
  exact ⟨rfl, HB10.out⟩
end
end Go.Proofs.YtinkbgeckjbnbaaGreat
namespace Go.Proofs.YtinkbgeckjbnbaaGreat
section
open Go.RowKit
set_option linter.unusedVariables false

/-- a coordinator beside boxes: bx tells which blocks, of which type and cells -/
structure FrS (w0 : World) (w : World) (O : Own) (A : CA) (p : Nat) (S : CS) (bx : List (Nat × TypeId × List Value)) : Prop where
  cw : CW w O A p S
  box : ∀ x ∈ bx, Blk w x.1 x.2.1 x.2.2 ∧ O x.1 % 8 ≠ 1
  old : ∀ b, b < w0.heap.size → O b % 8 ≠ 1
  bel : Below w0.heap.size w0 w
section
variable {w0 w w2 : World} {O O2 : Own} {A A2 : CA} {p : Nat} {S S2 : CS} {bx : List (Nat × TypeId × List Value)}
set_option maxRecDepth 100000 in
theorem FrS.step (h : FrS w0 w O A p S bx) (hc : CW w2 O2 A2 p S2) (ha : AgO w.heap.size O O2) (hf : COut O w w2) : FrS w0 w2 O2 A2 p S2 bx :=
  ⟨hc, fun x hx => ⟨(h.box x hx).1.frm hf (h.box x hx).2, by rw [ha _ (h.box x hx).1.lt]; exact (h.box x hx).2⟩, fun b hb => by rw [ha b (Nat.lt_of_lt_of_le hb h.bel.size)]; exact h.old b hb, hf.to_below h.bel h.old⟩
set_option maxRecDepth 100000 in
theorem FrS.below (h : FrS w0 w O A p S bx) (hb : Below w.heap.size w w2) : FrS w0 w2 O A p S bx := h.step (h.cw.below hb (AgO.refl _ _)) (AgO.refl _ _) (COut.below hb)
set_option maxRecDepth 100000 in
/-- a box of one's own is new -/
theorem FrS.alloc (h : FrS w0 w O A p S bx) (e : TypeId) (cs : List Value) : FrS w0 (w.alloc (.cells cs.toArray e)) (O.upd w.heap.size 0) A p S ((w.heap.size, e, cs) :: bx) := by
  have hb : Below w.heap.size w (w.alloc (.cells cs.toArray e)) := (Below.refl _ w).alloc (Nat.le_refl _) _
  have q := h.step (h.cw.below hb (AgO.upd w.heap.size 0 O)) (AgO.upd w.heap.size 0 O) (COut.below hb)
  refine ⟨q.cw, fun x hx => ?_, q.old, q.bel⟩
  rcases List.mem_cons.1 hx with rfl | hx
  · exact ⟨by unfold Blk; exact heap_alloc_new w _, by show (O.upd w.heap.size 0) w.heap.size % 8 ≠ 1; rw [Own.upd_ge (Nat.le_refl _)]; decide⟩
  · exact q.box x hx
set_option maxRecDepth 100000 in
/-- a cell of the first box is another one -/
theorem FrS.set {b : Nat} {e : TypeId} {cs : List Value} (h : FrS w0 w O A p S ((b, e, cs) :: bx)) (hb : w0.heap.size ≤ b) (hne : ∀ x ∈ bx, x.1 ≠ b) (j : Nat) (v : Value) : FrS w0 (w.setCell ⟨b, j, none⟩ v) O A p S ((b, e, cs.set j v) :: bx) := by
  have hf : Frm (fun k => k = b) w (w.setCell ⟨b, j, none⟩ v) := (Frm.refl (fun k => k = b) w).setCell ⟨b, j, none⟩ v (.inl rfl)
  have hbo := (h.box _ (List.mem_cons_self ..)).2
  refine ⟨h.cw.apart hf (AgO.refl _ _) (fun k _ e => by subst e; exact hbo), fun x hx => ?_, h.old, ?_⟩
  · rcases List.mem_cons.1 hx with rfl | hx
    · exact ⟨(h.box _ (List.mem_cons_self ..)).1.set j v, hbo⟩
    · exact ⟨(h.box x (List.mem_cons_of_mem _ hx)).1.frm hf (hne x hx), (h.box x (List.mem_cons_of_mem _ hx)).2⟩
  · exact ⟨hf.os.trans h.bel.os, hf.tape.trans h.bel.tape, hf.output.trans h.bel.output, Nat.le_trans h.bel.size hf.size, fun k hk => (hf.block k (Nat.lt_of_lt_of_le hk h.bel.size) (by show ¬ k = b; omega)).trans (h.bel.block k hk)⟩
set_option maxRecDepth 100000 in
theorem FrS.cell {b : Nat} {e : TypeId} {cs : List Value} (h : FrS w0 w O A p S bx) (hx : (b, e, cs) ∈ bx) (j : Nat) : w.cell? ⟨b, j, none⟩ = cs[j]? := (h.box _ hx).1.cell j
set_option maxRecDepth 100000 in
theorem FrS.fz {b : Nat} {e : TypeId} {cs : List Value} (h : FrS w0 w O A p S bx) (hx : (b, e, cs) ∈ bx) (j : Nat) : w.frozen? ⟨b, j, none⟩ = false := (h.box _ hx).1.frozen j
set_option maxRecDepth 100000 in
theorem FrS.drew (h : FrS w0 w O A p S bx) : FrS w0 w.drew O A p S bx := h.below (below_drewN (Below.refl _ w) 1)
end
/-- a table of six numbers -/
def lastF (l : List Int) (v : Nat) : Int := l.getD v 0
set_option maxRecDepth 100000 in
theorem lastF_set {l : List Int} {w : Nat} (hw : w < l.length) (x : Int) : lastF (l.set w x) = fun v => if v = w then x else lastF l v := by
  funext v
  unfold lastF
  rw [List.getD_eq_getElem?_getD, List.getD_eq_getElem?_getD]
  by_cases e : v = w
  · subst e; rw [if_pos rfl, List.getElem?_set_self hw]; rfl
  · rw [if_neg e, List.getElem?_set_ne (fun h => e h.symm)]
set_option maxRecDepth 100000 in
theorem Heard.cong {S : CS} {f g : Nat → Int} (h : Heard S f) (hfg : ∀ w : Nat, 1 ≤ w → (w : Int) ≤ S.c.wk → g w = f w) : Heard S g :=
  ⟨h.ok, h.wk, h.tm, h.now, fun w h1 h2 => by rw [hfg w h1 h2]; exact h.each w h1 h2⟩
set_option maxRecDepth 100000 in
theorem fresh_hello {S : CS} {sl : Nat} (h : Fresh S sl) (v life : Int) : Fresh (S.hello v life) sl := ⟨h.L, h.told, h.tm⟩
end
end Go.Proofs.YtinkbgeckjbnbaaGreat
namespace Go.Proofs.YtinkbgeckjbnbaaGreat
section
open Go.RowKit
set_option linter.unusedVariables false

set_option maxRecDepth 100000 in
theorem atL_ins_ne {x : One} {id : Int} (h : x.2 ≠ id) : ∀ L : List One, atL id (insL x L) = atL id L
  | [] => by
    have e : decide (x.2 = id) = false := by simpa using h
    unfold insL atL
    simp only [List.find?_cons, e]
  | y :: l => by
    have e : decide (x.2 = id) = false := by simpa using h
    have ih := atL_ins_ne h l
    unfold insL
    split
    · unfold atL
      simp only [List.find?_cons, e]
    · unfold atL at ih ⊢
      simp only [List.find?_cons]
      cases decide (y.2 = id) with
      | true => rfl
      | false => exact ih
set_option maxRecDepth 100000 in
theorem atL_cancel_ne {id j : Int} (h : id ≠ j) : ∀ L : List One, atL j (cancelL id L) = atL j L
  | [] => rfl
  | y :: l => by
    have ih := atL_cancel_ne h l
    unfold cancelL at ih ⊢
    rw [List.eraseP_cons]
    by_cases hy : y.2 = id
    · have e1 : decide (y.2 = id) = true := by simpa using hy
      have e2 : decide (y.2 = j) = false := by simp; omega
      rw [e1]
      unfold atL
      simp only [List.find?_cons, e2, cond_true]
    · have e1 : decide (y.2 = id) = false := by simpa using hy
      rw [e1]
      unfold atL at ih ⊢
      simp only [cond_false, List.find?_cons]
      cases decide (y.2 = j) with
      | true => rfl
      | false => exact ih
set_option maxRecDepth 100000 in
theorem atL_ins_self {x : One} : ∀ L : List One, hasL x.2 L = false → atL x.2 (insL x L) = (x.1, true)
  | [], _ => by unfold insL atL; simp only [List.find?_cons]; simp
  | y :: l, h => by
    have hy : decide (y.2 = x.2) = false := by
      unfold hasL at h; rw [List.any_cons, Bool.or_eq_false_iff] at h; exact h.1
    have hl : hasL x.2 l = false := by unfold hasL at h ⊢; rw [List.any_cons, Bool.or_eq_false_iff] at h; exact h.2
    have ih := atL_ins_self l hl
    unfold insL
    split
    · unfold atL; simp only [List.find?_cons]; simp
    · unfold atL at ih ⊢
      simp only [List.find?_cons, hy]
      exact ih
set_option maxRecDepth 100000 in
theorem ids_cancel_no {id : Int} : ∀ L : List One, idsOK L → hasL id (cancelL id L) = false
  | [], _ => rfl
  | y :: l, h => by
    unfold idsOK at h
    rw [List.map_cons, List.nodup_cons] at h
    have ih := ids_cancel_no (id := id) l h.2
    unfold cancelL at ih ⊢
    rw [List.eraseP_cons]
    by_cases hy : y.2 = id
    · have e1 : decide (y.2 = id) = true := by simpa using hy
      rw [e1]
      show hasL id l = false
      unfold hasL
      rw [List.any_eq_false]
      intro x hx hx2
      simp only [decide_eq_true_eq] at hx2
      exact h.1 (by rw [hy, ← hx2]; exact List.mem_map.2 ⟨x, hx, rfl⟩)
    · have e1 : decide (y.2 = id) = false := by simpa using hy
      rw [e1]
      show hasL id (y :: l.eraseP _) = false
      unfold hasL at ih ⊢
      rw [List.any_cons, e1, Bool.false_or]
      exact ih
set_option maxRecDepth 100000 in
theorem ids_ins {x : One} {L : List One} (h : idsOK L) (hn : hasL x.2 L = false) : idsOK (insL x L) := by
  rw [idsOK_perm (insL_perm x L)]
  unfold idsOK
  rw [List.map_cons, List.nodup_cons]
  refine ⟨fun hm => ?_, h⟩
  obtain ⟨y, hy, e⟩ := List.mem_map.1 hm
  unfold hasL at hn
  rw [List.any_eq_false] at hn
  exact hn y hy (by simpa using e)
set_option maxRecDepth 100000 in
theorem ids_cancel {id : Int} {L : List One} (h : idsOK L) : idsOK (cancelL id L) := by
  unfold idsOK at h ⊢
  exact List.Nodup.sublist ((List.eraseP_sublist (p := fun y : One => decide (y.2 = id)) (l := L)).map _) h
set_option maxRecDepth 100000 in
/-- a timer is set -/
theorem set_at {L : List One} {id at_ : Int} (h : idsOK L) (hl : L.length < 24) (h0 : 0 ≤ id) (h1 : 0 ≤ at_) (h2 : at_ ≤ 1099511627776) :
    atL id (setL 24 L id at_).2 = (at_, true) ∧ (∀ j, j ≠ id → atL j (setL 24 L id at_).2 = atL j L) ∧ idsOK (setL 24 L id at_).2 ∧ (setL 24 L id at_).2.length ≤ L.length + 1 ∧ (hasL id L = true → (setL 24 L id at_).2.length ≤ L.length) := by
  unfold setL
  rw [if_neg (by omega)]
  cases e : hasL id L with
  | true =>
    rw [if_pos rfl]
    have hc := ids_cancel_no (id := id) L h
    have hlen : (insL (at_, id) (cancelL id L)).length = (cancelL id L).length + 1 := by rw [(insL_perm (at_, id) (cancelL id L)).length_eq]; rfl
    have hlc : (cancelL id L).length + 1 ≤ L.length := by
      unfold cancelL
      unfold hasL at e
      rw [List.any_eq_true] at e
      obtain ⟨x, hx, hx2⟩ := e
      have := List.length_eraseP_of_mem (p := fun y : One => decide (y.2 = id)) hx hx2
      have hp := List.length_pos_of_mem hx
      omega
    exact ⟨atL_ins_self (x := (at_, id)) _ hc, fun j hj => by rw [atL_ins_ne (fun q => hj q.symm), atL_cancel_ne (fun q => hj q.symm)], ids_ins (ids_cancel h) hc, by show (insL (at_, id) (cancelL id L)).length ≤ _; omega, fun _ => by show (insL (at_, id) (cancelL id L)).length ≤ _; omega⟩
  | false =>
    rw [if_neg (by decide), if_neg (by omega)]
    have hlen : (insL (at_, id) L).length = L.length + 1 := by rw [(insL_perm (at_, id) L).length_eq]; rfl
    exact ⟨atL_ins_self (x := (at_, id)) _ e, fun j hj => atL_ins_ne (fun q => hj q.symm) _, ids_ins h e, by show (insL (at_, id) L).length ≤ _; omega, fun q => by cases q⟩
set_option maxRecDepth 100000 in
theorem wait_most (c : CfgM) (t d : Int) : 0 ≤ waitC c t d ∧ waitC c t d ≤ clipI c.ca + clipI c.ji := by
  have h := waitC_bd c t d
  unfold waitC at h ⊢
  have hj : 0 ≤ clipI c.ji := by unfold clipI; omega
  have := lowI_bd d (clipI c.ji + 1) (by omega)
  omega
set_option maxRecDepth 100000 in
theorem tid1 {S : CS} (h : (S.Q 1).slot = 0) (s : Nat) : S.tid 1 s = (s : Int) := by unfold CS.tid; rw [h]; omega
set_option maxRecDepth 100000 in
theorem shOf_setH {S : CS} {s : Nat} (hs : s < (S.Q 1).sh.length) (y : SH) (j : Nat) : (S.setH 1 s y).shOf 1 j = if j = s then y else S.shOf 1 j := by
  unfold CS.shOf
  rw [setH_Q]
  show ((S.Q 1).sh.set s y).getD j SH.zero = _
  rw [List.getD_eq_getElem?_getD, List.getD_eq_getElem?_getD]
  by_cases e : j = s
  · subst e; rw [if_pos rfl, List.getElem?_set_self hs]; rfl
  · rw [if_neg e, List.getElem?_set_ne (fun q => e q.symm)]
set_option maxRecDepth 100000 in
/-- shards that are due are looked at, one behind the other -/
theorem rounds_look {S : CS} {W : List Nat} {turn draw : Int} (hW : W.Nodup) (hlt : ∀ s ∈ W, s < 6) (h0 : (S.Q 1).slot = 0) (hsh : (S.Q 1).sh.length = 6) (hids : idsOK S.tm) (hlen : S.tm.length ≤ 6) (hat : ∀ s ∈ W, (atL (s : Nat) S.tm).2 = true ∧ (atL (s : Nat) S.tm).1 ≤ S.now) (htn : ∀ s ∈ W, (S.shOf 1 s).turn = turn) (hnow : 0 ≤ S.now ∧ S.now ≤ 1000) :
    ∀ l r : List Nat, W = l ++ r → (S.lookN 1 draw (l.map (fun s : Nat => (s : Int)))).2 = l.flatMap (fun s => S.askL 1 s (turn + 1)) ∧ idsOK (S.lookN 1 draw (l.map (fun s : Nat => (s : Int)))).1.tm ∧ (S.lookN 1 draw (l.map (fun s : Nat => (s : Int)))).1.tm.length ≤ 6 ∧ ((S.lookN 1 draw (l.map (fun s : Nat => (s : Int)))).1.Q 1).sh.length = 6 ∧
      ∀ s ∈ W, (s ∈ l → (atL (s : Nat) (S.lookN 1 draw (l.map (fun s : Nat => (s : Int)))).1.tm).2 = true ∧ (atL (s : Nat) (S.lookN 1 draw (l.map (fun s : Nat => (s : Int)))).1.tm).1 ≤ S.now + (clipI S.c.ca + clipI S.c.ji) ∧ ((S.lookN 1 draw (l.map (fun s : Nat => (s : Int)))).1.shOf 1 s).turn = turn + 1) ∧ (s ∉ l → atL (s : Nat) (S.lookN 1 draw (l.map (fun s : Nat => (s : Int)))).1.tm = atL (s : Nat) S.tm ∧ (S.lookN 1 draw (l.map (fun s : Nat => (s : Int)))).1.shOf 1 s = S.shOf 1 s) := by
  intro l
  refine snoc_ind (P := fun l => ∀ r : List Nat, W = l ++ r → (S.lookN 1 draw (l.map (fun s : Nat => (s : Int)))).2 = l.flatMap (fun s => S.askL 1 s (turn + 1)) ∧ idsOK (S.lookN 1 draw (l.map (fun s : Nat => (s : Int)))).1.tm ∧ (S.lookN 1 draw (l.map (fun s : Nat => (s : Int)))).1.tm.length ≤ 6 ∧ ((S.lookN 1 draw (l.map (fun s : Nat => (s : Int)))).1.Q 1).sh.length = 6 ∧
      ∀ s ∈ W, (s ∈ l → (atL (s : Nat) (S.lookN 1 draw (l.map (fun s : Nat => (s : Int)))).1.tm).2 = true ∧ (atL (s : Nat) (S.lookN 1 draw (l.map (fun s : Nat => (s : Int)))).1.tm).1 ≤ S.now + (clipI S.c.ca + clipI S.c.ji) ∧ ((S.lookN 1 draw (l.map (fun s : Nat => (s : Int)))).1.shOf 1 s).turn = turn + 1) ∧ (s ∉ l → atL (s : Nat) (S.lookN 1 draw (l.map (fun s : Nat => (s : Int)))).1.tm = atL (s : Nat) S.tm ∧ (S.lookN 1 draw (l.map (fun s : Nat => (s : Int)))).1.shOf 1 s = S.shOf 1 s)) ?_ (fun l x ih => ?_) l
  · intro r _
    exact ⟨rfl, hids, hlen, hsh, fun s hs => ⟨fun h => absurd h List.not_mem_nil, fun _ => ⟨rfl, rfl⟩⟩⟩
  · intro r hr
    obtain ⟨i1, i2, i3, i4, i5⟩ := ih ([x] ++ r) (by rw [hr, List.append_assoc])
    have hlk := lookN_lk S 1 draw (l.map (fun s : Nat => (s : Int)))
    rw [List.map_append, List.map_singleton, lookN_snoc]
    obtain ⟨R, hR⟩ : ∃ R, S.lookN 1 draw (l.map (fun s : Nat => (s : Int))) = R := ⟨_, rfl⟩
    rw [hR] at i1 i2 i3 i4 i5 hlk ⊢
    have hxW : x ∈ W := by rw [hr]; simp
    have hxl : x ∉ l := fun h => by
      rw [hr, List.append_assoc, List.nodup_append] at hW
      exact hW.2.2 x h x (by simp) rfl
    have hx6 := hlt x hxW
    obtain ⟨ha, hs⟩ := (i5 x hxW).2 hxl
    have hsl : (R.1.Q 1).slot = 0 := by obtain ⟨sh, hq⟩ := hlk.Q 1; rw [hq]; exact h0
    have htid := tid1 hsl x
    have hatx := hat x hxW
    have hw := wait_most R.1.c (tryI (R.1.shOf 1 x).try_) draw
    have hb := waitC_bd R.1.c (tryI (R.1.shOf 1 x).try_) draw
    have hlook : R.1.look 1 x draw = ((R.1.setH 1 x { R.1.shOf 1 x with try_ := tryI (R.1.shOf 1 x).try_, turn := (R.1.shOf 1 x).turn + 1 }).tset 1 x (tryI (R.1.shOf 1 x).try_) draw, R.1.askL 1 x ((R.1.shOf 1 x).turn + 1)) := by
      unfold CS.look
      rw [htid, ha, if_neg (by rw [hatx.1]; decide), if_pos (by rw [hlk.now]; exact hatx.2)]
    unfold CS.lookA
    rw [Int.toNat_natCast, hlook]
    have htx : (R.1.shOf 1 x).turn = turn := by rw [hs]; exact htn x hxW
    have hwt : R.1.wait (tryI (R.1.shOf 1 x).try_) draw = S.now + waitC R.1.c (tryI (R.1.shOf 1 x).try_) draw := by unfold CS.wait; rw [hlk.now]; omega
    have htm : ((R.1.setH 1 x { R.1.shOf 1 x with try_ := tryI (R.1.shOf 1 x).try_, turn := (R.1.shOf 1 x).turn + 1 }).tset 1 x (tryI (R.1.shOf 1 x).try_) draw).tm = (setL 24 R.1.tm (x : Nat) (S.now + waitC R.1.c (tryI (R.1.shOf 1 x).try_) draw)).2 := by
      show (setL 24 R.1.tm ((R.1.setH 1 x _).tid 1 x) ((R.1.setH 1 x _).wait _ draw)).2 = _
      rw [show (R.1.setH 1 x { R.1.shOf 1 x with try_ := tryI (R.1.shOf 1 x).try_, turn := (R.1.shOf 1 x).turn + 1 }).tid 1 x = (x : Int) from by rw [← htid]; unfold CS.tid; rw [setH_Q], show (R.1.setH 1 x { R.1.shOf 1 x with try_ := tryI (R.1.shOf 1 x).try_, turn := (R.1.shOf 1 x).turn + 1 }).wait (tryI (R.1.shOf 1 x).try_) draw = S.now + waitC R.1.c (tryI (R.1.shOf 1 x).try_) draw from hwt]
    have hset := set_at (L := R.1.tm) (id := (x : Nat)) (at_ := S.now + waitC R.1.c (tryI (R.1.shOf 1 x).try_) draw) i2 (by omega) (by omega) (by omega) (by omega)
    have hhas : hasL (x : Nat) R.1.tm = true := by rw [← atL_has, ha]; exact hatx.1
    refine ⟨?_, ?_, ?_, ?_, fun s hsW => ⟨fun hsl' => ?_, fun hsn => ?_⟩⟩
    · rw [List.flatMap_append, i1, htx, askL_cong hlk]; simp
    · rw [htm]; exact hset.2.2.1
    · rw [htm]; have := hset.2.2.2.2 hhas; omega
    · show ((R.1.setH 1 x _).Q 1).sh.length = 6; rw [setH_Q]; show ((R.1.Q 1).sh.set x _).length = 6; rw [List.length_set]; exact i4
    · rw [htm]
      show _ ∧ _ ∧ ((R.1.setH 1 x _).shOf 1 s).turn = turn + 1
      rw [shOf_setH (by rw [i4]; exact hx6)]
      by_cases e : s = x
      · subst e
        rw [hset.1, if_pos rfl]
        exact ⟨rfl, by show S.now + waitC R.1.c _ draw ≤ _; rw [← hlk.c]; omega, by show (R.1.shOf 1 s).turn + 1 = _; rw [htx]⟩
      · rw [hset.2.1 (s : Int) (by omega), if_neg e]
        exact (i5 s hsW).1 (by rcases List.mem_append.1 hsl' with h | h; exact h; exact absurd (by simpa using h) e)
    · have hsl2 : s ∉ l := fun h => hsn (List.mem_append_left _ h)
      have hsx : s ≠ x := fun h => hsn (by rw [h]; simp)
      rw [htm]
      show _ ∧ (R.1.setH 1 x _).shOf 1 s = _
      rw [hset.2.1 (s : Int) (by omega), shOf_setH (by rw [i4]; exact hx6), if_neg hsx]
      exact (i5 s hsW).2 hsl2
set_option maxRecDepth 100000 in
/-- shards that were never looked at are looked at, one behind the other -/
theorem rounds_first {S : CS} {W : List Nat} {draw : Int} (hW : W.Nodup) (hWl : W.length ≤ 6) (hlt : ∀ s ∈ W, s < 6) (h0 : (S.Q 1).slot = 0) (hsh : (S.Q 1).sh.length = 6) (htm0 : S.tm = []) (hnow : 0 ≤ S.now ∧ S.now ≤ 1000) :
    ∀ l : List Nat, ∀ r : List Nat, W = l ++ r → (S.lookN 1 draw (l.map (fun s : Nat => (s : Int)))).2 = l.flatMap (fun s => S.askL 1 s (max (S.firstL s) 0)) ∧ idsOK (S.lookN 1 draw (l.map (fun s : Nat => (s : Int)))).1.tm ∧ (S.lookN 1 draw (l.map (fun s : Nat => (s : Int)))).1.tm.length ≤ l.length ∧ ((S.lookN 1 draw (l.map (fun s : Nat => (s : Int)))).1.Q 1).sh.length = 6 ∧ ∀ s ∈ W, (s ∈ l → (atL (s : Nat) (S.lookN 1 draw (l.map (fun s : Nat => (s : Int)))).1.tm).2 = true ∧ (atL (s : Nat) (S.lookN 1 draw (l.map (fun s : Nat => (s : Int)))).1.tm).1 ≤ S.now + (clipI S.c.ca + clipI S.c.ji) ∧ ((S.lookN 1 draw (l.map (fun s : Nat => (s : Int)))).1.shOf 1 s).turn = max (S.firstL s) 0) ∧ (s ∉ l → atL (s : Nat) (S.lookN 1 draw (l.map (fun s : Nat => (s : Int)))).1.tm = (0, false)) := by
  intro l
  refine snoc_ind (P := fun l => ∀ r : List Nat, W = l ++ r → (S.lookN 1 draw (l.map (fun s : Nat => (s : Int)))).2 = l.flatMap (fun s => S.askL 1 s (max (S.firstL s) 0)) ∧ idsOK (S.lookN 1 draw (l.map (fun s : Nat => (s : Int)))).1.tm ∧ (S.lookN 1 draw (l.map (fun s : Nat => (s : Int)))).1.tm.length ≤ l.length ∧ ((S.lookN 1 draw (l.map (fun s : Nat => (s : Int)))).1.Q 1).sh.length = 6 ∧ ∀ s ∈ W, (s ∈ l → (atL (s : Nat) (S.lookN 1 draw (l.map (fun s : Nat => (s : Int)))).1.tm).2 = true ∧ (atL (s : Nat) (S.lookN 1 draw (l.map (fun s : Nat => (s : Int)))).1.tm).1 ≤ S.now + (clipI S.c.ca + clipI S.c.ji) ∧ ((S.lookN 1 draw (l.map (fun s : Nat => (s : Int)))).1.shOf 1 s).turn = max (S.firstL s) 0) ∧ (s ∉ l → atL (s : Nat) (S.lookN 1 draw (l.map (fun s : Nat => (s : Int)))).1.tm = (0, false))) ?_ (fun l x ih => ?_) l
  · intro r _
    refine ⟨rfl, ?_, ?_, hsh, fun s hs => ⟨fun h => absurd h List.not_mem_nil, fun _ => ?_⟩⟩
    · show idsOK S.tm; rw [htm0]; exact List.nodup_nil
    · show S.tm.length ≤ 0; rw [htm0]; exact Nat.le_refl _
    · show atL (s : Nat) S.tm = _; rw [htm0]; rfl
  · intro r hr
    obtain ⟨i1, i2, i3, i4, i5⟩ := ih ([x] ++ r) (by rw [hr, List.append_assoc])
    have hlk := lookN_lk S 1 draw (l.map (fun s : Nat => (s : Int)))
    rw [List.map_append, List.map_singleton, lookN_snoc]
    obtain ⟨R, hR⟩ : ∃ R, S.lookN 1 draw (l.map (fun s : Nat => (s : Int))) = R := ⟨_, rfl⟩
    rw [hR] at i1 i2 i3 i4 i5 hlk ⊢
    have hxW : x ∈ W := by rw [hr]; simp
    have hxl : x ∉ l := fun h => by
      rw [hr, List.append_assoc, List.nodup_append] at hW
      exact hW.2.2 x h x (by simp) rfl
    have hx6 := hlt x hxW
    have hll : l.length + 1 ≤ 6 := by rw [hr] at hWl; simp at hWl; omega
    have ha := (i5 x hxW).2 hxl
    have hsl : (R.1.Q 1).slot = 0 := by obtain ⟨sh, hq⟩ := hlk.Q 1; rw [hq]; exact h0
    have htid := tid1 hsl x
    have hw := wait_most R.1.c 0 draw
    have hb := waitC_bd R.1.c 0 draw
    have hlook : R.1.look 1 x draw = ((R.1.setH 1 x ⟨max (R.1.firstL x) 0, 0, R.1.now, false⟩).tset 1 x 0 draw, R.1.askL 1 x (max (R.1.firstL x) 0)) := by
      unfold CS.look
      rw [htid, ha, if_pos rfl]
    unfold CS.lookA
    rw [Int.toNat_natCast, hlook]
    have hwt : R.1.wait 0 draw = S.now + waitC R.1.c 0 draw := by unfold CS.wait; rw [hlk.now]; omega
    have htm : ((R.1.setH 1 x ⟨max (R.1.firstL x) 0, 0, R.1.now, false⟩).tset 1 x 0 draw).tm = (setL 24 R.1.tm (x : Nat) (S.now + waitC R.1.c 0 draw)).2 := by
      show (setL 24 R.1.tm ((R.1.setH 1 x _).tid 1 x) ((R.1.setH 1 x _).wait _ draw)).2 = _
      rw [show (R.1.setH 1 x ⟨max (R.1.firstL x) 0, 0, R.1.now, false⟩).tid 1 x = (x : Int) from by rw [← htid]; unfold CS.tid; rw [setH_Q], show (R.1.setH 1 x ⟨max (R.1.firstL x) 0, 0, R.1.now, false⟩).wait 0 draw = S.now + waitC R.1.c 0 draw from hwt]
    have hset := set_at (L := R.1.tm) (id := (x : Nat)) (at_ := S.now + waitC R.1.c 0 draw) i2 (by omega) (by omega) (by omega) (by omega)
    refine ⟨?_, ?_, ?_, ?_, fun s hsW => ⟨fun hsl' => ?_, fun hsn => ?_⟩⟩
    · rw [List.flatMap_append, i1, askL_cong hlk, firstL_cong hlk]; simp
    · rw [htm]; exact hset.2.2.1
    · rw [htm, List.length_append]; have := hset.2.2.2.1; simp; omega
    · show ((R.1.setH 1 x _).Q 1).sh.length = 6; rw [setH_Q]; show ((R.1.Q 1).sh.set x _).length = 6; rw [List.length_set]; exact i4
    · rw [htm]
      show _ ∧ _ ∧ ((R.1.setH 1 x _).shOf 1 s).turn = _
      rw [shOf_setH (by rw [i4]; exact hx6)]
      by_cases e : s = x
      · subst e
        rw [hset.1, if_pos rfl]
        exact ⟨rfl, by show S.now + waitC R.1.c _ draw ≤ _; rw [← hlk.c]; omega, by show max (R.1.firstL s) 0 = _; rw [firstL_cong hlk]⟩
      · rw [hset.2.1 (s : Int) (by omega), if_neg e]
        exact (i5 s hsW).1 (by rcases List.mem_append.1 hsl' with h | h; exact h; exact absurd (by simpa using h) e)
    · have hsl2 : s ∉ l := fun h => hsn (List.mem_append_left _ h)
      have hsx : s ≠ x := fun h => hsn (by rw [h]; simp)
      rw [htm, hset.2.1 (s : Int) (by omega)]
      exact (i5 s hsW).2 hsl2
/-- one query in slot 0, each of W's shards asked turn times more, its timer due at T at the latest -/
structure Rnd (S : CS) (W : List Nat) (sl : Nat) (turn T : Int) : Prop where
  L : S.L = (List.replicate sl 0).set 0 1
  sl1 : 1 ≤ sl
  nodup : W.Nodup
  lt6 : ∀ s ∈ W, s < 6
  len6 : W.length ≤ 6
  slot : (S.Q 1).slot = 0
  sh6 : (S.Q 1).sh.length = 6
  wl : S.wl 1 = W.map (fun s : Nat => (s : Int))
  ids : idsOK S.tm
  tml : S.tm.length ≤ 6
  at_ : ∀ s ∈ W, (atL (s : Nat) S.tm).2 = true ∧ (atL (s : Nat) S.tm).1 ≤ T
  turn : ∀ s ∈ W, (S.shOf 1 s).turn = turn
set_option maxRecDepth 100000 in
theorem wl_lk {S S' : CS} (h : Lk S S') (id : Nat) : S'.wl id = S.wl id := by
  obtain ⟨sh, hq⟩ := h.Q id
  unfold CS.wl
  rw [hq]
set_option maxRecDepth 100000 in
theorem slot_lk {S S' : CS} (h : Lk S S') (id : Nat) : (S'.Q id).slot = (S.Q id).slot := by obtain ⟨sh, hq⟩ := h.Q id; rw [hq]
set_option maxRecDepth 100000 in
/-- a wake of one that is due -/
theorem rnd_wake {S : CS} {W : List Nat} {sl : Nat} {turn T : Int} (h : Rnd S W sl turn T) (hT : T ≤ S.now) (hnow : 0 ≤ S.now ∧ S.now ≤ 1000) (draw : Int) (m : Nat) :
    (S.wakeN draw (m + 1)).2 = W.flatMap (fun s => S.askL 1 s (turn + 1)) ∧ Rnd (S.wakeN draw (m + 1)).1 W sl (turn + 1) (S.now + (clipI S.c.ca + clipI S.c.ji)) := by
  rw [wake_one h.L h.sl1, h.wl]
  obtain ⟨i1, i2, i3, i4, i5⟩ := rounds_look (draw := draw) h.nodup h.lt6 h.slot h.sh6 h.ids h.tml (fun s hs => ⟨(h.at_ s hs).1, Int.le_trans (h.at_ s hs).2 hT⟩) h.turn hnow W [] (by simp)
  have hlk := lookN_lk S 1 draw (W.map (fun s : Nat => (s : Int)))
  exact ⟨i1, by rw [hlk.L]; exact h.L, h.sl1, h.nodup, h.lt6, h.len6, (slot_lk hlk 1).trans h.slot, i4, (wl_lk hlk 1).trans h.wl, i2, i3, fun s hs => ⟨((i5 s hs).1 hs).1, ((i5 s hs).1 hs).2.1⟩, fun s hs => ((i5 s hs).1 hs).2.2⟩
set_option maxRecDepth 100000 in
theorem rnd_tick {S : CS} {W : List Nat} {sl : Nat} {turn T : Int} (h : Rnd S W sl turn T) : Rnd S.tick W sl turn T :=
  ⟨h.L, h.sl1, h.nodup, h.lt6, h.len6, h.slot, h.sh6, h.wl, h.ids, h.tml, h.at_, h.turn⟩
set_option maxRecDepth 100000 in
/-- the first wake -/
theorem rnd_first {S : CS} {sl ns : Nat} {q : ByteArray} {k n : Int} (h : Fresh S sl) (hsl : 1 ≤ sl) (hm : mayQ q k n = true) (hns : ns ≤ 6) (hnow : 0 ≤ S.now ∧ S.now ≤ 1000) (draw : Int) (m : Nat) (hd : ((S.add q k n 0 ns).tell 1).isDone 1 = false) (hf : ∀ s, S.firstL s = 0) :
    ∃ W : List Nat, (∀ s ∈ W, s < ns) ∧ ((S.sub q k n ns).wakeN draw (m + 1)).2 = W.flatMap (fun s => (S.sub q k n ns).askL 1 s 0) ∧ Rnd ((S.sub q k n ns).wakeN draw (m + 1)).1 W sl 0 (S.now + (clipI S.c.ca + clipI S.c.ji)) := by
  have e1 : S.sub q k n ns = (S.add q k n 0 ns).tell 1 := by rw [sub_eq h hsl hm]; unfold CS.goes; rw [if_neg (by rw [hd]; decide)]
  have hc := sub_c (ns := ns) h hsl hm
  have hL := tell_L (ns := ns) h hsl hm
  have hQ := tell_Q1 (ns := ns) h hsl hm
  have htm : ((S.add q k n 0 ns).tell 1).tm = [] := h.tm
  rw [e1] at hc ⊢
  obtain ⟨S2, hS2⟩ : ∃ x, (S.add q k n 0 ns).tell 1 = x := ⟨_, rfl⟩
  rw [hS2] at hL hQ htm hd hc ⊢
  have hf2 : ∀ s, S2.firstL s = 0 := fun s => by
    have : S2.liveJ s = S.liveJ s := by funext j; unfold CS.liveJ; rw [hc.1, hc.2.1, hc.2.2]
    rw [← hf s]; unfold CS.firstL; rw [hc.1, this]
  have hwl : ∃ W : List Nat, S2.wl 1 = W.map (fun s : Nat => (s : Int)) ∧ W.Nodup ∧ (∀ s ∈ W, s < ns) ∧ W.length ≤ ns := by
    unfold CS.wl wantsP
    have hd' : doneP (S2.Q 1).n (S2.Q 1).S (S2.Q 1).T = false := hd
    rw [if_neg (by rw [hd']; decide), hQ]
    have hlen : ((leastsQ S q k ns).map newPS).length = ns := by unfold leastsQ; simp
    refine ⟨(List.range ns).filter (fun i => match ((leastsQ S q k ns).map newPS)[i]? with | some s => s.wanted | none => false), ?_, (List.nodup_range).filter _, fun s hs => List.mem_range.1 (List.mem_filter.1 hs).1, Nat.le_trans (List.length_filter_le _ _) (by rw [List.length_range]; exact Nat.le_refl _)⟩
    show wantK ((leastsQ S q k ns).map newPS) ((leastsQ S q k ns).map newPS).length = _
    unfold wantK
    rw [hlen]
    rfl
  obtain ⟨W, hW, hnd, hlt, hWl⟩ := hwl
  have h0 : (S2.Q 1).slot = 0 := by rw [hQ]; rfl
  have hsh : (S2.Q 1).sh.length = 6 := by rw [hQ]; show (List.replicate 6 SH.zero).length = 6; simp
  obtain ⟨i1, i2, i3, i4, i5⟩ := rounds_first (draw := draw) hnd (by omega) (fun s hs => by have := hlt s hs; omega) h0 hsh htm (by rw [hc.2.1]; exact hnow) W [] (by simp)
  have hlk := lookN_lk S2 1 draw (W.map (fun s : Nat => (s : Int)))
  refine ⟨W, hlt, ?_, ?_⟩
  · rw [wake_one hL hsl, hW, i1]
    congr 1
    funext s
    rw [hf2 s]; rfl
  · rw [wake_one hL hsl, hW]
    exact ⟨by rw [hlk.L]; exact hL, hsl, hnd, fun s hs => by have := hlt s hs; omega, by omega, (slot_lk hlk 1).trans h0, i4, (wl_lk hlk 1).trans hW, i2, by omega, fun s hs => ⟨((i5 s hs).1 hs).1, by have q := ((i5 s hs).1 hs).2.1; rw [hc.1, hc.2.1] at q; exact q⟩, fun s hs => by rw [((i5 s hs).1 hs).2.2, hf2 s]; rfl⟩
set_option maxRecDepth 100000 in
/-- a letter of a round -/
theorem ask_all {S : CS} {last : Nat → Int} (h : Heard S last) (hw : 1 ≤ S.c.wk) (hcp : 1 ≤ S.c.cp) (hl : ∀ w : Nat, 1 ≤ w → (w : Int) ≤ S.c.wk → last w = 0) (id s : Nat) (t : Int) :
    S.askL id s t = [(((copW S.c s (t % S.c.cp).toNat : Nat) : Int), .ask ((S.Q id).slot : Nat) (id : Nat) (s : Nat) (seqP (S.Q id).S (s : Nat)) 1 (S.Q id).q (S.Q id).k S.c.ba (!(afterP (S.Q id).S (s : Nat)).2) (afterP (S.Q id).S (s : Nat)).1.1 (afterP (S.Q id).S (s : Nat)).1.2)] := by
  have h1 := Int.emod_nonneg t (show S.c.cp ≠ 0 by omega)
  have h2 := Int.emod_lt_of_pos t (show 0 < S.c.cp by omega)
  have hj : (t % S.c.cp).toNat < S.c.cp.toNat := by omega
  have e : turnW S.c s t = ((copW S.c s (t % S.c.cp).toNat : Nat) : Int) := by
    unfold turnW
    rw [List.getD_eq_getElem?_getD, copN_at hj, copW_eq hw]; rfl
  have hb := cop_bd hw s (t % S.c.cp).toNat
  have he := copW_eq hw s (t % S.c.cp).toNat
  have hep := heard_epoch h (w := copW S.c s (t % S.c.cp).toNat) (by omega) (by omega)
  rw [hl _ (by omega) (by omega), if_neg (by decide)] at hep
  unfold CS.askL
  rw [e, hep, if_neg (by decide)]
end
end Go.Proofs.YtinkbgeckjbnbaaGreat
namespace Go.Proofs.YtinkbgeckjbnbaaGreat
section
open Go.RowKit
set_option linter.unusedVariables false

def Idle (S : CS) : Prop := ∀ x ∈ S.L, x = 0
/-- one query, just taken -/
def FsC (S : CS) (ns sl : Nat) : Prop := Idle S ∨ ∃ (S0 : CS) (q : ByteArray) (k n : Int), Fresh S0 sl ∧ mayQ q k n = true ∧ ((S0.add q k n 0 ns).tell 1).isDone 1 = false ∧ (∀ s, S0.firstL s = 0) ∧ S = S0.sub q k n ns ∧ 0 ≤ S0.now ∧ S0.now ≤ 1000
/-- ahead of the i-th wake -/
def RbC (S : CS) (ns sl i : Nat) (W : List Nat) : Prop := (i = 0 ∧ FsC S ns sl) ∨ (1 ≤ i ∧ (∀ s ∈ W, s < ns) ∧ W.Nodup ∧ ((W = [] ∧ Idle S) ∨ Rnd S W sl ((i : Int) - 1) S.now))
/-- behind the i-th wake -/
def RcC (S : CS) (ns sl i : Nat) (W : List Nat) (T : Int) : Prop := (∀ s ∈ W, s < ns) ∧ W.Nodup ∧ ((W = [] ∧ Idle S) ∨ Rnd S W sl (i : Int) T)
set_option maxRecDepth 100000 in
theorem round_wake {S : CS} {ns sl i : Nat} {W : List Nat} (h : RbC S ns sl i W) (hns : ns ≤ 6) (hsl : 1 ≤ sl) (hnow : 0 ≤ S.now ∧ S.now ≤ 1000) (hs : S.c.sl = (sl : Int)) (draw : Int) :
    ∃ W', (1 ≤ i → W' = W) ∧ (S.wake draw).2 = W'.flatMap (fun s => S.askL 1 s (i : Nat)) ∧ RcC (S.wake draw).1 ns sl i W' (S.now + (clipI S.c.ca + clipI S.c.ji)) := by
  obtain ⟨m, rfl⟩ : ∃ m, sl = m + 1 := ⟨sl - 1, by omega⟩
  unfold CS.wake
  rw [hs, Int.toNat_natCast]
  rcases h with ⟨rfl, hf⟩ | ⟨hi, hlt, hnd, hf⟩
  · rcases hf with hid | ⟨S0, q, k, n, hF, hm, hd, hfz, rfl, h0, h1⟩
    · refine ⟨[], fun h => absurd h (by omega), ?_⟩
      rw [wake_none hid]
      exact ⟨rfl, ⟨(fun s hs => by cases hs), List.nodup_nil, .inl ⟨rfl, hid⟩⟩⟩
    · obtain ⟨W', hlt, hw, hr⟩ := rnd_first hF hsl hm hns ⟨h0, h1⟩ draw m hd hfz
      have hc := sub_c (ns := ns) hF hsl hm
      refine ⟨W', fun h => absurd h (by omega), hw, ⟨hlt, hr.nodup, .inr ?_⟩⟩
      rw [hc.1, hc.2.1]
      exact hr
  · rcases hf with ⟨rfl, hid⟩ | hr
    · refine ⟨[], fun _ => rfl, ?_⟩
      rw [wake_none hid]
      exact ⟨rfl, ⟨(fun s hs => by cases hs), List.nodup_nil, .inl ⟨rfl, hid⟩⟩⟩
    · obtain ⟨hw, h2⟩ := rnd_wake hr (Int.le_refl _) hnow draw m
      rw [show (i : Int) - 1 + 1 = (i : Int) by omega] at hw h2
      exact ⟨W, fun _ => rfl, hw, ⟨hlt, hnd, .inr h2⟩⟩
set_option maxRecDepth 100000 in
theorem rc_tick {S : CS} {ns sl i : Nat} {W : List Nat} {T : Int} (h : RcC S ns sl i W T) : RcC S.tick ns sl i W T :=
  ⟨h.1, h.2.1, h.2.2.imp (fun h => h) rnd_tick⟩
set_option maxRecDepth 100000 in
theorem rc_rb {S : CS} {ns sl i : Nat} {W : List Nat} {T : Int} (h : RcC S ns sl i W T) (hT : T ≤ S.now) : RbC S ns sl (i + 1) W :=
  .inr ⟨by omega, h.1, h.2.1, h.2.2.imp (fun h => h) (fun h => by
    rw [show ((i + 1 : Nat) : Int) - 1 = (i : Int) by omega]
    exact ⟨h.L, h.sl1, h.nodup, h.lt6, h.len6, h.slot, h.sh6, h.wl, h.ids, h.tml, fun s hs => ⟨(h.at_ s hs).1, Int.le_trans (h.at_ s hs).2 hT⟩, h.turn⟩)⟩
set_option maxRecDepth 100000 in
theorem tick_ok2 {S : CS} {ns : Nat} {b : Int} (h : S.OK ns b) (hb : S.now + 1 ≤ b) : S.tick.OK ns b :=
  ⟨h.t, by have := h.now; show 0 ≤ min (S.now + 1) _ ∧ min (S.now + 1) _ ≤ _; omega, h.sl, h.tl, fun j h1 h2 => (h.q j h1 h2).of_same rfl rfl (h.q j h1 h2).slot⟩
set_option maxRecDepth 100000 in
theorem Heard.same {S S' : CS} {last : Nat → Int} (h : Heard S last) (hc : S'.c = S.c) (hn : S'.now = S.now) (ht : S'.t = S.t) : Heard S' last :=
  ⟨by rw [ht]; exact h.ok, by rw [ht, hc]; exact h.wk, by rw [ht, hc]; exact h.tm, by rw [hn]; exact h.now, fun w h1 h2 => by rw [hn, ht, hc]; rw [hc] at h2; exact h.each w h1 h2⟩
set_option maxRecDepth 100000 in
theorem Heard.lk {S S' : CS} {last : Nat → Int} (h : Heard S last) (hl : Lk S S') : Heard S' last := h.same hl.c hl.now hl.t
/-- a round's letters -/
def rlet (S : CS) (t : Int) (s : Nat) : LV := (((copW S.c s (t % S.c.cp).toNat : Nat) : Int), .ask ((S.Q 1).slot : Nat) 1 (s : Nat) (seqP (S.Q 1).S (s : Nat)) 1 (S.Q 1).q (S.Q 1).k S.c.ba (!(afterP (S.Q 1).S (s : Nat)).2) (afterP (S.Q 1).S (s : Nat)).1.1 (afterP (S.Q 1).S (s : Nat)).1.2)
set_option maxRecDepth 100000 in
theorem round_let {S : CS} {last : Nat → Int} (h : Heard S last) (hw : 1 ≤ S.c.wk) (hcp : 1 ≤ S.c.cp) (hl : ∀ w : Nat, 1 ≤ w → (w : Int) ≤ S.c.wk → last w = 0) (t : Int) (W : List Nat) : W.flatMap (fun s => S.askL 1 s t) = W.map (rlet S t) := by
  induction W with
  | nil => rfl
  | cons s W ih => rw [List.flatMap_cons, ih, ask_all h hw hcp hl]; rfl
set_option maxRecDepth 100000 in
theorem cop_inj {c : CfgM} (h : 1 ≤ c.wk) (h5 : c.wk ≤ 5) (hc : c.cp ≤ c.wk) {s i j : Nat} (hi : (i : Int) < c.cp) (hj : (j : Int) < c.cp) (e : copW c s i = copW c s j) : i = j := by
  have e1 := copW_eq h s i
  have e2 := copW_eq h s j
  rw [e, e2] at e1
  obtain ⟨k, hk⟩ : ∃ k : Int, c.wk = k := ⟨_, rfl⟩
  rw [hk] at e1 h h5 hc
  have hk5 : k = 1 ∨ k = 2 ∨ k = 3 ∨ k = 4 ∨ k = 5 := by omega
  rcases hk5 with rfl | rfl | rfl | rfl | rfl <;> omega
set_option maxRecDepth 100000 in
theorem next_turn {cp : Int} (h1 : 1 ≤ cp) (h3 : cp ≤ 3) (i : Nat) (hi : 1 ≤ i) : (((i : Int) - 1) % cp + 1) % cp = (i : Int) % cp := by
  have hk : cp = 1 ∨ cp = 2 ∨ cp = 3 := by omega
  rcases hk with rfl | rfl | rfl <;> omega
/-- what holds ahead of the i-th wake -/
structure RndI (C : CfgM) (ns sl i n : Nat) (W : List Nat) (S : CS) (A : CA) (l : List Int) : Prop where
  cps : A.cps.length = ns
  len : l.length = 6
  c : S.c = C
  hd : Heard S (fun _ => 0)
  ok : S.OK ns (2000 + 24 * (i : Int))
  rb : RbC S ns sl i W
  last : 1 ≤ i → n = W.length ∧ ∀ s ∈ W, lastF l s = ((i : Int) - 1) % C.cp
/-- k letters of a round are looked at -/
structure RkI (cp : Int) (i k : Nat) (W : List Nat) (l : List Int) : Prop where
  len : l.length = 6
  new : ∀ j s, j < k → W[j]? = some s → lastF l s = (i : Int) % cp
  old : ∀ j s, k ≤ j → W[j]? = some s → 1 ≤ i → lastF l s = ((i : Int) - 1) % cp
set_option maxRecDepth 100000 in
theorem RkI.step {cp : Int} {i k s : Nat} {W : List Nat} {l : List Int} (h : RkI cp i k W l) (hn : W.Nodup) (hs : W[k]? = some s) (h6 : s < 6) {x : Int} (hx : x = (i : Int) % cp) : RkI cp i (k + 1) W (l.set s x) := by
  have hl : s < l.length := by rw [h.len]; exact h6
  refine ⟨by rw [List.length_set]; exact h.len, fun j u hj hu => ?_, fun j u hj hu hi => ?_⟩
  · rw [lastF_set hl]
    show (if u = s then x else lastF l u) = _
    by_cases e : u = s
    · rw [if_pos e]; exact hx
    · rw [if_neg e]
      refine h.new j u ?_ hu
      rcases (by omega : j < k ∨ j = k) with h1 | h1
      · exact h1
      · subst h1; rw [hs] at hu; cases hu; exact absurd rfl e
  · rw [lastF_set hl]
    show (if u = s then x else lastF l u) = _
    have e : u ≠ s := fun e => by
      subst e
      have h1 := (List.getElem?_eq_some_iff.1 hs)
      have h2 := (List.getElem?_eq_some_iff.1 hu)
      obtain ⟨g1, e1⟩ := h1
      obtain ⟨g2, e2⟩ := h2
      exact List.pairwise_iff_getElem.1 hn k j g1 g2 (by omega) (by rw [e1, e2])
    rw [if_neg e]
    exact h.old j u (by omega) hu hi
end
end Go.Proofs.YtinkbgeckjbnbaaGreat
