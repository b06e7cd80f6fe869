/- Lemmas for the law (part 10): Mm13, CoF, CoG, CoI, CoJ, CoK, OpenR, OpenA -/
import Derived.Lib.SmallJoins
import Derived.Test.YtinkbgeckjbnbaaGreatQn9
namespace Go.Proofs.YtinkbgeckjbnbaaGreat
section
open Go.RowKit
set_option linter.unusedVariables false

set_option maxRecDepth 100000 in
theorem tolist_iff (a b : ByteArray) : (a.toList = b.toList) = (a = b) := by
  by_cases h : a = b
  · simp [h]
  · have := str_ne h
    simp only [h, eq_iff_iff, iff_false]
    intro e; rw [e] at this; simp at this
def MV.same : MV → MV → Bool
  | .hello w0 l0, .hello w0' l0' => decide (w0 = w0') && decide (l0 = l0')
  | .grant w0 l0 e0, .grant w0' l0' e0' => decide (w0 = w0') && decide (l0 = l0') && decide (e0 = e0')
  | .ask s q h sq ep tx k b f d wd, .ask s' q' h' sq' ep' tx' k' b' f' d' wd' => decide (s = s') && decide (q = q') && decide (h = h') && decide (sq = sq') && decide (ep = ep') && decide (tx = tx') && decide (k = k') && decide (b = b') && decide (f = f') && decide (d = d') && decide (wd = wd')
  | .reply s q h sq wk ep l en, .reply s' q' h' sq' wk' ep' l' en' => decide (s = s') && decide (q = q') && decide (h = h') && decide (sq = sq') && decide (wk = wk') && decide (ep = ep') && decide (en = en') && eqIs l l'
  | .stop s q, .stop s' q' => decide (s = s') && decide (q = q')
  | _, _ => false
def MV.is_hello : MV → Bool
  | .hello .. => true
  | _ => false
set_option maxRecDepth 100000 in
theorem ta_hello_miss (m : MV) (u : Value) (w : World) (h : m.At w u) (hn : m.is_hello = false) (X : TypeId) (W : World) : (Instr.typeAssert u X 36 true).run Tryz.prog W = .ok (.tuple #[.agg #[.int .i64 0, .int .i64 0], .bool false]) W := by
  cases m with
  | hello _ _ => simp [MV.is_hello] at hn
  | grant _ _ _ => obtain rfl := h; exact ta_hello_grant _ _ _
  | ask _ _ _ _ _ _ _ _ _ _ _ => obtain rfl := h; exact ta_hello_ask _ _ _
  | reply _ _ _ _ _ _ _ _ => obtain ⟨a, c, rfl, hr⟩ := h; exact ta_hello_reply _ _ _
  | stop _ _ => obtain rfl := h; exact ta_hello_stop _ _ _
  | other t v => obtain ⟨rfl, h1, h2, h3, h4, h5⟩ := h; exact ta_hello_other _ _ _ _ h1
  | nil => obtain rfl := h; exact ta_hello_nil _ _
def MV.is_grant : MV → Bool
  | .grant .. => true
  | _ => false
set_option maxRecDepth 100000 in
theorem ta_grant_miss (m : MV) (u : Value) (w : World) (h : m.At w u) (hn : m.is_grant = false) (X : TypeId) (W : World) : (Instr.typeAssert u X 99 true).run Tryz.prog W = .ok (.tuple #[.agg #[.int .i64 0, .int .i64 0, .int .i64 0], .bool false]) W := by
  cases m with
  | hello _ _ => obtain rfl := h; exact ta_grant_hello _ _ _
  | grant _ _ _ => simp [MV.is_grant] at hn
  | ask _ _ _ _ _ _ _ _ _ _ _ => obtain rfl := h; exact ta_grant_ask _ _ _
  | reply _ _ _ _ _ _ _ _ => obtain ⟨a, c, rfl, hr⟩ := h; exact ta_grant_reply _ _ _
  | stop _ _ => obtain rfl := h; exact ta_grant_stop _ _ _
  | other t v => obtain ⟨rfl, h1, h2, h3, h4, h5⟩ := h; exact ta_grant_other _ _ _ _ h2
  | nil => obtain rfl := h; exact ta_grant_nil _ _
def MV.is_ask : MV → Bool
  | .ask .. => true
  | _ => false
set_option maxRecDepth 100000 in
theorem ta_ask_miss (m : MV) (u : Value) (w : World) (h : m.At w u) (hn : m.is_ask = false) (X : TypeId) (W : World) : (Instr.typeAssert u X 48 true).run Tryz.prog W = .ok (.tuple #[.agg #[.int .i64 0, .int .i64 0, .int .i64 0, .int .i64 0, .int .i64 0, .string ByteArray.empty, .int .i64 0, .int .i64 0, .bool false, .int .i64 0, .string ByteArray.empty], .bool false]) W := by
  cases m with
  | hello _ _ => obtain rfl := h; exact ta_ask_hello _ _ _
  | grant _ _ _ => obtain rfl := h; exact ta_ask_grant _ _ _
  | ask _ _ _ _ _ _ _ _ _ _ _ => simp [MV.is_ask] at hn
  | reply _ _ _ _ _ _ _ _ => obtain ⟨a, c, rfl, hr⟩ := h; exact ta_ask_reply _ _ _
  | stop _ _ => obtain rfl := h; exact ta_ask_stop _ _ _
  | other t v => obtain ⟨rfl, h1, h2, h3, h4, h5⟩ := h; exact ta_ask_other _ _ _ _ h3
  | nil => obtain rfl := h; exact ta_ask_nil _ _
def MV.is_reply : MV → Bool
  | .reply .. => true
  | _ => false
set_option maxRecDepth 100000 in
theorem ta_reply_miss (m : MV) (u : Value) (w : World) (h : m.At w u) (hn : m.is_reply = false) (X : TypeId) (W : World) : (Instr.typeAssert u X 65 true).run Tryz.prog W = .ok (.tuple #[.agg #[.int .i64 0, .int .i64 0, .int .i64 0, .int .i64 0, .int .i64 0, .int .i64 0, .slice none 0 0, .bool false], .bool false]) W := by
  cases m with
  | hello _ _ => obtain rfl := h; exact ta_reply_hello _ _ _
  | grant _ _ _ => obtain rfl := h; exact ta_reply_grant _ _ _
  | ask _ _ _ _ _ _ _ _ _ _ _ => obtain rfl := h; exact ta_reply_ask _ _ _
  | reply _ _ _ _ _ _ _ _ => simp [MV.is_reply] at hn
  | stop _ _ => obtain rfl := h; exact ta_reply_stop _ _ _
  | other t v => obtain ⟨rfl, h1, h2, h3, h4, h5⟩ := h; exact ta_reply_other _ _ _ _ h4
  | nil => obtain rfl := h; exact ta_reply_nil _ _
def MV.is_stop : MV → Bool
  | .stop .. => true
  | _ => false
set_option maxRecDepth 100000 in
theorem ta_stop_miss (m : MV) (u : Value) (w : World) (h : m.At w u) (hn : m.is_stop = false) (X : TypeId) (W : World) : (Instr.typeAssert u X 87 true).run Tryz.prog W = .ok (.tuple #[.agg #[.int .i64 0, .int .i64 0], .bool false]) W := by
  cases m with
  | hello _ _ => obtain rfl := h; exact ta_stop_hello _ _ _
  | grant _ _ _ => obtain rfl := h; exact ta_stop_grant _ _ _
  | ask _ _ _ _ _ _ _ _ _ _ _ => obtain rfl := h; exact ta_stop_ask _ _ _
  | reply _ _ _ _ _ _ _ _ => obtain ⟨a, c, rfl, hr⟩ := h; exact ta_stop_reply _ _ _
  | stop _ _ => simp [MV.is_stop] at hn
  | other t v => obtain ⟨rfl, h1, h2, h3, h4, h5⟩ := h; exact ta_stop_other _ _ _ _ h5
  | nil => obtain rfl := h; exact ta_stop_nil _ _
set_option maxRecDepth 100000 in
set_option maxHeartbeats 4000000 in
theorem same_hello (w0 : Int) (l0 : Int) (w0' : Int) (l0' : Int) (w : World) :
    Calls Tryz.prog 39 #[.iface 36 (.agg #[.int .i64 w0, .int .i64 l0]), .iface 36 (.agg #[.int .i64 w0', .int .i64 l0'])] w fun e w' => e = .returned (.bool (MV.same (.hello w0 l0) (.hello w0' l0'))) ∧ Below w.heap.size w w' := by
  unfold MV.same
  go_enter Tryz.func39, Tryz.ntmps39
  go_wp2_with (first | rw [ta_hello_hello] | rw [ta_grant_hello] | rw [ta_ask_hello] | rw [ta_reply_hello] | rw [ta_stop_hello])
  all_goals
    go_ret
    exact ⟨by simp [*], (by repeat (first | exact Below.refl _ _ | refine Below.alloc ?_ (by first | (simp; done) | (simp; omega)) _))⟩
set_option maxRecDepth 100000 in
set_option maxHeartbeats 4000000 in
theorem same_hello_no (w0 : Int) (l0 : Int) (m : MV) (u : Value) (w : World) (hu : m.At w u) (hn : m.is_hello = false) :
    Calls Tryz.prog 39 #[.iface 36 (.agg #[.int .i64 w0, .int .i64 l0]), u] w fun e w' => e = .returned (.bool false) ∧ Below w.heap.size w w' := by
  have HM := Lib.hid (fun X W => ta_hello_miss m u w hu hn X W)
  clear hu hn
  go_enter Tryz.func39, Tryz.ntmps39
  go_wp2_with (first | rw [ta_hello_hello] | rw [ta_grant_hello] | rw [ta_ask_hello] | rw [ta_reply_hello] | rw [ta_stop_hello] | rw [HM.out])
  go_ret
  exact ⟨rfl, (by repeat (first | exact Below.refl _ _ | refine Below.alloc ?_ (by first | (simp; done) | (simp; omega)) _))⟩
set_option maxRecDepth 100000 in
set_option maxHeartbeats 4000000 in
theorem same_grant (w0 : Int) (l0 : Int) (e0 : Int) (w0' : Int) (l0' : Int) (e0' : Int) (w : World) :
    Calls Tryz.prog 39 #[.iface 99 (.agg #[.int .i64 w0, .int .i64 l0, .int .i64 e0]), .iface 99 (.agg #[.int .i64 w0', .int .i64 l0', .int .i64 e0'])] w fun e w' => e = .returned (.bool (MV.same (.grant w0 l0 e0) (.grant w0' l0' e0'))) ∧ Below w.heap.size w w' := by
  unfold MV.same
  go_enter Tryz.func39, Tryz.ntmps39
  go_wp2_with (first | rw [ta_hello_grant] | rw [ta_grant_grant] | rw [ta_ask_grant] | rw [ta_reply_grant] | rw [ta_stop_grant])
  all_goals
    go_ret
    exact ⟨by simp [*], (by repeat (first | exact Below.refl _ _ | refine Below.alloc ?_ (by first | (simp; done) | (simp; omega)) _))⟩
set_option maxRecDepth 100000 in
set_option maxHeartbeats 4000000 in
theorem same_grant_no (w0 : Int) (l0 : Int) (e0 : Int) (m : MV) (u : Value) (w : World) (hu : m.At w u) (hn : m.is_grant = false) :
    Calls Tryz.prog 39 #[.iface 99 (.agg #[.int .i64 w0, .int .i64 l0, .int .i64 e0]), u] w fun e w' => e = .returned (.bool false) ∧ Below w.heap.size w w' := by
  have HM := Lib.hid (fun X W => ta_grant_miss m u w hu hn X W)
  clear hu hn
  go_enter Tryz.func39, Tryz.ntmps39
  go_wp2_with (first | rw [ta_hello_grant] | rw [ta_grant_grant] | rw [ta_ask_grant] | rw [ta_reply_grant] | rw [ta_stop_grant] | rw [HM.out])
  go_ret
  exact ⟨rfl, (by repeat (first | exact Below.refl _ _ | refine Below.alloc ?_ (by first | (simp; done) | (simp; omega)) _))⟩
set_option maxRecDepth 100000 in
set_option maxHeartbeats 4000000 in
theorem same_ask (s : Int) (q : Int) (h : Int) (sq : Int) (ep : Int) (tx : ByteArray) (k : Int) (b : Int) (f : Bool) (d : Int) (wd : ByteArray) (s' : Int) (q' : Int) (h' : Int) (sq' : Int) (ep' : Int) (tx' : ByteArray) (k' : Int) (b' : Int) (f' : Bool) (d' : Int) (wd' : ByteArray) (w : World) :
    Calls Tryz.prog 39 #[.iface 48 (.agg #[.int .i64 s, .int .i64 q, .int .i64 h, .int .i64 sq, .int .i64 ep, .string tx, .int .i64 k, .int .i64 b, .bool f, .int .i64 d, .string wd]), .iface 48 (.agg #[.int .i64 s', .int .i64 q', .int .i64 h', .int .i64 sq', .int .i64 ep', .string tx', .int .i64 k', .int .i64 b', .bool f', .int .i64 d', .string wd'])] w fun e w' => e = .returned (.bool (MV.same (.ask s q h sq ep tx k b f d wd) (.ask s' q' h' sq' ep' tx' k' b' f' d' wd'))) ∧ Below w.heap.size w w' := by
  unfold MV.same
  go_enter Tryz.func39, Tryz.ntmps39
  go_wp2_with (first | rw [ta_hello_ask] | rw [ta_grant_ask] | rw [ta_ask_ask] | rw [ta_reply_ask] | rw [ta_stop_ask])
  all_goals
    go_ret
    (try simp only [tolist_iff] at *)
    exact ⟨by simp [*], (by repeat (first | exact Below.refl _ _ | refine Below.alloc ?_ (by first | (simp; done) | (simp; omega)) _))⟩
set_option maxRecDepth 100000 in
set_option maxHeartbeats 4000000 in
theorem same_ask_no (s : Int) (q : Int) (h : Int) (sq : Int) (ep : Int) (tx : ByteArray) (k : Int) (b : Int) (f : Bool) (d : Int) (wd : ByteArray) (m : MV) (u : Value) (w : World) (hu : m.At w u) (hn : m.is_ask = false) :
    Calls Tryz.prog 39 #[.iface 48 (.agg #[.int .i64 s, .int .i64 q, .int .i64 h, .int .i64 sq, .int .i64 ep, .string tx, .int .i64 k, .int .i64 b, .bool f, .int .i64 d, .string wd]), u] w fun e w' => e = .returned (.bool false) ∧ Below w.heap.size w w' := by
  have HM := Lib.hid (fun X W => ta_ask_miss m u w hu hn X W)
  clear hu hn
  go_enter Tryz.func39, Tryz.ntmps39
  go_wp2_with (first | rw [ta_hello_ask] | rw [ta_grant_ask] | rw [ta_ask_ask] | rw [ta_reply_ask] | rw [ta_stop_ask] | rw [HM.out])
  go_ret
  exact ⟨rfl, (by repeat (first | exact Below.refl _ _ | refine Below.alloc ?_ (by first | (simp; done) | (simp; omega)) _))⟩
set_option maxRecDepth 100000 in
set_option maxHeartbeats 4000000 in
theorem same_reply_no (s q h sq wk ep : Int) (l : List KeyL) (en : Bool) (a : Option Addr) (c : Nat) (m : MV) (u : Value) (w : World) (hu : m.At w u) (hn : m.is_reply = false) :
    Calls Tryz.prog 39 #[.iface 65 (.agg #[.int .i64 s, .int .i64 q, .int .i64 h, .int .i64 sq, .int .i64 wk, .int .i64 ep, .slice a l.length c, .bool en]), u] w fun e w' => e = .returned (.bool false) ∧ Below w.heap.size w w' := by
  have HM := Lib.hid (fun X W => ta_reply_miss m u w hu hn X W)
  clear hu hn
  go_enter Tryz.func39, Tryz.ntmps39
  go_wp2_with (first | rw [ta_hello_reply] | rw [ta_grant_reply] | rw [ta_ask_reply] | rw [ta_reply_reply] | rw [ta_stop_reply] | rw [HM.out])
  go_ret
  exact ⟨rfl, (by repeat (first | exact Below.refl _ _ | refine Below.alloc ?_ (by first | (simp; done) | (simp; omega)) _))⟩
set_option maxRecDepth 100000 in
set_option maxHeartbeats 4000000 in
theorem same_stop (s : Int) (q : Int) (s' : Int) (q' : Int) (w : World) :
    Calls Tryz.prog 39 #[.iface 87 (.agg #[.int .i64 s, .int .i64 q]), .iface 87 (.agg #[.int .i64 s', .int .i64 q'])] w fun e w' => e = .returned (.bool (MV.same (.stop s q) (.stop s' q'))) ∧ Below w.heap.size w w' := by
  unfold MV.same
  go_enter Tryz.func39, Tryz.ntmps39
  go_wp2_with (first | rw [ta_hello_stop] | rw [ta_grant_stop] | rw [ta_ask_stop] | rw [ta_reply_stop] | rw [ta_stop_stop])
  all_goals
    go_ret
    exact ⟨by simp [*], (by repeat (first | exact Below.refl _ _ | refine Below.alloc ?_ (by first | (simp; done) | (simp; omega)) _))⟩
set_option maxRecDepth 100000 in
set_option maxHeartbeats 4000000 in
theorem same_stop_no (s : Int) (q : Int) (m : MV) (u : Value) (w : World) (hu : m.At w u) (hn : m.is_stop = false) :
    Calls Tryz.prog 39 #[.iface 87 (.agg #[.int .i64 s, .int .i64 q]), u] w fun e w' => e = .returned (.bool false) ∧ Below w.heap.size w w' := by
  have HM := Lib.hid (fun X W => ta_stop_miss m u w hu hn X W)
  clear hu hn
  go_enter Tryz.func39, Tryz.ntmps39
  go_wp2_with (first | rw [ta_hello_stop] | rw [ta_grant_stop] | rw [ta_ask_stop] | rw [ta_reply_stop] | rw [ta_stop_stop] | rw [HM.out])
  go_ret
  exact ⟨rfl, (by repeat (first | exact Below.refl _ _ | refine Below.alloc ?_ (by first | (simp; done) | (simp; omega)) _))⟩
set_option maxRecDepth 100000 in
set_option maxHeartbeats 4000000 in
theorem same_nil (m : MV) (u : Value) (w : World) :
    Calls Tryz.prog 39 #[.nilIface, u] w fun e w' => e = .returned (.bool false) ∧ Below w.heap.size w w' := by
  go_enter Tryz.func39, Tryz.ntmps39
  go_wp2_with (first | rw [ta_hello_nil] | rw [ta_grant_nil] | rw [ta_ask_nil] | rw [ta_reply_nil] | rw [ta_stop_nil])
  go_ret
  exact ⟨rfl, (by repeat (first | exact Below.refl _ _ | refine Below.alloc ?_ (by first | (simp; done) | (simp; omega)) _))⟩
set_option maxRecDepth 100000 in
set_option maxHeartbeats 4000000 in
theorem same_other (t : TypeId) (v u : Value) (w : World) (h1 : t ≠ 36) (h2 : t ≠ 99) (h3 : t ≠ 48) (h4 : t ≠ 65) (h5 : t ≠ 87) :
    Calls Tryz.prog 39 #[.iface t v, u] w fun e w' => e = .returned (.bool false) ∧ Below w.heap.size w w' := by
  go_enter Tryz.func39, Tryz.ntmps39
  go_wp2_with (first | rw [ta_hello_other _ _ _ _ h1] | rw [ta_grant_other _ _ _ _ h2] | rw [ta_ask_other _ _ _ _ h3] | rw [ta_reply_other _ _ _ _ h4] | rw [ta_stop_other _ _ _ _ h5])
  go_ret
  exact ⟨rfl, (by repeat (first | exact Below.refl _ _ | refine Below.alloc ?_ (by first | (simp; done) | (simp; omega)) _))⟩
set_option maxRecDepth 100000 in
set_option maxHeartbeats 4000000 in
theorem samereply_any (s q h sq wk ep : Int) (l : List KeyL) (en : Bool) (a : Option Addr) (c : Nat) (s' q' h' sq' wk' ep' : Int) (l' : List KeyL) (en' : Bool) (a' : Option Addr) (c' : Nat) (w : World) (hr : RdE KeyL.cells 2 w a l.length c l) (hr' : RdE KeyL.cells 2 w a' l'.length c' l') :
    Calls Tryz.prog 89 #[.agg #[.int .i64 s, .int .i64 q, .int .i64 h, .int .i64 sq, .int .i64 wk, .int .i64 ep, .slice a l.length c, .bool en], .agg #[.int .i64 s', .int .i64 q', .int .i64 h', .int .i64 sq', .int .i64 wk', .int .i64 ep', .slice a' l'.length c', .bool en']] w fun e w' => e = .returned (.bool (MV.same (.reply s q h sq wk ep l en) (.reply s' q' h' sq' wk' ep' l' en'))) ∧ Below w.heap.size w w' := by
  have HR := Lib.hid (fun W (hb : Below w.heap.size w W) => hr.below hb rfl)
  have HR2 := Lib.hid (fun W (hb : Below w.heap.size w W) => hr'.below hb rfl)
  clear hr hr'
  unfold MV.same
  go_enter Tryz.func89, Tryz.ntmps89
  go_wp2_with (go_at_call 75; refine (sameI_any _ _ _ _ _ _ l l' _ (HR.out _ (by repeat (first | exact Below.refl _ _ | refine Below.alloc ?_ (by first | (simp; done) | (simp; omega)) _))) (HR2.out _ (by repeat (first | exact Below.refl _ _ | refine Below.alloc ?_ (by first | (simp; done) | (simp; omega)) _)))).mono ?_; rintro e w' ⟨rfl, hd⟩; have HD := Lib.hid (hd.below w.heap.size); clear hd)
  all_goals
    go_ret
    refine ⟨by simp [*], ?_⟩
    first
      | exact Below.trans (by repeat (first | exact Below.refl _ _ | refine Below.alloc ?_ (by first | (simp; done) | (simp; omega)) _)) HD.out
      | exact (by repeat (first | exact Below.refl _ _ | refine Below.alloc ?_ (by first | (simp; done) | (simp; omega)) _))
set_option maxRecDepth 100000 in
set_option maxHeartbeats 4000000 in
theorem same_reply (s q h sq wk ep : Int) (l : List KeyL) (en : Bool) (a : Option Addr) (c : Nat) (s' q' h' sq' wk' ep' : Int) (l' : List KeyL) (en' : Bool) (a' : Option Addr) (c' : Nat) (w : World) (hr : RdE KeyL.cells 2 w a l.length c l) (hr' : RdE KeyL.cells 2 w a' l'.length c' l') :
    Calls Tryz.prog 39 #[.iface 65 (.agg #[.int .i64 s, .int .i64 q, .int .i64 h, .int .i64 sq, .int .i64 wk, .int .i64 ep, .slice a l.length c, .bool en]), .iface 65 (.agg #[.int .i64 s', .int .i64 q', .int .i64 h', .int .i64 sq', .int .i64 wk', .int .i64 ep', .slice a' l'.length c', .bool en'])] w fun e w' => e = .returned (.bool (MV.same (.reply s q h sq wk ep l en) (.reply s' q' h' sq' wk' ep' l' en'))) ∧ Below w.heap.size w w' := by
  have HR := Lib.hid (fun W (hb : Below w.heap.size w W) => hr.below hb rfl)
  have HR2 := Lib.hid (fun W (hb : Below w.heap.size w W) => hr'.below hb rfl)
  clear hr hr'
  go_enter Tryz.func39, Tryz.ntmps39
  go_wp2_with (first | rw [ta_hello_reply] | rw [ta_grant_reply] | rw [ta_ask_reply] | rw [ta_reply_reply] | rw [ta_stop_reply] | (go_at_call 89; refine (samereply_any s q h sq wk ep l en a c s' q' h' sq' wk' ep' l' en' a' c' _ (HR.out _ (by repeat (first | exact Below.refl _ _ | refine Below.alloc ?_ (by first | (simp; done) | (simp; omega)) _))) (HR2.out _ (by repeat (first | exact Below.refl _ _ | refine Below.alloc ?_ (by first | (simp; done) | (simp; omega)) _)))).mono ?_; rintro e w' ⟨rfl, hd⟩; have HD := Lib.hid (hd.mono (show w.heap.size ≤ _ from by first | (simp; done) | (simp; omega))); clear hd))
  go_ret
  exact ⟨rfl, Below.trans (by repeat (first | exact Below.refl _ _ | refine Below.alloc ?_ (by first | (simp; done) | (simp; omega)) _)) HD.out⟩
set_option maxRecDepth 100000 in
theorem msame_any (m m' : MV) (u u' : Value) (w : World) (h : m.At w u) (h' : m'.At w u') :
    Calls Tryz.prog 39 #[u, u'] w fun e w' => e = .returned (.bool (m.same m')) ∧ Below w.heap.size w w' := by
  cases m with
  | hello w00 l00 =>
    obtain rfl := h
    cases hk : m'.is_hello
    · have e : MV.same (.hello w00 l00) m' = false := by cases m' <;> first | rfl | simp [MV.is_hello] at hk
      rw [e]
      exact same_hello_no w00 l00 m' u' w h' hk
    · cases m' with
      | hello w01 l01 => obtain rfl := h'; exact same_hello w00 l00 w01 l01 w
      | _ => simp [MV.is_hello] at hk
  | grant w00 l00 e00 =>
    obtain rfl := h
    cases hk : m'.is_grant
    · have e : MV.same (.grant w00 l00 e00) m' = false := by cases m' <;> first | rfl | simp [MV.is_grant] at hk
      rw [e]
      exact same_grant_no w00 l00 e00 m' u' w h' hk
    · cases m' with
      | grant w01 l01 e01 => obtain rfl := h'; exact same_grant w00 l00 e00 w01 l01 e01 w
      | _ => simp [MV.is_grant] at hk
  | ask s0 q0 h0 sq0 ep0 tx0 k0 b0 f0 d0 wd0 =>
    obtain rfl := h
    cases hk : m'.is_ask
    · have e : MV.same (.ask s0 q0 h0 sq0 ep0 tx0 k0 b0 f0 d0 wd0) m' = false := by cases m' <;> first | rfl | simp [MV.is_ask] at hk
      rw [e]
      exact same_ask_no s0 q0 h0 sq0 ep0 tx0 k0 b0 f0 d0 wd0 m' u' w h' hk
    · cases m' with
      | ask s1 q1 h1 sq1 ep1 tx1 k1 b1 f1 d1 wd1 => obtain rfl := h'; exact same_ask s0 q0 h0 sq0 ep0 tx0 k0 b0 f0 d0 wd0 s1 q1 h1 sq1 ep1 tx1 k1 b1 f1 d1 wd1 w
      | _ => simp [MV.is_ask] at hk
  | reply s0 q0 h0 sq0 wk0 ep0 l0 en0 =>
    obtain ⟨a, c, rfl, hr⟩ := h
    cases hk : m'.is_reply
    · have e : MV.same (.reply s0 q0 h0 sq0 wk0 ep0 l0 en0) m' = false := by cases m' <;> first | rfl | simp [MV.is_reply] at hk
      rw [e]
      exact same_reply_no s0 q0 h0 sq0 wk0 ep0 l0 en0 a c m' u' w h' hk
    · cases m' with
      | reply s1 q1 h1 sq1 wk1 ep1 l1 en1 => obtain ⟨a', c', rfl, hr'⟩ := h'; exact same_reply s0 q0 h0 sq0 wk0 ep0 l0 en0 a c s1 q1 h1 sq1 wk1 ep1 l1 en1 a' c' w hr hr'
      | _ => simp [MV.is_reply] at hk
  | stop s0 q0 =>
    obtain rfl := h
    cases hk : m'.is_stop
    · have e : MV.same (.stop s0 q0) m' = false := by cases m' <;> first | rfl | simp [MV.is_stop] at hk
      rw [e]
      exact same_stop_no s0 q0 m' u' w h' hk
    · cases m' with
      | stop s1 q1 => obtain rfl := h'; exact same_stop s0 q0 s1 q1 w
      | _ => simp [MV.is_stop] at hk
  | other t v => obtain ⟨rfl, h1, h2, h3, h4, h5⟩ := h; exact same_other t v u' w h1 h2 h3 h4 h5
  | nil => obtain rfl := h; exact same_nil m' u' w
end
end Go.Proofs.YtinkbgeckjbnbaaGreat
namespace Go.Proofs.YtinkbgeckjbnbaaGreat
section
open Go.RowKit
set_option linter.unusedVariables false
set_option linter.unusedSimpArgs false

set_option maxRecDepth 100000 in
theorem HeE.shift {O O1 : Own} {A : CA} {p : Nat} {S : CS} {v life : Int} {w W w' : World} {e : Ending} (hb : Below w.heap.size w W) (ha : AgO w.heap.size O O1) (h : HeE O1 A p S v life W e w') : HeE O A p S v life w e w' := by
  obtain ⟨u, O', he, hc, hl, ha', hf⟩ := h
  exact ⟨u, O', he, hc, hl.base hb.size, fun b hb' => (ha' b (Nat.lt_of_lt_of_le hb' hb.size)).trans (ha b hb'), COut.trans (COut.below hb) hf ha⟩
set_option maxRecDepth 100000 in
theorem ReE.shift {O O1 : Own} {A : CA} {p : Nat} {R : CS × List LV} {w W w' : World} {e : Ending} (hb : Below w.heap.size w W) (ha : AgO w.heap.size O O1) (h : ReE O1 A p R W e w') : ReE O A p R w e w' := by
  obtain ⟨u, O', A', he, hc, hcp, hl, ha', hf⟩ := h
  exact ⟨u, O', A', he, hc, hcp, hl.base hb.size, fun b hb' => (ha' b (Nat.lt_of_lt_of_le hb' hb.size)).trans (ha b hb'), COut.trans (COut.below hb) hf ha⟩
set_option maxRecDepth 100000 in
set_option maxHeartbeats 4000000 in
theorem ctake_hello (O : Own) (A : CA) (p : Nat) (S : CS) (v life : Int) (w : World) (h : CW w O A p S) (ho : S.t.ok) :
    Calls Tryz.prog 16 #[.pointer (some ⟨p, 0, none⟩), .iface 36 (.agg #[.int .i64 v, .int .i64 life])] w (HeE O A p S v life w) := by
  obtain ⟨W, hW⟩ : ∃ W, w.alloc (.cells #[.int .i64 v, .int .i64 life] 36) = W := ⟨_, rfl⟩
  have hbl : Below w.heap.size w W := by rw [← hW]; exact (Below.refl _ w).alloc (Nat.le_refl _) _
  have k0 : W.cell? ⟨w.heap.size, 0, none⟩ = some (.int .i64 v) := by rw [← hW]; exact (show Blk _ w.heap.size 36 [.int .i64 v, .int .i64 life] from heap_alloc_new w _).cell 0
  have k1 : W.cell? ⟨w.heap.size, 1, none⟩ = some (.int .i64 life) := by rw [← hW]; exact (show Blk _ w.heap.size 36 [.int .i64 v, .int .i64 life] from heap_alloc_new w _).cell 1
  have HHE := Lib.hid (chello_any O A p S v life W (h.below hbl (AgO.refl _ _)) ho)
  have HB := Lib.hid hbl
  have hqc := fun V => cptr_ne p 0 V
  clear h ho hbl
  go_enter Tryz.func16, Tryz.ntmps16
  go_wp2_with (first | rw [ta_hello_hello] | rw [hW])
  clear hW k0 k1
  refine HHE.out.mono ?_
  rintro e w2 hh
  have HH := Lib.hid (HeE.shift HB.out (AgO.refl _ O) hh)
  obtain ⟨u, O', rfl, -⟩ := hh
  go_wp2_with fail
  go_ret
  exact HH.out
end
end Go.Proofs.YtinkbgeckjbnbaaGreat
namespace Go.Proofs.YtinkbgeckjbnbaaGreat
section
open Go.RowKit
set_option linter.unusedVariables false

/-- a message that lies nowhere -/
def MV.flat : MV → Bool
  | .hello .. => true
  | .grant .. => true
  | .ask .. => true
  | .stop .. => true
  | _ => false
set_option maxRecDepth 100000 in
theorem MV.flat_at {m : MV} (h : m.flat = true) (w : World) : m.At w m.val := by cases m <;> first | rfl | cases h
def eqLs : List LV → List LV → Bool
  | [], [] => true
  | x :: a, y :: b => decide (x.1 = y.1) && x.2.same y.2 && eqLs a b
  | _, _ => false
set_option maxRecDepth 100000 in
theorem eqLs_len : ∀ {l l' : List LV}, eqLs l l' = true → l.length = l'.length
  | [], [], _ => rfl
  | [], _ :: _, h => by cases h
  | _ :: _, [], h => by cases h
  | x :: a, y :: b, h => by
    unfold eqLs at h
    rw [Bool.and_eq_true] at h
    simp [eqLs_len h.2]
set_option maxRecDepth 100000 in
theorem eqLs_at {l l' : List LV} {i : Nat} {x y : LV} (hx : l[i]? = some x) (hy : l'[i]? = some y) (h : (decide (x.1 = y.1) && x.2.same y.2) = false) : eqLs l l' = false := by
  induction l generalizing l' i with
  | nil => simp at hx
  | cons u a ih =>
    cases l' with
    | nil => simp at hy
    | cons v b =>
      unfold eqLs
      cases i with
      | zero => simp only [List.getElem?_cons_zero, Option.some.injEq] at hx hy; subst hx hy; rw [h]; rfl
      | succ i => rw [ih (by simpa using hx) (by simpa using hy), Bool.and_false]
set_option maxRecDepth 100000 in
theorem eqLs_all {l l' : List LV} (hn : l.length = l'.length) (h : ∀ (i : Nat) (x y : LV), l[i]? = some x → l'[i]? = some y → (decide (x.1 = y.1) && x.2.same y.2) = true) : eqLs l l' = true := by
  induction l generalizing l' with
  | nil => cases l' with
    | nil => rfl
    | cons _ _ => simp at hn
  | cons u a ih =>
    cases l' with
    | nil => simp at hn
    | cons v b =>
      unfold eqLs
      rw [h 0 u v (by simp) (by simp), ih (by simpa using hn) (fun i x y hx hy => h (i + 1) x y (by simpa using hx) (by simpa using hy))]
      rfl
def SlR (w : World) (l l' : List LV) (v : Value) (wr : World) : Prop := ∃ k : Nat, k ≤ l.length ∧ v = .int .i64 k ∧ RowKit.Hid (∀ (i : Nat) (x y : LV), i < k → l[i]? = some x → l'[i]? = some y → (decide (x.1 = y.1) && x.2.same y.2) = true) ∧ RowKit.Hid (Below w.heap.size w wr)
set_option linter.unusedSimpArgs false in
set_option maxRecDepth 100000 in
set_option maxHeartbeats 4000000 in
theorem sameletters_any (a a' : Option Addr) (c c' : Nat) (l l' : List LV) (w : World) (hr : RdE LV.cells 2 w a l.length c l) (hr' : RdE LV.cells 2 w a' l'.length c' l') (hl : ∀ x ∈ l, x.2.flat = true) (hl' : ∀ x ∈ l', x.2.flat = true) :
    Calls Tryz.prog 42 #[.slice a l.length c, .slice a' l'.length c'] w fun e w' => e = .returned (.bool (eqLs l l')) ∧ Below w.heap.size w w' := by
  obtain ⟨R, hR⟩ : ∃ R, eqLs l l' = R := ⟨_, rfl⟩
  rw [hR]
  have HR := Lib.hid hR
  have HA := Lib.hid hr
  have HA' := Lib.hid hr'
  have HL := Lib.hid hl
  have HL' := Lib.hid hl'
  have hb1 := hr.2.1
  have hb2 := hr.2.2.1
  unfold maxLen at hb2
  clear hr hr' hl hl' hR
  by_cases hn : l.length = l'.length
  · have HN := Lib.hid hn
    rw [← hn]
    clear hn
    obtain ⟨n, hn⟩ : ∃ n, l.length = n := ⟨_, rfl⟩
    have HNN := Lib.hid hn
    rw [hn] at hb1 ⊢
    clear hn
    go_enter Tryz.func42, Tryz.ntmps42
    go_wp2_with fail
    go_loopw [5] (fun v wr => SlR w l l' v wr) (fun v _ => n - (intOf v).toNat)
    case atStart => exact ⟨0, Nat.zero_le _, rfl, (fun i x y h => by omega), Below.refl _ _⟩
    case round =>
      obtain ⟨k, hk, rfl, HJ, HB⟩ := hrel
      rw [HNN.out] at hk
      by_cases hlt : k < n
      · obtain ⟨x, hx⟩ : ∃ x, l[k]? = some x := ⟨l[k]'(by rw [HNN.out]; exact hlt), List.getElem?_eq_getElem _⟩
        obtain ⟨y, hy⟩ : ∃ x, l'[k]? = some x := ⟨l'[k]'(by rw [← HN.out, HNN.out]; exact hlt), List.getElem?_eq_getElem _⟩
        obtain ⟨b1, o1, rfl, hl1, hc1⟩ := (HA.out.below HB.out rfl).2.2.2.2 k x hx
        obtain ⟨b2, o2, rfl, hl2, hc2⟩ := (HA'.out.below HB.out rfl).2.2.2.2 k y hy
        have u0 : wr.drew.cell? ⟨b1, o1 + k * 2, none⟩ = some (.int .i64 x.1) := hc1 0 (by decide)
        have u1 : wr.drew.cell? ⟨b1, o1 + k * 2 + 1, none⟩ = some x.2.val := hc1 1 (by decide)
        have v0 : wr.drew.cell? ⟨b2, o2 + k * 2, none⟩ = some (.int .i64 y.1) := hc2 0 (by decide)
        have v1 : wr.drew.cell? ⟨b2, o2 + k * 2 + 1, none⟩ = some y.2.val := hc2 1 (by decide)
        have HH := Lib.hid (And.intro u0 (And.intro u1 (And.intro v0 v1)))
        have HX := Lib.hid hx
        have HY := Lib.hid hy
        have HSM := Lib.hid (msame_any x.2 y.2 x.2.val y.2.val wr.drew (MV.flat_at (HL.out x (List.mem_of_getElem? hx)) _) (MV.flat_at (HL'.out y (List.mem_of_getElem? hy)) _))
        obtain ⟨xv, hxv⟩ : ∃ u, x.2.val = u := ⟨_, rfl⟩
        obtain ⟨yv, hyv⟩ : ∃ u, y.2.val = u := ⟨_, rfl⟩
        rw [hxv, hyv] at HSM HH
        obtain ⟨sm, hsm⟩ : ∃ s, x.2.same y.2 = s := ⟨_, rfl⟩
        rw [hsm] at HSM
        have HS := Lib.hid hsm
        obtain ⟨x1, hx1⟩ : ∃ u, x.1 = u := ⟨_, rfl⟩
        obtain ⟨y1, hy1⟩ : ∃ u, y.1 = u := ⟨_, rfl⟩
        rw [hx1, hy1] at HH
        have HX1 := Lib.hid hx1
        have HY1 := Lib.hid hy1
        have e1 : (k : Int) < (n : Int) := by omega
        have e2 : (0 : Int) ≤ (k : Int) := by omega
        clear hx hy hc1 hc2 u0 u1 v0 v1 hxv hyv hsm hx1 hy1 hl1 hl2
        go_upto_region 6 with fail
        by_cases ht : x1 = y1
        · subst ht
          refine wp_region_held_drew (S := (fun w' => w'.cell? ⟨b1, o1 + k * 2, none⟩ = some (.int .i64 x1) ∧ w'.cell? ⟨b1, o1 + k * 2 + 1, none⟩ = some xv ∧ w'.cell? ⟨b2, o2 + k * 2, none⟩ = some (.int .i64 x1) ∧ w'.cell? ⟨b2, o2 + k * 2 + 1, none⟩ = some yv)) (by kernel_rfl) (by first | exact HH.out | exact HH1.out) (fun hHeld => ?_)
          refine takeO 0 (some 17) (v := ?_) rfl rfl (by kernel_rfl) (by kernel_rfl) (by kernel_rfl) (fun _ _ _ h => h) (Or.inl ⟨by rfl, ?_⟩) (by assumption) ?_
          rotate_left 1
          · intro w hSw; (try dsimp only at hSw); go_simp; all_goals with_reducible rfl
          try simp only [Act.put, List.setIfInBounds_toArray, List.set_cons_zero, List.set_cons_succ]
          refine takeO 1 (some 18) (v := ?_) rfl rfl (by kernel_rfl) (by kernel_rfl) (by kernel_rfl) (fun _ _ _ h => h) (Or.inl ⟨by rfl, ?_⟩) (by assumption) ?_
          rotate_left 1
          · intro w hSw; (try dsimp only at hSw); go_simp; all_goals with_reducible rfl
          try simp only [Act.put, List.setIfInBounds_toArray, List.set_cons_zero, List.set_cons_succ]
          refine takeO 2 (some 19) (v := ?_) rfl rfl (by kernel_rfl) (by kernel_rfl) (by kernel_rfl) (fun _ _ _ h => h) (Or.inl ⟨by rfl, ?_⟩) (by assumption) ?_
          rotate_left 1
          · intro w hSw; (try dsimp only at hSw); go_simp; all_goals with_reducible rfl
          try simp only [Act.put, List.setIfInBounds_toArray, List.set_cons_zero, List.set_cons_succ]
          refine takeO 3 (some 20) (v := ?_) rfl rfl (by kernel_rfl) (by kernel_rfl) (by kernel_rfl) (fun _ _ _ h => h) (Or.inl ⟨by rfl, ?_⟩) (by assumption) ?_
          rotate_left 1
          · intro w hSw; (try dsimp only at hSw); go_simp; all_goals with_reducible rfl
          try simp only [Act.put, List.setIfInBounds_toArray, List.set_cons_zero, List.set_cons_succ]
          refine takeO 4 (some 21) (v := ?_) rfl rfl (by kernel_rfl) (by kernel_rfl) (by kernel_rfl) (fun _ _ _ h => h) (Or.inl ⟨by rfl, ?_⟩) (by assumption) ?_
          rotate_left 1
          · intro w hSw; (try dsimp only at hSw); go_simp; all_goals with_reducible rfl
          try simp only [Act.put, List.setIfInBounds_toArray, List.set_cons_zero, List.set_cons_succ]
          refine takeO 5 (some 22) (v := ?_) rfl rfl (by kernel_rfl) (by kernel_rfl) (by kernel_rfl) (fun _ _ _ h => h) (Or.inl ⟨by rfl, ?_⟩) (by assumption) ?_
          rotate_left 1
          · intro w hSw; (try dsimp only at hSw); go_simp; all_goals with_reducible rfl
          try simp only [Act.put, List.setIfInBounds_toArray, List.set_cons_zero, List.set_cons_succ]
          refine takeO 6 (some 23) (v := ?_) rfl rfl (by kernel_rfl) (by kernel_rfl) (by kernel_rfl) (fun _ _ _ h => h) (Or.inl ⟨by rfl, ?_⟩) (by assumption) ?_
          rotate_left 1
          · intro w hSw; (try dsimp only at hSw); go_simp; all_goals with_reducible rfl
          try simp only [Act.put, List.setIfInBounds_toArray, List.set_cons_zero, List.set_cons_succ]
          refine takeO 7 (some 24) (v := ?_) rfl rfl (by kernel_rfl) (by kernel_rfl) (by kernel_rfl) (fun _ _ _ h => h) (Or.inl ⟨by rfl, ?_⟩) (by assumption) ?_
          rotate_left 1
          · intro w hSw; (try dsimp only at hSw); go_simp; all_goals with_reducible rfl
          try simp only [Act.put, List.setIfInBounds_toArray, List.set_cons_zero, List.set_cons_succ]
          refine takeO 8 (some 25) (v := ?_) rfl rfl (by kernel_rfl) (by kernel_rfl) (by kernel_rfl) (fun _ _ _ h => h) (Or.inl ⟨by rfl, ?_⟩) (by assumption) ?_
          rotate_left 1
          · intro w hSw; (try dsimp only at hSw); go_simp; all_goals with_reducible rfl
          try simp only [Act.put, List.setIfInBounds_toArray, List.set_cons_zero, List.set_cons_succ]
          refine takeO 9 (some 26) (v := ?_) rfl rfl (by kernel_rfl) (by kernel_rfl) (by kernel_rfl) (fun _ _ _ h => h) (Or.inl ⟨by rfl, ?_⟩) (by assumption) ?_
          rotate_left 1
          · intro w hSw; (try dsimp only at hSw); go_simp; all_goals with_reducible rfl
          try simp only [Act.put, List.setIfInBounds_toArray, List.set_cons_zero, List.set_cons_succ]
          refine takeO 10 (some 27) (v := ?_) rfl rfl (by kernel_rfl) (by kernel_rfl) (by kernel_rfl) (fun _ _ _ h => h) (Or.inl ⟨by rfl, ?_⟩) (by assumption) ?_
          rotate_left 1
          · intro w hSw; (try dsimp only at hSw); go_simp; all_goals with_reducible rfl
          try simp only [Act.put, List.setIfInBounds_toArray, List.set_cons_zero, List.set_cons_succ]
          refine takeO 11 (some 28) (v := ?_) rfl rfl (by kernel_rfl) (by kernel_rfl) (by kernel_rfl) (fun _ _ _ h => h) (Or.inl ⟨by rfl, ?_⟩) (by assumption) ?_
          rotate_left 1
          · intro w hSw; (try dsimp only at hSw); go_simp; all_goals with_reducible rfl
          try simp only [Act.put, List.setIfInBounds_toArray, List.set_cons_zero, List.set_cons_succ]
          refine takeO 12 (some 29) (v := ?_) rfl rfl (by kernel_rfl) (by kernel_rfl) (by kernel_rfl) (fun _ _ _ h => h) (Or.inl ⟨by rfl, ?_⟩) (by assumption) ?_
          rotate_left 1
          · intro w hSw; (try dsimp only at hSw); go_simp; all_goals with_reducible rfl
          try simp only [Act.put, List.setIfInBounds_toArray, List.set_cons_zero, List.set_cons_succ]
          refine takeO 13 (some 30) (v := ?_) rfl rfl (by kernel_rfl) (by kernel_rfl) (by kernel_rfl) (fun _ _ _ h => h) (Or.inl ⟨by rfl, ?_⟩) (by assumption) ?_
          rotate_left 1
          · intro w hSw; (try dsimp only at hSw); go_simp; all_goals with_reducible rfl
          try simp only [Act.put, List.setIfInBounds_toArray, List.set_cons_zero, List.set_cons_succ]
          refine takeO 14 (some 31) (v := ?_) rfl rfl (by kernel_rfl) (by kernel_rfl) (by kernel_rfl) (fun _ _ _ h => h) (Or.inl ⟨by rfl, ?_⟩) (by assumption) ?_
          rotate_left 1
          · intro w hSw; (try dsimp only at hSw); go_simp; all_goals with_reducible rfl
          try simp only [Act.put, List.setIfInBounds_toArray, List.set_cons_zero, List.set_cons_succ]
          refine takeO 15 (some 32) (v := ?_) rfl rfl (by kernel_rfl) (by kernel_rfl) (by kernel_rfl) (fun _ _ _ h => h) (Or.inl ⟨by rfl, ?_⟩) (by assumption) ?_
          rotate_left 1
          · intro w hSw; (try dsimp only at hSw); go_simp; all_goals with_reducible rfl
          try simp only [Act.put, List.setIfInBounds_toArray, List.set_cons_zero, List.set_cons_succ]
          refine takeO 16 (some 33) (v := ?_) rfl rfl (by kernel_rfl) (by kernel_rfl) (by kernel_rfl) (fun _ _ _ h => h) (Or.inl ⟨by rfl, ?_⟩) (by assumption) ?_
          rotate_left 1
          · intro w hSw; (try dsimp only at hSw); go_simp; all_goals with_reducible rfl
          try simp only [Act.put, List.setIfInBounds_toArray, List.set_cons_zero, List.set_cons_succ]
          refine takeO 17 (some 34) (v := ?_) rfl rfl (by kernel_rfl) (by kernel_rfl) (by kernel_rfl) (fun _ _ _ h => h) (Or.inl ⟨by rfl, ?_⟩) (by assumption) ?_
          rotate_left 1
          · intro w hSw; (try dsimp only at hSw); go_simp; all_goals with_reducible rfl
          try simp only [Act.put, List.setIfInBounds_toArray, List.set_cons_zero, List.set_cons_succ]
          refine takeO 18 (some 35) (v := ?_) rfl rfl (by kernel_rfl) (by kernel_rfl) (by kernel_rfl) (fun _ _ _ h => h) (Or.inl ⟨by rfl, ?_⟩) (by assumption) ?_
          rotate_left 1
          · intro w hSw; (try dsimp only at hSw); go_simp; all_goals with_reducible rfl
          try simp only [Act.put, List.setIfInBounds_toArray, List.set_cons_zero, List.set_cons_succ]
          refine takeO 19 (some 36) (v := ?_) rfl rfl (by kernel_rfl) (by kernel_rfl) (by kernel_rfl) (fun _ _ _ h => h) (Or.inl ⟨by rfl, ?_⟩) (by assumption) ?_
          rotate_left 1
          · intro w hSw; (try dsimp only at hSw); go_simp; all_goals with_reducible rfl
          try simp only [Act.put, List.setIfInBounds_toArray, List.set_cons_zero, List.set_cons_succ]
          refine takeO 20 (some 37) (v := ?_) rfl rfl (by kernel_rfl) (by kernel_rfl) (by kernel_rfl) (fun _ _ _ h => h) (Or.inl ⟨by rfl, ?_⟩) (by assumption) ?_
          rotate_left 1
          · intro w hSw; (try dsimp only at hSw); go_simp; all_goals with_reducible rfl
          try simp only [Act.put, List.setIfInBounds_toArray, List.set_cons_zero, List.set_cons_succ]
          refine takeO 21 (some 38) (v := ?_) rfl rfl (by kernel_rfl) (by kernel_rfl) (by kernel_rfl) (fun _ _ _ h => h) (Or.inl ⟨by rfl, ?_⟩) (by assumption) ?_
          rotate_left 1
          · intro w hSw; (try dsimp only at hSw); go_simp; all_goals with_reducible rfl
          try simp only [Act.put, List.setIfInBounds_toArray, List.set_cons_zero, List.set_cons_succ]
          refine wpAnyH_ready (rs := [22]) (by kernel_rfl) (by simp) ?_
          refine AllReadyH.cons rfl (fun K hK => ?_) AllReadyH.nil
          go_simp
          refine HSM.out.mono ?_; rintro e w1 ⟨rfl, hb⟩; clear HSM; have HH1 := Lib.hid (And.intro ((hb.cell (cell?_lt HH.out.1)).trans HH.out.1) (And.intro ((hb.cell (cell?_lt HH.out.2.1)).trans HH.out.2.1) (And.intro ((hb.cell (cell?_lt HH.out.2.2.1)).trans HH.out.2.2.1) ((hb.cell (cell?_lt HH.out.2.2.2)).trans HH.out.2.2.2)))); have HB1 := Lib.hid (HB.out.drew.trans (hb.mono HB.out.size)); clear hb
          go_wp2_with fail
          refine hK.out _ _ (by first | exact HH.out | exact HH1.out) (fun hHeld => ?_)
          clear hK K
          try simp only [Act.put, List.setIfInBounds_toArray, List.set_cons_zero, List.set_cons_succ]
          refine takeO 23 (some 40) (v := ?_) rfl rfl (by kernel_rfl) (by kernel_rfl) (by kernel_rfl) (fun _ _ _ h => h) (Or.inl ⟨by rfl, ?_⟩) (by assumption) ?_
          rotate_left 1
          · intro w hSw; (try dsimp only at hSw); go_simp; all_goals with_reducible rfl
          try simp only [Act.put, List.setIfInBounds_toArray, List.set_cons_zero, List.set_cons_succ]
          refine takeO 24 (some 41) (v := ?_) rfl rfl (by kernel_rfl) (by kernel_rfl) (by kernel_rfl) (fun _ _ _ h => h) (Or.inl ⟨by rfl, ?_⟩) (by assumption) ?_
          rotate_left 1
          · intro w hSw; (try dsimp only at hSw); go_simp; all_goals with_reducible rfl
          try simp only [Act.put, List.setIfInBounds_toArray, List.set_cons_zero, List.set_cons_succ]
          refine wpAnyH_done (by kernel_rfl) ?_ _
          cases sm
          · go_wp2_with fail
            go_ret
            have e : R = false := by rw [← HR.out]; exact eqLs_at HX.out HY.out (by rw [HS.out, Bool.and_false])
            subst e
            exact ⟨rfl, HB1.out⟩
          · go_wp2_with fail
            go_roundw
            case rel => exact ⟨k + 1, by rw [HNN.out]; omega, by go_num, (fun i u v hi hu hv => by
                rcases (by omega : i < k ∨ i = k) with h | h
                · exact HJ.out i u v h hu hv
                · subst h
                  rw [HX.out] at hu; rw [HY.out] at hv; cases hu; cases hv
                  rw [HX1.out, HY1.out, HS.out]; simp), HB1.out⟩
            case measure => simp [intOf]; omega
        · have ht' : (x1 != y1) = true := by simpa using ht
          have HT := Lib.hid ht
          refine wp_region_held_drew (S := (fun w' => w'.cell? ⟨b1, o1 + k * 2, none⟩ = some (.int .i64 x1) ∧ w'.cell? ⟨b1, o1 + k * 2 + 1, none⟩ = some xv ∧ w'.cell? ⟨b2, o2 + k * 2, none⟩ = some (.int .i64 y1) ∧ w'.cell? ⟨b2, o2 + k * 2 + 1, none⟩ = some yv)) (by kernel_rfl) (by exact HH.out) (fun hHeld => ?_)
          refine takeO 0 (some 17) (v := ?_) rfl rfl (by kernel_rfl) (by kernel_rfl) (by kernel_rfl) (fun _ _ _ h => h) (Or.inl ⟨by rfl, ?_⟩) (by assumption) ?_
          rotate_left 1
          · intro w hSw; (try dsimp only at hSw); go_simp; all_goals with_reducible rfl
          try simp only [Act.put, List.setIfInBounds_toArray, List.set_cons_zero, List.set_cons_succ]
          refine takeO 1 (some 18) (v := ?_) rfl rfl (by kernel_rfl) (by kernel_rfl) (by kernel_rfl) (fun _ _ _ h => h) (Or.inl ⟨by rfl, ?_⟩) (by assumption) ?_
          rotate_left 1
          · intro w hSw; (try dsimp only at hSw); go_simp; all_goals with_reducible rfl
          try simp only [Act.put, List.setIfInBounds_toArray, List.set_cons_zero, List.set_cons_succ]
          refine takeO 2 (some 19) (v := ?_) rfl rfl (by kernel_rfl) (by kernel_rfl) (by kernel_rfl) (fun _ _ _ h => h) (Or.inl ⟨by rfl, ?_⟩) (by assumption) ?_
          rotate_left 1
          · intro w hSw; (try dsimp only at hSw); go_simp; all_goals with_reducible rfl
          try simp only [Act.put, List.setIfInBounds_toArray, List.set_cons_zero, List.set_cons_succ]
          refine takeO 3 (some 20) (v := ?_) rfl rfl (by kernel_rfl) (by kernel_rfl) (by kernel_rfl) (fun _ _ _ h => h) (Or.inl ⟨by rfl, ?_⟩) (by assumption) ?_
          rotate_left 1
          · intro w hSw; (try dsimp only at hSw); go_simp; all_goals with_reducible rfl
          try simp only [Act.put, List.setIfInBounds_toArray, List.set_cons_zero, List.set_cons_succ]
          refine takeO 4 (some 21) (v := ?_) rfl rfl (by kernel_rfl) (by kernel_rfl) (by kernel_rfl) (fun _ _ _ h => h) (Or.inl ⟨by rfl, ?_⟩) (by assumption) ?_
          rotate_left 1
          · intro w hSw; (try dsimp only at hSw); go_simp; all_goals with_reducible rfl
          try simp only [Act.put, List.setIfInBounds_toArray, List.set_cons_zero, List.set_cons_succ]
          refine takeO 5 (some 22) (v := ?_) rfl rfl (by kernel_rfl) (by kernel_rfl) (by kernel_rfl) (fun _ _ _ h => h) (Or.inl ⟨by rfl, ?_⟩) (by assumption) ?_
          rotate_left 1
          · intro w hSw; (try dsimp only at hSw); go_simp; all_goals with_reducible rfl
          try simp only [Act.put, List.setIfInBounds_toArray, List.set_cons_zero, List.set_cons_succ]
          refine takeO 6 (some 23) (v := ?_) rfl rfl (by kernel_rfl) (by kernel_rfl) (by kernel_rfl) (fun _ _ _ h => h) (Or.inl ⟨by rfl, ?_⟩) (by assumption) ?_
          rotate_left 1
          · intro w hSw; (try dsimp only at hSw); go_simp; all_goals with_reducible rfl
          try simp only [Act.put, List.setIfInBounds_toArray, List.set_cons_zero, List.set_cons_succ]
          refine takeO 7 (some 24) (v := ?_) rfl rfl (by kernel_rfl) (by kernel_rfl) (by kernel_rfl) (fun _ _ _ h => h) (Or.inl ⟨by rfl, ?_⟩) (by assumption) ?_
          rotate_left 1
          · intro w hSw; (try dsimp only at hSw); go_simp; all_goals with_reducible rfl
          try simp only [Act.put, List.setIfInBounds_toArray, List.set_cons_zero, List.set_cons_succ]
          refine takeO 8 (some 25) (v := ?_) rfl rfl (by kernel_rfl) (by kernel_rfl) (by kernel_rfl) (fun _ _ _ h => h) (Or.inl ⟨by rfl, ?_⟩) (by assumption) ?_
          rotate_left 1
          · intro w hSw; (try dsimp only at hSw); go_simp; all_goals with_reducible rfl
          try simp only [Act.put, List.setIfInBounds_toArray, List.set_cons_zero, List.set_cons_succ]
          refine takeO 9 (some 26) (v := ?_) rfl rfl (by kernel_rfl) (by kernel_rfl) (by kernel_rfl) (fun _ _ _ h => h) (Or.inl ⟨by rfl, ?_⟩) (by assumption) ?_
          rotate_left 1
          · intro w hSw; (try dsimp only at hSw); go_simp; all_goals with_reducible rfl
          try simp only [Act.put, List.setIfInBounds_toArray, List.set_cons_zero, List.set_cons_succ]
          refine takeO 10 (some 27) (v := ?_) rfl rfl (by kernel_rfl) (by kernel_rfl) (by kernel_rfl) (fun _ _ _ h => h) (Or.inl ⟨by rfl, ?_⟩) (by assumption) ?_
          rotate_left 1
          · intro w hSw; (try dsimp only at hSw); go_simp; all_goals with_reducible rfl
          try simp only [Act.put, List.setIfInBounds_toArray, List.set_cons_zero, List.set_cons_succ]
          refine takeO 11 (some 28) (v := ?_) rfl rfl (by kernel_rfl) (by kernel_rfl) (by kernel_rfl) (fun _ _ _ h => h) (Or.inl ⟨by rfl, ?_⟩) (by assumption) ?_
          rotate_left 1
          · intro w hSw; (try dsimp only at hSw); go_simp; all_goals with_reducible rfl
          try simp only [Act.put, List.setIfInBounds_toArray, List.set_cons_zero, List.set_cons_succ]
          refine takeO 12 (some 29) (v := undef) rfl rfl (by kernel_rfl) (by kernel_rfl) (by kernel_rfl) (fun _ _ _ h => h) (Or.inr ⟨by rfl, rfl⟩) (by assumption) ?_
          try simp only [Act.put, List.setIfInBounds_toArray, List.set_cons_zero, List.set_cons_succ]
          refine takeO 13 (some 30) (v := undef) rfl rfl (by kernel_rfl) (by kernel_rfl) (by kernel_rfl) (fun _ _ _ h => h) (Or.inr ⟨by rfl, rfl⟩) (by assumption) ?_
          try simp only [Act.put, List.setIfInBounds_toArray, List.set_cons_zero, List.set_cons_succ]
          refine takeO 14 (some 31) (v := undef) rfl rfl (by kernel_rfl) (by kernel_rfl) (by kernel_rfl) (fun _ _ _ h => h) (Or.inr ⟨by rfl, rfl⟩) (by assumption) ?_
          try simp only [Act.put, List.setIfInBounds_toArray, List.set_cons_zero, List.set_cons_succ]
          refine takeO 15 (some 32) (v := undef) rfl rfl (by kernel_rfl) (by kernel_rfl) (by kernel_rfl) (fun _ _ _ h => h) (Or.inr ⟨by rfl, rfl⟩) (by assumption) ?_
          try simp only [Act.put, List.setIfInBounds_toArray, List.set_cons_zero, List.set_cons_succ]
          refine takeO 16 (some 33) (v := undef) rfl rfl (by kernel_rfl) (by kernel_rfl) (by kernel_rfl) (fun _ _ _ h => h) (Or.inr ⟨by rfl, rfl⟩) (by assumption) ?_
          try simp only [Act.put, List.setIfInBounds_toArray, List.set_cons_zero, List.set_cons_succ]
          refine takeO 17 (some 34) (v := undef) rfl rfl (by kernel_rfl) (by kernel_rfl) (by kernel_rfl) (fun _ _ _ h => h) (Or.inr ⟨by rfl, rfl⟩) (by assumption) ?_
          try simp only [Act.put, List.setIfInBounds_toArray, List.set_cons_zero, List.set_cons_succ]
          refine takeO 18 (some 35) (v := undef) rfl rfl (by kernel_rfl) (by kernel_rfl) (by kernel_rfl) (fun _ _ _ h => h) (Or.inr ⟨by rfl, rfl⟩) (by assumption) ?_
          try simp only [Act.put, List.setIfInBounds_toArray, List.set_cons_zero, List.set_cons_succ]
          refine takeO 19 (some 36) (v := undef) rfl rfl (by kernel_rfl) (by kernel_rfl) (by kernel_rfl) (fun _ _ _ h => h) (Or.inr ⟨by rfl, rfl⟩) (by assumption) ?_
          try simp only [Act.put, List.setIfInBounds_toArray, List.set_cons_zero, List.set_cons_succ]
          refine takeO 20 (some 37) (v := undef) rfl rfl (by kernel_rfl) (by kernel_rfl) (by kernel_rfl) (fun _ _ _ h => h) (Or.inr ⟨by rfl, rfl⟩) (by assumption) ?_
          try simp only [Act.put, List.setIfInBounds_toArray, List.set_cons_zero, List.set_cons_succ]
          refine takeO 21 (some 38) (v := undef) rfl rfl (by kernel_rfl) (by kernel_rfl) (by kernel_rfl) (fun _ _ _ h => h) (Or.inr ⟨by rfl, rfl⟩) (by assumption) ?_
          try simp only [Act.put, List.setIfInBounds_toArray, List.set_cons_zero, List.set_cons_succ]
          refine takeO 22 (some 39) (v := undef) rfl rfl (by kernel_rfl) (by kernel_rfl) (by kernel_rfl) (fun _ _ _ h => h) (Or.inr ⟨by rfl, rfl⟩) (by assumption) ?_
          try simp only [Act.put, List.setIfInBounds_toArray, List.set_cons_zero, List.set_cons_succ]
          refine takeO 23 (some 40) (v := undef) rfl rfl (by kernel_rfl) (by kernel_rfl) (by kernel_rfl) (fun _ _ _ h => h) (Or.inr ⟨by rfl, rfl⟩) (by assumption) ?_
          try simp only [Act.put, List.setIfInBounds_toArray, List.set_cons_zero, List.set_cons_succ]
          refine takeO 24 (some 41) (v := ?_) rfl rfl (by kernel_rfl) (by kernel_rfl) (by kernel_rfl) (fun _ _ _ h => h) (Or.inl ⟨by rfl, ?_⟩) (by assumption) ?_
          rotate_left 1
          · intro w hSw; (try dsimp only at hSw); go_simp; all_goals with_reducible rfl
          try simp only [Act.put, List.setIfInBounds_toArray, List.set_cons_zero, List.set_cons_succ]
          refine wpAnyH_done (by kernel_rfl) ?_ _
          go_wp2_with fail
          go_ret
          have e : R = false := by rw [← HR.out]; exact eqLs_at HX.out HY.out (by rw [HX1.out, HY1.out]; have := HT.out; simp [this])
          subst e
          exact ⟨rfl, HB.out.drew⟩
      · obtain rfl : k = n := by omega
        go_wp2_with fail
        go_ret
        have e : R = true := by rw [← HR.out]; exact eqLs_all HN.out (fun i x y hx hy => HJ.out i x y (by have := (List.getElem?_eq_some_iff.1 hx).1; rw [HNN.out] at this; exact this) hx hy)
        subst e
        exact ⟨rfl, HB.out⟩
  · have hn' : ((l.length : Int) != (l'.length : Int)) = true := by simp; omega
    have HN := Lib.hid hn
    obtain ⟨n, hnn⟩ : ∃ n, l.length = n := ⟨_, rfl⟩
    obtain ⟨n', hnn'⟩ : ∃ n, l'.length = n := ⟨_, rfl⟩
    rw [hnn, hnn'] at hn hn' ⊢
    go_enter Tryz.func42, Tryz.ntmps42
    go_wp2_with fail
    go_ret
    have e : R = false := by rw [← HR.out]; cases e : eqLs l l' with | false => rfl | true => exact absurd (eqLs_len e) HN.out
    subst e
    exact ⟨rfl, Below.refl _ _⟩
end
end Go.Proofs.YtinkbgeckjbnbaaGreat
namespace Go.Proofs.YtinkbgeckjbnbaaGreat
section
open Go.RowKit
set_option linter.unusedVariables false
set_option linter.unusedSimpArgs false

set_option maxRecDepth 100000 in
theorem results_cellC {fn : Func} {p : Tmp} {ty : TypeId} (h : fn.results = #[.cell p ty]) (tmps : Array Value) (P : Program) (w : World) :
    (results fn tmps).run P w = ((asAddr (tmps.getD p undef)).run P w).andThen fun a w₁ => (loadVar ty a).run P w₁ := by
  simp only [results, h]
  simp [Sem.run_bind, Result.andThen]
def wordsA : List ByteArray := [⟨#[97]⟩, ⟨#[97, 98, 99]⟩, ⟨#[98]⟩]
def c24 (a : Nat) : CfgM := ⟨some ⟨a, 0, none⟩, 3, 3, none, 0, 0, wordsA, [], 1, 1, 1, 2, 5, 9, 2, 4, 0, 8⟩
set_option maxRecDepth 100000 in
theorem c24_may (a : Nat) : mayC (c24 a) = true := by
  have h : mayC (c24 a) = mayC (c24 0) := rfl
  rw [h]; decide
set_option maxRecDepth 100000 in
theorem c24_shards (a : Nat) : shardsC (c24 a) = 1 := by rw [shardsC_may (c24_may a)]; rfl
set_option maxRecDepth 100000 in
set_option maxHeartbeats 2000000 in
theorem small24_any (w : World) : Calls Tryz.prog 56 #[] w fun e w' => ∃ a, e = .returned (c24 a).val ∧ CfgOK w' (c24 a) ∧ Below w.heap.size w w' := by
  go_enter Tryz.func56, Tryz.ntmps56
  go_wp2_with fail
  refine bodyPost_ret (v := (c24 (w.heap.size + 1)).val) ?_ rfl ⟨w.heap.size + 1, rfl, ?_, ((Below.refl _ w).alloc (Nat.le_refl _) _).alloc (by simp) _⟩
  · rw [results_cellC rfl]
    go_simp
    rfl
  · obtain ⟨W, hW⟩ : ∃ V, w.alloc (.cells #[.slice (some ⟨w.heap.size + 1, 0, none⟩) 3 3, .slice none 0 0, .int .i64 1, .int .i64 1, .int .i64 1, .int .i64 2, .int .i64 5, .int .i64 9, .int .i64 2, .int .i64 4, .int .i64 0, .int .i64 8] 25) = V := ⟨_, rfl⟩
    have hs : W.heap.size = w.heap.size + 1 := by rw [← hW]; simp
    rw [hW]
    refine ⟨?_, ⟨rfl, Nat.le_refl _, Nat.zero_le _, fun _ => rfl, fun i x hx => absurd hx (by show ¬ ([] : List KeyL)[i]? = some x; simp)⟩, ?_, fun x hx => absurd (show x ∈ ([] : List KeyL) from hx) List.not_mem_nil⟩
    · rw [← hs]
      exact (show Blk (W.alloc (.cells #[.string ⟨#[97]⟩, .string ⟨#[97, 98, 99]⟩, .string ⟨#[98]⟩] 9)) W.heap.size 9 [.string ⟨#[97]⟩, .string ⟨#[97, 98, 99]⟩, .string ⟨#[98]⟩] from heap_alloc_new W _).rd 3 3 (wordsA.map Value.string) rfl (Nat.le_refl _) (by unfold maxLen; decide) (fun i hi => rfl)
    · intro x hx
      have : x.size ≤ 3 := by
        have hx' : x ∈ wordsA := hx
        unfold wordsA at hx'
        simp only [List.mem_cons, List.not_mem_nil, or_false] at hx'
        rcases hx' with rfl | rfl | rfl <;> decide
      unfold maxLen; omega
set_option maxRecDepth 100000 in
theorem LetAt.step {O O' : Own} {w w' : World} {base : Nat} {v : Value} {l : List LV} (h : LetAt O w base v l) (hf : COut O w w') (ha : AgO w.heap.size O O') : LetAt O' w' base v l := by
  obtain ⟨ao, c, h1, h2, h3⟩ := h
  exact ⟨ao, c, h1, ownsRow_frm h2 hf (fun k hk e => by rw [h3 k hk] at e; exact absurd e (by decide)), own_ag h2 ha h3⟩
set_option maxRecDepth 100000 in
theorem LetAt.below {O : Own} {w w' : World} {base : Nat} {v : Value} {l : List LV} (h : LetAt O w base v l) (hb : Below w.heap.size w w') : LetAt O w' base v l := h.step (COut.below hb) (AgO.refl _ _)
set_option maxRecDepth 100000 in
theorem LetAt.rde {O : Own} {w : World} {base : Nat} {v : Value} {l : List LV} (h : LetAt O w base v l) : ∃ ao c, v = .slice ao l.length c ∧ RdE LV.cells 2 w ao l.length c l := by
  obtain ⟨ao, c, h1, h2, h3⟩ := h
  exact ⟨ao, c, h1, ownsRow_rdE (enc := LV.cells) (fun _ => rfl) rfl h2⟩
set_option maxRecDepth 100000 in
/-- what changed is new -/
theorem COut.to_below {O : Own} {w0 w w' : World} (h : COut O w w') (hb : Below w0.heap.size w0 w) (ho : ∀ b, b < w0.heap.size → O b % 8 ≠ 1) : Below w0.heap.size w0 w' :=
  ⟨h.os.trans hb.os, h.tape.trans hb.tape, h.output.trans hb.output, Nat.le_trans hb.size h.size, fun k hk => (h.block k (Nat.lt_of_lt_of_le hk hb.size) (ho k hk)).trans (hb.block k hk)⟩
set_option maxRecDepth 100000 in
theorem new_let (w : World) (x : LV) : RdE LV.cells 2 (w.alloc (.cells #[.int .i64 x.1, x.2.val] 51)) (some ⟨w.heap.size, 0, none⟩) 1 1 [x] :=
  Blk.rdE (sp := []) (enc := LV.cells) (l := [x]) (fun _ => rfl) (show Blk _ w.heap.size 51 _ from heap_alloc_new w _) 1 (Nat.le_refl _) (by unfold maxLen; decide)
def askA : MV := .ask 0 1 0 0 1 ⟨#[97]⟩ 1 2 true 0 ⟨#[]⟩
section
variable (a : Nat) (ac : Option Addr) (cc : Nat)
def s24 : CS := CS.init ((c24 a).own ac cc)
set_option maxRecDepth 100000 in
theorem s24_hello : (s24 a ac cc).helloL 1 1 = [(1, .grant 1 1 1)] := by kernel_rfl
set_option maxRecDepth 100000 in
theorem s24_subV : ((s24 a ac cc).hello 1 1).subV ⟨#[97]⟩ 1 2 = (3, 1) := by kernel_rfl
set_option maxRecDepth 100000 in
theorem s24_subL : ((s24 a ac cc).hello 1 1).subLs ⟨#[97]⟩ 1 2 1 1 = [] := by kernel_rfl
set_option maxRecDepth 100000 in
theorem s24_wakeL : ((((s24 a ac cc).hello 1 1).sub ⟨#[97]⟩ 1 2 1).wake 0).2 = [(1, askA)] := by kernel_rfl
set_option maxRecDepth 100000 in
theorem s24_wakeT : ((((s24 a ac cc).hello 1 1).sub ⟨#[97]⟩ 1 2 1).wake 0).1.tm.length = 1 := by kernel_rfl
end
set_option maxRecDepth 100000 in
theorem s24_ok (a : Nat) (ac : Option Addr) (cc : Nat) : ((s24 a ac cc).hello 1 1).OK 1 3 := hello_ok (init_ok (own_may (c24_may a)) (show (1 : Int) ≤ 5 ∧ (5 : Int) ≤ 1000 by decide) 1 (by decide)) 1 1
set_option maxRecDepth 100000 in
theorem eqL1 : eqLs [(1, .grant 1 1 1)] [(1, .grant 1 1 1)] = true := by kernel_rfl
set_option maxRecDepth 100000 in
theorem eqL2 : eqLs [(1, askA)] [(1, askA)] = true := by kernel_rfl
set_option maxRecDepth 100000 in
set_option maxHeartbeats 8000000 in
theorem awake24_any (w : World) : Calls Tryz.prog 14 #[] w fun e w' => e = .returned (.bool true) ∧ Below w.heap.size w w' := by
  go_enter Tryz.func14, Tryz.ntmps14
  go_wp2_with fail
  refine (small24_any w).mono ?_
  rintro e w1 ⟨a, rfl, hc1, hb1⟩
  have HC1 := Lib.hid hc1
  have HB1 := Lib.hid hb1
  have HNW := Lib.hid (cnew_yes (fun _ => 0) (c24 a) w1 hc1 (c24_may a))
  obtain ⟨cv, hcv⟩ : ∃ v, (c24 a).val = v := ⟨_, rfl⟩
  rw [hcv] at HNW ⊢
  clear hc1 hb1 hcv
  go_wp2_with fail
  refine HNW.out.mono ?_
  clear HNW
  rintro e w2 ⟨p, ac, cc, A, O2, rfl, hcw, hlen, ha, hb2⟩
  rw [c24_shards] at hlen
  have hlen1 : A.cps.length = 1 := by omega
  have HC2 := Lib.hid (show CW w2 O2 A p (s24 a ac cc) from hcw)
  have HLN := Lib.hid hlen1
  have HB2 := Lib.hid (HB1.out.trans (hb2.mono HB1.out.size))
  have HO2 := Lib.hid (show ∀ b, b < w.heap.size → O2 b % 8 ≠ 1 from fun b hb => by rw [ha b (Nat.lt_of_lt_of_le hb HB1.out.size)]; show (0 : Nat) % 8 ≠ 1; decide)
  have hqc := fun V => cptr_ne p 0 V
  have HTK := Lib.hid (ctake_hello O2 A p (s24 a ac cc) 1 1 w2 HC2.out (init_ok (own_may (c24_may a)) (show (1 : Int) ≤ 5 ∧ (5 : Int) ≤ 1000 by decide) 1 (b := 3) (by decide)).t)
  clear hcw hlen hlen1 ha hb2
  go_wp2_with fail
  refine HTK.out.mono ?_
  clear HTK
  rintro e w3 ⟨u3, O3, rfl, hc3, hl3, ha3, hf3⟩
  rw [s24_hello] at hl3
  have HC3 := Lib.hid hc3
  have HL3 := Lib.hid hl3
  have HF3 := Lib.hid hf3
  have HA3 := Lib.hid (show AgO w2.heap.size O2 O3 from ha3)
  have hs := csubmit_any O3 A p ((s24 a ac cc).hello 1 1) ⟨#[97]⟩ 1 2 1 w3 HC3.out (by unfold maxLen; decide) (by rw [HLN.out]; decide) (by rw [HLN.out]; decide) rfl (by decide) (by show (0 : Nat) ≤ _; omega) (by show (0 : Nat) ≤ _; omega) (fun x hx => absurd (show x ∈ ([] : List KeyL) from hx) List.not_mem_nil)
  unfold SuE at hs
  rw [s24_subV, HLN.out, s24_subL] at hs
  have HSB := Lib.hid hs
  clear hc3 hl3 hf3 ha3 hs
  go_wp2_with fail
  refine HSB.out.mono ?_
  clear HSB
  rintro e w4 ⟨u4, O4, A4, rfl, hc4, hcp4, hl4, ha4, hf4⟩
  have HC4 := Lib.hid hc4
  have HL34 := Lib.hid (HL3.out.step hf4 ha4)
  have HF4 := Lib.hid (COut.trans HF3.out hf4 HA3.out)
  have HA4 := Lib.hid (show AgO w2.heap.size O2 O4 from HA3.out.trans ha4 HF3.out.size)
  have hok4 := sub_ok (s24_ok a ac cc) (by decide) ⟨#[97]⟩ 1 2
  have HWK := Lib.hid (cwake_any O4 A4 p _ 0 4 1 w4 HC4.out (by rw [hcp4, HLN.out]; exact hok4) (by decide) (by decide) (by rw [hcp4, HLN.out]; decide) (by show (1 : Int) ≤ 1; decide) (by show (1 : Int) ≤ 3; decide) (by show (1 : Int) = _; rfl) (by decide))
  clear hc4 hcp4 hl4 ha4 hf4 hok4 HL3 HF3 HA3 HC3
  go_wp2_with fail
  refine HWK.out.mono ?_
  clear HWK
  rintro e w5 ⟨u5, O5, rfl, hc5, hl5, ha5, hf5⟩
  rw [s24_wakeL] at hl5
  have HT := Lib.hid (s24_wakeT a ac cc)
  obtain ⟨S5, hS5⟩ : ∃ S, ((((s24 a ac cc).hello 1 1).sub ⟨#[97]⟩ 1 2 1).wake 0).1 = S := ⟨_, rfl⟩
  rw [hS5] at hc5 HT
  have HC5 := Lib.hid hc5
  have HL35 := Lib.hid (HL34.out.step hf5 ha5)
  have HL5 := Lib.hid hl5
  have HF5 := Lib.hid (COut.trans HF4.out hf5 HA4.out)
  have HA5 := Lib.hid (show AgO w2.heap.size O2 O5 from HA4.out.trans ha5 HF4.out.size)
  clear hS5 hc5 hl5 ha5 hf5 HC4 HL34 HF4 HA4
  obtain ⟨ao3, c3, hu3, hr3⟩ := HL35.out.rde
  obtain ⟨ao5, c5, hu5, hr5⟩ := HL5.out.rde
  subst hu3 hu5
  have HR3 := Lib.hid hr3
  have HR5 := Lib.hid hr5
  clear hr3 hr5 HL35 HL5
  obtain ⟨W6, hW6⟩ : ∃ W, w5.alloc (.cells #[.int .i64 0, .int .i64 1, .int .i64 0, .int .i64 0, .int .i64 1, .string ⟨#[97]⟩, .int .i64 1, .int .i64 2, .bool true, .int .i64 0, .string ⟨#[]⟩] 48) = W := ⟨_, rfl⟩
  obtain ⟨W7, hW7⟩ : ∃ W, W6.alloc (.cells #[.int .i64 1, .iface 99 (.agg #[.int .i64 1, .int .i64 1, .int .i64 1])] 51) = W := ⟨_, rfl⟩
  have hs6 : W6.heap.size = w5.heap.size + 1 := by rw [← hW6]; simp
  have hb6 : Below w5.heap.size w5 W6 := by rw [← hW6]; exact (Below.refl _ w5).alloc (Nat.le_refl _) _
  have hb7 : Below W6.heap.size W6 W7 := by rw [← hW7]; exact (Below.refl _ W6).alloc (Nat.le_refl _) _
  have hb57 := hb6.trans (hb7.mono hb6.size)
  have HX := Lib.hid ((show Blk W6 w5.heap.size 48 [.int .i64 0, .int .i64 1, .int .i64 0, .int .i64 0, .int .i64 1, .string ⟨#[97]⟩, .int .i64 1, .int .i64 2, .bool true, .int .i64 0, .string ⟨#[]⟩] from by rw [← hW6]; exact heap_alloc_new w5 _).below hb7 (by rw [hs6]; omega))
  have hn7 : RdE LV.cells 2 W7 (some ⟨w5.heap.size + 1, 0, none⟩) 1 1 [(1, .grant 1 1 1)] := by rw [← hW7, ← hs6]; exact new_let W6 (1, .grant 1 1 1)
  have hsl := sameletters_any ao3 (some ⟨w5.heap.size + 1, 0, none⟩) c3 1 [(1, .grant 1 1 1)] [(1, .grant 1 1 1)] W7 (HR3.out.below hb57 rfl) hn7 (by decide) (by decide)
  rw [eqL1] at hsl
  have HSL := Lib.hid hsl
  have HC7 := Lib.hid (HC5.out.below hb57 (AgO.refl _ _))
  have HR7 := Lib.hid (HR5.out.below hb57 rfl)
  have HF7 := Lib.hid (COut.trans HF5.out (COut.below (O := O5) hb57) HA5.out)
  rw [← hW6] at hW7
  clear hs6 hb6 hb7 hb57 hn7 hsl HC5 HR5 HR3 HF5 hW6
  go_wp2_with (rw [hW7])
  clear hW7
  refine HSL.out.mono ?_
  clear HSL
  rintro e w8 ⟨rfl, hb8⟩
  have HX8 := Lib.hid (HX.out.below hb8 HX.out.lt)
  have k0 : w8.cell? ⟨w5.heap.size, 0, none⟩ = some (.int .i64 0) := HX8.out.cell 0
  have k1 : w8.cell? ⟨w5.heap.size, 1, none⟩ = some (.int .i64 1) := HX8.out.cell 1
  have k2 : w8.cell? ⟨w5.heap.size, 2, none⟩ = some (.int .i64 0) := HX8.out.cell 2
  have k3 : w8.cell? ⟨w5.heap.size, 3, none⟩ = some (.int .i64 0) := HX8.out.cell 3
  have k4 : w8.cell? ⟨w5.heap.size, 4, none⟩ = some (.int .i64 1) := HX8.out.cell 4
  have k5 : w8.cell? ⟨w5.heap.size, 5, none⟩ = some (.string ⟨#[97]⟩) := HX8.out.cell 5
  have k6 : w8.cell? ⟨w5.heap.size, 6, none⟩ = some (.int .i64 1) := HX8.out.cell 6
  have k7 : w8.cell? ⟨w5.heap.size, 7, none⟩ = some (.int .i64 2) := HX8.out.cell 7
  have k8 : w8.cell? ⟨w5.heap.size, 8, none⟩ = some (.bool true) := HX8.out.cell 8
  have k9 : w8.cell? ⟨w5.heap.size, 9, none⟩ = some (.int .i64 0) := HX8.out.cell 9
  have k10 : w8.cell? ⟨w5.heap.size, 10, none⟩ = some (.string ⟨#[]⟩) := HX8.out.cell 10
  obtain ⟨W9, hW9⟩ : ∃ W, w8.alloc (.cells #[.int .i64 1, .iface 48 (.agg #[.int .i64 0, .int .i64 1, .int .i64 0, .int .i64 0, .int .i64 1, .string ⟨#[97]⟩, .int .i64 1, .int .i64 2, .bool true, .int .i64 0, .string ⟨#[]⟩])] 51) = W := ⟨_, rfl⟩
  have hb9 : Below w8.heap.size w8 W9 := by rw [← hW9]; exact (Below.refl _ w8).alloc (Nat.le_refl _) _
  have hb79 := hb8.trans (hb9.mono hb8.size)
  have hn9 : RdE LV.cells 2 W9 (some ⟨w8.heap.size, 0, none⟩) 1 1 [(1, askA)] := by rw [← hW9]; exact new_let w8 (1, askA)
  have hsl := sameletters_any ao5 (some ⟨w8.heap.size, 0, none⟩) c5 1 [(1, askA)] [(1, askA)] W9 (HR7.out.below hb79 rfl) hn9 (by decide) (by decide)
  rw [eqL2] at hsl
  have HSL := Lib.hid hsl
  have HC9 := Lib.hid (HC7.out.below hb79 (AgO.refl _ _))
  have HF9 := Lib.hid (COut.trans HF7.out (COut.below (O := O5) hb79) HA5.out)
  clear hb8 hb9 hb79 hn9 hsl HC7 HR7 HF7 HX HX8
  go_wp2_with (rw [hW9])
  clear hW9 k0 k1 k2 k3 k4 k5 k6 k7 k8 k9 k10
  refine HSL.out.mono ?_
  clear HSL
  rintro e w10 ⟨rfl, hb10⟩
  have HC10 := Lib.hid (HC9.out.below hb10 (AgO.refl _ _))
  have HF10 := Lib.hid (COut.trans HF9.out (COut.below (O := O5) hb10) HA5.out)
  have htm := timers_any w10 HC10.out
  rw [HT.out] at htm
  have HTM := Lib.hid htm
  clear hb10 htm HC9 HF9
  go_wp2_with fail
  refine HTM.out.mono ?_
  rintro e w11 ⟨rfl, rfl⟩
  have HB10 := Lib.hid (HF10.out.to_below HB2.out HO2.out)
  go_wp2_with fail
  go_ret
  exact ⟨rfl, HB10.out⟩
end
end Go.Proofs.YtinkbgeckjbnbaaGreat
namespace Go.Proofs.YtinkbgeckjbnbaaGreat
section
open Go.RowKit
set_option linter.unusedVariables false
set_option linter.unusedSimpArgs false

def qEqv (q : ByteArray) (k m : Int) (q2 : ByteArray) (k2 m2 : Int) : Bool := decide ((q, k, m) = (q2, k2, m2))
set_option maxRecDepth 100000 in
theorem eqQ_run (q : ByteArray) (k m : Int) (q2 : ByteArray) (k2 m2 : Int) (W : World) : (binOp .eql 40 (.agg #[.string q, .int .i64 k, .int .i64 m]) (.agg #[.string q2, .int .i64 k2, .int .i64 m2])).run Tryz.prog W = .ok (.bool (qEqv q k m q2 k2 m2)) W := by
  unfold qEqv
  by_cases heq : (q, k, m) = (q2, k2, m2)
  · rw [decide_eq_true heq]
    cases heq
    have ht : (q.toList == q.toList) = true := by simp
    have h1 : (k == k) = true := by simp
    have h2 : (m == m) = true := by simp
    go_simp
  · rw [decide_eq_false heq]
    by_cases h0 : q = q2
    · subst h0
      have ht : (q.toList == q.toList) = true := by simp
      by_cases h1 : k = k2
      · subst h1
        have h2 : m ≠ m2 := fun e => by subst e; exact heq rfl
        have e1 : (k == k) = true := by simp
        have e2 : (m == m2) = false := by simpa using h2
        go_simp
      · have e1 : (k == k2) = false := by simpa using h1
        go_simp
    · have ht := str_ne h0
      clear heq
      go_simp
def eqTold (t t' : TS) (id id' : Int) : Bool := decide (id = id') && qEqv t.q t.k t.n t'.q t'.k t'.n && (t.done == t'.done) && (t.canc == t'.canc) && eqIs t.items t'.items
set_option maxRecDepth 100000 in
theorem boolEq_run (a b : Bool) (W : World) : (binOp .eql 4 (.bool a) (.bool b)).run Tryz.prog W = .ok (.bool (a == b)) W := by cases a <;> cases b <;> kernel_rfl
set_option maxRecDepth 100000 in
set_option maxHeartbeats 4000000 in
theorem sametold_any (t t' : TS) (id id' : Int) (a a' : Option Addr) (c c' : Nat) (w : World) (hr : RdE KeyL.cells 2 w a t.items.length c t.items) (hr' : RdE KeyL.cells 2 w a' t'.items.length c' t'.items) :
    Calls Tryz.prog 31 #[.agg #[.int .i64 id, .string t.q, .int .i64 t.k, .int .i64 t.n, .slice a t.items.length c, .bool t.done, .bool t.canc], .agg #[.int .i64 id', .string t'.q, .int .i64 t'.k, .int .i64 t'.n, .slice a' t'.items.length c', .bool t'.done, .bool t'.canc]] w fun e w' => e = .returned (.bool (eqTold t t' id id')) ∧ Below w.heap.size w w' := by
  obtain ⟨R, hR⟩ : ∃ R, eqTold t t' id id' = R := ⟨_, rfl⟩
  rw [hR]
  unfold eqTold at hR
  obtain ⟨W, hW⟩ : ∃ V, w.alloc (.cells #[.int .i64 id, .string t.q, .int .i64 t.k, .int .i64 t.n, .slice a t.items.length c, .bool t.done, .bool t.canc] 58) = V := ⟨_, rfl⟩
  obtain ⟨W2, hW2⟩ : ∃ V, W.alloc (.cells #[.int .i64 id', .string t'.q, .int .i64 t'.k, .int .i64 t'.n, .slice a' t'.items.length c', .bool t'.done, .bool t'.canc] 58) = V := ⟨_, rfl⟩
  have hs1 : W.heap.size = w.heap.size + 1 := by rw [← hW]; simp
  have hb1 : Below w.heap.size w W := by rw [← hW]; exact (Below.refl _ w).alloc (Nat.le_refl _) _
  have hb2 : Below W.heap.size W W2 := by rw [← hW2]; exact (Below.refl _ W).alloc (Nat.le_refl _) _
  have hbl := hb1.trans (hb2.mono hb1.size)
  have hx := (show Blk W w.heap.size 58 [.int .i64 id, .string t.q, .int .i64 t.k, .int .i64 t.n, .slice a t.items.length c, .bool t.done, .bool t.canc] from by rw [← hW]; exact heap_alloc_new w _).below hb2 (by rw [hs1]; omega)
  have hy : Blk W2 (w.heap.size + 1) 58 [.int .i64 id', .string t'.q, .int .i64 t'.k, .int .i64 t'.n, .slice a' t'.items.length c', .bool t'.done, .bool t'.canc] := by rw [← hW2, ← hs1]; exact heap_alloc_new W _
  have HSI := Lib.hid (sameI_any a t.items.length c a' t'.items.length c' t.items t'.items W2 (hr.below hbl rfl) (hr'.below hbl rfl))
  have HB := Lib.hid hbl
  have x0 : W2.cell? ⟨w.heap.size, 0, none⟩ = some (.int .i64 id) := hx.cell 0
  have x1 : W2.cell? ⟨w.heap.size, 1, none⟩ = some (.string t.q) := hx.cell 1
  have x2 : W2.cell? ⟨w.heap.size, 2, none⟩ = some (.int .i64 t.k) := hx.cell 2
  have x3 : W2.cell? ⟨w.heap.size, 3, none⟩ = some (.int .i64 t.n) := hx.cell 3
  have x4 : W2.cell? ⟨w.heap.size, 4, none⟩ = some (.slice a t.items.length c) := hx.cell 4
  have x5 : W2.cell? ⟨w.heap.size, 5, none⟩ = some (.bool t.done) := hx.cell 5
  have x6 : W2.cell? ⟨w.heap.size, 6, none⟩ = some (.bool t.canc) := hx.cell 6
  have y0 : W2.cell? ⟨w.heap.size + 1, 0, none⟩ = some (.int .i64 id') := hy.cell 0
  have y1 : W2.cell? ⟨w.heap.size + 1, 1, none⟩ = some (.string t'.q) := hy.cell 1
  have y2 : W2.cell? ⟨w.heap.size + 1, 2, none⟩ = some (.int .i64 t'.k) := hy.cell 2
  have y3 : W2.cell? ⟨w.heap.size + 1, 3, none⟩ = some (.int .i64 t'.n) := hy.cell 3
  have y4 : W2.cell? ⟨w.heap.size + 1, 4, none⟩ = some (.slice a' t'.items.length c') := hy.cell 4
  have y5 : W2.cell? ⟨w.heap.size + 1, 5, none⟩ = some (.bool t'.done) := hy.cell 5
  have y6 : W2.cell? ⟨w.heap.size + 1, 6, none⟩ = some (.bool t'.canc) := hy.cell 6
  rw [← hW] at hW2
  have HQ := fun V => eqQ_run t.q t.k t.n t'.q t'.k t'.n V
  have HD := fun V => boolEq_run t.done t'.done V
  have HE := fun V => boolEq_run t.canc t'.canc V
  clear hr hr' hb1 hb2 hbl hx hy hs1 hW
  obtain ⟨b1, h1⟩ : ∃ b, qEqv t.q t.k t.n t'.q t'.k t'.n = b := ⟨_, rfl⟩
  obtain ⟨b2, h2⟩ : ∃ b, (t.done == t'.done) = b := ⟨_, rfl⟩
  obtain ⟨b3, h3⟩ : ∃ b, (t.canc == t'.canc) = b := ⟨_, rfl⟩
  obtain ⟨b4, h4⟩ : ∃ b, eqIs t.items t'.items = b := ⟨_, rfl⟩
  obtain ⟨b0, h0⟩ : ∃ b, decide (id = id') = b := ⟨_, rfl⟩
  rw [h1, h2, h3, h4, h0] at hR
  rw [h1] at HQ
  rw [h2] at HD
  rw [h3] at HE
  rw [h4] at HSI
  have h0' : (id == id') = b0 := by rw [← h0]; rfl
  have HR := Lib.hid hR
  clear h1 h2 h3 h4 h0 hR
  go_enter Tryz.func31, Tryz.ntmps31
  cases b0
  case false =>
    go_wp2_with (rw [hW2])
    go_ret
    exact ⟨by rw [← HR.out]; rfl, HB.out⟩
  cases b1
  case false =>
    go_wp2_with (rw [hW2])
    go_ret
    exact ⟨by rw [← HR.out]; rfl, HB.out⟩
  cases b2
  case false =>
    go_wp2_with (rw [hW2])
    go_ret
    exact ⟨by rw [← HR.out]; rfl, HB.out⟩
  cases b3
  case false =>
    go_wp2_with (rw [hW2])
    go_ret
    exact ⟨by rw [← HR.out]; rfl, HB.out⟩
  go_wp2_with (rw [hW2])
  refine HSI.out.mono ?_
  rintro e w3 ⟨rfl, hd⟩
  have HB3 := Lib.hid (HB.out.trans ((hd.below _).mono HB.out.size))
  clear hd
  go_wp2_with fail
  go_ret
  exact ⟨by rw [← HR.out]; cases b4 <;> rfl, HB3.out⟩
set_option maxRecDepth 100000 in
theorem results_cell_tmp {fn : Func} {p t : Tmp} {ty : TypeId} (h : fn.results = #[.cell p ty, .tmp t]) (tmps : Array Value) (P : Program) (w : World) :
    (results fn tmps).run P w = ((asAddr (tmps.getD p undef)).run P w).andThen fun a w₁ => ((loadVar ty a).run P w₁).andThen fun v w₂ => .ok (.tuple #[v, tmps.getD t undef]) w₂ := by
  simp only [results, h]
  simp [Sem.run_bind, Result.andThen]
def zeroT : Value := .agg #[.int .i64 0, .string ⟨#[]⟩, .int .i64 0, .int .i64 0, .slice none 0 0, .bool false, .bool false]
set_option maxRecDepth 100000 in
theorem nTold (i : Int) (w : World) : Calls Tryz.prog 26 #[.pointer none, .int .i64 i] w fun e w' => e = .returned (.tuple #[zeroT, .bool false]) ∧ Below w.heap.size w w' := by
  have hq : ∀ W : World, (binOp .eql 29 (.pointer none) (.pointer none)).run Tryz.prog W = .ok (.bool true) W := fun W => by kernel_rfl
  go_enter Tryz.func26, Tryz.ntmps26
  go_wp2_with fail
  refine bodyPost_ret (v := .tuple #[zeroT, .bool false]) ?_ rfl ⟨rfl, (Below.refl _ w).alloc (Nat.le_refl _) _⟩
  rw [results_cell_tmp rfl]
  go_simp
  rfl
end
end Go.Proofs.YtinkbgeckjbnbaaGreat
namespace Go.Proofs.YtinkbgeckjbnbaaGreat
section
open Go.RowKit
set_option linter.unusedVariables false
set_option linter.unusedSimpArgs false

set_option maxRecDepth 100000 in
theorem eqTold0 : eqTold TS.zero TS.zero 0 0 = true := by kernel_rfl
set_option maxRecDepth 100000 in
set_option maxHeartbeats 8000000 in
theorem none24_law (d i j x : Int) (tx : ByteArray) (k n : Int) (s q h sq wk ep : Int) (a : Option Addr) (c : Nat) (l : List KeyL) (en : Bool) (w : World) (hr : RdE KeyL.cells 2 w a l.length c l) (hz : ∀ x ∈ l, x.2.size ≤ maxLen) :
    Calls Tryz.prog 5 #[.agg #[.int .i64 d, .int .i64 i, .int .i64 j, .int .i64 x, .string tx, .int .i64 k, .int .i64 n, .int .i64 s, .int .i64 q, .int .i64 h, .int .i64 sq, .int .i64 wk, .int .i64 ep, .slice a l.length c, .bool en]] w fun e w' => e = .returned (.bool true) ∧ Below w.heap.size w w' := by
  obtain ⟨W, hW⟩ : ∃ V, w.alloc (.cells #[.int .i64 d, .int .i64 i, .int .i64 j, .int .i64 x, .string tx, .int .i64 k, .int .i64 n, .int .i64 s, .int .i64 q, .int .i64 h, .int .i64 sq, .int .i64 wk, .int .i64 ep, .slice a l.length c, .bool en] 67) = V := ⟨_, rfl⟩
  have hbl : Below w.heap.size w W := by rw [← hW]; exact (Below.refl _ w).alloc (Nat.le_refl _) _
  have hx : Blk W w.heap.size 67 [.int .i64 d, .int .i64 i, .int .i64 j, .int .i64 x, .string tx, .int .i64 k, .int .i64 n, .int .i64 s, .int .i64 q, .int .i64 h, .int .i64 sq, .int .i64 wk, .int .i64 ep, .slice a l.length c, .bool en] := by rw [← hW]; exact heap_alloc_new w _
  have HX := Lib.hid hx
  have HB := Lib.hid hbl
  have hgi := greatI_any a l.length c l W (hr.below hbl rfl) hz
  have k0 : W.cell? ⟨w.heap.size, 0, none⟩ = some (.int .i64 d) := hx.cell 0
  have k1 : W.cell? ⟨w.heap.size, 1, none⟩ = some (.int .i64 i) := hx.cell 1
  have k2 : W.cell? ⟨w.heap.size, 2, none⟩ = some (.int .i64 j) := hx.cell 2
  have k3 : W.cell? ⟨w.heap.size, 3, none⟩ = some (.int .i64 x) := hx.cell 3
  have k4 : W.cell? ⟨w.heap.size, 4, none⟩ = some (.string tx) := hx.cell 4
  have k5 : W.cell? ⟨w.heap.size, 5, none⟩ = some (.int .i64 k) := hx.cell 5
  have k6 : W.cell? ⟨w.heap.size, 6, none⟩ = some (.int .i64 n) := hx.cell 6
  have k7 : W.cell? ⟨w.heap.size, 7, none⟩ = some (.int .i64 s) := hx.cell 7
  have k8 : W.cell? ⟨w.heap.size, 8, none⟩ = some (.int .i64 q) := hx.cell 8
  have k9 : W.cell? ⟨w.heap.size, 9, none⟩ = some (.int .i64 h) := hx.cell 9
  have k10 : W.cell? ⟨w.heap.size, 10, none⟩ = some (.int .i64 sq) := hx.cell 10
  have k11 : W.cell? ⟨w.heap.size, 11, none⟩ = some (.int .i64 wk) := hx.cell 11
  have k12 : W.cell? ⟨w.heap.size, 12, none⟩ = some (.int .i64 ep) := hx.cell 12
  have k13 : W.cell? ⟨w.heap.size, 13, none⟩ = some (.slice a l.length c) := hx.cell 13
  have k14 : W.cell? ⟨w.heap.size, 14, none⟩ = some (.bool en) := hx.cell 14
  obtain ⟨g, hg⟩ : ∃ g, greatI l = g := ⟨_, rfl⟩
  rw [hg] at hgi
  have HGI := Lib.hid hgi
  clear hr hz hbl hx hg hgi
  go_enter Tryz.func5, Tryz.ntmps5
  by_cases ht : (100 : Int) < (tx.size : Int)
  · go_wp2_with (rw [hW])
    refine (awake24_any _).mono ?_
    rintro e w1 ⟨rfl, hb⟩
    have HB1 := Lib.hid (HB.out.trans (hb.mono HB.out.size))
    clear hb
    go_wp2_with fail
    go_ret
    exact ⟨rfl, HB1.out⟩
  go_wp2_with (rw [hW])
  clear hW
  refine HGI.out.mono ?_
  clear HGI
  rintro e w' ⟨rfl, rfl⟩
  cases g
  rotate_left 1
  · go_wp2_with fail
    refine (awake24_any _).mono ?_
    rintro e w1 ⟨rfl, hb⟩
    have HB1 := Lib.hid (HB.out.trans (hb.mono HB.out.size))
    clear hb
    go_wp2_with fail
    go_ret
    exact ⟨rfl, HB1.out⟩
  go_wp2_with fail
  clear k0 k1 k2 k3 k4 k5 k6 k7 k8 k9 k10 k11 k12 k13 k14
  refine (nSubmit tx k n _).mono ?_
  rintro e v0 ⟨rfl, hb⟩
  have HB0 := Lib.hid (HB.out.trans (hb.mono HB.out.size))
  have HX0 := Lib.hid (HX.out.below hb HX.out.lt)
  have k0 : v0.cell? ⟨w.heap.size, 0, none⟩ = some (.int .i64 d) := HX0.out.cell 0
  have k1 : v0.cell? ⟨w.heap.size, 1, none⟩ = some (.int .i64 i) := HX0.out.cell 1
  have k2 : v0.cell? ⟨w.heap.size, 2, none⟩ = some (.int .i64 j) := HX0.out.cell 2
  have k3 : v0.cell? ⟨w.heap.size, 3, none⟩ = some (.int .i64 x) := HX0.out.cell 3
  have k4 : v0.cell? ⟨w.heap.size, 4, none⟩ = some (.string tx) := HX0.out.cell 4
  have k5 : v0.cell? ⟨w.heap.size, 5, none⟩ = some (.int .i64 k) := HX0.out.cell 5
  have k6 : v0.cell? ⟨w.heap.size, 6, none⟩ = some (.int .i64 n) := HX0.out.cell 6
  have k7 : v0.cell? ⟨w.heap.size, 7, none⟩ = some (.int .i64 s) := HX0.out.cell 7
  have k8 : v0.cell? ⟨w.heap.size, 8, none⟩ = some (.int .i64 q) := HX0.out.cell 8
  have k9 : v0.cell? ⟨w.heap.size, 9, none⟩ = some (.int .i64 h) := HX0.out.cell 9
  have k10 : v0.cell? ⟨w.heap.size, 10, none⟩ = some (.int .i64 sq) := HX0.out.cell 10
  have k11 : v0.cell? ⟨w.heap.size, 11, none⟩ = some (.int .i64 wk) := HX0.out.cell 11
  have k12 : v0.cell? ⟨w.heap.size, 12, none⟩ = some (.int .i64 ep) := HX0.out.cell 12
  have k13 : v0.cell? ⟨w.heap.size, 13, none⟩ = some (.slice a l.length c) := HX0.out.cell 13
  have k14 : v0.cell? ⟨w.heap.size, 14, none⟩ = some (.bool en) := HX0.out.cell 14
  clear hb
  go_wp2_with fail
  clear k0 k1 k2 k3 k4 k5 k6 k7 k8 k9 k10 k11 k12 k13 k14
  refine (nCancel i _).mono ?_
  rintro e v1 ⟨rfl, hb⟩
  have HB1 := Lib.hid (HB0.out.trans (hb.mono HB0.out.size))
  have HX1 := Lib.hid (HX0.out.below hb HX0.out.lt)
  have k0 : v1.cell? ⟨w.heap.size, 0, none⟩ = some (.int .i64 d) := HX1.out.cell 0
  have k1 : v1.cell? ⟨w.heap.size, 1, none⟩ = some (.int .i64 i) := HX1.out.cell 1
  have k2 : v1.cell? ⟨w.heap.size, 2, none⟩ = some (.int .i64 j) := HX1.out.cell 2
  have k3 : v1.cell? ⟨w.heap.size, 3, none⟩ = some (.int .i64 x) := HX1.out.cell 3
  have k4 : v1.cell? ⟨w.heap.size, 4, none⟩ = some (.string tx) := HX1.out.cell 4
  have k5 : v1.cell? ⟨w.heap.size, 5, none⟩ = some (.int .i64 k) := HX1.out.cell 5
  have k6 : v1.cell? ⟨w.heap.size, 6, none⟩ = some (.int .i64 n) := HX1.out.cell 6
  have k7 : v1.cell? ⟨w.heap.size, 7, none⟩ = some (.int .i64 s) := HX1.out.cell 7
  have k8 : v1.cell? ⟨w.heap.size, 8, none⟩ = some (.int .i64 q) := HX1.out.cell 8
  have k9 : v1.cell? ⟨w.heap.size, 9, none⟩ = some (.int .i64 h) := HX1.out.cell 9
  have k10 : v1.cell? ⟨w.heap.size, 10, none⟩ = some (.int .i64 sq) := HX1.out.cell 10
  have k11 : v1.cell? ⟨w.heap.size, 11, none⟩ = some (.int .i64 wk) := HX1.out.cell 11
  have k12 : v1.cell? ⟨w.heap.size, 12, none⟩ = some (.int .i64 ep) := HX1.out.cell 12
  have k13 : v1.cell? ⟨w.heap.size, 13, none⟩ = some (.slice a l.length c) := HX1.out.cell 13
  have k14 : v1.cell? ⟨w.heap.size, 14, none⟩ = some (.bool en) := HX1.out.cell 14
  clear hb
  go_wp2_with fail
  clear k0 k1 k2 k3 k4 k5 k6 k7 k8 k9 k10 k11 k12 k13 k14
  refine (nTold i _).mono ?_
  rintro e v2 ⟨rfl, hb⟩
  have HB2 := Lib.hid (HB1.out.trans (hb.mono HB1.out.size))
  have HX2 := Lib.hid (HX1.out.below hb HX1.out.lt)
  have k0 : v2.cell? ⟨w.heap.size, 0, none⟩ = some (.int .i64 d) := HX2.out.cell 0
  have k1 : v2.cell? ⟨w.heap.size, 1, none⟩ = some (.int .i64 i) := HX2.out.cell 1
  have k2 : v2.cell? ⟨w.heap.size, 2, none⟩ = some (.int .i64 j) := HX2.out.cell 2
  have k3 : v2.cell? ⟨w.heap.size, 3, none⟩ = some (.int .i64 x) := HX2.out.cell 3
  have k4 : v2.cell? ⟨w.heap.size, 4, none⟩ = some (.string tx) := HX2.out.cell 4
  have k5 : v2.cell? ⟨w.heap.size, 5, none⟩ = some (.int .i64 k) := HX2.out.cell 5
  have k6 : v2.cell? ⟨w.heap.size, 6, none⟩ = some (.int .i64 n) := HX2.out.cell 6
  have k7 : v2.cell? ⟨w.heap.size, 7, none⟩ = some (.int .i64 s) := HX2.out.cell 7
  have k8 : v2.cell? ⟨w.heap.size, 8, none⟩ = some (.int .i64 q) := HX2.out.cell 8
  have k9 : v2.cell? ⟨w.heap.size, 9, none⟩ = some (.int .i64 h) := HX2.out.cell 9
  have k10 : v2.cell? ⟨w.heap.size, 10, none⟩ = some (.int .i64 sq) := HX2.out.cell 10
  have k11 : v2.cell? ⟨w.heap.size, 11, none⟩ = some (.int .i64 wk) := HX2.out.cell 11
  have k12 : v2.cell? ⟨w.heap.size, 12, none⟩ = some (.int .i64 ep) := HX2.out.cell 12
  have k13 : v2.cell? ⟨w.heap.size, 13, none⟩ = some (.slice a l.length c) := HX2.out.cell 13
  have k14 : v2.cell? ⟨w.heap.size, 14, none⟩ = some (.bool en) := HX2.out.cell 14
  clear hb
  obtain ⟨WT, hWT⟩ : ∃ V, v2.alloc (.cells #[.int .i64 0, .string ⟨#[]⟩, .int .i64 0, .int .i64 0, .slice none 0 0, .bool false, .bool false] 58) = V := ⟨_, rfl⟩
  have hbT : Below v2.heap.size v2 WT := by rw [← hWT]; exact (Below.refl _ v2).alloc (Nat.le_refl _) _
  have HT := Lib.hid (show Blk WT v2.heap.size 58 [.int .i64 0, .string ⟨#[]⟩, .int .i64 0, .int .i64 0, .slice none 0 0, .bool false, .bool false] from by rw [← hWT]; exact heap_alloc_new _ _)
  have HXT := Lib.hid (HX2.out.below hbT HX2.out.lt)
  have HBT := Lib.hid (HB2.out.trans (hbT.mono HB2.out.size))
  have HWT := Lib.hid hWT
  clear hbT hWT
  unfold zeroT
  go_wp2_with fail
  rw [HWT.out]
  clear HWT k0 k1 k2 k3 k4 k5 k6 k7 k8 k9 k10 k11 k12 k13 k14
  refine (nTick _).mono ?_
  rintro e v3 ⟨rfl, hb⟩
  have HB3 := Lib.hid (HBT.out.trans (hb.mono HBT.out.size))
  have HX3 := Lib.hid (HXT.out.below hb HXT.out.lt)
  have HT3 := Lib.hid (HT.out.below hb HT.out.lt)
  have k0 : v3.cell? ⟨w.heap.size, 0, none⟩ = some (.int .i64 d) := HX3.out.cell 0
  have k1 : v3.cell? ⟨w.heap.size, 1, none⟩ = some (.int .i64 i) := HX3.out.cell 1
  have k2 : v3.cell? ⟨w.heap.size, 2, none⟩ = some (.int .i64 j) := HX3.out.cell 2
  have k3 : v3.cell? ⟨w.heap.size, 3, none⟩ = some (.int .i64 x) := HX3.out.cell 3
  have k4 : v3.cell? ⟨w.heap.size, 4, none⟩ = some (.string tx) := HX3.out.cell 4
  have k5 : v3.cell? ⟨w.heap.size, 5, none⟩ = some (.int .i64 k) := HX3.out.cell 5
  have k6 : v3.cell? ⟨w.heap.size, 6, none⟩ = some (.int .i64 n) := HX3.out.cell 6
  have k7 : v3.cell? ⟨w.heap.size, 7, none⟩ = some (.int .i64 s) := HX3.out.cell 7
  have k8 : v3.cell? ⟨w.heap.size, 8, none⟩ = some (.int .i64 q) := HX3.out.cell 8
  have k9 : v3.cell? ⟨w.heap.size, 9, none⟩ = some (.int .i64 h) := HX3.out.cell 9
  have k10 : v3.cell? ⟨w.heap.size, 10, none⟩ = some (.int .i64 sq) := HX3.out.cell 10
  have k11 : v3.cell? ⟨w.heap.size, 11, none⟩ = some (.int .i64 wk) := HX3.out.cell 11
  have k12 : v3.cell? ⟨w.heap.size, 12, none⟩ = some (.int .i64 ep) := HX3.out.cell 12
  have k13 : v3.cell? ⟨w.heap.size, 13, none⟩ = some (.slice a l.length c) := HX3.out.cell 13
  have k14 : v3.cell? ⟨w.heap.size, 14, none⟩ = some (.bool en) := HX3.out.cell 14
  have t0 : v3.cell? ⟨v2.heap.size, 0, none⟩ = some (.int .i64 0) := HT3.out.cell 0
  have t1 : v3.cell? ⟨v2.heap.size, 1, none⟩ = some (.string ⟨#[]⟩) := HT3.out.cell 1
  have t2 : v3.cell? ⟨v2.heap.size, 2, none⟩ = some (.int .i64 0) := HT3.out.cell 2
  have t3 : v3.cell? ⟨v2.heap.size, 3, none⟩ = some (.int .i64 0) := HT3.out.cell 3
  have t4 : v3.cell? ⟨v2.heap.size, 4, none⟩ = some (.slice none 0 0) := HT3.out.cell 4
  have t5 : v3.cell? ⟨v2.heap.size, 5, none⟩ = some (.bool false) := HT3.out.cell 5
  have t6 : v3.cell? ⟨v2.heap.size, 6, none⟩ = some (.bool false) := HT3.out.cell 6
  clear hb
  go_wp2_with fail
  clear k0 k1 k2 k3 k4 k5 k6 k7 k8 k9 k10 k11 k12 k13 k14 t0 t1 t2 t3 t4 t5 t6
  refine (sametold_any TS.zero TS.zero 0 0 none none 0 0 v3 ⟨rfl, Nat.le_refl _, Nat.zero_le _, fun _ => rfl, fun i x hx => absurd hx (by show ¬ ([] : List KeyL)[i]? = some x; simp)⟩ ⟨rfl, Nat.le_refl _, Nat.zero_le _, fun _ => rfl, fun i x hx => absurd hx (by show ¬ ([] : List KeyL)[i]? = some x; simp)⟩).mono ?_
  rw [eqTold0]
  rintro e v4 ⟨rfl, hb⟩
  have HB4 := Lib.hid (HB3.out.trans (hb.mono HB3.out.size))
  have HX4 := Lib.hid (HX3.out.below hb HX3.out.lt)
  have HT4 := Lib.hid (HT3.out.below hb HT3.out.lt)
  have k0 : v4.cell? ⟨w.heap.size, 0, none⟩ = some (.int .i64 d) := HX4.out.cell 0
  have k1 : v4.cell? ⟨w.heap.size, 1, none⟩ = some (.int .i64 i) := HX4.out.cell 1
  have k2 : v4.cell? ⟨w.heap.size, 2, none⟩ = some (.int .i64 j) := HX4.out.cell 2
  have k3 : v4.cell? ⟨w.heap.size, 3, none⟩ = some (.int .i64 x) := HX4.out.cell 3
  have k4 : v4.cell? ⟨w.heap.size, 4, none⟩ = some (.string tx) := HX4.out.cell 4
  have k5 : v4.cell? ⟨w.heap.size, 5, none⟩ = some (.int .i64 k) := HX4.out.cell 5
  have k6 : v4.cell? ⟨w.heap.size, 6, none⟩ = some (.int .i64 n) := HX4.out.cell 6
  have k7 : v4.cell? ⟨w.heap.size, 7, none⟩ = some (.int .i64 s) := HX4.out.cell 7
  have k8 : v4.cell? ⟨w.heap.size, 8, none⟩ = some (.int .i64 q) := HX4.out.cell 8
  have k9 : v4.cell? ⟨w.heap.size, 9, none⟩ = some (.int .i64 h) := HX4.out.cell 9
  have k10 : v4.cell? ⟨w.heap.size, 10, none⟩ = some (.int .i64 sq) := HX4.out.cell 10
  have k11 : v4.cell? ⟨w.heap.size, 11, none⟩ = some (.int .i64 wk) := HX4.out.cell 11
  have k12 : v4.cell? ⟨w.heap.size, 12, none⟩ = some (.int .i64 ep) := HX4.out.cell 12
  have k13 : v4.cell? ⟨w.heap.size, 13, none⟩ = some (.slice a l.length c) := HX4.out.cell 13
  have k14 : v4.cell? ⟨w.heap.size, 14, none⟩ = some (.bool en) := HX4.out.cell 14
  have t0 : v4.cell? ⟨v2.heap.size, 0, none⟩ = some (.int .i64 0) := HT4.out.cell 0
  have t1 : v4.cell? ⟨v2.heap.size, 1, none⟩ = some (.string ⟨#[]⟩) := HT4.out.cell 1
  have t2 : v4.cell? ⟨v2.heap.size, 2, none⟩ = some (.int .i64 0) := HT4.out.cell 2
  have t3 : v4.cell? ⟨v2.heap.size, 3, none⟩ = some (.int .i64 0) := HT4.out.cell 3
  have t4 : v4.cell? ⟨v2.heap.size, 4, none⟩ = some (.slice none 0 0) := HT4.out.cell 4
  have t5 : v4.cell? ⟨v2.heap.size, 5, none⟩ = some (.bool false) := HT4.out.cell 5
  have t6 : v4.cell? ⟨v2.heap.size, 6, none⟩ = some (.bool false) := HT4.out.cell 6
  clear hb
  go_wp2_with fail
  clear k0 k1 k2 k3 k4 k5 k6 k7 k8 k9 k10 k11 k12 k13 k14 t0 t1 t2 t3 t4 t5 t6
  refine (nNow _).mono ?_
  rintro e v5 ⟨rfl, hb⟩
  have HB5 := Lib.hid (HB4.out.trans (hb.mono HB4.out.size))
  have HX5 := Lib.hid (HX4.out.below hb HX4.out.lt)
  have HT5 := Lib.hid (HT4.out.below hb HT4.out.lt)
  have k0 : v5.cell? ⟨w.heap.size, 0, none⟩ = some (.int .i64 d) := HX5.out.cell 0
  have k1 : v5.cell? ⟨w.heap.size, 1, none⟩ = some (.int .i64 i) := HX5.out.cell 1
  have k2 : v5.cell? ⟨w.heap.size, 2, none⟩ = some (.int .i64 j) := HX5.out.cell 2
  have k3 : v5.cell? ⟨w.heap.size, 3, none⟩ = some (.int .i64 x) := HX5.out.cell 3
  have k4 : v5.cell? ⟨w.heap.size, 4, none⟩ = some (.string tx) := HX5.out.cell 4
  have k5 : v5.cell? ⟨w.heap.size, 5, none⟩ = some (.int .i64 k) := HX5.out.cell 5
  have k6 : v5.cell? ⟨w.heap.size, 6, none⟩ = some (.int .i64 n) := HX5.out.cell 6
  have k7 : v5.cell? ⟨w.heap.size, 7, none⟩ = some (.int .i64 s) := HX5.out.cell 7
  have k8 : v5.cell? ⟨w.heap.size, 8, none⟩ = some (.int .i64 q) := HX5.out.cell 8
  have k9 : v5.cell? ⟨w.heap.size, 9, none⟩ = some (.int .i64 h) := HX5.out.cell 9
  have k10 : v5.cell? ⟨w.heap.size, 10, none⟩ = some (.int .i64 sq) := HX5.out.cell 10
  have k11 : v5.cell? ⟨w.heap.size, 11, none⟩ = some (.int .i64 wk) := HX5.out.cell 11
  have k12 : v5.cell? ⟨w.heap.size, 12, none⟩ = some (.int .i64 ep) := HX5.out.cell 12
  have k13 : v5.cell? ⟨w.heap.size, 13, none⟩ = some (.slice a l.length c) := HX5.out.cell 13
  have k14 : v5.cell? ⟨w.heap.size, 14, none⟩ = some (.bool en) := HX5.out.cell 14
  have t0 : v5.cell? ⟨v2.heap.size, 0, none⟩ = some (.int .i64 0) := HT5.out.cell 0
  have t1 : v5.cell? ⟨v2.heap.size, 1, none⟩ = some (.string ⟨#[]⟩) := HT5.out.cell 1
  have t2 : v5.cell? ⟨v2.heap.size, 2, none⟩ = some (.int .i64 0) := HT5.out.cell 2
  have t3 : v5.cell? ⟨v2.heap.size, 3, none⟩ = some (.int .i64 0) := HT5.out.cell 3
  have t4 : v5.cell? ⟨v2.heap.size, 4, none⟩ = some (.slice none 0 0) := HT5.out.cell 4
  have t5 : v5.cell? ⟨v2.heap.size, 5, none⟩ = some (.bool false) := HT5.out.cell 5
  have t6 : v5.cell? ⟨v2.heap.size, 6, none⟩ = some (.bool false) := HT5.out.cell 6
  clear hb
  go_wp2_with fail
  clear k0 k1 k2 k3 k4 k5 k6 k7 k8 k9 k10 k11 k12 k13 k14 t0 t1 t2 t3 t4 t5 t6
  refine (nTake _ _).mono ?_
  rintro e v6 ⟨rfl, hb⟩
  have HB6 := Lib.hid (HB5.out.trans (hb.mono HB5.out.size))
  have HX6 := Lib.hid (HX5.out.below hb HX5.out.lt)
  have HT6 := Lib.hid (HT5.out.below hb HT5.out.lt)
  have k0 : v6.cell? ⟨w.heap.size, 0, none⟩ = some (.int .i64 d) := HX6.out.cell 0
  have k1 : v6.cell? ⟨w.heap.size, 1, none⟩ = some (.int .i64 i) := HX6.out.cell 1
  have k2 : v6.cell? ⟨w.heap.size, 2, none⟩ = some (.int .i64 j) := HX6.out.cell 2
  have k3 : v6.cell? ⟨w.heap.size, 3, none⟩ = some (.int .i64 x) := HX6.out.cell 3
  have k4 : v6.cell? ⟨w.heap.size, 4, none⟩ = some (.string tx) := HX6.out.cell 4
  have k5 : v6.cell? ⟨w.heap.size, 5, none⟩ = some (.int .i64 k) := HX6.out.cell 5
  have k6 : v6.cell? ⟨w.heap.size, 6, none⟩ = some (.int .i64 n) := HX6.out.cell 6
  have k7 : v6.cell? ⟨w.heap.size, 7, none⟩ = some (.int .i64 s) := HX6.out.cell 7
  have k8 : v6.cell? ⟨w.heap.size, 8, none⟩ = some (.int .i64 q) := HX6.out.cell 8
  have k9 : v6.cell? ⟨w.heap.size, 9, none⟩ = some (.int .i64 h) := HX6.out.cell 9
  have k10 : v6.cell? ⟨w.heap.size, 10, none⟩ = some (.int .i64 sq) := HX6.out.cell 10
  have k11 : v6.cell? ⟨w.heap.size, 11, none⟩ = some (.int .i64 wk) := HX6.out.cell 11
  have k12 : v6.cell? ⟨w.heap.size, 12, none⟩ = some (.int .i64 ep) := HX6.out.cell 12
  have k13 : v6.cell? ⟨w.heap.size, 13, none⟩ = some (.slice a l.length c) := HX6.out.cell 13
  have k14 : v6.cell? ⟨w.heap.size, 14, none⟩ = some (.bool en) := HX6.out.cell 14
  have t0 : v6.cell? ⟨v2.heap.size, 0, none⟩ = some (.int .i64 0) := HT6.out.cell 0
  have t1 : v6.cell? ⟨v2.heap.size, 1, none⟩ = some (.string ⟨#[]⟩) := HT6.out.cell 1
  have t2 : v6.cell? ⟨v2.heap.size, 2, none⟩ = some (.int .i64 0) := HT6.out.cell 2
  have t3 : v6.cell? ⟨v2.heap.size, 3, none⟩ = some (.int .i64 0) := HT6.out.cell 3
  have t4 : v6.cell? ⟨v2.heap.size, 4, none⟩ = some (.slice none 0 0) := HT6.out.cell 4
  have t5 : v6.cell? ⟨v2.heap.size, 5, none⟩ = some (.bool false) := HT6.out.cell 5
  have t6 : v6.cell? ⟨v2.heap.size, 6, none⟩ = some (.bool false) := HT6.out.cell 6
  clear hb
  go_wp2_with fail
  clear k0 k1 k2 k3 k4 k5 k6 k7 k8 k9 k10 k11 k12 k13 k14 t0 t1 t2 t3 t4 t5 t6
  refine (nWake x _).mono ?_
  rintro e v7 ⟨rfl, hb⟩
  have HB7 := Lib.hid (HB6.out.trans (hb.mono HB6.out.size))
  have HX7 := Lib.hid (HX6.out.below hb HX6.out.lt)
  have HT7 := Lib.hid (HT6.out.below hb HT6.out.lt)
  have k0 : v7.cell? ⟨w.heap.size, 0, none⟩ = some (.int .i64 d) := HX7.out.cell 0
  have k1 : v7.cell? ⟨w.heap.size, 1, none⟩ = some (.int .i64 i) := HX7.out.cell 1
  have k2 : v7.cell? ⟨w.heap.size, 2, none⟩ = some (.int .i64 j) := HX7.out.cell 2
  have k3 : v7.cell? ⟨w.heap.size, 3, none⟩ = some (.int .i64 x) := HX7.out.cell 3
  have k4 : v7.cell? ⟨w.heap.size, 4, none⟩ = some (.string tx) := HX7.out.cell 4
  have k5 : v7.cell? ⟨w.heap.size, 5, none⟩ = some (.int .i64 k) := HX7.out.cell 5
  have k6 : v7.cell? ⟨w.heap.size, 6, none⟩ = some (.int .i64 n) := HX7.out.cell 6
  have k7 : v7.cell? ⟨w.heap.size, 7, none⟩ = some (.int .i64 s) := HX7.out.cell 7
  have k8 : v7.cell? ⟨w.heap.size, 8, none⟩ = some (.int .i64 q) := HX7.out.cell 8
  have k9 : v7.cell? ⟨w.heap.size, 9, none⟩ = some (.int .i64 h) := HX7.out.cell 9
  have k10 : v7.cell? ⟨w.heap.size, 10, none⟩ = some (.int .i64 sq) := HX7.out.cell 10
  have k11 : v7.cell? ⟨w.heap.size, 11, none⟩ = some (.int .i64 wk) := HX7.out.cell 11
  have k12 : v7.cell? ⟨w.heap.size, 12, none⟩ = some (.int .i64 ep) := HX7.out.cell 12
  have k13 : v7.cell? ⟨w.heap.size, 13, none⟩ = some (.slice a l.length c) := HX7.out.cell 13
  have k14 : v7.cell? ⟨w.heap.size, 14, none⟩ = some (.bool en) := HX7.out.cell 14
  have t0 : v7.cell? ⟨v2.heap.size, 0, none⟩ = some (.int .i64 0) := HT7.out.cell 0
  have t1 : v7.cell? ⟨v2.heap.size, 1, none⟩ = some (.string ⟨#[]⟩) := HT7.out.cell 1
  have t2 : v7.cell? ⟨v2.heap.size, 2, none⟩ = some (.int .i64 0) := HT7.out.cell 2
  have t3 : v7.cell? ⟨v2.heap.size, 3, none⟩ = some (.int .i64 0) := HT7.out.cell 3
  have t4 : v7.cell? ⟨v2.heap.size, 4, none⟩ = some (.slice none 0 0) := HT7.out.cell 4
  have t5 : v7.cell? ⟨v2.heap.size, 5, none⟩ = some (.bool false) := HT7.out.cell 5
  have t6 : v7.cell? ⟨v2.heap.size, 6, none⟩ = some (.bool false) := HT7.out.cell 6
  clear hb
  go_wp2_with fail
  clear k0 k1 k2 k3 k4 k5 k6 k7 k8 k9 k10 k11 k12 k13 k14 t0 t1 t2 t3 t4 t5 t6
  refine (nAll _).mono ?_
  rintro e v8 ⟨rfl, hb⟩
  have HB8 := Lib.hid (HB7.out.trans (hb.mono HB7.out.size))
  have HX8 := Lib.hid (HX7.out.below hb HX7.out.lt)
  have HT8 := Lib.hid (HT7.out.below hb HT7.out.lt)
  have k0 : v8.cell? ⟨w.heap.size, 0, none⟩ = some (.int .i64 d) := HX8.out.cell 0
  have k1 : v8.cell? ⟨w.heap.size, 1, none⟩ = some (.int .i64 i) := HX8.out.cell 1
  have k2 : v8.cell? ⟨w.heap.size, 2, none⟩ = some (.int .i64 j) := HX8.out.cell 2
  have k3 : v8.cell? ⟨w.heap.size, 3, none⟩ = some (.int .i64 x) := HX8.out.cell 3
  have k4 : v8.cell? ⟨w.heap.size, 4, none⟩ = some (.string tx) := HX8.out.cell 4
  have k5 : v8.cell? ⟨w.heap.size, 5, none⟩ = some (.int .i64 k) := HX8.out.cell 5
  have k6 : v8.cell? ⟨w.heap.size, 6, none⟩ = some (.int .i64 n) := HX8.out.cell 6
  have k7 : v8.cell? ⟨w.heap.size, 7, none⟩ = some (.int .i64 s) := HX8.out.cell 7
  have k8 : v8.cell? ⟨w.heap.size, 8, none⟩ = some (.int .i64 q) := HX8.out.cell 8
  have k9 : v8.cell? ⟨w.heap.size, 9, none⟩ = some (.int .i64 h) := HX8.out.cell 9
  have k10 : v8.cell? ⟨w.heap.size, 10, none⟩ = some (.int .i64 sq) := HX8.out.cell 10
  have k11 : v8.cell? ⟨w.heap.size, 11, none⟩ = some (.int .i64 wk) := HX8.out.cell 11
  have k12 : v8.cell? ⟨w.heap.size, 12, none⟩ = some (.int .i64 ep) := HX8.out.cell 12
  have k13 : v8.cell? ⟨w.heap.size, 13, none⟩ = some (.slice a l.length c) := HX8.out.cell 13
  have k14 : v8.cell? ⟨w.heap.size, 14, none⟩ = some (.bool en) := HX8.out.cell 14
  have t0 : v8.cell? ⟨v2.heap.size, 0, none⟩ = some (.int .i64 0) := HT8.out.cell 0
  have t1 : v8.cell? ⟨v2.heap.size, 1, none⟩ = some (.string ⟨#[]⟩) := HT8.out.cell 1
  have t2 : v8.cell? ⟨v2.heap.size, 2, none⟩ = some (.int .i64 0) := HT8.out.cell 2
  have t3 : v8.cell? ⟨v2.heap.size, 3, none⟩ = some (.int .i64 0) := HT8.out.cell 3
  have t4 : v8.cell? ⟨v2.heap.size, 4, none⟩ = some (.slice none 0 0) := HT8.out.cell 4
  have t5 : v8.cell? ⟨v2.heap.size, 5, none⟩ = some (.bool false) := HT8.out.cell 5
  have t6 : v8.cell? ⟨v2.heap.size, 6, none⟩ = some (.bool false) := HT8.out.cell 6
  clear hb
  go_wp2_with fail
  clear k0 k1 k2 k3 k4 k5 k6 k7 k8 k9 k10 k11 k12 k13 k14 t0 t1 t2 t3 t4 t5 t6
  refine (nTimers _).mono ?_
  rintro e v9 ⟨rfl, hb⟩
  have HB9 := Lib.hid (HB8.out.trans (hb.mono HB8.out.size))
  have HX9 := Lib.hid (HX8.out.below hb HX8.out.lt)
  have HT9 := Lib.hid (HT8.out.below hb HT8.out.lt)
  have k0 : v9.cell? ⟨w.heap.size, 0, none⟩ = some (.int .i64 d) := HX9.out.cell 0
  have k1 : v9.cell? ⟨w.heap.size, 1, none⟩ = some (.int .i64 i) := HX9.out.cell 1
  have k2 : v9.cell? ⟨w.heap.size, 2, none⟩ = some (.int .i64 j) := HX9.out.cell 2
  have k3 : v9.cell? ⟨w.heap.size, 3, none⟩ = some (.int .i64 x) := HX9.out.cell 3
  have k4 : v9.cell? ⟨w.heap.size, 4, none⟩ = some (.string tx) := HX9.out.cell 4
  have k5 : v9.cell? ⟨w.heap.size, 5, none⟩ = some (.int .i64 k) := HX9.out.cell 5
  have k6 : v9.cell? ⟨w.heap.size, 6, none⟩ = some (.int .i64 n) := HX9.out.cell 6
  have k7 : v9.cell? ⟨w.heap.size, 7, none⟩ = some (.int .i64 s) := HX9.out.cell 7
  have k8 : v9.cell? ⟨w.heap.size, 8, none⟩ = some (.int .i64 q) := HX9.out.cell 8
  have k9 : v9.cell? ⟨w.heap.size, 9, none⟩ = some (.int .i64 h) := HX9.out.cell 9
  have k10 : v9.cell? ⟨w.heap.size, 10, none⟩ = some (.int .i64 sq) := HX9.out.cell 10
  have k11 : v9.cell? ⟨w.heap.size, 11, none⟩ = some (.int .i64 wk) := HX9.out.cell 11
  have k12 : v9.cell? ⟨w.heap.size, 12, none⟩ = some (.int .i64 ep) := HX9.out.cell 12
  have k13 : v9.cell? ⟨w.heap.size, 13, none⟩ = some (.slice a l.length c) := HX9.out.cell 13
  have k14 : v9.cell? ⟨w.heap.size, 14, none⟩ = some (.bool en) := HX9.out.cell 14
  have t0 : v9.cell? ⟨v2.heap.size, 0, none⟩ = some (.int .i64 0) := HT9.out.cell 0
  have t1 : v9.cell? ⟨v2.heap.size, 1, none⟩ = some (.string ⟨#[]⟩) := HT9.out.cell 1
  have t2 : v9.cell? ⟨v2.heap.size, 2, none⟩ = some (.int .i64 0) := HT9.out.cell 2
  have t3 : v9.cell? ⟨v2.heap.size, 3, none⟩ = some (.int .i64 0) := HT9.out.cell 3
  have t4 : v9.cell? ⟨v2.heap.size, 4, none⟩ = some (.slice none 0 0) := HT9.out.cell 4
  have t5 : v9.cell? ⟨v2.heap.size, 5, none⟩ = some (.bool false) := HT9.out.cell 5
  have t6 : v9.cell? ⟨v2.heap.size, 6, none⟩ = some (.bool false) := HT9.out.cell 6
  clear hb
  go_wp2_with fail
  clear k0 k1 k2 k3 k4 k5 k6 k7 k8 k9 k10 k11 k12 k13 k14 t0 t1 t2 t3 t4 t5 t6
  refine (nEpoch 1 _).mono ?_
  rintro e v10 ⟨rfl, hb⟩
  have HB10 := Lib.hid (HB9.out.trans (hb.mono HB9.out.size))
  have HX10 := Lib.hid (HX9.out.below hb HX9.out.lt)
  have HT10 := Lib.hid (HT9.out.below hb HT9.out.lt)
  have k0 : v10.cell? ⟨w.heap.size, 0, none⟩ = some (.int .i64 d) := HX10.out.cell 0
  have k1 : v10.cell? ⟨w.heap.size, 1, none⟩ = some (.int .i64 i) := HX10.out.cell 1
  have k2 : v10.cell? ⟨w.heap.size, 2, none⟩ = some (.int .i64 j) := HX10.out.cell 2
  have k3 : v10.cell? ⟨w.heap.size, 3, none⟩ = some (.int .i64 x) := HX10.out.cell 3
  have k4 : v10.cell? ⟨w.heap.size, 4, none⟩ = some (.string tx) := HX10.out.cell 4
  have k5 : v10.cell? ⟨w.heap.size, 5, none⟩ = some (.int .i64 k) := HX10.out.cell 5
  have k6 : v10.cell? ⟨w.heap.size, 6, none⟩ = some (.int .i64 n) := HX10.out.cell 6
  have k7 : v10.cell? ⟨w.heap.size, 7, none⟩ = some (.int .i64 s) := HX10.out.cell 7
  have k8 : v10.cell? ⟨w.heap.size, 8, none⟩ = some (.int .i64 q) := HX10.out.cell 8
  have k9 : v10.cell? ⟨w.heap.size, 9, none⟩ = some (.int .i64 h) := HX10.out.cell 9
  have k10 : v10.cell? ⟨w.heap.size, 10, none⟩ = some (.int .i64 sq) := HX10.out.cell 10
  have k11 : v10.cell? ⟨w.heap.size, 11, none⟩ = some (.int .i64 wk) := HX10.out.cell 11
  have k12 : v10.cell? ⟨w.heap.size, 12, none⟩ = some (.int .i64 ep) := HX10.out.cell 12
  have k13 : v10.cell? ⟨w.heap.size, 13, none⟩ = some (.slice a l.length c) := HX10.out.cell 13
  have k14 : v10.cell? ⟨w.heap.size, 14, none⟩ = some (.bool en) := HX10.out.cell 14
  have t0 : v10.cell? ⟨v2.heap.size, 0, none⟩ = some (.int .i64 0) := HT10.out.cell 0
  have t1 : v10.cell? ⟨v2.heap.size, 1, none⟩ = some (.string ⟨#[]⟩) := HT10.out.cell 1
  have t2 : v10.cell? ⟨v2.heap.size, 2, none⟩ = some (.int .i64 0) := HT10.out.cell 2
  have t3 : v10.cell? ⟨v2.heap.size, 3, none⟩ = some (.int .i64 0) := HT10.out.cell 3
  have t4 : v10.cell? ⟨v2.heap.size, 4, none⟩ = some (.slice none 0 0) := HT10.out.cell 4
  have t5 : v10.cell? ⟨v2.heap.size, 5, none⟩ = some (.bool false) := HT10.out.cell 5
  have t6 : v10.cell? ⟨v2.heap.size, 6, none⟩ = some (.bool false) := HT10.out.cell 6
  clear hb
  go_wp2_with fail
  clear k0 k1 k2 k3 k4 k5 k6 k7 k8 k9 k10 k11 k12 k13 k14 t0 t1 t2 t3 t4 t5 t6
  refine (awake24_any _).mono ?_
  rintro e v11 ⟨rfl, hb⟩
  have HB11 := Lib.hid (HB10.out.trans (hb.mono HB10.out.size))
  have HX11 := Lib.hid (HX10.out.below hb HX10.out.lt)
  have HT11 := Lib.hid (HT10.out.below hb HT10.out.lt)
  have k0 : v11.cell? ⟨w.heap.size, 0, none⟩ = some (.int .i64 d) := HX11.out.cell 0
  have k1 : v11.cell? ⟨w.heap.size, 1, none⟩ = some (.int .i64 i) := HX11.out.cell 1
  have k2 : v11.cell? ⟨w.heap.size, 2, none⟩ = some (.int .i64 j) := HX11.out.cell 2
  have k3 : v11.cell? ⟨w.heap.size, 3, none⟩ = some (.int .i64 x) := HX11.out.cell 3
  have k4 : v11.cell? ⟨w.heap.size, 4, none⟩ = some (.string tx) := HX11.out.cell 4
  have k5 : v11.cell? ⟨w.heap.size, 5, none⟩ = some (.int .i64 k) := HX11.out.cell 5
  have k6 : v11.cell? ⟨w.heap.size, 6, none⟩ = some (.int .i64 n) := HX11.out.cell 6
  have k7 : v11.cell? ⟨w.heap.size, 7, none⟩ = some (.int .i64 s) := HX11.out.cell 7
  have k8 : v11.cell? ⟨w.heap.size, 8, none⟩ = some (.int .i64 q) := HX11.out.cell 8
  have k9 : v11.cell? ⟨w.heap.size, 9, none⟩ = some (.int .i64 h) := HX11.out.cell 9
  have k10 : v11.cell? ⟨w.heap.size, 10, none⟩ = some (.int .i64 sq) := HX11.out.cell 10
  have k11 : v11.cell? ⟨w.heap.size, 11, none⟩ = some (.int .i64 wk) := HX11.out.cell 11
  have k12 : v11.cell? ⟨w.heap.size, 12, none⟩ = some (.int .i64 ep) := HX11.out.cell 12
  have k13 : v11.cell? ⟨w.heap.size, 13, none⟩ = some (.slice a l.length c) := HX11.out.cell 13
  have k14 : v11.cell? ⟨w.heap.size, 14, none⟩ = some (.bool en) := HX11.out.cell 14
  have t0 : v11.cell? ⟨v2.heap.size, 0, none⟩ = some (.int .i64 0) := HT11.out.cell 0
  have t1 : v11.cell? ⟨v2.heap.size, 1, none⟩ = some (.string ⟨#[]⟩) := HT11.out.cell 1
  have t2 : v11.cell? ⟨v2.heap.size, 2, none⟩ = some (.int .i64 0) := HT11.out.cell 2
  have t3 : v11.cell? ⟨v2.heap.size, 3, none⟩ = some (.int .i64 0) := HT11.out.cell 3
  have t4 : v11.cell? ⟨v2.heap.size, 4, none⟩ = some (.slice none 0 0) := HT11.out.cell 4
  have t5 : v11.cell? ⟨v2.heap.size, 5, none⟩ = some (.bool false) := HT11.out.cell 5
  have t6 : v11.cell? ⟨v2.heap.size, 6, none⟩ = some (.bool false) := HT11.out.cell 6
  clear hb
  go_wp2_with fail
  go_ret
  exact ⟨rfl, HB11.out⟩
end
end Go.Proofs.YtinkbgeckjbnbaaGreat
namespace Go.Proofs.YtinkbgeckjbnbaaGreat
section
open Go.RowKit Go.ChangeShapes Go.WideShapes Go.Deep Go.Joins
set_option linter.unusedVariables false
section
variable {H : Type} {enc : TypeId × Value → H} {w : World} {base : Nat} {spare : Nat → Bool} {held : Bool}
set_option maxRecDepth 100000 in
theorem open_items {d : DataW H} {p : List MemPlace} {a : Option Addr} {len cap : Nat}
    (h : DataW.Trod enc Tryz.prog w base spare held 56 (.slice a len cap) d p) : ∃ l : List KeyL, RdE KeyL.cells 2 w a len cap l ∧ ∀ x ∈ l, x.2.size ≤ maxLen := by
  refine open_rdE KeyL.cells ⟨(0, ⟨#[]⟩)⟩ Tryz.underlying56 Tryz.underlying46 (by kernel_rfl) (by kernel_rfl) (fun x => x.2.size ≤ maxLen) ?_ h (by decide)
  intro vs hv
  obtain ⟨n0, y0, h0⟩ := hv 0 _ rfl
  obtain ⟨n1, y1, h1⟩ := hv 1 _ rfl
  obtain ⟨b0, e0, _, g0⟩ := DataW.trod_int Tryz.underlying3 h0
  obtain ⟨b1, e1, _, g1⟩ := DataW.trod_string Tryz.underlying9 h1
  simp at e0 e1
  refine ⟨(b0, b1), g1, fun j hj => ?_⟩
  have hj4 : j < 2 := hj
  match j, hj4 with
  | 0, _ => simp [KeyL.cells, e0]
  | 1, _ => simp [KeyL.cells, e1]
end
end
end Go.Proofs.YtinkbgeckjbnbaaGreat
namespace Go.Proofs.YtinkbgeckjbnbaaGreat
section
open Go.RowKit Go.ChangeShapes Go.WideShapes Go.Deep Go.Joins
set_option linter.unusedVariables false
section
variable {H : Type} {enc : TypeId × Value → H} {w : World} {base : Nat} {spare : Nat → Bool} {held : Bool}
set_option maxRecDepth 100000 in
theorem arr15 {α : Type} {cs : Array α} (h : cs.size = 15) : ∃ c0 c1 c2 c3 c4 c5 c6 c7 c8 c9 c10 c11 c12 c13 c14, cs = #[c0, c1, c2, c3, c4, c5, c6, c7, c8, c9, c10, c11, c12, c13, c14] := by
  obtain ⟨l⟩ := cs
  match l, h with
  | [c0, c1, c2, c3, c4, c5, c6, c7, c8, c9, c10, c11, c12, c13, c14], _ => exact ⟨c0, c1, c2, c3, c4, c5, c6, c7, c8, c9, c10, c11, c12, c13, c14, rfl⟩
set_option maxRecDepth 100000 in
theorem slice_shapeA {t e : TypeId} {fuel : Nat} {v : Value} {x : DataW H × List MemPlace} (ht : Tryz.prog.underlying t = some (.slice e)) (h : DataW.trod enc Tryz.prog w base spare held fuel t [v] = some x) : ∃ (a : Option Addr) (len cap : Nat), v = .slice a len cap := by
  rcases DataW.trod_slice ht h with ⟨e1, _⟩ | ⟨a, len, cap, _, _, _, _, e1, _⟩
  · simp at e1; exact ⟨none, 0, 0, e1⟩
  · simp at e1; exact ⟨some a, len, cap, e1⟩
set_option maxRecDepth 100000 in
set_option maxHeartbeats 1000000 in
theorem open_act24 {b0 : Nat} {r : Reach} {v : Value} {dd : DataW H} {p : List MemPlace} (hv : Value.okWide Tryz.prog w r b0 67 v) (h : DataW.Trod enc Tryz.prog w base spare held 67 v dd p) :
    ∃ (d i j x : Int) (tx : ByteArray) (k n : Int) (s q h sq wk ep : Int) (a : Option Addr) (c : Nat) (l : List KeyL) (en : Bool), v = .agg #[.int .i64 d, .int .i64 i, .int .i64 j, .int .i64 x, .string tx, .int .i64 k, .int .i64 n, .int .i64 s, .int .i64 q, .int .i64 h, .int .i64 sq, .int .i64 wk, .int .i64 ep, .slice a l.length c, .bool en] ∧ (Lit.int .i64 i).wf = true ∧ (Lit.int .i64 j).wf = true ∧ (Lit.int .i64 s).wf = true ∧ tx.size ≤ maxLen ∧ RdE KeyL.cells 2 w a l.length c l ∧ ∀ x ∈ l, x.2.size ≤ maxLen := by
  obtain ⟨cs, rfl, hsz⟩ := okWide_struct Tryz.underlying67 hv
  rw [show Tryz.prog.cellsOf 67 = 15 by kernel_rfl] at hsz
  obtain ⟨c0, c1, c2, c3, c4, c5, c6, c7, c8, c9, c10, c11, c12, c13, c14, rfl⟩ := arr15 hsz
  obtain ⟨fuel, hf⟩ := h
  have z3 : Tryz.prog.cellsOf 3 = 1 := by kernel_rfl
  have z4 : Tryz.prog.cellsOf 4 = 1 := by kernel_rfl
  have z9 : Tryz.prog.cellsOf 9 = 1 := by kernel_rfl
  have z28 : Tryz.prog.cellsOf 56 = 1 := by kernel_rfl
  have z24 : Tryz.prog.cellsOf 40 = 3 := by kernel_rfl
  have z65 : Tryz.prog.cellsOf 65 = 8 := by kernel_rfl
  obtain ⟨xs, n0, _, _, hl, hlen, hff⟩ := DataW.trod_struct Tryz.underlying67 hf
  have hlen6 : xs.length = 6 := hlen
  match xs, hlen6 with
  | [x0, x1, x2, x3, x4, x5], _ =>
    have h0 := hff 0 _ rfl
    have h1 := hff 1 _ rfl
    have h2 := hff 2 _ rfl
    have h3 := hff 3 _ rfl
    have h4 := hff 4 _ rfl
    have h5 := hff 5 _ rfl
    simp only [List.getElem_toArray, List.getElem_cons_zero, List.getElem_cons_succ, List.getElem?_cons_zero, List.getElem?_cons_succ] at h0 h1 h2 h3 h4 h5
    rw [z3] at h0 h1 h2 h3
    rw [z24] at h4
    rw [z65] at h5
    simp [Value.cells] at h0 h1 h2 h3 h4 h5
    obtain ⟨d, e0, _, _⟩ := DataW.trod_int Tryz.underlying3 h0
    obtain ⟨i, e1, _, wi⟩ := DataW.trod_int Tryz.underlying3 h1
    obtain ⟨j, e2, _, wj⟩ := DataW.trod_int Tryz.underlying3 h2
    obtain ⟨x, e3, _, _⟩ := DataW.trod_int Tryz.underlying3 h3
    obtain ⟨ys, n1, _, _, _, hly, hgg⟩ := DataW.trod_struct Tryz.underlying40 h4
    obtain ⟨zs, n2, _, _, _, hlz, hkk⟩ := DataW.trod_struct Tryz.underlying65 h5
    have hly3 : ys.length = 3 := hly
    have hlz8 : zs.length = 8 := hlz
    match ys, hly3, zs, hlz8 with
    | [y0, y1, y2], _, [u0, u1, u2, u3, u4, u5, u6, u7], _ =>
      have g0 := hgg 0 _ rfl
      have g1 := hgg 1 _ rfl
      have g2 := hgg 2 _ rfl
      simp only [List.getElem_toArray, List.getElem_cons_zero, List.getElem_cons_succ, List.getElem?_cons_zero, List.getElem?_cons_succ] at g0 g1 g2
      rw [z9] at g0
      rw [z3] at g1 g2
      simp at g0 g1 g2
      obtain ⟨tx, e4, _, htx⟩ := DataW.trod_string Tryz.underlying9 g0
      obtain ⟨k, e5, _, _⟩ := DataW.trod_int Tryz.underlying3 g1
      obtain ⟨n, e6, _, _⟩ := DataW.trod_int Tryz.underlying3 g2
      have r0 := hkk 0 _ rfl
      have r1 := hkk 1 _ rfl
      have r2 := hkk 2 _ rfl
      have r3 := hkk 3 _ rfl
      have r4 := hkk 4 _ rfl
      have r5 := hkk 5 _ rfl
      have r6 := hkk 6 _ rfl
      have r7 := hkk 7 _ rfl
      simp only [List.getElem_toArray, List.getElem_cons_zero, List.getElem_cons_succ, List.getElem?_cons_zero, List.getElem?_cons_succ] at r0 r1 r2 r3 r4 r5 r6 r7
      rw [z3] at r0 r1 r2 r3 r4 r5
      rw [z28] at r6
      rw [z4] at r7
      simp at r0 r1 r2 r3 r4 r5 r6 r7
      obtain ⟨s, f0, _, ws⟩ := DataW.trod_int Tryz.underlying3 r0
      obtain ⟨q, f1, _, _⟩ := DataW.trod_int Tryz.underlying3 r1
      obtain ⟨hh, f2, _, _⟩ := DataW.trod_int Tryz.underlying3 r2
      obtain ⟨sq, f3, _, _⟩ := DataW.trod_int Tryz.underlying3 r3
      obtain ⟨wk, f4, _, _⟩ := DataW.trod_int Tryz.underlying3 r4
      obtain ⟨ep, f5, _, _⟩ := DataW.trod_int Tryz.underlying3 r5
      obtain ⟨a, len, cap, f6⟩ := slice_shapeA Tryz.underlying56 r6
      obtain ⟨en, f7, _⟩ := DataW.trod_bool Tryz.underlying4 r7
      simp at e0 e1 e2 e3 e4 e5 e6 f0 f1 f2 f3 f4 f5 f7
      subst e0 e1 e2 e3 e4 e5 e6 f0 f1 f2 f3 f4 f5 f6 f7
      obtain ⟨l, hl, hz⟩ := open_items (d := u6.1) (p := u6.2) ⟨n2, by simpa [Value.cells] using r6⟩
      obtain rfl := hl.1
      exact ⟨d, i, j, x, tx, k, n, s, q, hh, sq, wk, ep, a, cap, l, en, rfl, wi, wj, ws, htx, hl, hz⟩
end
end
end Go.Proofs.YtinkbgeckjbnbaaGreat
