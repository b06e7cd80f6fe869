/- Messages of moderate size: their frames' sizes; a message is the same as itself. -/
import Derived.Test.YtjhkdbcfkaaffaaMm17
namespace Go.Proofs.Ytjhkdbcfkaaffaa
open Go.RowKit
set_option linter.unusedVariables false

def MV.tiny : MV → Prop
  | .ask s q h sq ep tx k b f d wd => tx.size ≤ 100 ∧ wd.size ≤ 100
  | .reply s q h sq wk ep l en => ∀ x ∈ l, x.2.size ≤ 100
  | _ => True
set_option maxRecDepth 100000 in
theorem MV.tiny.short {m : MV} (h : m.tiny) : m.short := by
  cases m with
  | ask => exact ⟨by have := h.1; omega, by have := h.2; omega⟩
  | reply => exact fun x hx => by have := h x hx; omega
  | _ => trivial
set_option maxRecDepth 100000 in
theorem one_tiny {p : P5} {k : Int} (h : p.great = false) : (p.one k).tiny := by
  unfold P5.great at h
  simp only [Bool.or_eq_false_iff, decide_eq_false_iff_not, Nat.not_lt] at h
  obtain ⟨⟨h1, h2⟩, h3⟩ := h
  have h4 := (greatI_false h3).2
  unfold P5.one
  repeat' split
  all_goals first | trivial | exact ⟨h1, h2⟩ | exact h4
set_option maxRecDepth 100000 in
theorem flatI_len : ∀ (l : List KeyL), (∀ x ∈ l, x.2.size ≤ 65535) → (l.flatMap itmL).length = (l.map fun x => 3 + x.2.size).sum
  | [], _ => rfl
  | x :: l, h => by
    rw [List.flatMap_cons, List.length_append, flatI_len l (fun y hy => h y (by simp [hy])), List.map_cons, List.sum_cons]
    unfold itmL
    rw [List.length_append, b1_len, txtL_len _ (h x (by simp))]
    omega
set_option maxRecDepth 100000 in
theorem sum_le : ∀ (l : List KeyL) (b : Nat), (∀ x ∈ l, x.2.size ≤ b) → (l.map fun x => 3 + x.2.size).sum ≤ l.length * (3 + b)
  | [], _, _ => by simp
  | x :: l, b, h => by
    have := sum_le l b (fun y hy => h y (by simp [hy]))
    have h1 := h x (by simp)
    rw [List.map_cons, List.sum_cons, List.length_cons, Nat.succ_mul]
    omega
set_option maxRecDepth 100000 in
/-- a frame's size -/
theorem enc_ask_len (s q h sq ep : Int) (tx : ByteArray) (k b : Int) (f : Bool) (d : Int) (wd : ByteArray) (h1 : tx.size ≤ 65535) (h2 : wd.size ≤ 65535) : (encL (.ask s q h sq ep tx k b f d wd)).length = 35 + tx.size + wd.size := by
  rw [encL_len _ rfl]
  unfold coreL restL itmL
  simp only [List.length_append, headL_len, b4_len, b1_len, txtL_len _ h1, txtL_len _ h2]
  omega
set_option maxRecDepth 100000 in
theorem enc_reply_len (s q h sq wk ep : Int) (l : List KeyL) (en : Bool) (hx : ∀ x ∈ l, x.2.size ≤ 65535) : (encL (.reply s q h sq wk ep l en)).length = 33 + (l.map fun x => 3 + x.2.size).sum := by
  rw [encL_len _ rfl]
  unfold coreL restL
  simp only [List.length_append, headL_len, b4_len, b1_len, flatI_len l hx]
  omega
set_option maxRecDepth 100000 in
theorem enc_size {m : MV} (hm : m.may = true) (hz : m.tiny) : (encL m).length ≤ 1024 := by
  cases m with
  | hello => rw [encL_len _ rfl]; unfold coreL restL; simp only [List.length_append, headL_len, b4_len]; omega
  | grant => rw [encL_len _ rfl]; unfold coreL restL; simp only [List.length_append, headL_len, b4_len]; omega
  | stop => rw [encL_len _ rfl]; unfold coreL restL; simp only [List.length_append, headL_len, b4_len]; omega
  | ask => rw [enc_ask_len _ _ _ _ _ _ _ _ _ _ _ (by have := hz.1; omega) (by have := hz.2; omega)]; have := hz.1; have := hz.2; omega
  | reply s q h sq wk ep l en =>
    rw [enc_reply_len _ _ _ _ _ _ _ _ (fun x hx => by have := hz x hx; omega)]
    have h5 := (reply_in hm).2.2
    have := sum_le l 100 hz
    omega
  | other => simp [MV.may] at hm
  | nil => simp [MV.may] at hm
set_option maxRecDepth 100000 in
theorem same_refl {m : MV} (h : m.isMsg = true) : m.same m = true := by
  cases m <;> first | (simp [MV.same, eqIs]; done) | simp [MV.isMsg] at h
set_option maxRecDepth 100000 in
theorem same_eq {m m' : MV} (h : m.same m' = true) : m = m' := by
  cases m <;> cases m' <;> simp_all [MV.same, eqIs]
set_option maxRecDepth 100000 in
theorem enc_pos {m : MV} (h : m.isMsg = true) : 7 ≤ (encL m).length := by
  rw [encL_len _ h]; unfold coreL; rw [List.length_append, headL_len]; omega
end Go.Proofs.Ytjhkdbcfkaaffaa
