/- What was laid is read again (plain). -/
import Derived.Test.YtjhkdbcfkaaffaaMm12
namespace Go.Proofs.Ytjhkdbcfkaaffaa
open Go.RowKit
set_option linter.unusedVariables false

set_option maxRecDepth 100000 in
theorem num_be (k : Nat) : ∀ v, v < 256 ^ k → num (be v k) = v := by
  induction k with
  | zero => intro v h; simp at h; subst h; rfl
  | succ k ih =>
    intro v h
    unfold be
    rw [num_snoc, ih (v / 256) (by rw [Nat.pow_succ] at h; exact Nat.div_lt_of_lt_mul (by omega))]
    omega
set_option maxRecDepth 100000 in
theorem u64_of {v : Int} (h : 0 ≤ v) (h2 : v < 18446744073709551616) : ((u64 v : Nat) : Int) = v := by unfold u64; omega
set_option maxRecDepth 100000 in
theorem numS_at {l pre suf : List Nat} {v : Int} {k : Nat} {b : Bool} {p : Nat} (hl : l = pre ++ (be (u64 v) k ++ suf)) (hp : pre.length = p) (h0 : 0 ≤ v) (hv : v < ((256 ^ k : Nat) : Int)) (hk : k ≤ 4) :
    numS l k (p, b) = (v, (p + k, b)) := by
  subst hp
  have h3 := Nat.pow_le_pow_right (show 0 < 256 by decide) hk
  have hu := u64_of h0 (by omega)
  have hlen : l.length = pre.length + k + suf.length := by rw [hl, List.length_append, List.length_append, be_length]; omega
  unfold numS
  rw [if_pos (by show pre.length + k ≤ l.length; omega)]
  have e : numAt l pre.length k = u64 v := by
    unfold numAt
    rw [Int.toNat_natCast, Int.toNat_natCast, hl, List.drop_left, List.take_append_of_le_length (by rw [be_length]; exact Nat.le_refl _), List.take_of_length_le (by rw [be_length]; exact Nat.le_refl _)]
    exact num_be k _ (by omega)
  show (((numAt l pre.length k : Nat) : Int), (pre.length + k, b)) = (v, (pre.length + k, b))
  rw [e, hu]
/-- a text as it is laid -/
def txtL (s : ByteArray) : List Nat := be (u64 (cutN s : Nat)) 2 ++ (bytesN s).take (cutN s)
set_option maxRecDepth 100000 in
theorem textS_at {l pre suf : List Nat} {s : ByteArray} {b : Bool} {p : Nat} (hl : l = pre ++ (txtL s ++ suf)) (hp : pre.length = p) (hs : s.size ≤ 65535) (hb : ∀ x ∈ l, x < 256) :
    textS l (p, b) = (s, (p + 2 + s.size, b)) := by
  subst hp
  have hc : cutN s = s.size := by unfold cutN; omega
  have ht : (bytesN s).take s.size = bytesN s := List.take_of_length_le (by rw [bytesN_length]; exact Nat.le_refl _)
  unfold txtL at hl
  rw [hc, ht] at hl
  have hu := u64_of (v := (s.size : Nat)) (by omega) (by omega)
  have hn : numAt l pre.length 2 = s.size := by
    unfold numAt
    rw [Int.toNat_natCast, show Int.toNat 2 = 2 from rfl, hl, List.drop_left, List.append_assoc, List.take_append_of_le_length (by rw [be_length]; exact Nat.le_refl _), List.take_of_length_le (by rw [be_length]; exact Nat.le_refl _)]
    rw [num_be 2 _ (by omega)]
    omega
  have hlen : l.length = pre.length + 2 + s.size + suf.length := by rw [hl]; simp only [List.length_append, be_length, bytesN_length]; omega
  have hta : textAt l pre.length = bytesN s := by
    unfold textAt
    rw [hn, Int.toNat_natCast, hl, List.append_assoc, ← List.append_assoc pre, show pre.length + 2 = (pre ++ be (u64 (s.size : Nat)) 2).length from by rw [List.length_append, be_length], List.drop_left, List.take_append_of_le_length (by rw [bytesN_length]; exact Nat.le_refl _), List.take_of_length_le (by rw [bytesN_length]; exact Nat.le_refl _)]
  unfold textS
  have hok : textOk l pre.length = true := by
    unfold textOk numOk
    rw [hn]
    simp
    omega
  rw [if_pos hok]
  show (strN (textAt l pre.length), (pre.length + 2 + numAt l pre.length 2, b)) = _
  rw [hta, hn, strN_bytesN]
def b4 (v : Int) : List Nat := be (u64 v) 4
def b1 (v : Int) : List Nat := be (u64 v) 1
set_option maxRecDepth 100000 in
theorem b4_len (v : Int) : (b4 v).length = 4 := be_length _ _
set_option maxRecDepth 100000 in
theorem b1_len (v : Int) : (b1 v).length = 1 := be_length _ _
def itmL (x : KeyL) : List Nat := b1 x.1 ++ txtL x.2
/-- the fields of a message behind its head -/
def restL : MV → List Nat
  | .hello w0 l0 => b4 w0 ++ b4 l0
  | .grant w0 l0 e0 => b4 w0 ++ (b4 l0 ++ b4 e0)
  | .ask s q h sq ep tx k b f d wd => b4 s ++ (b4 q ++ (b4 h ++ (b4 sq ++ (b4 ep ++ (txtL tx ++ (b1 k ++ (b1 b ++ (b1 (flagN f) ++ itmL (d, wd)))))))))
  | .reply s q h sq wk ep l en => b4 s ++ (b4 q ++ (b4 h ++ (b4 sq ++ (b4 wk ++ (b4 ep ++ (b1 l.length ++ (l.flatMap itmL ++ b1 (flagN en))))))))
  | .stop s q => b4 s ++ b4 q
  | _ => []
set_option maxRecDepth 100000 in
theorem clamp4 : clampSize 4 = 4 := by decide
set_option maxRecDepth 100000 in
theorem clamp1 : clampSize 1 = 1 := by decide
set_option maxRecDepth 100000 in
theorem clamp2 : clampSize 2 = 2 := by decide
set_option maxRecDepth 100000 in
theorem putL4 (l : List Nat) (v : Int) : putL l v 4 = l ++ b4 v := by unfold putL b4; rw [clamp4]
set_option maxRecDepth 100000 in
theorem putL1 (l : List Nat) (v : Int) : putL l v 1 = l ++ b1 v := by unfold putL b1; rw [clamp1]
set_option maxRecDepth 100000 in
theorem putTextL_eq (l : List Nat) (s : ByteArray) : putTextL l s = l ++ txtL s := by unfold putTextL txtL putL; rw [clamp2, List.append_assoc]
set_option maxRecDepth 100000 in
theorem itemL_eq (l : List Nat) (x : KeyL) : itemL l x.1 x.2 = l ++ itmL x := by unfold itemL itmL; rw [putTextL_eq, putL1, List.append_assoc]
set_option maxRecDepth 100000 in
theorem itemsL_eq (xs : List KeyL) : ∀ l, itemsL l xs = l ++ xs.flatMap itmL := by
  induction xs with
  | nil => intro l; simp [itemsL]
  | cons x xs ih =>
    intro l
    show itemsL (itemL l x.1 x.2) xs = _
    rw [ih, itemL_eq, List.flatMap_cons, List.append_assoc]
/-- which messages are messages -/
def MV.isMsg : MV → Bool
  | .other _ _ => false
  | .nil => false
  | _ => true
set_option maxRecDepth 100000 in
theorem may_isMsg {m : MV} (h : m.may = true) : m.isMsg = true := by cases m <;> simp_all [MV.may, MV.isMsg]
set_option maxRecDepth 100000 in
theorem itemL_eq2 (l : List Nat) (d : Int) (s : ByteArray) : itemL l d s = l ++ itmL (d, s) := itemL_eq l (d, s)
set_option maxRecDepth 100000 in
theorem numsL_cons (l : List Nat) (v : Int) (vs : List Int) : numsL l (v :: vs) = numsL (l ++ b4 v) vs := by unfold numsL; rw [List.foldl_cons, putL4]
set_option maxRecDepth 100000 in
theorem numsL_nil (l : List Nat) : numsL l [] = l := rfl
set_option maxRecDepth 100000 in
theorem bodyL_eq (m : MV) (hm : m.isMsg = true) : bodyL m = [0, 0, m.kind.toNat] ++ restL m := by
  cases m with
  | hello w0 l0 => unfold bodyL restL; simp only [numsL_cons, numsL_nil, List.append_assoc]; rfl
  | grant w0 l0 e0 => unfold bodyL restL; simp only [numsL_cons, numsL_nil, List.append_assoc]; rfl
  | stop s q => unfold bodyL restL; simp only [numsL_cons, numsL_nil, List.append_assoc]; rfl
  | ask s q h sq ep tx k b f d wd => unfold bodyL restL; simp only [itemL_eq2, numsL_cons, numsL_nil, putL1, putTextL_eq, List.append_assoc]; rfl
  | reply s q h sq wk ep l en =>
    have e : ∀ r, l.foldl (fun r x => itemL r x.1 x.2) r = r ++ l.flatMap itmL := fun r => itemsL_eq l r
    unfold bodyL restL; simp only [e, numsL_cons, numsL_nil, putL1, List.append_assoc]; rfl
  | other t v => simp [MV.isMsg] at hm
  | nil => simp [MV.isMsg] at hm
/-- the head of a frame: its length and its kind -/
def headL (m : MV) : List Nat := be (u64 ((bodyL m).length + 4 : Int)) 2 ++ [m.kind.toNat]
def coreL (m : MV) : List Nat := headL m ++ restL m
set_option maxRecDepth 100000 in
theorem headL_len (m : MV) : (headL m).length = 3 := by unfold headL; rw [List.length_append, be_length]; rfl
set_option maxRecDepth 100000 in
theorem encL_eq (m : MV) (h : m.isMsg = true) : encL m = coreL m ++ b4 (addN 0 (coreL m)) := by
  have e : putL [] ((bodyL m).length + 4) 2 ++ (bodyL m).drop 2 = coreL m := by
    unfold coreL headL putL
    rw [clamp2, List.nil_append, List.append_assoc]
    congr 1
    rw [bodyL_eq m h]
    rfl
  unfold encL frameL
  rw [e, putL4]
set_option maxRecDepth 100000 in
theorem core_len (m : MV) (h : m.isMsg = true) : (coreL m).length = (bodyL m).length := by
  unfold coreL
  rw [List.length_append, headL_len, bodyL_eq m h]
  simp
  omega
set_option maxRecDepth 100000 in
theorem encL_len (m : MV) (h : m.isMsg = true) : (encL m).length = (coreL m).length + 4 := by rw [encL_eq m h, List.length_append, b4_len]
set_option maxRecDepth 100000 in
theorem rd4 {l pre suf : List Nat} {v : Int} {b : Bool} {p : Nat} (hl : l = pre ++ (b4 v ++ suf)) (hp : pre.length = p) (h0 : 0 ≤ v) (hv : v ≤ 2147483647) :
    numS l 4 (p, b) = (v, (p + 4, b)) ∧ l = (pre ++ b4 v) ++ suf ∧ (pre ++ b4 v).length = p + 4 :=
  ⟨numS_at hl hp h0 (by have : ((256 ^ 4 : Nat) : Int) = 4294967296 := by decide
                        omega) (by decide), by rw [hl, List.append_assoc], by rw [List.length_append, b4_len, hp]⟩
set_option maxRecDepth 100000 in
theorem rd1 {l pre suf : List Nat} {v : Int} {b : Bool} {p : Nat} (hl : l = pre ++ (b1 v ++ suf)) (hp : pre.length = p) (h0 : 0 ≤ v) (hv : v ≤ 255) :
    numS l 1 (p, b) = (v, (p + 1, b)) ∧ l = (pre ++ b1 v) ++ suf ∧ (pre ++ b1 v).length = p + 1 :=
  ⟨numS_at hl hp h0 (by have : ((256 ^ 1 : Nat) : Int) = 256 := by decide
                        omega) (by decide), by rw [hl, List.append_assoc], by rw [List.length_append, b1_len, hp]⟩
set_option maxRecDepth 100000 in
theorem txtL_len (s : ByteArray) (hs : s.size ≤ 65535) : (txtL s).length = 2 + s.size := by
  unfold txtL cutN
  rw [List.length_append, be_length, List.length_take, bytesN_length]; omega
set_option maxRecDepth 100000 in
theorem rdT {l pre suf : List Nat} {s : ByteArray} {b : Bool} {p : Nat} (hl : l = pre ++ (txtL s ++ suf)) (hp : pre.length = p) (hs : s.size ≤ 65535) (hb : ∀ x ∈ l, x < 256) :
    textS l (p, b) = (s, (p + 2 + s.size, b)) ∧ l = (pre ++ txtL s) ++ suf ∧ (pre ++ txtL s).length = p + 2 + s.size :=
  ⟨textS_at hl hp hs hb, by rw [hl, List.append_assoc], by rw [List.length_append, txtL_len s hs, hp]; omega⟩
set_option maxRecDepth 100000 in
theorem rdF {l pre suf : List Nat} {f : Bool} {b : Bool} {p : Nat} (hl : l = pre ++ (b1 (flagN f) ++ suf)) (hp : pre.length = p) :
    flagS l (p, b) = (f, (p + 1, b)) ∧ l = (pre ++ b1 (flagN f)) ++ suf ∧ (pre ++ b1 (flagN f)).length = p + 1 := by
  obtain ⟨h1, h2, h3⟩ := rd1 (b := b) hl hp (by cases f <;> decide) (by cases f <;> decide)
  refine ⟨?_, h2, h3⟩
  unfold flagS
  rw [h1]
  cases f <;> simp [flagN]
set_option maxRecDepth 100000 in
theorem rdI {l pre suf : List Nat} {x : KeyL} {b : Bool} {p : Nat} (hl : l = pre ++ (itmL x ++ suf)) (hp : pre.length = p) (h0 : 0 ≤ x.1) (hv : x.1 ≤ 255) (hs : x.2.size ≤ 65535) (hb : ∀ x ∈ l, x < 256) :
    itemS l (p, b) = (x, (p + 3 + x.2.size, b)) ∧ l = (pre ++ itmL x) ++ suf ∧ (pre ++ itmL x).length = p + 3 + x.2.size := by
  have hl1 : l = pre ++ (b1 x.1 ++ (txtL x.2 ++ suf)) := by rw [hl]; unfold itmL; simp only [List.append_assoc]
  obtain ⟨h1, h2, h3⟩ := rd1 (b := b) hl1 hp h0 hv
  obtain ⟨h4, h5, h6⟩ := rdT (b := b) h2 h3 hs hb
  refine ⟨?_, by rw [h5]; unfold itmL; simp only [List.append_assoc], by unfold itmL; rw [← List.append_assoc, h6]⟩
  unfold itemS
  rw [h1, h4]
set_option maxRecDepth 100000 in
theorem rdIs {l suf : List Nat} (hb : ∀ x ∈ l, x < 256) : ∀ (xs : List KeyL) {pre : List Nat} {p : Nat}, l = pre ++ (xs.flatMap itmL ++ suf) → pre.length = p → (∀ x ∈ xs, 0 ≤ x.1 ∧ x.1 ≤ 255 ∧ x.2.size ≤ 65535) →
    ∃ p', itemsS l xs.length (p, false) = (xs, (p', false)) ∧ l = (pre ++ xs.flatMap itmL) ++ suf ∧ (pre ++ xs.flatMap itmL).length = p' := by
  intro xs
  induction xs with
  | nil => intro pre p hl hp _; exact ⟨p, rfl, by simpa using hl, by simpa using hp⟩
  | cons x xs ih =>
    intro pre p hl hp hx
    obtain ⟨q0, q1, q2⟩ := hx x (by simp)
    have hl1 : l = pre ++ (itmL x ++ (xs.flatMap itmL ++ suf)) := by rw [hl, List.flatMap_cons, List.append_assoc]
    obtain ⟨h1, h2, h3⟩ := rdI (b := false) hl1 hp q0 q1 q2 hb
    obtain ⟨p', h4, h5, h6⟩ := ih h2 h3 (fun y hy => hx y (by simp [hy]))
    refine ⟨p', ?_, by rw [h5, List.flatMap_cons]; simp only [List.append_assoc], by rw [List.flatMap_cons, ← List.append_assoc]; exact h6⟩
    rw [List.length_cons, itemsS_next l xs.length (p, false) rfl, h1]
    show (x :: (itemsS l xs.length (p + 3 + x.2.size, false)).1, (itemsS l xs.length (p + 3 + x.2.size, false)).2) = _
    rw [h4]
set_option maxRecDepth 100000 in
theorem coreL_lt (m : MV) (h : m.isMsg = true) : ∀ x ∈ encL m, x < 256 := by
  have hbody : ∀ x ∈ bodyL m, x < 256 := by
    cases m with
    | hello => exact numsL_lt _ _ (by decide)
    | grant => exact numsL_lt _ _ (by decide)
    | stop => exact numsL_lt _ _ (by decide)
    | ask => exact itemL_lt _ _ _ (putL_lt _ _ _ (putL_lt _ _ _ (putL_lt _ _ _ (putTextL_lt _ _ (numsL_lt _ _ (by decide))))))
    | reply => exact putL_lt _ _ _ (itemsL_lt _ _ (putL_lt _ _ _ (numsL_lt _ _ (by decide))))
    | other => simp [MV.isMsg] at h
    | nil => simp [MV.isMsg] at h
  exact putL_lt _ _ _ (copied_lt hbody)
set_option maxRecDepth 100000 in
theorem read_back (m : MV) (hm : m.may = true) (hz : m.short) (hb : ∀ x ∈ coreL m, x < 256) : msgS (coreL m) m.kind (3, false) = (m, ((coreL m).length, false)) := by
  have hp := headL_len m
  cases m with
  | hello w0 l0 =>
    simp only [MV.may, Bool.and_eq_true] at hm
    have i1 := workerB_in hm.1
    have i2 := withinL_in hm.2 l0 (by simp)
    have hl : coreL (.hello w0 l0) = headL (.hello w0 l0) ++ (b4 w0 ++ (b4 l0 ++ [])) := by unfold coreL restL; simp
    obtain ⟨r1, hl, hp⟩ := rd4 (b := false) hl hp (by omega) (by omega)
    obtain ⟨r2, hl, hp⟩ := rd4 (b := false) hl hp (by omega) (by omega)
    have hlen : (coreL (.hello w0 l0)).length = 3 + 4 + 4 := by rw [hl, List.append_nil, hp]
    show helloS (coreL (.hello w0 l0)) (3, false) = _
    unfold helloS
    simp only [r1, r2, hlen]
  | grant w0 l0 e0 =>
    simp only [MV.may, Bool.and_eq_true] at hm
    have i1 := workerB_in hm.1
    have i2 := withinL_in hm.2 l0 (by simp)
    have i3 := withinL_in hm.2 e0 (by simp)
    have hl : coreL (.grant w0 l0 e0) = headL (.grant w0 l0 e0) ++ (b4 w0 ++ (b4 l0 ++ (b4 e0 ++ []))) := by unfold coreL restL; simp
    obtain ⟨r1, hl, hp⟩ := rd4 (b := false) hl hp (by omega) (by omega)
    obtain ⟨r2, hl, hp⟩ := rd4 (b := false) hl hp (by omega) (by omega)
    obtain ⟨r3, hl, hp⟩ := rd4 (b := false) hl hp (by omega) (by omega)
    have hlen : (coreL (.grant w0 l0 e0)).length = 3 + 4 + 4 + 4 := by rw [hl, List.append_nil, hp]
    show grantS (coreL (.grant w0 l0 e0)) (3, false) = _
    unfold grantS
    simp only [r1, r2, r3, hlen]
  | stop s q =>
    simp only [MV.may, Bool.and_eq_true] at hm
    have i1 := placeB_in hm.1
    have i2 := withinL_in hm.2 q (by simp)
    have hl : coreL (.stop s q) = headL (.stop s q) ++ (b4 s ++ (b4 q ++ [])) := by unfold coreL restL; simp
    obtain ⟨r1, hl, hp⟩ := rd4 (b := false) hl hp (by omega) (by omega)
    obtain ⟨r2, hl, hp⟩ := rd4 (b := false) hl hp (by omega) (by omega)
    have hlen : (coreL (.stop s q)).length = 3 + 4 + 4 := by rw [hl, List.append_nil, hp]
    show stopS (coreL (.stop s q)) (3, false) = _
    unfold stopS
    simp only [r1, r2, hlen]
  | ask s q h sq ep tx k b f d wd =>
    have hi := ask_in hm
    simp only [MV.may, askB, Bool.and_eq_true, decide_eq_true_eq] at hm
    obtain ⟨⟨⟨⟨⟨⟨⟨h1, h2⟩, h3⟩, h4⟩, h5⟩, h6⟩, h7⟩, h8⟩ := hm
    have p2 := placeB_in h2
    have q1 := withinL_in h3 q (by simp)
    have q2 := withinL_in h3 sq (by simp)
    have q3 := withinL_in h3 ep (by simp)
    have hz1 := hz.1
    have hz2 := hz.2
    obtain ⟨C, hC⟩ : ∃ C, coreL (.ask s q h sq ep tx k b f d wd) = C := ⟨_, rfl⟩
    have hl : C = headL (.ask s q h sq ep tx k b f d wd) ++ (b4 s ++ (b4 q ++ (b4 h ++ (b4 sq ++ (b4 ep ++ (txtL tx ++ (b1 k ++ (b1 b ++ (b1 (flagN f) ++ (itmL (d, wd) ++ [])))))))))) := by rw [← hC]; unfold coreL restL; rw [List.append_nil]
    rw [hC] at hb ⊢
    obtain ⟨r0, hl, hp⟩ := rd4 (b := false) hl hp (by omega) (by omega)
    obtain ⟨r1, hl, hp⟩ := rd4 (b := false) hl hp (by omega) (by omega)
    obtain ⟨r2, hl, hp⟩ := rd4 (b := false) hl hp (by omega) (by omega)
    obtain ⟨r3, hl, hp⟩ := rd4 (b := false) hl hp (by omega) (by omega)
    obtain ⟨r4, hl, hp⟩ := rd4 (b := false) hl hp (by omega) (by omega)
    obtain ⟨r5, hl, hp⟩ := rdT (b := false) hl hp (by omega) hb
    obtain ⟨r6, hl, hp⟩ := rd1 (b := false) hl hp (by omega) (by omega)
    obtain ⟨r7, hl, hp⟩ := rd1 (b := false) hl hp (by omega) (by omega)
    obtain ⟨r8, hl, hp⟩ := rdF (b := false) hl hp
    obtain ⟨r9, hl, hp⟩ := rdI (b := false) hl hp (show 0 ≤ ((d, wd) : KeyL).1 by show 0 ≤ d; omega) (show ((d, wd) : KeyL).1 ≤ 255 by show d ≤ 255; omega) (show ((d, wd) : KeyL).2.size ≤ 65535 by show wd.size ≤ 65535; omega) hb
    rw [List.append_nil] at hl
    have hlen := hp
    rw [← hl] at hlen
    show askS C (3, false) = _
    unfold askS
    simp only [r0, r1, r2, r3, r4, r5, r6, r7, r8, r9, hlen]
  | reply s q h sq wk ep l en =>
    have hi := reply_in hm
    simp only [MV.may, replyB, Bool.and_eq_true, decide_eq_true_eq] at hm
    obtain ⟨⟨⟨⟨h1, h2⟩, h3⟩, h4⟩, h5⟩ := hm
    have p2 := placeB_in h3
    have p3 := workerB_in h5
    have q1 := withinL_in h4 q (by simp)
    have q2 := withinL_in h4 sq (by simp)
    have q3 := withinL_in h4 ep (by simp)
    obtain ⟨C, hC⟩ : ∃ C, coreL (.reply s q h sq wk ep l en) = C := ⟨_, rfl⟩
    have hl : C = headL (.reply s q h sq wk ep l en) ++ (b4 s ++ (b4 q ++ (b4 h ++ (b4 sq ++ (b4 wk ++ (b4 ep ++ (b1 (l.length : Int) ++ (l.flatMap itmL ++ (b1 (flagN en) ++ []))))))))) := by rw [← hC]; unfold coreL restL; rw [List.append_nil]
    rw [hC] at hb ⊢
    obtain ⟨r0, hl, hp⟩ := rd4 (b := false) hl hp (by omega) (by omega)
    obtain ⟨r1, hl, hp⟩ := rd4 (b := false) hl hp (by omega) (by omega)
    obtain ⟨r2, hl, hp⟩ := rd4 (b := false) hl hp (by omega) (by omega)
    obtain ⟨r3, hl, hp⟩ := rd4 (b := false) hl hp (by omega) (by omega)
    obtain ⟨r4, hl, hp⟩ := rd4 (b := false) hl hp (by omega) (by omega)
    obtain ⟨r5, hl, hp⟩ := rd4 (b := false) hl hp (by omega) (by omega)
    obtain ⟨r6, hl, hp⟩ := rd1 (b := false) hl hp (by omega) (by omega)
    obtain ⟨p', r7, hl, hp⟩ := rdIs hb l hl hp (fun x hx => by have a1 := hi.2.1 x hx; have a2 := hz x hx; exact ⟨a1.1, by omega, by omega⟩)
    obtain ⟨r8, hl, hp⟩ := rdF (b := false) hl hp
    rw [List.append_nil] at hl
    have hlen := hp
    rw [← hl] at hlen
    show replyS C (3, false) = _
    unfold replyS
    simp only [r0, r1, r2, r3, r4, r5, r6, Int.toNat_natCast, r7, r8, hlen]
  | other t v => simp [MV.may] at hm
  | nil => simp [MV.may] at hm
set_option maxRecDepth 100000 in
theorem numAt_at {l pre suf : List Nat} {v : Int} {k : Nat} {p : Nat} (hl : l = pre ++ (be (u64 v) k ++ suf)) (hp : pre.length = p) (h0 : 0 ≤ v) (hv : v < ((256 ^ k : Nat) : Int)) (hk : k ≤ 4) : ((numAt l p k : Nat) : Int) = v := by
  have h := numS_at (b := false) hl hp h0 hv hk
  have hlen : l.length = p + k + suf.length := by rw [hl, List.length_append, List.length_append, be_length, hp]; omega
  unfold numS at h
  rw [if_pos (by show p + k ≤ l.length; omega)] at h
  exact congrArg Prod.fst h
set_option maxRecDepth 100000 in
theorem kind_toNat (m : MV) (h : m.isMsg = true) : ((m.kind.toNat : Nat) : Int) = m.kind := by cases m <;> first | rfl | simp [MV.isMsg] at h
set_option maxRecDepth 100000 in
theorem dec_back (m : MV) (hm : m.may = true) (hz : m.short) (hlen : (encL m).length ≤ 1024) : decL (encL m) = (m, 0) := by
  have hi := may_isMsg hm
  have he := encL_eq m hi
  have hn := encL_len m hi
  have hc := core_len m hi
  have hlt := coreL_lt m hi
  have h3 : 3 ≤ (coreL m).length := by unfold coreL; rw [List.length_append, headL_len]; omega
  have hbc : ∀ x ∈ coreL m, x < 256 := fun x hx => hlt x (by rw [he]; exact List.mem_append_left _ hx)
  have htk : (encL m).take ((encL m).length - 4) = coreL m := by
    rw [hn, show (coreL m).length + 4 - 4 = (coreL m).length from by omega, he, List.take_append_of_le_length (Nat.le_refl _), List.take_of_length_le (Nat.le_refl _)]
  have h7 : (encL m).length - 4 = (coreL m).length := by omega
  have hs := addN_lt 0 (coreL m) hbc
  have hv2 : ((bodyL m).length + 4 : Int) < ((256 ^ 2 : Nat) : Int) := by
    have : ((256 ^ 2 : Nat) : Int) = 65536 := by decide
    omega
  have hv4 : ((addN 0 (coreL m) : Nat) : Int) < ((256 ^ 4 : Nat) : Int) := by
    have : ((256 ^ 4 : Nat) : Int) = 4294967296 := by decide
    omega
  have ha := numAt_at (l := encL m) (pre := []) (suf := [m.kind.toNat] ++ (restL m ++ b4 (addN 0 (coreL m)))) (v := ((bodyL m).length + 4 : Int)) (k := 2) (p := 0) (by rw [he]; unfold coreL headL; simp only [List.nil_append, List.append_assoc]) rfl (by omega) hv2 (by decide)
  have hb := numAt_at (l := encL m) (pre := coreL m) (suf := []) (v := ((addN 0 (coreL m) : Nat) : Int)) (k := 4) (p := (coreL m).length) (by rw [he, List.append_nil]; rfl) rfl (by omega) hv4 (by decide)
  have ha' : numAt (encL m) 0 2 = (encL m).length := by
    have ha2 : ((numAt (encL m) 0 2 : Nat) : Int) = ((bodyL m).length + 4 : Int) := ha
    omega
  have hk : (encL m).getD 2 0 = m.kind.toNat := by
    have e : (encL m)[2]? = some m.kind.toNat := by
      rw [he]
      unfold coreL headL
      rw [List.append_assoc, List.append_assoc, List.getElem?_append_right (by rw [be_length]; exact Nat.le_refl _), be_length]
      rfl
    simp [List.getD, e]
  have hr := read_back m hm hz hbc
  unfold decL decOk
  rw [if_neg (by omega), if_neg (by omega), htk, hk, kind_toNat m hi, hr, show (((encL m).length : Int) - 4) = ((coreL m).length : Nat) from by omega]
  rw [if_neg (by
    have hb2 : ((numAt (encL m) ((coreL m).length : Nat) 4 : Nat) : Int) = ((addN 0 (coreL m) : Nat) : Int) := hb
    omega)]
  rw [if_pos (by simp [h7, hm])]
end Go.Proofs.Ytjhkdbcfkaaffaa
