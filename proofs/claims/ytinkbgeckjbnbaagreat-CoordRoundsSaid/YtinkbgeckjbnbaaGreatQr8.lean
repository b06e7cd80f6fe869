/- Lemmas for the law (part 8): CoD0, CoC -/
import Derived.Test.YtinkbgeckjbnbaaGreatQr7
namespace Go.Proofs.YtinkbgeckjbnbaaGreat
section
open Go.RowKit
set_option linter.unusedVariables false

/-- a query under way is in form -/
structure QOK (S : CS) (id ns : Nat) (b : Int) : Prop where
  slot : S.L[(S.Q id).slot]? = some id
  sh6 : (S.Q id).sh.length = 6
  len : (S.Q id).S.length = ns
  turn : ∀ h ∈ (S.Q id).sh, (0 ≤ h.turn ∧ h.turn ≤ b) ∧ 0 ≤ h.first ∧ h.first ≤ b
  seq : ∀ s ∈ (S.Q id).S, 0 ≤ s.seq ∧ s.seq ≤ b
  tn : ((S.Q id).T.length : Int) ≤ (S.Q id).n
  n : 1 ≤ (S.Q id).n ∧ (S.Q id).n ≤ 10
  k : 0 ≤ (S.Q id).k ∧ (S.Q id).k ≤ 4
  told : S.told[id - 1]? = some ⟨(S.Q id).q, (S.Q id).k, (S.Q id).n, (S.Q id).T, false, false⟩
structure CS.OK (S : CS) (ns : Nat) (b : Int) : Prop where
  t : S.t.ok
  now : 0 ≤ S.now ∧ S.now ≤ b
  sl : SlOK S.L S.told.length
  tl : (S.told.length : Int) ≤ b
  q : ∀ id ∈ S.L, id ≠ 0 → QOK S id ns b
set_option maxRecDepth 100000 in
theorem QOK.mono {S : CS} {id ns : Nat} {b b' : Int} (h : QOK S id ns b) (hb : b ≤ b') : QOK S id ns b' :=
  ⟨h.slot, h.sh6, h.len, fun x hx => by have := h.turn x hx; omega, fun s hs => by have := h.seq s hs; omega, h.tn, h.n, h.k, h.told⟩
set_option maxRecDepth 100000 in
theorem CS.OK.mono {S : CS} {ns : Nat} {b b' : Int} (h : S.OK ns b) (hb : b ≤ b') : S.OK ns b' :=
  ⟨h.t, ⟨h.now.1, Int.le_trans h.now.2 hb⟩, h.sl, Int.le_trans h.tl hb, fun id h1 h2 => (h.q id h1 h2).mono hb⟩
set_option maxRecDepth 100000 in
theorem QOK.slot4 {S : CS} {id ns : Nat} {b : Int} (h : QOK S id ns b) (ho : SlOK S.L S.told.length) : (S.Q id).slot ≤ 3 := by
  have := (List.getElem?_eq_some_iff.1 h.slot).1; have := ho.len; omega
set_option maxRecDepth 100000 in
theorem QOK.tof {S : CS} {id ns : Nat} {b : Int} (h : QOK S id ns b) : S.tof id = ⟨(S.Q id).q, (S.Q id).k, (S.Q id).n, (S.Q id).T, false, false⟩ := by
  unfold CS.tof; rw [List.getD_eq_getElem?_getD, h.told]; rfl
def CS.shOf (S : CS) (id s : Nat) : SH := (S.Q id).sh.getD s SH.zero
def CS.setH (S : CS) (id s : Nat) (h : SH) : CS := S.setQ id { S.Q id with sh := (S.Q id).sh.set s h }
def CS.tid (S : CS) (id s : Nat) : Int := 6 * ((S.Q id).slot : Int) + (s : Int)
/-- the next try's moment -/
def CS.wait (S : CS) (t draw : Int) : Int := min (S.now + waitC S.c t draw) 1099511627776
def CS.tset (S : CS) (id s : Nat) (t draw : Int) : CS := { S with tm := (setL 24 S.tm (S.tid id s) (S.wait t draw)).2 }
/-- a look at a shard that is wanted -/
def CS.look (S : CS) (id s : Nat) (draw : Int) : CS × List LV :=
  if (atL (S.tid id s) S.tm).2 = false then ((S.setH id s ⟨max (S.firstL s) 0, 0, S.now, false⟩).tset id s 0 draw, S.askL id s (max (S.firstL s) 0))
  else if (atL (S.tid id s) S.tm).1 ≤ S.now then ((S.setH id s { S.shOf id s with try_ := tryI (S.shOf id s).try_, turn := (S.shOf id s).turn + 1 }).tset id s (tryI (S.shOf id s).try_) draw, S.askL id s ((S.shOf id s).turn + 1))
  else if (S.shOf id s).hedged = false ∧ S.c.he ≤ S.now - (S.shOf id s).first then (S.setH id s { S.shOf id s with hedged := true }, S.askL id s ((S.shOf id s).turn + 1))
  else (S, [])
set_option maxRecDepth 100000 in
theorem setH_Q (S : CS) (id s : Nat) (y : SH) : (S.setH id s y).Q id = { S.Q id with sh := (S.Q id).sh.set s y } := by show (if id = id then _ else _) = _; rw [if_pos rfl]
set_option maxRecDepth 100000 in
theorem setH_Qne (S : CS) (id s : Nat) (y : SH) (j : Nat) (h : j ≠ id) : (S.setH id s y).Q j = S.Q j := by show (if j = id then _ else _) = _; rw [if_neg h]
/-- only shards' turns and timers are other ones -/
structure Lk (S S' : CS) : Prop where
  c : S'.c = S.c
  now : S'.now = S.now
  t : S'.t = S.t
  L : S'.L = S.L
  told : S'.told = S.told
  Q : ∀ i, ∃ sh, S'.Q i = { S.Q i with sh := sh }
set_option maxRecDepth 100000 in
theorem Lk.refl (S : CS) : Lk S S := ⟨rfl, rfl, rfl, rfl, rfl, fun i => ⟨(S.Q i).sh, rfl⟩⟩
set_option maxRecDepth 100000 in
theorem Lk.trans {S S' S'' : CS} (h : Lk S S') (k : Lk S' S'') : Lk S S'' :=
  ⟨k.c.trans h.c, k.now.trans h.now, k.t.trans h.t, k.L.trans h.L, k.told.trans h.told, fun i => by obtain ⟨x, hx⟩ := h.Q i; obtain ⟨y, hy⟩ := k.Q i; exact ⟨y, by rw [hy, hx]⟩⟩
set_option maxRecDepth 100000 in
theorem setH_lk (S : CS) (id s : Nat) (y : SH) : Lk S (S.setH id s y) :=
  ⟨rfl, rfl, rfl, rfl, rfl, fun i => by
    by_cases e : i = id
    · subst e; exact ⟨_, setH_Q S i s y⟩
    · exact ⟨(S.Q i).sh, setH_Qne S id s y i e⟩⟩
set_option maxRecDepth 100000 in
theorem tset_lk (S : CS) (id s : Nat) (t draw : Int) : Lk S (S.tset id s t draw) := ⟨rfl, rfl, rfl, rfl, rfl, fun i => ⟨(S.Q i).sh, rfl⟩⟩
set_option maxRecDepth 100000 in
theorem look_lk (S : CS) (id s : Nat) (draw : Int) : Lk S (S.look id s draw).1 := by
  unfold CS.look
  split
  · exact (setH_lk S id s _).trans (tset_lk _ id s _ draw)
  · split
    · exact (setH_lk S id s _).trans (tset_lk _ id s _ draw)
    · split
      · exact setH_lk S id s _
      · exact Lk.refl S
set_option maxRecDepth 100000 in
theorem askL_len (S : CS) (id s : Nat) (t : Int) : (S.askL id s t).length ≤ 1 := by unfold CS.askL; split <;> simp
set_option maxRecDepth 100000 in
theorem look_len (S : CS) (id s : Nat) (draw : Int) : (S.look id s draw).2.length ≤ 1 := by
  unfold CS.look
  split
  · exact askL_len _ _ _ _
  · split
    · exact askL_len _ _ _ _
    · split
      · exact askL_len _ _ _ _
      · exact Nat.zero_le _
set_option maxRecDepth 100000 in
theorem setH_ok {S : CS} {ns : Nat} {b : Int} (h : S.OK ns b) {id s : Nat} (y : SH) (hy : (0 ≤ y.turn ∧ y.turn ≤ b) ∧ 0 ≤ y.first ∧ y.first ≤ b) : (S.setH id s y).OK ns b := by
  refine ⟨h.t, h.now, h.sl, h.tl, fun j h1 h2 => ?_⟩
  have q := h.q j h1 h2
  by_cases e : j = id
  · subst e
    refine ⟨?_, ?_, ?_, ?_, ?_, ?_, ?_, ?_, ?_⟩ <;> rw [setH_Q]
    · exact q.slot
    · show ((S.Q j).sh.set s y).length = 6; rw [List.length_set]; exact q.sh6
    · exact q.len
    · intro x hx; rcases List.mem_or_eq_of_mem_set hx with hx | rfl
      · exact q.turn x hx
      · exact hy
    · exact q.seq
    · exact q.tn
    · exact q.n
    · exact q.k
    · exact q.told
  · refine ⟨?_, ?_, ?_, ?_, ?_, ?_, ?_, ?_, ?_⟩ <;> rw [setH_Qne S id s y j e]
    · exact q.slot
    · exact q.sh6
    · exact q.len
    · exact q.turn
    · exact q.seq
    · exact q.tn
    · exact q.n
    · exact q.k
    · exact q.told
set_option maxRecDepth 100000 in
theorem tset_ok {S : CS} {ns : Nat} {b : Int} (h : S.OK ns b) (id s : Nat) (t draw : Int) : (S.tset id s t draw).OK ns b :=
  ⟨h.t, h.now, h.sl, h.tl, fun j h1 h2 => by have q := h.q j h1 h2; exact ⟨q.slot, q.sh6, q.len, q.turn, q.seq, q.tn, q.n, q.k, q.told⟩⟩
set_option maxRecDepth 100000 in
theorem shOf_ok {S : CS} {ns : Nat} {b : Int} (h : S.OK ns b) {id : Nat} (hm : id ∈ S.L) (h0 : id ≠ 0) (hb : 0 ≤ b) (s : Nat) : (0 ≤ (S.shOf id s).turn ∧ (S.shOf id s).turn ≤ b) ∧ 0 ≤ (S.shOf id s).first ∧ (S.shOf id s).first ≤ b := by
  unfold CS.shOf
  rw [List.getD_eq_getElem?_getD]
  cases e : (S.Q id).sh[s]? with
  | none => exact ⟨⟨Int.le_refl _, hb⟩, Int.le_refl _, hb⟩
  | some x => exact (h.q id hm h0).turn x (List.mem_of_getElem? e)
set_option maxRecDepth 100000 in
theorem look_ok {S : CS} {ns : Nat} {b : Int} (h : S.OK ns b) {id : Nat} (hm : id ∈ S.L) (h0 : id ≠ 0) (s : Nat) (draw : Int) (hcp : S.c.cp ≤ 3) (hb : 3 ≤ b) : (S.look id s draw).1.OK ns (b + 1) := by
  have h' := h.mono (b' := b + 1) (by omega)
  have hs := shOf_ok h hm h0 (by omega) s
  have hn := h.now
  have hf := firstL_bd S s
  unfold CS.look
  split
  · refine tset_ok (setH_ok h' _ ⟨⟨?_, ?_⟩, ?_, ?_⟩) id s _ draw <;> simp only <;> omega
  · split
    · refine tset_ok (setH_ok h' _ ⟨⟨?_, ?_⟩, ?_, ?_⟩) id s _ draw <;> simp only <;> omega
    · split
      · exact setH_ok h' _ ⟨⟨hs.1.1, by have := hs.1.2; show (S.shOf id s).turn ≤ b + 1; omega⟩, hs.2.1, by have := hs.2.2; show (S.shOf id s).first ≤ b + 1; omega⟩
      · exact h'
/-- what a query wants -/
def CS.wl (S : CS) (id : Nat) : List Int := wantsP (S.Q id).n (S.Q id).S (S.Q id).T
set_option maxRecDepth 100000 in
theorem wantK_mem {S : List PS} {k : Nat} {x : Int} (h : x ∈ wantK S k) : ∃ i : Nat, x = (i : Int) ∧ i < k := by
  unfold wantK at h
  obtain ⟨i, h1, rfl⟩ := List.mem_map.1 h
  exact ⟨i, rfl, List.mem_range.1 (List.mem_filter.1 h1).1⟩
set_option maxRecDepth 100000 in
theorem snoc_ind {α : Type} {P : List α → Prop} (h0 : P []) (h1 : ∀ l x, P l → P (l ++ [x])) (l : List α) : P l := by
  have key : ∀ n (l : List α), l.length = n → P l := by
    intro n
    induction n with
    | zero => intro l hl; obtain rfl := List.eq_nil_of_length_eq_zero hl; exact h0
    | succ n ih =>
      intro l hl
      have hne : l ≠ [] := fun e => by subst e; simp at hl
      have e := List.dropLast_concat_getLast hne
      rw [← e]
      exact h1 _ _ (ih _ (by rw [List.length_dropLast]; omega))
  exact key _ l rfl
set_option maxRecDepth 100000 in
theorem wl_mem {S : CS} {id : Nat} {x : Int} (h : x ∈ S.wl id) : ∃ i : Nat, x = (i : Int) ∧ i < (S.Q id).S.length := by
  unfold CS.wl wantsP at h
  split at h
  · cases h
  · exact wantK_mem h
set_option maxRecDepth 100000 in
theorem wl_len (S : CS) (id : Nat) : (S.wl id).length ≤ (S.Q id).S.length := by
  unfold CS.wl wantsP
  split
  · exact Nat.zero_le _
  · exact wantK_len _ _
def CS.lookA (id : Nat) (draw : Int) (x : CS × List LV) (s : Int) : CS × List LV := ((x.1.look id s.toNat draw).1, x.2 ++ (x.1.look id s.toNat draw).2)
/-- looks at some shards, one behind the other -/
def CS.lookN (S : CS) (id : Nat) (draw : Int) (l : List Int) : CS × List LV := l.foldl (CS.lookA id draw) (S, [])
set_option maxRecDepth 100000 in
theorem lookN_snoc (S : CS) (id : Nat) (draw : Int) (l : List Int) (s : Int) : S.lookN id draw (l ++ [s]) = CS.lookA id draw (S.lookN id draw l) s := by unfold CS.lookN; rw [List.foldl_append]; rfl
set_option maxRecDepth 100000 in
theorem lookN_lk (S : CS) (id : Nat) (draw : Int) (l : List Int) : Lk S (S.lookN id draw l).1 := by
  refine snoc_ind (P := fun l => Lk S (S.lookN id draw l).1) ?_ (fun l s ih => ?_) l
  · exact Lk.refl S
  · rw [lookN_snoc]; exact ih.trans (look_lk _ id _ draw)
set_option maxRecDepth 100000 in
theorem lookN_len (S : CS) (id : Nat) (draw : Int) (l : List Int) : (S.lookN id draw l).2.length ≤ l.length := by
  refine snoc_ind (P := fun l => (S.lookN id draw l).2.length ≤ l.length) ?_ (fun l s ih => ?_) l
  · exact Nat.le_refl _
  · rw [lookN_snoc]
    unfold CS.lookA
    have := look_len (S.lookN id draw l).1 id s.toNat draw
    simp only [List.length_append, List.length_cons, List.length_nil]
    omega
set_option maxRecDepth 100000 in
theorem lookN_ok {S : CS} {ns : Nat} {b : Int} (h : S.OK ns b) {id : Nat} (hm : id ∈ S.L) (h0 : id ≠ 0) (draw : Int) (hcp : S.c.cp ≤ 3) (hb : 3 ≤ b) (l : List Int) : (S.lookN id draw l).1.OK ns (b + l.length) := by
  refine snoc_ind (P := fun l => (S.lookN id draw l).1.OK ns (b + l.length)) ?_ (fun l s ih => ?_) l
  · exact h.mono (by simp)
  · rw [lookN_snoc]
    have hl := lookN_lk S id draw l
    have := look_ok ih (by rw [hl.L]; exact hm) h0 s.toNat draw (by rw [hl.c]; exact hcp) (by omega)
    exact this.mono (by simp only [List.length_append, List.length_cons, List.length_nil]; omega)
/-- a slot is woken -/
def CS.wakeA (draw : Int) (x : CS × List LV) (slot : Nat) : CS × List LV :=
  if x.1.L.getD slot 0 = 0 then x else ((x.1.lookN (x.1.L.getD slot 0) draw (x.1.wl (x.1.L.getD slot 0))).1, x.2 ++ (x.1.lookN (x.1.L.getD slot 0) draw (x.1.wl (x.1.L.getD slot 0))).2)
def CS.wakeN (S : CS) (draw : Int) (k : Nat) : CS × List LV := (List.range k).foldl (CS.wakeA draw) (S, [])
def CS.wake (S : CS) (draw : Int) : CS × List LV := S.wakeN draw S.c.sl.toNat
set_option maxRecDepth 100000 in
theorem wakeN_succ (S : CS) (draw : Int) (k : Nat) : S.wakeN draw (k + 1) = CS.wakeA draw (S.wakeN draw k) k := by unfold CS.wakeN; rw [List.range_succ, List.foldl_append]; rfl
set_option maxRecDepth 100000 in
theorem wakeN_lk (S : CS) (draw : Int) (k : Nat) : Lk S (S.wakeN draw k).1 := by
  induction k with
  | zero => exact Lk.refl S
  | succ k ih =>
    rw [wakeN_succ]
    unfold CS.wakeA
    split
    · exact ih
    · exact ih.trans (lookN_lk _ _ draw _)
set_option maxRecDepth 100000 in
theorem getD_ne {L : List Nat} {k : Nat} (h : ¬ L.getD k 0 = 0) : L[k]? = some (L.getD k 0) := by
  rw [List.getD_eq_getElem?_getD] at h ⊢
  cases e : L[k]? with
  | none => rw [e] at h; exact absurd rfl h
  | some x => rfl
set_option maxRecDepth 100000 in
theorem wakeN_ok {S : CS} {ns : Nat} {b : Int} (h : S.OK ns b) (draw : Int) (hcp : S.c.cp ≤ 3) (hb : 3 ≤ b) (hns : ns ≤ 6) (k : Nat) : (S.wakeN draw k).1.OK ns (b + 6 * k) ∧ (S.wakeN draw k).2.length ≤ 6 * k := by
  induction k with
  | zero => exact ⟨h.mono (by simp), Nat.le_refl _⟩
  | succ k ih =>
    rw [wakeN_succ]
    unfold CS.wakeA
    split
    · exact ⟨ih.1.mono (by omega), by have := ih.2; omega⟩
    · rename_i hne
      have hl := wakeN_lk S draw k
      have hm := List.mem_of_getElem? (getD_ne hne)
      have q := ih.1.q _ hm hne
      have hw := wl_len (S.wakeN draw k).1 ((S.wakeN draw k).1.L.getD k 0)
      rw [q.len] at hw
      have h1 := lookN_ok ih.1 hm hne draw (by rw [hl.c]; exact hcp) (by omega) ((S.wakeN draw k).1.wl ((S.wakeN draw k).1.L.getD k 0))
      have h2 := lookN_len (S.wakeN draw k).1 ((S.wakeN draw k).1.L.getD k 0) draw ((S.wakeN draw k).1.wl ((S.wakeN draw k).1.L.getD k 0))
      refine ⟨h1.mono (by omega), ?_⟩
      have := ih.2
      rw [List.length_append]
      omega
end
end Go.Proofs.YtinkbgeckjbnbaaGreat
namespace Go.Proofs.YtinkbgeckjbnbaaGreat
section
open Go.RowKit
set_option linter.unusedVariables false

set_option maxRecDepth 100000 in
theorem qs_set {y : QS} {id m s j : Nat} {h h' : SH} {v : Value} (hs : y.sh[s]? = some h) (hj : j < 4) (hh : h'.cells = h.cells.set j v) : (y.cells id m).set (6 + s * 4 + j) v = QS.cells { y with sh := y.sh.set s h' } id m := by
  unfold QS.cells
  rw [List.set_append_right _ _ (by simp; omega)]
  congr 1
  rw [show 6 + s * 4 + j - [Value.int .i64 (id : Nat), .int .i64 (y.slot : Nat), .string y.q, .int .i64 y.k, .int .i64 y.n, .pointer (some ⟨m, 0, none⟩)].length = s * 4 + j from by simp; omega]
  exact flatMap_set SH.cells 4 (fun _ => rfl) y.sh s j v h h' hs hj hh
set_option maxRecDepth 100000 in
theorem qs_get {y : QS} {id m s j : Nat} {h : SH} (hs : y.sh[s]? = some h) (hj : j < 4) : (y.cells id m)[6 + s * 4 + j]? = h.cells[j]? := by
  unfold QS.cells
  rw [List.getElem?_append_right (by simp; omega), show 6 + s * 4 + j - [Value.int .i64 (id : Nat), .int .i64 (y.slot : Nat), .string y.q, .int .i64 y.k, .int .i64 y.n, .pointer (some ⟨m, 0, none⟩)].length = s * 4 + j from by simp; omega, flatMap_get SH.cells 4 (fun _ => rfl) _ _ _ hj, hs]
  rfl
set_option maxRecDepth 100000 in
theorem cw_at {w : World} {O : Own} {A : CA} {p : Nat} {S : CS} (h : CW w O A p S) (id : Int) : Calls Tryz.prog 116 #[.pointer (some ⟨A.ti, 0, none⟩), .int .i64 id] w fun e w' => e = .returned (.tuple #[.int .i64 (atL id S.tm).1, .bool (atL id S.tm).2]) ∧ Below w.heap.size w w' := by
  obtain ⟨go, h1, h2, h3⟩ := CWx.ti h (fun q => q)
  exact t_at A.ti id w go 24 S.tm h1
set_option maxRecDepth 100000 in
theorem cw_set {w : World} {O : Own} {A : CA} {p : Nat} {S : CS} (h : CW w O A p S) (id at_ : Int) :
    Calls Tryz.prog 122 #[.pointer (some ⟨A.ti, 0, none⟩), .int .i64 id, .int .i64 at_] w fun e w' => ∃ O', e = .returned (.int .i64 (setL 24 S.tm id at_).1) ∧ CW w' O' A p { S with tm := (setL 24 S.tm id at_).2 } ∧ AgO w.heap.size O O' ∧ COut O w w' := by
  obtain ⟨go, h1, h2, h3⟩ := CWx.ti h (fun q => q)
  refine (t_set A.ti id at_ w go 24 S.tm h1).mono ?_
  rintro e w' ⟨go', rfl, hT, hf, hg⟩
  have hO : OFrm O (ct 4) w w' := OFrm.of hf (fun b hb _ => by rcases hb with rfl | hb; exact h2; exact h3 b hb)
  have ha : AgO w.heap.size O (O.upd w.heap.size (ct 4)) := AgO.upd _ _ _
  refine ⟨O.upd w.heap.size (ct 4), rfl, CW.with_ti (CW.only h 4 hO ha) _ ⟨go', hT, (ha A.ti h1.lt.1).trans h2, fun k hk => ?_⟩, ha, COut.of hO⟩
  rcases hg with e | ⟨g, e, hge⟩
  · rw [e] at hk; exact (ha k (h1.lt.2 k hk)).trans (h3 k hk)
  · rw [e] at hk; cases hk; exact Own.upd_ge hge
set_option maxRecDepth 100000 in
/-- a cell of a query's shard is another one -/
theorem CW.with_sh {w : World} {O : Own} {A : CA} {p : Nat} {S : CS} (h : CW w O A p S) {id s j : Nat} {y y' : SH} {v : Value} (hm : id ∈ S.L) (h0 : id ≠ 0) (hs : (S.Q id).sh[s]? = some y) (hj : j < 4) (hh : y'.cells = y.cells.set j v) :
    CW (w.setCell ⟨A.q id, 6 + s * 4 + j, none⟩ v) O A p (S.setH id s y') ∧ COut O w (w.setCell ⟨A.q id, 6 + s * 4 + j, none⟩ v) := by
  have hq := CWx.qb h id hm h0 (fun q => q)
  have hf : Frm (fun b => b = A.q id) w (w.setCell ⟨A.q id, 6 + s * 4 + j, none⟩ v) := (Frm.refl _ w).setCell ⟨A.q id, 6 + s * 4 + j, none⟩ v (.inl rfl)
  have hO : OFrm O (ct (7 + 3 * id)) w (w.setCell ⟨A.q id, 6 + s * 4 + j, none⟩ v) := OFrm.of hf (fun b e _ => by subst e; exact hq.2)
  refine ⟨CW.with_qb (CW.only h (7 + 3 * id) hO (AgO.refl _ _)) _ ⟨?_, hq.2⟩, COut.of hO⟩
  rw [← qs_set hs hj hh]
  exact hq.1.set _ _
set_option maxRecDepth 100000 in
theorem setH_setH (S : CS) (id s : Nat) (y y' : SH) : (S.setH id s y).setH id s y' = S.setH id s y' := by
  unfold CS.setH CS.setQ
  simp only [if_pos]
  congr 1
  funext j
  split
  · rw [List.set_set]
  · rfl
set_option maxRecDepth 100000 in
theorem setH_get {S : CS} {id s : Nat} {y : SH} (y' : SH) (hs : (S.Q id).sh[s]? = some y) : ((S.setH id s y').Q id).sh[s]? = some y' := by
  rw [setH_Q]; exact List.getElem?_set_self (List.getElem?_eq_some_iff.1 hs).1
set_option maxRecDepth 100000 in
theorem CW.with_sh4 {w : World} {O : Own} {A : CA} {p : Nat} {S : CS} (h : CW w O A p S) {id s : Nat} {y : SH} (hm : id ∈ S.L) (h0 : id ≠ 0) (hs : (S.Q id).sh[s]? = some y) (a b c : Int) (d : Bool) :
    CW ((((w.setCell ⟨A.q id, 6 + s * 4, none⟩ (.int .i64 a)).setCell ⟨A.q id, 6 + s * 4 + 1, none⟩ (.int .i64 b)).setCell ⟨A.q id, 6 + s * 4 + 2, none⟩ (.int .i64 c)).setCell ⟨A.q id, 6 + s * 4 + 3, none⟩ (.bool d)) O A p (S.setH id s ⟨a, b, c, d⟩) ∧ COut O w ((((w.setCell ⟨A.q id, 6 + s * 4, none⟩ (.int .i64 a)).setCell ⟨A.q id, 6 + s * 4 + 1, none⟩ (.int .i64 b)).setCell ⟨A.q id, 6 + s * 4 + 2, none⟩ (.int .i64 c)).setCell ⟨A.q id, 6 + s * 4 + 3, none⟩ (.bool d)) := by
  obtain ⟨c1, f1⟩ := CW.with_sh (j := 0) (v := .int .i64 a) (y' := ⟨a, y.try_, y.first, y.hedged⟩) h hm h0 hs (by omega) rfl
  obtain ⟨c2, f2⟩ := CW.with_sh (j := 1) (v := .int .i64 b) (y' := ⟨a, b, y.first, y.hedged⟩) c1 hm h0 (setH_get _ hs) (by omega) rfl
  rw [setH_setH] at c2
  obtain ⟨c3, f3⟩ := CW.with_sh (j := 2) (v := .int .i64 c) (y' := ⟨a, b, c, y.hedged⟩) c2 hm h0 (setH_get _ hs) (by omega) rfl
  rw [setH_setH] at c3
  obtain ⟨c4, f4⟩ := CW.with_sh (j := 3) (v := .bool d) (y' := ⟨a, b, c, d⟩) c3 hm h0 (setH_get _ hs) (by omega) rfl
  rw [setH_setH] at c4
  exact ⟨c4, COut.trans (COut.trans (COut.trans f1 f2 (AgO.refl _ _)) f3 (AgO.refl _ _)) f4 (AgO.refl _ _)⟩
set_option maxRecDepth 100000 in
theorem askL_setH (S : CS) (id s : Nat) (y : SH) (i j : Nat) (t : Int) (hi : i = id) : (S.setH id s y).askL i j t = S.askL i j t := by
  subst hi
  unfold CS.askL
  rw [setH_Q]
  rfl
set_option maxRecDepth 100000 in
theorem cw_tset {w : World} {O : Own} {A : CA} {p : Nat} {S : CS} {id s slot : Nat} {y : SH} (h : CW w O A p (S.setH id s y)) (t draw at_ : Int) (hsl : (S.Q id).slot = slot) (hw : S.wait t draw = at_) :
    Calls Tryz.prog 122 #[.pointer (some ⟨A.ti, 0, none⟩), .int .i64 (6 * (slot : Int) + (s : Int)), .int .i64 at_] w fun e w' => ∃ O' r, e = .returned (.int .i64 r) ∧ CW w' O' A p ((S.setH id s y).tset id s t draw) ∧ AgO w.heap.size O O' ∧ COut O w w' := by
  refine (cw_set h (6 * (slot : Int) + (s : Int)) at_).mono ?_
  rintro e w' ⟨O', rfl, hc, ha, hf⟩
  refine ⟨O', _, rfl, ?_, ha, hf⟩
  unfold CS.tset
  rw [show (S.setH id s y).tid id s = 6 * (slot : Int) + (s : Int) from by unfold CS.tid; rw [setH_Q, ← hsl], show (S.setH id s y).wait t draw = at_ from hw]
  exact hc
set_option maxRecDepth 100000 in
theorem tset_cell {w : World} {O : Own} {A : CA} {p : Nat} {S : CS} {id s : Nat} {y : SH} {t draw : Int} (h : CW w O A p ((S.setH id s y).tset id s t draw)) (hm : id ∈ S.L) (h0 : id ≠ 0) (hs : s < (S.Q id).sh.length) (j : Nat) (hj : j < 4) : w.cell? ⟨A.q id, 6 + s * 4 + j, none⟩ = y.cells[j]? := by
  have q := (CWx.qb h id hm h0 (fun q => q)).1
  rw [show ((S.setH id s y).tset id s t draw).Q id = (S.setH id s y).Q id from rfl, setH_Q] at q
  exact (q.cell _).trans (qs_get (y := { S.Q id with sh := (S.Q id).sh.set s y }) (List.getElem?_set_self hs) hj)
def LkE (O : Own) (A : CA) (p : Nat) (LK : CS × List LV) (w : World) (e : Ending) (w' : World) : Prop := ∃ v O', e = .returned v ∧ CW w' O' A p LK.1 ∧ LetAt O' w' w.heap.size v LK.2 ∧ AgO w.heap.size O O' ∧ COut O w w'
set_option linter.unusedSimpArgs false in
set_option maxRecDepth 100000 in
set_option maxHeartbeats 8000000 in
theorem cwants_any (O : Own) (A : CA) (p : Nat) (S : CS) (id s : Nat) (draw : Int) (w : World) (h : CW w O A p S) (hm : id ∈ S.L) (h0 : id ≠ 0) (hs : s < A.cps.length) (hsh : A.cps.length ≤ 6) (hs6 : (S.Q id).sh.length = 6) (hcp1 : 1 ≤ S.c.cp) (hcp2 : S.c.cp ≤ 3) (ho : S.t.ok) (hn0 : 0 ≤ S.now) (hn1 : S.now ≤ 1000000000)
    (hslot : (S.Q id).slot ≤ 4) (ht0 : 0 ≤ (S.shOf id s).turn) (ht1 : (S.shOf id s).turn ≤ 999999999) (hf0 : 0 ≤ (S.shOf id s).first) (hf1 : (S.shOf id s).first ≤ 1000000000) :
    Calls Tryz.prog 70 #[.pointer (some ⟨p, 0, none⟩), .pointer (some ⟨A.q id, 0, none⟩), .int .i64 (s : Nat), .int .i64 draw] w (LkE O A p (S.look id s draw) w) := by
  obtain ⟨y, hy⟩ : ∃ y, S.shOf id s = y := ⟨_, rfl⟩
  have hyg : (S.Q id).sh[s]? = some y := by rw [← hy]; unfold CS.shOf; rw [List.getD_eq_getElem?_getD, List.getElem?_eq_getElem (by omega)]; rfl
  rw [hy] at ht0 ht1 hf0 hf1
  obtain ⟨LK, hLK⟩ : ∃ L, S.look id s draw = L := ⟨_, rfl⟩
  rw [hLK]
  unfold CS.look at hLK
  rw [hy] at hLK
  obtain ⟨slot, hsl⟩ : ∃ n, (S.Q id).slot = n := ⟨_, rfl⟩
  rw [hsl] at hslot
  have htid : S.tid id s = 6 * (slot : Int) + (s : Int) := by unfold CS.tid; rw [hsl]
  obtain ⟨⟨at1, ok⟩, hat⟩ : ∃ x, atL (S.tid id s) S.tm = x := ⟨_, rfl⟩
  rw [hat] at hLK
  obtain ⟨O0, hO0⟩ : ∃ O0, O.upd w.heap.size 0 = O0 := ⟨_, rfl⟩
  have HA0 := Lib.hid (show AgO w.heap.size O O0 from by rw [← hO0]; exact AgO.upd _ _ _)
  have NX := Lib.hid (show ¬ (O0 w.heap.size % 8 = 1) from by rw [← hO0, Own.upd_ge (Nat.le_refl _)]; decide)
  clear hO0
  have hatm := fun V hV => cw_at (w := V) (O := O0) (A := A) (p := p) (S := S) hV (6 * (slot : Int) + (s : Int))
  rw [← htid, hat, htid] at hatm
  have HAT := Lib.hid hatm
  obtain ⟨W, hW⟩ : ∃ W, w.alloc (.cells #[.pointer (some ⟨p, 0, none⟩)] 29) = W := ⟨_, rfl⟩
  have hbl : Below w.heap.size w W := by rw [← hW]; exact (Below.refl _ w).alloc (Nat.le_refl _) _
  have HB := Lib.hid hbl
  have HX := Lib.hid (show Blk W w.heap.size 29 [.pointer (some ⟨p, 0, none⟩)] from by rw [← hW]; exact heap_alloc_new w _)
  have HC := Lib.hid (show CW W O0 A p S from h.below hbl HA0.out)
  have HM := Lib.hid hm
  have HY := Lib.hid hyg
  have HTI := Lib.hid htid
  have HSLT := Lib.hid hsl
  have HS6 := Lib.hid hs6
  have q1 : W.cell? ⟨A.q id, 1, none⟩ = some (.int .i64 (slot : Nat)) := by have q := (CWx.qb HC.out id hm h0 (fun q => q)).1.cell 1; rw [show ((S.Q id).cells id (A.m id))[1]? = some (.int .i64 ((S.Q id).slot : Nat)) from rfl, hsl] at q; exact q
  have x0 : W.cell? ⟨w.heap.size, 0, none⟩ = some (.pointer (some ⟨p, 0, none⟩)) := HX.out.cell 0
  have t16 : W.cell? ⟨p, 16, none⟩ = some (.pointer (some ⟨A.ti, 0, none⟩)) := HC.out.blk.cell 16
  have HCP1 := Lib.hid hcp1
  have HCP2 := Lib.hid hcp2
  have k1 : (s : Int) < 6 := by omega
  have k2 : (0 : Int) ≤ (s : Int) := by omega
  clear h hm hy hyg hsl htid hat hatm hbl
  go_enter Tryz.func70, Tryz.ntmps70
  go_wp2_with (rw [hW])
  clear hW
  refine (timerID_any (slot : Nat) (s : Nat) W (by omega) (by omega) (by omega) (by omega)).mono ?_
  rintro e w' ⟨rfl, rfl⟩
  go_wp2_with fail
  clear q1 x0 t16
  refine (HAT.out _ HC.out).mono ?_
  clear HAT
  rintro e w1 ⟨rfl, hb⟩
  have HC1 := Lib.hid (HC.out.below hb (AgO.refl _ _))
  have HX1 := Lib.hid (HX.out.below hb HX.out.lt)
  have HB1 := Lib.hid (HB.out.trans (hb.mono HB.out.size))
  clear hb HC HX HB
  have HQ1 := Lib.hid (CWx.qb HC1.out id HM.out h0 (fun q => q)).1
  have x0 : w1.cell? ⟨w.heap.size, 0, none⟩ = some (.pointer (some ⟨p, 0, none⟩)) := HX1.out.cell 0
  have t13 : w1.cell? ⟨p, 13, none⟩ = some (.int .i64 S.now) := HC1.out.blk.cell 13
  cases ok
  case false =>
    rw [if_pos rfl] at hLK
    obtain ⟨cp, hcp⟩ : ∃ cp : Nat, S.c.cp = (cp : Int) := ⟨S.c.cp.toNat, by omega⟩
    rw [hcp] at hcp1 hcp2
    have hI := CWx.imm HC1.out (fun q => q)
    obtain ⟨x, hx⟩ : ∃ x, A.cps[s]? = some x := ⟨A.cps[s], List.getElem?_eq_getElem _⟩
    have hrow := hI.row.1
    have heach := (hI.each s x hx).1
    rw [hcp, Int.toNat_natCast] at hrow heach
    obtain ⟨cb, hcb, _⟩ := ownsRow_some hrow (by omega)
    obtain ⟨rb, hrb, _⟩ := ownsRow_some heach (by omega)
    rw [hcb] at hrow
    rw [hrb] at heach
    obtain ⟨ns, hns⟩ : ∃ ns, A.cps.length = ns := ⟨_, rfl⟩
    have t12 : w1.cell? ⟨p, 12, none⟩ = some (.slice (some ⟨cb, 0, none⟩) ns A.cpc) := by have e : w1.cell? ⟨p, 12, none⟩ = some (.slice A.cpa A.cps.length A.cpc) := HC1.out.blk.cell 12; rw [hns, hcb] at e; exact e
    have hcc : w1.cell? ⟨cb, s, none⟩ = some (.slice (some ⟨rb, 0, none⟩) cp x.2) := own_cell hrow (by rw [List.getElem?_map, hx, ← hrb]; rfl)
    have k3 : (s : Int) < (ns : Int) := by omega
    have HIX := Lib.hid (index_live s w.heap.size rb cp x.2 w1 HC1.out ho x0 (by rw [hcp]; rfl) (by omega) heach)
    clear hI hrow heach hx hcb hrb hns hcp
    have hfb := firstL_bd S s
    have HFB := Lib.hid hfb
    go_wp2_with fail
    clear x0 t13 t12 hcc
    refine HIX.out.mono ?_
    clear HIX
    rintro e w2 ⟨rfl, hb⟩
    have HC2 := Lib.hid (HC1.out.below hb (AgO.refl _ _))
    have HX2 := Lib.hid (HX1.out.below hb HX1.out.lt)
    have HB2 := Lib.hid (HB1.out.trans (hb.mono HB1.out.size))
    have HQ2 := Lib.hid (HQ1.out.below hb HQ1.out.lt)
    clear hb HC1 HX1 HB1 HQ1
    obtain ⟨fl, hfl⟩ : ∃ x, S.firstL s = x := ⟨_, rfl⟩
    have HFL := Lib.hid hfl
    rw [hfl]
    clear hfl
    obtain ⟨mx, hmx⟩ : ∃ x, (if fl < 0 then 0 else fl) = x := ⟨_, rfl⟩
    have HMX := Lib.hid (show max fl 0 = mx from by rw [← hmx]; split <;> omega)
    rw [HFL.out, HMX.out] at hLK
    subst hLK
    have x0 : w2.cell? ⟨w.heap.size, 0, none⟩ = some (.pointer (some ⟨p, 0, none⟩)) := HX2.out.cell 0
    have t13 : w2.cell? ⟨p, 13, none⟩ = some (.int .i64 S.now) := HC2.out.blk.cell 13
    have fz : ∀ o, w2.frozen? ⟨A.q id, o, none⟩ = false := fun o => fz_of (o := o) HQ2.out
    have c0 : w2.cell? ⟨A.q id, 6 + s * 4, none⟩ = some (.int .i64 y.turn) := (HQ2.out.cell _).trans (qs_get (j := 0) HY.out (by omega))
    have c1 : w2.cell? ⟨A.q id, 6 + s * 4 + 1, none⟩ = some (.int .i64 y.try_) := (HQ2.out.cell _).trans (qs_get (j := 1) HY.out (by omega))
    have c2 : w2.cell? ⟨A.q id, 6 + s * 4 + 2, none⟩ = some (.int .i64 y.first) := (HQ2.out.cell _).trans (qs_get (j := 2) HY.out (by omega))
    have c3 : w2.cell? ⟨A.q id, 6 + s * 4 + 3, none⟩ = some (.bool y.hedged) := (HQ2.out.cell _).trans (qs_get (j := 3) HY.out (by omega))
    obtain ⟨hc3, hf3⟩ := CW.with_sh4 HC2.out HM.out h0 HY.out mx 0 S.now false
    have HC3 := Lib.hid hc3
    have HF3 := Lib.hid (COut.trans (COut.below (O := O) HB2.out) hf3 HA0.out)
    obtain ⟨w3, hw3⟩ : ∃ V, (((w2.setCell ⟨A.q id, 6 + s * 4, none⟩ (.int .i64 mx)).setCell ⟨A.q id, 6 + s * 4 + 1, none⟩ (.int .i64 0)).setCell ⟨A.q id, 6 + s * 4 + 2, none⟩ (.int .i64 S.now)).setCell ⟨A.q id, 6 + s * 4 + 3, none⟩ (.bool false) = V := ⟨_, rfl⟩
    have hx3 : Blk w3 w.heap.size 29 [.pointer (some ⟨p, 0, none⟩)] := by rw [← hw3]; exact HX2.out.frm (((((Frm.refl (fun b => b = A.q id) w2).setCell _ _ (.inl rfl)).setCell _ _ (.inl rfl)).setCell _ _ (.inl rfl)).setCell _ _ (.inl rfl)) (fun e => blk_ne HX2.out HQ2.out (by decide) e)
    have HX3 := Lib.hid hx3
    rw [hw3] at HC3 HF3
    clear hc3 hf3 hx3
    have hmx0 : 0 ≤ mx ∧ mx ≤ 3 := by have := HMX.out; have := HFB.out; rw [HFL.out] at this; have := HCP2.out; omega
    have HC5 := Lib.hid (show CW w3.drew O0 A p (S.setH id s ⟨mx, 0, S.now, false⟩) from (HC3.out).below (below_drewN (Below.refl _ w3) 1) (AgO.refl _ _))
    have HX5 := Lib.hid (show Blk w3.drew w.heap.size 29 [.pointer (some ⟨p, 0, none⟩)] from HX3.out)
    have HF5 := Lib.hid (show COut O w w3.drew from Frm.drew (HF3.out))
    have hbq5 := (CWx.qb HC5.out id HM.out h0 (fun q => q)).1
    rw [setH_Q] at hbq5
    have HBQ5 := Lib.hid hbq5
    clear hbq5
    have HYS := Lib.hid (show ((S.Q id).sh.set s (⟨mx, 0, S.now, false⟩))[s]? = some (⟨mx, 0, S.now, false⟩) from List.getElem?_set_self (by rw [HS6.out]; omega))
    have HT5 := Lib.hid (show w3.drew.cell? ⟨A.q id, 6 + s * 4 + 1, none⟩ = some (.int .i64 (0)) from (HBQ5.out.cell _).trans (qs_get (y := { S.Q id with sh := (S.Q id).sh.set s (⟨mx, 0, S.now, false⟩) }) HYS.out (by omega)))
    have hwt1 := wait_any S.c (0) draw w3.drew
    unfold CfgM.val at hwt1
    have hwb := waitC_bd S.c (0) draw
    obtain ⟨wt, hwt⟩ : ∃ x, waitC S.c (0) draw = x := ⟨_, rfl⟩
    have HWE := Lib.hid (show S.wait (0) draw = min (S.now + wt) 1099511627776 from by unfold CS.wait; rw [hwt])
    rw [hwt] at hwt1 hwb
    have HWT := Lib.hid hwt1
    clear hwt hwt1
    have ewr : IntKind.i64.wrap (S.now + wt) = S.now + wt := wr_in _ (by omega) (by omega)
    have emin : (if 1099511627776 < S.now + wt then 1099511627776 else S.now + wt) = S.now + wt := by rw [if_neg (by omega)]
    have HWM := Lib.hid (show S.wait (0) draw = S.now + wt from by rw [HWE.out]; omega)
    clear HWE
    go_upto_region 14 with (rw [hw3])
    clear hw3 x0 t13 fz c0 c1 c2 c3
    refine wp_region_held_drew (S := (fun w' => w'.cell? ⟨w.heap.size, 0, none⟩ = some (.pointer (some ⟨p, 0, none⟩)) ∧ w'.cell? ⟨p, 16, none⟩ = some (.pointer (some ⟨A.ti, 0, none⟩)) ∧ w'.cell? ⟨p, 13, none⟩ = some (.int .i64 S.now) ∧ w'.cell? ⟨A.q id, 6 + s * 4 + 1, none⟩ = some (.int .i64 (0)) ∧ w'.cell? ⟨p, 0, none⟩ = some (.slice S.c.aw S.c.nw S.c.cw) ∧ w'.cell? ⟨p, 1, none⟩ = some (.slice S.c.ac S.c.nc S.c.cc) ∧ w'.cell? ⟨p, 2, none⟩ = some (.int .i64 S.c.wk) ∧ w'.cell? ⟨p, 3, none⟩ = some (.int .i64 S.c.cp) ∧ w'.cell? ⟨p, 4, none⟩ = some (.int .i64 S.c.sl) ∧ w'.cell? ⟨p, 5, none⟩ = some (.int .i64 S.c.ba) ∧ w'.cell? ⟨p, 6, none⟩ = some (.int .i64 S.c.le) ∧ w'.cell? ⟨p, 7, none⟩ = some (.int .i64 S.c.he) ∧ w'.cell? ⟨p, 8, none⟩ = some (.int .i64 S.c.fi) ∧ w'.cell? ⟨p, 9, none⟩ = some (.int .i64 S.c.ca) ∧ w'.cell? ⟨p, 10, none⟩ = some (.int .i64 S.c.ji) ∧ w'.cell? ⟨p, 11, none⟩ = some (.int .i64 S.c.ne))) (by kernel_rfl) (by first | exact ⟨HX5.out.cell 0, HC5.out.blk.cell 16, HC5.out.blk.cell 13, HT5.out, HC5.out.blk.cell 0, HC5.out.blk.cell 1, HC5.out.blk.cell 2, HC5.out.blk.cell 3, HC5.out.blk.cell 4, HC5.out.blk.cell 5, HC5.out.blk.cell 6, HC5.out.blk.cell 7, HC5.out.blk.cell 8, HC5.out.blk.cell 9, HC5.out.blk.cell 10, HC5.out.blk.cell 11⟩ | exact ⟨HX6.out.cell 0, HC6.out.blk.cell 16, HC6.out.blk.cell 13, HT6.out, HC6.out.blk.cell 0, HC6.out.blk.cell 1, HC6.out.blk.cell 2, HC6.out.blk.cell 3, HC6.out.blk.cell 4, HC6.out.blk.cell 5, HC6.out.blk.cell 6, HC6.out.blk.cell 7, HC6.out.blk.cell 8, HC6.out.blk.cell 9, HC6.out.blk.cell 10, HC6.out.blk.cell 11⟩ | exact ⟨HX7.out.cell 0, HC7.out.blk.cell 16, HC7.out.blk.cell 13, HT7.out, HC7.out.blk.cell 0, HC7.out.blk.cell 1, HC7.out.blk.cell 2, HC7.out.blk.cell 3, HC7.out.blk.cell 4, HC7.out.blk.cell 5, HC7.out.blk.cell 6, HC7.out.blk.cell 7, HC7.out.blk.cell 8, HC7.out.blk.cell 9, HC7.out.blk.cell 10, HC7.out.blk.cell 11⟩) (fun hHeld => ?_)
    refine takeO 0 (some 112) (v := ?_) rfl rfl (by kernel_rfl) (by kernel_rfl) (by kernel_rfl) (fun _ _ _ h => h) (Or.inl ⟨by rfl, ?_⟩) (by assumption) ?_
    rotate_left 1
    · intro w hSw; (try dsimp only at hSw); go_simp; all_goals with_reducible rfl
    try simp only [Act.put, List.setIfInBounds_toArray, List.set_cons_zero, List.set_cons_succ]
    refine takeO 1 (some 113) (v := ?_) rfl rfl (by kernel_rfl) (by kernel_rfl) (by kernel_rfl) (fun _ _ _ h => h) (Or.inl ⟨by rfl, ?_⟩) (by assumption) ?_
    rotate_left 1
    · intro w hSw; (try dsimp only at hSw); go_simp; all_goals with_reducible rfl
    try simp only [Act.put, List.setIfInBounds_toArray, List.set_cons_zero, List.set_cons_succ]
    refine takeO 2 (some 114) (v := ?_) rfl rfl (by kernel_rfl) (by kernel_rfl) (by kernel_rfl) (fun _ _ _ h => h) (Or.inl ⟨by rfl, ?_⟩) (by assumption) ?_
    rotate_left 1
    · intro w hSw; (try dsimp only at hSw); go_simp; all_goals with_reducible rfl
    try simp only [Act.put, List.setIfInBounds_toArray, List.set_cons_zero, List.set_cons_succ]
    refine takeO 3 (some 115) (v := ?_) rfl rfl (by kernel_rfl) (by kernel_rfl) (by kernel_rfl) (fun _ _ _ h => h) (Or.inl ⟨by rfl, ?_⟩) (by assumption) ?_
    rotate_left 1
    · intro w hSw; (try dsimp only at hSw); go_simp; all_goals with_reducible rfl
    try simp only [Act.put, List.setIfInBounds_toArray, List.set_cons_zero, List.set_cons_succ]
    refine takeO 4 (some 116) (v := ?_) rfl rfl (by kernel_rfl) (by kernel_rfl) (by kernel_rfl) (fun _ _ _ h => h) (Or.inl ⟨by rfl, ?_⟩) (by assumption) ?_
    rotate_left 1
    · intro w hSw; (try dsimp only at hSw); go_simp; all_goals with_reducible rfl
    try simp only [Act.put, List.setIfInBounds_toArray, List.set_cons_zero, List.set_cons_succ]
    refine takeO 5 (some 117) (v := ?_) rfl rfl (by kernel_rfl) (by kernel_rfl) (by kernel_rfl) (fun _ _ _ h => h) (Or.inl ⟨by rfl, ?_⟩) (by assumption) ?_
    rotate_left 1
    · intro w hSw; (try dsimp only at hSw); go_simp; all_goals with_reducible rfl
    try simp only [Act.put, List.setIfInBounds_toArray, List.set_cons_zero, List.set_cons_succ]
    refine takeO 6 (some 118) (v := ?_) rfl rfl (by kernel_rfl) (by kernel_rfl) (by kernel_rfl) (fun _ _ _ h => h) (Or.inl ⟨by rfl, ?_⟩) (by assumption) ?_
    rotate_left 1
    · intro w hSw; (try dsimp only at hSw); go_simp; all_goals with_reducible rfl
    try simp only [Act.put, List.setIfInBounds_toArray, List.set_cons_zero, List.set_cons_succ]
    refine takeO 7 (some 119) (v := ?_) rfl rfl (by kernel_rfl) (by kernel_rfl) (by kernel_rfl) (fun _ _ _ h => h) (Or.inl ⟨by rfl, ?_⟩) (by assumption) ?_
    rotate_left 1
    · intro w hSw; (try dsimp only at hSw); go_simp; all_goals with_reducible rfl
    try simp only [Act.put, List.setIfInBounds_toArray, List.set_cons_zero, List.set_cons_succ]
    refine takeO 8 (some 120) (v := ?_) rfl rfl (by kernel_rfl) (by kernel_rfl) (by kernel_rfl) (fun _ _ _ h => h) (Or.inl ⟨by rfl, ?_⟩) (by assumption) ?_
    rotate_left 1
    · intro w hSw; (try dsimp only at hSw); go_simp; all_goals with_reducible rfl
    try simp only [Act.put, List.setIfInBounds_toArray, List.set_cons_zero, List.set_cons_succ]
    refine takeO 9 (some 121) (v := ?_) rfl rfl (by kernel_rfl) (by kernel_rfl) (by kernel_rfl) (fun _ _ _ h => h) (Or.inl ⟨by rfl, ?_⟩) (by assumption) ?_
    rotate_left 1
    · intro w hSw; (try dsimp only at hSw); go_simp; all_goals with_reducible rfl
    try simp only [Act.put, List.setIfInBounds_toArray, List.set_cons_zero, List.set_cons_succ]
    refine takeO 10 (some 122) (v := ?_) rfl rfl (by kernel_rfl) (by kernel_rfl) (by kernel_rfl) (fun _ _ _ h => h) (Or.inl ⟨by rfl, ?_⟩) (by assumption) ?_
    rotate_left 1
    · intro w hSw; (try dsimp only at hSw); go_simp; all_goals with_reducible rfl
    try simp only [Act.put, List.setIfInBounds_toArray, List.set_cons_zero, List.set_cons_succ]
    refine takeO 11 (some 123) (v := ?_) rfl rfl (by kernel_rfl) (by kernel_rfl) (by kernel_rfl) (fun _ _ _ h => h) (Or.inl ⟨by rfl, ?_⟩) (by assumption) ?_
    rotate_left 1
    · intro w hSw; (try dsimp only at hSw); go_simp; all_goals with_reducible rfl
    try simp only [Act.put, List.setIfInBounds_toArray, List.set_cons_zero, List.set_cons_succ]
    refine takeO 12 (some 124) (v := ?_) rfl rfl (by kernel_rfl) (by kernel_rfl) (by kernel_rfl) (fun _ _ _ h => h) (Or.inl ⟨by rfl, ?_⟩) (by assumption) ?_
    rotate_left 1
    · intro w hSw; (try dsimp only at hSw); go_simp; all_goals with_reducible rfl
    try simp only [Act.put, List.setIfInBounds_toArray, List.set_cons_zero, List.set_cons_succ]
    refine takeO 13 (some 125) (v := ?_) rfl rfl (by kernel_rfl) (by kernel_rfl) (by kernel_rfl) (fun _ _ _ h => h) (Or.inl ⟨by rfl, ?_⟩) (by assumption) ?_
    rotate_left 1
    · intro w hSw; (try dsimp only at hSw); go_simp; all_goals with_reducible rfl
    try simp only [Act.put, List.setIfInBounds_toArray, List.set_cons_zero, List.set_cons_succ]
    refine takeO 14 (some 126) (v := ?_) rfl rfl (by kernel_rfl) (by kernel_rfl) (by kernel_rfl) (fun _ _ _ h => h) (Or.inl ⟨by rfl, ?_⟩) (by assumption) ?_
    rotate_left 1
    · intro w hSw; (try dsimp only at hSw); go_simp; all_goals with_reducible rfl
    try simp only [Act.put, List.setIfInBounds_toArray, List.set_cons_zero, List.set_cons_succ]
    refine takeO 15 (some 127) (v := ?_) rfl rfl (by kernel_rfl) (by kernel_rfl) (by kernel_rfl) (fun _ _ _ h => h) (Or.inl ⟨by rfl, ?_⟩) (by assumption) ?_
    rotate_left 1
    · intro w hSw; (try dsimp only at hSw); go_simp; all_goals with_reducible rfl
    try simp only [Act.put, List.setIfInBounds_toArray, List.set_cons_zero, List.set_cons_succ]
    refine takeO 16 (some 128) (v := ?_) rfl rfl (by kernel_rfl) (by kernel_rfl) (by kernel_rfl) (fun _ _ _ h => h) (Or.inl ⟨by rfl, ?_⟩) (by assumption) ?_
    rotate_left 1
    · intro w hSw; (try dsimp only at hSw); go_simp; all_goals with_reducible rfl
    try simp only [Act.put, List.setIfInBounds_toArray, List.set_cons_zero, List.set_cons_succ]
    refine takeO 17 (some 129) (v := ?_) rfl rfl (by kernel_rfl) (by kernel_rfl) (by kernel_rfl) (fun _ _ _ h => h) (Or.inl ⟨by rfl, ?_⟩) (by assumption) ?_
    rotate_left 1
    · intro w hSw; (try dsimp only at hSw); go_simp; all_goals with_reducible rfl
    try simp only [Act.put, List.setIfInBounds_toArray, List.set_cons_zero, List.set_cons_succ]
    refine wpAnyH_ready (rs := [18]) (by kernel_rfl) (by simp) ?_
    refine AllReadyH.cons rfl (fun K hK => ?_) AllReadyH.nil
    go_simp
    refine HWT.out.mono ?_; rintro e w6 ⟨rfl, hb⟩; clear HWT; have HC6 := Lib.hid (HC5.out.below hb (AgO.refl _ _)); have HX6 := Lib.hid (HX5.out.below hb HX5.out.lt); have HT6 := Lib.hid ((hb.cell (p := ⟨A.q id, 6 + s * 4 + 1, none⟩) (cell?_lt HT5.out)).trans HT5.out); have HF6 := Lib.hid (COut.trans HF5.out (COut.below (O := O0) hb) HA0.out); clear hb
    go_wp2_with fail
    refine hK.out _ _ (by first | exact ⟨HX5.out.cell 0, HC5.out.blk.cell 16, HC5.out.blk.cell 13, HT5.out, HC5.out.blk.cell 0, HC5.out.blk.cell 1, HC5.out.blk.cell 2, HC5.out.blk.cell 3, HC5.out.blk.cell 4, HC5.out.blk.cell 5, HC5.out.blk.cell 6, HC5.out.blk.cell 7, HC5.out.blk.cell 8, HC5.out.blk.cell 9, HC5.out.blk.cell 10, HC5.out.blk.cell 11⟩ | exact ⟨HX6.out.cell 0, HC6.out.blk.cell 16, HC6.out.blk.cell 13, HT6.out, HC6.out.blk.cell 0, HC6.out.blk.cell 1, HC6.out.blk.cell 2, HC6.out.blk.cell 3, HC6.out.blk.cell 4, HC6.out.blk.cell 5, HC6.out.blk.cell 6, HC6.out.blk.cell 7, HC6.out.blk.cell 8, HC6.out.blk.cell 9, HC6.out.blk.cell 10, HC6.out.blk.cell 11⟩ | exact ⟨HX7.out.cell 0, HC7.out.blk.cell 16, HC7.out.blk.cell 13, HT7.out, HC7.out.blk.cell 0, HC7.out.blk.cell 1, HC7.out.blk.cell 2, HC7.out.blk.cell 3, HC7.out.blk.cell 4, HC7.out.blk.cell 5, HC7.out.blk.cell 6, HC7.out.blk.cell 7, HC7.out.blk.cell 8, HC7.out.blk.cell 9, HC7.out.blk.cell 10, HC7.out.blk.cell 11⟩) (fun hHeld => ?_)
    clear hK K
    try simp only [Act.put, List.setIfInBounds_toArray, List.set_cons_zero, List.set_cons_succ]
    refine takeO 19 (some 131) (v := ?_) rfl rfl (by kernel_rfl) (by kernel_rfl) (by kernel_rfl) (fun _ _ _ h => h) (Or.inl ⟨by rfl, ?_⟩) (by assumption) ?_
    rotate_left 1
    · intro w hSw; (try dsimp only at hSw); go_simp; all_goals with_reducible rfl
    try simp only [Act.put, List.setIfInBounds_toArray, List.set_cons_zero, List.set_cons_succ]
    refine takeO 20 (some 132) (v := ?_) rfl rfl (by kernel_rfl) (by kernel_rfl) (by kernel_rfl) (fun _ _ _ h => h) (Or.inl ⟨by rfl, ?_⟩) (by assumption) ?_
    rotate_left 1
    · intro w hSw; (try dsimp only at hSw); go_simp; all_goals with_reducible rfl
    try simp only [Act.put, List.setIfInBounds_toArray, List.set_cons_zero, List.set_cons_succ]
    refine wpAnyH_ready (rs := [21]) (by kernel_rfl) (by simp) ?_
    refine AllReadyH.cons rfl (fun K hK => ?_) AllReadyH.nil
    go_simp
    refine (cw_tset (S := S) (y := ⟨mx, 0, S.now, false⟩) HC6.out (0) draw (S.now + wt) HSLT.out HWM.out).mono ?_; rintro e w7 ⟨O7, r7, rfl, hc7, ha7, hf7⟩; have HC7 := Lib.hid hc7; have HA7 := Lib.hid (show AgO w.heap.size O O7 from fun b hb => (ha7 b (Nat.lt_of_lt_of_le hb HF6.out.size)).trans (HA0.out b hb)); have HF7 := Lib.hid (COut.trans HF6.out hf7 HA0.out); have HX7 := Lib.hid (HX6.out.frm hf7 NX.out); have HT7 := Lib.hid (show w7.cell? ⟨A.q id, 6 + s * 4 + 1, none⟩ = some (.int .i64 (0)) from tset_cell HC7.out HM.out h0 (by rw [HS6.out]; omega) 1 (by omega)); clear hc7 ha7 hf7
    go_wp2_with fail
    refine hK.out _ _ (by first | exact ⟨HX5.out.cell 0, HC5.out.blk.cell 16, HC5.out.blk.cell 13, HT5.out, HC5.out.blk.cell 0, HC5.out.blk.cell 1, HC5.out.blk.cell 2, HC5.out.blk.cell 3, HC5.out.blk.cell 4, HC5.out.blk.cell 5, HC5.out.blk.cell 6, HC5.out.blk.cell 7, HC5.out.blk.cell 8, HC5.out.blk.cell 9, HC5.out.blk.cell 10, HC5.out.blk.cell 11⟩ | exact ⟨HX6.out.cell 0, HC6.out.blk.cell 16, HC6.out.blk.cell 13, HT6.out, HC6.out.blk.cell 0, HC6.out.blk.cell 1, HC6.out.blk.cell 2, HC6.out.blk.cell 3, HC6.out.blk.cell 4, HC6.out.blk.cell 5, HC6.out.blk.cell 6, HC6.out.blk.cell 7, HC6.out.blk.cell 8, HC6.out.blk.cell 9, HC6.out.blk.cell 10, HC6.out.blk.cell 11⟩ | exact ⟨HX7.out.cell 0, HC7.out.blk.cell 16, HC7.out.blk.cell 13, HT7.out, HC7.out.blk.cell 0, HC7.out.blk.cell 1, HC7.out.blk.cell 2, HC7.out.blk.cell 3, HC7.out.blk.cell 4, HC7.out.blk.cell 5, HC7.out.blk.cell 6, HC7.out.blk.cell 7, HC7.out.blk.cell 8, HC7.out.blk.cell 9, HC7.out.blk.cell 10, HC7.out.blk.cell 11⟩) (fun hHeld => ?_)
    clear hK K
    try simp only [Act.put, List.setIfInBounds_toArray, List.set_cons_zero, List.set_cons_succ]
    refine wpAnyH_done (by kernel_rfl) ?_ _
    clear hHeld HC5 HC6 HX5 HX6 HT5 HT6 HF5 HF6 HBQ5 emin ewr
    have HT8 := Lib.hid (show w7.drew.cell? ⟨A.q id, 6 + s * 4, none⟩ = some (.int .i64 (mx)) from tset_cell HC7.out HM.out h0 (by rw [HS6.out]; omega) 0 (by omega))
    have HC8 := Lib.hid (show CW w7.drew O7 A p ((S.setH id s ⟨mx, 0, S.now, false⟩).tset id s (0) draw) from HC7.out.below (below_drewN (Below.refl _ w7) 1) (AgO.refl _ _))
    have HX8 := Lib.hid (show Blk w7.drew w.heap.size 29 [.pointer (some ⟨p, 0, none⟩)] from HX7.out)
    have hak := cask_any O7 A p ((S.setH id s ⟨mx, 0, S.now, false⟩).tset id s (0) draw) id s (mx) w7.drew HC8.out HM.out h0 hs hsh (by omega) (by omega) HCP1.out HCP2.out ho
    unfold AskE at hak
    rw [show ((S.setH id s ⟨mx, 0, S.now, false⟩).tset id s (0) draw).askL id s (mx) = S.askL id s (mx) from askL_setH S id s _ id s _ rfl] at hak
    have HAK := Lib.hid hak
    clear hak
    go_upto_region 15 with fail
    refine wp_region_held_drew (S := (fun w' => w'.cell? ⟨w.heap.size, 0, none⟩ = some (.pointer (some ⟨p, 0, none⟩)) ∧ w'.cell? ⟨A.q id, 6 + s * 4, none⟩ = some (.int .i64 (mx)))) (by kernel_rfl) (by first | exact ⟨HX8.out.cell 0, HT8.out⟩ | exact ⟨HX9.out.cell 0, HT9.out⟩) (fun hHeld => ?_)
    refine takeO 0 (some 134) (v := ?_) rfl rfl (by kernel_rfl) (by kernel_rfl) (by kernel_rfl) (fun _ _ _ h => h) (Or.inl ⟨by rfl, ?_⟩) (by assumption) ?_
    rotate_left 1
    · intro w hSw; (try dsimp only at hSw); go_simp; all_goals with_reducible rfl
    try simp only [Act.put, List.setIfInBounds_toArray, List.set_cons_zero, List.set_cons_succ]
    refine takeO 1 (some 135) (v := ?_) rfl rfl (by kernel_rfl) (by kernel_rfl) (by kernel_rfl) (fun _ _ _ h => h) (Or.inl ⟨by rfl, ?_⟩) (by assumption) ?_
    rotate_left 1
    · intro w hSw; (try dsimp only at hSw); go_simp; all_goals with_reducible rfl
    try simp only [Act.put, List.setIfInBounds_toArray, List.set_cons_zero, List.set_cons_succ]
    refine takeO 2 (some 136) (v := ?_) rfl rfl (by kernel_rfl) (by kernel_rfl) (by kernel_rfl) (fun _ _ _ h => h) (Or.inl ⟨by rfl, ?_⟩) (by assumption) ?_
    rotate_left 1
    · intro w hSw; (try dsimp only at hSw); go_simp; all_goals with_reducible rfl
    try simp only [Act.put, List.setIfInBounds_toArray, List.set_cons_zero, List.set_cons_succ]
    refine takeO 3 (some 137) (v := ?_) rfl rfl (by kernel_rfl) (by kernel_rfl) (by kernel_rfl) (fun _ _ _ h => h) (Or.inl ⟨by rfl, ?_⟩) (by assumption) ?_
    rotate_left 1
    · intro w hSw; (try dsimp only at hSw); go_simp; all_goals with_reducible rfl
    try simp only [Act.put, List.setIfInBounds_toArray, List.set_cons_zero, List.set_cons_succ]
    refine takeO 4 (some 138) (v := ?_) rfl rfl (by kernel_rfl) (by kernel_rfl) (by kernel_rfl) (fun _ _ _ h => h) (Or.inl ⟨by rfl, ?_⟩) (by assumption) ?_
    rotate_left 1
    · intro w hSw; (try dsimp only at hSw); go_simp; all_goals with_reducible rfl
    try simp only [Act.put, List.setIfInBounds_toArray, List.set_cons_zero, List.set_cons_succ]
    refine takeO 5 (some 139) (v := ?_) rfl rfl (by kernel_rfl) (by kernel_rfl) (by kernel_rfl) (fun _ _ _ h => h) (Or.inl ⟨by rfl, ?_⟩) (by assumption) ?_
    rotate_left 1
    · intro w hSw; (try dsimp only at hSw); go_simp; all_goals with_reducible rfl
    try simp only [Act.put, List.setIfInBounds_toArray, List.set_cons_zero, List.set_cons_succ]
    refine takeO 6 (some 140) (v := ?_) rfl rfl (by kernel_rfl) (by kernel_rfl) (by kernel_rfl) (fun _ _ _ h => h) (Or.inl ⟨by rfl, ?_⟩) (by assumption) ?_
    rotate_left 1
    · intro w hSw; (try dsimp only at hSw); go_simp; all_goals with_reducible rfl
    try simp only [Act.put, List.setIfInBounds_toArray, List.set_cons_zero, List.set_cons_succ]
    refine wpAnyH_ready (rs := [7]) (by kernel_rfl) (by simp) ?_
    refine AllReadyH.cons rfl (fun K hK => ?_) AllReadyH.nil
    go_simp
    refine HAK.out.mono ?_; rintro e w9 ⟨v9, rfl, hl9, hb9⟩; clear HAK; have HX9 := Lib.hid (HX8.out.below hb9 HX8.out.lt); have HT9 := Lib.hid ((hb9.cell (p := ⟨A.q id, 6 + s * 4, none⟩) (cell?_lt HT8.out)).trans HT8.out); have HL9 := Lib.hid hl9; have HB9 := Lib.hid hb9; clear hl9 hb9
    go_wp2_with fail
    refine hK.out _ _ (by first | exact ⟨HX8.out.cell 0, HT8.out⟩ | exact ⟨HX9.out.cell 0, HT9.out⟩) (fun hHeld => ?_)
    clear hK K
    try simp only [Act.put, List.setIfInBounds_toArray, List.set_cons_zero, List.set_cons_succ]
    refine takeO 8 (some 8) (v := ?_) rfl rfl (by kernel_rfl) (by kernel_rfl) (by kernel_rfl) (fun _ _ _ h => h) (Or.inl ⟨by rfl, ?_⟩) (by assumption) ?_
    rotate_left 1
    · intro w hSw; (try dsimp only at hSw); go_simp; all_goals with_reducible rfl
    try simp only [Act.put, List.setIfInBounds_toArray, List.set_cons_zero, List.set_cons_succ]
    refine wpAnyH_done (by kernel_rfl) ?_ _
    go_wp2_with fail
    go_ret
    refine ⟨v9, O7.upd w7.heap.size 0, rfl, HC8.out.below HB9.out (AgO.upd _ _ _), HL9.out.base HF7.out.size, fun b hb => (AgO.upd w7.heap.size 0 O7 b (Nat.lt_of_lt_of_le hb HF7.out.size)).trans (HA7.out b hb), COut.trans (show COut O w w7.drew from HF7.out.drew) (COut.below (O := O7) HB9.out) HA7.out⟩
  rw [if_neg (by decide)] at hLK
  have fz : ∀ o, w1.frozen? ⟨A.q id, o, none⟩ = false := fun o => fz_of (o := o) HQ1.out
  have c0 : w1.cell? ⟨A.q id, 6 + s * 4, none⟩ = some (.int .i64 y.turn) := (HQ1.out.cell _).trans (qs_get (j := 0) HY.out (by omega))
  have c1 : w1.cell? ⟨A.q id, 6 + s * 4 + 1, none⟩ = some (.int .i64 y.try_) := (HQ1.out.cell _).trans (qs_get (j := 1) HY.out (by omega))
  have c2 : w1.cell? ⟨A.q id, 6 + s * 4 + 2, none⟩ = some (.int .i64 y.first) := (HQ1.out.cell _).trans (qs_get (j := 2) HY.out (by omega))
  have c3 : w1.cell? ⟨A.q id, 6 + s * 4 + 3, none⟩ = some (.bool y.hedged) := (HQ1.out.cell _).trans (qs_get (j := 3) HY.out (by omega))
  by_cases hle : at1 ≤ S.now
  · rw [if_pos hle] at hLK
    obtain ⟨ty, hty⟩ : ∃ x, tryI y.try_ = x := ⟨_, rfl⟩
    have htr := try_any y.try_ w1
    rw [hty] at hLK htr
    have HTR := Lib.hid htr
    clear hty htr
    subst hLK
    go_wp2_with fail
    refine HTR.out.mono ?_
    rintro e w' ⟨rfl, rfl⟩
    have ewt : IntKind.i64.wrap (y.turn + 1) = y.turn + 1 := wr_in _ (by omega) (by omega)
    obtain ⟨cc1, f1⟩ := CW.with_sh (j := 1) (v := .int .i64 ty) (y' := ⟨y.turn, ty, y.first, y.hedged⟩) HC1.out HM.out h0 HY.out (by omega) rfl
    obtain ⟨cc2, f2⟩ := CW.with_sh (j := 0) (v := .int .i64 (y.turn + 1)) (y' := ⟨y.turn + 1, ty, y.first, y.hedged⟩) cc1 HM.out h0 (setH_get _ HY.out) (by omega) rfl
    rw [setH_setH] at cc2
    have HC3 := Lib.hid cc2
    have HF3 := Lib.hid (COut.trans (COut.below (O := O) HB1.out) (COut.trans f1 f2 (AgO.refl _ _)) HA0.out)
    obtain ⟨w3, hw3⟩ : ∃ V, (w1.setCell ⟨A.q id, 6 + s * 4 + 1, none⟩ (.int .i64 ty)).setCell ⟨A.q id, 6 + s * 4, none⟩ (.int .i64 (y.turn + 1)) = V := ⟨_, rfl⟩
    have hx3 : Blk w3 w.heap.size 29 [.pointer (some ⟨p, 0, none⟩)] := by rw [← hw3]; exact HX1.out.frm (((Frm.refl (fun b => b = A.q id) w1).setCell _ _ (.inl rfl)).setCell _ _ (.inl rfl)) (fun e => blk_ne HX1.out HQ1.out (by decide) e)
    have HX3 := Lib.hid hx3
    rw [show ((w1.setCell ⟨A.q id, 6 + s * 4 + 1, none⟩ (.int .i64 ty)).setCell ⟨A.q id, 6 + s * 4 + 0, none⟩ (.int .i64 (y.turn + 1))) = w3 from hw3] at HC3 HF3
    clear cc1 cc2 f1 f2 hx3
    have HC5 := Lib.hid (show CW w3.drew O0 A p (S.setH id s ⟨y.turn + 1, ty, y.first, y.hedged⟩) from (HC3.out).below (below_drewN (Below.refl _ w3) 1) (AgO.refl _ _))
    have HX5 := Lib.hid (show Blk w3.drew w.heap.size 29 [.pointer (some ⟨p, 0, none⟩)] from HX3.out)
    have HF5 := Lib.hid (show COut O w w3.drew from Frm.drew (HF3.out))
    have hbq5 := (CWx.qb HC5.out id HM.out h0 (fun q => q)).1
    rw [setH_Q] at hbq5
    have HBQ5 := Lib.hid hbq5
    clear hbq5
    have HYS := Lib.hid (show ((S.Q id).sh.set s (⟨y.turn + 1, ty, y.first, y.hedged⟩))[s]? = some (⟨y.turn + 1, ty, y.first, y.hedged⟩) from List.getElem?_set_self (by rw [HS6.out]; omega))
    have HT5 := Lib.hid (show w3.drew.cell? ⟨A.q id, 6 + s * 4 + 1, none⟩ = some (.int .i64 (ty)) from (HBQ5.out.cell _).trans (qs_get (y := { S.Q id with sh := (S.Q id).sh.set s (⟨y.turn + 1, ty, y.first, y.hedged⟩) }) HYS.out (by omega)))
    have hwt1 := wait_any S.c (ty) draw w3.drew
    unfold CfgM.val at hwt1
    have hwb := waitC_bd S.c (ty) draw
    obtain ⟨wt, hwt⟩ : ∃ x, waitC S.c (ty) draw = x := ⟨_, rfl⟩
    have HWE := Lib.hid (show S.wait (ty) draw = min (S.now + wt) 1099511627776 from by unfold CS.wait; rw [hwt])
    rw [hwt] at hwt1 hwb
    have HWT := Lib.hid hwt1
    clear hwt hwt1
    have ewr : IntKind.i64.wrap (S.now + wt) = S.now + wt := wr_in _ (by omega) (by omega)
    have emin : (if 1099511627776 < S.now + wt then 1099511627776 else S.now + wt) = S.now + wt := by rw [if_neg (by omega)]
    have HWM := Lib.hid (show S.wait (ty) draw = S.now + wt from by rw [HWE.out]; omega)
    clear HWE
    go_upto_region 14 with (rw [hw3])
    clear hw3 x0 t13 fz c0 c1 c2 c3 ewt
    refine wp_region_held_drew (S := (fun w' => w'.cell? ⟨w.heap.size, 0, none⟩ = some (.pointer (some ⟨p, 0, none⟩)) ∧ w'.cell? ⟨p, 16, none⟩ = some (.pointer (some ⟨A.ti, 0, none⟩)) ∧ w'.cell? ⟨p, 13, none⟩ = some (.int .i64 S.now) ∧ w'.cell? ⟨A.q id, 6 + s * 4 + 1, none⟩ = some (.int .i64 (ty)) ∧ w'.cell? ⟨p, 0, none⟩ = some (.slice S.c.aw S.c.nw S.c.cw) ∧ w'.cell? ⟨p, 1, none⟩ = some (.slice S.c.ac S.c.nc S.c.cc) ∧ w'.cell? ⟨p, 2, none⟩ = some (.int .i64 S.c.wk) ∧ w'.cell? ⟨p, 3, none⟩ = some (.int .i64 S.c.cp) ∧ w'.cell? ⟨p, 4, none⟩ = some (.int .i64 S.c.sl) ∧ w'.cell? ⟨p, 5, none⟩ = some (.int .i64 S.c.ba) ∧ w'.cell? ⟨p, 6, none⟩ = some (.int .i64 S.c.le) ∧ w'.cell? ⟨p, 7, none⟩ = some (.int .i64 S.c.he) ∧ w'.cell? ⟨p, 8, none⟩ = some (.int .i64 S.c.fi) ∧ w'.cell? ⟨p, 9, none⟩ = some (.int .i64 S.c.ca) ∧ w'.cell? ⟨p, 10, none⟩ = some (.int .i64 S.c.ji) ∧ w'.cell? ⟨p, 11, none⟩ = some (.int .i64 S.c.ne))) (by kernel_rfl) (by first | exact ⟨HX5.out.cell 0, HC5.out.blk.cell 16, HC5.out.blk.cell 13, HT5.out, HC5.out.blk.cell 0, HC5.out.blk.cell 1, HC5.out.blk.cell 2, HC5.out.blk.cell 3, HC5.out.blk.cell 4, HC5.out.blk.cell 5, HC5.out.blk.cell 6, HC5.out.blk.cell 7, HC5.out.blk.cell 8, HC5.out.blk.cell 9, HC5.out.blk.cell 10, HC5.out.blk.cell 11⟩ | exact ⟨HX6.out.cell 0, HC6.out.blk.cell 16, HC6.out.blk.cell 13, HT6.out, HC6.out.blk.cell 0, HC6.out.blk.cell 1, HC6.out.blk.cell 2, HC6.out.blk.cell 3, HC6.out.blk.cell 4, HC6.out.blk.cell 5, HC6.out.blk.cell 6, HC6.out.blk.cell 7, HC6.out.blk.cell 8, HC6.out.blk.cell 9, HC6.out.blk.cell 10, HC6.out.blk.cell 11⟩ | exact ⟨HX7.out.cell 0, HC7.out.blk.cell 16, HC7.out.blk.cell 13, HT7.out, HC7.out.blk.cell 0, HC7.out.blk.cell 1, HC7.out.blk.cell 2, HC7.out.blk.cell 3, HC7.out.blk.cell 4, HC7.out.blk.cell 5, HC7.out.blk.cell 6, HC7.out.blk.cell 7, HC7.out.blk.cell 8, HC7.out.blk.cell 9, HC7.out.blk.cell 10, HC7.out.blk.cell 11⟩) (fun hHeld => ?_)
    refine takeO 0 (some 112) (v := ?_) rfl rfl (by kernel_rfl) (by kernel_rfl) (by kernel_rfl) (fun _ _ _ h => h) (Or.inl ⟨by rfl, ?_⟩) (by assumption) ?_
    rotate_left 1
    · intro w hSw; (try dsimp only at hSw); go_simp; all_goals with_reducible rfl
    try simp only [Act.put, List.setIfInBounds_toArray, List.set_cons_zero, List.set_cons_succ]
    refine takeO 1 (some 113) (v := ?_) rfl rfl (by kernel_rfl) (by kernel_rfl) (by kernel_rfl) (fun _ _ _ h => h) (Or.inl ⟨by rfl, ?_⟩) (by assumption) ?_
    rotate_left 1
    · intro w hSw; (try dsimp only at hSw); go_simp; all_goals with_reducible rfl
    try simp only [Act.put, List.setIfInBounds_toArray, List.set_cons_zero, List.set_cons_succ]
    refine takeO 2 (some 114) (v := ?_) rfl rfl (by kernel_rfl) (by kernel_rfl) (by kernel_rfl) (fun _ _ _ h => h) (Or.inl ⟨by rfl, ?_⟩) (by assumption) ?_
    rotate_left 1
    · intro w hSw; (try dsimp only at hSw); go_simp; all_goals with_reducible rfl
    try simp only [Act.put, List.setIfInBounds_toArray, List.set_cons_zero, List.set_cons_succ]
    refine takeO 3 (some 115) (v := ?_) rfl rfl (by kernel_rfl) (by kernel_rfl) (by kernel_rfl) (fun _ _ _ h => h) (Or.inl ⟨by rfl, ?_⟩) (by assumption) ?_
    rotate_left 1
    · intro w hSw; (try dsimp only at hSw); go_simp; all_goals with_reducible rfl
    try simp only [Act.put, List.setIfInBounds_toArray, List.set_cons_zero, List.set_cons_succ]
    refine takeO 4 (some 116) (v := ?_) rfl rfl (by kernel_rfl) (by kernel_rfl) (by kernel_rfl) (fun _ _ _ h => h) (Or.inl ⟨by rfl, ?_⟩) (by assumption) ?_
    rotate_left 1
    · intro w hSw; (try dsimp only at hSw); go_simp; all_goals with_reducible rfl
    try simp only [Act.put, List.setIfInBounds_toArray, List.set_cons_zero, List.set_cons_succ]
    refine takeO 5 (some 117) (v := ?_) rfl rfl (by kernel_rfl) (by kernel_rfl) (by kernel_rfl) (fun _ _ _ h => h) (Or.inl ⟨by rfl, ?_⟩) (by assumption) ?_
    rotate_left 1
    · intro w hSw; (try dsimp only at hSw); go_simp; all_goals with_reducible rfl
    try simp only [Act.put, List.setIfInBounds_toArray, List.set_cons_zero, List.set_cons_succ]
    refine takeO 6 (some 118) (v := ?_) rfl rfl (by kernel_rfl) (by kernel_rfl) (by kernel_rfl) (fun _ _ _ h => h) (Or.inl ⟨by rfl, ?_⟩) (by assumption) ?_
    rotate_left 1
    · intro w hSw; (try dsimp only at hSw); go_simp; all_goals with_reducible rfl
    try simp only [Act.put, List.setIfInBounds_toArray, List.set_cons_zero, List.set_cons_succ]
    refine takeO 7 (some 119) (v := ?_) rfl rfl (by kernel_rfl) (by kernel_rfl) (by kernel_rfl) (fun _ _ _ h => h) (Or.inl ⟨by rfl, ?_⟩) (by assumption) ?_
    rotate_left 1
    · intro w hSw; (try dsimp only at hSw); go_simp; all_goals with_reducible rfl
    try simp only [Act.put, List.setIfInBounds_toArray, List.set_cons_zero, List.set_cons_succ]
    refine takeO 8 (some 120) (v := ?_) rfl rfl (by kernel_rfl) (by kernel_rfl) (by kernel_rfl) (fun _ _ _ h => h) (Or.inl ⟨by rfl, ?_⟩) (by assumption) ?_
    rotate_left 1
    · intro w hSw; (try dsimp only at hSw); go_simp; all_goals with_reducible rfl
    try simp only [Act.put, List.setIfInBounds_toArray, List.set_cons_zero, List.set_cons_succ]
    refine takeO 9 (some 121) (v := ?_) rfl rfl (by kernel_rfl) (by kernel_rfl) (by kernel_rfl) (fun _ _ _ h => h) (Or.inl ⟨by rfl, ?_⟩) (by assumption) ?_
    rotate_left 1
    · intro w hSw; (try dsimp only at hSw); go_simp; all_goals with_reducible rfl
    try simp only [Act.put, List.setIfInBounds_toArray, List.set_cons_zero, List.set_cons_succ]
    refine takeO 10 (some 122) (v := ?_) rfl rfl (by kernel_rfl) (by kernel_rfl) (by kernel_rfl) (fun _ _ _ h => h) (Or.inl ⟨by rfl, ?_⟩) (by assumption) ?_
    rotate_left 1
    · intro w hSw; (try dsimp only at hSw); go_simp; all_goals with_reducible rfl
    try simp only [Act.put, List.setIfInBounds_toArray, List.set_cons_zero, List.set_cons_succ]
    refine takeO 11 (some 123) (v := ?_) rfl rfl (by kernel_rfl) (by kernel_rfl) (by kernel_rfl) (fun _ _ _ h => h) (Or.inl ⟨by rfl, ?_⟩) (by assumption) ?_
    rotate_left 1
    · intro w hSw; (try dsimp only at hSw); go_simp; all_goals with_reducible rfl
    try simp only [Act.put, List.setIfInBounds_toArray, List.set_cons_zero, List.set_cons_succ]
    refine takeO 12 (some 124) (v := ?_) rfl rfl (by kernel_rfl) (by kernel_rfl) (by kernel_rfl) (fun _ _ _ h => h) (Or.inl ⟨by rfl, ?_⟩) (by assumption) ?_
    rotate_left 1
    · intro w hSw; (try dsimp only at hSw); go_simp; all_goals with_reducible rfl
    try simp only [Act.put, List.setIfInBounds_toArray, List.set_cons_zero, List.set_cons_succ]
    refine takeO 13 (some 125) (v := ?_) rfl rfl (by kernel_rfl) (by kernel_rfl) (by kernel_rfl) (fun _ _ _ h => h) (Or.inl ⟨by rfl, ?_⟩) (by assumption) ?_
    rotate_left 1
    · intro w hSw; (try dsimp only at hSw); go_simp; all_goals with_reducible rfl
    try simp only [Act.put, List.setIfInBounds_toArray, List.set_cons_zero, List.set_cons_succ]
    refine takeO 14 (some 126) (v := ?_) rfl rfl (by kernel_rfl) (by kernel_rfl) (by kernel_rfl) (fun _ _ _ h => h) (Or.inl ⟨by rfl, ?_⟩) (by assumption) ?_
    rotate_left 1
    · intro w hSw; (try dsimp only at hSw); go_simp; all_goals with_reducible rfl
    try simp only [Act.put, List.setIfInBounds_toArray, List.set_cons_zero, List.set_cons_succ]
    refine takeO 15 (some 127) (v := ?_) rfl rfl (by kernel_rfl) (by kernel_rfl) (by kernel_rfl) (fun _ _ _ h => h) (Or.inl ⟨by rfl, ?_⟩) (by assumption) ?_
    rotate_left 1
    · intro w hSw; (try dsimp only at hSw); go_simp; all_goals with_reducible rfl
    try simp only [Act.put, List.setIfInBounds_toArray, List.set_cons_zero, List.set_cons_succ]
    refine takeO 16 (some 128) (v := ?_) rfl rfl (by kernel_rfl) (by kernel_rfl) (by kernel_rfl) (fun _ _ _ h => h) (Or.inl ⟨by rfl, ?_⟩) (by assumption) ?_
    rotate_left 1
    · intro w hSw; (try dsimp only at hSw); go_simp; all_goals with_reducible rfl
    try simp only [Act.put, List.setIfInBounds_toArray, List.set_cons_zero, List.set_cons_succ]
    refine takeO 17 (some 129) (v := ?_) rfl rfl (by kernel_rfl) (by kernel_rfl) (by kernel_rfl) (fun _ _ _ h => h) (Or.inl ⟨by rfl, ?_⟩) (by assumption) ?_
    rotate_left 1
    · intro w hSw; (try dsimp only at hSw); go_simp; all_goals with_reducible rfl
    try simp only [Act.put, List.setIfInBounds_toArray, List.set_cons_zero, List.set_cons_succ]
    refine wpAnyH_ready (rs := [18]) (by kernel_rfl) (by simp) ?_
    refine AllReadyH.cons rfl (fun K hK => ?_) AllReadyH.nil
    go_simp
    refine HWT.out.mono ?_; rintro e w6 ⟨rfl, hb⟩; clear HWT; have HC6 := Lib.hid (HC5.out.below hb (AgO.refl _ _)); have HX6 := Lib.hid (HX5.out.below hb HX5.out.lt); have HT6 := Lib.hid ((hb.cell (p := ⟨A.q id, 6 + s * 4 + 1, none⟩) (cell?_lt HT5.out)).trans HT5.out); have HF6 := Lib.hid (COut.trans HF5.out (COut.below (O := O0) hb) HA0.out); clear hb
    go_wp2_with fail
    refine hK.out _ _ (by first | exact ⟨HX5.out.cell 0, HC5.out.blk.cell 16, HC5.out.blk.cell 13, HT5.out, HC5.out.blk.cell 0, HC5.out.blk.cell 1, HC5.out.blk.cell 2, HC5.out.blk.cell 3, HC5.out.blk.cell 4, HC5.out.blk.cell 5, HC5.out.blk.cell 6, HC5.out.blk.cell 7, HC5.out.blk.cell 8, HC5.out.blk.cell 9, HC5.out.blk.cell 10, HC5.out.blk.cell 11⟩ | exact ⟨HX6.out.cell 0, HC6.out.blk.cell 16, HC6.out.blk.cell 13, HT6.out, HC6.out.blk.cell 0, HC6.out.blk.cell 1, HC6.out.blk.cell 2, HC6.out.blk.cell 3, HC6.out.blk.cell 4, HC6.out.blk.cell 5, HC6.out.blk.cell 6, HC6.out.blk.cell 7, HC6.out.blk.cell 8, HC6.out.blk.cell 9, HC6.out.blk.cell 10, HC6.out.blk.cell 11⟩ | exact ⟨HX7.out.cell 0, HC7.out.blk.cell 16, HC7.out.blk.cell 13, HT7.out, HC7.out.blk.cell 0, HC7.out.blk.cell 1, HC7.out.blk.cell 2, HC7.out.blk.cell 3, HC7.out.blk.cell 4, HC7.out.blk.cell 5, HC7.out.blk.cell 6, HC7.out.blk.cell 7, HC7.out.blk.cell 8, HC7.out.blk.cell 9, HC7.out.blk.cell 10, HC7.out.blk.cell 11⟩) (fun hHeld => ?_)
    clear hK K
    try simp only [Act.put, List.setIfInBounds_toArray, List.set_cons_zero, List.set_cons_succ]
    refine takeO 19 (some 131) (v := ?_) rfl rfl (by kernel_rfl) (by kernel_rfl) (by kernel_rfl) (fun _ _ _ h => h) (Or.inl ⟨by rfl, ?_⟩) (by assumption) ?_
    rotate_left 1
    · intro w hSw; (try dsimp only at hSw); go_simp; all_goals with_reducible rfl
    try simp only [Act.put, List.setIfInBounds_toArray, List.set_cons_zero, List.set_cons_succ]
    refine takeO 20 (some 132) (v := ?_) rfl rfl (by kernel_rfl) (by kernel_rfl) (by kernel_rfl) (fun _ _ _ h => h) (Or.inl ⟨by rfl, ?_⟩) (by assumption) ?_
    rotate_left 1
    · intro w hSw; (try dsimp only at hSw); go_simp; all_goals with_reducible rfl
    try simp only [Act.put, List.setIfInBounds_toArray, List.set_cons_zero, List.set_cons_succ]
    refine wpAnyH_ready (rs := [21]) (by kernel_rfl) (by simp) ?_
    refine AllReadyH.cons rfl (fun K hK => ?_) AllReadyH.nil
    go_simp
    refine (cw_tset (S := S) (y := ⟨y.turn + 1, ty, y.first, y.hedged⟩) HC6.out (ty) draw (S.now + wt) HSLT.out HWM.out).mono ?_; rintro e w7 ⟨O7, r7, rfl, hc7, ha7, hf7⟩; have HC7 := Lib.hid hc7; have HA7 := Lib.hid (show AgO w.heap.size O O7 from fun b hb => (ha7 b (Nat.lt_of_lt_of_le hb HF6.out.size)).trans (HA0.out b hb)); have HF7 := Lib.hid (COut.trans HF6.out hf7 HA0.out); have HX7 := Lib.hid (HX6.out.frm hf7 NX.out); have HT7 := Lib.hid (show w7.cell? ⟨A.q id, 6 + s * 4 + 1, none⟩ = some (.int .i64 (ty)) from tset_cell HC7.out HM.out h0 (by rw [HS6.out]; omega) 1 (by omega)); clear hc7 ha7 hf7
    go_wp2_with fail
    refine hK.out _ _ (by first | exact ⟨HX5.out.cell 0, HC5.out.blk.cell 16, HC5.out.blk.cell 13, HT5.out, HC5.out.blk.cell 0, HC5.out.blk.cell 1, HC5.out.blk.cell 2, HC5.out.blk.cell 3, HC5.out.blk.cell 4, HC5.out.blk.cell 5, HC5.out.blk.cell 6, HC5.out.blk.cell 7, HC5.out.blk.cell 8, HC5.out.blk.cell 9, HC5.out.blk.cell 10, HC5.out.blk.cell 11⟩ | exact ⟨HX6.out.cell 0, HC6.out.blk.cell 16, HC6.out.blk.cell 13, HT6.out, HC6.out.blk.cell 0, HC6.out.blk.cell 1, HC6.out.blk.cell 2, HC6.out.blk.cell 3, HC6.out.blk.cell 4, HC6.out.blk.cell 5, HC6.out.blk.cell 6, HC6.out.blk.cell 7, HC6.out.blk.cell 8, HC6.out.blk.cell 9, HC6.out.blk.cell 10, HC6.out.blk.cell 11⟩ | exact ⟨HX7.out.cell 0, HC7.out.blk.cell 16, HC7.out.blk.cell 13, HT7.out, HC7.out.blk.cell 0, HC7.out.blk.cell 1, HC7.out.blk.cell 2, HC7.out.blk.cell 3, HC7.out.blk.cell 4, HC7.out.blk.cell 5, HC7.out.blk.cell 6, HC7.out.blk.cell 7, HC7.out.blk.cell 8, HC7.out.blk.cell 9, HC7.out.blk.cell 10, HC7.out.blk.cell 11⟩) (fun hHeld => ?_)
    clear hK K
    try simp only [Act.put, List.setIfInBounds_toArray, List.set_cons_zero, List.set_cons_succ]
    refine wpAnyH_done (by kernel_rfl) ?_ _
    clear hHeld HC5 HC6 HX5 HX6 HT5 HT6 HF5 HF6 HBQ5 emin ewr
    have HT8 := Lib.hid (show w7.drew.cell? ⟨A.q id, 6 + s * 4, none⟩ = some (.int .i64 (y.turn + 1)) from tset_cell HC7.out HM.out h0 (by rw [HS6.out]; omega) 0 (by omega))
    have HC8 := Lib.hid (show CW w7.drew O7 A p ((S.setH id s ⟨y.turn + 1, ty, y.first, y.hedged⟩).tset id s (ty) draw) from HC7.out.below (below_drewN (Below.refl _ w7) 1) (AgO.refl _ _))
    have HX8 := Lib.hid (show Blk w7.drew w.heap.size 29 [.pointer (some ⟨p, 0, none⟩)] from HX7.out)
    have hak := cask_any O7 A p ((S.setH id s ⟨y.turn + 1, ty, y.first, y.hedged⟩).tset id s (ty) draw) id s (y.turn + 1) w7.drew HC8.out HM.out h0 hs hsh (by omega) (by omega) HCP1.out HCP2.out ho
    unfold AskE at hak
    rw [show ((S.setH id s ⟨y.turn + 1, ty, y.first, y.hedged⟩).tset id s (ty) draw).askL id s (y.turn + 1) = S.askL id s (y.turn + 1) from askL_setH S id s _ id s _ rfl] at hak
    have HAK := Lib.hid hak
    clear hak
    go_upto_region 15 with fail
    refine wp_region_held_drew (S := (fun w' => w'.cell? ⟨w.heap.size, 0, none⟩ = some (.pointer (some ⟨p, 0, none⟩)) ∧ w'.cell? ⟨A.q id, 6 + s * 4, none⟩ = some (.int .i64 (y.turn + 1)))) (by kernel_rfl) (by first | exact ⟨HX8.out.cell 0, HT8.out⟩ | exact ⟨HX9.out.cell 0, HT9.out⟩) (fun hHeld => ?_)
    refine takeO 0 (some 134) (v := ?_) rfl rfl (by kernel_rfl) (by kernel_rfl) (by kernel_rfl) (fun _ _ _ h => h) (Or.inl ⟨by rfl, ?_⟩) (by assumption) ?_
    rotate_left 1
    · intro w hSw; (try dsimp only at hSw); go_simp; all_goals with_reducible rfl
    try simp only [Act.put, List.setIfInBounds_toArray, List.set_cons_zero, List.set_cons_succ]
    refine takeO 1 (some 135) (v := ?_) rfl rfl (by kernel_rfl) (by kernel_rfl) (by kernel_rfl) (fun _ _ _ h => h) (Or.inl ⟨by rfl, ?_⟩) (by assumption) ?_
    rotate_left 1
    · intro w hSw; (try dsimp only at hSw); go_simp; all_goals with_reducible rfl
    try simp only [Act.put, List.setIfInBounds_toArray, List.set_cons_zero, List.set_cons_succ]
    refine takeO 2 (some 136) (v := ?_) rfl rfl (by kernel_rfl) (by kernel_rfl) (by kernel_rfl) (fun _ _ _ h => h) (Or.inl ⟨by rfl, ?_⟩) (by assumption) ?_
    rotate_left 1
    · intro w hSw; (try dsimp only at hSw); go_simp; all_goals with_reducible rfl
    try simp only [Act.put, List.setIfInBounds_toArray, List.set_cons_zero, List.set_cons_succ]
    refine takeO 3 (some 137) (v := ?_) rfl rfl (by kernel_rfl) (by kernel_rfl) (by kernel_rfl) (fun _ _ _ h => h) (Or.inl ⟨by rfl, ?_⟩) (by assumption) ?_
    rotate_left 1
    · intro w hSw; (try dsimp only at hSw); go_simp; all_goals with_reducible rfl
    try simp only [Act.put, List.setIfInBounds_toArray, List.set_cons_zero, List.set_cons_succ]
    refine takeO 4 (some 138) (v := ?_) rfl rfl (by kernel_rfl) (by kernel_rfl) (by kernel_rfl) (fun _ _ _ h => h) (Or.inl ⟨by rfl, ?_⟩) (by assumption) ?_
    rotate_left 1
    · intro w hSw; (try dsimp only at hSw); go_simp; all_goals with_reducible rfl
    try simp only [Act.put, List.setIfInBounds_toArray, List.set_cons_zero, List.set_cons_succ]
    refine takeO 5 (some 139) (v := ?_) rfl rfl (by kernel_rfl) (by kernel_rfl) (by kernel_rfl) (fun _ _ _ h => h) (Or.inl ⟨by rfl, ?_⟩) (by assumption) ?_
    rotate_left 1
    · intro w hSw; (try dsimp only at hSw); go_simp; all_goals with_reducible rfl
    try simp only [Act.put, List.setIfInBounds_toArray, List.set_cons_zero, List.set_cons_succ]
    refine takeO 6 (some 140) (v := ?_) rfl rfl (by kernel_rfl) (by kernel_rfl) (by kernel_rfl) (fun _ _ _ h => h) (Or.inl ⟨by rfl, ?_⟩) (by assumption) ?_
    rotate_left 1
    · intro w hSw; (try dsimp only at hSw); go_simp; all_goals with_reducible rfl
    try simp only [Act.put, List.setIfInBounds_toArray, List.set_cons_zero, List.set_cons_succ]
    refine wpAnyH_ready (rs := [7]) (by kernel_rfl) (by simp) ?_
    refine AllReadyH.cons rfl (fun K hK => ?_) AllReadyH.nil
    go_simp
    refine HAK.out.mono ?_; rintro e w9 ⟨v9, rfl, hl9, hb9⟩; clear HAK; have HX9 := Lib.hid (HX8.out.below hb9 HX8.out.lt); have HT9 := Lib.hid ((hb9.cell (p := ⟨A.q id, 6 + s * 4, none⟩) (cell?_lt HT8.out)).trans HT8.out); have HL9 := Lib.hid hl9; have HB9 := Lib.hid hb9; clear hl9 hb9
    go_wp2_with fail
    refine hK.out _ _ (by first | exact ⟨HX8.out.cell 0, HT8.out⟩ | exact ⟨HX9.out.cell 0, HT9.out⟩) (fun hHeld => ?_)
    clear hK K
    try simp only [Act.put, List.setIfInBounds_toArray, List.set_cons_zero, List.set_cons_succ]
    refine takeO 8 (some 8) (v := ?_) rfl rfl (by kernel_rfl) (by kernel_rfl) (by kernel_rfl) (fun _ _ _ h => h) (Or.inl ⟨by rfl, ?_⟩) (by assumption) ?_
    rotate_left 1
    · intro w hSw; (try dsimp only at hSw); go_simp; all_goals with_reducible rfl
    try simp only [Act.put, List.setIfInBounds_toArray, List.set_cons_zero, List.set_cons_succ]
    refine wpAnyH_done (by kernel_rfl) ?_ _
    go_wp2_with fail
    go_ret
    refine ⟨v9, O7.upd w7.heap.size 0, rfl, HC8.out.below HB9.out (AgO.upd _ _ _), HL9.out.base HF7.out.size, fun b hb => (AgO.upd w7.heap.size 0 O7 b (Nat.lt_of_lt_of_le hb HF7.out.size)).trans (HA7.out b hb), COut.trans (show COut O w w7.drew from HF7.out.drew) (COut.below (O := O7) HB9.out) HA7.out⟩
  rw [if_neg hle] at hLK
  obtain ⟨hg, hhg⟩ : ∃ x, y.hedged = x := ⟨_, rfl⟩
  rw [hhg] at hLK c3
  have t7 : w1.cell? ⟨p, 7, none⟩ = some (.int .i64 S.c.he) := HC1.out.blk.cell 7
  have ewn : IntKind.i64.wrap (S.now - y.first) = S.now - y.first := wr_in _ (by omega) (by omega)
  have NONE := Lib.hid (show LkE O A p (S, []) w (.returned (.slice none 0 0)) w1.drew from ⟨_, O0, rfl, HC1.out.below (below_drewN (Below.refl _ w1) 1) (AgO.refl _ _), LetAt.nil _ _ _, HA0.out, COut.trans (COut.below (O := O) HB1.out) (COut.below (O := O0) (below_drewN (Below.refl _ w1) 1)) HA0.out⟩)
  by_cases hq : S.c.he ≤ S.now - y.first
  · cases hg with
    | true =>
      rw [if_neg (by simp)] at hLK
      subst hLK
      have X0 := Lib.hid x0
      have T13 := Lib.hid t13
      have T7 := Lib.hid t7
      have C2 := Lib.hid c2
      have C3 := Lib.hid c3
      go_upto_region 11 with fail
      clear x0 t13 t7 c0 c1 c2 c3
      refine wp_region_held_drew (S := (fun w' => w'.cell? ⟨w.heap.size, 0, none⟩ = some (.pointer (some ⟨p, 0, none⟩)) ∧ w'.cell? ⟨p, 13, none⟩ = some (.int .i64 S.now) ∧ w'.cell? ⟨p, 7, none⟩ = some (.int .i64 S.c.he) ∧ w'.cell? ⟨A.q id, 6 + s * 4 + 2, none⟩ = some (.int .i64 y.first) ∧ w'.cell? ⟨A.q id, 6 + s * 4 + 3, none⟩ = some (.bool true))) (by kernel_rfl) (by exact ⟨X0.out, T13.out, T7.out, C2.out, C3.out⟩) (fun hHeld => ?_)
      refine takeO 0 (some 78) (v := ?_) rfl rfl (by kernel_rfl) (by kernel_rfl) (by kernel_rfl) (fun _ _ _ h => h) (Or.inl ⟨by rfl, ?_⟩) (by assumption) ?_
      rotate_left 1
      · intro w hSw; (try dsimp only at hSw); go_simp; all_goals with_reducible rfl
      try simp only [Act.put, List.setIfInBounds_toArray, List.set_cons_zero, List.set_cons_succ]
      refine takeO 1 (some 79) (v := ?_) rfl rfl (by kernel_rfl) (by kernel_rfl) (by kernel_rfl) (fun _ _ _ h => h) (Or.inl ⟨by rfl, ?_⟩) (by assumption) ?_
      rotate_left 1
      · intro w hSw; (try dsimp only at hSw); go_simp; all_goals with_reducible rfl
      try simp only [Act.put, List.setIfInBounds_toArray, List.set_cons_zero, List.set_cons_succ]
      refine takeO 2 (some 80) (v := ?_) rfl rfl (by kernel_rfl) (by kernel_rfl) (by kernel_rfl) (fun _ _ _ h => h) (Or.inl ⟨by rfl, ?_⟩) (by assumption) ?_
      rotate_left 1
      · intro w hSw; (try dsimp only at hSw); go_simp; all_goals with_reducible rfl
      try simp only [Act.put, List.setIfInBounds_toArray, List.set_cons_zero, List.set_cons_succ]
      refine takeO 3 (some 81) (v := ?_) rfl rfl (by kernel_rfl) (by kernel_rfl) (by kernel_rfl) (fun _ _ _ h => h) (Or.inl ⟨by rfl, ?_⟩) (by assumption) ?_
      rotate_left 1
      · intro w hSw; (try dsimp only at hSw); go_simp; all_goals with_reducible rfl
      try simp only [Act.put, List.setIfInBounds_toArray, List.set_cons_zero, List.set_cons_succ]
      refine takeO 4 (some 82) (v := ?_) rfl rfl (by kernel_rfl) (by kernel_rfl) (by kernel_rfl) (fun _ _ _ h => h) (Or.inl ⟨by rfl, ?_⟩) (by assumption) ?_
      rotate_left 1
      · intro w hSw; (try dsimp only at hSw); go_simp; all_goals with_reducible rfl
      try simp only [Act.put, List.setIfInBounds_toArray, List.set_cons_zero, List.set_cons_succ]
      refine takeO 5 (some 83) (v := ?_) rfl rfl (by kernel_rfl) (by kernel_rfl) (by kernel_rfl) (fun _ _ _ h => h) (Or.inl ⟨by rfl, ?_⟩) (by assumption) ?_
      rotate_left 1
      · intro w hSw; (try dsimp only at hSw); go_simp; all_goals with_reducible rfl
      try simp only [Act.put, List.setIfInBounds_toArray, List.set_cons_zero, List.set_cons_succ]
      refine takeO 6 (some 84) (v := undef) rfl rfl (by kernel_rfl) (by kernel_rfl) (by kernel_rfl) (fun _ _ _ h => h) (Or.inr ⟨by rfl, rfl⟩) (by assumption) ?_
      try simp only [Act.put, List.setIfInBounds_toArray, List.set_cons_zero, List.set_cons_succ]
      refine takeO 7 (some 85) (v := undef) rfl rfl (by kernel_rfl) (by kernel_rfl) (by kernel_rfl) (fun _ _ _ h => h) (Or.inr ⟨by rfl, rfl⟩) (by assumption) ?_
      try simp only [Act.put, List.setIfInBounds_toArray, List.set_cons_zero, List.set_cons_succ]
      refine takeO 8 (some 86) (v := undef) rfl rfl (by kernel_rfl) (by kernel_rfl) (by kernel_rfl) (fun _ _ _ h => h) (Or.inr ⟨by rfl, rfl⟩) (by assumption) ?_
      try simp only [Act.put, List.setIfInBounds_toArray, List.set_cons_zero, List.set_cons_succ]
      refine takeO 9 (some 87) (v := undef) rfl rfl (by kernel_rfl) (by kernel_rfl) (by kernel_rfl) (fun _ _ _ h => h) (Or.inr ⟨by rfl, rfl⟩) (by assumption) ?_
      try simp only [Act.put, List.setIfInBounds_toArray, List.set_cons_zero, List.set_cons_succ]
      refine takeO 10 (some 88) (v := undef) rfl rfl (by kernel_rfl) (by kernel_rfl) (by kernel_rfl) (fun _ _ _ h => h) (Or.inr ⟨by rfl, rfl⟩) (by assumption) ?_
      try simp only [Act.put, List.setIfInBounds_toArray, List.set_cons_zero, List.set_cons_succ]
      refine takeO 11 (some 89) (v := undef) rfl rfl (by kernel_rfl) (by kernel_rfl) (by kernel_rfl) (fun _ _ _ h => h) (Or.inr ⟨by rfl, rfl⟩) (by assumption) ?_
      try simp only [Act.put, List.setIfInBounds_toArray, List.set_cons_zero, List.set_cons_succ]
      refine takeO 12 (some 90) (v := undef) rfl rfl (by kernel_rfl) (by kernel_rfl) (by kernel_rfl) (fun _ _ _ h => h) (Or.inr ⟨by rfl, rfl⟩) (by assumption) ?_
      try simp only [Act.put, List.setIfInBounds_toArray, List.set_cons_zero, List.set_cons_succ]
      refine takeO 13 (some 91) (v := undef) rfl rfl (by kernel_rfl) (by kernel_rfl) (by kernel_rfl) (fun _ _ _ h => h) (Or.inr ⟨by rfl, rfl⟩) (by assumption) ?_
      try simp only [Act.put, List.setIfInBounds_toArray, List.set_cons_zero, List.set_cons_succ]
      refine takeO 14 (some 92) (v := undef) rfl rfl (by kernel_rfl) (by kernel_rfl) (by kernel_rfl) (fun _ _ _ h => h) (Or.inr ⟨by rfl, rfl⟩) (by assumption) ?_
      try simp only [Act.put, List.setIfInBounds_toArray, List.set_cons_zero, List.set_cons_succ]
      refine takeO 15 (some 93) (v := undef) rfl rfl (by kernel_rfl) (by kernel_rfl) (by kernel_rfl) (fun _ _ _ h => h) (Or.inr ⟨by rfl, rfl⟩) (by assumption) ?_
      try simp only [Act.put, List.setIfInBounds_toArray, List.set_cons_zero, List.set_cons_succ]
      refine takeO 16 (some 94) (v := undef) rfl rfl (by kernel_rfl) (by kernel_rfl) (by kernel_rfl) (fun _ _ _ h => h) (Or.inr ⟨by rfl, rfl⟩) (by assumption) ?_
      try simp only [Act.put, List.setIfInBounds_toArray, List.set_cons_zero, List.set_cons_succ]
      refine takeO 17 (some 95) (v := undef) rfl rfl (by kernel_rfl) (by kernel_rfl) (by kernel_rfl) (fun _ _ _ h => h) (Or.inr ⟨by rfl, rfl⟩) (by assumption) ?_
      try simp only [Act.put, List.setIfInBounds_toArray, List.set_cons_zero, List.set_cons_succ]
      refine takeO 18 (some 96) (v := undef) rfl rfl (by kernel_rfl) (by kernel_rfl) (by kernel_rfl) (fun _ _ _ h => h) (Or.inr ⟨by rfl, rfl⟩) (by assumption) ?_
      try simp only [Act.put, List.setIfInBounds_toArray, List.set_cons_zero, List.set_cons_succ]
      refine takeO 19 (some 97) (v := undef) rfl rfl (by kernel_rfl) (by kernel_rfl) (by kernel_rfl) (fun _ _ _ h => h) (Or.inr ⟨by rfl, rfl⟩) (by assumption) ?_
      try simp only [Act.put, List.setIfInBounds_toArray, List.set_cons_zero, List.set_cons_succ]
      refine takeO 20 (some 98) (v := undef) rfl rfl (by kernel_rfl) (by kernel_rfl) (by kernel_rfl) (fun _ _ _ h => h) (Or.inr ⟨by rfl, rfl⟩) (by assumption) ?_
      try simp only [Act.put, List.setIfInBounds_toArray, List.set_cons_zero, List.set_cons_succ]
      refine takeO 21 (some 99) (v := ?_) rfl rfl (by kernel_rfl) (by kernel_rfl) (by kernel_rfl) (fun _ _ _ h => h) (Or.inl ⟨by rfl, ?_⟩) (by assumption) ?_
      rotate_left 1
      · intro w hSw; (try dsimp only at hSw); go_simp; all_goals with_reducible rfl
      try simp only [Act.put, List.setIfInBounds_toArray, List.set_cons_zero, List.set_cons_succ]
      refine takeO 22 (some 77) (v := ?_) rfl rfl (by kernel_rfl) (by kernel_rfl) (by kernel_rfl) (fun _ _ _ h => h) (Or.inl ⟨by rfl, ?_⟩) (by assumption) ?_
      rotate_left 1
      · intro w hSw; (try dsimp only at hSw); go_simp; all_goals with_reducible rfl
      try simp only [Act.put, List.setIfInBounds_toArray, List.set_cons_zero, List.set_cons_succ]
      refine wpAnyH_done (by kernel_rfl) ?_ _
      go_wp2_with fail
      go_ret
      exact NONE.out
    | false =>
      rw [if_pos ⟨rfl, hq⟩] at hLK
      subst hLK
      have X0 := Lib.hid x0
      have T13 := Lib.hid t13
      have T7 := Lib.hid t7
      have C2 := Lib.hid c2
      have C3 := Lib.hid c3
      go_upto_region 11 with fail
      clear x0 t13 t7 c0 c1 c2 c3
      refine wp_region_held_drew (S := (fun w' => w'.cell? ⟨w.heap.size, 0, none⟩ = some (.pointer (some ⟨p, 0, none⟩)) ∧ w'.cell? ⟨p, 13, none⟩ = some (.int .i64 S.now) ∧ w'.cell? ⟨p, 7, none⟩ = some (.int .i64 S.c.he) ∧ w'.cell? ⟨A.q id, 6 + s * 4 + 2, none⟩ = some (.int .i64 y.first) ∧ w'.cell? ⟨A.q id, 6 + s * 4 + 3, none⟩ = some (.bool false))) (by kernel_rfl) (by exact ⟨X0.out, T13.out, T7.out, C2.out, C3.out⟩) (fun hHeld => ?_)
      refine takeO 0 (some 78) (v := ?_) rfl rfl (by kernel_rfl) (by kernel_rfl) (by kernel_rfl) (fun _ _ _ h => h) (Or.inl ⟨by rfl, ?_⟩) (by assumption) ?_
      rotate_left 1
      · intro w hSw; (try dsimp only at hSw); go_simp; all_goals with_reducible rfl
      try simp only [Act.put, List.setIfInBounds_toArray, List.set_cons_zero, List.set_cons_succ]
      refine takeO 1 (some 79) (v := ?_) rfl rfl (by kernel_rfl) (by kernel_rfl) (by kernel_rfl) (fun _ _ _ h => h) (Or.inl ⟨by rfl, ?_⟩) (by assumption) ?_
      rotate_left 1
      · intro w hSw; (try dsimp only at hSw); go_simp; all_goals with_reducible rfl
      try simp only [Act.put, List.setIfInBounds_toArray, List.set_cons_zero, List.set_cons_succ]
      refine takeO 2 (some 80) (v := ?_) rfl rfl (by kernel_rfl) (by kernel_rfl) (by kernel_rfl) (fun _ _ _ h => h) (Or.inl ⟨by rfl, ?_⟩) (by assumption) ?_
      rotate_left 1
      · intro w hSw; (try dsimp only at hSw); go_simp; all_goals with_reducible rfl
      try simp only [Act.put, List.setIfInBounds_toArray, List.set_cons_zero, List.set_cons_succ]
      refine takeO 3 (some 81) (v := ?_) rfl rfl (by kernel_rfl) (by kernel_rfl) (by kernel_rfl) (fun _ _ _ h => h) (Or.inl ⟨by rfl, ?_⟩) (by assumption) ?_
      rotate_left 1
      · intro w hSw; (try dsimp only at hSw); go_simp; all_goals with_reducible rfl
      try simp only [Act.put, List.setIfInBounds_toArray, List.set_cons_zero, List.set_cons_succ]
      refine takeO 4 (some 82) (v := ?_) rfl rfl (by kernel_rfl) (by kernel_rfl) (by kernel_rfl) (fun _ _ _ h => h) (Or.inl ⟨by rfl, ?_⟩) (by assumption) ?_
      rotate_left 1
      · intro w hSw; (try dsimp only at hSw); go_simp; all_goals with_reducible rfl
      try simp only [Act.put, List.setIfInBounds_toArray, List.set_cons_zero, List.set_cons_succ]
      refine takeO 5 (some 83) (v := ?_) rfl rfl (by kernel_rfl) (by kernel_rfl) (by kernel_rfl) (fun _ _ _ h => h) (Or.inl ⟨by rfl, ?_⟩) (by assumption) ?_
      rotate_left 1
      · intro w hSw; (try dsimp only at hSw); go_simp; all_goals with_reducible rfl
      try simp only [Act.put, List.setIfInBounds_toArray, List.set_cons_zero, List.set_cons_succ]
      refine takeO 6 (some 84) (v := ?_) rfl rfl (by kernel_rfl) (by kernel_rfl) (by kernel_rfl) (fun _ _ _ h => h) (Or.inl ⟨by rfl, ?_⟩) (by assumption) ?_
      rotate_left 1
      · intro w hSw; (try dsimp only at hSw); go_simp; all_goals with_reducible rfl
      try simp only [Act.put, List.setIfInBounds_toArray, List.set_cons_zero, List.set_cons_succ]
      refine takeO 7 (some 85) (v := ?_) rfl rfl (by kernel_rfl) (by kernel_rfl) (by kernel_rfl) (fun _ _ _ h => h) (Or.inl ⟨by rfl, ?_⟩) (by assumption) ?_
      rotate_left 1
      · intro w hSw; (try dsimp only at hSw); go_simp; all_goals with_reducible rfl
      try simp only [Act.put, List.setIfInBounds_toArray, List.set_cons_zero, List.set_cons_succ]
      refine takeO 8 (some 86) (v := ?_) rfl rfl (by kernel_rfl) (by kernel_rfl) (by kernel_rfl) (fun _ _ _ h => h) (Or.inl ⟨by rfl, ?_⟩) (by assumption) ?_
      rotate_left 1
      · intro w hSw; (try dsimp only at hSw); go_simp; all_goals with_reducible rfl
      try simp only [Act.put, List.setIfInBounds_toArray, List.set_cons_zero, List.set_cons_succ]
      refine takeO 9 (some 87) (v := ?_) rfl rfl (by kernel_rfl) (by kernel_rfl) (by kernel_rfl) (fun _ _ _ h => h) (Or.inl ⟨by rfl, ?_⟩) (by assumption) ?_
      rotate_left 1
      · intro w hSw; (try dsimp only at hSw); go_simp; all_goals with_reducible rfl
      try simp only [Act.put, List.setIfInBounds_toArray, List.set_cons_zero, List.set_cons_succ]
      refine takeO 10 (some 88) (v := ?_) rfl rfl (by kernel_rfl) (by kernel_rfl) (by kernel_rfl) (fun _ _ _ h => h) (Or.inl ⟨by rfl, ?_⟩) (by assumption) ?_
      rotate_left 1
      · intro w hSw; (try dsimp only at hSw); go_simp; all_goals with_reducible rfl
      try simp only [Act.put, List.setIfInBounds_toArray, List.set_cons_zero, List.set_cons_succ]
      refine takeO 11 (some 89) (v := ?_) rfl rfl (by kernel_rfl) (by kernel_rfl) (by kernel_rfl) (fun _ _ _ h => h) (Or.inl ⟨by rfl, ?_⟩) (by assumption) ?_
      rotate_left 1
      · intro w hSw; (try dsimp only at hSw); go_simp; all_goals with_reducible rfl
      try simp only [Act.put, List.setIfInBounds_toArray, List.set_cons_zero, List.set_cons_succ]
      refine takeO 12 (some 90) (v := ?_) rfl rfl (by kernel_rfl) (by kernel_rfl) (by kernel_rfl) (fun _ _ _ h => h) (Or.inl ⟨by rfl, ?_⟩) (by assumption) ?_
      rotate_left 1
      · intro w hSw; (try dsimp only at hSw); go_simp; all_goals with_reducible rfl
      try simp only [Act.put, List.setIfInBounds_toArray, List.set_cons_zero, List.set_cons_succ]
      refine takeO 13 (some 91) (v := ?_) rfl rfl (by kernel_rfl) (by kernel_rfl) (by kernel_rfl) (fun _ _ _ h => h) (Or.inl ⟨by rfl, ?_⟩) (by assumption) ?_
      rotate_left 1
      · intro w hSw; (try dsimp only at hSw); go_simp; all_goals with_reducible rfl
      try simp only [Act.put, List.setIfInBounds_toArray, List.set_cons_zero, List.set_cons_succ]
      refine takeO 14 (some 92) (v := ?_) rfl rfl (by kernel_rfl) (by kernel_rfl) (by kernel_rfl) (fun _ _ _ h => h) (Or.inl ⟨by rfl, ?_⟩) (by assumption) ?_
      rotate_left 1
      · intro w hSw; (try dsimp only at hSw); go_simp; all_goals with_reducible rfl
      try simp only [Act.put, List.setIfInBounds_toArray, List.set_cons_zero, List.set_cons_succ]
      refine takeO 15 (some 93) (v := ?_) rfl rfl (by kernel_rfl) (by kernel_rfl) (by kernel_rfl) (fun _ _ _ h => h) (Or.inl ⟨by rfl, ?_⟩) (by assumption) ?_
      rotate_left 1
      · intro w hSw; (try dsimp only at hSw); go_simp; all_goals with_reducible rfl
      try simp only [Act.put, List.setIfInBounds_toArray, List.set_cons_zero, List.set_cons_succ]
      refine takeO 16 (some 94) (v := ?_) rfl rfl (by kernel_rfl) (by kernel_rfl) (by kernel_rfl) (fun _ _ _ h => h) (Or.inl ⟨by rfl, ?_⟩) (by assumption) ?_
      rotate_left 1
      · intro w hSw; (try dsimp only at hSw); go_simp; all_goals with_reducible rfl
      try simp only [Act.put, List.setIfInBounds_toArray, List.set_cons_zero, List.set_cons_succ]
      refine takeO 17 (some 95) (v := ?_) rfl rfl (by kernel_rfl) (by kernel_rfl) (by kernel_rfl) (fun _ _ _ h => h) (Or.inl ⟨by rfl, ?_⟩) (by assumption) ?_
      rotate_left 1
      · intro w hSw; (try dsimp only at hSw); go_simp; all_goals with_reducible rfl
      try simp only [Act.put, List.setIfInBounds_toArray, List.set_cons_zero, List.set_cons_succ]
      refine takeO 18 (some 96) (v := ?_) rfl rfl (by kernel_rfl) (by kernel_rfl) (by kernel_rfl) (fun _ _ _ h => h) (Or.inl ⟨by rfl, ?_⟩) (by assumption) ?_
      rotate_left 1
      · intro w hSw; (try dsimp only at hSw); go_simp; all_goals with_reducible rfl
      try simp only [Act.put, List.setIfInBounds_toArray, List.set_cons_zero, List.set_cons_succ]
      refine takeO 19 (some 97) (v := ?_) rfl rfl (by kernel_rfl) (by kernel_rfl) (by kernel_rfl) (fun _ _ _ h => h) (Or.inl ⟨by rfl, ?_⟩) (by assumption) ?_
      rotate_left 1
      · intro w hSw; (try dsimp only at hSw); go_simp; all_goals with_reducible rfl
      try simp only [Act.put, List.setIfInBounds_toArray, List.set_cons_zero, List.set_cons_succ]
      refine takeO 20 (some 98) (v := ?_) rfl rfl (by kernel_rfl) (by kernel_rfl) (by kernel_rfl) (fun _ _ _ h => h) (Or.inl ⟨by rfl, ?_⟩) (by assumption) ?_
      rotate_left 1
      · intro w hSw; (try dsimp only at hSw); go_simp; all_goals with_reducible rfl
      try simp only [Act.put, List.setIfInBounds_toArray, List.set_cons_zero, List.set_cons_succ]
      refine takeO 21 (some 99) (v := ?_) rfl rfl (by kernel_rfl) (by kernel_rfl) (by kernel_rfl) (fun _ _ _ h => h) (Or.inl ⟨by rfl, ?_⟩) (by assumption) ?_
      rotate_left 1
      · intro w hSw; (try dsimp only at hSw); go_simp; all_goals with_reducible rfl
      try simp only [Act.put, List.setIfInBounds_toArray, List.set_cons_zero, List.set_cons_succ]
      refine takeO 22 (some 77) (v := ?_) rfl rfl (by kernel_rfl) (by kernel_rfl) (by kernel_rfl) (fun _ _ _ h => h) (Or.inl ⟨by rfl, ?_⟩) (by assumption) ?_
      rotate_left 1
      · intro w hSw; (try dsimp only at hSw); go_simp; all_goals with_reducible rfl
      try simp only [Act.put, List.setIfInBounds_toArray, List.set_cons_zero, List.set_cons_succ]
      refine wpAnyH_done (by kernel_rfl) ?_ _
      have HC2 := Lib.hid (show CW w1.drew O0 A p S from HC1.out.below (below_drewN (Below.refl _ w1) 1) (AgO.refl _ _))
      have HB2 := Lib.hid (HB1.out.drew)
      have HX2 := Lib.hid (show Blk w1.drew w.heap.size 29 [.pointer (some ⟨p, 0, none⟩)] from HX1.out)
      have HQ2 := Lib.hid (show Blk w1.drew (A.q id) 141 ((S.Q id).cells id (A.m id)) from HQ1.out)
      have fz2 : ∀ o, w1.drew.frozen? ⟨A.q id, o, none⟩ = false := fun o => fz_of (o := o) HQ2.out
      have c3 : w1.drew.cell? ⟨A.q id, 6 + s * 4 + 3, none⟩ = some (.bool false) := C3.out
      obtain ⟨cc1, f1⟩ := CW.with_sh (j := 3) (v := .bool true) (y' := ⟨y.turn, y.try_, y.first, true⟩) HC2.out HM.out h0 HY.out (by omega) rfl
      have HC3 := Lib.hid cc1
      have HF3 := Lib.hid (COut.trans (COut.below (O := O) HB2.out) f1 HA0.out)
      obtain ⟨w3, hw3⟩ : ∃ V, w1.drew.setCell ⟨A.q id, 6 + s * 4 + 3, none⟩ (.bool true) = V := ⟨_, rfl⟩
      have hx3 : Blk w3 w.heap.size 29 [.pointer (some ⟨p, 0, none⟩)] := by rw [← hw3]; exact HX2.out.frm ((Frm.refl (fun b => b = A.q id) w1.drew).setCell _ _ (.inl rfl)) (fun e => blk_ne HX2.out HQ2.out (by decide) e)
      rw [hw3] at HC3 HF3
      have HX3 := Lib.hid hx3
      clear cc1 f1 hx3 hHeld
      have hq3 := (CWx.qb HC3.out id HM.out h0 (fun q => q)).1
      rw [setH_Q] at hq3
      have HT3 := Lib.hid (show w3.cell? ⟨A.q id, 6 + s * 4, none⟩ = some (.int .i64 y.turn) from (hq3.cell _).trans (qs_get (y := { S.Q id with sh := (S.Q id).sh.set s ⟨y.turn, y.try_, y.first, true⟩ }) (h := ⟨y.turn, y.try_, y.first, true⟩) (j := 0) (List.getElem?_set_self (show s < (S.Q id).sh.length from by rw [HS6.out]; omega)) (by omega)))
      clear hq3
      have ewt : IntKind.i64.wrap (y.turn + 1) = y.turn + 1 := wr_in _ (by omega) (by omega)
      have HC4 := Lib.hid (show CW w3.drew O0 A p (S.setH id s ⟨y.turn, y.try_, y.first, true⟩) from HC3.out.below (below_drewN (Below.refl _ w3) 1) (AgO.refl _ _))
      have HX4 := Lib.hid (show Blk w3.drew w.heap.size 29 [.pointer (some ⟨p, 0, none⟩)] from HX3.out)
      have HT4 := Lib.hid (show w3.drew.cell? ⟨A.q id, 6 + s * 4, none⟩ = some (.int .i64 y.turn) from HT3.out)
      have hak := cask_any O0 A p (S.setH id s ⟨y.turn, y.try_, y.first, true⟩) id s (y.turn + 1) w3.drew HC4.out HM.out h0 hs hsh (by omega) (by omega) HCP1.out HCP2.out ho
      unfold AskE at hak
      rw [show (S.setH id s ⟨y.turn, y.try_, y.first, true⟩).askL id s (y.turn + 1) = S.askL id s (y.turn + 1) from askL_setH S id s _ id s _ rfl] at hak
      have HAK := Lib.hid hak
      clear hak
      go_upto_region 13 with (rw [hw3])
      clear hw3 c3 fz2
      refine wp_region_held_drew (S := (fun w' => w'.cell? ⟨w.heap.size, 0, none⟩ = some (.pointer (some ⟨p, 0, none⟩)) ∧ w'.cell? ⟨A.q id, 6 + s * 4, none⟩ = some (.int .i64 y.turn))) (by kernel_rfl) (by first | exact ⟨HX4.out.cell 0, HT4.out⟩ | exact ⟨HX9.out.cell 0, HT9.out⟩) (fun hHeld => ?_)
      refine takeO 0 (some 103) (v := ?_) rfl rfl (by kernel_rfl) (by kernel_rfl) (by kernel_rfl) (fun _ _ _ h => h) (Or.inl ⟨by rfl, ?_⟩) (by assumption) ?_
      rotate_left 1
      · intro w hSw; (try dsimp only at hSw); go_simp; all_goals with_reducible rfl
      try simp only [Act.put, List.setIfInBounds_toArray, List.set_cons_zero, List.set_cons_succ]
      refine takeO 1 (some 104) (v := ?_) rfl rfl (by kernel_rfl) (by kernel_rfl) (by kernel_rfl) (fun _ _ _ h => h) (Or.inl ⟨by rfl, ?_⟩) (by assumption) ?_
      rotate_left 1
      · intro w hSw; (try dsimp only at hSw); go_simp; all_goals with_reducible rfl
      try simp only [Act.put, List.setIfInBounds_toArray, List.set_cons_zero, List.set_cons_succ]
      refine takeO 2 (some 105) (v := ?_) rfl rfl (by kernel_rfl) (by kernel_rfl) (by kernel_rfl) (fun _ _ _ h => h) (Or.inl ⟨by rfl, ?_⟩) (by assumption) ?_
      rotate_left 1
      · intro w hSw; (try dsimp only at hSw); go_simp; all_goals with_reducible rfl
      try simp only [Act.put, List.setIfInBounds_toArray, List.set_cons_zero, List.set_cons_succ]
      refine takeO 3 (some 106) (v := ?_) rfl rfl (by kernel_rfl) (by kernel_rfl) (by kernel_rfl) (fun _ _ _ h => h) (Or.inl ⟨by rfl, ?_⟩) (by assumption) ?_
      rotate_left 1
      · intro w hSw; (try dsimp only at hSw); go_simp; all_goals with_reducible rfl
      try simp only [Act.put, List.setIfInBounds_toArray, List.set_cons_zero, List.set_cons_succ]
      refine takeO 4 (some 107) (v := ?_) rfl rfl (by kernel_rfl) (by kernel_rfl) (by kernel_rfl) (fun _ _ _ h => h) (Or.inl ⟨by rfl, ?_⟩) (by assumption) ?_
      rotate_left 1
      · intro w hSw; (try dsimp only at hSw); go_simp; all_goals with_reducible rfl
      try simp only [Act.put, List.setIfInBounds_toArray, List.set_cons_zero, List.set_cons_succ]
      refine takeO 5 (some 108) (v := ?_) rfl rfl (by kernel_rfl) (by kernel_rfl) (by kernel_rfl) (fun _ _ _ h => h) (Or.inl ⟨by rfl, ?_⟩) (by assumption) ?_
      rotate_left 1
      · intro w hSw; (try dsimp only at hSw); go_simp; all_goals with_reducible rfl
      try simp only [Act.put, List.setIfInBounds_toArray, List.set_cons_zero, List.set_cons_succ]
      refine takeO 6 (some 109) (v := ?_) rfl rfl (by kernel_rfl) (by kernel_rfl) (by kernel_rfl) (fun _ _ _ h => h) (Or.inl ⟨by rfl, ?_⟩) (by assumption) ?_
      rotate_left 1
      · intro w hSw; (try dsimp only at hSw); go_simp; all_goals with_reducible rfl
      try simp only [Act.put, List.setIfInBounds_toArray, List.set_cons_zero, List.set_cons_succ]
      refine takeO 7 (some 110) (v := ?_) rfl rfl (by kernel_rfl) (by kernel_rfl) (by kernel_rfl) (fun _ _ _ h => h) (Or.inl ⟨by rfl, ?_⟩) (by assumption) ?_
      rotate_left 1
      · intro w hSw; (try dsimp only at hSw); go_simp; all_goals with_reducible rfl
      try simp only [Act.put, List.setIfInBounds_toArray, List.set_cons_zero, List.set_cons_succ]
      refine wpAnyH_ready (rs := [8]) (by kernel_rfl) (by simp) ?_
      refine AllReadyH.cons rfl (fun K hK => ?_) AllReadyH.nil
      go_simp
      refine HAK.out.mono ?_; rintro e w9 ⟨v9, rfl, hl9, hb9⟩; clear HAK; have HX9 := Lib.hid (HX4.out.below hb9 HX4.out.lt); have HT9 := Lib.hid ((hb9.cell (p := ⟨A.q id, 6 + s * 4, none⟩) (cell?_lt HT4.out)).trans HT4.out); have HL9 := Lib.hid hl9; have HB9 := Lib.hid hb9; clear hl9 hb9
      go_wp2_with fail
      refine hK.out _ _ (by first | exact ⟨HX4.out.cell 0, HT4.out⟩ | exact ⟨HX9.out.cell 0, HT9.out⟩) (fun hHeld => ?_)
      clear hK K
      try simp only [Act.put, List.setIfInBounds_toArray, List.set_cons_zero, List.set_cons_succ]
      refine takeO 9 (some 8) (v := ?_) rfl rfl (by kernel_rfl) (by kernel_rfl) (by kernel_rfl) (fun _ _ _ h => h) (Or.inl ⟨by rfl, ?_⟩) (by assumption) ?_
      rotate_left 1
      · intro w hSw; (try dsimp only at hSw); go_simp; all_goals with_reducible rfl
      try simp only [Act.put, List.setIfInBounds_toArray, List.set_cons_zero, List.set_cons_succ]
      refine wpAnyH_done (by kernel_rfl) ?_ _
      go_wp2_with fail
      go_ret
      refine ⟨v9, O0.upd w3.heap.size 0, rfl, HC4.out.below HB9.out (AgO.upd _ _ _), HL9.out.base HF3.out.size, fun b hb => (AgO.upd w3.heap.size 0 O0 b (Nat.lt_of_lt_of_le hb HF3.out.size)).trans (HA0.out b hb), COut.trans (show COut O w w3.drew from HF3.out.drew) (COut.below (O := O0) HB9.out) HA0.out⟩
  · rw [if_neg (fun q => hq q.2)] at hLK
    cases hg with
    | true =>
      subst hLK
      have X0 := Lib.hid x0
      have T13 := Lib.hid t13
      have T7 := Lib.hid t7
      have C2 := Lib.hid c2
      have C3 := Lib.hid c3
      go_upto_region 11 with fail
      clear x0 t13 t7 c0 c1 c2 c3
      refine wp_region_held_drew (S := (fun w' => w'.cell? ⟨w.heap.size, 0, none⟩ = some (.pointer (some ⟨p, 0, none⟩)) ∧ w'.cell? ⟨p, 13, none⟩ = some (.int .i64 S.now) ∧ w'.cell? ⟨p, 7, none⟩ = some (.int .i64 S.c.he) ∧ w'.cell? ⟨A.q id, 6 + s * 4 + 2, none⟩ = some (.int .i64 y.first) ∧ w'.cell? ⟨A.q id, 6 + s * 4 + 3, none⟩ = some (.bool true))) (by kernel_rfl) (by exact ⟨X0.out, T13.out, T7.out, C2.out, C3.out⟩) (fun hHeld => ?_)
      refine takeO 0 (some 78) (v := ?_) rfl rfl (by kernel_rfl) (by kernel_rfl) (by kernel_rfl) (fun _ _ _ h => h) (Or.inl ⟨by rfl, ?_⟩) (by assumption) ?_
      rotate_left 1
      · intro w hSw; (try dsimp only at hSw); go_simp; all_goals with_reducible rfl
      try simp only [Act.put, List.setIfInBounds_toArray, List.set_cons_zero, List.set_cons_succ]
      refine takeO 1 (some 79) (v := ?_) rfl rfl (by kernel_rfl) (by kernel_rfl) (by kernel_rfl) (fun _ _ _ h => h) (Or.inl ⟨by rfl, ?_⟩) (by assumption) ?_
      rotate_left 1
      · intro w hSw; (try dsimp only at hSw); go_simp; all_goals with_reducible rfl
      try simp only [Act.put, List.setIfInBounds_toArray, List.set_cons_zero, List.set_cons_succ]
      refine takeO 2 (some 80) (v := ?_) rfl rfl (by kernel_rfl) (by kernel_rfl) (by kernel_rfl) (fun _ _ _ h => h) (Or.inl ⟨by rfl, ?_⟩) (by assumption) ?_
      rotate_left 1
      · intro w hSw; (try dsimp only at hSw); go_simp; all_goals with_reducible rfl
      try simp only [Act.put, List.setIfInBounds_toArray, List.set_cons_zero, List.set_cons_succ]
      refine takeO 3 (some 81) (v := ?_) rfl rfl (by kernel_rfl) (by kernel_rfl) (by kernel_rfl) (fun _ _ _ h => h) (Or.inl ⟨by rfl, ?_⟩) (by assumption) ?_
      rotate_left 1
      · intro w hSw; (try dsimp only at hSw); go_simp; all_goals with_reducible rfl
      try simp only [Act.put, List.setIfInBounds_toArray, List.set_cons_zero, List.set_cons_succ]
      refine takeO 4 (some 82) (v := ?_) rfl rfl (by kernel_rfl) (by kernel_rfl) (by kernel_rfl) (fun _ _ _ h => h) (Or.inl ⟨by rfl, ?_⟩) (by assumption) ?_
      rotate_left 1
      · intro w hSw; (try dsimp only at hSw); go_simp; all_goals with_reducible rfl
      try simp only [Act.put, List.setIfInBounds_toArray, List.set_cons_zero, List.set_cons_succ]
      refine takeO 5 (some 83) (v := ?_) rfl rfl (by kernel_rfl) (by kernel_rfl) (by kernel_rfl) (fun _ _ _ h => h) (Or.inl ⟨by rfl, ?_⟩) (by assumption) ?_
      rotate_left 1
      · intro w hSw; (try dsimp only at hSw); go_simp; all_goals with_reducible rfl
      try simp only [Act.put, List.setIfInBounds_toArray, List.set_cons_zero, List.set_cons_succ]
      refine takeO 6 (some 84) (v := undef) rfl rfl (by kernel_rfl) (by kernel_rfl) (by kernel_rfl) (fun _ _ _ h => h) (Or.inr ⟨by rfl, rfl⟩) (by assumption) ?_
      try simp only [Act.put, List.setIfInBounds_toArray, List.set_cons_zero, List.set_cons_succ]
      refine takeO 7 (some 85) (v := undef) rfl rfl (by kernel_rfl) (by kernel_rfl) (by kernel_rfl) (fun _ _ _ h => h) (Or.inr ⟨by rfl, rfl⟩) (by assumption) ?_
      try simp only [Act.put, List.setIfInBounds_toArray, List.set_cons_zero, List.set_cons_succ]
      refine takeO 8 (some 86) (v := undef) rfl rfl (by kernel_rfl) (by kernel_rfl) (by kernel_rfl) (fun _ _ _ h => h) (Or.inr ⟨by rfl, rfl⟩) (by assumption) ?_
      try simp only [Act.put, List.setIfInBounds_toArray, List.set_cons_zero, List.set_cons_succ]
      refine takeO 9 (some 87) (v := undef) rfl rfl (by kernel_rfl) (by kernel_rfl) (by kernel_rfl) (fun _ _ _ h => h) (Or.inr ⟨by rfl, rfl⟩) (by assumption) ?_
      try simp only [Act.put, List.setIfInBounds_toArray, List.set_cons_zero, List.set_cons_succ]
      refine takeO 10 (some 88) (v := undef) rfl rfl (by kernel_rfl) (by kernel_rfl) (by kernel_rfl) (fun _ _ _ h => h) (Or.inr ⟨by rfl, rfl⟩) (by assumption) ?_
      try simp only [Act.put, List.setIfInBounds_toArray, List.set_cons_zero, List.set_cons_succ]
      refine takeO 11 (some 89) (v := undef) rfl rfl (by kernel_rfl) (by kernel_rfl) (by kernel_rfl) (fun _ _ _ h => h) (Or.inr ⟨by rfl, rfl⟩) (by assumption) ?_
      try simp only [Act.put, List.setIfInBounds_toArray, List.set_cons_zero, List.set_cons_succ]
      refine takeO 12 (some 90) (v := undef) rfl rfl (by kernel_rfl) (by kernel_rfl) (by kernel_rfl) (fun _ _ _ h => h) (Or.inr ⟨by rfl, rfl⟩) (by assumption) ?_
      try simp only [Act.put, List.setIfInBounds_toArray, List.set_cons_zero, List.set_cons_succ]
      refine takeO 13 (some 91) (v := undef) rfl rfl (by kernel_rfl) (by kernel_rfl) (by kernel_rfl) (fun _ _ _ h => h) (Or.inr ⟨by rfl, rfl⟩) (by assumption) ?_
      try simp only [Act.put, List.setIfInBounds_toArray, List.set_cons_zero, List.set_cons_succ]
      refine takeO 14 (some 92) (v := undef) rfl rfl (by kernel_rfl) (by kernel_rfl) (by kernel_rfl) (fun _ _ _ h => h) (Or.inr ⟨by rfl, rfl⟩) (by assumption) ?_
      try simp only [Act.put, List.setIfInBounds_toArray, List.set_cons_zero, List.set_cons_succ]
      refine takeO 15 (some 93) (v := undef) rfl rfl (by kernel_rfl) (by kernel_rfl) (by kernel_rfl) (fun _ _ _ h => h) (Or.inr ⟨by rfl, rfl⟩) (by assumption) ?_
      try simp only [Act.put, List.setIfInBounds_toArray, List.set_cons_zero, List.set_cons_succ]
      refine takeO 16 (some 94) (v := undef) rfl rfl (by kernel_rfl) (by kernel_rfl) (by kernel_rfl) (fun _ _ _ h => h) (Or.inr ⟨by rfl, rfl⟩) (by assumption) ?_
      try simp only [Act.put, List.setIfInBounds_toArray, List.set_cons_zero, List.set_cons_succ]
      refine takeO 17 (some 95) (v := undef) rfl rfl (by kernel_rfl) (by kernel_rfl) (by kernel_rfl) (fun _ _ _ h => h) (Or.inr ⟨by rfl, rfl⟩) (by assumption) ?_
      try simp only [Act.put, List.setIfInBounds_toArray, List.set_cons_zero, List.set_cons_succ]
      refine takeO 18 (some 96) (v := undef) rfl rfl (by kernel_rfl) (by kernel_rfl) (by kernel_rfl) (fun _ _ _ h => h) (Or.inr ⟨by rfl, rfl⟩) (by assumption) ?_
      try simp only [Act.put, List.setIfInBounds_toArray, List.set_cons_zero, List.set_cons_succ]
      refine takeO 19 (some 97) (v := undef) rfl rfl (by kernel_rfl) (by kernel_rfl) (by kernel_rfl) (fun _ _ _ h => h) (Or.inr ⟨by rfl, rfl⟩) (by assumption) ?_
      try simp only [Act.put, List.setIfInBounds_toArray, List.set_cons_zero, List.set_cons_succ]
      refine takeO 20 (some 98) (v := undef) rfl rfl (by kernel_rfl) (by kernel_rfl) (by kernel_rfl) (fun _ _ _ h => h) (Or.inr ⟨by rfl, rfl⟩) (by assumption) ?_
      try simp only [Act.put, List.setIfInBounds_toArray, List.set_cons_zero, List.set_cons_succ]
      refine takeO 21 (some 99) (v := ?_) rfl rfl (by kernel_rfl) (by kernel_rfl) (by kernel_rfl) (fun _ _ _ h => h) (Or.inl ⟨by rfl, ?_⟩) (by assumption) ?_
      rotate_left 1
      · intro w hSw; (try dsimp only at hSw); go_simp; all_goals with_reducible rfl
      try simp only [Act.put, List.setIfInBounds_toArray, List.set_cons_zero, List.set_cons_succ]
      refine takeO 22 (some 77) (v := ?_) rfl rfl (by kernel_rfl) (by kernel_rfl) (by kernel_rfl) (fun _ _ _ h => h) (Or.inl ⟨by rfl, ?_⟩) (by assumption) ?_
      rotate_left 1
      · intro w hSw; (try dsimp only at hSw); go_simp; all_goals with_reducible rfl
      try simp only [Act.put, List.setIfInBounds_toArray, List.set_cons_zero, List.set_cons_succ]
      refine wpAnyH_done (by kernel_rfl) ?_ _
      go_wp2_with fail
      go_ret
      exact NONE.out
    | false =>
      subst hLK
      have X0 := Lib.hid x0
      have T13 := Lib.hid t13
      have T7 := Lib.hid t7
      have C2 := Lib.hid c2
      have C3 := Lib.hid c3
      go_upto_region 11 with fail
      clear x0 t13 t7 c0 c1 c2 c3
      refine wp_region_held_drew (S := (fun w' => w'.cell? ⟨w.heap.size, 0, none⟩ = some (.pointer (some ⟨p, 0, none⟩)) ∧ w'.cell? ⟨p, 13, none⟩ = some (.int .i64 S.now) ∧ w'.cell? ⟨p, 7, none⟩ = some (.int .i64 S.c.he) ∧ w'.cell? ⟨A.q id, 6 + s * 4 + 2, none⟩ = some (.int .i64 y.first) ∧ w'.cell? ⟨A.q id, 6 + s * 4 + 3, none⟩ = some (.bool false))) (by kernel_rfl) (by exact ⟨X0.out, T13.out, T7.out, C2.out, C3.out⟩) (fun hHeld => ?_)
      refine takeO 0 (some 78) (v := ?_) rfl rfl (by kernel_rfl) (by kernel_rfl) (by kernel_rfl) (fun _ _ _ h => h) (Or.inl ⟨by rfl, ?_⟩) (by assumption) ?_
      rotate_left 1
      · intro w hSw; (try dsimp only at hSw); go_simp; all_goals with_reducible rfl
      try simp only [Act.put, List.setIfInBounds_toArray, List.set_cons_zero, List.set_cons_succ]
      refine takeO 1 (some 79) (v := ?_) rfl rfl (by kernel_rfl) (by kernel_rfl) (by kernel_rfl) (fun _ _ _ h => h) (Or.inl ⟨by rfl, ?_⟩) (by assumption) ?_
      rotate_left 1
      · intro w hSw; (try dsimp only at hSw); go_simp; all_goals with_reducible rfl
      try simp only [Act.put, List.setIfInBounds_toArray, List.set_cons_zero, List.set_cons_succ]
      refine takeO 2 (some 80) (v := ?_) rfl rfl (by kernel_rfl) (by kernel_rfl) (by kernel_rfl) (fun _ _ _ h => h) (Or.inl ⟨by rfl, ?_⟩) (by assumption) ?_
      rotate_left 1
      · intro w hSw; (try dsimp only at hSw); go_simp; all_goals with_reducible rfl
      try simp only [Act.put, List.setIfInBounds_toArray, List.set_cons_zero, List.set_cons_succ]
      refine takeO 3 (some 81) (v := ?_) rfl rfl (by kernel_rfl) (by kernel_rfl) (by kernel_rfl) (fun _ _ _ h => h) (Or.inl ⟨by rfl, ?_⟩) (by assumption) ?_
      rotate_left 1
      · intro w hSw; (try dsimp only at hSw); go_simp; all_goals with_reducible rfl
      try simp only [Act.put, List.setIfInBounds_toArray, List.set_cons_zero, List.set_cons_succ]
      refine takeO 4 (some 82) (v := ?_) rfl rfl (by kernel_rfl) (by kernel_rfl) (by kernel_rfl) (fun _ _ _ h => h) (Or.inl ⟨by rfl, ?_⟩) (by assumption) ?_
      rotate_left 1
      · intro w hSw; (try dsimp only at hSw); go_simp; all_goals with_reducible rfl
      try simp only [Act.put, List.setIfInBounds_toArray, List.set_cons_zero, List.set_cons_succ]
      refine takeO 5 (some 83) (v := ?_) rfl rfl (by kernel_rfl) (by kernel_rfl) (by kernel_rfl) (fun _ _ _ h => h) (Or.inl ⟨by rfl, ?_⟩) (by assumption) ?_
      rotate_left 1
      · intro w hSw; (try dsimp only at hSw); go_simp; all_goals with_reducible rfl
      try simp only [Act.put, List.setIfInBounds_toArray, List.set_cons_zero, List.set_cons_succ]
      refine takeO 6 (some 84) (v := ?_) rfl rfl (by kernel_rfl) (by kernel_rfl) (by kernel_rfl) (fun _ _ _ h => h) (Or.inl ⟨by rfl, ?_⟩) (by assumption) ?_
      rotate_left 1
      · intro w hSw; (try dsimp only at hSw); go_simp; all_goals with_reducible rfl
      try simp only [Act.put, List.setIfInBounds_toArray, List.set_cons_zero, List.set_cons_succ]
      refine takeO 7 (some 85) (v := ?_) rfl rfl (by kernel_rfl) (by kernel_rfl) (by kernel_rfl) (fun _ _ _ h => h) (Or.inl ⟨by rfl, ?_⟩) (by assumption) ?_
      rotate_left 1
      · intro w hSw; (try dsimp only at hSw); go_simp; all_goals with_reducible rfl
      try simp only [Act.put, List.setIfInBounds_toArray, List.set_cons_zero, List.set_cons_succ]
      refine takeO 8 (some 86) (v := ?_) rfl rfl (by kernel_rfl) (by kernel_rfl) (by kernel_rfl) (fun _ _ _ h => h) (Or.inl ⟨by rfl, ?_⟩) (by assumption) ?_
      rotate_left 1
      · intro w hSw; (try dsimp only at hSw); go_simp; all_goals with_reducible rfl
      try simp only [Act.put, List.setIfInBounds_toArray, List.set_cons_zero, List.set_cons_succ]
      refine takeO 9 (some 87) (v := ?_) rfl rfl (by kernel_rfl) (by kernel_rfl) (by kernel_rfl) (fun _ _ _ h => h) (Or.inl ⟨by rfl, ?_⟩) (by assumption) ?_
      rotate_left 1
      · intro w hSw; (try dsimp only at hSw); go_simp; all_goals with_reducible rfl
      try simp only [Act.put, List.setIfInBounds_toArray, List.set_cons_zero, List.set_cons_succ]
      refine takeO 10 (some 88) (v := ?_) rfl rfl (by kernel_rfl) (by kernel_rfl) (by kernel_rfl) (fun _ _ _ h => h) (Or.inl ⟨by rfl, ?_⟩) (by assumption) ?_
      rotate_left 1
      · intro w hSw; (try dsimp only at hSw); go_simp; all_goals with_reducible rfl
      try simp only [Act.put, List.setIfInBounds_toArray, List.set_cons_zero, List.set_cons_succ]
      refine takeO 11 (some 89) (v := ?_) rfl rfl (by kernel_rfl) (by kernel_rfl) (by kernel_rfl) (fun _ _ _ h => h) (Or.inl ⟨by rfl, ?_⟩) (by assumption) ?_
      rotate_left 1
      · intro w hSw; (try dsimp only at hSw); go_simp; all_goals with_reducible rfl
      try simp only [Act.put, List.setIfInBounds_toArray, List.set_cons_zero, List.set_cons_succ]
      refine takeO 12 (some 90) (v := ?_) rfl rfl (by kernel_rfl) (by kernel_rfl) (by kernel_rfl) (fun _ _ _ h => h) (Or.inl ⟨by rfl, ?_⟩) (by assumption) ?_
      rotate_left 1
      · intro w hSw; (try dsimp only at hSw); go_simp; all_goals with_reducible rfl
      try simp only [Act.put, List.setIfInBounds_toArray, List.set_cons_zero, List.set_cons_succ]
      refine takeO 13 (some 91) (v := ?_) rfl rfl (by kernel_rfl) (by kernel_rfl) (by kernel_rfl) (fun _ _ _ h => h) (Or.inl ⟨by rfl, ?_⟩) (by assumption) ?_
      rotate_left 1
      · intro w hSw; (try dsimp only at hSw); go_simp; all_goals with_reducible rfl
      try simp only [Act.put, List.setIfInBounds_toArray, List.set_cons_zero, List.set_cons_succ]
      refine takeO 14 (some 92) (v := ?_) rfl rfl (by kernel_rfl) (by kernel_rfl) (by kernel_rfl) (fun _ _ _ h => h) (Or.inl ⟨by rfl, ?_⟩) (by assumption) ?_
      rotate_left 1
      · intro w hSw; (try dsimp only at hSw); go_simp; all_goals with_reducible rfl
      try simp only [Act.put, List.setIfInBounds_toArray, List.set_cons_zero, List.set_cons_succ]
      refine takeO 15 (some 93) (v := ?_) rfl rfl (by kernel_rfl) (by kernel_rfl) (by kernel_rfl) (fun _ _ _ h => h) (Or.inl ⟨by rfl, ?_⟩) (by assumption) ?_
      rotate_left 1
      · intro w hSw; (try dsimp only at hSw); go_simp; all_goals with_reducible rfl
      try simp only [Act.put, List.setIfInBounds_toArray, List.set_cons_zero, List.set_cons_succ]
      refine takeO 16 (some 94) (v := ?_) rfl rfl (by kernel_rfl) (by kernel_rfl) (by kernel_rfl) (fun _ _ _ h => h) (Or.inl ⟨by rfl, ?_⟩) (by assumption) ?_
      rotate_left 1
      · intro w hSw; (try dsimp only at hSw); go_simp; all_goals with_reducible rfl
      try simp only [Act.put, List.setIfInBounds_toArray, List.set_cons_zero, List.set_cons_succ]
      refine takeO 17 (some 95) (v := ?_) rfl rfl (by kernel_rfl) (by kernel_rfl) (by kernel_rfl) (fun _ _ _ h => h) (Or.inl ⟨by rfl, ?_⟩) (by assumption) ?_
      rotate_left 1
      · intro w hSw; (try dsimp only at hSw); go_simp; all_goals with_reducible rfl
      try simp only [Act.put, List.setIfInBounds_toArray, List.set_cons_zero, List.set_cons_succ]
      refine takeO 18 (some 96) (v := ?_) rfl rfl (by kernel_rfl) (by kernel_rfl) (by kernel_rfl) (fun _ _ _ h => h) (Or.inl ⟨by rfl, ?_⟩) (by assumption) ?_
      rotate_left 1
      · intro w hSw; (try dsimp only at hSw); go_simp; all_goals with_reducible rfl
      try simp only [Act.put, List.setIfInBounds_toArray, List.set_cons_zero, List.set_cons_succ]
      refine takeO 19 (some 97) (v := ?_) rfl rfl (by kernel_rfl) (by kernel_rfl) (by kernel_rfl) (fun _ _ _ h => h) (Or.inl ⟨by rfl, ?_⟩) (by assumption) ?_
      rotate_left 1
      · intro w hSw; (try dsimp only at hSw); go_simp; all_goals with_reducible rfl
      try simp only [Act.put, List.setIfInBounds_toArray, List.set_cons_zero, List.set_cons_succ]
      refine takeO 20 (some 98) (v := ?_) rfl rfl (by kernel_rfl) (by kernel_rfl) (by kernel_rfl) (fun _ _ _ h => h) (Or.inl ⟨by rfl, ?_⟩) (by assumption) ?_
      rotate_left 1
      · intro w hSw; (try dsimp only at hSw); go_simp; all_goals with_reducible rfl
      try simp only [Act.put, List.setIfInBounds_toArray, List.set_cons_zero, List.set_cons_succ]
      refine takeO 21 (some 99) (v := ?_) rfl rfl (by kernel_rfl) (by kernel_rfl) (by kernel_rfl) (fun _ _ _ h => h) (Or.inl ⟨by rfl, ?_⟩) (by assumption) ?_
      rotate_left 1
      · intro w hSw; (try dsimp only at hSw); go_simp; all_goals with_reducible rfl
      try simp only [Act.put, List.setIfInBounds_toArray, List.set_cons_zero, List.set_cons_succ]
      refine takeO 22 (some 77) (v := ?_) rfl rfl (by kernel_rfl) (by kernel_rfl) (by kernel_rfl) (fun _ _ _ h => h) (Or.inl ⟨by rfl, ?_⟩) (by assumption) ?_
      rotate_left 1
      · intro w hSw; (try dsimp only at hSw); go_simp; all_goals with_reducible rfl
      try simp only [Act.put, List.setIfInBounds_toArray, List.set_cons_zero, List.set_cons_succ]
      refine wpAnyH_done (by kernel_rfl) ?_ _
      go_wp2_with fail
      go_ret
      exact NONE.out
end
end Go.Proofs.YtinkbgeckjbnbaaGreat
