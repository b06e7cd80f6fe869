/- msg.Encode: a message's frame (plain), and where it may not be. -/
import Derived.Test.YtjhkdbcfkaaffaaMm4
import Derived.Test.YtjhkdbcfkaaffaaSum1
import Derived.Laws.CopyOwn
namespace Go.Proofs.Ytjhkdbcfkaaffaa
open Go.RowKit
set_option linter.unusedVariables false

/-- a message's fields behind its head of three bytes -/
def bodyL : MV → List Nat
  | .hello w0 l0 => numsL [0, 0, 1] [w0, l0]
  | .grant w0 l0 e0 => numsL [0, 0, 2] [w0, l0, e0]
  | .ask s q h sq ep tx k b f d wd => itemL (putL (putL (putL (putTextL (numsL [0, 0, 3] [s, q, h, sq, ep]) tx) k 1) b 1) (flagN f) 1) d wd
  | .reply s q h sq wk ep l en => putL (l.foldl (fun r x => itemL r x.1 x.2) (putL (numsL [0, 0, 4] [s, q, h, sq, wk, ep]) l.length 1)) (flagN en) 1
  | .stop s q => numsL [0, 0, 5] [s, q]
  | _ => []
/-- the length laid over the first two bytes, the sum behind -/
def frameL (l : List Nat) : List Nat := putL (putL [] (l.length + 4) 2 ++ l.drop 2) (addN 0 (putL [] (l.length + 4) 2 ++ l.drop 2)) 4
def encL (m : MV) : List Nat := frameL (bodyL m)
set_option maxRecDepth 100000 in
theorem new_writer (w : World) (B : Nat) (k : Nat) (hB : B ≤ w.heap.size) : WAt B ((w.alloc (.cells #[.int .u8 0, .int .u8 0, .int .u8 (k : Int)] 5)).alloc (.cells #[.slice (some ⟨w.heap.size, 0, none⟩) 3 3] 74)) (w.heap.size + 1) [0, 0, k] := by
  have h0 : Blk (w.alloc (.cells #[.int .u8 0, .int .u8 0, .int .u8 (k : Int)] 5)) w.heap.size 5 [.int .u8 0, .int .u8 0, .int .u8 (k : Int)] := heap_alloc_new w _
  have h1 := h0.alloc (.cells #[.slice (some ⟨w.heap.size, 0, none⟩) 3 3] 74)
  have h2 : Blk ((w.alloc (.cells #[.int .u8 0, .int .u8 0, .int .u8 (k : Int)] 5)).alloc (.cells #[.slice (some ⟨w.heap.size, 0, none⟩) 3 3] 74)) (w.alloc (.cells #[.int .u8 0, .int .u8 0, .int .u8 (k : Int)] 5)).heap.size 74 [.slice (some ⟨w.heap.size, 0, none⟩) 3 3] := heap_alloc_new _ _
  have hs : (w.alloc (.cells #[.int .u8 0, .int .u8 0, .int .u8 (k : Int)] 5)).heap.size = w.heap.size + 1 := by simp
  rw [hs] at h2
  exact ⟨some ⟨w.heap.size, 0, none⟩, 3, h2, rfl, .inr ⟨w.heap.size, 3, _, rfl, hB, h1, Nat.le_refl _, by simp [maxLen], rfl, rfl⟩⟩
set_option maxRecDepth 100000 in
theorem fsetRow {w : World} {g : Nat} (cs : Array Value) : Frm (fun k => k = g) w (w.setRow g cs) :=
  ⟨rfl, rfl, rfl, by simp [World.setRow], fun k _ hk => setRow_other w g k cs (fun e => hk e)⟩
set_option maxRecDepth 100000 in
/-- copy: the first cells of a row of one's own are written over -/
theorem step_copyN {ops : Array Oper} {o : Oper} {a : Act} {w : World} {K : Act → World → Prop} {Q : Exit → Act → World → Prop} {E : Prop} (hgd : o.guard = none) (d s : Operand) (dT sT : TypeId) (dst : Option Tmp) (hdst : o.dst = dst)
    (ho : o.op = .call { callee := .builtin .copy, args := #[d, s], argTypes := #[dT, sT] }) (elem : TypeId) (hu : Try.prog.underlying dT = some (.slice elem)) (hsz : (Try.prog.info? elem).map (·.size) = some 1)
    (B B2 : Nat) (da sa : Option Addr) (n cap m c2 : Nat) (xs ys : List Value) (hd : a.eval d = .slice da n cap) (hs : a.eval s = .slice sa m c2)
    (hD : w.ownsRow B elem 1 (.slice da n cap) n xs) (hS : w.ownsRow B2 elem 1 (.slice sa m c2) m ys) (hm : 0 < m) (hmn : m ≤ n) (h1 : ∀ v ∈ ys, v.oneCell' = true)
    (h : ∀ w', w'.ownsRow B elem 1 (.slice da n cap) n (ys ++ xs.drop m) → Frm (fun k => (Value.slice da n cap).ownBlock = some k) w w' → K (a.put dst (goInt m)) w') :
    if Region.wanted o (yielded ops a.tmps) = true then Oper.wp Try.prog o a w K Q else E := by
  subst hdst
  have hw : Region.wanted o (yielded ops a.tmps) = true := by simp [Region.wanted, hgd]
  rw [if_pos hw]
  obtain ⟨hl, h2⟩ := hD
  have hly := hS.1
  rcases h2 with h2 | ⟨g, cp, cur, hv, hBg, hg, hnc, hcm, hcs, hx⟩
  · omega
  · rcases hS.2 with h3 | ⟨g', cp', cur', hv', hBg', hg', hnc', hcm', hcs', hx'⟩
    · omega
    · cases hv
      cases hv'
      have hrun := run_copy_row (P := Try.prog) w dT sT o.type elem g 0 n cap ⟨g', 0, none⟩ m c2 cur elem ys hu hsz hg (by rw [hly, Nat.mul_one]; exact (Nat.min_eq_left hmn).symm) (hS.cells (g := g') rfl) (by omega) h1
      unfold Oper.wp
      simp [execOp, ho, resolve, invoke, builtin, hd, hs, hrun, Result.andThen]
      rw [show ys.length = m from by omega]
      have hrow : ∀ L : Array Value, (w.setRow g L).heap[g]? = some (.cells L elem (0, 0)) := fun L => setRow_heap w g cur L elem _ hg
      refine h _ ⟨?_, .inr ⟨g, cap, _, rfl, hBg, hrow _, hnc, hcm, ?_, ?_⟩⟩ ((fsetRow _).mono (fun i hi _ => by rw [hi]; rfl))
      · simp; omega
      · simp; omega
      · subst hx
        simp only [Nat.mul_one]
        rw [List.take_append, List.take_of_length_le (by omega), List.drop_take]
        congr 2
        omega
set_option maxRecDepth 100000 in
set_option maxHeartbeats 2000000 in
theorem mencode_no (m : MV) (u : Value) (w : World) (h : m.At w u) (hz : m.small) (hm : m.may = false) :
    Calls Try.prog 14 #[u] w fun e w' => e = .returned (.tuple #[.slice none 0 0, .int .i64 2]) ∧ Below w.heap.size w w' := by
  have HM := Lib.hid (mmay_any m u w h hz)
  rw [hm] at HM
  clear h hz hm
  go_enter Try.func14, Try.ntmps14
  go_wp2_with fail
  refine HM.out.mono ?_
  rintro e w1 ⟨rfl, hb⟩
  have HB := Lib.hid hb
  clear hb
  go_wp2_with fail
  go_ret2
  exact ⟨rfl, HB.out⟩
set_option maxRecDepth 100000 in
theorem isz8 : (Try.prog.info? 5).map (·.size) = some 1 := by
  obtain ⟨i0, hi, hz0, hz1, hz2⟩ := info_parts info5
  rw [hi]; exact congrArg some hz1
set_option maxRecDepth 100000 in
theorem u8s_drop (l : List Nat) (k : Nat) : u8s (l.drop k) = (u8s l).drop k := by simp [u8s]
set_option maxRecDepth 100000 in
theorem addN_lt (c : Nat) (l : List Nat) (h : ∀ x ∈ l, x < 256) : addN c l < 4294967296 := inv_lt _
set_option maxRecDepth 100000 in
theorem putL_len2 (l : List Nat) (n : Int) : (putL l n 2).length = l.length + 2 := by
  unfold putL; rw [List.length_append, be_length]; rfl
set_option maxRecDepth 100000 in
theorem copied_lt {bl : List Nat} (h : ∀ x ∈ bl, x < 256) : ∀ x ∈ putL [] ((bl.length : Int) + 4) 2 ++ bl.drop 2, x < 256 := by
  intro x hx
  rcases List.mem_append.1 hx with h1 | h1
  · exact putL_lt [] _ _ (by simp) x h1
  · exact h x (List.mem_of_mem_drop h1)
set_option maxRecDepth 100000 in
theorem copied_len {bl : List Nat} (h : 2 ≤ bl.length) : (putL [] ((bl.length : Int) + 4) 2 ++ bl.drop 2).length = bl.length := by
  rw [List.length_append, putL_len2, List.length_drop]; simp; omega
set_option maxRecDepth 100000 in
theorem put2_any (n : Int) (W : World) (hn : -9223372036854775808 ≤ n ∧ n ≤ 9223372036854775807) :
    Calls Try.prog 39 #[.slice none 0 0, .int .i64 n, .int .i64 2] W fun e w' => ∃ ao c2, e = .returned (.slice ao 2 c2) ∧ w'.ownsRow W.heap.size 5 1 (.slice ao 2 c2) 2 (u8s (putL [] n 2)) ∧ Below W.heap.size W w' := by
  refine (put_any none 0 0 [] n 2 W (rd_nil _ _ rfl) (by decide) hn (by decide)).mono ?_
  rintro e w' ⟨ao, c2, rfl, h1, h2⟩
  rw [u8s_length, putL_len2] at h1 ⊢
  exact ⟨ao, c2, rfl, h1, h2⟩
set_option maxRecDepth 100000 in
theorem putfr_any (a : Option Addr) (n c : Nat) (l : List Nat) (v : Int) (W : World) (hr : Rd W a n c (u8s l)) (hn : n ≤ 1000000000) (hv : -9223372036854775808 ≤ v ∧ v ≤ 9223372036854775807) :
    Calls Try.prog 39 #[.slice a n c, .int .i64 v, .int .i64 4] W fun e w' => ∃ ao c2, e = .returned (.slice ao (putL l v 4).length c2) ∧ w'.ownsRow W.heap.size 5 1 (.slice ao (putL l v 4).length c2) (putL l v 4).length (u8s (putL l v 4)) ∧ Below W.heap.size W w' := by
  refine (put_any a n c l v 4 W hr hn hv (by decide)).mono ?_
  rintro e w' ⟨ao, c2, rfl, h1, h2⟩
  rw [u8s_length] at h1 ⊢
  exact ⟨ao, c2, rfl, h1, h2⟩
/-- Encode hands out a frame in a row of its own -/
def EncE (w : World) (fl : List Nat) (e : Ending) (w' : World) : Prop := ∃ a c, e = .returned (.tuple #[.slice a fl.length c, .int .i64 0]) ∧ w'.ownsRow w.heap.size 5 1 (.slice a fl.length c) fl.length (u8s fl) ∧ Below w.heap.size w w'
set_option maxRecDepth 100000 in
theorem numsL_lt (ns : List Int) : ∀ l : List Nat, (∀ x ∈ l, x < 256) → ∀ x ∈ numsL l ns, x < 256 := by
  induction ns with
  | nil => intro l h; exact h
  | cons n ns ih => intro l h; exact ih _ (putL_lt l n 4 h)
set_option maxRecDepth 100000 in
theorem inR_in {n : Int} (h : inR n = true) : 0 ≤ n ∧ n ≤ 2147483647 := by unfold inR at h; simpa using h
set_option maxRecDepth 100000 in
theorem workerB_in {n : Int} (h : workerB n = true) : 1 ≤ n ∧ n ≤ 5 := by unfold workerB at h; simpa using h
set_option maxRecDepth 100000 in
theorem placeB_in {s q : Int} (h : placeB s q = true) : 0 ≤ s ∧ s < 4 ∧ 0 ≤ q ∧ q < 6 := by unfold placeB at h; simp at h; omega
set_option maxRecDepth 100000 in
theorem withinL_in {l : List Int} (h : withinL l = true) : ∀ x ∈ l, 0 ≤ x ∧ x ≤ 2147483647 := by
  intro x hx; exact inR_in (List.all_eq_true.1 h x hx)
set_option maxRecDepth 100000 in
theorem hello_in {w0 l0 : Int} (h : (MV.hello w0 l0).may = true) : ∀ x ∈ [w0, l0], -9223372036854775808 ≤ x ∧ x ≤ 9223372036854775807 := by
  simp only [MV.may, Bool.and_eq_true] at h
  have h1 := workerB_in h.1
  have h2 := withinL_in h.2 l0 (by simp)
  intro x hx
  simp only [List.mem_cons, List.not_mem_nil, or_false] at hx
  rcases hx with rfl | rfl <;> omega
set_option maxRecDepth 100000 in
theorem grant_in {w0 l0 e0 : Int} (h : (MV.grant w0 l0 e0).may = true) : ∀ x ∈ [w0, l0, e0], -9223372036854775808 ≤ x ∧ x ≤ 9223372036854775807 := by
  simp only [MV.may, Bool.and_eq_true] at h
  have h1 := workerB_in h.1
  have h2 := withinL_in h.2 l0 (by simp)
  have h3 := withinL_in h.2 e0 (by simp)
  intro x hx
  simp only [List.mem_cons, List.not_mem_nil, or_false] at hx
  rcases hx with rfl | rfl | rfl <;> omega
set_option maxRecDepth 100000 in
theorem stop_in {s q : Int} (h : (MV.stop s q).may = true) : ∀ x ∈ [s, q], -9223372036854775808 ≤ x ∧ x ≤ 9223372036854775807 := by
  simp only [MV.may, Bool.and_eq_true] at h
  have h1 := placeB_in h.1
  have h2 := withinL_in h.2 q (by simp)
  intro x hx
  simp only [List.mem_cons, List.not_mem_nil, or_false] at hx
  rcases hx with rfl | rfl <;> omega/- arms -/
set_option maxRecDepth 100000 in
set_option maxHeartbeats 4000000 in
theorem mencode_hello (w0 l0 : Int) (w : World) (hm : (MV.hello w0 l0).may = true) :
    Calls Try.prog 14 #[.iface 23 (.agg #[.int .i64 w0, .int .i64 l0])] w fun e w' => EncE w (encL (.hello w0 l0)) e w' := by
  have HM := Lib.hid (mmay_any (.hello w0 l0) _ w rfl trivial)
  have HK := Lib.hid (fun W : World => (show Calls Try.prog 21 #[.iface 23 (.agg #[.int .i64 w0, .int .i64 l0])] W fun e w' => e = .returned (.int .i64 1) ∧ Below W.heap.size W w' from mkind_any (.hello w0 l0) _ W rfl))
  have HI := Lib.hid (hello_in hm)
  rw [hm] at HM
  clear hm
  unfold EncE
  go_enter Try.func14, Try.ntmps14
  go_wp2_with fail
  refine HM.out.mono ?_
  rintro e w1 ⟨rfl, hb⟩
  have HB := Lib.hid hb
  clear hb
  go_wp2_with fail
  refine (HK.out _).mono ?_
  rintro e w2 ⟨rfl, hb⟩
  have HB2 := Lib.hid (HB.out.trans (hb.mono HB.out.size))
  clear hb HB
  have k9 : IntKind.u8.wrap (1 : Int) = 1 := by decide
  go_wp2_with (first | rw [ta_hello_hello] | rw [ta_grant_hello] | rw [ta_ask_hello] | rw [ta_reply_hello] | rw [ta_stop_hello])
  have H0 := Lib.hid (((new_writer w2 w.heap.size 1 HB2.out.size).alloc (.cells #[.int .i64 w0, .int .i64 l0] 23)).alloc (.cells #[.int .i64 w0, .int .i64 l0] 3))
  have hs2 := HB2.out.size
  have hsz : (((w2.alloc (.cells #[.int .u8 0, .int .u8 0, .int .u8 1] 5)).alloc (.cells #[.slice (some ⟨w2.heap.size, 0, none⟩) 3 3] 74)).alloc (.cells #[.int .i64 w0, .int .i64 l0] 23)).heap.size = w2.heap.size + 1 + 1 + 1 := by simp
  have HBL := Lib.hid ((((HB2.out.alloc HB2.out.size (.cells #[.int .u8 0, .int .u8 0, .int .u8 1] 5)).alloc (by first | (simp; done) | (simp; omega)) (.cells #[.slice (some ⟨w2.heap.size, 0, none⟩) 3 3] 74)).alloc (by first | (simp; done) | (simp; omega)) (.cells #[.int .i64 w0, .int .i64 l0] 23)).alloc (by first | (simp; done) | (simp; omega)) (.cells #[.int .i64 w0, .int .i64 l0] 3))
  obtain ⟨W, hW⟩ : ∃ W, ((((w2.alloc (.cells #[.int .u8 0, .int .u8 0, .int .u8 1] 5)).alloc (.cells #[.slice (some ⟨w2.heap.size, 0, none⟩) 3 3] 74)).alloc (.cells #[.int .i64 w0, .int .i64 l0] 23)).alloc (.cells #[.int .i64 w0, .int .i64 l0] 3)) = W := ⟨_, rfl⟩
  have HN := Lib.hid (show Rd W (some ⟨w2.heap.size + 1 + 1 + 1, 0, none⟩) 2 2 (ints [w0, l0]) from by
    have q := new_ints (((w2.alloc (.cells #[.int .u8 0, .int .u8 0, .int .u8 1] 5)).alloc (.cells #[.slice (some ⟨w2.heap.size, 0, none⟩) 3 3] 74)).alloc (.cells #[.int .i64 w0, .int .i64 l0] 23)) [w0, l0] (by simp [maxLen])
    rw [hsz] at q; rw [← hW]; exact q)
  have HZ := Lib.hid (show WAt w.heap.size W (w2.heap.size + 1) [0, 0, 1] from hW ▸ H0.out)
  have HBW := Lib.hid (show Below w.heap.size w W from hW ▸ HBL.out)
  clear H0 HBL
  rw [hW]
  clear hW
  have HC := Lib.hid (wnums_any w.heap.size (w2.heap.size + 1) [0, 0, 1] (some ⟨w2.heap.size + 1 + 1 + 1, 0, none⟩) 2 2 [w0, l0] W HBW.out.size HZ.out (by decide) (by simp) HN.out (by intro b o h; cases h; omega) HI.out)
  have HL := Lib.hid (show numsL [0, 0, 1] [w0, l0] = bodyL (.hello w0 l0) from rfl)
  have HLL := Lib.hid (show 3 ≤ (bodyL (.hello w0 l0)).length ∧ (bodyL (.hello w0 l0)).length ≤ 900000 from by rw [← HL.out, numsL_len]; simp)
  have HLT := Lib.hid (show ∀ x ∈ bodyL (.hello w0 l0), x < 256 from by rw [← HL.out]; exact numsL_lt _ _ (by decide))
  rw [HL.out] at HC
  refine HC.out.mono ?_
  clear HC HN HZ
  rintro e V ⟨rfl, hz, hf⟩
  have HBV := Lib.hid (show Below w.heap.size w V from HBW.out.trans (Frm.toBelow hf HBW.out.size (fun i hi hs => by have hs' : i = w2.heap.size + 1 := hs; omega)))
  have HE := Lib.hid (show encL (.hello w0 l0) = frameL (bodyL (.hello w0 l0)) from rfl)
  clear hf HBW HL
  obtain ⟨a, c, hk, ho⟩ := hz
  have HKG := Lib.hid hk
  have HO := Lib.hid ho
  have t0 : V.cell? ⟨w2.heap.size + 1, 0, none⟩ = some (.slice a (bodyL (.hello w0 l0)).length c) := hk.cell 0
  clear hk ho
  generalize hfl : encL (.hello w0 l0) = fl at HE
  have HQ := Lib.hid hfl
  clear hfl
  generalize bodyL (.hello w0 l0) = bl at *
  go_wp2_with fail
  have HKG' := Lib.hid (show Blk V.drew (w2.heap.size + 1) 74 [.slice a bl.length c] from HKG.out)
  clear HKG t0
  have HKG := HKG'
  clear HKG'
  have HO' := Lib.hid (show V.drew.ownsRow w.heap.size 5 1 (.slice a bl.length c) bl.length (u8s bl) from HO.out)
  clear HO
  have HO := HO'
  clear HO'
  have HBV' := Lib.hid (show Below w.heap.size w V.drew from HBV.out.drew)
  clear HBV
  have HBV := HBV'
  clear HBV'
  have HPU := Lib.hid (put2_any ((bl.length : Int) + 4) V.drew (by have := HLL.out; omega))
  have kw : IntKind.i64.wrap ((bl.length : Int) + 4) = (bl.length : Int) + 4 := IntWalk.i64_in _ (by have := HLL.out; omega)
  refine wp_region_held_drew (S := (fun w' => w'.cell? ⟨w2.heap.size + 1, 0, none⟩ = some (.slice a bl.length c))) (by kernel_rfl) (by first | exact HKG.out.cell 0 | exact HK2.out.cell 0 | exact HK3.out.cell 0) (fun hHeld => ?_)
  refine takeO 0 (some 134) (v := ?_) rfl rfl (by kernel_rfl) (by kernel_rfl) (by kernel_rfl) (fun _ _ _ h => h) (Or.inl ⟨by rfl, ?_⟩) (by assumption) ?_
  rotate_left 1
  · intro w hSw; (try dsimp only at hSw); go_simp; all_goals with_reducible rfl
  try simp only [Act.put, List.setIfInBounds_toArray, List.set_cons_zero, List.set_cons_succ]
  refine takeO 1 (some 135) (v := ?_) rfl rfl (by kernel_rfl) (by kernel_rfl) (by kernel_rfl) (fun _ _ _ h => h) (Or.inl ⟨by rfl, ?_⟩) (by assumption) ?_
  rotate_left 1
  · intro w hSw; (try dsimp only at hSw); go_simp; all_goals with_reducible rfl
  try simp only [Act.put, List.setIfInBounds_toArray, List.set_cons_zero, List.set_cons_succ]
  refine takeO 2 (some 136) (v := ?_) rfl rfl (by kernel_rfl) (by kernel_rfl) (by kernel_rfl) (fun _ _ _ h => h) (Or.inl ⟨by rfl, ?_⟩) (by assumption) ?_
  rotate_left 1
  · intro w hSw; (try dsimp only at hSw); go_simp; all_goals with_reducible rfl
  try simp only [Act.put, List.setIfInBounds_toArray, List.set_cons_zero, List.set_cons_succ]
  refine takeO 3 (some 137) (v := ?_) rfl rfl (by kernel_rfl) (by kernel_rfl) (by kernel_rfl) (fun _ _ _ h => h) (Or.inl ⟨by rfl, ?_⟩) (by assumption) ?_
  rotate_left 1
  · intro w hSw; (try dsimp only at hSw); go_simp; all_goals with_reducible rfl
  try simp only [Act.put, List.setIfInBounds_toArray, List.set_cons_zero, List.set_cons_succ]
  refine takeO 4 (some 138) (v := ?_) rfl rfl (by kernel_rfl) (by kernel_rfl) (by kernel_rfl) (fun _ _ _ h => h) (Or.inl ⟨by rfl, ?_⟩) (by assumption) ?_
  rotate_left 1
  · intro w hSw; (try dsimp only at hSw); go_simp; all_goals with_reducible rfl
  try simp only [Act.put, List.setIfInBounds_toArray, List.set_cons_zero, List.set_cons_succ]
  refine takeO 5 (some 139) (v := ?_) rfl rfl (by kernel_rfl) (by kernel_rfl) (by kernel_rfl) (fun _ _ _ h => h) (Or.inl ⟨by rfl, ?_⟩) (by assumption) ?_
  rotate_left 1
  · intro w hSw; (try dsimp only at hSw); go_simp; all_goals with_reducible rfl
  try simp only [Act.put, List.setIfInBounds_toArray, List.set_cons_zero, List.set_cons_succ]
  refine takeO 6 (some 140) (v := ?_) rfl rfl (by kernel_rfl) (by kernel_rfl) (by kernel_rfl) (fun _ _ _ h => h) (Or.inl ⟨by rfl, ?_⟩) (by assumption) ?_
  rotate_left 1
  · intro w hSw; (try dsimp only at hSw); go_simp; all_goals with_reducible rfl
  try simp only [Act.put, List.setIfInBounds_toArray, List.set_cons_zero, List.set_cons_succ]
  refine takeO 7 (some 141) (v := ?_) rfl rfl (by kernel_rfl) (by kernel_rfl) (by kernel_rfl) (fun _ _ _ h => h) (Or.inl ⟨by rfl, ?_⟩) (by assumption) ?_
  rotate_left 1
  · intro w hSw; (try dsimp only at hSw); go_simp; all_goals with_reducible rfl
  try simp only [Act.put, List.setIfInBounds_toArray, List.set_cons_zero, List.set_cons_succ]
  refine takeO 8 (some 142) (v := ?_) rfl rfl (by kernel_rfl) (by kernel_rfl) (by kernel_rfl) (fun _ _ _ h => h) (Or.inl ⟨by rfl, ?_⟩) (by assumption) ?_
  rotate_left 1
  · intro w hSw; (try dsimp only at hSw); go_simp; all_goals with_reducible rfl
  try simp only [Act.put, List.setIfInBounds_toArray, List.set_cons_zero, List.set_cons_succ]
  refine takeO 9 (some 143) (v := ?_) rfl rfl (by kernel_rfl) (by kernel_rfl) (by kernel_rfl) (fun _ _ _ h => h) (Or.inl ⟨by rfl, ?_⟩) (by assumption) ?_
  rotate_left 1
  · intro w hSw; (try dsimp only at hSw); go_simp; all_goals with_reducible rfl
  try simp only [Act.put, List.setIfInBounds_toArray, List.set_cons_zero, List.set_cons_succ]
  refine wpAnyH_ready (rs := [10]) (by kernel_rfl) (by simp) ?_
  refine AllReadyH.cons rfl (fun K hK => ?_) AllReadyH.nil
  go_simp
  refine HPU.out.mono ?_; rintro e V2 ⟨ao, c2, rfl, hown, hbel⟩; have HPO := Lib.hid hown; have HBE := Lib.hid hbel; have HK2 := Lib.hid (Blk.below HKG.out hbel (Blk.lt HKG.out)); clear hown hbel
  go_wp2_with fail
  refine hK.out _ _ (by first | exact HKG.out.cell 0 | exact HK2.out.cell 0 | exact HK3.out.cell 0) (fun hHeld => ?_)
  clear hK K
  try simp only [Act.put, List.setIfInBounds_toArray, List.set_cons_zero, List.set_cons_succ]
  refine wpAnyH_ready (rs := [11]) (by kernel_rfl) (by simp) ?_
  refine AllReadyH.cons rfl (fun K hK => ?_) AllReadyH.nil
  refine step_copyN rfl (.tmp 137) (.tmp 144) 39 39 (some 145) rfl rfl 5 Try.underlying39 isz8 w.heap.size V.drew.heap.size a ao bl.length c 2 c2 (u8s bl) (u8s (putL [] ((bl.length : Int) + 4) 2)) rfl rfl (ownsRow_below HO.out HBE.out) HPO.out (by decide) (by have := HLL.out; omega) (u8s_one _) ?_
  intro V3 ho3 hf3
  rw [← u8s_drop, ← u8s_append] at ho3
  have HK3 := Lib.hid (Blk.frm HK2.out hf3 (fun hh => ownsRow_ne (ownsRow_below HO.out HBE.out) HK2.out (by decide) _ hh rfl))
  have HB3 := Lib.hid (show Below w.heap.size w V3.drew from ((HBV.out.trans ((show Below w.heap.size V.drew V2 from HBE.out.mono HBV.out.size))).trans (Frm.toBelow hf3 (Nat.le_trans HBV.out.size HBE.out.size) (fun i hi hh => Nat.lt_irrefl _ (Nat.lt_of_lt_of_le hi (own_ge HO.out _ hh))))).drew)
  have HO3 := Lib.hid (show V3.drew.ownsRow w.heap.size 5 1 (.slice a bl.length c) bl.length _ from ho3)
  clear ho3 hf3 HBE HPO HO
  refine hK.out _ _ (by first | exact HKG.out.cell 0 | exact HK2.out.cell 0 | exact HK3.out.cell 0) (fun hHeld => ?_)
  clear hK K
  try simp only [Act.put, List.setIfInBounds_toArray, List.set_cons_zero, List.set_cons_succ]
  refine wpAnyH_done (by kernel_rfl) ?_ _
  clear HPU HKG HK2 kw
  have HK3' := Lib.hid (show Blk V3.drew (w2.heap.size + 1) 74 [.slice a bl.length c] from HK3.out)
  clear HK3
  have HK3 := HK3'
  clear HK3'
  obtain ⟨cl, hcl⟩ : ∃ cl, putL [] ((bl.length : Int) + 4) 2 ++ bl.drop 2 = cl := ⟨_, rfl⟩
  rw [hcl] at HO3
  have HCL := Lib.hid (show ∀ x ∈ cl, x < 256 from hcl ▸ copied_lt HLT.out)
  have HCN := Lib.hid (show cl.length = bl.length from hcl ▸ copied_len (by have := HLL.out; omega))
  have HF := Lib.hid (show fl = putL cl (addN 0 cl) 4 from hcl ▸ HE.out)
  clear hcl
  have HRD := Lib.hid (ownsRow_rd HO3.out)
  have HSU := Lib.hid (of_any a bl.length c cl V3.drew HCL.out HRD.out)
  have hsl : addN 0 cl < 4294967296 := addN_lt _ _ HCL.out
  have HPL := Lib.hid (putfr_any a bl.length c cl (addN 0 cl) V3.drew HRD.out (by have := HLL.out; omega) (by omega))
  rw [← HF.out] at HPL
  generalize addN 0 cl = sm at *
  have kv : IntKind.i64.wrap (sm : Int) = sm := IntWalk.i64_in _ (by omega)
  go_wp2_with fail
  refine wp_region_held_drew (S := (fun w' => w'.cell? ⟨w2.heap.size + 1, 0, none⟩ = some (.slice a bl.length c))) (by kernel_rfl) (by first | exact HK3.out.cell 0 | exact HK5.out.cell 0) (fun hHeld => ?_)
  refine takeO 0 (some 146) (v := ?_) rfl rfl (by kernel_rfl) (by kernel_rfl) (by kernel_rfl) (fun _ _ _ h => h) (Or.inl ⟨by rfl, ?_⟩) (by assumption) ?_
  rotate_left 1
  · intro w hSw; (try dsimp only at hSw); go_simp; all_goals with_reducible rfl
  try simp only [Act.put, List.setIfInBounds_toArray, List.set_cons_zero, List.set_cons_succ]
  refine takeO 1 (some 147) (v := ?_) rfl rfl (by kernel_rfl) (by kernel_rfl) (by kernel_rfl) (fun _ _ _ h => h) (Or.inl ⟨by rfl, ?_⟩) (by assumption) ?_
  rotate_left 1
  · intro w hSw; (try dsimp only at hSw); go_simp; all_goals with_reducible rfl
  try simp only [Act.put, List.setIfInBounds_toArray, List.set_cons_zero, List.set_cons_succ]
  refine takeO 2 (some 148) (v := ?_) rfl rfl (by kernel_rfl) (by kernel_rfl) (by kernel_rfl) (fun _ _ _ h => h) (Or.inl ⟨by rfl, ?_⟩) (by assumption) ?_
  rotate_left 1
  · intro w hSw; (try dsimp only at hSw); go_simp; all_goals with_reducible rfl
  try simp only [Act.put, List.setIfInBounds_toArray, List.set_cons_zero, List.set_cons_succ]
  refine takeO 3 (some 149) (v := ?_) rfl rfl (by kernel_rfl) (by kernel_rfl) (by kernel_rfl) (fun _ _ _ h => h) (Or.inl ⟨by rfl, ?_⟩) (by assumption) ?_
  rotate_left 1
  · intro w hSw; (try dsimp only at hSw); go_simp; all_goals with_reducible rfl
  try simp only [Act.put, List.setIfInBounds_toArray, List.set_cons_zero, List.set_cons_succ]
  refine takeO 4 (some 150) (v := ?_) rfl rfl (by kernel_rfl) (by kernel_rfl) (by kernel_rfl) (fun _ _ _ h => h) (Or.inl ⟨by rfl, ?_⟩) (by assumption) ?_
  rotate_left 1
  · intro w hSw; (try dsimp only at hSw); go_simp; all_goals with_reducible rfl
  try simp only [Act.put, List.setIfInBounds_toArray, List.set_cons_zero, List.set_cons_succ]
  refine takeO 5 (some 151) (v := ?_) rfl rfl (by kernel_rfl) (by kernel_rfl) (by kernel_rfl) (fun _ _ _ h => h) (Or.inl ⟨by rfl, ?_⟩) (by assumption) ?_
  rotate_left 1
  · intro w hSw; (try dsimp only at hSw); go_simp; all_goals with_reducible rfl
  try simp only [Act.put, List.setIfInBounds_toArray, List.set_cons_zero, List.set_cons_succ]
  refine takeO 6 (some 152) (v := ?_) rfl rfl (by kernel_rfl) (by kernel_rfl) (by kernel_rfl) (fun _ _ _ h => h) (Or.inl ⟨by rfl, ?_⟩) (by assumption) ?_
  rotate_left 1
  · intro w hSw; (try dsimp only at hSw); go_simp; all_goals with_reducible rfl
  try simp only [Act.put, List.setIfInBounds_toArray, List.set_cons_zero, List.set_cons_succ]
  refine takeO 7 (some 153) (v := ?_) rfl rfl (by kernel_rfl) (by kernel_rfl) (by kernel_rfl) (fun _ _ _ h => h) (Or.inl ⟨by rfl, ?_⟩) (by assumption) ?_
  rotate_left 1
  · intro w hSw; (try dsimp only at hSw); go_simp; all_goals with_reducible rfl
  try simp only [Act.put, List.setIfInBounds_toArray, List.set_cons_zero, List.set_cons_succ]
  refine wpAnyH_ready (rs := [8]) (by kernel_rfl) (by simp) ?_
  refine AllReadyH.cons rfl (fun K hK => ?_) AllReadyH.nil
  go_simp
  refine HSU.out.mono ?_; rintro e V4 ⟨rfl, rfl⟩
  go_wp2_with fail
  refine hK.out _ _ (by first | exact HK3.out.cell 0 | exact HK5.out.cell 0) (fun hHeld => ?_)
  clear hK K
  try simp only [Act.put, List.setIfInBounds_toArray, List.set_cons_zero, List.set_cons_succ]
  refine takeO 9 (some 155) (v := ?_) rfl rfl (by kernel_rfl) (by kernel_rfl) (by kernel_rfl) (fun _ _ _ h => h) (Or.inl ⟨by rfl, ?_⟩) (by assumption) ?_
  rotate_left 1
  · intro w hSw; (try dsimp only at hSw); go_simp; all_goals with_reducible rfl
  try simp only [Act.put, List.setIfInBounds_toArray, List.set_cons_zero, List.set_cons_succ]
  refine wpAnyH_ready (rs := [10]) (by kernel_rfl) (by simp) ?_
  refine AllReadyH.cons rfl (fun K hK => ?_) AllReadyH.nil
  go_simp
  refine HPL.out.mono ?_; rintro e V5 ⟨ao, c2, rfl, hown, hbel⟩; have HPO := Lib.hid hown; have HBE := Lib.hid hbel; have HK5 := Lib.hid (Blk.below HK3.out hbel (Blk.lt HK3.out)); clear hown hbel
  go_wp2_with fail
  refine hK.out _ _ (by first | exact HK3.out.cell 0 | exact HK5.out.cell 0) (fun hHeld => ?_)
  clear hK K
  try simp only [Act.put, List.setIfInBounds_toArray, List.set_cons_zero, List.set_cons_succ]
  refine takeO 11 (some 2) (v := ?_) rfl rfl (by kernel_rfl) (by kernel_rfl) (by kernel_rfl) (fun _ _ _ h => h) (Or.inl ⟨by rfl, ?_⟩) (by assumption) ?_
  rotate_left 1
  · intro w hSw; (try dsimp only at hSw); go_simp; all_goals with_reducible rfl
  try simp only [Act.put, List.setIfInBounds_toArray, List.set_cons_zero, List.set_cons_succ]
  refine takeO 12 (some 3) (v := ?_) rfl rfl (by kernel_rfl) (by kernel_rfl) (by kernel_rfl) (fun _ _ _ h => h) (Or.inl ⟨by rfl, ?_⟩) (by assumption) ?_
  rotate_left 1
  · intro w hSw; (try dsimp only at hSw); go_simp; all_goals with_reducible rfl
  try simp only [Act.put, List.setIfInBounds_toArray, List.set_cons_zero, List.set_cons_succ]
  refine wpAnyH_done (by kernel_rfl) ?_ _
  go_wp2_with fail
  go_ret2
  rw [HQ.out]
  exact ⟨ao, c2, rfl, own0 HPO.out HB3.out.size, HB3.out.trans (HBE.out.mono HB3.out.size)⟩
set_option maxRecDepth 100000 in
set_option maxHeartbeats 4000000 in
theorem mencode_grant (w0 l0 e0 : Int) (w : World) (hm : (MV.grant w0 l0 e0).may = true) :
    Calls Try.prog 14 #[.iface 25 (.agg #[.int .i64 w0, .int .i64 l0, .int .i64 e0])] w fun e w' => EncE w (encL (.grant w0 l0 e0)) e w' := by
  have HM := Lib.hid (mmay_any (.grant w0 l0 e0) _ w rfl trivial)
  have HK := Lib.hid (fun W : World => (show Calls Try.prog 21 #[.iface 25 (.agg #[.int .i64 w0, .int .i64 l0, .int .i64 e0])] W fun e w' => e = .returned (.int .i64 2) ∧ Below W.heap.size W w' from mkind_any (.grant w0 l0 e0) _ W rfl))
  have HI := Lib.hid (grant_in hm)
  rw [hm] at HM
  clear hm
  unfold EncE
  go_enter Try.func14, Try.ntmps14
  go_wp2_with fail
  refine HM.out.mono ?_
  rintro e w1 ⟨rfl, hb⟩
  have HB := Lib.hid hb
  clear hb
  go_wp2_with fail
  refine (HK.out _).mono ?_
  rintro e w2 ⟨rfl, hb⟩
  have HB2 := Lib.hid (HB.out.trans (hb.mono HB.out.size))
  clear hb HB
  have k9 : IntKind.u8.wrap (2 : Int) = 2 := by decide
  go_wp2_with (first | rw [ta_hello_grant] | rw [ta_grant_grant] | rw [ta_ask_grant] | rw [ta_reply_grant] | rw [ta_stop_grant])
  have H0 := Lib.hid (((new_writer w2 w.heap.size 2 HB2.out.size).alloc (.cells #[.int .i64 w0, .int .i64 l0, .int .i64 e0] 25)).alloc (.cells #[.int .i64 w0, .int .i64 l0, .int .i64 e0] 3))
  have hs2 := HB2.out.size
  have hsz : (((w2.alloc (.cells #[.int .u8 0, .int .u8 0, .int .u8 2] 5)).alloc (.cells #[.slice (some ⟨w2.heap.size, 0, none⟩) 3 3] 74)).alloc (.cells #[.int .i64 w0, .int .i64 l0, .int .i64 e0] 25)).heap.size = w2.heap.size + 1 + 1 + 1 := by simp
  have HBL := Lib.hid ((((HB2.out.alloc HB2.out.size (.cells #[.int .u8 0, .int .u8 0, .int .u8 2] 5)).alloc (by first | (simp; done) | (simp; omega)) (.cells #[.slice (some ⟨w2.heap.size, 0, none⟩) 3 3] 74)).alloc (by first | (simp; done) | (simp; omega)) (.cells #[.int .i64 w0, .int .i64 l0, .int .i64 e0] 25)).alloc (by first | (simp; done) | (simp; omega)) (.cells #[.int .i64 w0, .int .i64 l0, .int .i64 e0] 3))
  obtain ⟨W, hW⟩ : ∃ W, ((((w2.alloc (.cells #[.int .u8 0, .int .u8 0, .int .u8 2] 5)).alloc (.cells #[.slice (some ⟨w2.heap.size, 0, none⟩) 3 3] 74)).alloc (.cells #[.int .i64 w0, .int .i64 l0, .int .i64 e0] 25)).alloc (.cells #[.int .i64 w0, .int .i64 l0, .int .i64 e0] 3)) = W := ⟨_, rfl⟩
  have HN := Lib.hid (show Rd W (some ⟨w2.heap.size + 1 + 1 + 1, 0, none⟩) 3 3 (ints [w0, l0, e0]) from by
    have q := new_ints (((w2.alloc (.cells #[.int .u8 0, .int .u8 0, .int .u8 2] 5)).alloc (.cells #[.slice (some ⟨w2.heap.size, 0, none⟩) 3 3] 74)).alloc (.cells #[.int .i64 w0, .int .i64 l0, .int .i64 e0] 25)) [w0, l0, e0] (by simp [maxLen])
    rw [hsz] at q; rw [← hW]; exact q)
  have HZ := Lib.hid (show WAt w.heap.size W (w2.heap.size + 1) [0, 0, 2] from hW ▸ H0.out)
  have HBW := Lib.hid (show Below w.heap.size w W from hW ▸ HBL.out)
  clear H0 HBL
  rw [hW]
  clear hW
  have HC := Lib.hid (wnums_any w.heap.size (w2.heap.size + 1) [0, 0, 2] (some ⟨w2.heap.size + 1 + 1 + 1, 0, none⟩) 3 3 [w0, l0, e0] W HBW.out.size HZ.out (by decide) (by simp) HN.out (by intro b o h; cases h; omega) HI.out)
  have HL := Lib.hid (show numsL [0, 0, 2] [w0, l0, e0] = bodyL (.grant w0 l0 e0) from rfl)
  have HLL := Lib.hid (show 3 ≤ (bodyL (.grant w0 l0 e0)).length ∧ (bodyL (.grant w0 l0 e0)).length ≤ 900000 from by rw [← HL.out, numsL_len]; simp)
  have HLT := Lib.hid (show ∀ x ∈ bodyL (.grant w0 l0 e0), x < 256 from by rw [← HL.out]; exact numsL_lt _ _ (by decide))
  rw [HL.out] at HC
  refine HC.out.mono ?_
  clear HC HN HZ
  rintro e V ⟨rfl, hz, hf⟩
  have HBV := Lib.hid (show Below w.heap.size w V from HBW.out.trans (Frm.toBelow hf HBW.out.size (fun i hi hs => by have hs' : i = w2.heap.size + 1 := hs; omega)))
  have HE := Lib.hid (show encL (.grant w0 l0 e0) = frameL (bodyL (.grant w0 l0 e0)) from rfl)
  clear hf HBW HL
  obtain ⟨a, c, hk, ho⟩ := hz
  have HKG := Lib.hid hk
  have HO := Lib.hid ho
  have t0 : V.cell? ⟨w2.heap.size + 1, 0, none⟩ = some (.slice a (bodyL (.grant w0 l0 e0)).length c) := hk.cell 0
  clear hk ho
  generalize hfl : encL (.grant w0 l0 e0) = fl at HE
  have HQ := Lib.hid hfl
  clear hfl
  generalize bodyL (.grant w0 l0 e0) = bl at *
  go_wp2_with fail
  have HKG' := Lib.hid (show Blk V.drew (w2.heap.size + 1) 74 [.slice a bl.length c] from HKG.out)
  clear HKG t0
  have HKG := HKG'
  clear HKG'
  have HO' := Lib.hid (show V.drew.ownsRow w.heap.size 5 1 (.slice a bl.length c) bl.length (u8s bl) from HO.out)
  clear HO
  have HO := HO'
  clear HO'
  have HBV' := Lib.hid (show Below w.heap.size w V.drew from HBV.out.drew)
  clear HBV
  have HBV := HBV'
  clear HBV'
  have HPU := Lib.hid (put2_any ((bl.length : Int) + 4) V.drew (by have := HLL.out; omega))
  have kw : IntKind.i64.wrap ((bl.length : Int) + 4) = (bl.length : Int) + 4 := IntWalk.i64_in _ (by have := HLL.out; omega)
  refine wp_region_held_drew (S := (fun w' => w'.cell? ⟨w2.heap.size + 1, 0, none⟩ = some (.slice a bl.length c))) (by kernel_rfl) (by first | exact HKG.out.cell 0 | exact HK2.out.cell 0 | exact HK3.out.cell 0) (fun hHeld => ?_)
  refine takeO 0 (some 134) (v := ?_) rfl rfl (by kernel_rfl) (by kernel_rfl) (by kernel_rfl) (fun _ _ _ h => h) (Or.inl ⟨by rfl, ?_⟩) (by assumption) ?_
  rotate_left 1
  · intro w hSw; (try dsimp only at hSw); go_simp; all_goals with_reducible rfl
  try simp only [Act.put, List.setIfInBounds_toArray, List.set_cons_zero, List.set_cons_succ]
  refine takeO 1 (some 135) (v := ?_) rfl rfl (by kernel_rfl) (by kernel_rfl) (by kernel_rfl) (fun _ _ _ h => h) (Or.inl ⟨by rfl, ?_⟩) (by assumption) ?_
  rotate_left 1
  · intro w hSw; (try dsimp only at hSw); go_simp; all_goals with_reducible rfl
  try simp only [Act.put, List.setIfInBounds_toArray, List.set_cons_zero, List.set_cons_succ]
  refine takeO 2 (some 136) (v := ?_) rfl rfl (by kernel_rfl) (by kernel_rfl) (by kernel_rfl) (fun _ _ _ h => h) (Or.inl ⟨by rfl, ?_⟩) (by assumption) ?_
  rotate_left 1
  · intro w hSw; (try dsimp only at hSw); go_simp; all_goals with_reducible rfl
  try simp only [Act.put, List.setIfInBounds_toArray, List.set_cons_zero, List.set_cons_succ]
  refine takeO 3 (some 137) (v := ?_) rfl rfl (by kernel_rfl) (by kernel_rfl) (by kernel_rfl) (fun _ _ _ h => h) (Or.inl ⟨by rfl, ?_⟩) (by assumption) ?_
  rotate_left 1
  · intro w hSw; (try dsimp only at hSw); go_simp; all_goals with_reducible rfl
  try simp only [Act.put, List.setIfInBounds_toArray, List.set_cons_zero, List.set_cons_succ]
  refine takeO 4 (some 138) (v := ?_) rfl rfl (by kernel_rfl) (by kernel_rfl) (by kernel_rfl) (fun _ _ _ h => h) (Or.inl ⟨by rfl, ?_⟩) (by assumption) ?_
  rotate_left 1
  · intro w hSw; (try dsimp only at hSw); go_simp; all_goals with_reducible rfl
  try simp only [Act.put, List.setIfInBounds_toArray, List.set_cons_zero, List.set_cons_succ]
  refine takeO 5 (some 139) (v := ?_) rfl rfl (by kernel_rfl) (by kernel_rfl) (by kernel_rfl) (fun _ _ _ h => h) (Or.inl ⟨by rfl, ?_⟩) (by assumption) ?_
  rotate_left 1
  · intro w hSw; (try dsimp only at hSw); go_simp; all_goals with_reducible rfl
  try simp only [Act.put, List.setIfInBounds_toArray, List.set_cons_zero, List.set_cons_succ]
  refine takeO 6 (some 140) (v := ?_) rfl rfl (by kernel_rfl) (by kernel_rfl) (by kernel_rfl) (fun _ _ _ h => h) (Or.inl ⟨by rfl, ?_⟩) (by assumption) ?_
  rotate_left 1
  · intro w hSw; (try dsimp only at hSw); go_simp; all_goals with_reducible rfl
  try simp only [Act.put, List.setIfInBounds_toArray, List.set_cons_zero, List.set_cons_succ]
  refine takeO 7 (some 141) (v := ?_) rfl rfl (by kernel_rfl) (by kernel_rfl) (by kernel_rfl) (fun _ _ _ h => h) (Or.inl ⟨by rfl, ?_⟩) (by assumption) ?_
  rotate_left 1
  · intro w hSw; (try dsimp only at hSw); go_simp; all_goals with_reducible rfl
  try simp only [Act.put, List.setIfInBounds_toArray, List.set_cons_zero, List.set_cons_succ]
  refine takeO 8 (some 142) (v := ?_) rfl rfl (by kernel_rfl) (by kernel_rfl) (by kernel_rfl) (fun _ _ _ h => h) (Or.inl ⟨by rfl, ?_⟩) (by assumption) ?_
  rotate_left 1
  · intro w hSw; (try dsimp only at hSw); go_simp; all_goals with_reducible rfl
  try simp only [Act.put, List.setIfInBounds_toArray, List.set_cons_zero, List.set_cons_succ]
  refine takeO 9 (some 143) (v := ?_) rfl rfl (by kernel_rfl) (by kernel_rfl) (by kernel_rfl) (fun _ _ _ h => h) (Or.inl ⟨by rfl, ?_⟩) (by assumption) ?_
  rotate_left 1
  · intro w hSw; (try dsimp only at hSw); go_simp; all_goals with_reducible rfl
  try simp only [Act.put, List.setIfInBounds_toArray, List.set_cons_zero, List.set_cons_succ]
  refine wpAnyH_ready (rs := [10]) (by kernel_rfl) (by simp) ?_
  refine AllReadyH.cons rfl (fun K hK => ?_) AllReadyH.nil
  go_simp
  refine HPU.out.mono ?_; rintro e V2 ⟨ao, c2, rfl, hown, hbel⟩; have HPO := Lib.hid hown; have HBE := Lib.hid hbel; have HK2 := Lib.hid (Blk.below HKG.out hbel (Blk.lt HKG.out)); clear hown hbel
  go_wp2_with fail
  refine hK.out _ _ (by first | exact HKG.out.cell 0 | exact HK2.out.cell 0 | exact HK3.out.cell 0) (fun hHeld => ?_)
  clear hK K
  try simp only [Act.put, List.setIfInBounds_toArray, List.set_cons_zero, List.set_cons_succ]
  refine wpAnyH_ready (rs := [11]) (by kernel_rfl) (by simp) ?_
  refine AllReadyH.cons rfl (fun K hK => ?_) AllReadyH.nil
  refine step_copyN rfl (.tmp 137) (.tmp 144) 39 39 (some 145) rfl rfl 5 Try.underlying39 isz8 w.heap.size V.drew.heap.size a ao bl.length c 2 c2 (u8s bl) (u8s (putL [] ((bl.length : Int) + 4) 2)) rfl rfl (ownsRow_below HO.out HBE.out) HPO.out (by decide) (by have := HLL.out; omega) (u8s_one _) ?_
  intro V3 ho3 hf3
  rw [← u8s_drop, ← u8s_append] at ho3
  have HK3 := Lib.hid (Blk.frm HK2.out hf3 (fun hh => ownsRow_ne (ownsRow_below HO.out HBE.out) HK2.out (by decide) _ hh rfl))
  have HB3 := Lib.hid (show Below w.heap.size w V3.drew from ((HBV.out.trans ((show Below w.heap.size V.drew V2 from HBE.out.mono HBV.out.size))).trans (Frm.toBelow hf3 (Nat.le_trans HBV.out.size HBE.out.size) (fun i hi hh => Nat.lt_irrefl _ (Nat.lt_of_lt_of_le hi (own_ge HO.out _ hh))))).drew)
  have HO3 := Lib.hid (show V3.drew.ownsRow w.heap.size 5 1 (.slice a bl.length c) bl.length _ from ho3)
  clear ho3 hf3 HBE HPO HO
  refine hK.out _ _ (by first | exact HKG.out.cell 0 | exact HK2.out.cell 0 | exact HK3.out.cell 0) (fun hHeld => ?_)
  clear hK K
  try simp only [Act.put, List.setIfInBounds_toArray, List.set_cons_zero, List.set_cons_succ]
  refine wpAnyH_done (by kernel_rfl) ?_ _
  clear HPU HKG HK2 kw
  have HK3' := Lib.hid (show Blk V3.drew (w2.heap.size + 1) 74 [.slice a bl.length c] from HK3.out)
  clear HK3
  have HK3 := HK3'
  clear HK3'
  obtain ⟨cl, hcl⟩ : ∃ cl, putL [] ((bl.length : Int) + 4) 2 ++ bl.drop 2 = cl := ⟨_, rfl⟩
  rw [hcl] at HO3
  have HCL := Lib.hid (show ∀ x ∈ cl, x < 256 from hcl ▸ copied_lt HLT.out)
  have HCN := Lib.hid (show cl.length = bl.length from hcl ▸ copied_len (by have := HLL.out; omega))
  have HF := Lib.hid (show fl = putL cl (addN 0 cl) 4 from hcl ▸ HE.out)
  clear hcl
  have HRD := Lib.hid (ownsRow_rd HO3.out)
  have HSU := Lib.hid (of_any a bl.length c cl V3.drew HCL.out HRD.out)
  have hsl : addN 0 cl < 4294967296 := addN_lt _ _ HCL.out
  have HPL := Lib.hid (putfr_any a bl.length c cl (addN 0 cl) V3.drew HRD.out (by have := HLL.out; omega) (by omega))
  rw [← HF.out] at HPL
  generalize addN 0 cl = sm at *
  have kv : IntKind.i64.wrap (sm : Int) = sm := IntWalk.i64_in _ (by omega)
  go_wp2_with fail
  refine wp_region_held_drew (S := (fun w' => w'.cell? ⟨w2.heap.size + 1, 0, none⟩ = some (.slice a bl.length c))) (by kernel_rfl) (by first | exact HK3.out.cell 0 | exact HK5.out.cell 0) (fun hHeld => ?_)
  refine takeO 0 (some 146) (v := ?_) rfl rfl (by kernel_rfl) (by kernel_rfl) (by kernel_rfl) (fun _ _ _ h => h) (Or.inl ⟨by rfl, ?_⟩) (by assumption) ?_
  rotate_left 1
  · intro w hSw; (try dsimp only at hSw); go_simp; all_goals with_reducible rfl
  try simp only [Act.put, List.setIfInBounds_toArray, List.set_cons_zero, List.set_cons_succ]
  refine takeO 1 (some 147) (v := ?_) rfl rfl (by kernel_rfl) (by kernel_rfl) (by kernel_rfl) (fun _ _ _ h => h) (Or.inl ⟨by rfl, ?_⟩) (by assumption) ?_
  rotate_left 1
  · intro w hSw; (try dsimp only at hSw); go_simp; all_goals with_reducible rfl
  try simp only [Act.put, List.setIfInBounds_toArray, List.set_cons_zero, List.set_cons_succ]
  refine takeO 2 (some 148) (v := ?_) rfl rfl (by kernel_rfl) (by kernel_rfl) (by kernel_rfl) (fun _ _ _ h => h) (Or.inl ⟨by rfl, ?_⟩) (by assumption) ?_
  rotate_left 1
  · intro w hSw; (try dsimp only at hSw); go_simp; all_goals with_reducible rfl
  try simp only [Act.put, List.setIfInBounds_toArray, List.set_cons_zero, List.set_cons_succ]
  refine takeO 3 (some 149) (v := ?_) rfl rfl (by kernel_rfl) (by kernel_rfl) (by kernel_rfl) (fun _ _ _ h => h) (Or.inl ⟨by rfl, ?_⟩) (by assumption) ?_
  rotate_left 1
  · intro w hSw; (try dsimp only at hSw); go_simp; all_goals with_reducible rfl
  try simp only [Act.put, List.setIfInBounds_toArray, List.set_cons_zero, List.set_cons_succ]
  refine takeO 4 (some 150) (v := ?_) rfl rfl (by kernel_rfl) (by kernel_rfl) (by kernel_rfl) (fun _ _ _ h => h) (Or.inl ⟨by rfl, ?_⟩) (by assumption) ?_
  rotate_left 1
  · intro w hSw; (try dsimp only at hSw); go_simp; all_goals with_reducible rfl
  try simp only [Act.put, List.setIfInBounds_toArray, List.set_cons_zero, List.set_cons_succ]
  refine takeO 5 (some 151) (v := ?_) rfl rfl (by kernel_rfl) (by kernel_rfl) (by kernel_rfl) (fun _ _ _ h => h) (Or.inl ⟨by rfl, ?_⟩) (by assumption) ?_
  rotate_left 1
  · intro w hSw; (try dsimp only at hSw); go_simp; all_goals with_reducible rfl
  try simp only [Act.put, List.setIfInBounds_toArray, List.set_cons_zero, List.set_cons_succ]
  refine takeO 6 (some 152) (v := ?_) rfl rfl (by kernel_rfl) (by kernel_rfl) (by kernel_rfl) (fun _ _ _ h => h) (Or.inl ⟨by rfl, ?_⟩) (by assumption) ?_
  rotate_left 1
  · intro w hSw; (try dsimp only at hSw); go_simp; all_goals with_reducible rfl
  try simp only [Act.put, List.setIfInBounds_toArray, List.set_cons_zero, List.set_cons_succ]
  refine takeO 7 (some 153) (v := ?_) rfl rfl (by kernel_rfl) (by kernel_rfl) (by kernel_rfl) (fun _ _ _ h => h) (Or.inl ⟨by rfl, ?_⟩) (by assumption) ?_
  rotate_left 1
  · intro w hSw; (try dsimp only at hSw); go_simp; all_goals with_reducible rfl
  try simp only [Act.put, List.setIfInBounds_toArray, List.set_cons_zero, List.set_cons_succ]
  refine wpAnyH_ready (rs := [8]) (by kernel_rfl) (by simp) ?_
  refine AllReadyH.cons rfl (fun K hK => ?_) AllReadyH.nil
  go_simp
  refine HSU.out.mono ?_; rintro e V4 ⟨rfl, rfl⟩
  go_wp2_with fail
  refine hK.out _ _ (by first | exact HK3.out.cell 0 | exact HK5.out.cell 0) (fun hHeld => ?_)
  clear hK K
  try simp only [Act.put, List.setIfInBounds_toArray, List.set_cons_zero, List.set_cons_succ]
  refine takeO 9 (some 155) (v := ?_) rfl rfl (by kernel_rfl) (by kernel_rfl) (by kernel_rfl) (fun _ _ _ h => h) (Or.inl ⟨by rfl, ?_⟩) (by assumption) ?_
  rotate_left 1
  · intro w hSw; (try dsimp only at hSw); go_simp; all_goals with_reducible rfl
  try simp only [Act.put, List.setIfInBounds_toArray, List.set_cons_zero, List.set_cons_succ]
  refine wpAnyH_ready (rs := [10]) (by kernel_rfl) (by simp) ?_
  refine AllReadyH.cons rfl (fun K hK => ?_) AllReadyH.nil
  go_simp
  refine HPL.out.mono ?_; rintro e V5 ⟨ao, c2, rfl, hown, hbel⟩; have HPO := Lib.hid hown; have HBE := Lib.hid hbel; have HK5 := Lib.hid (Blk.below HK3.out hbel (Blk.lt HK3.out)); clear hown hbel
  go_wp2_with fail
  refine hK.out _ _ (by first | exact HK3.out.cell 0 | exact HK5.out.cell 0) (fun hHeld => ?_)
  clear hK K
  try simp only [Act.put, List.setIfInBounds_toArray, List.set_cons_zero, List.set_cons_succ]
  refine takeO 11 (some 2) (v := ?_) rfl rfl (by kernel_rfl) (by kernel_rfl) (by kernel_rfl) (fun _ _ _ h => h) (Or.inl ⟨by rfl, ?_⟩) (by assumption) ?_
  rotate_left 1
  · intro w hSw; (try dsimp only at hSw); go_simp; all_goals with_reducible rfl
  try simp only [Act.put, List.setIfInBounds_toArray, List.set_cons_zero, List.set_cons_succ]
  refine takeO 12 (some 3) (v := ?_) rfl rfl (by kernel_rfl) (by kernel_rfl) (by kernel_rfl) (fun _ _ _ h => h) (Or.inl ⟨by rfl, ?_⟩) (by assumption) ?_
  rotate_left 1
  · intro w hSw; (try dsimp only at hSw); go_simp; all_goals with_reducible rfl
  try simp only [Act.put, List.setIfInBounds_toArray, List.set_cons_zero, List.set_cons_succ]
  refine wpAnyH_done (by kernel_rfl) ?_ _
  go_wp2_with fail
  go_ret2
  rw [HQ.out]
  exact ⟨ao, c2, rfl, own0 HPO.out HB3.out.size, HB3.out.trans (HBE.out.mono HB3.out.size)⟩
set_option maxRecDepth 100000 in
set_option maxHeartbeats 4000000 in
theorem mencode_stop (s0 q0 : Int) (w : World) (hm : (MV.stop s0 q0).may = true) :
    Calls Try.prog 14 #[.iface 34 (.agg #[.int .i64 s0, .int .i64 q0])] w fun e w' => EncE w (encL (.stop s0 q0)) e w' := by
  have HM := Lib.hid (mmay_any (.stop s0 q0) _ w rfl trivial)
  have HK := Lib.hid (fun W : World => (show Calls Try.prog 21 #[.iface 34 (.agg #[.int .i64 s0, .int .i64 q0])] W fun e w' => e = .returned (.int .i64 5) ∧ Below W.heap.size W w' from mkind_any (.stop s0 q0) _ W rfl))
  have HI := Lib.hid (stop_in hm)
  rw [hm] at HM
  clear hm
  unfold EncE
  go_enter Try.func14, Try.ntmps14
  go_wp2_with fail
  refine HM.out.mono ?_
  rintro e w1 ⟨rfl, hb⟩
  have HB := Lib.hid hb
  clear hb
  go_wp2_with fail
  refine (HK.out _).mono ?_
  rintro e w2 ⟨rfl, hb⟩
  have HB2 := Lib.hid (HB.out.trans (hb.mono HB.out.size))
  clear hb HB
  have k9 : IntKind.u8.wrap (5 : Int) = 5 := by decide
  go_wp2_with (first | rw [ta_hello_stop] | rw [ta_grant_stop] | rw [ta_ask_stop] | rw [ta_reply_stop] | rw [ta_stop_stop])
  have H0 := Lib.hid (((new_writer w2 w.heap.size 5 HB2.out.size).alloc (.cells #[.int .i64 s0, .int .i64 q0] 34)).alloc (.cells #[.int .i64 s0, .int .i64 q0] 3))
  have hs2 := HB2.out.size
  have hsz : (((w2.alloc (.cells #[.int .u8 0, .int .u8 0, .int .u8 5] 5)).alloc (.cells #[.slice (some ⟨w2.heap.size, 0, none⟩) 3 3] 74)).alloc (.cells #[.int .i64 s0, .int .i64 q0] 34)).heap.size = w2.heap.size + 1 + 1 + 1 := by simp
  have HBL := Lib.hid ((((HB2.out.alloc HB2.out.size (.cells #[.int .u8 0, .int .u8 0, .int .u8 5] 5)).alloc (by first | (simp; done) | (simp; omega)) (.cells #[.slice (some ⟨w2.heap.size, 0, none⟩) 3 3] 74)).alloc (by first | (simp; done) | (simp; omega)) (.cells #[.int .i64 s0, .int .i64 q0] 34)).alloc (by first | (simp; done) | (simp; omega)) (.cells #[.int .i64 s0, .int .i64 q0] 3))
  obtain ⟨W, hW⟩ : ∃ W, ((((w2.alloc (.cells #[.int .u8 0, .int .u8 0, .int .u8 5] 5)).alloc (.cells #[.slice (some ⟨w2.heap.size, 0, none⟩) 3 3] 74)).alloc (.cells #[.int .i64 s0, .int .i64 q0] 34)).alloc (.cells #[.int .i64 s0, .int .i64 q0] 3)) = W := ⟨_, rfl⟩
  have HN := Lib.hid (show Rd W (some ⟨w2.heap.size + 1 + 1 + 1, 0, none⟩) 2 2 (ints [s0, q0]) from by
    have q := new_ints (((w2.alloc (.cells #[.int .u8 0, .int .u8 0, .int .u8 5] 5)).alloc (.cells #[.slice (some ⟨w2.heap.size, 0, none⟩) 3 3] 74)).alloc (.cells #[.int .i64 s0, .int .i64 q0] 34)) [s0, q0] (by simp [maxLen])
    rw [hsz] at q; rw [← hW]; exact q)
  have HZ := Lib.hid (show WAt w.heap.size W (w2.heap.size + 1) [0, 0, 5] from hW ▸ H0.out)
  have HBW := Lib.hid (show Below w.heap.size w W from hW ▸ HBL.out)
  clear H0 HBL
  rw [hW]
  clear hW
  have HC := Lib.hid (wnums_any w.heap.size (w2.heap.size + 1) [0, 0, 5] (some ⟨w2.heap.size + 1 + 1 + 1, 0, none⟩) 2 2 [s0, q0] W HBW.out.size HZ.out (by decide) (by simp) HN.out (by intro b o h; cases h; omega) HI.out)
  have HL := Lib.hid (show numsL [0, 0, 5] [s0, q0] = bodyL (.stop s0 q0) from rfl)
  have HLL := Lib.hid (show 3 ≤ (bodyL (.stop s0 q0)).length ∧ (bodyL (.stop s0 q0)).length ≤ 900000 from by rw [← HL.out, numsL_len]; simp)
  have HLT := Lib.hid (show ∀ x ∈ bodyL (.stop s0 q0), x < 256 from by rw [← HL.out]; exact numsL_lt _ _ (by decide))
  rw [HL.out] at HC
  refine HC.out.mono ?_
  clear HC HN HZ
  rintro e V ⟨rfl, hz, hf⟩
  have HBV := Lib.hid (show Below w.heap.size w V from HBW.out.trans (Frm.toBelow hf HBW.out.size (fun i hi hs => by have hs' : i = w2.heap.size + 1 := hs; omega)))
  have HE := Lib.hid (show encL (.stop s0 q0) = frameL (bodyL (.stop s0 q0)) from rfl)
  clear hf HBW HL
  obtain ⟨a, c, hk, ho⟩ := hz
  have HKG := Lib.hid hk
  have HO := Lib.hid ho
  have t0 : V.cell? ⟨w2.heap.size + 1, 0, none⟩ = some (.slice a (bodyL (.stop s0 q0)).length c) := hk.cell 0
  clear hk ho
  generalize hfl : encL (.stop s0 q0) = fl at HE
  have HQ := Lib.hid hfl
  clear hfl
  generalize bodyL (.stop s0 q0) = bl at *
  go_wp2_with fail
  have HKG' := Lib.hid (show Blk V.drew (w2.heap.size + 1) 74 [.slice a bl.length c] from HKG.out)
  clear HKG t0
  have HKG := HKG'
  clear HKG'
  have HO' := Lib.hid (show V.drew.ownsRow w.heap.size 5 1 (.slice a bl.length c) bl.length (u8s bl) from HO.out)
  clear HO
  have HO := HO'
  clear HO'
  have HBV' := Lib.hid (show Below w.heap.size w V.drew from HBV.out.drew)
  clear HBV
  have HBV := HBV'
  clear HBV'
  have HPU := Lib.hid (put2_any ((bl.length : Int) + 4) V.drew (by have := HLL.out; omega))
  have kw : IntKind.i64.wrap ((bl.length : Int) + 4) = (bl.length : Int) + 4 := IntWalk.i64_in _ (by have := HLL.out; omega)
  refine wp_region_held_drew (S := (fun w' => w'.cell? ⟨w2.heap.size + 1, 0, none⟩ = some (.slice a bl.length c))) (by kernel_rfl) (by first | exact HKG.out.cell 0 | exact HK2.out.cell 0 | exact HK3.out.cell 0) (fun hHeld => ?_)
  refine takeO 0 (some 134) (v := ?_) rfl rfl (by kernel_rfl) (by kernel_rfl) (by kernel_rfl) (fun _ _ _ h => h) (Or.inl ⟨by rfl, ?_⟩) (by assumption) ?_
  rotate_left 1
  · intro w hSw; (try dsimp only at hSw); go_simp; all_goals with_reducible rfl
  try simp only [Act.put, List.setIfInBounds_toArray, List.set_cons_zero, List.set_cons_succ]
  refine takeO 1 (some 135) (v := ?_) rfl rfl (by kernel_rfl) (by kernel_rfl) (by kernel_rfl) (fun _ _ _ h => h) (Or.inl ⟨by rfl, ?_⟩) (by assumption) ?_
  rotate_left 1
  · intro w hSw; (try dsimp only at hSw); go_simp; all_goals with_reducible rfl
  try simp only [Act.put, List.setIfInBounds_toArray, List.set_cons_zero, List.set_cons_succ]
  refine takeO 2 (some 136) (v := ?_) rfl rfl (by kernel_rfl) (by kernel_rfl) (by kernel_rfl) (fun _ _ _ h => h) (Or.inl ⟨by rfl, ?_⟩) (by assumption) ?_
  rotate_left 1
  · intro w hSw; (try dsimp only at hSw); go_simp; all_goals with_reducible rfl
  try simp only [Act.put, List.setIfInBounds_toArray, List.set_cons_zero, List.set_cons_succ]
  refine takeO 3 (some 137) (v := ?_) rfl rfl (by kernel_rfl) (by kernel_rfl) (by kernel_rfl) (fun _ _ _ h => h) (Or.inl ⟨by rfl, ?_⟩) (by assumption) ?_
  rotate_left 1
  · intro w hSw; (try dsimp only at hSw); go_simp; all_goals with_reducible rfl
  try simp only [Act.put, List.setIfInBounds_toArray, List.set_cons_zero, List.set_cons_succ]
  refine takeO 4 (some 138) (v := ?_) rfl rfl (by kernel_rfl) (by kernel_rfl) (by kernel_rfl) (fun _ _ _ h => h) (Or.inl ⟨by rfl, ?_⟩) (by assumption) ?_
  rotate_left 1
  · intro w hSw; (try dsimp only at hSw); go_simp; all_goals with_reducible rfl
  try simp only [Act.put, List.setIfInBounds_toArray, List.set_cons_zero, List.set_cons_succ]
  refine takeO 5 (some 139) (v := ?_) rfl rfl (by kernel_rfl) (by kernel_rfl) (by kernel_rfl) (fun _ _ _ h => h) (Or.inl ⟨by rfl, ?_⟩) (by assumption) ?_
  rotate_left 1
  · intro w hSw; (try dsimp only at hSw); go_simp; all_goals with_reducible rfl
  try simp only [Act.put, List.setIfInBounds_toArray, List.set_cons_zero, List.set_cons_succ]
  refine takeO 6 (some 140) (v := ?_) rfl rfl (by kernel_rfl) (by kernel_rfl) (by kernel_rfl) (fun _ _ _ h => h) (Or.inl ⟨by rfl, ?_⟩) (by assumption) ?_
  rotate_left 1
  · intro w hSw; (try dsimp only at hSw); go_simp; all_goals with_reducible rfl
  try simp only [Act.put, List.setIfInBounds_toArray, List.set_cons_zero, List.set_cons_succ]
  refine takeO 7 (some 141) (v := ?_) rfl rfl (by kernel_rfl) (by kernel_rfl) (by kernel_rfl) (fun _ _ _ h => h) (Or.inl ⟨by rfl, ?_⟩) (by assumption) ?_
  rotate_left 1
  · intro w hSw; (try dsimp only at hSw); go_simp; all_goals with_reducible rfl
  try simp only [Act.put, List.setIfInBounds_toArray, List.set_cons_zero, List.set_cons_succ]
  refine takeO 8 (some 142) (v := ?_) rfl rfl (by kernel_rfl) (by kernel_rfl) (by kernel_rfl) (fun _ _ _ h => h) (Or.inl ⟨by rfl, ?_⟩) (by assumption) ?_
  rotate_left 1
  · intro w hSw; (try dsimp only at hSw); go_simp; all_goals with_reducible rfl
  try simp only [Act.put, List.setIfInBounds_toArray, List.set_cons_zero, List.set_cons_succ]
  refine takeO 9 (some 143) (v := ?_) rfl rfl (by kernel_rfl) (by kernel_rfl) (by kernel_rfl) (fun _ _ _ h => h) (Or.inl ⟨by rfl, ?_⟩) (by assumption) ?_
  rotate_left 1
  · intro w hSw; (try dsimp only at hSw); go_simp; all_goals with_reducible rfl
  try simp only [Act.put, List.setIfInBounds_toArray, List.set_cons_zero, List.set_cons_succ]
  refine wpAnyH_ready (rs := [10]) (by kernel_rfl) (by simp) ?_
  refine AllReadyH.cons rfl (fun K hK => ?_) AllReadyH.nil
  go_simp
  refine HPU.out.mono ?_; rintro e V2 ⟨ao, c2, rfl, hown, hbel⟩; have HPO := Lib.hid hown; have HBE := Lib.hid hbel; have HK2 := Lib.hid (Blk.below HKG.out hbel (Blk.lt HKG.out)); clear hown hbel
  go_wp2_with fail
  refine hK.out _ _ (by first | exact HKG.out.cell 0 | exact HK2.out.cell 0 | exact HK3.out.cell 0) (fun hHeld => ?_)
  clear hK K
  try simp only [Act.put, List.setIfInBounds_toArray, List.set_cons_zero, List.set_cons_succ]
  refine wpAnyH_ready (rs := [11]) (by kernel_rfl) (by simp) ?_
  refine AllReadyH.cons rfl (fun K hK => ?_) AllReadyH.nil
  refine step_copyN rfl (.tmp 137) (.tmp 144) 39 39 (some 145) rfl rfl 5 Try.underlying39 isz8 w.heap.size V.drew.heap.size a ao bl.length c 2 c2 (u8s bl) (u8s (putL [] ((bl.length : Int) + 4) 2)) rfl rfl (ownsRow_below HO.out HBE.out) HPO.out (by decide) (by have := HLL.out; omega) (u8s_one _) ?_
  intro V3 ho3 hf3
  rw [← u8s_drop, ← u8s_append] at ho3
  have HK3 := Lib.hid (Blk.frm HK2.out hf3 (fun hh => ownsRow_ne (ownsRow_below HO.out HBE.out) HK2.out (by decide) _ hh rfl))
  have HB3 := Lib.hid (show Below w.heap.size w V3.drew from ((HBV.out.trans ((show Below w.heap.size V.drew V2 from HBE.out.mono HBV.out.size))).trans (Frm.toBelow hf3 (Nat.le_trans HBV.out.size HBE.out.size) (fun i hi hh => Nat.lt_irrefl _ (Nat.lt_of_lt_of_le hi (own_ge HO.out _ hh))))).drew)
  have HO3 := Lib.hid (show V3.drew.ownsRow w.heap.size 5 1 (.slice a bl.length c) bl.length _ from ho3)
  clear ho3 hf3 HBE HPO HO
  refine hK.out _ _ (by first | exact HKG.out.cell 0 | exact HK2.out.cell 0 | exact HK3.out.cell 0) (fun hHeld => ?_)
  clear hK K
  try simp only [Act.put, List.setIfInBounds_toArray, List.set_cons_zero, List.set_cons_succ]
  refine wpAnyH_done (by kernel_rfl) ?_ _
  clear HPU HKG HK2 kw
  have HK3' := Lib.hid (show Blk V3.drew (w2.heap.size + 1) 74 [.slice a bl.length c] from HK3.out)
  clear HK3
  have HK3 := HK3'
  clear HK3'
  obtain ⟨cl, hcl⟩ : ∃ cl, putL [] ((bl.length : Int) + 4) 2 ++ bl.drop 2 = cl := ⟨_, rfl⟩
  rw [hcl] at HO3
  have HCL := Lib.hid (show ∀ x ∈ cl, x < 256 from hcl ▸ copied_lt HLT.out)
  have HCN := Lib.hid (show cl.length = bl.length from hcl ▸ copied_len (by have := HLL.out; omega))
  have HF := Lib.hid (show fl = putL cl (addN 0 cl) 4 from hcl ▸ HE.out)
  clear hcl
  have HRD := Lib.hid (ownsRow_rd HO3.out)
  have HSU := Lib.hid (of_any a bl.length c cl V3.drew HCL.out HRD.out)
  have hsl : addN 0 cl < 4294967296 := addN_lt _ _ HCL.out
  have HPL := Lib.hid (putfr_any a bl.length c cl (addN 0 cl) V3.drew HRD.out (by have := HLL.out; omega) (by omega))
  rw [← HF.out] at HPL
  generalize addN 0 cl = sm at *
  have kv : IntKind.i64.wrap (sm : Int) = sm := IntWalk.i64_in _ (by omega)
  go_wp2_with fail
  refine wp_region_held_drew (S := (fun w' => w'.cell? ⟨w2.heap.size + 1, 0, none⟩ = some (.slice a bl.length c))) (by kernel_rfl) (by first | exact HK3.out.cell 0 | exact HK5.out.cell 0) (fun hHeld => ?_)
  refine takeO 0 (some 146) (v := ?_) rfl rfl (by kernel_rfl) (by kernel_rfl) (by kernel_rfl) (fun _ _ _ h => h) (Or.inl ⟨by rfl, ?_⟩) (by assumption) ?_
  rotate_left 1
  · intro w hSw; (try dsimp only at hSw); go_simp; all_goals with_reducible rfl
  try simp only [Act.put, List.setIfInBounds_toArray, List.set_cons_zero, List.set_cons_succ]
  refine takeO 1 (some 147) (v := ?_) rfl rfl (by kernel_rfl) (by kernel_rfl) (by kernel_rfl) (fun _ _ _ h => h) (Or.inl ⟨by rfl, ?_⟩) (by assumption) ?_
  rotate_left 1
  · intro w hSw; (try dsimp only at hSw); go_simp; all_goals with_reducible rfl
  try simp only [Act.put, List.setIfInBounds_toArray, List.set_cons_zero, List.set_cons_succ]
  refine takeO 2 (some 148) (v := ?_) rfl rfl (by kernel_rfl) (by kernel_rfl) (by kernel_rfl) (fun _ _ _ h => h) (Or.inl ⟨by rfl, ?_⟩) (by assumption) ?_
  rotate_left 1
  · intro w hSw; (try dsimp only at hSw); go_simp; all_goals with_reducible rfl
  try simp only [Act.put, List.setIfInBounds_toArray, List.set_cons_zero, List.set_cons_succ]
  refine takeO 3 (some 149) (v := ?_) rfl rfl (by kernel_rfl) (by kernel_rfl) (by kernel_rfl) (fun _ _ _ h => h) (Or.inl ⟨by rfl, ?_⟩) (by assumption) ?_
  rotate_left 1
  · intro w hSw; (try dsimp only at hSw); go_simp; all_goals with_reducible rfl
  try simp only [Act.put, List.setIfInBounds_toArray, List.set_cons_zero, List.set_cons_succ]
  refine takeO 4 (some 150) (v := ?_) rfl rfl (by kernel_rfl) (by kernel_rfl) (by kernel_rfl) (fun _ _ _ h => h) (Or.inl ⟨by rfl, ?_⟩) (by assumption) ?_
  rotate_left 1
  · intro w hSw; (try dsimp only at hSw); go_simp; all_goals with_reducible rfl
  try simp only [Act.put, List.setIfInBounds_toArray, List.set_cons_zero, List.set_cons_succ]
  refine takeO 5 (some 151) (v := ?_) rfl rfl (by kernel_rfl) (by kernel_rfl) (by kernel_rfl) (fun _ _ _ h => h) (Or.inl ⟨by rfl, ?_⟩) (by assumption) ?_
  rotate_left 1
  · intro w hSw; (try dsimp only at hSw); go_simp; all_goals with_reducible rfl
  try simp only [Act.put, List.setIfInBounds_toArray, List.set_cons_zero, List.set_cons_succ]
  refine takeO 6 (some 152) (v := ?_) rfl rfl (by kernel_rfl) (by kernel_rfl) (by kernel_rfl) (fun _ _ _ h => h) (Or.inl ⟨by rfl, ?_⟩) (by assumption) ?_
  rotate_left 1
  · intro w hSw; (try dsimp only at hSw); go_simp; all_goals with_reducible rfl
  try simp only [Act.put, List.setIfInBounds_toArray, List.set_cons_zero, List.set_cons_succ]
  refine takeO 7 (some 153) (v := ?_) rfl rfl (by kernel_rfl) (by kernel_rfl) (by kernel_rfl) (fun _ _ _ h => h) (Or.inl ⟨by rfl, ?_⟩) (by assumption) ?_
  rotate_left 1
  · intro w hSw; (try dsimp only at hSw); go_simp; all_goals with_reducible rfl
  try simp only [Act.put, List.setIfInBounds_toArray, List.set_cons_zero, List.set_cons_succ]
  refine wpAnyH_ready (rs := [8]) (by kernel_rfl) (by simp) ?_
  refine AllReadyH.cons rfl (fun K hK => ?_) AllReadyH.nil
  go_simp
  refine HSU.out.mono ?_; rintro e V4 ⟨rfl, rfl⟩
  go_wp2_with fail
  refine hK.out _ _ (by first | exact HK3.out.cell 0 | exact HK5.out.cell 0) (fun hHeld => ?_)
  clear hK K
  try simp only [Act.put, List.setIfInBounds_toArray, List.set_cons_zero, List.set_cons_succ]
  refine takeO 9 (some 155) (v := ?_) rfl rfl (by kernel_rfl) (by kernel_rfl) (by kernel_rfl) (fun _ _ _ h => h) (Or.inl ⟨by rfl, ?_⟩) (by assumption) ?_
  rotate_left 1
  · intro w hSw; (try dsimp only at hSw); go_simp; all_goals with_reducible rfl
  try simp only [Act.put, List.setIfInBounds_toArray, List.set_cons_zero, List.set_cons_succ]
  refine wpAnyH_ready (rs := [10]) (by kernel_rfl) (by simp) ?_
  refine AllReadyH.cons rfl (fun K hK => ?_) AllReadyH.nil
  go_simp
  refine HPL.out.mono ?_; rintro e V5 ⟨ao, c2, rfl, hown, hbel⟩; have HPO := Lib.hid hown; have HBE := Lib.hid hbel; have HK5 := Lib.hid (Blk.below HK3.out hbel (Blk.lt HK3.out)); clear hown hbel
  go_wp2_with fail
  refine hK.out _ _ (by first | exact HK3.out.cell 0 | exact HK5.out.cell 0) (fun hHeld => ?_)
  clear hK K
  try simp only [Act.put, List.setIfInBounds_toArray, List.set_cons_zero, List.set_cons_succ]
  refine takeO 11 (some 2) (v := ?_) rfl rfl (by kernel_rfl) (by kernel_rfl) (by kernel_rfl) (fun _ _ _ h => h) (Or.inl ⟨by rfl, ?_⟩) (by assumption) ?_
  rotate_left 1
  · intro w hSw; (try dsimp only at hSw); go_simp; all_goals with_reducible rfl
  try simp only [Act.put, List.setIfInBounds_toArray, List.set_cons_zero, List.set_cons_succ]
  refine takeO 12 (some 3) (v := ?_) rfl rfl (by kernel_rfl) (by kernel_rfl) (by kernel_rfl) (fun _ _ _ h => h) (Or.inl ⟨by rfl, ?_⟩) (by assumption) ?_
  rotate_left 1
  · intro w hSw; (try dsimp only at hSw); go_simp; all_goals with_reducible rfl
  try simp only [Act.put, List.setIfInBounds_toArray, List.set_cons_zero, List.set_cons_succ]
  refine wpAnyH_done (by kernel_rfl) ?_ _
  go_wp2_with fail
  go_ret2
  rw [HQ.out]
  exact ⟨ao, c2, rfl, own0 HPO.out HB3.out.size, HB3.out.trans (HBE.out.mono HB3.out.size)⟩
end Go.Proofs.Ytjhkdbcfkaaffaa
