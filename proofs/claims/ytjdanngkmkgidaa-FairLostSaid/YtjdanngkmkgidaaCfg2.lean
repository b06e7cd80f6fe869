/- place.Shards, place.Copies, backoff.Most, fair.Bound, slices.Contains of ints. -/
import Derived.Test.YtjdanngkmkgidaaCfg1
import Derived.Test.YtjdanngkmkgidaaFrm
namespace Go.Proofs.Ytjdanngkmkgidaa
open Go.RowKit
set_option linter.unusedVariables false

def ints (l : List Int) : List Value := l.map (Value.int .i64)
theorem ints_app (a b : List Int) : ints (a ++ b) = ints a ++ ints b := by simp [ints]
/-- is it there? -/
def has {α : Type} [DecidableEq α] (l : List α) (v : α) : Bool := decide (v ∈ l)
theorem has_true {α : Type} [DecidableEq α] {l : List α} {v : α} (h : v ∈ l) : has l v = true := by unfold has; simpa using h
theorem has_iff {α : Type} [DecidableEq α] {l : List α} {v : α} : has l v = true ↔ v ∈ l := by unfold has; simp
theorem has_false {α : Type} [DecidableEq α] {l : List α} {v : α} : has l v = false ↔ v ∉ l := by unfold has; simp
/-- 0 or more: it is there -/
def IxOK (r : Int) (b : Bool) : Prop := (b = true → 0 ≤ r) ∧ (b = false → r < 0)
theorem ints_len (l : List Int) : (ints l).length = l.length := by simp [ints]
theorem ints_get (l : List Int) (i : Nat) (h : i < l.length) : (ints l)[i]? = some (.int .i64 l[i]) := by simp [ints, h]
def shardsC (c : CfgM) : Int := if mayC c = true then (c.cuts.length : Int) + 1 else 0
/-- what a configuration that may be holds -/
theorem may_of {c : CfgM} (h : mayC c = true) : c.cuts.length ≤ 5 ∧ 1 ≤ c.wk ∧ c.wk ≤ 5 ∧ 1 ≤ c.cp ∧ c.cp ≤ 3 ∧ c.cp ≤ c.wk ∧ 1 ≤ c.sl ∧ c.sl ≤ 4 ∧ 1 ≤ c.ca ∧ c.ca ≤ 50 ∧ 0 ≤ c.ji ∧ c.ji ≤ 10 := by
  unfold mayC at h
  simp only [Bool.and_eq_true, decide_eq_true_eq] at h
  obtain ⟨⟨_, h2⟩, ⟨h3, h4⟩, h5⟩ := h
  have hl : c.cuts.length ≤ 5 := by
    unfold goodE at h2
    split at h2
    · omega
    · omega
  unfold nodesC inB at h3
  unfold sizesC inB at h4
  unfold timesC inB at h5
  simp only [Bool.and_eq_true, decide_eq_true_eq] at h3 h4 h5
  omega
theorem shardsC_may {c : CfgM} (h : mayC c = true) : shardsC c = (c.cuts.length : Int) + 1 := by unfold shardsC; rw [if_pos h]
theorem shardsC_no {c : CfgM} (h : mayC c = false) : shardsC c = 0 := by unfold shardsC; rw [if_neg (by simp [h])]
theorem shardsC_bd (c : CfgM) : 0 ≤ shardsC c ∧ shardsC c ≤ 6 := by
  cases h : mayC c
  · rw [shardsC_no h]; omega
  · rw [shardsC_may h]; have := (may_of h).1; omega
set_option maxRecDepth 100000 in
set_option maxHeartbeats 4000000 in
theorem shards_any (c : CfgM) (w : World) (hr : CfgOK w c) :
    Calls Try.prog 32 #[c.val] w fun e w' => e = .returned (.int .i64 (shardsC c)) ∧ Below w.heap.size w w' := by
  have HR := Lib.hid hr
  clear hr
  obtain ⟨m, hm⟩ : ∃ m, mayC c = m := ⟨_, rfl⟩
  obtain ⟨n, hn⟩ : ∃ n, c.cuts.length = n := ⟨_, rfl⟩
  have HN := Lib.hid hn
  have HL := Lib.hid (show c.nc = n from by rw [← hn]; exact HR.out.rk.1.symm)
  clear hn
  have hcl := may_of (c := c)
  rw [hm, HN.out] at hcl
  have HM := Lib.hid hm
  clear hm
  obtain ⟨R, hR⟩ : ∃ R, shardsC c = R := ⟨_, rfl⟩
  rw [hR]
  have HRR := Lib.hid hR
  clear hR
  unfold CfgM.val
  rw [HL.out]
  go_enter Try.func32, Try.ntmps32
  go_wp2_with fail
  have HK := Lib.hid (show Blk (w.alloc (.cells #[.slice c.aw c.nw c.cw, .slice c.ac n c.cc, .int .i64 c.wk, .int .i64 c.cp, .int .i64 c.sl, .int .i64 c.ba, .int .i64 c.le, .int .i64 c.he, .int .i64 c.fi, .int .i64 c.ca, .int .i64 c.ji, .int .i64 c.ne] 56)) w.heap.size 56 [.slice c.aw c.nw c.cw, .slice c.ac n c.cc, .int .i64 c.wk, .int .i64 c.cp, .int .i64 c.sl, .int .i64 c.ba, .int .i64 c.le, .int .i64 c.he, .int .i64 c.fi, .int .i64 c.ca, .int .i64 c.ji, .int .i64 c.ne] from heap_alloc_new w _)
  have HB := Lib.hid ((Below.refl _ w).alloc (Nat.le_refl _) (.cells #[.slice c.aw c.nw c.cw, .slice c.ac n c.cc, .int .i64 c.wk, .int .i64 c.cp, .int .i64 c.sl, .int .i64 c.ba, .int .i64 c.le, .int .i64 c.he, .int .i64 c.fi, .int .i64 c.ca, .int .i64 c.ji, .int .i64 c.ne] 56))
  generalize (w.alloc (.cells #[.slice c.aw c.nw c.cw, .slice c.ac n c.cc, .int .i64 c.wk, .int .i64 c.cp, .int .i64 c.sl, .int .i64 c.ba, .int .i64 c.le, .int .i64 c.he, .int .i64 c.fi, .int .i64 c.ca, .int .i64 c.ji, .int .i64 c.ne] 56)) = W at *
  have c0 : W.cell? ⟨w.heap.size, 0, none⟩ = some (.slice c.aw c.nw c.cw) := HK.out.cell 0
  have c1 : W.cell? ⟨w.heap.size, 1, none⟩ = some (.slice c.ac n c.cc) := HK.out.cell 1
  have c2 : W.cell? ⟨w.heap.size, 2, none⟩ = some (.int .i64 c.wk) := HK.out.cell 2
  have c3 : W.cell? ⟨w.heap.size, 3, none⟩ = some (.int .i64 c.cp) := HK.out.cell 3
  have c4 : W.cell? ⟨w.heap.size, 4, none⟩ = some (.int .i64 c.sl) := HK.out.cell 4
  have c5 : W.cell? ⟨w.heap.size, 5, none⟩ = some (.int .i64 c.ba) := HK.out.cell 5
  have c6 : W.cell? ⟨w.heap.size, 6, none⟩ = some (.int .i64 c.le) := HK.out.cell 6
  have c7 : W.cell? ⟨w.heap.size, 7, none⟩ = some (.int .i64 c.he) := HK.out.cell 7
  have c8 : W.cell? ⟨w.heap.size, 8, none⟩ = some (.int .i64 c.fi) := HK.out.cell 8
  have c9 : W.cell? ⟨w.heap.size, 9, none⟩ = some (.int .i64 c.ca) := HK.out.cell 9
  have c10 : W.cell? ⟨w.heap.size, 10, none⟩ = some (.int .i64 c.ji) := HK.out.cell 10
  have c11 : W.cell? ⟨w.heap.size, 11, none⟩ = some (.int .i64 c.ne) := HK.out.cell 11
  have HMY := Lib.hid (may_any c W (HR.out.below HB.out rfl))
  unfold CfgM.val at HMY
  rw [HL.out] at HMY
  refine HMY.out.mono ?_
  rintro e W1 ⟨rfl, hb⟩
  have HB1 := Lib.hid (HB.out.trans (hb.mono HB.out.size))
  have HK1 := Lib.hid (HK.out.below hb HK.out.lt)
  clear hb HB HK
  have d1 : W1.cell? ⟨w.heap.size, 1, none⟩ = some (.slice c.ac n c.cc) := HK1.out.cell 1
  clear HK1 c0 c1 c2 c3 c4 c5 c6 c7 c8 c9 c10 c11 HMY
  rw [HM.out]
  cases m
  · clear hcl
    obtain rfl : R = 0 := by rw [← HRR.out]; exact shardsC_no HM.out
    go_wp2_with fail
    go_ret
    exact ⟨rfl, HB1.out⟩
  · have hn5 := (hcl rfl).1
    obtain rfl : R = (n : Int) + 1 := by rw [← HRR.out, shardsC_may HM.out, HN.out]
    clear hcl
    go_wp2_with fail
    go_ret
    exact ⟨rfl, HB1.out⟩

set_option maxRecDepth 100000 in
set_option maxHeartbeats 2000000 in
theorem index_int (a : Option Addr) (n cap : Nat) (l : List Int) (v : Int) (w : World) (hr : Rd w a n cap (l.map (.int .i64))) :
    Calls Try.prog 71 #[.slice a n cap, .int .i64 v] w fun e w' => ∃ r : Int, e = .returned (.int .i64 r) ∧ IxOK r (has l v) ∧ w = w' := by
  have hn := hr.1
  rw [List.length_map] at hn
  have hcm := hr.2.2.1
  have hcap := hr.2.1
  unfold maxLen at hcm
  subst hn
  have HR := Lib.hid hr
  clear hr
  go_enter Try.func71, Try.ntmps71
  go_wp2_with fail
  go_loop [8] (fun i => ∃ k : Nat, i = .int .i64 k ∧ k ≤ l.length ∧ RowKit.Hid (has (l.take k) v = false)) (fun i => l.length - (intOf i).toNat)
  case atStart => exact ⟨0, rfl, by omega, by simp [RowKit.Hid, has]⟩
  case round =>
    obtain ⟨k, rfl, hk, HA⟩ := hrel
    by_cases hlt : k < l.length
    · obtain ⟨x, hx⟩ : ∃ x, l[k]? = some x := ⟨l[k], List.getElem?_eq_getElem hlt⟩
      obtain ⟨b, off, rfl, hb, hc⟩ := HR.out.2.2.2.2 k hlt
      rw [List.getElem?_map, hx] at hc
      simp only [Option.map_some] at hc
      have HX := Lib.hid hx
      clear hx
      by_cases he : v = x
      · have hq := Lib.hid (show has l v = true from has_true (by rw [he]; exact List.mem_iff_getElem?.2 ⟨k, HX.out⟩))
        have d1 : (v == x) = true := by simpa using he
        clear he
        go_wp2_with fail
        go_ret
        exact ⟨k, rfl, ⟨fun _ => by omega, fun h => by rw [hq.out] at h; exact absurd h (by decide)⟩, rfl⟩
      · have hq := Lib.hid (show has (l.take (k + 1)) v = false from by
          have := has_false.1 HA.out
          rw [has_false, List.take_add_one, HX.out]
          simp only [Option.toList_some, List.mem_append, List.mem_singleton]
          intro hm
          rcases hm with hm | hm
          · exact this hm
          · exact he hm)
        have d1 : (v == x) = false := by simpa using he
        clear he
        go_wp2_with fail
        go_round
        case rel => exact ⟨k + 1, by go_num, by omega, hq.out⟩
        case measure => simp [intOf]; omega
    · obtain rfl : k = l.length := by omega
      have hq := Lib.hid (show has l v = false from by have := HA.out; rwa [List.take_length] at this)
      go_wp2_with fail
      go_ret
      exact ⟨-1, rfl, ⟨fun h => by rw [hq.out] at h; exact absurd h (by decide), fun _ => by omega⟩, rfl⟩
set_option maxRecDepth 100000 in
theorem contains_int (a : Option Addr) (n cap : Nat) (l : List Int) (v : Int) (w : World) (hr : Rd w a n cap (l.map (.int .i64))) :
    Calls Try.prog 60 #[.slice a n cap, .int .i64 v] w fun e w' => e = .returned (.bool (has l v)) ∧ w = w' := by
  have HC := Lib.hid (index_int a n cap l v w hr)
  clear hr
  obtain ⟨R, hR⟩ : ∃ R, has l v = R := ⟨_, rfl⟩
  rw [hR] at HC ⊢
  clear hR
  go_enter Try.func60, Try.ntmps60
  go_wp2_with fail
  refine HC.out.mono ?_
  rintro e w' ⟨r, rfl, hd, rfl⟩
  cases R
  · have hd' : r < 0 := hd.2 rfl
    have d1 : decide (0 ≤ r) = false := by simpa using hd'
    go_wp2_with fail
    go_ret
    exact ⟨by congr 2, rfl⟩
  · have hd' : 0 ≤ r := hd.1 rfl
    have d1 : decide (0 ≤ r) = true := by simpa using hd'
    go_wp2_with fail
    go_ret
    exact ⟨by congr 2, rfl⟩

set_option maxRecDepth 100000 in
set_option maxHeartbeats 2000000 in
theorem index_bool (a : Option Addr) (n cap : Nat) (l : List Bool) (v : Bool) (w : World) (hr : Rd w a n cap (l.map (.bool))) :
    Calls Try.prog 73 #[.slice a n cap, .bool v] w fun e w' => ∃ r : Int, e = .returned (.int .i64 r) ∧ IxOK r (has l v) ∧ w = w' := by
  have hn := hr.1
  rw [List.length_map] at hn
  have hcm := hr.2.2.1
  have hcap := hr.2.1
  unfold maxLen at hcm
  subst hn
  have HR := Lib.hid hr
  clear hr
  go_enter Try.func73, Try.ntmps73
  go_wp2_with fail
  go_loop [8] (fun i => ∃ k : Nat, i = .int .i64 k ∧ k ≤ l.length ∧ RowKit.Hid (has (l.take k) v = false)) (fun i => l.length - (intOf i).toNat)
  case atStart => exact ⟨0, rfl, by omega, by simp [RowKit.Hid, has]⟩
  case round =>
    obtain ⟨k, rfl, hk, HA⟩ := hrel
    by_cases hlt : k < l.length
    · obtain ⟨x, hx⟩ : ∃ x, l[k]? = some x := ⟨l[k], List.getElem?_eq_getElem hlt⟩
      obtain ⟨b, off, rfl, hb, hc⟩ := HR.out.2.2.2.2 k hlt
      rw [List.getElem?_map, hx] at hc
      simp only [Option.map_some] at hc
      have HX := Lib.hid hx
      clear hx
      by_cases he : v = x
      · have hq := Lib.hid (show has l v = true from has_true (by rw [he]; exact List.mem_iff_getElem?.2 ⟨k, HX.out⟩))
        have d1 : (v == x) = true := by simpa using he
        clear he
        go_wp2_with fail
        go_ret
        exact ⟨k, rfl, ⟨fun _ => by omega, fun h => by rw [hq.out] at h; exact absurd h (by decide)⟩, rfl⟩
      · have hq := Lib.hid (show has (l.take (k + 1)) v = false from by
          have := has_false.1 HA.out
          rw [has_false, List.take_add_one, HX.out]
          simp only [Option.toList_some, List.mem_append, List.mem_singleton]
          intro hm
          rcases hm with hm | hm
          · exact this hm
          · exact he hm)
        have d1 : (v == x) = false := by simpa using he
        clear he
        go_wp2_with fail
        go_round
        case rel => exact ⟨k + 1, by go_num, by omega, hq.out⟩
        case measure => simp [intOf]; omega
    · obtain rfl : k = l.length := by omega
      have hq := Lib.hid (show has l v = false from by have := HA.out; rwa [List.take_length] at this)
      go_wp2_with fail
      go_ret
      exact ⟨-1, rfl, ⟨fun h => by rw [hq.out] at h; exact absurd h (by decide), fun _ => by omega⟩, rfl⟩
set_option maxRecDepth 100000 in
theorem contains_bool (a : Option Addr) (n cap : Nat) (l : List Bool) (v : Bool) (w : World) (hr : Rd w a n cap (l.map (.bool))) :
    Calls Try.prog 64 #[.slice a n cap, .bool v] w fun e w' => e = .returned (.bool (has l v)) ∧ w = w' := by
  have HC := Lib.hid (index_bool a n cap l v w hr)
  clear hr
  obtain ⟨R, hR⟩ : ∃ R, has l v = R := ⟨_, rfl⟩
  rw [hR] at HC ⊢
  clear hR
  go_enter Try.func64, Try.ntmps64
  go_wp2_with fail
  refine HC.out.mono ?_
  rintro e w' ⟨r, rfl, hd, rfl⟩
  cases R
  · have hd' : r < 0 := hd.2 rfl
    have d1 : decide (0 ≤ r) = false := by simpa using hd'
    go_wp2_with fail
    go_ret
    exact ⟨by congr 2, rfl⟩
  · have hd' : 0 ≤ r := hd.1 rfl
    have d1 : decide (0 ≤ r) = true := by simpa using hd'
    go_wp2_with fail
    go_ret
    exact ⟨by congr 2, rfl⟩

theorem info_int : (Try.prog.info? 3).map (fun i => (i.zero, i.size, i.bytes)) = some (some (.int .i64 0), 1, 8) := by kernel_rfl
/-- the workers that keep a shard -/
def copiesC (c : CfgM) (s : Int) : List Int := if inB s 0 (shardsC c - 1) = true then (List.range c.cp.toNat).map (fun j : Nat => 1 + (s + (j : Int)) % c.wk) else []
theorem copiesC_no {c : CfgM} {s : Int} (h : inB s 0 (shardsC c - 1) = false) : copiesC c s = [] := by unfold copiesC; rw [if_neg (by simp [h])]
theorem copiesC_yes {c : CfgM} {s : Int} (h : inB s 0 (shardsC c - 1) = true) : copiesC c s = (List.range c.cp.toNat).map (fun j : Nat => 1 + (s + (j : Int)) % c.wk) := by unfold copiesC; rw [if_pos h]
theorem may_inB {c : CfgM} {s : Int} (h : inB s 0 (shardsC c - 1) = true) : mayC c = true ∧ 0 ≤ s ∧ s ≤ 5 := by
  unfold inB at h
  simp only [Bool.and_eq_true, decide_eq_true_eq] at h
  cases hm : mayC c
  · rw [shardsC_no hm] at h; omega
  · have := (may_of hm).1
    rw [shardsC_may hm] at h
    exact ⟨rfl, by omega, by omega⟩
def CpR (w : World) (c : CfgM) (s : Int) (n : Nat) (v5 v15 : Value) (wr : World) : Prop := ∃ (k : Nat) (ao : Option Addr) (c2 : Nat), k ≤ n ∧ v15 = .int .i64 k ∧ v5 = .slice ao k c2 ∧ RowKit.Hid (wr.ownsRow w.heap.size 3 1 (.slice ao k c2) k (ints ((List.range k).map (fun j : Nat => 1 + (s + (j : Int)) % c.wk)))) ∧ RowKit.Hid (Below w.heap.size w wr)
set_option maxRecDepth 100000 in
set_option maxHeartbeats 4000000 in
theorem copies_any (c : CfgM) (s : Int) (w : World) (hr : CfgOK w c) :
    Calls Try.prog 61 #[c.val, .int .i64 s] w fun e w' => ∃ ao n cap, e = .returned (.slice ao n cap) ∧ Rd w' ao n cap (ints (copiesC c s)) ∧ Below w.heap.size w w' := by
  obtain ⟨i0, hi, hz0, hz1, hz2⟩ := info_parts info_int
  have HI := Lib.hid hi
  have HZ0 := Lib.hid hz0
  have HZ1 := Lib.hid hz1
  have HZ2 := Lib.hid hz2
  clear hi hz0 hz1 hz2
  have HR := Lib.hid hr
  clear hr
  obtain ⟨R, hR⟩ : ∃ R, copiesC c s = R := ⟨_, rfl⟩
  rw [hR]
  have HRR := Lib.hid hR
  clear hR
  unfold CfgM.val
  go_enter Try.func61, Try.ntmps61
  go_wp2_with fail
  have HK := Lib.hid (show Blk (w.alloc (.cells #[.slice c.aw c.nw c.cw, .slice c.ac c.nc c.cc, .int .i64 c.wk, .int .i64 c.cp, .int .i64 c.sl, .int .i64 c.ba, .int .i64 c.le, .int .i64 c.he, .int .i64 c.fi, .int .i64 c.ca, .int .i64 c.ji, .int .i64 c.ne] 56)) w.heap.size 56 [.slice c.aw c.nw c.cw, .slice c.ac c.nc c.cc, .int .i64 c.wk, .int .i64 c.cp, .int .i64 c.sl, .int .i64 c.ba, .int .i64 c.le, .int .i64 c.he, .int .i64 c.fi, .int .i64 c.ca, .int .i64 c.ji, .int .i64 c.ne] from heap_alloc_new w _)
  have HB := Lib.hid ((Below.refl _ w).alloc (Nat.le_refl _) (.cells #[.slice c.aw c.nw c.cw, .slice c.ac c.nc c.cc, .int .i64 c.wk, .int .i64 c.cp, .int .i64 c.sl, .int .i64 c.ba, .int .i64 c.le, .int .i64 c.he, .int .i64 c.fi, .int .i64 c.ca, .int .i64 c.ji, .int .i64 c.ne] 56))
  generalize (w.alloc (.cells #[.slice c.aw c.nw c.cw, .slice c.ac c.nc c.cc, .int .i64 c.wk, .int .i64 c.cp, .int .i64 c.sl, .int .i64 c.ba, .int .i64 c.le, .int .i64 c.he, .int .i64 c.fi, .int .i64 c.ca, .int .i64 c.ji, .int .i64 c.ne] 56)) = W at *
  have c0 : W.cell? ⟨w.heap.size, 0, none⟩ = some (.slice c.aw c.nw c.cw) := HK.out.cell 0
  have c1 : W.cell? ⟨w.heap.size, 1, none⟩ = some (.slice c.ac c.nc c.cc) := HK.out.cell 1
  have c2 : W.cell? ⟨w.heap.size, 2, none⟩ = some (.int .i64 c.wk) := HK.out.cell 2
  have c3 : W.cell? ⟨w.heap.size, 3, none⟩ = some (.int .i64 c.cp) := HK.out.cell 3
  have c4 : W.cell? ⟨w.heap.size, 4, none⟩ = some (.int .i64 c.sl) := HK.out.cell 4
  have c5 : W.cell? ⟨w.heap.size, 5, none⟩ = some (.int .i64 c.ba) := HK.out.cell 5
  have c6 : W.cell? ⟨w.heap.size, 6, none⟩ = some (.int .i64 c.le) := HK.out.cell 6
  have c7 : W.cell? ⟨w.heap.size, 7, none⟩ = some (.int .i64 c.he) := HK.out.cell 7
  have c8 : W.cell? ⟨w.heap.size, 8, none⟩ = some (.int .i64 c.fi) := HK.out.cell 8
  have c9 : W.cell? ⟨w.heap.size, 9, none⟩ = some (.int .i64 c.ca) := HK.out.cell 9
  have c10 : W.cell? ⟨w.heap.size, 10, none⟩ = some (.int .i64 c.ji) := HK.out.cell 10
  have c11 : W.cell? ⟨w.heap.size, 11, none⟩ = some (.int .i64 c.ne) := HK.out.cell 11
  have HS := Lib.hid (shards_any c W (HR.out.below HB.out rfl))
  unfold CfgM.val at HS
  refine HS.out.mono ?_
  rintro e W1 ⟨rfl, hb⟩
  have HB1 := Lib.hid (HB.out.trans (hb.mono HB.out.size))
  have HK1 := Lib.hid (HK.out.below hb HK.out.lt)
  clear hb HB HK
  clear c0 c1 c2 c3 c4 c5 c6 c7 c8 c9 c10 c11 HS
  have hbd := shardsC_bd c
  obtain ⟨sh, hsh⟩ : ∃ sh, shardsC c = sh := ⟨_, rfl⟩
  have HSH := Lib.hid hsh
  rw [hsh] at hbd ⊢
  clear hsh
  obtain ⟨hb1, hb2⟩ := hbd
  go_wp2_with fail
  refine (within_any _ _ _ W1).mono ?_
  rintro e w' ⟨rfl, rfl⟩
  rcases Bool.eq_false_or_eq_true (inB s 0 (sh - 1)) with hin | hin
  rotate_left
  · rw [hin]
    obtain rfl : R = [] := by rw [← HRR.out]; exact copiesC_no (by rw [HSH.out]; exact hin)
    clear hin
    go_wp2_with fail
    go_ret
    exact ⟨none, 0, 0, rfl, ⟨rfl, Nat.le_refl _, by unfold maxLen; omega, fun _ => rfl, fun i hi => by omega⟩, HB1.out⟩
  rw [hin]
  have hin2 : inB s 0 (shardsC c - 1) = true := by rw [HSH.out]; exact hin
  have hR := copiesC_yes hin2
  rw [HRR.out] at hR
  obtain ⟨hmay, hs0, hs5⟩ := may_inB hin2
  obtain ⟨m1, m2, m3, m4, m5, m6, -⟩ := may_of hmay
  obtain ⟨n, hn⟩ := Int.eq_ofNat_of_zero_le (show 0 ≤ c.cp by omega)
  rw [hn] at hR m4 m5 m6
  rw [Int.toNat_natCast] at hR
  obtain ⟨wk, hwk⟩ : ∃ wk, c.wk = wk := ⟨_, rfl⟩
  have c2 : W1.cell? ⟨w.heap.size, 2, none⟩ = some (.int .i64 wk) := by rw [← hwk]; exact HK1.out.cell 2
  have c3 : W1.cell? ⟨w.heap.size, 3, none⟩ = some (.int .i64 n) := by rw [← show c.cp = (n : Int) from hn]; exact HK1.out.cell 3
  have HWK := Lib.hid hwk
  rw [hwk] at m2 m3
  have HRQ := Lib.hid hR
  have HG := Lib.hid HK1.out.lt
  clear hin hin2 hmay hn hwk hR m1 HK1 HRR HSH HR
  go_wp2_with fail
  go_loopw [5, 15] (fun v5 v15 wr => CpR W1 c s n v5 v15 wr) (fun _ v _ => n - (intOf v).toNat)
  case atStart => exact ⟨0, none, 0, Nat.zero_le _, rfl, rfl, World.ownsRow_nil _ _ _ _, Below.refl _ _⟩
  case round =>
    obtain ⟨k, ao, cap, hk, rfl, rfl, HO, HB⟩ := hrel
    by_cases hlt : k < n
    · have d2 := (HB.out.cell (p := ⟨w.heap.size, 2, none⟩) HG.out).trans c2
      obtain ⟨r, hrr⟩ : ∃ r, (s + (k : Int)).tmod wk = r := ⟨_, rfl⟩
      have hre : (s + (k : Int)) % wk = r := by rw [← hrr, Int.tmod_eq_emod_of_nonneg (by omega)]
      have hr0 : 0 ≤ r := by rw [← hre]; exact Int.emod_nonneg _ (by omega)
      have hr5 : r < 5 := by have := Int.emod_lt_of_pos (s + (k : Int)) (show 0 < wk by omega); omega
      have HRE := Lib.hid hre
      have A1 : k + 1 ≤ maxLen := by unfold maxLen; omega
      have A2 : (k + 1) * 8 ≤ 140737488355328 := by omega
      have hz := HB.out.size
      clear hre
      go_wp2_with (at_builtin; refine wpList_app rfl _ _ 22 22 rfl W1.heap.size 3 i0 (.int .i64 0) 1 8 Try.underlying22 HI.out HZ0.out HZ1.out HZ2.out rfl (by decide) ao k cap (ints ((List.range k).map (fun j : Nat => 1 + (s + (j : Int)) % c.wk))) rfl (HO.out.alloc _) _ 1 _ rfl (Src.one' Try.underlying22 wr _ 3 rfl) A1 A2 (by simp; omega) ?_; intro ao3 c3' w5 hown5 hg5; have HO6 := Lib.hid hown5; have HB6 := Lib.hid ((HB.out.alloc hz _).grown hg5 (by simp; omega) (fun b hb => (HO.out.lt b hb).1)); clear hown5 hg5)
      go_roundw
      case rel => exact ⟨k + 1, ao3, c3', by omega, by go_num, rfl, (by unfold RowKit.Hid; rw [List.range_succ, List.map_append, ints_app, List.map_cons, List.map_nil, HWK.out, HRE.out]; rw [HWK.out] at HO6; exact HO6.out), HB6.out⟩
      case measure => simp [intOf]; omega
    · obtain rfl : k = n := by omega
      have hown := ownsRow_rd HO.out
      rw [← HRQ.out] at hown
      have HO2 := Lib.hid hown
      clear hown HO HRQ
      go_wp2_with fail
      go_ret
      exact ⟨ao, k, cap, rfl, HO2.out, HB1.out.trans (HB.out.mono HB1.out.size)⟩
end Go.Proofs.Ytjdanngkmkgidaa
