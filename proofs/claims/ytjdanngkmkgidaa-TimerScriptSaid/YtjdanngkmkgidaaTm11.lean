/- The walks of At, Cancel, Set. -/
import Derived.Test.YtjdanngkmkgidaaTm10
namespace Go.Proofs.Ytjdanngkmkgidaa
open Go.RowKit
set_option linter.unusedVariables false

theorem VO.frm {S : Nat → Prop} {w w' : World} {p o : Nat} {T : TypeId} {cs : List Value} {ao : Option Addr} {n c : Nat} {f : Nat → One} (h : VO w p o T cs ao n c f) (hf : Frm S w w') (hp : ¬ S p) (hg : ∀ k, (Value.slice ao n c).ownBlock = some k → ¬ S k) : VO w' p o T cs ao n c f :=
  ⟨h.blk.frm hf hp, h.var, ownsRow_frm h.own hf hg, h.ty⟩
theorem VO.below {w w' : World} {p o : Nat} {T : TypeId} {cs : List Value} {ao : Option Addr} {n c : Nat} {f : Nat → One} (h : VO w p o T cs ao n c f) (hf : Below w.heap.size w w') : VO w' p o T cs ao n c f :=
  h.frm (Frm.below (S := fun _ => False) hf) id (fun _ _ => id)
def atV (f : Nat → One) (n : Nat) (id : Int) : Int × Bool := if fndI f n id < 0 then (0, false) else ((f (fndI f n id).toNat).1, true)
theorem atV_no {f : Nat → One} {n : Nat} {id : Int} (h : fndI f n id = -1) : atV f n id = (0, false) := by unfold atV; rw [h]; rfl
theorem atV_yes {f : Nat → One} {n k : Nat} {id : Int} (h : fndI f n id = (k : Nat)) : atV f n id = ((f k).1, true) := by unfold atV; rw [h, if_neg (by omega)]; simp
/-- a Timers at p -/
abbrev TM (w : World) (p : Nat) (most : Int) (ao : Option Addr) (n c : Nat) (f : Nat → One) : Prop := VO w p 1 78 [.int .i64 most, .slice ao n c] ao n c f
set_option maxRecDepth 100000 in
theorem at_any (p : Nat) (id : Int) (w : World) (most : Int) (ao : Option Addr) (n c : Nat) (f : Nat → One) (h : TM w p most ao n c f) (hn : n ≤ 1000) :
   Calls Try.prog 18 #[.pointer (some ⟨p, 0, none⟩), .int .i64 id] w fun e w' => e = .returned (.tuple #[.int .i64 (atV f n id).1, .bool (atV f n id).2]) ∧ Below w.heap.size w w' := by
  have HV := Lib.hid h
  clear h
  rcases fndI_cases f n id with ⟨hx, _⟩ | ⟨k, hx, hk, hid⟩
  · rw [atV_no hx]
    have HX := Lib.hid hx
    clear hx
    go_enter Try.func18, Try.ntmps18
    go_wp2_with fail
    refine (find_any p id _ most ao n c f HV.out hn).mono ?_
    rintro e w1 ⟨rfl, hb⟩
    rw [HX.out]
    have HB := Lib.hid hb
    clear hb
    go_wp2_with fail
    go_ret2
    exact ⟨rfl, HB.out⟩
  · rw [atV_yes hx]
    have HX := Lib.hid hx
    clear hx hid
    go_enter Try.func18, Try.ntmps18
    go_wp2_with fail
    refine (find_any p id _ most ao n c f HV.out hn).mono ?_
    rintro e w1 ⟨rfl, hb⟩
    rw [HX.out]
    have hV1 := HV.out.below hb
    have c1 := hV1.cell
    obtain ⟨g, rfl, hg, h0, h1⟩ := hV1.prs k hk
    have HB := Lib.hid hb
    clear hb hV1 h1
    have k1 : (0 : Int) ≤ (k : Int) := by omega
    have k2 : (k : Int) < (n : Int) := by omega
    go_wp2_with fail
    go_ret2
    exact ⟨rfl, HB.out⟩
theorem at_nil (id : Int) (w : World) : Calls Try.prog 18 #[.pointer none, .int .i64 id] w fun e w' => e = .returned (.tuple #[.int .i64 0, .bool false]) ∧ Below w.heap.size w w' := by
  go_enter Try.func18, Try.ntmps18
  go_wp2_with fail
  refine (find_nil id _).mono ?_
  rintro e w1 ⟨rfl, hb⟩
  have HB := Lib.hid hb
  clear hb
  go_wp2_with fail
  go_ret2
  exact ⟨rfl, HB.out⟩
theorem cancel_nil (id : Int) (w : World) : Calls Try.prog 19 #[.pointer none, .int .i64 id] w fun e w' => e = .returned (.bool false) ∧ Below w.heap.size w w' := by
  go_enter Try.func19, Try.ntmps19
  go_wp2_with fail
  refine (find_nil id _).mono ?_
  rintro e w1 ⟨rfl, hb⟩
  have HB := Lib.hid hb
  clear hb
  go_wp2_with fail
  go_ret
  exact ⟨rfl, HB.out⟩
set_option maxRecDepth 100000 in
theorem cancel_no (p : Nat) (id : Int) (w : World) (most : Int) (ao : Option Addr) (n c : Nat) (f : Nat → One) (h : TM w p most ao n c f) (hn : n ≤ 1000) (hx : fndI f n id = -1) :
   Calls Try.prog 19 #[.pointer (some ⟨p, 0, none⟩), .int .i64 id] w fun e w' => e = .returned (.bool false) ∧ Below w.heap.size w w' := by
  have HV := Lib.hid h
  have HX := Lib.hid hx
  clear h hx
  go_enter Try.func19, Try.ntmps19
  go_wp2_with fail
  refine (find_any p id _ most ao n c f HV.out hn).mono ?_
  rintro e w1 ⟨rfl, hb⟩
  rw [HX.out]
  have HB := Lib.hid hb
  clear hb
  go_wp2_with fail
  go_ret
  exact ⟨rfl, HB.out⟩
set_option maxRecDepth 100000 in
set_option maxHeartbeats 1000000 in
theorem cancel_yes (p : Nat) (id : Int) (w : World) (most : Int) (ao : Option Addr) (n c k : Nat) (f : Nat → One) (h : TM w p most ao (n + 1) c f) (hn : n ≤ 999) (hx : fndI f (n + 1) id = (k : Nat)) (hk : k ≤ n) :
   Calls Try.prog 19 #[.pointer (some ⟨p, 0, none⟩), .int .i64 id] w fun e w' => e = .returned (.bool true) ∧ TM w' p most ao n c (remF f k n) ∧ Frm (fun i => i = p ∨ (Value.slice ao (n + 1 : Nat) c).ownBlock = some i) w w' := by
  obtain ⟨g, sp, rfl, _⟩ := h.open_ (Nat.succ_pos n)
  have HV := Lib.hid h
  have HX := Lib.hid hx
  clear h hx
  go_enter Try.func19, Try.ntmps19
  go_wp2_with fail
  refine (find_any p id _ most _ (n + 1) c f HV.out (by omega)).mono ?_
  rintro e w1 ⟨rfl, hb⟩
  rw [HX.out]
  have HB := Lib.hid hb
  have HV1 := Lib.hid (HV.out.below hb)
  clear hb
  have k1 : (0 : Int) ≤ (k : Int) := by omega
  go_wp2_with fail
  refine (hrem_any p 1 g n c k 78 _ f _ HV1.out hk hn).mono ?_
  rintro e w2 ⟨rfl, hV2, hF2⟩
  have HV2 := Lib.hid hV2
  have HF2 := Lib.hid hF2
  clear hV2 hF2
  go_wp2_with fail
  go_ret
  exact ⟨rfl, HV2.out, ((Frm.below (S := fun i => i = p ∨ i = g) HB.out).trans HF2.out (fun i h _ => h)).mono (fun i h _ => h.imp (fun h => h) (fun e => by rw [e]; rfl))⟩
theorem set_nil (id at_ : Int) (w : World) : Calls Try.prog 13 #[.pointer none, .int .i64 id, .int .i64 at_] w fun e w' => e = .returned (.int .i64 1) ∧ Below w.heap.size w w' := by
  go_enter Try.func13, Try.ntmps13
  go_wp2_with fail
  refine (find_nil id _).mono ?_
  rintro e w1 ⟨rfl, hb⟩
  have HB := Lib.hid hb
  clear hb
  go_wp2_with fail
  go_ret
  exact ⟨rfl, HB.out⟩
set_option maxRecDepth 100000 in
set_option maxHeartbeats 1000000 in
theorem set_arg (p : Nat) (id at_ : Int) (w : World) (most : Int) (ao : Option Addr) (n c : Nat) (f : Nat → One) (h : TM w p most ao n c f) (hn : n ≤ 1000) (hx : id < 0 ∨ at_ < 0 ∨ 1099511627776 < at_) :
   Calls Try.prog 13 #[.pointer (some ⟨p, 0, none⟩), .int .i64 id, .int .i64 at_] w fun e w' => e = .returned (.int .i64 2) ∧ Below w.heap.size w w' := by
  have HV := Lib.hid h
  clear h
  generalize hI : fndI f n id = I
  have HI := Lib.hid hI
  clear hI
  by_cases h1 : id < 0
  · clear hx
    go_enter Try.func13, Try.ntmps13
    go_wp2_with fail
    refine (find_any p id _ most ao n c f HV.out hn).mono ?_
    rintro e w1 ⟨rfl, hb⟩
    rw [HI.out]
    have HB := Lib.hid hb
    clear hb
    go_wp2_with fail
    go_ret
    exact ⟨rfl, HB.out⟩
  · have h1' : 0 ≤ id := by omega
    by_cases h2 : at_ < 0
    · clear hx
      go_enter Try.func13, Try.ntmps13
      go_wp2_with fail
      refine (find_any p id _ most ao n c f HV.out hn).mono ?_
      rintro e w1 ⟨rfl, hb⟩
      rw [HI.out]
      have HB := Lib.hid hb
      clear hb
      go_wp2_with fail
      go_ret
      exact ⟨rfl, HB.out⟩
    · have h3 : 1099511627776 < at_ := by omega
      have h2' : 0 ≤ at_ := by omega
      clear hx
      go_enter Try.func13, Try.ntmps13
      go_wp2_with fail
      refine (find_any p id _ most ao n c f HV.out hn).mono ?_
      rintro e w1 ⟨rfl, hb⟩
      rw [HI.out]
      have HB := Lib.hid hb
      clear hb
      go_wp2_with fail
      go_ret
      exact ⟨rfl, HB.out⟩
theorem fl_set (n k : Nat) (f : Nat → One) (a : Int) (hk : k < n) : (fl n f).set (k * 2) (.int .i64 a) = fl n (putF f k (a, (f k).2)) := by
  apply List.ext_getElem?
  intro q
  rw [List.getElem?_set]
  by_cases hq : q < n * 2
  · have hr : q % 2 < 2 := Nat.mod_lt _ (by omega)
    have hkk : q / 2 < n := by omega
    have hget : ∀ h : Nat → One, (fl n h)[q]? = (oneCells (h (q / 2)))[q % 2]? := by
      intro h
      have := flatMap_get (fun k => oneCells (h k)) 2 (fun _ => rfl) (List.range n) (q / 2) (q % 2) hr
      rw [show q / 2 * 2 + q % 2 = q from by omega, List.getElem?_range hkk] at this
      exact this
    rw [hget, hget]
    by_cases e : k * 2 = q
    · rw [if_pos e, if_pos (by rw [fl_len]; omega), show q / 2 = k from by omega, show q % 2 = 0 from by omega, putF_eq]; rfl
    · rw [if_neg e]
      by_cases e2 : q / 2 = k
      · rw [e2, show q % 2 = 1 from by omega, putF_eq]; rfl
      · rw [putF_ne _ _ _ _ e2]
  · rw [if_neg (by omega), List.getElem?_eq_none (by rw [fl_len]; omega), List.getElem?_eq_none (by rw [fl_len]; omega)]
set_option maxRecDepth 100000 in
set_option maxHeartbeats 1000000 in
theorem set_old (p : Nat) (id at_ : Int) (w : World) (most : Int) (ao : Option Addr) (n c k : Nat) (f : Nat → One) (h : TM w p most ao n c f) (hn : n ≤ 1000) (h1 : 0 ≤ id) (h2 : 0 ≤ at_) (h3 : at_ ≤ 1099511627776) (hx : fndI f n id = (k : Nat)) (hk : k < n) :
   Calls Try.prog 13 #[.pointer (some ⟨p, 0, none⟩), .int .i64 id, .int .i64 at_] w fun e w' => e = .returned (.int .i64 0) ∧ TM w' p most ao n c (fixF (putF f k (at_, (f k).2)) k n) ∧ Frm (fun i => i = p ∨ (Value.slice ao n c).ownBlock = some i) w w' := by
  obtain ⟨g, sp, rfl, _, _⟩ := h.open_ (by omega)
  have HV := Lib.hid h
  have HX := Lib.hid hx
  clear h hx
  go_enter Try.func13, Try.ntmps13
  go_wp2_with fail
  refine (find_any p id _ most _ n c f HV.out (by omega)).mono ?_
  rintro e w1 ⟨rfl, hb⟩
  rw [HX.out]
  have HB := Lib.hid hb
  have hV1 := HV.out.below hb
  have c1 := hV1.cell
  obtain ⟨g', sp, hg', hb1, hsp, hnc, hcm, hpg⟩ := hV1.open_ (by omega)
  simp only [Option.some.injEq, Addr.mk.injEq, and_true] at hg'
  subst hg'
  have c2 := hb1.c0 hk
  have fz := fz_of (o := k * 2) hb1
  have HV1 := Lib.hid hV1
  have HH : RowKit.Hid (Go.Proofs.Ytjdanngkmkgidaa.HB (w1.setCell ⟨g, k * 2, none⟩ (.int .i64 at_)) g n (putF f k (at_, (f k).2)) sp) := by
    have := Blk.set hb1 (k * 2) (.int .i64 at_)
    unfold RowKit.Hid Go.Proofs.Ytjdanngkmkgidaa.HB
    rw [List.set_append_left _ _ (by have := fl_len n f; unfold fl at this; rw [this]; omega)] at this
    have e := fl_set n k f at_ hk
    unfold fl at e
    rw [e] at this
    exact this
  have HC2 : RowKit.Hid ((w1.setCell ⟨g, k * 2, none⟩ (.int .i64 at_)).cell? ⟨p, 1, none⟩ = some (.slice (some ⟨g, 0, none⟩) n c)) := (World.cell?_setCell_other _ _ _ _ (fun e => by injection e with e; exact hpg e.symm)).trans c1
  clear hb hV1 hb1
  have HSP := Lib.hid hsp
  have HCM := Lib.hid hcm
  clear hsp hcm
  have k1 : (0 : Int) ≤ (k : Int) := by omega
  have k2 : (k : Int) < (n : Int) := by omega
  go_wp2_with fail
  have hset : w1.grownBy (w1.setCell ⟨g, k * 2, none⟩ (.int .i64 at_)) (some g) := grown_set w1 g (k * 2) (.int .i64 at_)
  have hV2 := HV1.out.frmBack hpg HH.out HSP.out hnc HCM.out hset
  refine (hfix_any p 1 g n c k 78 _ _ _ hV2 hk hn).mono ?_
  rintro e w2 ⟨rfl, hV3, hF3⟩
  have HV3 := Lib.hid hV3
  have HF3 := Lib.hid hF3
  have HS := Lib.hid hset
  clear hV2 hV3 hF3 hset
  go_wp2_with fail
  go_ret
  have f1 : Frm (fun i => i = p ∨ (Value.slice (some ⟨g, 0, none⟩) n c).ownBlock = some i) w w1 := Frm.below HB.out
  have f2 : Frm (fun i => i = g) w1 _ := Frm.grown HS.out (fun g h => (Option.some.inj h).symm)
  exact ⟨rfl, HV3.out, (f1.trans f2 (fun i h _ => .inr (by rw [h]; rfl))).trans HF3.out (fun i h _ => .inr (by rw [h]; rfl))⟩
set_option maxRecDepth 100000 in
set_option maxHeartbeats 1000000 in
theorem set_full (p : Nat) (id at_ : Int) (w : World) (most : Int) (ao : Option Addr) (n c : Nat) (f : Nat → One) (h : TM w p most ao n c f) (hn : n ≤ 1000) (h1 : 0 ≤ id) (h2 : 0 ≤ at_) (h3 : at_ ≤ 1099511627776) (hx : fndI f n id = -1) (hm : (n : Int) = most) :
   Calls Try.prog 13 #[.pointer (some ⟨p, 0, none⟩), .int .i64 id, .int .i64 at_] w fun e w' => e = .returned (.int .i64 3) ∧ Below w.heap.size w w' := by
  subst hm
  have HV := Lib.hid h
  have HX := Lib.hid hx
  clear h hx
  go_enter Try.func13, Try.ntmps13
  go_wp2_with fail
  refine (find_any p id _ n _ n c f HV.out (by omega)).mono ?_
  rintro e w1 ⟨rfl, hb⟩
  rw [HX.out]
  have HB := Lib.hid hb
  have hV1 := HV.out.below hb
  have c1 := hV1.cell
  have c0 : w1.cell? ⟨p, 0, none⟩ = some (.int .i64 n) := by rw [hV1.blk.cell]; rfl
  clear hb hV1
  go_wp2_with fail
  go_quiet (fail)
  go_wp2_with fail
  go_ret
  exact ⟨rfl, below_drewN HB.out _⟩
set_option maxRecDepth 100000 in
set_option maxHeartbeats 1000000 in
theorem set_new (p : Nat) (id at_ : Int) (w : World) (most : Int) (ao : Option Addr) (n c : Nat) (f : Nat → One) (h : TM w p most ao n c f) (hn : n ≤ 999) (h1 : 0 ≤ id) (h2 : 0 ≤ at_) (h3 : at_ ≤ 1099511627776) (hx : fndI f n id = -1) (hm : (n : Int) ≠ most) :
   Calls Try.prog 13 #[.pointer (some ⟨p, 0, none⟩), .int .i64 id, .int .i64 at_] w fun e w' => ∃ g' c', e = .returned (.int .i64 0) ∧ TM w' p most (some ⟨g', 0, none⟩) (n + 1) c' (upF n (putF f n (at_, id)) n) ∧ Frm (fun i => i = p ∨ (Value.slice ao n c).ownBlock = some i) w w' ∧ ((Value.slice ao n c).ownBlock = some g' ∨ w.heap.size ≤ g') := by
  have HV := Lib.hid h
  have HX := Lib.hid hx
  clear h hx
  have d1 : ((n : Int) == most) = false := by rw [beq_eq_false_iff_ne]; exact hm
  clear hm
  go_enter Try.func13, Try.ntmps13
  go_wp2_with fail
  refine (find_any p id _ most _ n c f HV.out (by omega)).mono ?_
  rintro e w1 ⟨rfl, hb⟩
  rw [HX.out]
  have HB := Lib.hid hb
  have hV1 := HV.out.below hb
  have c1 := hV1.cell
  have c0 : w1.cell? ⟨p, 0, none⟩ = some (.int .i64 most) := by rw [hV1.blk.cell]; rfl
  have HV1 := Lib.hid hV1
  clear hb hV1
  go_wp2_with fail
  go_quiet (fail)
  go_wp2_with fail
  have hV2 : TM (w1.drewN nq) p most ao n c f := HV1.out.below (below_drewN (Below.refl _ _) _)
  refine (hpush_any p 1 n c 78 _ ao f (at_, id) _ hV2 hn).mono ?_
  rintro e w2 ⟨g', c', rfl, hV3, hF3, hl3⟩
  have HV3 := Lib.hid hV3
  have HF3 := Lib.hid hF3
  have HL3 := Lib.hid hl3
  clear hV2 hV3 hF3 hl3
  go_wp2_with fail
  go_ret
  have f1 : Frm (fun i => i = p ∨ (Value.slice ao n c).ownBlock = some i) w (w1.drewN nq) := Frm.below (below_drewN HB.out _)
  exact ⟨g', c', rfl, HV3.out, f1.trans HF3.out (fun i h _ => h), HL3.out.imp (fun h => h) (fun h => by have := HB.out.size; have : w1.heap.size ≤ g' := h; omega)⟩
end Go.Proofs.Ytjdanngkmkgidaa
