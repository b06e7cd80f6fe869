/- The program's Timers beside the document's; OverInts. -/
import Derived.Test.YtjdanngkmkgidaaTm23
import Derived.Deep.RegionHeld3
namespace Go.Proofs.Ytjdanngkmkgidaa
open Go.RowKit
set_option linter.unusedVariables false

theorem blk_ne {w : World} {g g' : Nat} {T T' : TypeId} {cs cs' : List Value} (h : Blk w g T cs) (h' : Blk w g' T' cs') (hT : T ≠ T') : g ≠ g' := by
  intro e
  subst e
  unfold Blk at h h'
  rw [h] at h'
  simp at h'
  exact hT h'.2
/-- the program's Timers A and the document's B -/
def Jw (w0 W : World) (p q : Nat) (most : Int) (A B : List One) : Prop := ∃ go, TL W p go most A ∧ RT w0 W q most B ∧ w0.heap.size ≤ p ∧ ∀ g, go = some g → w0.heap.size ≤ g
theorem Jw.below {w0 W W' : World} {p q : Nat} {most : Int} {A B : List One} (h : Jw w0 W p q most A B) (hb : Below W.heap.size W W') : Jw w0 W' p q most A B := by
  obtain ⟨go, h1, h2, h3, h4⟩ := h
  exact ⟨go, h1.below hb, h2.below hb, h3, h4⟩
theorem Jw.own {w0 W : World} {p q : Nat} {most : Int} {A B : List One} (h : Jw w0 W p q most A B) : OwnT w0 W p most A := by
  obtain ⟨go, h1, h2, h3, h4⟩ := h
  obtain ⟨_, _, _, _, _, hb⟩ := h2
  exact ⟨go, h1, hb, h3, h4⟩
theorem Jw.ref {w0 W : World} {p q : Nat} {most : Int} {A B : List One} (h : Jw w0 W p q most A B) : RT w0 W q most B := by
  obtain ⟨go, h1, h2, h3, h4⟩ := h; exact h2
theorem Jw.bel {w0 W : World} {p q : Nat} {most : Int} {A B : List One} (h : Jw w0 W p q most A B) : Below w0.heap.size w0 W := h.own.bel
theorem Jw.len {w0 W : World} {p q : Nat} {most : Int} {A B : List One} (h : Jw w0 W p q most A B) : (A.length : Int) ≤ most ∧ most ≤ 24 := by
  obtain ⟨go, h1, h2, h3, h4⟩ := h; exact h1.len
theorem TL.blocks {w : World} {p : Nat} {go : Option Nat} {most : Int} {L : List One} (h : TL w p go most L) : (∃ cs, Blk w p 78 cs) ∧ ∀ g, go = some g → ∃ n sp f, HB w g n f sp := by
  obtain ⟨ao, n, c, f, h1, h2, h3, h4, h5⟩ := h
  refine ⟨⟨_, h1.blk⟩, fun g hg => ?_⟩
  rcases h1.own.2 with ⟨hv, _⟩ | ⟨g', cap, cur, hv, _, hgg, hnc, _, hs, ht⟩
  · rw [hv] at h4; rw [h4] at hg; simp [Value.ownBlock] at hg
  · rw [hv] at h4
    rw [h4] at hg
    simp only [Value.ownBlock, Option.some.injEq] at hg
    subst hg
    refine ⟨n, cur.toList.drop (n * 2), f, ?_⟩
    unfold HB Blk
    unfold fl at ht
    rw [← ht, List.take_append_drop]
    simpa using hgg
/-- a block of another type stays -/
theorem Jw.apartT {w0 W : World} {p q : Nat} {most : Int} {A B : List One} {go : Option Nat} (h1 : TL W p go most A) (h2 : RT w0 W q most B) : p ≠ q ∧ go ≠ some q ∧ (∀ ao c, W.ownsRow w0.heap.size 90 2 (.slice ao B.length c) B.length (B.flatMap refCells) → ∀ k, (Value.slice ao B.length c).ownBlock = some k → k ≠ p ∧ go ≠ some k) := by
  obtain ⟨⟨cs, hp⟩, hg⟩ := h1.blocks
  obtain ⟨ao, c, k1, k2, k3, k4⟩ := h2
  refine ⟨blk_ne hp k1 (by decide), fun e => ?_, fun ao' c' ho k hk => ⟨ownsRow_ne ho hp (by decide) k hk, fun e => ?_⟩⟩
  · obtain ⟨n, sp, f, hb⟩ := hg q e
    exact blk_ne hb k1 (by decide) rfl
  · obtain ⟨n, sp, f, hb⟩ := hg k e
    exact ownsRow_ne ho hb (by decide) k hk rfl
theorem RT.frm' {S : Nat → Prop} {w0 w w' : World} {q : Nat} {most : Int} {L : List One} (h : RT w0 w q most L) (hf : Frm S w w') (hS : ∀ k, S k → w0.heap.size ≤ k) (hq : ¬ S q) (hr : ∀ ao c, w.ownsRow w0.heap.size 90 2 (.slice ao L.length c) L.length (L.flatMap refCells) → ∀ k, (Value.slice ao L.length c).ownBlock = some k → ¬ S k) : RT w0 w' q most L := by
  obtain ⟨ao, c, h1, h2, h3, h4⟩ := h
  exact ⟨ao, c, h1.frm hf hq, ownsRow_frm h2 hf (hr ao c h2), h3, h4.trans (hf.toBelow h4.size (fun i hi e => by have := hS i e; omega))⟩
/-- ... and an act that lies at xb -/
def Jt (w0 W : World) (p q xb : Nat) (most : Int) (A B : List One) (b : Bool) (id at_ : Int) : Prop := Jw w0 W p q most A B ∧ Blk W xb 46 [.bool b, .int .i64 id, .int .i64 at_]
theorem Jt.cells {w0 W : World} {p q xb : Nat} {most : Int} {A B : List One} {b : Bool} {id at_ : Int} (h : Jt w0 W p q xb most A B b id at_) : W.cell? ⟨xb, 1, none⟩ = some (.int .i64 id) ∧ W.cell? ⟨xb, 2, none⟩ = some (.int .i64 at_) := ⟨by rw [h.2.cell]; rfl, by rw [h.2.cell]; rfl⟩
theorem Jt.below {w0 W W' : World} {p q xb : Nat} {most : Int} {A B : List One} {b : Bool} {id at_ : Int} (h : Jt w0 W p q xb most A B b id at_) (hb : Below W.heap.size W W') : Jt w0 W' p q xb most A B b id at_ := ⟨h.1.below hb, h.2.below hb h.2.lt⟩
theorem jt_t {w0 W W' : World} {p q xb : Nat} {most : Int} {A A' B : List One} {b : Bool} {id at_ : Int} {go go' : Option Nat} (h1 : TL W p go most A) (h2 : RT w0 W q most B) (h3 : w0.heap.size ≤ p) (h4 : ∀ g, go = some g → w0.heap.size ≤ g) (hx : Blk W xb 46 [.bool b, .int .i64 id, .int .i64 at_]) (hT : TL W' p go' most A') (hF : Frm (fun i => i = p ∨ go = some i) W W') (hl : go' = go ∨ ∃ g, go' = some g ∧ W.heap.size ≤ g) : Jt w0 W' p q xb most A' B b id at_ := by
  obtain ⟨hpq, hgq, hr⟩ := Jw.apartT h1 h2
  obtain ⟨⟨cs, hp⟩, hg⟩ := h1.blocks
  have hbl : w0.heap.size ≤ W.heap.size := by obtain ⟨_, _, _, _, _, hb⟩ := h2; exact hb.size
  refine ⟨⟨go', hT, h2.frm' hF (fun k e => e.elim (fun e => e ▸ h3) (h4 k)) (fun e => e.elim (fun e => hpq e.symm) hgq) (fun ao c ho k hk e => e.elim (hr ao c ho k hk).1 (hr ao c ho k hk).2), h3, fun g hgg => ?_⟩, hx.frm hF (fun e => e.elim (fun e => blk_ne hx hp (by decide) e) (fun e => ?_))⟩
  · rcases hl with hl | ⟨g', hl, hle⟩
    · exact h4 g (hl ▸ hgg)
    · rw [hl] at hgg; have := Option.some.inj hgg; omega
  · obtain ⟨n, sp, f, hb⟩ := hg xb e
    exact blk_ne hb hx (by decide) rfl
theorem jt_r {w0 W W' : World} {p q xb : Nat} {most : Int} {A B B' : List One} {b : Bool} {id at_ : Int} (h : Jt w0 W p q xb most A B b id at_) (hR : RT w0 W' q most B') (hF : Frm (fun k => k = q) W W') : Jt w0 W' p q xb most A B' b id at_ := by
  obtain ⟨⟨go, h1, h2, h3, h4⟩, hx⟩ := h
  obtain ⟨hpq, hgq, hr⟩ := Jw.apartT h1 h2
  obtain ⟨ao, c, k1, _⟩ := h2
  exact ⟨⟨go, h1.frm hF hpq (fun k hk e => hgq (e ▸ hk)), hR, h3, h4⟩, hx.frm hF (blk_ne hx k1 (by decide))⟩
theorem jt_cancel {w0 W : World} {p q xb : Nat} {most : Int} {A B : List One} {b : Bool} {id at_ : Int} {r : Bool} (h : Jt w0 W p q xb most A B b id at_) (he : hasL id A = r) :
   Calls Try.prog 19 #[.pointer (some ⟨p, 0, none⟩), .int .i64 id] W fun e w' => e = .returned (.bool r) ∧ Jt w0 w' p q xb most (cancelL id A) B b id at_ := by
  obtain ⟨⟨go, h1, h2, h3, h4⟩, hx⟩ := h
  refine (t_cancel p id W go most A h1).mono ?_
  rintro e w' ⟨rfl, hT, hF⟩
  exact ⟨by rw [he], jt_t h1 h2 h3 h4 hx hT hF (.inl rfl)⟩
theorem jr_cancel {w0 W : World} {p q xb : Nat} {most : Int} {A B : List One} {b : Bool} {id at_ : Int} {r : Bool} (h : Jt w0 W p q xb most A B b id at_) (hl : B.length ≤ 24) (he : hasL id B = r) :
   Calls Try.prog 22 #[.pointer (some ⟨q, 0, none⟩), .int .i64 id] W fun e w' => e = .returned (.bool r) ∧ Jt w0 w' p q xb most A (cancelL id B) b id at_ := by
  refine (r_cancel w0 q id W most B h.1.ref hl).mono ?_
  rintro e w' ⟨rfl, hT, hF⟩
  exact ⟨by rw [he], jt_r h hT hF⟩
theorem jt_set {w0 W : World} {p q xb : Nat} {most : Int} {A A' B : List One} {b : Bool} {id at_ r : Int} (h : Jt w0 W p q xb most A B b id at_) (he : setL most A id at_ = (r, A')) :
   Calls Try.prog 13 #[.pointer (some ⟨p, 0, none⟩), .int .i64 id, .int .i64 at_] W fun e w' => e = .returned (.int .i64 r) ∧ Jt w0 w' p q xb most A' B b id at_ := by
  obtain ⟨⟨go, h1, h2, h3, h4⟩, hx⟩ := h
  refine (t_set p id at_ W go most A h1).mono ?_
  rintro e w' ⟨go', rfl, hT, hF, hl⟩
  rw [he] at hT
  exact ⟨by rw [he], jt_t h1 h2 h3 h4 hx hT hF hl⟩
theorem jr_set {w0 W : World} {p q xb : Nat} {most : Int} {A B B' : List One} {b : Bool} {id at_ r : Int} (h : Jt w0 W p q xb most A B b id at_) (hl : B.length ≤ 24) (hm : (B.length : Int) ≤ most) (he : setL most B id at_ = (r, B')) :
   Calls Try.prog 23 #[.pointer (some ⟨q, 0, none⟩), .int .i64 id, .int .i64 at_] W fun e w' => e = .returned (.int .i64 r) ∧ Jt w0 w' p q xb most A B' b id at_ := by
  refine (r_set w0 q id at_ W most B h.1.ref hl hm).mono ?_
  rintro e w' ⟨rfl, hT, hF⟩
  rw [he] at hT
  exact ⟨by rw [he], jt_r h hT hF⟩
theorem Jw.own_int {w0 W W' : World} {p q : Nat} {most : Int} {A B : List One} {base n : Nat} {v : Value} {xs : List Value} (h : Jw w0 W p q most A B) (ho : W.ownsRow base 3 1 v n xs) (hF : Frm (fun i => v.ownBlock = some i) W W') (hb : w0.heap.size ≤ base) : Jw w0 W' p q most A B := by
  obtain ⟨go, h1, h2, h3, h4⟩ := h
  obtain ⟨⟨cs, hp⟩, hg⟩ := h1.blocks
  refine ⟨go, h1.frm hF (fun e => ownsRow_ne ho hp (by decide) p e rfl) (fun k hk e => ?_), h2.frm' hF (fun k e => Nat.le_trans hb (ho.lt k e).1) (fun e => ?_) (fun ao c h' k hk e => ownsRow_ne2 h' ho (by decide) k hk e), h3, h4⟩
  · obtain ⟨n, sp, f, hb⟩ := hg k hk
    exact ownsRow_ne ho hb (by decide) k e rfl
  · obtain ⟨ao, c, k1, _⟩ := h2
    exact ownsRow_ne ho k1 (by decide) q e rfl
set_option maxRecDepth 100000 in
set_option maxHeartbeats 1000000 in
theorem over_any (base n c : Nat) (ao : Option Addr) (xs : List Value) (w : World) (h : w.ownsRow base 3 1 (.slice ao n c) n xs) (hn : n ≤ 1000) :
   Calls Try.prog 26 #[.slice ao n c] w fun e w' => e = .returned (.tuple #[]) ∧ Frm (fun i => (Value.slice ao n c).ownBlock = some i) w w' := by
  obtain ⟨i0, hi, hz0, hz1, hz2⟩ := info_parts info_int
  have HI := Lib.hid hi
  have HZ0 := Lib.hid hz0
  have HZ1 := Lib.hid hz1
  have HZ2 := Lib.hid hz2
  clear hi hz0 hz1 hz2
  have HO := Lib.hid h
  clear h
  go_enter Try.func26, Try.ntmps26
  go_wp2_with fail
  go_loopw [2] (fun v wr => ∃ (i : Nat) (ys : List Value), i ≤ n ∧ v = .int .i64 i ∧ RowKit.Hid (wr.ownsRow base 3 1 (.slice ao n c) n ys) ∧ RowKit.Hid (Frm (fun i => (Value.slice ao n c).ownBlock = some i) w wr)) (fun v _ => n - (intOf v).toNat)
  case atStart => exact ⟨0, xs, Nat.zero_le _, rfl, HO.out, Frm.refl _ _⟩
  case round =>
    clear HO
    obtain ⟨i, ys, hi, rfl, HO, HF⟩ := hrel
    by_cases hlt : i < n
    · obtain ⟨g, cap, hv, _, _⟩ := HO.out.form (by omega)
      simp only [Value.slice.injEq, true_and] at hv
      obtain ⟨rfl, rfl⟩ := hv
      obtain ⟨sp, hsp, hb⟩ := ownsRow_blk HO.out
      have hylen : ys.length = n := by have := HO.out.1; simpa using this
      obtain ⟨yv, hci⟩ : ∃ yv, wr.cell? ⟨g, i, none⟩ = some yv := ⟨ys[i]'(by omega), by rw [hb.cell, List.getElem?_append_left (by omega)]; exact List.getElem?_eq_getElem _⟩
      have fz := fz_of (o := i) hb
      have hnc : n ≤ c := by
        rcases HO.out.2 with ⟨h', _⟩ | ⟨g', cap', cur, h', _, _, hnc, _⟩
        · simp at h'
        · simp only [Value.slice.injEq] at h'; omega
      have hcm : c ≤ maxLen := by
        rcases HO.out.2 with ⟨h', _⟩ | ⟨g', cap', cur, h', _, _, _, hnc, _⟩
        · simp at h'
        · simp only [Value.slice.injEq] at h'; obtain ⟨_, _, rfl⟩ := h'; exact hnc
      have hO2 : (wr.setCell ⟨g, i, none⟩ (.int .i64 (-999))).ownsRow base 3 1 (.slice (some ⟨g, 0, none⟩) n c) n (ys.set i (.int .i64 (-999))) := by
        have hb2 := hb.set i (.int .i64 (-999))
        rw [List.set_append_left _ _ (by omega)] at hb2
        refine ⟨by simp [hylen], .inr ⟨g, c, ((ys.set i (.int .i64 (-999))) ++ sp).toArray, rfl, (HO.out.lt g rfl).1, hb2, hnc, hcm, ?_, ?_⟩⟩
        · simp; omega
        · simp [hylen]
      have HO2 := Lib.hid hO2
      have HF2 := Lib.hid (HF.out.setCell ⟨g, i, none⟩ (.int .i64 (-999)) (.inl rfl))
      clear hb hO2 hsp hnc hcm hylen HF HO
      have k1 : (0 : Int) ≤ (i : Int) := by omega
      have k2 : (i : Int) < (n : Int) := by omega
      go_wp2_with fail
      go_roundw
      case rel => exact ⟨i + 1, _, by omega, by go_num, HO2.out, HF2.out⟩
      case measure => simp [intOf]; omega
    · have hin : i = n := by omega
      subst hin
      clear hlt
      have A1 : i + 1 ≤ maxLen := by unfold maxLen; omega
      have A2 : (i + 1) * 8 ≤ 140737488355328 := by omega
      have hbs : base ≤ (wr.alloc (.cells #[.int .i64 (-999)] 3)).heap.size ∨ base > (wr.alloc (.cells #[.int .i64 (-999)] 3)).heap.size := by omega
      have HO0 := Lib.hid (own0 HO.out (Nat.zero_le base))
      clear hbs
      go_wp2_with (at_builtin; refine wpList_app rfl _ _ 22 22 rfl 0 3 i0 (.int .i64 0) 1 8 Try.underlying22 HI.out HZ0.out HZ1.out HZ2.out rfl (by decide) ao i c ys rfl (HO0.out.alloc _) _ 1 _ rfl (Src.one' Try.underlying22 wr _ 3 rfl) A1 A2 (Nat.zero_le _) ?_; intro ao3 c3 w5 hown5 hg5; have HG5 := Lib.hid hg5; clear hown5 hg5)
      go_end0
      exact ⟨rfl, (HF.out.alloc _).trans (Frm.grown (S := fun j => (Value.slice ao i c).ownBlock = some j) HG5.out (fun g h => h)) (fun i h _ => h)⟩
end Go.Proofs.Ytjdanngkmkgidaa
