/- RankOrder. -/
import Derived.Test.YtiohngcmojkheaaRk2
import Derived.Deep.DeepCutAuto
namespace Go.Proofs.Ytiohngcmojkheaa
open Go.RowKit
set_option linter.unusedVariables false

/-- three items in boxes -/
def Box3 (W : World) (p : Nat) (a b c : KeyL) : Prop := (W.cell? ⟨p, 0, none⟩ = some (.int .i64 a.1) ∧ W.cell? ⟨p, 1, none⟩ = some (.string a.2)) ∧ (W.cell? ⟨p + 1, 0, none⟩ = some (.int .i64 b.1) ∧ W.cell? ⟨p + 1, 1, none⟩ = some (.string b.2)) ∧ (W.cell? ⟨p + 1 + 1, 0, none⟩ = some (.int .i64 c.1) ∧ W.cell? ⟨p + 1 + 1, 1, none⟩ = some (.string c.2))
theorem Box3.make (w : World) (a b c : KeyL) : Box3 (((w.alloc (.cells #[.int .i64 a.1, .string a.2] 39)).alloc (.cells #[.int .i64 b.1, .string b.2] 39)).alloc (.cells #[.int .i64 c.1, .string c.2] 39)) w.heap.size a b c := by
  have h1 : Blk (w.alloc (.cells #[.int .i64 a.1, .string a.2] 39)) w.heap.size 39 [.int .i64 a.1, .string a.2] := heap_alloc_new w _
  have h2 : Blk ((w.alloc (.cells #[.int .i64 a.1, .string a.2] 39)).alloc (.cells #[.int .i64 b.1, .string b.2] 39)) (w.heap.size + 1) 39 [.int .i64 b.1, .string b.2] := by
    have h := heap_alloc_new (w.alloc (.cells #[.int .i64 a.1, .string a.2] 39)) (.cells #[.int .i64 b.1, .string b.2] 39)
    unfold Blk; simpa using h
  have h3 : Blk (((w.alloc (.cells #[.int .i64 a.1, .string a.2] 39)).alloc (.cells #[.int .i64 b.1, .string b.2] 39)).alloc (.cells #[.int .i64 c.1, .string c.2] 39)) (w.heap.size + 1 + 1) 39 [.int .i64 c.1, .string c.2] := by
    have h := heap_alloc_new ((w.alloc (.cells #[.int .i64 a.1, .string a.2] 39)).alloc (.cells #[.int .i64 b.1, .string b.2] 39)) (.cells #[.int .i64 c.1, .string c.2] 39)
    unfold Blk; simpa using h
  have g1 := (h1.alloc (.cells #[.int .i64 b.1, .string b.2] 39)).alloc (.cells #[.int .i64 c.1, .string c.2] 39)
  have g2 := h2.alloc (.cells #[.int .i64 c.1, .string c.2] 39)
  exact ⟨⟨g1.cell 0, g1.cell 1⟩, ⟨g2.cell 0, g2.cell 1⟩, h3.cell 0, h3.cell 1⟩
theorem Box3.below {w w' : World} {p : Nat} {a b c : KeyL} (h : Box3 w p a b c) (hb : Below w.heap.size w w') : Box3 w' p a b c :=
  ⟨⟨(hb.cell (cell?_lt h.1.1)).trans h.1.1, (hb.cell (cell?_lt h.1.2)).trans h.1.2⟩, ⟨(hb.cell (cell?_lt h.2.1.1)).trans h.2.1.1, (hb.cell (cell?_lt h.2.1.2)).trans h.2.1.2⟩, (hb.cell (cell?_lt h.2.2.1)).trans h.2.2.1, (hb.cell (cell?_lt h.2.2.2)).trans h.2.2.2⟩
theorem iless_any (x y : KeyL) (w : World) : Calls Try.prog 32 #[.agg #[.int .i64 x.1, .string x.2], .agg #[.int .i64 y.1, .string y.2]] w fun e w' => e = .returned (.bool (kless x y)) ∧ Below w.heap.size w w' := itless_any x.1 x.2 y.1 y.2 w
set_option maxRecDepth 100000 in
set_option maxHeartbeats 8000000 in
theorem order_law (a b c : KeyL) (w : World) (h1 : a.2.size ≤ maxLen) (h2 : b.2.size ≤ maxLen) (h3 : c.2.size ≤ maxLen) :
    Calls Try.prog 6 #[.agg #[.int .i64 a.1, .string a.2], .agg #[.int .i64 b.1, .string b.2], .agg #[.int .i64 c.1, .string c.2]] w fun e w' => e = .returned (.bool true) ∧ Below w.heap.size w w' := by
  have HX := Lib.hid (Box3.make w a b c)
  have HB := Lib.hid ((((Below.refl _ w).alloc (Nat.le_refl _) (.cells #[.int .i64 a.1, .string a.2] 39)).alloc (by simp) (.cells #[.int .i64 b.1, .string b.2] 39)).alloc (by simp; omega) (.cells #[.int .i64 c.1, .string c.2] 39))
  have HAB := Lib.hid (iless_any a b)
  have HBA := Lib.hid (iless_any b a)
  have HBC := Lib.hid (iless_any b c)
  have HAC := Lib.hid (iless_any a c)
  have HAA := Lib.hid (iless_any a a)
  rw [kless_irr a] at HAA
  have HTR := Lib.hid (fun h1 h2 => kless_trans (a := a) (b := b) (c := c) h1 h2)
  have HAS := Lib.hid (fun h => kless_asym (a := a) (b := b) h)
  have HTI := Lib.hid (fun h1 h2 => kless_tri (a := a) (b := b) h1 h2)
  have HIR := Lib.hid (kless_irr a)
  unfold maxLen at h1 h2 h3
  go_enter Try.func6, Try.ntmps6
  go_upto_region 1 with fail
  generalize ((w.alloc (.cells #[.int .i64 a.1, .string a.2] 39)).alloc (.cells #[.int .i64 b.1, .string b.2] 39)).alloc (.cells #[.int .i64 c.1, .string c.2] 39) = W at *
  obtain ⟨⟨x0, x1⟩, ⟨y0, y1⟩, z0, z1⟩ := HX.out
  obtain ⟨la, ta⟩ := a
  obtain ⟨lb, tb⟩ := b
  obtain ⟨lc, tc⟩ := c
  simp only at x0 x1 y0 y1 z0 z1 h1 h2 h3
  by_cases hbig : 100 < ta.size ∨ 100 < tb.size ∨ 100 < tc.size
  · have HZ : RowKit.Hid (∀ V, Calls Try.prog 15 #[] V fun e w' => e = .returned (.bool true) ∧ Below V.heap.size V w') := fun V => awake_any V
    by_cases b1 : 100 < ta.size
    · have d1 : decide ((100 : Int) < (ta.size : Int)) = true := by simp; omega
      clear hbig
      go_wp2_with fail
      refine (HZ.out _).mono ?_
      rintro e w1 ⟨rfl, hb⟩
      have HB1 := Lib.hid (HB.out.trans (hb.mono HB.out.size))
      clear hb
      go_wp2_with fail
      go_ret
      exact ⟨rfl, HB1.out⟩
    · have d1 : decide ((100 : Int) < (ta.size : Int)) = false := by simp; omega
      have d1' : decide (100 < ta.size) = false := by simpa using b1
      by_cases b2 : 100 < tb.size
      · have d2 : decide ((100 : Int) < (tb.size : Int)) = true := by simp; omega
        clear hbig
        go_wp2_with fail
        refine (HZ.out _).mono ?_
        rintro e w1 ⟨rfl, hb⟩
        have HB1 := Lib.hid (HB.out.trans (hb.mono HB.out.size))
        clear hb
        go_wp2_with fail
        go_ret
        exact ⟨rfl, HB1.out⟩
      · have d2 : decide ((100 : Int) < (tb.size : Int)) = false := by simp; omega
        have d2' : decide (100 < tb.size) = false := by simpa using b2
        have d3 : decide ((100 : Int) < (tc.size : Int)) = true := by simp; omega
        clear hbig
        go_wp2_with fail
        refine (HZ.out _).mono ?_
        rintro e w1 ⟨rfl, hb⟩
        have HB1 := Lib.hid (HB.out.trans (hb.mono HB.out.size))
        clear hb
        go_wp2_with fail
        go_ret
        exact ⟨rfl, HB1.out⟩
  · have b1 : ¬ 100 < ta.size := by omega
    have b2 : ¬ 100 < tb.size := by omega
    have b3 : ¬ 100 < tc.size := by omega
    have d1 : decide ((100 : Int) < (ta.size : Int)) = false := by simp; omega
    have d2 : decide ((100 : Int) < (tb.size : Int)) = false := by simp; omega
    have d3 : decide ((100 : Int) < (tc.size : Int)) = false := by simp; omega
    have d1' : decide (100 < ta.size) = false := by simpa using b1
    have d2' : decide (100 < tb.size) = false := by simpa using b2
    have d3' : decide (100 < tc.size) = false := by simpa using b3
    clear hbig b1 b2 b3
    have HGB : RowKit.Hid (Below W.heap.size W W.drew) := below_drewN (Below.refl _ _) 1
    obtain ⟨ab, hab⟩ : ∃ v, kless (la, ta) (lb, tb) = v := ⟨_, rfl⟩
    obtain ⟨ba, hba⟩ : ∃ v, kless (lb, tb) (la, ta) = v := ⟨_, rfl⟩
    obtain ⟨bc, hbc⟩ : ∃ v, kless (lb, tb) (lc, tc) = v := ⟨_, rfl⟩
    obtain ⟨ac, hac⟩ : ∃ v, kless (la, ta) (lc, tc) = v := ⟨_, rfl⟩
    rw [hab] at HAB HTR HAS HTI
    rw [hba] at HBA HAS HTI
    rw [hbc] at HBC HTR
    rw [hac] at HAC HTR
    have HABE := Lib.hid hab
    have HBAE := Lib.hid hba
    clear hab hba hbc hac
    simp only at HAB HBA HBC HAC HAA HIR
    go_upto_region 3 with fail
    go_region_held3 (fun w' => w'.cell? ⟨w.heap.size, 0, none⟩ = some (.int .i64 la) ∧ w'.cell? ⟨w.heap.size, 1, none⟩ = some (.string ta) ∧ w'.cell? ⟨w.heap.size + 1, 0, none⟩ = some (.int .i64 lb) ∧ w'.cell? ⟨w.heap.size + 1, 1, none⟩ = some (.string tb)) (exact ⟨(HX.out.below HGB.out).1.1, (HX.out.below HGB.out).1.2, (HX.out.below HGB.out).2.1.1, (HX.out.below HGB.out).2.1.2⟩) (first | (go_at_call 32; with_reducible refine (HAB.out _).mono ?_; rintro e u ⟨rfl, hb⟩; have HSN := Lib.hid (HGB.out.trans (hb.mono HGB.out.size)); clear HGB; have HGB := HSN; clear HSN; clear hb) | (go_at_call 32; with_reducible refine (HBA.out _).mono ?_; rintro e u ⟨rfl, hb⟩; have HSN := Lib.hid (HGB.out.trans (hb.mono HGB.out.size)); clear HGB; have HGB := HSN; clear HSN; clear hb))
    have HZ : RowKit.Hid (∀ V, Calls Try.prog 15 #[] V fun e w' => e = .returned (.bool true) ∧ Below V.heap.size V w') := fun V => awake_any V
    clear x0 x1 y0 y1 z0 z1
    cases ab
    · cases ba
      · skip
        obtain ⟨rfl, rfl⟩ := Prod.mk.inj (HTI.out rfl rfl)
        have ht : (ta.toList == ta.toList) = true := by simp
        have hl : (la == la) = true := by simp
        have hxx := HX.out.below HGB.out
        simp only [Box3] at hxx
        obtain ⟨⟨x0, x1⟩, ⟨y0, y1⟩, z0, z1⟩ := hxx
        go_wp2_with fail
        (with_reducible refine (HAA.out _).mono ?_)
        rintro e u ⟨rfl, hb⟩
        have HSN := Lib.hid (HGB.out.trans (hb.mono HGB.out.size))
        clear HGB hb x0 x1 y0 y1 z0 z1
        have HGB := HSN
        clear HSN
        have hxx := HX.out.below HGB.out
        simp only [Box3] at hxx
        obtain ⟨⟨x0, x1⟩, ⟨y0, y1⟩, z0, z1⟩ := hxx
        go_wp2_with fail
        (with_reducible refine (HZ.out _).mono ?_)
        rintro e u ⟨rfl, hb⟩
        have HSN := Lib.hid (HGB.out.trans (hb.mono HGB.out.size))
        clear HGB hb x0 x1 y0 y1 z0 z1
        have HGB := HSN
        clear HSN
        have hxx := HX.out.below HGB.out
        simp only [Box3] at hxx
        obtain ⟨⟨x0, x1⟩, ⟨y0, y1⟩, z0, z1⟩ := hxx
        go_wp2_with fail
        go_ret
        exact ⟨rfl, HB.out.trans (HGB.out.mono HB.out.size)⟩
      · skip
        have hxx := HX.out.below HGB.out
        simp only [Box3] at hxx
        obtain ⟨⟨x0, x1⟩, ⟨y0, y1⟩, z0, z1⟩ := hxx
        have HNE := Lib.hid HBAE.out
        clear HABE HBAE
        have hne : ¬ (la = lb ∧ ta = tb) := fun h => by
          obtain ⟨rfl, rfl⟩ := h
          have := HNE.out
          rw [HIR.out] at this
          cases this
        by_cases hl : la = lb
        · have ht := str_ne (fun e => hne ⟨hl, e⟩)
          subst hl
          have hl : (la == la) = true := by simp
          clear hne
          go_wp2_with fail
          (with_reducible refine (HAA.out _).mono ?_)
          rintro e u ⟨rfl, hb⟩
          have HSN := Lib.hid (HGB.out.trans (hb.mono HGB.out.size))
          clear HGB hb x0 x1 y0 y1 z0 z1
          have HGB := HSN
          clear HSN
          have hxx := HX.out.below HGB.out
          simp only [Box3] at hxx
          obtain ⟨⟨x0, x1⟩, ⟨y0, y1⟩, z0, z1⟩ := hxx
          go_wp2_with fail
          (with_reducible refine (HZ.out _).mono ?_)
          rintro e u ⟨rfl, hb⟩
          have HSN := Lib.hid (HGB.out.trans (hb.mono HGB.out.size))
          clear HGB hb x0 x1 y0 y1 z0 z1
          have HGB := HSN
          clear HSN
          have hxx := HX.out.below HGB.out
          simp only [Box3] at hxx
          obtain ⟨⟨x0, x1⟩, ⟨y0, y1⟩, z0, z1⟩ := hxx
          go_wp2_with fail
          go_ret
          exact ⟨rfl, HB.out.trans (HGB.out.mono HB.out.size)⟩
        · have hl' : (la == lb) = false := by simpa using hl
          clear hne hl
          go_wp2_with fail
          (with_reducible refine (HAA.out _).mono ?_)
          rintro e u ⟨rfl, hb⟩
          have HSN := Lib.hid (HGB.out.trans (hb.mono HGB.out.size))
          clear HGB hb x0 x1 y0 y1 z0 z1
          have HGB := HSN
          clear HSN
          have hxx := HX.out.below HGB.out
          simp only [Box3] at hxx
          obtain ⟨⟨x0, x1⟩, ⟨y0, y1⟩, z0, z1⟩ := hxx
          go_wp2_with fail
          (with_reducible refine (HZ.out _).mono ?_)
          rintro e u ⟨rfl, hb⟩
          have HSN := Lib.hid (HGB.out.trans (hb.mono HGB.out.size))
          clear HGB hb x0 x1 y0 y1 z0 z1
          have HGB := HSN
          clear HSN
          have hxx := HX.out.below HGB.out
          simp only [Box3] at hxx
          obtain ⟨⟨x0, x1⟩, ⟨y0, y1⟩, z0, z1⟩ := hxx
          go_wp2_with fail
          go_ret
          exact ⟨rfl, HB.out.trans (HGB.out.mono HB.out.size)⟩
    · have hba := HAS.out rfl
      rw [hba] at HBAE
      subst hba
      have hxx := HX.out.below HGB.out
      simp only [Box3] at hxx
      obtain ⟨⟨x0, x1⟩, ⟨y0, y1⟩, z0, z1⟩ := hxx
      have HNE := Lib.hid HABE.out
      clear HABE HBAE
      have hne : ¬ (la = lb ∧ ta = tb) := fun h => by
        obtain ⟨rfl, rfl⟩ := h
        have := HNE.out
        rw [HIR.out] at this
        cases this
      by_cases hl : la = lb
      · have ht := str_ne (fun e => hne ⟨hl, e⟩)
        subst hl
        have hl : (la == la) = true := by simp
        clear hne
        cases bc
        · skip
          go_wp2_with fail
          (with_reducible refine (HBC.out _).mono ?_)
          rintro e u ⟨rfl, hb⟩
          have HSN := Lib.hid (HGB.out.trans (hb.mono HGB.out.size))
          clear HGB hb x0 x1 y0 y1 z0 z1
          have HGB := HSN
          clear HSN
          have hxx := HX.out.below HGB.out
          simp only [Box3] at hxx
          obtain ⟨⟨x0, x1⟩, ⟨y0, y1⟩, z0, z1⟩ := hxx
          go_wp2_with fail
          (with_reducible refine (HAA.out _).mono ?_)
          rintro e u ⟨rfl, hb⟩
          have HSN := Lib.hid (HGB.out.trans (hb.mono HGB.out.size))
          clear HGB hb x0 x1 y0 y1 z0 z1
          have HGB := HSN
          clear HSN
          have hxx := HX.out.below HGB.out
          simp only [Box3] at hxx
          obtain ⟨⟨x0, x1⟩, ⟨y0, y1⟩, z0, z1⟩ := hxx
          go_wp2_with fail
          (with_reducible refine (HZ.out _).mono ?_)
          rintro e u ⟨rfl, hb⟩
          have HSN := Lib.hid (HGB.out.trans (hb.mono HGB.out.size))
          clear HGB hb x0 x1 y0 y1 z0 z1
          have HGB := HSN
          clear HSN
          have hxx := HX.out.below HGB.out
          simp only [Box3] at hxx
          obtain ⟨⟨x0, x1⟩, ⟨y0, y1⟩, z0, z1⟩ := hxx
          go_wp2_with fail
          go_ret
          exact ⟨rfl, HB.out.trans (HGB.out.mono HB.out.size)⟩
        · have hac := HTR.out rfl rfl
          rw [hac] at HAC
          clear hac
          go_wp2_with fail
          (with_reducible refine (HBC.out _).mono ?_)
          rintro e u ⟨rfl, hb⟩
          have HSN := Lib.hid (HGB.out.trans (hb.mono HGB.out.size))
          clear HGB hb x0 x1 y0 y1 z0 z1
          have HGB := HSN
          clear HSN
          have hxx := HX.out.below HGB.out
          simp only [Box3] at hxx
          obtain ⟨⟨x0, x1⟩, ⟨y0, y1⟩, z0, z1⟩ := hxx
          go_wp2_with fail
          (with_reducible refine (HAC.out _).mono ?_)
          rintro e u ⟨rfl, hb⟩
          have HSN := Lib.hid (HGB.out.trans (hb.mono HGB.out.size))
          clear HGB hb x0 x1 y0 y1 z0 z1
          have HGB := HSN
          clear HSN
          have hxx := HX.out.below HGB.out
          simp only [Box3] at hxx
          obtain ⟨⟨x0, x1⟩, ⟨y0, y1⟩, z0, z1⟩ := hxx
          go_wp2_with fail
          (with_reducible refine (HAA.out _).mono ?_)
          rintro e u ⟨rfl, hb⟩
          have HSN := Lib.hid (HGB.out.trans (hb.mono HGB.out.size))
          clear HGB hb x0 x1 y0 y1 z0 z1
          have HGB := HSN
          clear HSN
          have hxx := HX.out.below HGB.out
          simp only [Box3] at hxx
          obtain ⟨⟨x0, x1⟩, ⟨y0, y1⟩, z0, z1⟩ := hxx
          go_wp2_with fail
          (with_reducible refine (HZ.out _).mono ?_)
          rintro e u ⟨rfl, hb⟩
          have HSN := Lib.hid (HGB.out.trans (hb.mono HGB.out.size))
          clear HGB hb x0 x1 y0 y1 z0 z1
          have HGB := HSN
          clear HSN
          have hxx := HX.out.below HGB.out
          simp only [Box3] at hxx
          obtain ⟨⟨x0, x1⟩, ⟨y0, y1⟩, z0, z1⟩ := hxx
          go_wp2_with fail
          go_ret
          exact ⟨rfl, HB.out.trans (HGB.out.mono HB.out.size)⟩
      · have hl' : (la == lb) = false := by simpa using hl
        clear hne hl
        cases bc
        · skip
          go_wp2_with fail
          (with_reducible refine (HBC.out _).mono ?_)
          rintro e u ⟨rfl, hb⟩
          have HSN := Lib.hid (HGB.out.trans (hb.mono HGB.out.size))
          clear HGB hb x0 x1 y0 y1 z0 z1
          have HGB := HSN
          clear HSN
          have hxx := HX.out.below HGB.out
          simp only [Box3] at hxx
          obtain ⟨⟨x0, x1⟩, ⟨y0, y1⟩, z0, z1⟩ := hxx
          go_wp2_with fail
          (with_reducible refine (HAA.out _).mono ?_)
          rintro e u ⟨rfl, hb⟩
          have HSN := Lib.hid (HGB.out.trans (hb.mono HGB.out.size))
          clear HGB hb x0 x1 y0 y1 z0 z1
          have HGB := HSN
          clear HSN
          have hxx := HX.out.below HGB.out
          simp only [Box3] at hxx
          obtain ⟨⟨x0, x1⟩, ⟨y0, y1⟩, z0, z1⟩ := hxx
          go_wp2_with fail
          (with_reducible refine (HZ.out _).mono ?_)
          rintro e u ⟨rfl, hb⟩
          have HSN := Lib.hid (HGB.out.trans (hb.mono HGB.out.size))
          clear HGB hb x0 x1 y0 y1 z0 z1
          have HGB := HSN
          clear HSN
          have hxx := HX.out.below HGB.out
          simp only [Box3] at hxx
          obtain ⟨⟨x0, x1⟩, ⟨y0, y1⟩, z0, z1⟩ := hxx
          go_wp2_with fail
          go_ret
          exact ⟨rfl, HB.out.trans (HGB.out.mono HB.out.size)⟩
        · have hac := HTR.out rfl rfl
          rw [hac] at HAC
          clear hac
          go_wp2_with fail
          (with_reducible refine (HBC.out _).mono ?_)
          rintro e u ⟨rfl, hb⟩
          have HSN := Lib.hid (HGB.out.trans (hb.mono HGB.out.size))
          clear HGB hb x0 x1 y0 y1 z0 z1
          have HGB := HSN
          clear HSN
          have hxx := HX.out.below HGB.out
          simp only [Box3] at hxx
          obtain ⟨⟨x0, x1⟩, ⟨y0, y1⟩, z0, z1⟩ := hxx
          go_wp2_with fail
          (with_reducible refine (HAC.out _).mono ?_)
          rintro e u ⟨rfl, hb⟩
          have HSN := Lib.hid (HGB.out.trans (hb.mono HGB.out.size))
          clear HGB hb x0 x1 y0 y1 z0 z1
          have HGB := HSN
          clear HSN
          have hxx := HX.out.below HGB.out
          simp only [Box3] at hxx
          obtain ⟨⟨x0, x1⟩, ⟨y0, y1⟩, z0, z1⟩ := hxx
          go_wp2_with fail
          (with_reducible refine (HAA.out _).mono ?_)
          rintro e u ⟨rfl, hb⟩
          have HSN := Lib.hid (HGB.out.trans (hb.mono HGB.out.size))
          clear HGB hb x0 x1 y0 y1 z0 z1
          have HGB := HSN
          clear HSN
          have hxx := HX.out.below HGB.out
          simp only [Box3] at hxx
          obtain ⟨⟨x0, x1⟩, ⟨y0, y1⟩, z0, z1⟩ := hxx
          go_wp2_with fail
          (with_reducible refine (HZ.out _).mono ?_)
          rintro e u ⟨rfl, hb⟩
          have HSN := Lib.hid (HGB.out.trans (hb.mono HGB.out.size))
          clear HGB hb x0 x1 y0 y1 z0 z1
          have HGB := HSN
          clear HSN
          have hxx := HX.out.below HGB.out
          simp only [Box3] at hxx
          obtain ⟨⟨x0, x1⟩, ⟨y0, y1⟩, z0, z1⟩ := hxx
          go_wp2_with fail
          go_ret
          exact ⟨rfl, HB.out.trans (HGB.out.mono HB.out.size)⟩
end Go.Proofs.Ytiohngcmojkheaa
