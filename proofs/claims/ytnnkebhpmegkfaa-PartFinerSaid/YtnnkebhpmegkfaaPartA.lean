/- The walk of the statement PartFiner: with a cut less each word's shard is the same, or one less. -/
import Derived.Test.YtnnkebhpmegkfaaPart9
import Derived.Deep.RegionHeld3
namespace Go.Proofs.Ytnnkebhpmegkfaa
open Go.RowKit Go.Deep
set_option linter.unusedVariables false

theorem keyOne (x : KeyL) : ∀ u ∈ x.cells, u.oneCell' = true := by
  intro u hu; unfold KeyL.cells at hu; simp at hu; rcases hu with rfl | rfl <;> rfl
theorem infoK : (Try.prog.info? 58).map (fun i => (i.zero, i.size, i.bytes)) = some (some (.agg #[.int .i64 0, .string ⟨#[]⟩]), 2, 24) := by kernel_rfl
theorem keyCell0 {w : World} {b off n c : Nat} {l : List KeyL} {k : Nat} {x : KeyL} (h : RdE KeyL.cells 2 w (some ⟨b, off, none⟩) n c l) (hk : l[k]? = some x) : w.cell? ⟨b, off + k * 2, none⟩ = some (.int .i64 x.1) := by
  obtain ⟨b', off', he, _, hc⟩ := h.2.2.2.2 k x hk
  simp only [Option.some.injEq, Addr.mk.injEq, and_true] at he
  obtain ⟨rfl, rfl⟩ := he
  exact hc 0 (by decide)
theorem keyCell1 {w : World} {b off n c : Nat} {l : List KeyL} {k : Nat} {x : KeyL} (h : RdE KeyL.cells 2 w (some ⟨b, off, none⟩) n c l) (hk : l[k]? = some x) : w.cell? ⟨b, off + k * 2 + 1, none⟩ = some (.string x.2) := by
  obtain ⟨b', off', he, _, hc⟩ := h.2.2.2.2 k x hk
  simp only [Option.some.injEq, Addr.mk.injEq, and_true] at he
  obtain ⟨rfl, rfl⟩ := he
  exact hc 1 (by decide)
set_option maxRecDepth 100000 in
set_option maxHeartbeats 4000000 in
theorem finer_law (a : Option Addr) (n cap : Nat) (l : List KeyL) (which : Int) (s : ByteArray) (w : World) (hr : RdE KeyL.cells 2 w a n cap l) (hs : ∀ x ∈ l, x.2.size ≤ maxLen) (h1 : s.size ≤ maxLen) :
    Calls Try.prog 11 #[.slice a n cap, .int .i64 which, .string s] w fun e w' => e = .returned (.bool true) ∧ Below w.heap.size w w' := by
  have hn := hr.1
  subst hn
  have hcap := hr.2.1
  have hcm := hr.2.2.1
  unfold maxLen at hcm
  have HS := Lib.hid hs
  have HR := Lib.hid hr
  have HB := Lib.hid (Below.refl w.heap.size w)
  have H1 := Lib.hid h1
  unfold maxLen at h1
  clear hr hs
  obtain ⟨i0, hi, hz0, hz1, hz2⟩ := info_parts infoK
  by_cases h0 : l.length = 0
  ·
    have d0 : ((l.length : Int) == 0) = true := by simp [h0]
    go_enter Try.func11, Try.ntmps11
    go_wp2_with fail
    refine (awake12_any _).mono ?_
    rintro e v1 ⟨rfl, hb⟩
    have HB1 := Lib.hid (HB.out.trans (hb.mono HB.out.size))
    clear hb HB
    go_wp2_with fail
    go_ret
    exact ⟨rfl, HB1.out⟩
  ·
    have d0 : ((l.length : Int) == 0) = false := by rw [beq_eq_false_iff_ne]; omega
    have hpos : 0 < l.length := by omega
    obtain ⟨b, off, rfl⟩ : ∃ b off, a = some ⟨b, off, none⟩ := by obtain ⟨b, off, e, _⟩ := HR.out.2.2.2.2 0 l[0] (List.getElem?_eq_getElem hpos); exact ⟨b, off, e⟩
    go_enter Try.func11, Try.ntmps11
    go_wp2_with fail
    refine (good_any _ l.length cap l _ (HR.out.below HB.out rfl) HS.out).mono ?_
    rintro e v1 ⟨rfl, hb⟩
    have HB1 := Lib.hid (HB.out.trans (hb.mono HB.out.size))
    clear hb HB
    obtain ⟨g, hg⟩ : ∃ g, goodE l = g := ⟨_, rfl⟩
    rw [hg]
    have HG := Lib.hid hg
    clear hg
    by_cases g0 : g = 0
    ·
      subst g0
      by_cases s1 : 100 < s.size
      ·
        have d1 : decide (100 < s.size) = true := by simpa using s1
        go_wp2_with fail
        refine (awake12_any _).mono ?_
        rintro e v2 ⟨rfl, hb⟩
        have HB2 := Lib.hid (HB1.out.trans (hb.mono HB1.out.size))
        clear hb HB1
        go_wp2_with fail
        go_ret
        exact ⟨rfl, HB2.out⟩
      ·
        have d1 : decide (100 < s.size) = false := by simpa using s1
        go_wp2_with fail
        refine (word_any s _ H1.out).mono ?_
        rintro e v2 ⟨rfl, hb⟩
        have HB2 := Lib.hid (HB1.out.trans (hb.mono HB1.out.size))
        clear hb HB1
        obtain ⟨b1, hb1⟩ : ∃ b, isWord s = b := ⟨_, rfl⟩
        rw [hb1]
        have HW1 := Lib.hid hb1
        clear hb1
        cases b1
        case false =>
          go_wp2_with fail
          refine (awake12_any _).mono ?_
          rintro e v3 ⟨rfl, hb⟩
          have HB3 := Lib.hid (HB2.out.trans (hb.mono HB2.out.size))
          clear hb HB2
          go_wp2_with fail
          go_ret
          exact ⟨rfl, HB3.out⟩
        case true =>
          have h5 : l.length ≤ 5 := ((goodE_iff l).1 HG.out).1
          have hlb := lowI_bd which l.length (by omega)
          have hle := low_eq which l.length (by omega) (by omega)
          obtain ⟨k, hk⟩ : ∃ k : Nat, lowI which l.length = (k : Int) := ⟨(lowI which l.length).toNat, by omega⟩
          rw [hk] at hle hlb
          clear hk
          have hkl : k < l.length := by omega
          clear hlb
          have kk := keyAt_some hkl
          have HD := Lib.hid (RdE.drop HR.out (k + 1) (by omega))
          have HTK := Lib.hid (RdE.take HR.out k (by omega))
          have kc : k ≤ cap := by omega
          by_cases hkc : cap = k + 1
          ·
            have hd := HD.out off (fun h => by omega)
            have e1 : l.length - (k + 1) = 0 := by omega
            have e2 : cap - (k + 1) = 0 := by omega
            rw [e1, e2] at hd
            have HD1 := Lib.hid hd
            clear hd e1 e2
            have hkc' := hkc.symm
            clear hkc
            have A1 : 0 + k ≤ maxLen := by unfold maxLen; omega
            have A2 : (0 + k) * 24 ≤ 140737488355328 := by omega
            have A3 : k + 0 ≤ maxLen := by unfold maxLen; omega
            have A4 : (k + 0) * 24 ≤ 140737488355328 := by omega
            have hz := HB2.out.size
            go_wp2_with fail
            have w1 : IntKind.i64.wrap ((k : Int) + 1) = (k : Int) + 1 := IntWalk.i64_in _ (by omega)
            have w2 : ((k : Int) + 1).toNat = k + 1 := by omega
            have w3 : (0 : Int) ≤ (k : Int) + 1 := by omega
            have w4 : (k : Int) + 1 ≤ l.length := by omega
            have X1 := Lib.hid (show Src Try.prog 2 56 (.slice (some ⟨b, off, none⟩) k cap) k ((l.take k).flatMap KeyL.cells) v2.drew from Src.ofRdE (enc := KeyL.cells) (size := 2) Try.underlying56 (fun _ => rfl) keyOne (HTK.out.below (below_drewN HB2.out 1) rfl))
            go_region_law (first | (refine step_app rfl (.const (.slice none 0 0)) (.tmp 38) 56 56 rfl w.heap.size 58 i0 (.agg #[.int .i64 0, .string ⟨#[]⟩]) 2 24 Try.underlying56 hi hz0 hz1 hz2 rfl (by decide) none 0 0 [] rfl (World.ownsRow_nil _ _ _ _) (.slice (some ⟨b, off, none⟩) k cap) k ((l.take k).flatMap KeyL.cells) (by kernel_rfl) X1.out A1 A2 hz ?_; intro a1 c1 u1 hown1 hgr1; rw [Nat.zero_add, List.nil_append] at hown1; have B1 := Lib.hid ((below_drewN HB2.out 1).grown hgr1 hz (fun k hk => by cases hk)); have hz1' := B1.out.size; have X2 := Lib.hid (show Src Try.prog 2 56 (.slice (some ⟨b, off, none⟩) 0 0) 0 ((l.drop (k + 1)).flatMap KeyL.cells) u1 from Src.ofRdE (enc := KeyL.cells) (size := 2) Try.underlying56 (fun _ => rfl) keyOne (HD1.out.below B1.out rfl))) | (refine step_app rfl (.tmp 39) (.tmp 43) 56 56 rfl w.heap.size 58 i0 (.agg #[.int .i64 0, .string ⟨#[]⟩]) 2 24 Try.underlying56 hi hz0 hz1 hz2 rfl (by decide) a1 k c1 ((l.take k).flatMap KeyL.cells) (by kernel_rfl) hown1 (.slice (some ⟨b, off, none⟩) 0 0) 0 ((l.drop (k + 1)).flatMap KeyL.cells) (by kernel_rfl) X2.out A3 A4 hz1' ?_; intro a2 c2 u2 hown2 hgr2))
            clear w1 w2 w3 w4 X1 X2
            have HB8 := Lib.hid (B1.out.grown hgr2 hz1' (ownsRow_some0 hown1))
            have hll : (lessL l k).length = k := by rw [lessL_len l k hkl]; omega
            have HLS := Lib.hid (ownsRow_rdE (enc := KeyL.cells) (size := 2) (fun _ => rfl) (n := k) (l := lessL l k) hll (by unfold lessL; rw [List.flatMap_append]; exact hown2))
            clear hown1 hown2 hgr1 hgr2 B1 hz1' hz A1 A2 A3 A4 HTK HD HD1
            go_wp2_with fail
            refine (of_any (some ⟨b, off, none⟩) l.length cap l s _ (HR.out.below HB8.out rfl) (by omega) H1.out).mono ?_
            rintro e v9 ⟨rfl, hb⟩
            have HB9 := Lib.hid (HB8.out.trans (hb.mono HB8.out.size))
            have HLS9 := Lib.hid (HLS.out.below hb rfl)
            clear HLS
            clear hb HB8
            generalize keyAt l k = y at kk
            obtain ⟨lc, tc⟩ := y
            have HOF := Lib.hid (lessL_of l k s (lc, tc) kk HW1.out)
            have HGL := Lib.hid (lessL_good l k HG.out)
            have HSL := Lib.hid (fun x hx => HS.out x ((lessL_sub l k).subset hx))
            have hof : 0 ≤ ofN l s ∧ ofN l s ≤ 5 := by have := belowN_le l (tLen s, s); unfold ofN; rw [if_pos HW1.out]; omega
            obtain ⟨o1, o2⟩ := hof
            generalize ofN l s = want at *
            generalize lessL l k = less at *
            have hl4 : less.length ≤ 100 := by have := ((goodE_iff less).1 HGL.out).1; omega
            have HKK := Lib.hid kk
            clear kk
            have X1 := Lib.hid (keyCell0 (HR.out.below HB9.out rfl) HKK.out)
            have X2 := Lib.hid (keyCell1 (HR.out.below HB9.out rfl) HKK.out)
            have HL := Lib.hid (fun W => len_any s W H1.out)
            have HKL := Lib.hid (fun z W => kless_any z s lc tc W)
            have hkl' : (k : Int) < (l.length : Int) := by omega
            have hbd := tLen_bd s
            obtain ⟨z, hz⟩ : ∃ z, tLen s = z := ⟨_, rfl⟩
            rw [hz] at HL HOF hbd
            clear hz
            go_wp2_with fail
            go_region_held3 (fun w' => w'.cell? ⟨b, off + k * 2, none⟩ = some (.int .i64 lc) ∧ w'.cell? ⟨b, off + k * 2 + 1, none⟩ = some (.string tc)) (first | exact ⟨X1.out, X2.out⟩ | exact ⟨Y1.out, Y2.out⟩ | exact ⟨Z1.out, Z2.out⟩) (first | (go_at_call 36; refine (HL.out _).mono ?_; rintro e u3 ⟨rfl, hb⟩; have HBA := Lib.hid (show Below w.heap.size w u3 from (below_drewN HB9.out 1).trans (hb.mono (below_drewN HB9.out 1).size)); have hb2 : Below v9.heap.size v9 u3 := (below_drewN (Below.refl v9.heap.size v9) 1).trans hb; have HLSA := Lib.hid (HLS9.out.below hb2 rfl); clear hb2; have Y1 := Lib.hid (keyCell0 (HR.out.below HBA.out rfl) HKK.out); have Y2 := Lib.hid (keyCell1 (HR.out.below HBA.out rfl) HKK.out); clear hb) | (go_at_call 33; refine (HKL.out z _).mono ?_; rintro e u4 ⟨rfl, hb⟩; have HBB := Lib.hid (HBA.out.trans (hb.mono HBA.out.size)); have HLSB := Lib.hid (HLSA.out.below hb rfl); have Z1 := Lib.hid (keyCell0 (HR.out.below HBB.out rfl) HKK.out); have Z2 := Lib.hid (keyCell1 (HR.out.below HBB.out rfl) HKK.out); clear hb))
            clear X1 X2 Y1 Y2 Z1 Z2 HL HKL HB9 HBA HLS9 HLSA
            cases hd : decide (cmpK z s lc tc < 0)
            case false =>
              have hw : ofN less s = want - 1 := by have := HOF.out; unfold kless at this; rw [hd] at this; simpa using this
              have HW := Lib.hid hw
              clear hw hd HOF
              go_wp2_with fail
              refine (good_any a2 k c2 less _ HLSB.out HSL.out).mono ?_
              rintro e v11 ⟨rfl, hb⟩
              have HB11 := Lib.hid (HBB.out.trans (hb.mono HBB.out.size))
              rw [HGL.out]
              have HLSC := Lib.hid (HLSB.out.below hb rfl)
              clear hb HBB
              go_wp2_with fail
              refine (of_any a2 k c2 less s _ HLSC.out hl4 H1.out).mono ?_
              rintro e v12 ⟨rfl, hb⟩
              have HB12 := Lib.hid (HB11.out.trans (hb.mono HB11.out.size))
              rw [HW.out]
              clear hb HB11
              go_wp2_with fail
              refine (awake12_any _).mono ?_
              rintro e v13 ⟨rfl, hb⟩
              have HB13 := Lib.hid (HB12.out.trans (hb.mono HB12.out.size))
              clear hb HB12
              go_wp2_with fail
              go_ret
              exact ⟨rfl, HB13.out⟩
            case true =>
              have hw : ofN less s = want := by have := HOF.out; unfold kless at this; rw [hd] at this; simpa using this
              have HW := Lib.hid hw
              clear hw hd HOF
              go_wp2_with fail
              refine (good_any a2 k c2 less _ HLSB.out HSL.out).mono ?_
              rintro e v11 ⟨rfl, hb⟩
              have HB11 := Lib.hid (HBB.out.trans (hb.mono HBB.out.size))
              rw [HGL.out]
              have HLSC := Lib.hid (HLSB.out.below hb rfl)
              clear hb HBB
              go_wp2_with fail
              refine (of_any a2 k c2 less s _ HLSC.out hl4 H1.out).mono ?_
              rintro e v12 ⟨rfl, hb⟩
              have HB12 := Lib.hid (HB11.out.trans (hb.mono HB11.out.size))
              rw [HW.out]
              clear hb HB11
              go_wp2_with fail
              refine (awake12_any _).mono ?_
              rintro e v13 ⟨rfl, hb⟩
              have HB13 := Lib.hid (HB12.out.trans (hb.mono HB12.out.size))
              clear hb HB12
              go_wp2_with fail
              go_ret
              exact ⟨rfl, HB13.out⟩
          ·
            have HD1 := Lib.hid (HD.out (off + (k + 1) * 2) (fun _ => rfl))
            have A1 : 0 + k ≤ maxLen := by unfold maxLen; omega
            have A2 : (0 + k) * 24 ≤ 140737488355328 := by omega
            have A3 : k + (l.length - (k + 1)) ≤ maxLen := by unfold maxLen; omega
            have A4 : (k + (l.length - (k + 1))) * 24 ≤ 140737488355328 := by omega
            have hz := HB2.out.size
            go_wp2_with fail
            have w1 : IntKind.i64.wrap ((k : Int) + 1) = (k : Int) + 1 := IntWalk.i64_in _ (by omega)
            have w2 : ((k : Int) + 1).toNat = k + 1 := by omega
            have w3 : (0 : Int) ≤ (k : Int) + 1 := by omega
            have w4 : (k : Int) + 1 ≤ l.length := by omega
            have X1 := Lib.hid (show Src Try.prog 2 56 (.slice (some ⟨b, off, none⟩) k cap) k ((l.take k).flatMap KeyL.cells) v2.drew from Src.ofRdE (enc := KeyL.cells) (size := 2) Try.underlying56 (fun _ => rfl) keyOne (HTK.out.below (below_drewN HB2.out 1) rfl))
            go_region_law (first | (refine step_app rfl (.const (.slice none 0 0)) (.tmp 38) 56 56 rfl w.heap.size 58 i0 (.agg #[.int .i64 0, .string ⟨#[]⟩]) 2 24 Try.underlying56 hi hz0 hz1 hz2 rfl (by decide) none 0 0 [] rfl (World.ownsRow_nil _ _ _ _) (.slice (some ⟨b, off, none⟩) k cap) k ((l.take k).flatMap KeyL.cells) (by kernel_rfl) X1.out A1 A2 hz ?_; intro a1 c1 u1 hown1 hgr1; rw [Nat.zero_add, List.nil_append] at hown1; have B1 := Lib.hid ((below_drewN HB2.out 1).grown hgr1 hz (fun k hk => by cases hk)); have hz1' := B1.out.size; have X2 := Lib.hid (show Src Try.prog 2 56 (.slice (some ⟨b, off + (k + 1) * 2, none⟩) (l.length - (k + 1)) (cap - (k + 1))) (l.length - (k + 1)) ((l.drop (k + 1)).flatMap KeyL.cells) u1 from Src.ofRdE (enc := KeyL.cells) (size := 2) Try.underlying56 (fun _ => rfl) keyOne (HD1.out.below B1.out rfl))) | (refine step_app rfl (.tmp 39) (.tmp 43) 56 56 rfl w.heap.size 58 i0 (.agg #[.int .i64 0, .string ⟨#[]⟩]) 2 24 Try.underlying56 hi hz0 hz1 hz2 rfl (by decide) a1 k c1 ((l.take k).flatMap KeyL.cells) (by kernel_rfl) hown1 (.slice (some ⟨b, off + (k + 1) * 2, none⟩) (l.length - (k + 1)) (cap - (k + 1))) (l.length - (k + 1)) ((l.drop (k + 1)).flatMap KeyL.cells) (by kernel_rfl) X2.out A3 A4 hz1' ?_; intro a2 c2 u2 hown2 hgr2))
            clear w1 w2 w3 w4 X1 X2
            have HB8 := Lib.hid (B1.out.grown hgr2 hz1' (ownsRow_some0 hown1))
            have hll : (lessL l k).length = k + (l.length - (k + 1)) := by rw [lessL_len l k hkl]; omega
            have HLS := Lib.hid (ownsRow_rdE (enc := KeyL.cells) (size := 2) (fun _ => rfl) (n := k + (l.length - (k + 1))) (l := lessL l k) hll (by unfold lessL; rw [List.flatMap_append]; exact hown2))
            clear hown1 hown2 hgr1 hgr2 B1 hz1' hz A1 A2 A3 A4 HTK HD HD1
            go_wp2_with fail
            refine (of_any (some ⟨b, off, none⟩) l.length cap l s _ (HR.out.below HB8.out rfl) (by omega) H1.out).mono ?_
            rintro e v9 ⟨rfl, hb⟩
            have HB9 := Lib.hid (HB8.out.trans (hb.mono HB8.out.size))
            have HLS9 := Lib.hid (HLS.out.below hb rfl)
            clear HLS
            clear hb HB8
            generalize keyAt l k = y at kk
            obtain ⟨lc, tc⟩ := y
            have HOF := Lib.hid (lessL_of l k s (lc, tc) kk HW1.out)
            have HGL := Lib.hid (lessL_good l k HG.out)
            have HSL := Lib.hid (fun x hx => HS.out x ((lessL_sub l k).subset hx))
            have hof : 0 ≤ ofN l s ∧ ofN l s ≤ 5 := by have := belowN_le l (tLen s, s); unfold ofN; rw [if_pos HW1.out]; omega
            obtain ⟨o1, o2⟩ := hof
            generalize ofN l s = want at *
            generalize lessL l k = less at *
            generalize k + (l.length - (k + 1)) = nl at *
            subst hll
            have hl4 : less.length ≤ 100 := by have := ((goodE_iff less).1 HGL.out).1; omega
            have HKK := Lib.hid kk
            clear kk
            have X1 := Lib.hid (keyCell0 (HR.out.below HB9.out rfl) HKK.out)
            have X2 := Lib.hid (keyCell1 (HR.out.below HB9.out rfl) HKK.out)
            have HL := Lib.hid (fun W => len_any s W H1.out)
            have HKL := Lib.hid (fun z W => kless_any z s lc tc W)
            have hkl' : (k : Int) < (l.length : Int) := by omega
            have hbd := tLen_bd s
            obtain ⟨z, hz⟩ : ∃ z, tLen s = z := ⟨_, rfl⟩
            rw [hz] at HL HOF hbd
            clear hz
            go_wp2_with fail
            go_region_held3 (fun w' => w'.cell? ⟨b, off + k * 2, none⟩ = some (.int .i64 lc) ∧ w'.cell? ⟨b, off + k * 2 + 1, none⟩ = some (.string tc)) (first | exact ⟨X1.out, X2.out⟩ | exact ⟨Y1.out, Y2.out⟩ | exact ⟨Z1.out, Z2.out⟩) (first | (go_at_call 36; refine (HL.out _).mono ?_; rintro e u3 ⟨rfl, hb⟩; have HBA := Lib.hid (show Below w.heap.size w u3 from (below_drewN HB9.out 1).trans (hb.mono (below_drewN HB9.out 1).size)); have hb2 : Below v9.heap.size v9 u3 := (below_drewN (Below.refl v9.heap.size v9) 1).trans hb; have HLSA := Lib.hid (HLS9.out.below hb2 rfl); clear hb2; have Y1 := Lib.hid (keyCell0 (HR.out.below HBA.out rfl) HKK.out); have Y2 := Lib.hid (keyCell1 (HR.out.below HBA.out rfl) HKK.out); clear hb) | (go_at_call 33; refine (HKL.out z _).mono ?_; rintro e u4 ⟨rfl, hb⟩; have HBB := Lib.hid (HBA.out.trans (hb.mono HBA.out.size)); have HLSB := Lib.hid (HLSA.out.below hb rfl); have Z1 := Lib.hid (keyCell0 (HR.out.below HBB.out rfl) HKK.out); have Z2 := Lib.hid (keyCell1 (HR.out.below HBB.out rfl) HKK.out); clear hb))
            clear X1 X2 Y1 Y2 Z1 Z2 HL HKL HB9 HBA HLS9 HLSA
            cases hd : decide (cmpK z s lc tc < 0)
            case false =>
              have hw : ofN less s = want - 1 := by have := HOF.out; unfold kless at this; rw [hd] at this; simpa using this
              have HW := Lib.hid hw
              clear hw hd HOF
              go_wp2_with fail
              refine (good_any a2 less.length c2 less _ HLSB.out HSL.out).mono ?_
              rintro e v11 ⟨rfl, hb⟩
              have HB11 := Lib.hid (HBB.out.trans (hb.mono HBB.out.size))
              rw [HGL.out]
              have HLSC := Lib.hid (HLSB.out.below hb rfl)
              clear hb HBB
              go_wp2_with fail
              refine (of_any a2 less.length c2 less s _ HLSC.out hl4 H1.out).mono ?_
              rintro e v12 ⟨rfl, hb⟩
              have HB12 := Lib.hid (HB11.out.trans (hb.mono HB11.out.size))
              rw [HW.out]
              clear hb HB11
              go_wp2_with fail
              refine (awake12_any _).mono ?_
              rintro e v13 ⟨rfl, hb⟩
              have HB13 := Lib.hid (HB12.out.trans (hb.mono HB12.out.size))
              clear hb HB12
              go_wp2_with fail
              go_ret
              exact ⟨rfl, HB13.out⟩
            case true =>
              have hw : ofN less s = want := by have := HOF.out; unfold kless at this; rw [hd] at this; simpa using this
              have HW := Lib.hid hw
              clear hw hd HOF
              go_wp2_with fail
              refine (good_any a2 less.length c2 less _ HLSB.out HSL.out).mono ?_
              rintro e v11 ⟨rfl, hb⟩
              have HB11 := Lib.hid (HBB.out.trans (hb.mono HBB.out.size))
              rw [HGL.out]
              have HLSC := Lib.hid (HLSB.out.below hb rfl)
              clear hb HBB
              go_wp2_with fail
              refine (of_any a2 less.length c2 less s _ HLSC.out hl4 H1.out).mono ?_
              rintro e v12 ⟨rfl, hb⟩
              have HB12 := Lib.hid (HB11.out.trans (hb.mono HB11.out.size))
              rw [HW.out]
              clear hb HB11
              go_wp2_with fail
              refine (awake12_any _).mono ?_
              rintro e v13 ⟨rfl, hb⟩
              have HB13 := Lib.hid (HB12.out.trans (hb.mono HB12.out.size))
              clear hb HB12
              go_wp2_with fail
              go_ret
              exact ⟨rfl, HB13.out⟩
    ·
      have g0' : (g == 0) = false := by simpa using g0
      have g0'' : (g != 0) = true := by simpa using g0
      go_wp2_with fail
      refine (awake12_any _).mono ?_
      rintro e v2 ⟨rfl, hb⟩
      have HB2 := Lib.hid (HB1.out.trans (hb.mono HB1.out.size))
      clear hb HB1
      go_wp2_with fail
      go_ret
      exact ⟨rfl, HB2.out⟩
end Go.Proofs.Ytnnkebhpmegkfaa
