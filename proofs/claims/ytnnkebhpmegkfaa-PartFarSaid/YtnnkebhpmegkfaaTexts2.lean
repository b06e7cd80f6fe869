/- The walks of part.Slice and list.Merge. -/
import Derived.Test.YtnnkebhpmegkfaaTexts1
import Derived.Test.YtnnkebhpmegkfaaPart7
import Derived.Deep.RegionHeld3
namespace Go.Proofs.Ytnnkebhpmegkfaa
open Go.RowKit Go.Deep
set_option linter.unusedVariables false

theorem infoS : (Try.prog.info? 9).map (fun i => (i.zero, i.size, i.bytes)) = some (some (.string ⟨#[]⟩), 1, 16) := by kernel_rfl
/-- the call hands back a list of texts that is its own -/
def GotT (w : World) (r : List ByteArray) (e : Ending) (w' : World) : Prop := ∃ ao c, e = .returned (.slice ao r.length c) ∧ w'.ownsRow w.heap.size 9 1 (.slice ao r.length c) r.length (r.map Value.string) ∧ Below w.heap.size w w'
def sliceP (ks : List KeyL) (s : Int) (x : ByteArray) : Bool := decide (0 ≤ ofN ks x) && decide (ofN ks x = s)
def sliceL (ks : List KeyL) (l : List ByteArray) (s : Int) : List ByteArray := l.filter (sliceP ks s)
theorem filter_take {α : Type} (p : α → Bool) (l : List α) (k : Nat) (x : α) (h : l[k]? = some x) : (l.take (k + 1)).filter p = (l.take k).filter p ++ (if p x then [x] else []) := by
  rw [List.take_add_one, h, List.filter_append]
  cases hp : p x <;> simp [hp]
set_option maxRecDepth 100000 in
set_option maxHeartbeats 4000000 in
theorem slice_any (a : Option Addr) (n cap : Nat) (ks : List KeyL) (b : Option Addr) (m bc : Nat) (l : List ByteArray) (s : Int) (w : World) (hr : RdE KeyL.cells 2 w a n cap ks) (hl : ks.length ≤ 100) (ht : RdT w b m bc l) (hm : l.length ≤ 1000) (hs : ∀ x ∈ l, x.size ≤ maxLen) :
    Calls Try.prog 40 #[.slice a n cap, .slice b m bc, .int .i64 s] w (GotT w (sliceL ks l s)) := by
  have hn := ht.len
  subst hn
  have hcap := ht.2.1
  have HR := Lib.hid hr
  have HT := Lib.hid ht
  clear hr ht
  obtain ⟨i0, hi, hz0, hz1, hz2⟩ := info_parts infoS
  have HI := Lib.hid hi
  have HZ0 := Lib.hid hz0
  have HZ1 := Lib.hid hz1
  have HZ2 := Lib.hid hz2
  clear hi hz0 hz1 hz2
  go_enter Try.func40, Try.ntmps40
  go_wp2_with fail
  go_loopw [7, 9, 10, 13] (fun o _ _ i wr => ∃ k : Nat, k ≤ l.length ∧ i = .int .i64 k ∧ ∃ ao c q, o = .slice ao q c ∧ RowKit.Hid ((sliceL ks (l.take k) s).length = q) ∧ q ≤ k ∧ RowKit.Hid (wr.ownsRow w.heap.size 9 1 (.slice ao q c) q ((sliceL ks (l.take k) s).map Value.string)) ∧ RowKit.Hid (Below w.heap.size w wr)) (fun _ _ _ i _ => l.length - (intOf i).toNat)
  case atStart => exact ⟨0, by omega, rfl, none, 0, 0, rfl, rfl, by omega, World.ownsRow_nil _ _ _ _, Below.refl _ w⟩
  case round =>
    obtain ⟨k, hk, rfl, ao, c, q, rfl, HQ, hqk, HO, HB⟩ := hrel
    by_cases hlt : k < l.length
    · obtain ⟨tc, hx⟩ : ∃ x, l[k]? = some x := ⟨l[k], List.getElem?_eq_getElem hlt⟩
      obtain ⟨g, off, rfl, hbl, c0⟩ := (HT.out.below HB.out rfl).at hx
      have hsz := hs _ (List.mem_iff_getElem?.2 ⟨k, hx⟩)
      have HL := Lib.hid (fun W hW => of_any a n cap ks tc W hW hl hsz)
      have hft := filter_take (sliceP ks s) l k tc hx
      have hsp : sliceP ks s tc = (decide (0 ≤ ofN ks tc) && decide (ofN ks tc = s)) := rfl
      have HFT := Lib.hid hft
      have HSP := Lib.hid hsp
      clear hft hsp hsz hbl hx
      generalize ofN ks tc = z at HL HSP
      go_wp2_with fail
      refine (HL.out _ (HR.out.below HB.out rfl)).mono ?_
      rintro e w1 ⟨rfl, hb⟩
      have HB2 := Lib.hid (HB.out.trans (hb.mono HB.out.size))
      have HO2 := Lib.hid (ownsRow_below HO.out hb)
      have hz2 := HB2.out.size
      clear hb HB HO
      by_cases h0 : 0 ≤ z
      · by_cases h1 : z = s
        · subst h1
          have hst : RowKit.Hid (sliceL ks (l.take (k + 1)) z = sliceL ks (l.take k) z ++ [tc]) := by
            have hp : sliceP ks z tc = true := by rw [HSP.out]; simp [h0]
            have := HFT.out; rw [hp, if_pos rfl] at this; exact this
          have d0 : decide (0 ≤ z) = true := by simpa using h0
          clear HSP HFT
          go_wp2_with (at_builtin; refine wpList_app rfl _ _ 72 72 rfl w.heap.size 9 i0 (.string ⟨#[]⟩) 1 16 Try.underlying72 HI.out HZ0.out HZ1.out HZ2.out rfl (by decide) ao q c ((sliceL ks (l.take k) z).map Value.string) rfl (HO2.out.alloc _) _ 1 _ rfl (Src.one' Try.underlying72 w1 _ 9 rfl) (by unfold maxLen; omega) (by omega) (by simp; omega) ?_; intro ao2 c2 w2 hown2 hg2; have HO3 := Lib.hid hown2; have HB3 := Lib.hid ((HB2.out.alloc hz2 _).grown hg2 (by simp; omega) (fun k hk => (HO2.out.lt k hk).1)); clear hown2 hg2)
          have hln : RowKit.Hid ((sliceL ks (l.take (k + 1)) z).length = q + 1) := by unfold RowKit.Hid; rw [hst.out, List.length_append, HQ.out]; rfl
          go_roundw
          case rel => exact ⟨k + 1, by omega, by go_num, ao2, c2, q + 1, rfl, hln, by omega, (by rw [hst.out, List.map_append]; exact HO3.out), HB3.out⟩
          case measure => simp [intOf]; omega
        · have hst : RowKit.Hid (sliceL ks (l.take (k + 1)) s = sliceL ks (l.take k) s) := by
            have hp : sliceP ks s tc = false := by rw [HSP.out]; simp [h1]
            have := HFT.out; rw [hp, if_neg (by simp), List.append_nil] at this; exact this
          have d0 : decide (0 ≤ z) = true := by simpa using h0
          have d1 : (z == s) = false := by simpa using h1
          clear HSP HFT
          go_wp2_with fail
          go_roundw
          case rel => exact ⟨k + 1, by omega, by go_num, ao, c, q, rfl, (by rw [hst.out]; exact HQ.out), by omega, (by rw [hst.out]; exact HO2.out), HB2.out⟩
          case measure => simp [intOf]; omega
      · have hst : RowKit.Hid (sliceL ks (l.take (k + 1)) s = sliceL ks (l.take k) s) := by
          have hp : sliceP ks s tc = false := by rw [HSP.out]; simp [h0]
          have := HFT.out; rw [hp, if_neg (by simp), List.append_nil] at this; exact this
        have d0 : decide (0 ≤ z) = false := by simpa using h0
        clear HSP HFT
        go_wp2_with fail
        go_roundw
        case rel => exact ⟨k + 1, by omega, by go_num, ao, c, q, rfl, (by rw [hst.out]; exact HQ.out), by omega, (by rw [hst.out]; exact HO2.out), HB2.out⟩
        case measure => simp [intOf]; omega
    · obtain rfl : k = l.length := by omega
      rw [List.take_length] at HQ HO
      have hq := HQ.out
      subst hq
      clear HQ
      go_wp2_with fail
      go_ret
      exact ⟨ao, c, rfl, HO.out, HB.out⟩
end Go.Proofs.Ytnnkebhpmegkfaa
