/- The walks of code.PutText, of the document's PutText, and of OverBytes. -/
import Derived.Test.YtjhkdbcfkaaffaaCode4
namespace Go.Proofs.Ytjhkdbcfkaaffaa
open Go.RowKit
set_option linter.unusedVariables false

def cutN (s : ByteArray) : Nat := min s.size 65535
def putTextL (l : List Nat) (s : ByteArray) : List Nat := putL l (cutN s) 2 ++ (bytesN s).take (cutN s)
set_option maxRecDepth 100000 in
theorem bytesN_extract (s : ByteArray) (q : Nat) (h : q ≤ s.size) : bytesN (s.extract 0 q) = (bytesN s).take q := by
  unfold bytesN
  rw [ByteArray.data_extract, Array.toList_extract, List.map_take]
  simp
set_option maxRecDepth 100000 in
theorem size_extract0 (s : ByteArray) (q : Nat) (h : q ≤ s.size) : (s.extract 0 q).size = q := by
  rw [ByteArray.size_extract]; omega

set_option maxRecDepth 100000 in
set_option maxHeartbeats 800000 in
theorem puttext_any (a : Option Addr) (n cap : Nat) (l : List Nat) (s : ByteArray) (w : World) (hr : Rd w a n cap (u8s l)) (hn9 : n ≤ 1000000) (hs9 : s.size ≤ 1000000000000) :
    Calls Try.prog 35 #[.slice a n cap, .string s] w fun e w' => OwnR w w' (u8s (putTextL l s)) e := by
  obtain ⟨i0, hi, hz0, hz1, hz2⟩ := info_parts info5
  have HI := Lib.hid hi
  have HZ0 := Lib.hid hz0
  have HZ1 := Lib.hid hz1
  have HZ2 : RowKit.Hid (i0.bytes = 1) := hz2
  have hn := hr.1
  rw [u8s_length] at hn
  subst hn
  obtain ⟨q, hq⟩ : ∃ q, q = cutN s := ⟨_, rfl⟩
  have HQ := Lib.hid hq
  have hq1 : q ≤ 65535 := by rw [hq]; unfold cutN; omega
  have hq2 : q ≤ s.size := by rw [hq]; unfold cutN; omega
  have h1 : (if (65535 : Int) < (s.size : Int) then (65535 : Int) else (s.size : Int)) = (q : Int) := by rw [hq]; unfold cutN; split <;> omega
  have hxs := size_extract0 s q hq2
  have HXB := Lib.hid (bytesN_extract s q hq2)
  obtain ⟨x, hx⟩ : ∃ x, x = s.extract 0 q := ⟨_, rfl⟩
  have hxe : s.extract 0 q = x := hx.symm
  rw [hxe] at hxs HXB
  have HXS := Lib.hid hxs
  have HP := Lib.hid (put_any a l.length cap l (q : Int) 2 w hr (by omega) (by omega) (by omega))
  have HLEN : RowKit.Hid ((u8s (putL l (q : Int) 2)).length = l.length + 2) := by
    unfold RowKit.Hid; rw [u8s_length]; simp [putL, be_length]; rfl
  clear hi hz0 hz1 hz2 hr hq hx hxs
  go_enter Try.func35, Try.ntmps35
  go_wp2_with fail
  rw [HXS.out]
  refine HP.out.mono ?_
  rintro e w1 ⟨ao, c, rfl, hown, hbel⟩
  rw [HLEN.out] at hown ⊢
  have HO := Lib.hid hown
  have HB := Lib.hid hbel
  have hsz := hbel.size
  clear hown hbel
  go_wp2_with (at_builtin; refine wpList_app rfl _ _ 39 9 rfl w.heap.size 5 i0 (.int .u8 0) 1 1 Try.underlying39 HI.out HZ0.out HZ1.out HZ2.out rfl (by decide) ao (l.length + 2) c (u8s (putL l (q : Int) 2)) rfl HO.out _ q (u8s ((bytesN s).take q)) rfl (by have h9 := Src.ofString (P := Try.prog) (tx := 9) w1 Try.underlying9 x; rw [HXS.out, byteCells_u8s, HXB.out] at h9; exact h9) (by unfold maxLen; omega) (by omega) hsz ?_; intro ao2 c2 w2 hown2 hg2; rw [← u8s_append] at hown2; have HO2 := Lib.hid hown2; have HB2 := Lib.hid (HB.out.grown hg2 hsz (fun k hk => (HO.out.lt k hk).1)); clear hown2 hg2)
  go_ret
  have hlen : (u8s (putTextL l s)).length = l.length + 2 + q := by
    have := HLEN.out
    rw [u8s_length] at this
    rw [u8s_length, putTextL, ← HQ.out, List.length_append, this, List.length_take, bytesN_length, HQ.out]
    unfold cutN; omega
  have he : putL l (q : Int) 2 ++ (bytesN s).take q = putTextL l s := by rw [putTextL, ← HQ.out]
  rw [he] at HO2
  exact ⟨ao2, c2, by rw [hlen]; rfl, by rw [hlen]; exact HO2.out, HB2.out⟩

set_option maxRecDepth 100000 in
set_option maxHeartbeats 800000 in
theorem refputtext_any (a : Option Addr) (n cap : Nat) (l : List Nat) (s : ByteArray) (w : World) (hr : Rd w a n cap (u8s l)) (hn9 : n ≤ 1000000) (hs9 : s.size ≤ 1000000000000) :
    Calls Try.prog 80 #[.slice a n cap, .string s] w fun e w' => OwnR w w' (u8s (putTextL l s)) e := by
  obtain ⟨i0, hi, hz0, hz1, hz2⟩ := info_parts info5
  have HI := Lib.hid hi
  have HZ0 := Lib.hid hz0
  have HZ1 := Lib.hid hz1
  have HZ2 : RowKit.Hid (i0.bytes = 1) := hz2
  have hn := hr.1
  rw [u8s_length] at hn
  subst hn
  obtain ⟨q, hq⟩ : ∃ q, q = cutN s := ⟨_, rfl⟩
  have HQ := Lib.hid hq
  have hq1 : q ≤ 65535 := by rw [hq]; unfold cutN; omega
  have hq2 : q ≤ s.size := by rw [hq]; unfold cutN; omega
  have HP := Lib.hid (refput_any a l.length cap l (q : Int) 2 w hr (by omega) (by omega) (by omega))
  have HLEN : RowKit.Hid ((u8s (putL l (q : Int) 2)).length = l.length + 2) := by
    unfold RowKit.Hid; rw [u8s_length]; simp [putL, be_length]; rfl
  by_cases hbig : 65535 < s.size
  · have hq65 : q = 65535 := by rw [hq]; unfold cutN; omega
    have hxs := size_extract0 s q hq2
    have HXB := Lib.hid (bytesN_extract s q hq2)
    obtain ⟨x, hx⟩ : ∃ x, x = s.extract 0 q := ⟨_, rfl⟩
    rw [← hx] at hxs HXB
    have hxe : s.extract 0 65535 = x := by rw [← hq65]; exact hx.symm
    have HXS := Lib.hid hxs
    clear hi hz0 hz1 hz2 hr hq hx hq65
    go_enter Try.func80, Try.ntmps80
    go_wp2_with fail
    refine HP.out.mono ?_
    rintro e w1 ⟨ao, c, rfl, hown, hbel⟩
    rw [HLEN.out] at hown ⊢
    have HO := Lib.hid hown
    have HB := Lib.hid hbel
    have hsz := hbel.size
    clear hown hbel
    go_wp2_with (first | (refine wpList_conv_bytes rfl _ 9 39 5 rfl Try.underlying9 Try.underlying39 Try.underlying5 x rfl (by omega) ?_; intro c1 w2 hrd2 hb2; rw [HXB.out, HXS.out] at hrd2; have HRD2 := Lib.hid hrd2; have HBB := Lib.hid hb2; have hsz2 := hb2.size; clear hrd2 hb2; rw [HXS.out]) | (at_builtin; refine wpList_app rfl _ _ 39 39 rfl w.heap.size 5 i0 (.int .u8 0) 1 1 Try.underlying39 HI.out HZ0.out HZ1.out HZ2.out rfl (by decide) ao (l.length + 2) c (u8s (putL l (q : Int) 2)) rfl (ownsRow_below HO.out HBB.out) _ q (u8s ((bytesN s).take q)) rfl (Src.ofRd Try.underlying39 HRD2.out (u8s_one _)) (by unfold maxLen; omega) (by omega) (by omega) ?_; intro ao2 c2 w3 hown2 hg2; rw [← u8s_append] at hown2; have HO2 := Lib.hid hown2; have HB2 := Lib.hid ((HB.out.trans (HBB.out.mono hsz)).grown hg2 (by omega) (fun k hk => (HO.out.lt k hk).1)); clear hown2 hg2))
    go_ret
    have hlen : (u8s (putTextL l s)).length = l.length + 2 + q := by
      have := HLEN.out
      rw [u8s_length] at this
      rw [u8s_length, putTextL, ← HQ.out, List.length_append, this, List.length_take, bytesN_length, HQ.out]
      unfold cutN; omega
    have he : putL l (q : Int) 2 ++ (bytesN s).take q = putTextL l s := by rw [putTextL, ← HQ.out]
    rw [he] at HO2
    exact ⟨ao2, c2, by rw [hlen]; rfl, by rw [hlen]; exact HO2.out, HB2.out⟩
  · have hqs : s.size = q := by rw [hq]; unfold cutN; omega
    have HXB : RowKit.Hid (bytesN s = (bytesN s).take q) := by unfold RowKit.Hid; rw [List.take_of_length_le (by rw [bytesN_length]; omega)]
    have HXS := Lib.hid hqs
    clear hi hz0 hz1 hz2 hr hq
    go_enter Try.func80, Try.ntmps80
    go_wp2_with fail
    refine HP.out.mono ?_
    rintro e w1 ⟨ao, c, rfl, hown, hbel⟩
    rw [HLEN.out] at hown ⊢
    have HO := Lib.hid hown
    have HB := Lib.hid hbel
    have hsz := hbel.size
    clear hown hbel
    go_wp2_with (first | (refine wpList_conv_bytes rfl _ 9 39 5 rfl Try.underlying9 Try.underlying39 Try.underlying5 s rfl (by omega) ?_; intro c1 w2 hrd2 hb2; rw [HXB.out, HXS.out] at hrd2; have HRD2 := Lib.hid hrd2; have HBB := Lib.hid hb2; have hsz2 := hb2.size; clear hrd2 hb2; rw [HXS.out]) | (at_builtin; refine wpList_app rfl _ _ 39 39 rfl w.heap.size 5 i0 (.int .u8 0) 1 1 Try.underlying39 HI.out HZ0.out HZ1.out HZ2.out rfl (by decide) ao (l.length + 2) c (u8s (putL l (q : Int) 2)) rfl (ownsRow_below HO.out HBB.out) _ q (u8s ((bytesN s).take q)) rfl (Src.ofRd Try.underlying39 HRD2.out (u8s_one _)) (by unfold maxLen; omega) (by omega) (by omega) ?_; intro ao2 c2 w3 hown2 hg2; rw [← u8s_append] at hown2; have HO2 := Lib.hid hown2; have HB2 := Lib.hid ((HB.out.trans (HBB.out.mono hsz)).grown hg2 (by omega) (fun k hk => (HO.out.lt k hk).1)); clear hown2 hg2))
    go_ret
    have hlen : (u8s (putTextL l s)).length = l.length + 2 + q := by
      have := HLEN.out
      rw [u8s_length] at this
      rw [u8s_length, putTextL, ← HQ.out, List.length_append, this, List.length_take, bytesN_length, HQ.out]
      unfold cutN; omega
    have he : putL l (q : Int) 2 ++ (bytesN s).take q = putTextL l s := by rw [putTextL, ← HQ.out]
    rw [he] at HO2
    exact ⟨ao2, c2, by rw [hlen]; rfl, by rw [hlen]; exact HO2.out, HB2.out⟩
end Go.Proofs.Ytjhkdbcfkaaffaa
