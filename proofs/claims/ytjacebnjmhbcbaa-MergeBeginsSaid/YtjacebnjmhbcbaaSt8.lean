/- rank.Sort; the plain sorted list. -/
import Derived.Test.YtjacebnjmhbcbaaSt7
import Derived.Test.YtjacebnjmhbcbaaItems
namespace Go.Proofs.Ytjacebnjmhbcbaa
open Go.RowKit
set_option linter.unusedVariables false

def putL : List KeyL → KeyL → List KeyL
  | [], x => [x]
  | y :: r, x => if kless x y = true then x :: y :: r else y :: putL r x
def sortL (l : List KeyL) : List KeyL := l.foldl putL []
theorem putL_perm : ∀ (l : List KeyL) (x : KeyL), (putL l x).Perm (x :: l)
  | [], x => List.Perm.refl _
  | y :: r, x => by
    unfold putL
    split
    · exact List.Perm.refl _
    · exact ((putL_perm r x).cons y).trans (List.Perm.swap x y r)
theorem foldl_perm : ∀ (l acc : List KeyL), (l.foldl putL acc).Perm (l ++ acc)
  | [], acc => List.Perm.refl _
  | x :: r, acc => by
    rw [List.foldl_cons]
    refine (foldl_perm r (putL acc x)).trans ?_
    refine ((putL_perm acc x).append_left r).trans ?_
    exact List.perm_middle
theorem sortL_perm (l : List KeyL) : (sortL l).Perm l := by have := foldl_perm l []; rwa [List.append_nil] at this
def leI (x y : KeyL) : Prop := kless y x = false
theorem putL_sorted : ∀ (l : List KeyL) (x : KeyL), l.Pairwise leI → (putL l x).Pairwise leI
  | [], x, _ => by simp [putL]
  | y :: r, x, h => by
    have h1 := List.pairwise_cons.1 h
    unfold putL
    split
    · rename_i hl
      refine List.pairwise_cons.2 ⟨fun z hz => ?_, h⟩
      rcases List.mem_cons.1 hz with rfl | hz
      · exact kless_asym hl
      · exact kless_ord.trans x y z (kless_asym hl) (h1.1 z hz)
    · rename_i hl
      have hl' : kless x y = false := by simpa using hl
      refine List.pairwise_cons.2 ⟨fun z hz => ?_, putL_sorted r x h1.2⟩
      rcases List.mem_cons.1 ((putL_perm r x).mem_iff.1 hz) with rfl | hz
      · exact hl'
      · exact h1.1 z hz
theorem foldl_sorted : ∀ (l acc : List KeyL), acc.Pairwise leI → (l.foldl putL acc).Pairwise leI
  | [], acc, h => h
  | x :: r, acc, h => foldl_sorted r (putL acc x) (putL_sorted acc x h)
theorem sortL_sorted (l : List KeyL) : (sortL l).Pairwise leI := foldl_sorted l [] List.Pairwise.nil
/-- there is one list in order of the same items -/
theorem sorted_one {l k : List KeyL} (h1 : l.Pairwise leI) (h2 : k.Pairwise leI) (hp : l.Perm k) : l = k :=
  List.Perm.eq_of_pairwise (le := leI) (fun a b _ _ h k => kless_tri k h) h1 h2 hp
theorem sortL_of {l k : List KeyL} (h1 : k.Pairwise leI) (hp : k.Perm l) : k = sortL l := sorted_one h1 (sortL_sorted l) (hp.trans (sortL_perm l).symm)
theorem sortL_len (l : List KeyL) : (sortL l).length = l.length := (sortL_perm l).length_eq
theorem sortL_mem {l : List KeyL} {x : KeyL} : x ∈ sortL l ↔ x ∈ l := (sortL_perm l).mem_iff
theorem row_sorted {E : Nat → KeyL} {n : Nat} (h : Srt kless E 0 n) : (row E n).Pairwise leI := by
  rw [List.pairwise_iff_getElem]
  intro i j hi hj hij
  simp only [row_len] at hi hj
  have e1 : (row E n)[i] = E i := by simp [row]
  have e2 : (row E n)[j] = E j := by simp [row]
  rw [e1, e2]
  exact h i j (Nat.zero_le _) hij hj
/-- a list as a function of its places -/
def funI (l : List KeyL) : Nat → KeyL := fun k => l.getD k (0, ⟨#[]⟩)
theorem row_fun (l : List KeyL) : row (funI l) l.length = l := by
  apply List.ext_getElem?
  intro k
  by_cases h : k < l.length
  · rw [row_get _ _ _ h, List.getElem?_eq_getElem h]
    unfold funI
    rw [List.getD_eq_getElem?_getD, List.getElem?_eq_getElem h]; rfl
  · rw [List.getElem?_eq_none (by rw [row_len]; omega), List.getElem?_eq_none (by omega)]
theorem HI_row {w : World} {g n : Nat} {E : Nat → KeyL} {sp : List Value} : HI w g n E sp ↔ Blk w g 31 ((row E n).flatMap KeyL.cells ++ sp) := by
  unfold HI row
  rw [List.flatMap_map]
set_option maxRecDepth 100000 in
theorem insert_zero (a : Option Addr) (c : Nat) (w : World) (v : Value) :
    Calls Try.prog 67 #[.slice a 0 c, .int .i64 0, .int .i64 0, v] w fun e w' => e = .returned (.tuple #[]) ∧ w = w' := by
  go_enter Try.func67, Try.ntmps67
  go_wp2_with fail
  go_loop [8] (fun v => v = .int .i64 1) (fun _ => 0)
  case atStart => rfl
  case round =>
    obtain rfl := hrel
    go_wp2_with fail
    go_end0
    exact ⟨rfl, rfl⟩
set_option maxRecDepth 100000 in
theorem stable_zero (a : Option Addr) (c : Nat) (w : World) (v : Value) :
    Calls Try.prog 52 #[.slice a 0 c, v] w fun e w' => e = .returned (.tuple #[]) ∧ w = w' := by
  have HS : RowKit.Hid (Calls Try.prog 61 #[.slice a 0 c, .int .i64 0, v] w fun e w' => e = .returned (.tuple #[]) ∧ w = w') := by
    unfold RowKit.Hid
    have HI := Lib.hid (insert_zero a c w v)
    go_enter Try.func61, Try.ntmps61
    go_wp2_with fail
    go_loop [7, 8] (fun v7 v8 => v7 = .int .i64 0 ∧ v8 = .int .i64 20) (fun _ _ => 0)
    case atStart => exact ⟨rfl, rfl⟩
    case round =>
      obtain ⟨rfl, rfl⟩ := hrel
      go_wp2_with fail
      refine HI.out.mono ?_
      rintro e w1 ⟨rfl, rfl⟩
      go_wp2_with fail
      go_loop [6] (fun v => v = .int .i64 20) (fun _ => 0)
      case atStart => rfl
      case round =>
        obtain rfl := hrel
        go_wp2_with fail
        go_end0
        exact ⟨rfl, rfl⟩
  go_enter Try.func52, Try.ntmps52
  go_wp2_with fail
  refine HS.out.mono ?_
  rintro e w1 ⟨rfl, rfl⟩
  go_wp2_with fail
  go_end0
  exact ⟨rfl, rfl⟩
theorem blk_own {w : World} {base g n c : Nat} {e : TypeId} {size : Nat} {xs sp : List Value} (h : Blk w g e (xs ++ sp)) (h1 : xs.length = n * size) (h2 : sp.length + n * size = c * size) (h3 : n ≤ c) (h4 : c ≤ maxLen) (h5 : base ≤ g) : w.ownsRow base e size (.slice (some ⟨g, 0, none⟩) n c) n xs := by
  refine ⟨h1, .inr ⟨g, c, (xs ++ sp).toArray, rfl, h5, h, h3, h4, by simp; omega, ?_⟩⟩
  rw [← h1]; simp
/-- what is handed back is the call's own, and reads so -/
def OwnI (w : World) (l : List KeyL) (e : Ending) (w' : World) : Prop := ∃ ao c, e = .returned (.slice ao l.length c) ∧ w'.ownsRow w.heap.size 31 2 (.slice ao l.length c) l.length (l.flatMap KeyL.cells) ∧ Below w.heap.size w w'
set_option maxRecDepth 100000 in
set_option maxHeartbeats 2000000 in
theorem rsort_any (w : World) (ao : Option Addr) (n c : Nat) (l : List KeyL) (h : RdE KeyL.cells 2 w ao n c l) (hn : n ≤ 1000) :
    Calls Try.prog 32 #[.slice ao n c] w fun e w' => OwnI w (sortL l) e w' := by
  have hl := h.1
  have HC := Lib.hid (cloneI_any w ao n c l h hn)
  have HSS := Lib.hid (fun g c D sp w h => sortStable_any g n c D sp w h (by omega))
  have HZ := Lib.hid (fun a c w v => stable_zero a c w v)
  have HL := Lib.hid hl
  clear h hl
  unfold cmpV at HSS
  go_enter Try.func32, Try.ntmps32
  go_wp2_with fail
  refine HC.out.mono ?_
  rintro e w1 ⟨a1, c1, rfl, hown, hb⟩
  have HO := Lib.hid hown
  have HB := Lib.hid hb
  clear hown hb HC
  by_cases h0 : n = 0
  · subst h0
    go_wp2_with fail
    refine (HZ.out _ _ _ _).mono ?_
    rintro e w2 ⟨rfl, rfl⟩
    have HR := Lib.hid (show OwnI w (sortL l) (.returned (.slice a1 0 c1)) w1 from by
      obtain rfl := List.eq_nil_of_length_eq_zero HL.out
      exact ⟨a1, c1, rfl, HO.out, HB.out⟩)
    go_wp2_with fail
    go_ret
    exact HR.out
  · obtain ⟨g, rfl, hg⟩ := ownsRow_some HO.out (by omega)
    obtain ⟨sp, hsp, hbk⟩ := ownsRow_blk HO.out
    have hr := ownsRow_rdE (enc := KeyL.cells) (fun _ => rfl) HL.out HO.out
    have h1 := hr.2.1
    have h2 := hr.2.2.1
    have HK := Lib.hid (show HI w1 g n (funI l) sp from HI_row.2 (by rw [← HL.out, row_fun]; exact hbk))
    have HSP := Lib.hid hsp
    have HR2 := Lib.hid h2
    clear hr hsp hbk h2
    go_wp2_with fail
    refine (HSS.out g c1 (funI l) sp w1 HK.out).mono ?_
    rintro e w2 ⟨rfl, E, hh, hf, hsg, hsr⟩
    have HR := Lib.hid (show OwnI w (sortL l) (.returned (.slice (some ⟨g, 0, none⟩) n c1)) w2 from by
      have e1 : row E n = sortL l := sortL_of (row_sorted hsr) (by have := hsg.perm n (Nat.le_refl n); rw [← HL.out] at this ⊢; rwa [row_fun] at this)
      have e2 : (sortL l).length = n := by rw [sortL_len, HL.out]
      refine ⟨some ⟨g, 0, none⟩, c1, by rw [e2], ?_, HB.out.trans (hf.toBelow HB.out.size (fun i hi e => by omega))⟩
      rw [e2, ← e1]
      exact blk_own (HI_row.1 hh) (by rw [ilen, row_len]) HSP.out h1 HR2.out hg)
    clear hh hf hsg hsr
    go_wp2_with fail
    go_ret
    exact HR.out
end Go.Proofs.Ytjacebnjmhbcbaa
