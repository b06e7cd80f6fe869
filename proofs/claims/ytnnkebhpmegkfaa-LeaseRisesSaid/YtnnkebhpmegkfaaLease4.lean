/- The contracts of the two tables of leases in one form each, and the statements' own look (awake). -/
import Derived.Test.YtnnkebhpmegkfaaLease3
namespace Go.Proofs.Ytnnkebhpmegkfaa
open Go.RowKit
set_option linter.unusedVariables false

theorem hello_cases (t : Tab) (v life now : Int) :
    (okHello t v life now = false ∧ t.hello v life now = (t, 0, 2)) ∨ (okHello t v life now = true ∧ life < (t.at v).life ∧ t.hello v life now = (t, 0, 4)) ∨
    (okHello t v life now = true ∧ life = (t.at v).life ∧ t.hello v life now = (t.put v ((t.at v).on (now + t.term)), (t.at v).epoch, 0)) ∨
    (okHello t v life now = true ∧ (t.at v).life < life ∧ t.hello v life now = (t.put v (((t.at v).told life).on (now + t.term)), (t.at v).epoch + 1, 0)) := by
  unfold Tab.hello
  cases h : okHello t v life now with
  | false => exact .inl ⟨rfl, by simp⟩
  | true =>
    refine .inr ?_
    rcases Int.lt_trichotomy life (t.at v).life with h1 | h1 | h1
    · exact .inl ⟨rfl, h1, by simp [h1]⟩
    · refine .inr (.inl ⟨rfl, h1, ?_⟩)
      have h2 : ¬ life < (t.at v).life := by omega
      have h3 : (t.at v).told life = t.at v := by unfold L1.told; rw [if_neg (by omega)]
      simp [h2, h3]
    · refine .inr (.inr ⟨rfl, h1, ?_⟩)
      have h2 : ¬ life < (t.at v).life := by omega
      have h3 : ((t.at v).told life).epoch = (t.at v).epoch + 1 := by unfold L1.told; rw [if_pos h1]
      simp [h2, h3]
theorem seen_cases (t : Tab) (v ep now : Int) :
    (okSeen t v ep now = false ∧ t.seen v ep now = (t, false)) ∨ (okSeen t v ep now = true ∧ t.seen v ep now = (t.put v ((t.at v).on (now + t.term)), true)) := by
  unfold Tab.seen
  cases h : okSeen t v ep now with
  | false => exact .inl ⟨rfl, by simp⟩
  | true => exact .inr ⟨rfl, by simp⟩
theorem hello_any (w : World) (g : Nat) (t : Tab) (v life now : Int) (h : TB w g t) (ho : t.ok) :
    Calls Try.prog 17 #[.pointer (some ⟨g, 0, none⟩), .int .i64 v, .int .i64 life, .int .i64 now] w fun e w' => e = .returned (.tuple #[.int .i64 (t.hello v life now).2.1, .int .i64 (t.hello v life now).2.2]) ∧ TB w' g (t.hello v life now).1 ∧ w.grownBy w' (some g) := by
  rcases hello_cases t v life now with ⟨h1, e⟩ | ⟨h1, h2, e⟩ | ⟨h1, h2, e⟩ | ⟨h1, h2, e⟩
  · rw [e]
    refine (hello_bad w g t v life now h ho h1).mono fun e w' hh => ⟨hh.1, ?_, ?_⟩
    · rw [← hh.2]; exact h
    · rw [← hh.2]; exact World.grownBy.refl _ _
  · rw [e]
    refine (hello_old w g t v life now h ho h1 h2).mono fun e w' hh => ⟨hh.1, ?_, ?_⟩
    · rw [← hh.2]; exact h
    · rw [← hh.2]; exact World.grownBy.refl _ _
  · rw [e]; exact hello_same w g t v life now h ho h1 h2
  · rw [e]; exact hello_new w g t v life now h ho h1 h2
theorem rhello_any (w : World) (g : Nat) (t : Tab) (v life now : Int) (h : RB w g t) (ho : t.ok) :
    Calls Try.prog 25 #[.pointer (some ⟨g, 0, none⟩), .int .i64 v, .int .i64 life, .int .i64 now] w fun e w' => e = .returned (.tuple #[.int .i64 (t.hello v life now).2.1, .int .i64 (t.hello v life now).2.2]) ∧ RB w' g (t.hello v life now).1 ∧ w.grownBy w' (some g) := by
  rcases hello_cases t v life now with ⟨h1, e⟩ | ⟨h1, h2, e⟩ | ⟨h1, h2, e⟩ | ⟨h1, h2, e⟩
  · rw [e]
    refine (rhello_bad w g t v life now h ho h1).mono fun e w' hh => ⟨hh.1, ?_, ?_⟩
    · rw [← hh.2]; exact h
    · rw [← hh.2]; exact World.grownBy.refl _ _
  · rw [e]
    refine (rhello_old w g t v life now h ho h1 h2).mono fun e w' hh => ⟨hh.1, ?_, ?_⟩
    · rw [← hh.2]; exact h
    · rw [← hh.2]; exact World.grownBy.refl _ _
  · rw [e]; exact rhello_same w g t v life now h ho h1 h2
  · rw [e]; exact rhello_new w g t v life now h ho h1 h2
theorem seen_any (w : World) (g : Nat) (t : Tab) (v ep now : Int) (h : TB w g t) (ho : t.ok) :
    Calls Try.prog 21 #[.pointer (some ⟨g, 0, none⟩), .int .i64 v, .int .i64 ep, .int .i64 now] w fun e w' => e = .returned (.bool (t.seen v ep now).2) ∧ TB w' g (t.seen v ep now).1 ∧ w.grownBy w' (some g) := by
  rcases seen_cases t v ep now with ⟨h1, e⟩ | ⟨h1, e⟩
  · rw [e]
    refine (seen_bad w g t v ep now h ho h1).mono fun e w' hh => ⟨hh.1, ?_, ?_⟩
    · rw [← hh.2]; exact h
    · rw [← hh.2]; exact World.grownBy.refl _ _
  · rw [e]; exact seen_good w g t v ep now h ho h1
theorem rseen_any (w : World) (g : Nat) (t : Tab) (v ep now : Int) (h : RB w g t) (ho : t.ok) :
    Calls Try.prog 24 #[.pointer (some ⟨g, 0, none⟩), .int .i64 v, .int .i64 ep, .int .i64 now] w fun e w' => e = .returned (.bool (t.seen v ep now).2) ∧ RB w' g (t.seen v ep now).1 ∧ w.grownBy w' (some g) := by
  rcases seen_cases t v ep now with ⟨h1, e⟩ | ⟨h1, e⟩
  · rw [e]
    refine (rseen_bad w g t v ep now h ho h1).mono fun e w' hh => ⟨hh.1, ?_, ?_⟩
    · rw [← hh.2]; exact h
    · rw [← hh.2]; exact World.grownBy.refl _ _
  · rw [e]; exact rseen_good w g t v ep now h ho h1

theorem Below.of_grown {w w1 w2 : World} {g : Nat} (h : Below w.heap.size w w1) (hg : w1.grownBy w2 (some g)) (hl : w.heap.size ≤ g) : Below w.heap.size w w2 :=
  h.grown hg h.size (fun k hk => by cases hk; exact hl)
def tA : Tab := Tab.new 2 5
def tB : Tab := (tA.hello 1 1 0).1
def tC : Tab := (tB.hello 1 2 6).1
def tD : Tab := (tC.hello 1 1 7).1
set_option maxHeartbeats 800000 in
theorem awake_any (w : World) : Calls Try.prog 14 #[] w fun e w' => e = .returned (.bool true) ∧ Below w.heap.size w w' := by
  have h0 : RowKit.Hid tA.ok := Tab.new_ok 2 5 (by decide) (by decide) (by decide) (by decide)
  have h1 : RowKit.Hid tB.ok := h0.out.hello 1 1 0
  have h2 : RowKit.Hid tC.ok := h1.out.hello 1 2 6
  have h3 : RowKit.Hid tD.ok := h2.out.hello 1 1 7
  have e1 : (tA.hello 1 1 0).2.1 = 1 ∧ (tA.hello 1 1 0).2.2 = 0 := by decide +kernel
  have e2 : (tB.hello 1 2 6).2.1 = 2 ∧ (tB.hello 1 2 6).2.2 = 0 := by decide +kernel
  have e3 : (tC.hello 1 1 7).2.1 = 0 ∧ (tC.hello 1 1 7).2.2 = 4 := by decide +kernel
  have e4 : tD.live 1 11 = true := by decide +kernel
  have e5 : tD.live 1 12 = false := by decide +kernel
  have E1 := Lib.hid e1
  have E2 := Lib.hid e2
  have E3 := Lib.hid e3
  have E4 := Lib.hid e4
  have E5 := Lib.hid e5
  clear e1 e2 e3 e4 e5
  go_enter Try.func14, Try.ntmps14
  go_wp2_with fail
  refine (new_good w 2 5 (by decide) (by decide) (by decide) (by decide)).mono ?_
  rintro e w1 ⟨rfl, htb, hb⟩
  have H1 := Lib.hid htb
  have B1 := Lib.hid hb
  clear htb hb
  go_wp2_with fail
  refine (hello_any w1 w.heap.size tA 1 1 0 H1.out h0.out).mono ?_
  rintro e w2 ⟨rfl, htb, hb⟩
  rw [E1.out.1, E1.out.2]
  have H2 := Lib.hid htb
  have B2 := Lib.hid (Below.of_grown B1.out hb (Nat.le_refl _))
  clear htb hb
  go_wp2_with fail
  refine (hello_any w2 w.heap.size tB 1 2 6 H2.out h1.out).mono ?_
  rintro e w3 ⟨rfl, htb, hb⟩
  rw [E2.out.1, E2.out.2]
  have H3 := Lib.hid htb
  have B3 := Lib.hid (Below.of_grown B2.out hb (Nat.le_refl _))
  clear htb hb
  go_wp2_with fail
  refine (hello_any w3 w.heap.size tC 1 1 7 H3.out h2.out).mono ?_
  rintro e w4 ⟨rfl, htb, hb⟩
  rw [E3.out.1, E3.out.2]
  have H4 := Lib.hid htb
  have B4 := Lib.hid (Below.of_grown B3.out hb (Nat.le_refl _))
  clear htb hb
  go_wp2_with fail
  refine (live_any w4 w.heap.size tD 1 11 H4.out h3.out).mono ?_
  rintro e w' ⟨rfl, rfl⟩
  rw [E4.out]
  go_wp2_with fail
  refine (live_any w4 w.heap.size tD 1 12 H4.out h3.out).mono ?_
  rintro e w' ⟨rfl, rfl⟩
  rw [E5.out]
  go_wp2_with fail
  go_ret
  exact ⟨rfl, B4.out⟩
end Go.Proofs.Ytnnkebhpmegkfaa
