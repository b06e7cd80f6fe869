/- The walk of the document's 'one': a rune at a place. -/
import Derived.Test.YtjhkdbcfkaaffaaRef1
namespace Go.Proofs.Ytjhkdbcfkaaffaa
open Go.RowKit
set_option linter.unusedVariables false

def oneP (s : ByteArray) (i : Nat) : Nat × Nat := oneN (s.size - i) (byteN s i) (byteN s (i + 1)) (byteN s (i + 2)) (byteN s (i + 3))
set_option maxRecDepth 100000 in
theorem moreB_goes (s : ByteArray) (i k : Nat) : moreB s (i + k) = decide (goesOn (s.size - i) k (byteN s (i + k))) := by
  unfold moreB goesOn
  exact decide_eq_decide.2 (by omega)
set_option maxRecDepth 100000 in
theorem oneP_decode (s : ByteArray) (i : Nat) : (takenN (oneP s i) → Utf8.decode s i = oneP s i ∧ (Utf8.decode s i).1 ≠ 65533) ∧ (¬ takenN (oneP s i) → (Utf8.decode s i).1 = 65533) := by
  rw [Lib.decode_at]
  exact one_decode _ _ _ _ _ (byteN_lt s i) (byteN_lt s (i + 1)) (byteN_lt s (i + 2)) (byteN_lt s (i + 3))
set_option maxRecDepth 100000 in
set_option maxHeartbeats 4000000 in
theorem one_any (s : ByteArray) (i : Nat) (w : World) (hs : s.size ≤ 1000000) (hi : i < s.size) :
    Calls Try.prog 96 #[.string s, .int .i64 i] w fun e w' => e = .returned (.tuple #[.int .i32 ((oneP s i).1 : Int), .int .i64 ((oneP s i).2 : Int)]) ∧ w = w' := by
  have hix : ∀ w, (Instr.index 9 (.string s) (.int .i64 i)).run Try.prog w = .ok (.int .u8 (byteN s i)) w := fun w => by
    rw [run_index_string w _ _ _ _ Try.underlying9]; simp [hi, byteN_at s i hi]
  have M1 := Lib.hid (fun W => more_any s (i + 1) W hs (by omega))
  have M2 := Lib.hid (fun W => more_any s (i + 2) W hs (by omega))
  have M3 := Lib.hid (fun W => more_any s (i + 3) W hs (by omega))
  have g1 := moreB_goes s i 1
  have g2 := moreB_goes s i 2
  have g3 := moreB_goes s i 3
  have hc := byteN_lt s i
  have hb1 := byteN_lt s (i + 1)
  have hb2 := byteN_lt s (i + 2)
  have hb3 := byteN_lt s (i + 3)
  have a1 : moreR s (i + 1) = if moreB s (i + 1) = true then (byteN s (i + 1) : Int) - 128 else 0 := rfl
  have a2 : moreR s (i + 2) = if moreB s (i + 2) = true then (byteN s (i + 2) : Int) - 128 else 0 := rfl
  have a3 : moreR s (i + 3) = if moreB s (i + 3) = true then (byteN s (i + 3) : Int) - 128 else 0 := rfl
  unfold oneP
  generalize byteN s i = c at *
  generalize byteN s (i + 1) = b1 at *
  generalize byteN s (i + 2) = b2 at *
  generalize byteN s (i + 3) = b3 at *
  generalize moreR s (i + 1) = r1 at *
  generalize moreR s (i + 2) = r2 at *
  generalize moreR s (i + 3) = r3 at *
  generalize moreB s (i + 1) = x1 at *
  generalize moreB s (i + 2) = x2 at *
  generalize moreB s (i + 3) = x3 at *
  rw [show ((i + 1 : Nat) : Int) = (i : Int) + 1 from by omega] at M1
  rw [show ((i + 2 : Nat) : Int) = (i : Int) + 2 from by omega] at M2
  rw [show ((i + 3 : Nat) : Int) = (i : Int) + 3 from by omega] at M3
  obtain ⟨o, ho⟩ : ∃ o, oneN (s.size - i) c b1 b2 b3 = o := ⟨_, rfl⟩
  have HO := Lib.hid ho
  rw [ho]
  clear ho
  obtain ⟨orr, on⟩ := o
  by_cases c0 : c < 128
  ·
    have hq := True.intro
    have HE : oneN (s.size - i) c b1 b2 b3 = (c, 1) := by unfold oneN; rw [if_pos c0]
    have HE2 := HO.out.symm.trans HE
    simp only [Prod.mk.injEq] at HE2
    obtain ⟨e1, e2⟩ := HE2
    obtain rfl : on = 1 := e2
    have e3 : (orr : Int) = (c : Int) := by omega
    simp only [show ((orr : Nat) : Int) = (c : Int) from e3]
    clear e1 e3 HE HO hq
    have d0 : decide ((c : Int) < 128) = true := by simp; omega
    have d1 : decide (194 ≤ (c : Int)) = false := by simp; omega
    have d2 : decide ((c : Int) ≤ 223) = true := by simp; omega
    have d3 : decide (224 ≤ (c : Int)) = false := by simp; omega
    have d4 : decide ((c : Int) ≤ 239) = true := by simp; omega
    have d5 : decide (240 ≤ (c : Int)) = false := by simp; omega
    have d6 : decide ((c : Int) ≤ 244) = true := by simp; omega
    try clear a1
    try clear a2
    try clear a3
    clear g1 g2 g3
    try clear n1 m1
    try clear n1
    try clear n2 m2
    try clear n2
    try clear n3 m3
    try clear n3
    go_enter Try.func96, Try.ntmps96
    go_wp2_with fail
    refine (M1.out _).mono ?_
    rintro e w' ⟨rfl, rfl⟩
    go_wp2_with fail
    refine (M2.out _).mono ?_
    rintro e w' ⟨rfl, rfl⟩
    go_wp2_with fail
    refine (M3.out _).mono ?_
    rintro e w' ⟨rfl, rfl⟩
    go_wp2_with fail
    go_ret2
    exact ⟨rfl, rfl⟩
  ·
    by_cases c1 : c < 194
    ·
      have hq := True.intro
      have HE : oneN (s.size - i) c b1 b2 b3 = (0, 0) := by unfold oneN; rw [if_neg c0, if_neg (by omega), if_neg (by omega), if_neg (by omega)]
      have HE2 := HO.out.symm.trans HE
      simp only [Prod.mk.injEq] at HE2
      obtain ⟨e1, e2⟩ := HE2
      obtain rfl : on = 0 := e2
      have e3 : (orr : Int) = 0 := by omega
      simp only [show ((orr : Nat) : Int) = 0 from e3]
      clear e1 e3 HE HO hq
      have d0 : decide ((c : Int) < 128) = false := by simp; omega
      have d1 : decide (194 ≤ (c : Int)) = false := by simp; omega
      have d2 : decide ((c : Int) ≤ 223) = true := by simp; omega
      have d3 : decide (224 ≤ (c : Int)) = false := by simp; omega
      have d4 : decide ((c : Int) ≤ 239) = true := by simp; omega
      have d5 : decide (240 ≤ (c : Int)) = false := by simp; omega
      have d6 : decide ((c : Int) ≤ 244) = true := by simp; omega
      try clear a1
      try clear a2
      try clear a3
      clear g1 g2 g3
      try clear n1 m1
      try clear n1
      try clear n2 m2
      try clear n2
      try clear n3 m3
      try clear n3
      go_enter Try.func96, Try.ntmps96
      go_wp2_with fail
      refine (M1.out _).mono ?_
      rintro e w' ⟨rfl, rfl⟩
      go_wp2_with fail
      refine (M2.out _).mono ?_
      rintro e w' ⟨rfl, rfl⟩
      go_wp2_with fail
      refine (M3.out _).mono ?_
      rintro e w' ⟨rfl, rfl⟩
      go_wp2_with fail
      go_ret2
      exact ⟨rfl, rfl⟩
    ·
      by_cases c2 : c ≤ 223
      ·
        cases x1
        case false =>
          have n1 : ¬ goesOn (s.size - i) 1 b1 := of_decide_eq_false g1.symm
          have hq := True.intro
          have HE : oneN (s.size - i) c b1 b2 b3 = (0, 0) := by unfold oneN; rw [if_neg c0, if_neg (fun h => n1 h.2.2), if_neg (by omega), if_neg (by omega)]
          have HE2 := HO.out.symm.trans HE
          simp only [Prod.mk.injEq] at HE2
          obtain ⟨e1, e2⟩ := HE2
          obtain rfl : on = 0 := e2
          have e3 : (orr : Int) = 0 := by omega
          simp only [show ((orr : Nat) : Int) = 0 from e3]
          clear e1 e3 HE HO hq
          have d0 : decide ((c : Int) < 128) = false := by simp; omega
          have d1 : decide (194 ≤ (c : Int)) = true := by simp; omega
          have d2 : decide ((c : Int) ≤ 223) = true := by simp; omega
          have d3 : decide (224 ≤ (c : Int)) = false := by simp; omega
          have d4 : decide ((c : Int) ≤ 239) = true := by simp; omega
          have d5 : decide (240 ≤ (c : Int)) = false := by simp; omega
          have d6 : decide ((c : Int) ≤ 244) = true := by simp; omega
          try clear a1
          try clear a2
          try clear a3
          clear g1 g2 g3
          try clear n1 m1
          try clear n1
          try clear n2 m2
          try clear n2
          try clear n3 m3
          try clear n3
          go_enter Try.func96, Try.ntmps96
          go_wp2_with fail
          refine (M1.out _).mono ?_
          rintro e w' ⟨rfl, rfl⟩
          go_wp2_with fail
          refine (M2.out _).mono ?_
          rintro e w' ⟨rfl, rfl⟩
          go_wp2_with fail
          refine (M3.out _).mono ?_
          rintro e w' ⟨rfl, rfl⟩
          go_wp2_with fail
          go_ret2
          exact ⟨rfl, rfl⟩
        case true =>
          have n1 : goesOn (s.size - i) 1 b1 := of_decide_eq_true g1.symm
          rw [if_pos rfl] at a1
          have m1 := n1
          unfold goesOn at m1
          have q1 : 0 ≤ r1 ∧ r1 ≤ 63 := by omega
          obtain ⟨q11, q12⟩ := q1
          have hq := True.intro
          have HE : oneN (s.size - i) c b1 b2 b3 = ((c - 192) * 64 + (b1 - 128), 2) := by unfold oneN; rw [if_neg c0, if_pos ⟨by omega, c2, n1⟩]
          have HE2 := HO.out.symm.trans HE
          simp only [Prod.mk.injEq] at HE2
          obtain ⟨e1, e2⟩ := HE2
          obtain rfl : on = 2 := e2
          have e3 : (orr : Int) = ((c : Int) - 192) * 64 + r1 := by omega
          simp only [show ((orr : Nat) : Int) = ((c : Int) - 192) * 64 + r1 from e3]
          clear e1 e3 HE HO hq
          have d0 : decide ((c : Int) < 128) = false := by simp; omega
          have d1 : decide (194 ≤ (c : Int)) = true := by simp; omega
          have d2 : decide ((c : Int) ≤ 223) = true := by simp; omega
          have d3 : decide (224 ≤ (c : Int)) = false := by simp; omega
          have d4 : decide ((c : Int) ≤ 239) = true := by simp; omega
          have d5 : decide (240 ≤ (c : Int)) = false := by simp; omega
          have d6 : decide ((c : Int) ≤ 244) = true := by simp; omega
          try clear a1
          try clear a2
          try clear a3
          clear g1 g2 g3
          try clear n1 m1
          try clear n1
          try clear n2 m2
          try clear n2
          try clear n3 m3
          try clear n3
          go_enter Try.func96, Try.ntmps96
          go_wp2_with fail
          refine (M1.out _).mono ?_
          rintro e w' ⟨rfl, rfl⟩
          go_wp2_with fail
          refine (M2.out _).mono ?_
          rintro e w' ⟨rfl, rfl⟩
          go_wp2_with fail
          refine (M3.out _).mono ?_
          rintro e w' ⟨rfl, rfl⟩
          go_wp2_with fail
          go_ret2
          exact ⟨rfl, rfl⟩
      ·
        by_cases c3 : c ≤ 239
        ·
          cases x1
          case false =>
            have n1 : ¬ goesOn (s.size - i) 1 b1 := of_decide_eq_false g1.symm
            have hq := True.intro
            have HE : oneN (s.size - i) c b1 b2 b3 = (0, 0) := by unfold oneN; rw [if_neg c0, if_neg (by omega), if_neg (fun h => n1 h.2.2.1), if_neg (by omega)]
            have HE2 := HO.out.symm.trans HE
            simp only [Prod.mk.injEq] at HE2
            obtain ⟨e1, e2⟩ := HE2
            obtain rfl : on = 0 := e2
            have e3 : (orr : Int) = 0 := by omega
            simp only [show ((orr : Nat) : Int) = 0 from e3]
            clear e1 e3 HE HO hq
            have d0 : decide ((c : Int) < 128) = false := by simp; omega
            have d1 : decide (194 ≤ (c : Int)) = true := by simp; omega
            have d2 : decide ((c : Int) ≤ 223) = false := by simp; omega
            have d3 : decide (224 ≤ (c : Int)) = true := by simp; omega
            have d4 : decide ((c : Int) ≤ 239) = true := by simp; omega
            have d5 : decide (240 ≤ (c : Int)) = false := by simp; omega
            have d6 : decide ((c : Int) ≤ 244) = true := by simp; omega
            try clear a1
            try clear a2
            try clear a3
            clear g1 g2 g3
            try clear n1 m1
            try clear n1
            try clear n2 m2
            try clear n2
            try clear n3 m3
            try clear n3
            go_enter Try.func96, Try.ntmps96
            go_wp2_with fail
            refine (M1.out _).mono ?_
            rintro e w' ⟨rfl, rfl⟩
            go_wp2_with fail
            refine (M2.out _).mono ?_
            rintro e w' ⟨rfl, rfl⟩
            go_wp2_with fail
            refine (M3.out _).mono ?_
            rintro e w' ⟨rfl, rfl⟩
            go_wp2_with fail
            go_ret2
            exact ⟨rfl, rfl⟩
          case true =>
            have n1 : goesOn (s.size - i) 1 b1 := of_decide_eq_true g1.symm
            rw [if_pos rfl] at a1
            have m1 := n1
            unfold goesOn at m1
            have q1 : 0 ≤ r1 ∧ r1 ≤ 63 := by omega
            obtain ⟨q11, q12⟩ := q1
            cases x2
            case false =>
              have n2 : ¬ goesOn (s.size - i) 2 b2 := of_decide_eq_false g2.symm
              have hq := True.intro
              have HE : oneN (s.size - i) c b1 b2 b3 = (0, 0) := by unfold oneN; rw [if_neg c0, if_neg (by omega), if_neg (fun h => n2 h.2.2.2), if_neg (by omega)]
              have HE2 := HO.out.symm.trans HE
              simp only [Prod.mk.injEq] at HE2
              obtain ⟨e1, e2⟩ := HE2
              obtain rfl : on = 0 := e2
              have e3 : (orr : Int) = 0 := by omega
              simp only [show ((orr : Nat) : Int) = 0 from e3]
              clear e1 e3 HE HO hq
              have d0 : decide ((c : Int) < 128) = false := by simp; omega
              have d1 : decide (194 ≤ (c : Int)) = true := by simp; omega
              have d2 : decide ((c : Int) ≤ 223) = false := by simp; omega
              have d3 : decide (224 ≤ (c : Int)) = true := by simp; omega
              have d4 : decide ((c : Int) ≤ 239) = true := by simp; omega
              have d5 : decide (240 ≤ (c : Int)) = false := by simp; omega
              have d6 : decide ((c : Int) ≤ 244) = true := by simp; omega
              try clear a1
              try clear a2
              try clear a3
              clear g1 g2 g3
              try clear n1 m1
              try clear n1
              try clear n2 m2
              try clear n2
              try clear n3 m3
              try clear n3
              go_enter Try.func96, Try.ntmps96
              go_wp2_with fail
              refine (M1.out _).mono ?_
              rintro e w' ⟨rfl, rfl⟩
              go_wp2_with fail
              refine (M2.out _).mono ?_
              rintro e w' ⟨rfl, rfl⟩
              go_wp2_with fail
              refine (M3.out _).mono ?_
              rintro e w' ⟨rfl, rfl⟩
              go_wp2_with fail
              go_ret2
              exact ⟨rfl, rfl⟩
            case true =>
              have n2 : goesOn (s.size - i) 2 b2 := of_decide_eq_true g2.symm
              rw [if_pos rfl] at a2
              have m2 := n2
              unfold goesOn at m2
              have q2 : 0 ≤ r2 ∧ r2 ≤ 63 := by omega
              obtain ⟨q21, q22⟩ := q2
              have hq := True.intro
              have HE : oneN (s.size - i) c b1 b2 b3 = ((c - 224) * 4096 + (b1 - 128) * 64 + (b2 - 128), 3) := by unfold oneN; rw [if_neg c0, if_neg (by omega), if_pos ⟨by omega, c3, n1, n2⟩]
              have HE2 := HO.out.symm.trans HE
              simp only [Prod.mk.injEq] at HE2
              obtain ⟨e1, e2⟩ := HE2
              obtain rfl : on = 3 := e2
              have e3 : (orr : Int) = ((c : Int) - 224) * 4096 + r1 * 64 + r2 := by omega
              simp only [show ((orr : Nat) : Int) = ((c : Int) - 224) * 4096 + r1 * 64 + r2 from e3]
              clear e1 e3 HE HO hq
              have d0 : decide ((c : Int) < 128) = false := by simp; omega
              have d1 : decide (194 ≤ (c : Int)) = true := by simp; omega
              have d2 : decide ((c : Int) ≤ 223) = false := by simp; omega
              have d3 : decide (224 ≤ (c : Int)) = true := by simp; omega
              have d4 : decide ((c : Int) ≤ 239) = true := by simp; omega
              have d5 : decide (240 ≤ (c : Int)) = false := by simp; omega
              have d6 : decide ((c : Int) ≤ 244) = true := by simp; omega
              try clear a1
              try clear a2
              try clear a3
              clear g1 g2 g3
              try clear n1 m1
              try clear n1
              try clear n2 m2
              try clear n2
              try clear n3 m3
              try clear n3
              go_enter Try.func96, Try.ntmps96
              go_wp2_with fail
              refine (M1.out _).mono ?_
              rintro e w' ⟨rfl, rfl⟩
              go_wp2_with fail
              refine (M2.out _).mono ?_
              rintro e w' ⟨rfl, rfl⟩
              go_wp2_with fail
              refine (M3.out _).mono ?_
              rintro e w' ⟨rfl, rfl⟩
              go_wp2_with fail
              go_ret2
              exact ⟨rfl, rfl⟩
        ·
          by_cases c4 : c ≤ 244
          ·
            cases x1
            case false =>
              have n1 : ¬ goesOn (s.size - i) 1 b1 := of_decide_eq_false g1.symm
              have hq := True.intro
              have HE : oneN (s.size - i) c b1 b2 b3 = (0, 0) := by unfold oneN; rw [if_neg c0, if_neg (by omega), if_neg (by omega), if_neg (fun h => n1 h.2.2.1)]
              have HE2 := HO.out.symm.trans HE
              simp only [Prod.mk.injEq] at HE2
              obtain ⟨e1, e2⟩ := HE2
              obtain rfl : on = 0 := e2
              have e3 : (orr : Int) = 0 := by omega
              simp only [show ((orr : Nat) : Int) = 0 from e3]
              clear e1 e3 HE HO hq
              have d0 : decide ((c : Int) < 128) = false := by simp; omega
              have d1 : decide (194 ≤ (c : Int)) = true := by simp; omega
              have d2 : decide ((c : Int) ≤ 223) = false := by simp; omega
              have d3 : decide (224 ≤ (c : Int)) = true := by simp; omega
              have d4 : decide ((c : Int) ≤ 239) = false := by simp; omega
              have d5 : decide (240 ≤ (c : Int)) = true := by simp; omega
              have d6 : decide ((c : Int) ≤ 244) = true := by simp; omega
              try clear a1
              try clear a2
              try clear a3
              clear g1 g2 g3
              try clear n1 m1
              try clear n1
              try clear n2 m2
              try clear n2
              try clear n3 m3
              try clear n3
              go_enter Try.func96, Try.ntmps96
              go_wp2_with fail
              refine (M1.out _).mono ?_
              rintro e w' ⟨rfl, rfl⟩
              go_wp2_with fail
              refine (M2.out _).mono ?_
              rintro e w' ⟨rfl, rfl⟩
              go_wp2_with fail
              refine (M3.out _).mono ?_
              rintro e w' ⟨rfl, rfl⟩
              go_wp2_with fail
              go_ret2
              exact ⟨rfl, rfl⟩
            case true =>
              have n1 : goesOn (s.size - i) 1 b1 := of_decide_eq_true g1.symm
              rw [if_pos rfl] at a1
              have m1 := n1
              unfold goesOn at m1
              have q1 : 0 ≤ r1 ∧ r1 ≤ 63 := by omega
              obtain ⟨q11, q12⟩ := q1
              cases x2
              case false =>
                have n2 : ¬ goesOn (s.size - i) 2 b2 := of_decide_eq_false g2.symm
                have hq := True.intro
                have HE : oneN (s.size - i) c b1 b2 b3 = (0, 0) := by unfold oneN; rw [if_neg c0, if_neg (by omega), if_neg (by omega), if_neg (fun h => n2 h.2.2.2.1)]
                have HE2 := HO.out.symm.trans HE
                simp only [Prod.mk.injEq] at HE2
                obtain ⟨e1, e2⟩ := HE2
                obtain rfl : on = 0 := e2
                have e3 : (orr : Int) = 0 := by omega
                simp only [show ((orr : Nat) : Int) = 0 from e3]
                clear e1 e3 HE HO hq
                have d0 : decide ((c : Int) < 128) = false := by simp; omega
                have d1 : decide (194 ≤ (c : Int)) = true := by simp; omega
                have d2 : decide ((c : Int) ≤ 223) = false := by simp; omega
                have d3 : decide (224 ≤ (c : Int)) = true := by simp; omega
                have d4 : decide ((c : Int) ≤ 239) = false := by simp; omega
                have d5 : decide (240 ≤ (c : Int)) = true := by simp; omega
                have d6 : decide ((c : Int) ≤ 244) = true := by simp; omega
                try clear a1
                try clear a2
                try clear a3
                clear g1 g2 g3
                try clear n1 m1
                try clear n1
                try clear n2 m2
                try clear n2
                try clear n3 m3
                try clear n3
                go_enter Try.func96, Try.ntmps96
                go_wp2_with fail
                refine (M1.out _).mono ?_
                rintro e w' ⟨rfl, rfl⟩
                go_wp2_with fail
                refine (M2.out _).mono ?_
                rintro e w' ⟨rfl, rfl⟩
                go_wp2_with fail
                refine (M3.out _).mono ?_
                rintro e w' ⟨rfl, rfl⟩
                go_wp2_with fail
                go_ret2
                exact ⟨rfl, rfl⟩
              case true =>
                have n2 : goesOn (s.size - i) 2 b2 := of_decide_eq_true g2.symm
                rw [if_pos rfl] at a2
                have m2 := n2
                unfold goesOn at m2
                have q2 : 0 ≤ r2 ∧ r2 ≤ 63 := by omega
                obtain ⟨q21, q22⟩ := q2
                cases x3
                case false =>
                  have n3 : ¬ goesOn (s.size - i) 3 b3 := of_decide_eq_false g3.symm
                  have hq := True.intro
                  have HE : oneN (s.size - i) c b1 b2 b3 = (0, 0) := by unfold oneN; rw [if_neg c0, if_neg (by omega), if_neg (by omega), if_neg (fun h => n3 h.2.2.2.2)]
                  have HE2 := HO.out.symm.trans HE
                  simp only [Prod.mk.injEq] at HE2
                  obtain ⟨e1, e2⟩ := HE2
                  obtain rfl : on = 0 := e2
                  have e3 : (orr : Int) = 0 := by omega
                  simp only [show ((orr : Nat) : Int) = 0 from e3]
                  clear e1 e3 HE HO hq
                  have d0 : decide ((c : Int) < 128) = false := by simp; omega
                  have d1 : decide (194 ≤ (c : Int)) = true := by simp; omega
                  have d2 : decide ((c : Int) ≤ 223) = false := by simp; omega
                  have d3 : decide (224 ≤ (c : Int)) = true := by simp; omega
                  have d4 : decide ((c : Int) ≤ 239) = false := by simp; omega
                  have d5 : decide (240 ≤ (c : Int)) = true := by simp; omega
                  have d6 : decide ((c : Int) ≤ 244) = true := by simp; omega
                  try clear a1
                  try clear a2
                  try clear a3
                  clear g1 g2 g3
                  try clear n1 m1
                  try clear n1
                  try clear n2 m2
                  try clear n2
                  try clear n3 m3
                  try clear n3
                  go_enter Try.func96, Try.ntmps96
                  go_wp2_with fail
                  refine (M1.out _).mono ?_
                  rintro e w' ⟨rfl, rfl⟩
                  go_wp2_with fail
                  refine (M2.out _).mono ?_
                  rintro e w' ⟨rfl, rfl⟩
                  go_wp2_with fail
                  refine (M3.out _).mono ?_
                  rintro e w' ⟨rfl, rfl⟩
                  go_wp2_with fail
                  go_ret2
                  exact ⟨rfl, rfl⟩
                case true =>
                  have n3 : goesOn (s.size - i) 3 b3 := of_decide_eq_true g3.symm
                  rw [if_pos rfl] at a3
                  have m3 := n3
                  unfold goesOn at m3
                  have q3 : 0 ≤ r3 ∧ r3 ≤ 63 := by omega
                  obtain ⟨q31, q32⟩ := q3
                  have hq := True.intro
                  have HE : oneN (s.size - i) c b1 b2 b3 = ((c - 240) * 262144 + (b1 - 128) * 4096 + (b2 - 128) * 64 + (b3 - 128), 4) := by unfold oneN; rw [if_neg c0, if_neg (by omega), if_neg (by omega), if_pos ⟨by omega, c4, n1, n2, n3⟩]
                  have HE2 := HO.out.symm.trans HE
                  simp only [Prod.mk.injEq] at HE2
                  obtain ⟨e1, e2⟩ := HE2
                  obtain rfl : on = 4 := e2
                  have e3 : (orr : Int) = ((c : Int) - 240) * 262144 + r1 * 4096 + r2 * 64 + r3 := by omega
                  simp only [show ((orr : Nat) : Int) = ((c : Int) - 240) * 262144 + r1 * 4096 + r2 * 64 + r3 from e3]
                  clear e1 e3 HE HO hq
                  have d0 : decide ((c : Int) < 128) = false := by simp; omega
                  have d1 : decide (194 ≤ (c : Int)) = true := by simp; omega
                  have d2 : decide ((c : Int) ≤ 223) = false := by simp; omega
                  have d3 : decide (224 ≤ (c : Int)) = true := by simp; omega
                  have d4 : decide ((c : Int) ≤ 239) = false := by simp; omega
                  have d5 : decide (240 ≤ (c : Int)) = true := by simp; omega
                  have d6 : decide ((c : Int) ≤ 244) = true := by simp; omega
                  try clear a1
                  try clear a2
                  try clear a3
                  clear g1 g2 g3
                  try clear n1 m1
                  try clear n1
                  try clear n2 m2
                  try clear n2
                  try clear n3 m3
                  try clear n3
                  go_enter Try.func96, Try.ntmps96
                  go_wp2_with fail
                  refine (M1.out _).mono ?_
                  rintro e w' ⟨rfl, rfl⟩
                  go_wp2_with fail
                  refine (M2.out _).mono ?_
                  rintro e w' ⟨rfl, rfl⟩
                  go_wp2_with fail
                  refine (M3.out _).mono ?_
                  rintro e w' ⟨rfl, rfl⟩
                  go_wp2_with fail
                  go_ret2
                  exact ⟨rfl, rfl⟩
          ·
            have hq := True.intro
            have HE : oneN (s.size - i) c b1 b2 b3 = (0, 0) := by unfold oneN; rw [if_neg c0, if_neg (by omega), if_neg (by omega), if_neg (by omega)]
            have HE2 := HO.out.symm.trans HE
            simp only [Prod.mk.injEq] at HE2
            obtain ⟨e1, e2⟩ := HE2
            obtain rfl : on = 0 := e2
            have e3 : (orr : Int) = 0 := by omega
            simp only [show ((orr : Nat) : Int) = 0 from e3]
            clear e1 e3 HE HO hq
            have d0 : decide ((c : Int) < 128) = false := by simp; omega
            have d1 : decide (194 ≤ (c : Int)) = true := by simp; omega
            have d2 : decide ((c : Int) ≤ 223) = false := by simp; omega
            have d3 : decide (224 ≤ (c : Int)) = true := by simp; omega
            have d4 : decide ((c : Int) ≤ 239) = false := by simp; omega
            have d5 : decide (240 ≤ (c : Int)) = true := by simp; omega
            have d6 : decide ((c : Int) ≤ 244) = false := by simp; omega
            try clear a1
            try clear a2
            try clear a3
            clear g1 g2 g3
            try clear n1 m1
            try clear n1
            try clear n2 m2
            try clear n2
            try clear n3 m3
            try clear n3
            go_enter Try.func96, Try.ntmps96
            go_wp2_with fail
            refine (M1.out _).mono ?_
            rintro e w' ⟨rfl, rfl⟩
            go_wp2_with fail
            refine (M2.out _).mono ?_
            rintro e w' ⟨rfl, rfl⟩
            go_wp2_with fail
            refine (M3.out _).mono ?_
            rintro e w' ⟨rfl, rfl⟩
            go_wp2_with fail
            go_ret2
            exact ⟨rfl, rfl⟩
end Go.Proofs.Ytjhkdbcfkaaffaa
