/- text.May, text.Points and text.Check. -/
import Derived.Test.YtfonkblbgadhmaaDoorJdP
import Derived.Test.YtfonkblbgadhmaaDoorGc
import Derived.Laws.RangeString
namespace Go.Proofs.YtfonkblbgadhmaaDoor
open Go.RowKit Go.Lib

set_option maxHeartbeats 4000000 in
theorem tx_May (n : Nat) (hn : n ≤ 1114111) (w : World) : Calls Tryd.prog 79 #[.int .i64 n] w fun e w' => e = .returned (.bool (mayP n)) ∧ w' = w := by
  have e0 : (.int .i64 (n : Int) : Value) = .int .i64 (n : Int) := rfl
  by_cases h9 : n = 9 ∨ n = 10 ∨ n = 13
  · have hm : mayP n = true := by rcases h9 with rfl | rfl | rfl <;> rfl
    rw [hm]
    rcases h9 with rfl | rfl | rfl
    · go_enter Tryd.func79, Tryd.ntmps79
      go_wp2_with fail
      go_ret
      exact ⟨rfl, rfl⟩
    · go_enter Tryd.func79, Tryd.ntmps79
      go_wp2_with fail
      go_ret
      exact ⟨rfl, rfl⟩
    · go_enter Tryd.func79, Tryd.ntmps79
      go_wp2_with fail
      go_ret
      exact ⟨rfl, rfl⟩
  · have z1 : ((n : Int) == 9) = false := beq_eq_false_iff_ne.2 (by omega)
    have z2 : ((n : Int) == 10) = false := beq_eq_false_iff_ne.2 (by omega)
    have z3 : ((n : Int) == 13) = false := beq_eq_false_iff_ne.2 (by omega)
    by_cases h32 : n < 32
    · have hm : mayP n = false := by
        unfold mayP
        rw [if_pos h32]
        simp; omega
      rw [hm]
      have z4 : decide ((n : Int) < 32) = true := decide_eq_true (by omega)
      clear hm h9
      go_enter Tryd.func79, Tryd.ntmps79
      go_wp2_with fail
      go_ret
      exact ⟨rfl, rfl⟩
    · have z4 : decide ((n : Int) < 32) = false := decide_eq_false (by omega)
      by_cases he : n = 65534
      · subst he
        rw [show mayP 65534 = false from rfl]
        go_enter Tryd.func79, Tryd.ntmps79
        go_wp2_with fail
        go_ret
        exact ⟨rfl, rfl⟩
      · by_cases hf : n = 65535
        · subst hf
          rw [show mayP 65535 = false from rfl]
          go_enter Tryd.func79, Tryd.ntmps79
          go_wp2_with fail
          go_ret
          exact ⟨rfl, rfl⟩
        · have z5 : ((n : Int) == 65534) = false := beq_eq_false_iff_ne.2 (by omega)
          have z6 : ((n : Int) == 65535) = false := beq_eq_false_iff_ne.2 (by omega)
          have z7 : decide ((1114111 : Int) < n) = false := decide_eq_false (by omega)
          have hv : Lib.validRune (n : Int) = mayP n := by
            unfold Lib.validRune mayP
            rw [if_neg h32]
            have d1 : (n == 65534) = false := by simpa using he
            have d2 : (n == 65535) = false := by simpa using hf
            have d3 : decide (n ≤ 1114111) = true := decide_eq_true hn
            rw [d1, d2, d3, ← Bool.decide_or]
            simp only [Bool.true_and, Bool.not_false, Bool.and_true]
            exact decide_eq_decide.2 (by omega)
          have V := fun w => Tryd.utf8_ValidRune (n : Int) w
          rw [hv] at V
          have VH := Lib.hid V
          clear V hv h9
          have g1 : (0 : Int) ≤ n := by omega
          have g2 : (n : Int) ≤ 1114111 := by omega
          go_enter Tryd.func79, Tryd.ntmps79
          go_wp2_with fail
          refine (VH.out _).mono ?_
          rintro e w1 ⟨rfl, rfl⟩
          go_wp2_with fail
          go_ret
          exact ⟨rfl, rfl⟩
end Go.Proofs.YtfonkblbgadhmaaDoor
