/- The document's texts (tidewaiterref05): the walks. -/
import Derived.Test.YtfonkblbgadhmaaDoorJdQ
import Derived.Test.YtfonkblbgadhmaaDoorGc
namespace Go.Proofs.YtfonkblbgadhmaaDoor
open Go.RowKit Go.Lib

set_option maxHeartbeats 4000000 in
theorem r5_May (n : Nat) (w : World) : Calls Tryd.prog 88 #[.int .i64 n] w fun e w' => e = .returned (.bool (mayP n)) ∧ w' = w := by
  obtain ⟨m, hm⟩ : ∃ m, mayP n = m := ⟨_, rfl⟩
  rw [hm]
  unfold mayP at hm
  by_cases h32 : n < 32
  · rw [if_pos h32] at hm
    have z4 : ((n : Int) < 32) = True := eq_true (by omega)
    by_cases h9 : n = 9
    · subst h9
      subst hm
      go_enter Tryd.func88, Tryd.ntmps88
      go_wp2_with fail
      go_ret
      exact ⟨rfl, rfl⟩
    · by_cases h10 : n = 10
      · subst h10
        subst hm
        go_enter Tryd.func88, Tryd.ntmps88
        go_wp2_with fail
        go_ret
        exact ⟨rfl, rfl⟩
      · by_cases h13 : n = 13
        · subst h13
          subst hm
          go_enter Tryd.func88, Tryd.ntmps88
          go_wp2_with fail
          go_ret
          exact ⟨rfl, rfl⟩
        · obtain rfl : m = false := by rw [← hm]; simp; omega
          have z1 : ((n : Int) == 9) = false := beq_eq_false_iff_ne.2 (by omega)
          have z2 : ((n : Int) == 10) = false := beq_eq_false_iff_ne.2 (by omega)
          have z3 : ((n : Int) == 13) = false := beq_eq_false_iff_ne.2 (by omega)
          clear hm h9 h10 h13
          go_enter Tryd.func88, Tryd.ntmps88
          go_wp2_with fail
          go_ret
          exact ⟨rfl, rfl⟩
  · rw [if_neg h32] at hm
    have z4 : ((n : Int) < 32) = False := eq_false (by omega)
    by_cases h1 : n ≤ 1114111
    · have z5 : ((n : Int) ≤ 1114111) = True := eq_true (by omega)
      by_cases h2 : n < 55296
      · have z6 : ((n : Int) < 55296) = True := eq_true (by omega)
        have z1 : ((n : Int) != 65534) = true := bne_iff_ne.2 (by omega)
        have z2 : ((n : Int) != 65535) = true := bne_iff_ne.2 (by omega)
        obtain rfl : m = true := by rw [← hm]; simp; omega
        clear hm h1 h2 h32
        go_enter Tryd.func88, Tryd.ntmps88
        go_wp2_with fail
        go_ret
        exact ⟨rfl, rfl⟩
      · have z6 : ((n : Int) < 55296) = False := eq_false (by omega)
        by_cases h3 : 57343 < n
        · have z7 : ((57343 : Int) < n) = True := eq_true (by omega)
          by_cases h4 : n = 65534
          · subst h4
            subst hm
            go_enter Tryd.func88, Tryd.ntmps88
            go_wp2_with fail
            go_ret
            exact ⟨rfl, rfl⟩
          · by_cases h5 : n = 65535
            · subst h5
              subst hm
              go_enter Tryd.func88, Tryd.ntmps88
              go_wp2_with fail
              go_ret
              exact ⟨rfl, rfl⟩
            · have z1 : ((n : Int) != 65534) = true := bne_iff_ne.2 (by omega)
              have z2 : ((n : Int) != 65535) = true := bne_iff_ne.2 (by omega)
              obtain rfl : m = true := by rw [← hm]; simp; omega
              clear hm h4 h5 h1 h2 h3 h32
              go_enter Tryd.func88, Tryd.ntmps88
              go_wp2_with fail
              go_ret
              exact ⟨rfl, rfl⟩
        · have z7 : ((57343 : Int) < n) = False := eq_false (by omega)
          obtain rfl : m = false := by rw [← hm]; simp; omega
          clear hm
          go_enter Tryd.func88, Tryd.ntmps88
          go_wp2_with fail
          go_ret
          exact ⟨rfl, rfl⟩
    · have z5 : ((n : Int) ≤ 1114111) = False := eq_false (by omega)
      obtain rfl : m = false := by rw [← hm]; simp; omega
      clear hm
      go_enter Tryd.func88, Tryd.ntmps88
      go_wp2_with fail
      go_ret
      exact ⟨rfl, rfl⟩
set_option maxHeartbeats 4000000 in
theorem r5_head (b : Nat) (hb : b < 256) (w : World) : Calls Tryd.prog 87 #[.int .i64 b] w fun e w' => e = .returned (.tuple #[.int .i64 (hdN b).1, .int .i64 (hdN b).2]) ∧ w' = w := by
  obtain ⟨m, hm⟩ : ∃ m, hdN b = m := ⟨_, rfl⟩
  rw [hm]
  unfold hdN at hm
  by_cases h1 : b < 128
  · rw [if_pos h1] at hm
    subst hm
    have z1 : ((b : Int) < 128) := by omega
    go_enter Tryd.func87, Tryd.ntmps87
    go_wp2_with fail
    go_ret2
    exact ⟨rfl, rfl⟩
  · rw [if_neg h1] at hm
    have z1 : ¬ ((b : Int) < 128) := by omega
    by_cases h2 : 192 ≤ b ∧ b < 224
    · rw [if_pos h2] at hm
      subst hm
      have z2 : ((192 : Int) ≤ b) := by omega
      have z3 : ((b : Int) < 224) := by omega
      have e : ((b - 192 : Nat) : Int) = (b : Int) - 192 := by omega
      go_enter Tryd.func87, Tryd.ntmps87
      go_wp2_with fail
      go_ret2
      exact ⟨by first | rfl | (rw [e]; rfl), rfl⟩
    · rw [if_neg h2] at hm
      by_cases h3 : 224 ≤ b ∧ b < 240
      · rw [if_pos h3] at hm
        subst hm
        have z2 : ((192 : Int) ≤ b) := by omega
        have z3 : ¬ ((b : Int) < 224) := by omega
        have z4 : ((224 : Int) ≤ b) := by omega
        have z5 : ((b : Int) < 240) := by omega
        have e : ((b - 224 : Nat) : Int) = (b : Int) - 224 := by omega
        go_enter Tryd.func87, Tryd.ntmps87
        go_wp2_with fail
        go_ret2
        exact ⟨by first | rfl | (rw [e]; rfl), rfl⟩
      · rw [if_neg h3] at hm
        by_cases h4 : 240 ≤ b ∧ b < 248
        · rw [if_pos h4] at hm
          subst hm
          have z2 : ((192 : Int) ≤ b) := by omega
          have z3 : ¬ ((b : Int) < 224) := by omega
          have z4 : ((224 : Int) ≤ b) := by omega
          have z5 : ¬ ((b : Int) < 240) := by omega
          have z6 : ((240 : Int) ≤ b) := by omega
          have z7 : ((b : Int) < 248) := by omega
          have e : ((b - 240 : Nat) : Int) = (b : Int) - 240 := by omega
          go_enter Tryd.func87, Tryd.ntmps87
          go_wp2_with fail
          go_ret2
          exact ⟨by first | rfl | (rw [e]; rfl), rfl⟩
        · rw [if_neg h4] at hm
          subst hm
          by_cases h5 : b < 192
          · have z2 : ¬ ((192 : Int) ≤ b) := by omega
            have z4 : ¬ ((224 : Int) ≤ b) := by omega
            have z6 : ¬ ((240 : Int) ≤ b) := by omega
            go_enter Tryd.func87, Tryd.ntmps87
            go_wp2_with fail
            go_ret2
            exact ⟨rfl, rfl⟩
          · have z2 : ((192 : Int) ≤ b) := by omega
            have z3 : ¬ ((b : Int) < 224) := by omega
            have z4 : ((224 : Int) ≤ b) := by omega
            have z5 : ¬ ((b : Int) < 240) := by omega
            have z6 : ((240 : Int) ≤ b) := by omega
            have z7 : ¬ ((b : Int) < 248) := by omega
            go_enter Tryd.func87, Tryd.ntmps87
            go_wp2_with fail
            go_ret2
            exact ⟨rfl, rfl⟩
end Go.Proofs.YtfonkblbgadhmaaDoor
