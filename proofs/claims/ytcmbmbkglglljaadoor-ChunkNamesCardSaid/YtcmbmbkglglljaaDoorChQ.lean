/- The document's answer for chunk: digit, begins, size, Decode. -/
import Derived.Test.YtcmbmbkglglljaaDoorChR
import Derived.Test.YtcmbmbkglglljaaDoorRows
import Derived.Test.YtcmbmbkglglljaaDoorStr2
import Derived.Test.YtcmbmbkglglljaaDoorKit
import Derived.Deep.QuietTactic
import Derived.BigQuiet
import Derived.IntWalk
namespace Go.Proofs.YtcmbmbkglglljaaDoor
open Go.RowKit

set_option maxHeartbeats 1000000 in
theorem r16_digit (c : UInt8) (w : World) : Calls Tryd.prog 61 #[.int .u8 c.toNat] w fun e w' => e = .returned (.int .i64 (hexN c)) ∧ w' = w := by
  have hc : (c.toNat : Int) ≤ 255 := by have := c.toNat_lt; omega
  have h0 : 0 ≤ (c.toNat : Int) := by omega
  obtain ⟨d, hd⟩ : ∃ d, hexN c = d := ⟨_, rfl⟩
  rw [hd]
  unfold hexN at hd
  by_cases h1 : 48 ≤ c.toNat ∧ c.toNat ≤ 57
  · rw [if_pos h1] at hd
    subst hd
    have a1 : (48 : Int) ≤ c.toNat := by omega
    have a2 : (c.toNat : Int) ≤ 57 := by omega
    clear h1
    go_enter Tryd.func61, Tryd.ntmps61
    go_wp2_with fail
    go_ret
    exact ⟨rfl, rfl⟩
  · rw [if_neg h1] at hd
    by_cases h2 : 97 ≤ c.toNat ∧ c.toNat ≤ 102
    · rw [if_pos h2] at hd
      subst hd
      have a1 : (97 : Int) ≤ c.toNat := by omega
      have a2 : (c.toNat : Int) ≤ 102 := by omega
      have a3 : ¬ (c.toNat : Int) ≤ 57 := by omega
      have a4 : (48 : Int) ≤ c.toNat := by omega
      clear h1 h2
      go_enter Tryd.func61, Tryd.ntmps61
      go_wp2_with fail
      go_ret
      exact ⟨rfl, rfl⟩
    · rw [if_neg h2] at hd
      by_cases h3 : 65 ≤ c.toNat ∧ c.toNat ≤ 70
      · rw [if_pos h3] at hd
        subst hd
        have a1 : (65 : Int) ≤ c.toNat := by omega
        have a2 : (c.toNat : Int) ≤ 70 := by omega
        have a3 : ¬ (c.toNat : Int) ≤ 57 := by omega
        have a4 : (48 : Int) ≤ c.toNat := by omega
        have a5 : ¬ (97 : Int) ≤ c.toNat := by omega
        clear h1 h2 h3
        go_enter Tryd.func61, Tryd.ntmps61
        go_wp2_with fail
        go_ret
        exact ⟨rfl, rfl⟩
      · rw [if_neg h3] at hd
        subst hd
        go_enter Tryd.func61, Tryd.ntmps61
        go_wp2_with fail
        all_goals first | (exfalso; omega) | (go_ret; exact ⟨rfl, rfl⟩)

/-- Is one text the beginning of another one? -/
def pre (a b : List UInt8) : Bool := decide (a <+: b)
theorem pre_take (a b : List UInt8) : pre a b = (b.take a.length == a) := by
  unfold pre
  rw [Bool.eq_iff_iff, decide_eq_true_eq, beq_iff_eq, List.prefix_iff_eq_take]
  exact eq_comm
theorem pre_long (a b : List UInt8) (h : ¬ a.length ≤ b.length) : pre a b = false := by
  unfold pre
  rw [decide_eq_false_iff_not]
  intro hp
  exact h hp.length_le
set_option maxHeartbeats 1000000 in
theorem r16_begins (a b : ByteArray) (w : World) : Calls Tryd.prog 40 #[.string a, .string b] w fun e w' => e = .returned (.bool (pre a.data.toList b.data.toList)) ∧ w' = w := by
  obtain ⟨p, hp⟩ : ∃ p, pre a.data.toList b.data.toList = p := ⟨_, rfl⟩
  rw [hp]
  by_cases h : a.size ≤ b.size
  · rw [pre_take] at hp
    have HP := Lib.hid hp
    clear hp
    go_enter Tryd.func40, Tryd.ntmps40
    go_wp2_with fail
    go_ret
    exact ⟨ret_b (by rw [← HP.out, ext_list, Lib.toList_data, List.drop_zero, Nat.sub_zero, size_toList]), rfl⟩
  · rw [pre_long _ _ (by simpa using h)] at hp
    subst hp
    go_enter Tryd.func40, Tryd.ntmps40
    go_wp2_with fail
    go_ret
    exact ⟨rfl, rfl⟩

theorem szOf_snoc {s : ByteArray} {k : Nat} (hlt : k < s.size) : s.data.toList.drop k = s[k] :: s.data.toList.drop (k + 1) := by
  rw [List.drop_eq_getElem_cons (by simpa using hlt)]
  rfl
set_option maxHeartbeats 4000000 in
theorem r16_size (s : ByteArray) (w : World) (hs : s.size ≤ 9223372036854775807) : Calls Tryd.prog 41 #[.string s] w fun e w' => e = .returned (.tuple #[.int .i64 (szOf s.data.toList).1, .int .i64 (szOf s.data.toList).2]) ∧ w' = w := by
  go_enter Tryd.func41, Tryd.ntmps41
  go_wp2_with fail
  go_loop [4, 5] (fun n k => ∃ (a j : Nat), j ≤ 4 ∧ j ≤ s.size ∧ a < 16 ^ j ∧ n = .int .i64 a ∧ k = .int .i64 j ∧ szOf s.data.toList = hexRun j a (s.data.toList.drop j)) (fun _ k => 4 - (intOf k).toNat)
  case atStart => exact ⟨0, 0, by omega, by omega, by simp, rfl, rfl, rfl⟩
  case round =>
    obtain ⟨a, j, hj4, hjs, ha, rfl, rfl, hrun⟩ := hrel
    have ha2 : a < 65536 := by
      have : 16 ^ j ≤ 16 ^ 4 := Nat.pow_le_pow_right (by omega) hj4
      omega
    by_cases hlt : j < s.size
    · rw [szOf_snoc hlt] at hrun
      have hx := hexN_le s[j]
      have D := fun w => r16_digit s[j] w
      obtain ⟨d, hd⟩ : ∃ d, hexN s[j] = d := ⟨_, rfl⟩
      rw [hd] at hx D
      have DD := Lib.hid D
      clear D
      have hb : (s[j].toNat : Int) ≤ 255 := by have := s[j].toNat_lt; omega
      by_cases h4 : j < 4
      · by_cases h0 : 0 ≤ d
        · by_cases hk : 0 < j ∨ s[j] ≠ 48
          · have hr2 : szOf s.data.toList = hexRun (j + 1) (16 * a + d.toNat) (s.data.toList.drop (j + 1)) := by
              rw [hrun]
              simp only [hexRun]
              rw [if_pos ⟨h4, by rw [hd]; exact h0, hk⟩, hd]
            have hp : 16 * a + d.toNat < 16 ^ (j + 1) := by rw [Nat.pow_succ]; omega
            have HR := Lib.hid hr2
            have HPP := Lib.hid hp
            have e1 : IntKind.i64.wrap (16 * (a : Int)) = 16 * (a : Int) := IntWalk.i64_in _ (by omega)
            have e2 : IntKind.i64.wrap (16 * (a : Int) + d) = 16 * (a : Int) + d := IntWalk.i64_in _ (by omega)
            clear hrun hd hr2 hp ha
            by_cases hj0 : 0 < j
            · clear hk
              go_wp2_with fail
              refine (DD.out _).mono ?_
              rintro e w1 ⟨rfl, rfl⟩
              go_wp2_with fail
              refine (DD.out _).mono ?_
              rintro e w1 ⟨rfl, rfl⟩
              go_wp2_with fail
              go_round
              case rel => exact ⟨16 * a + d.toNat, j + 1, by omega, by omega, HPP.out, by rw [show ((16 * a + d.toNat : Nat) : Int) = 16 * (a : Int) + d by omega], by go_num, HR.out⟩
              case measure => simp [intOf]; omega
            · obtain rfl : j = 0 := by omega
              have h48 : ((s[0].toNat : Int) != 48) = true := by
                rcases hk with hk | hk
                · omega
                · rw [bne_iff_ne]
                  intro e
                  apply hk
                  apply UInt8.toNat_inj.1
                  show s[0].toNat = 48
                  omega
              clear hk
              go_wp2_with fail
              refine (DD.out _).mono ?_
              rintro e w1 ⟨rfl, rfl⟩
              go_wp2_with fail
              refine (DD.out _).mono ?_
              rintro e w1 ⟨rfl, rfl⟩
              go_wp2_with fail
              go_round
              case rel => exact ⟨16 * a + d.toNat, 1, by omega, by omega, HPP.out, by rw [show ((16 * a + d.toNat : Nat) : Int) = 16 * (a : Int) + d by omega], by go_num, HR.out⟩
              case measure => simp [intOf]
          · obtain rfl : j = 0 := by omega
            have h48 : ((s[0].toNat : Int) != 48) = false := by
              have : s[0] = 48 := Classical.not_not.1 fun e => hk (.inr e)
              rw [this]
              rfl
            have hr2 : szOf s.data.toList = (a, 0) := by
              rw [hrun]
              simp only [hexRun]
              rw [if_neg (fun h => hk h.2.2)]
            have HR := Lib.hid hr2
            clear hrun hd hr2 ha hk
            go_wp2_with fail
            refine (DD.out _).mono ?_
            rintro e w1 ⟨rfl, rfl⟩
            go_wp2_with fail
            go_ret2
            rw [HR.out]
            exact ⟨rfl, rfl⟩
        · have hr2 : szOf s.data.toList = (a, j) := by
            rw [hrun]
            simp only [hexRun]
            rw [if_neg (by rw [hd]; intro h; exact h0 h.2.1)]
          have HR := Lib.hid hr2
          clear hrun hd hr2 ha
          go_wp2_with fail
          refine (DD.out _).mono ?_
          rintro e w1 ⟨rfl, rfl⟩
          go_wp2_with fail
          go_ret2
          rw [HR.out]
          exact ⟨rfl, rfl⟩
      · have hr2 : szOf s.data.toList = (a, j) := by
          rw [hrun]
          simp only [hexRun]
          rw [if_neg (by intro h; exact h4 h.1)]
        have HR := Lib.hid hr2
        clear hrun hd hr2 ha
        go_wp2_with fail
        go_ret2
        rw [HR.out]
        exact ⟨rfl, rfl⟩
    · have hr2 : szOf s.data.toList = (a, j) := by
        rw [hrun, List.drop_eq_nil_of_le (by simp; omega)]
        rfl
      have HR := Lib.hid hr2
      clear hrun hr2 ha
      go_wp2_with fail
      go_ret2
      rw [HR.out]
      exact ⟨rfl, rfl⟩
end Go.Proofs.YtcmbmbkglglljaaDoor
