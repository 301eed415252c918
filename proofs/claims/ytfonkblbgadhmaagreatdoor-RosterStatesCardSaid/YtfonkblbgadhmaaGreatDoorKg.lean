/- JdX, JdY, JdV, JdZ: put together by mergetpl.py. -/
import Derived.Test.YtfonkblbgadhmaaGreatDoorKf
import Derived.Test.YtfonkblbgadhmaaGreatDoorKc
import Derived.Test.YtfonkblbgadhmaaGreatDoorKe
import Derived.Test.YtfonkblbgadhmaaGreatDoorKa
import Derived.Test.YtfonkblbgadhmaaGreatDoorGb
namespace Go.Proofs.YtfonkblbgadhmaaGreatDoor
open Go.RowKit Go.Lib

set_option maxHeartbeats 1000000 in
theorem r19_plain (c : UInt8) (w : World) : Calls Tryz.prog 165 #[.int .u8 (c.toNat : Int)] w fun e w' => e = .returned (.bool (jdA c)) ∧ w' = w := by
 have hc := c.toNat_lt
 have hj : jdA c = ((decide (97 ≤ c.toNat) && decide (c.toNat ≤ 122)) || (decide (48 ≤ c.toNat) && decide (c.toNat ≤ 57))) := rfl
 rw [hj]
 obtain ⟨n, hn⟩ : ∃ n, c.toNat = n := ⟨_, rfl⟩
 rw [hn] at hc ⊢
 clear hj hn
 by_cases h1 : 97 ≤ n
 ·by_cases h2 : n ≤ 122
  ·rw [show ((decide (97 ≤ n) && decide (n ≤ 122)) || (decide (48 ≤ n) && decide (n ≤ 57))) = true by simp; omega]
   have g0 : ((97 : Int) ≤ n) = True := eq_true (by omega)
   have g1 : ((n : Int) ≤ 122) = True := eq_true (by omega)
   go_enter Tryz.func165, Tryz.ntmps165
   go_wp2_with fail
   go_ret
   exact ⟨by first | rfl | (apply ret_b; simp; omega), rfl⟩
  ·rw [show ((decide (97 ≤ n) && decide (n ≤ 122)) || (decide (48 ≤ n) && decide (n ≤ 57))) = false by simp; omega]
   have g0 : ((97 : Int) ≤ n) = True := eq_true (by omega)
   have g1 : ((n : Int) ≤ 122) = False := eq_false (by omega)
   have g2 : ((48 : Int) ≤ n) = True := eq_true (by omega)
   have g3 : ((n : Int) ≤ 57) = False := eq_false (by omega)
   go_enter Tryz.func165, Tryz.ntmps165
   go_wp2_with fail
   go_ret
   exact ⟨by first | rfl | (apply ret_b; simp; omega), rfl⟩
 ·by_cases h3 : 48 ≤ n
  ·by_cases h4 : n ≤ 57
   ·rw [show ((decide (97 ≤ n) && decide (n ≤ 122)) || (decide (48 ≤ n) && decide (n ≤ 57))) = true by simp; omega]
    have g0 : ((97 : Int) ≤ n) = False := eq_false (by omega)
    have g1 : ((48 : Int) ≤ n) = True := eq_true (by omega)
    have g2 : ((n : Int) ≤ 57) = True := eq_true (by omega)
    go_enter Tryz.func165, Tryz.ntmps165
    go_wp2_with fail
    go_ret
    exact ⟨by first | rfl | (apply ret_b; simp; omega), rfl⟩
   ·rw [show ((decide (97 ≤ n) && decide (n ≤ 122)) || (decide (48 ≤ n) && decide (n ≤ 57))) = false by simp; omega]
    have g0 : ((97 : Int) ≤ n) = False := eq_false (by omega)
    have g1 : ((48 : Int) ≤ n) = True := eq_true (by omega)
    have g2 : ((n : Int) ≤ 57) = False := eq_false (by omega)
    go_enter Tryz.func165, Tryz.ntmps165
    go_wp2_with fail
    go_ret
    exact ⟨by first | rfl | (apply ret_b; simp; omega), rfl⟩
  ·rw [show ((decide (97 ≤ n) && decide (n ≤ 122)) || (decide (48 ≤ n) && decide (n ≤ 57))) = false by simp; omega]
   have g0 : ((97 : Int) ≤ n) = False := eq_false (by omega)
   have g1 : ((48 : Int) ≤ n) = False := eq_false (by omega)
   go_enter Tryz.func165, Tryz.ntmps165
   go_wp2_with fail
   go_ret
   exact ⟨by first | rfl | (apply ret_b; simp; omega), rfl⟩
theorem all_last {q : UInt8 → Bool} (s : ByteArray) (k : Nat) (hlt : k < s.size) (h : q s[k] = false) : s.data.toList.all q = false := by
 rw [← List.take_append_drop (k + 1) s.data.toList, List.all_append, take_snoc s k hlt, List.all_append]
 simp [h]
theorem all_snoc {q : UInt8 → Bool} (s : ByteArray) (k : Nat) (hlt : k < s.size) (h : (s.data.toList.take k).all q = true) (hq : q s[k] = true) : (s.data.toList.take (k + 1)).all q = true := by
 rw [take_snoc s k hlt, List.all_append, h]
 simp [hq]
theorem c_is (c : UInt8) (n : Nat) (h : c.toNat = n) (hn : n < 256) : c = UInt8.ofNat n := by
 apply UInt8.toNat_inj.1
 rw [h, UInt8.toNat_ofNat']
 exact (Nat.mod_eq_of_lt hn).symm
theorem jdL_46 (c : UInt8) (h : c.toNat = 46) : jdL c = true ∧ jdD c = true ∧ jdA c = false := by
 rw [c_is c 46 h (by omega)]; decide
theorem jdL_45 (c : UInt8) (h : c.toNat = 45) : jdL c = true ∧ jdD c = true ∧ jdA c = false := by
 rw [c_is c 45 h (by omega)]; decide
theorem jdL_95 (c : UInt8) (h : c.toNat = 95) : jdL c = true ∧ jdA c = false := by
 rw [c_is c 95 h (by omega)]; decide
theorem jdL_no (c : UInt8) (h : jdA c = false) (h1 : c.toNat ≠ 46) (h2 : c.toNat ≠ 45) : jdD c = false ∧ (c.toNat ≠ 95 → jdL c = false) := by
 have e1 : (c == 46) = false := beq_eq_false_iff_ne.2 (fun e => h1 (by rw [e]; rfl))
 have e2 : (c == 45) = false := beq_eq_false_iff_ne.2 (fun e => h2 (by rw [e]; rfl))
 have d : jdD c = false := by unfold jdD; rw [h, e1, e2]; rfl
 refine ⟨d, fun h3 => ?_⟩
 have e3 : (c == 95) = false := beq_eq_false_iff_ne.2 (fun e => h3 (by rw [e]; rfl))
 unfold jdL
 rw [d, e3]; rfl
theorem jdA_D (c : UInt8) (h : jdA c = true) : jdD c = true ∧ jdL c = true := by
 have d : jdD c = true := by unfold jdD; rw [h]; rfl
 exact ⟨d, jdD_of c d⟩
theorem jdA_46 (c : UInt8) (h : jdA c = true) : c.toNat ≠ 46 := fun e => by have := (jdL_46 c e).2.2; rw [h] at this; cases this
theorem dots_snoc : ∀ (l : List UInt8) (c : UInt8), dotsP (l ++ [c]) = (dotsP l || (!l.isEmpty && (l.getLastD 0 == 46 && c == 46)))
 | [], _ => rfl
 | [a], c => by simp [dotsP]
 | a :: b :: l, c => by
  show (_ || dotsP ((b :: l) ++ [c])) = ((_ || dotsP (b :: l)) || _)
  rw [dots_snoc (b :: l) c, Bool.or_assoc]
  congr 2
theorem dots_mono (l r : List UInt8) (h : dotsP l = true) : dotsP (l ++ r) = true := by
 induction r generalizing l with
 | nil => rwa [List.append_nil]
 | cons a r ih =>
  rw [List.append_cons]
  exact ih _ (by rw [dots_snoc, h]; rfl)
theorem dots_step (s : ByteArray) (k : Nat) (hlt : k < s.size) : dotsP (s.data.toList.take (k + 1)) = (dotsP (s.data.toList.take k) || (decide (0 < k) && (s[k - 1]'(by omega) == 46 && s[k] == 46))) := by
 rw [take_snoc s k hlt, dots_snoc]
 congr 1
 cases k with
 | zero => rfl
 | succ j =>
  have hj : j < s.size := by omega
  rw [take_snoc s j hj]
  have e1 : (s.data.toList.take j ++ [s[j]]).isEmpty = false := by simp
  have e2 : (s.data.toList.take j ++ [s[j]]).getLastD 0 = s[j] := by simp [List.getLastD_eq_getLast?]
  rw [e1, e2, decide_eq_true (Nat.succ_pos j)]
  rfl
set_option maxHeartbeats 1000000 in
theorem r19_Local (s : ByteArray) (w : World) (hs : s.size ≤ 10000) : Calls Tryz.prog 145 #[.string s] w fun e w' => e = .returned (.bool (locP s.data.toList)) ∧ w' = w := by
 have P := Lib.hid r19_plain
 obtain ⟨O, hO⟩ : ∃ O, locP s.data.toList = O := ⟨_, rfl⟩
 rw [hO]
 have HO := Lib.hid hO
 clear hO
 go_enter Tryz.func145, Tryz.ntmps145
 go_wp2_with fail
 go_loop [3] (fun i => ∃ k : Nat, k ≤ s.size ∧ i = .int .i64 k ∧ (s.data.toList.take k).all jdL = true) (fun i => s.size - (intOf i).toNat)
 case atStart => exact ⟨0, Nat.zero_le _, rfl, rfl⟩
 case round =>
  obtain ⟨k, hk, rfl, hall⟩ := hrel
  by_cases hlt : k < s.size
  ·have hc := s[k].toNat_lt
   have P1 := fun w => P.out s[k] w
   cases hA : jdA s[k] with
   | true =>
    rw [hA] at P1
    have hL : jdL s[k] = true := (jdA_D _ hA).2
    have HS := Lib.hid (all_snoc s k hlt hall hL)
    have PH := Lib.hid P1
    clear P1 hL hA hall
    (try clear h1)
    (try clear h2)
    (try clear h3)
    go_wp2_with fail
    refine (PH.out _).mono ?_
    rintro e w1 ⟨rfl, rfl⟩
    go_wp2_with fail
    go_round
    case rel => exact ⟨k + 1, by omega, by go_num, HS.out⟩
    case measure => simp [intOf]; omega
   | false =>
    rw [hA] at P1
    by_cases h1 : s[k].toNat = 46
    ·have hL : jdL s[k] = true := (jdL_46 _ h1).1
     have HS := Lib.hid (all_snoc s k hlt hall hL)
     have e46 : ((s[k].toNat : Int) == 46) = true := beq_iff_eq.2 (by omega)
     have f46 : ((s[k].toNat : Int) != 46) = false := by unfold bne; rw [e46]; rfl
     have PH := Lib.hid P1
     clear P1 hL hA hall
     (try clear h1)
     (try clear h2)
     (try clear h3)
     go_wp2_with fail
     refine (PH.out _).mono ?_
     rintro e w1 ⟨rfl, rfl⟩
     go_wp2_with fail
     go_round
     case rel => exact ⟨k + 1, by omega, by go_num, HS.out⟩
     case measure => simp [intOf]; omega
    ·by_cases h2 : s[k].toNat = 45
     ·have hL : jdL s[k] = true := (jdL_45 _ h2).1
      have HS := Lib.hid (all_snoc s k hlt hall hL)
      have e46 : ((s[k].toNat : Int) == 46) = false := beq_eq_false_iff_ne.2 (by omega)
      have f46 : ((s[k].toNat : Int) != 46) = true := by unfold bne; rw [e46]; rfl
      have e45 : ((s[k].toNat : Int) == 45) = true := beq_iff_eq.2 (by omega)
      have f45 : ((s[k].toNat : Int) != 45) = false := by unfold bne; rw [e45]; rfl
      have PH := Lib.hid P1
      clear P1 hL hA hall
      (try clear h1)
      (try clear h2)
      (try clear h3)
      go_wp2_with fail
      refine (PH.out _).mono ?_
      rintro e w1 ⟨rfl, rfl⟩
      go_wp2_with fail
      go_round
      case rel => exact ⟨k + 1, by omega, by go_num, HS.out⟩
      case measure => simp [intOf]; omega
     ·by_cases h3 : s[k].toNat = 95
      ·have hL : jdL s[k] = true := (jdL_95 _ h3).1
       have HS := Lib.hid (all_snoc s k hlt hall hL)
       have e46 : ((s[k].toNat : Int) == 46) = false := beq_eq_false_iff_ne.2 (by omega)
       have f46 : ((s[k].toNat : Int) != 46) = true := by unfold bne; rw [e46]; rfl
       have e45 : ((s[k].toNat : Int) == 45) = false := beq_eq_false_iff_ne.2 (by omega)
       have f45 : ((s[k].toNat : Int) != 45) = true := by unfold bne; rw [e45]; rfl
       have e95 : ((s[k].toNat : Int) == 95) = true := beq_iff_eq.2 (by omega)
       have f95 : ((s[k].toNat : Int) != 95) = false := by unfold bne; rw [e95]; rfl
       have PH := Lib.hid P1
       clear P1 hL hA hall
       (try clear h1)
       (try clear h2)
       (try clear h3)
       go_wp2_with fail
       refine (PH.out _).mono ?_
       rintro e w1 ⟨rfl, rfl⟩
       go_wp2_with fail
       go_round
       case rel => exact ⟨k + 1, by omega, by go_num, HS.out⟩
       case measure => simp [intOf]; omega
      ·have hn : O = false := by rw [← HO.out]; unfold locP; rw [all_last s k hlt ((jdL_no _ hA h1 h2).2 h3)]; simp
       subst hn
       have e46 : ((s[k].toNat : Int) == 46) = false := beq_eq_false_iff_ne.2 (by omega)
       have f46 : ((s[k].toNat : Int) != 46) = true := by unfold bne; rw [e46]; rfl
       have e45 : ((s[k].toNat : Int) == 45) = false := beq_eq_false_iff_ne.2 (by omega)
       have f45 : ((s[k].toNat : Int) != 45) = true := by unfold bne; rw [e45]; rfl
       have e95 : ((s[k].toNat : Int) == 95) = false := beq_eq_false_iff_ne.2 (by omega)
       have f95 : ((s[k].toNat : Int) != 95) = true := by unfold bne; rw [e95]; rfl
       have PH := Lib.hid P1
       clear P1 hA hall h1 h2 h3
       go_wp2_with fail
       refine (PH.out _).mono ?_
       rintro e w1 ⟨rfl, rfl⟩
       go_wp2_with fail
       go_ret
       exact ⟨rfl, rfl⟩
  ·have hfull : s.data.toList.all jdL = true := by
    rw [List.take_of_length_le (by rw [size_toList]; omega)] at hall
    exact hall
   have hO := HO.out
   unfold locP at hO
   rw [hfull, size_toList, Bool.and_true] at hO
   clear HO hfull hall
   by_cases h0 : 0 < s.size
   ·have e3 : s.data.toList.isEmpty = false := by rw [← Lib.toList_data]; exact isEmpty_of_pos h0
    rw [e3] at hO
    have g0 : 1 ≤ s.size := h0
    clear e3
    by_cases h64 : s.size ≤ 64
    ·rw [decide_eq_true h64] at hO
     subst hO
     have g1 : ((1 : Int) ≤ s.size) := by omega
     have g2 : ((s.size : Int) ≤ 64) := by omega
     go_wp2_with fail
     go_ret
     exact ⟨rfl, rfl⟩
    ·rw [decide_eq_false h64] at hO
     subst hO
     have g1 : ((1 : Int) ≤ s.size) := by omega
     have g2 : ¬ ((s.size : Int) ≤ 64) := by omega
     go_wp2_with fail
     go_ret
     exact ⟨rfl, rfl⟩
   ·obtain rfl : s = ⟨#[]⟩ := str_ext (List.eq_nil_of_length_eq_zero (by rw [size_toList]; omega))
    have : O = false := by rw [← hO]; rfl
    subst this
    clear hO h0
    go_wp2_with fail
    go_ret
    exact ⟨rfl, rfl⟩
set_option maxHeartbeats 1000000 in
set_option maxRecDepth 100000 in
theorem r19_Domain (s : ByteArray) (w : World) (hs : s.size ≤ 10000) : Calls Tryz.prog 144 #[.string s] w fun e w' => e = .returned (.bool (domP s.data.toList)) ∧ w' = w := by
 have P := Lib.hid r19_plain
 obtain ⟨O, hO⟩ : ∃ O, domP s.data.toList = O := ⟨_, rfl⟩
 rw [hO]
 by_cases h0 : 0 < s.size
 ·have e3 : s.data.toList.isEmpty = false := by rw [← Lib.toList_data]; exact isEmpty_of_pos h0
  have g0 : ¬ ((s.size : Int) < 1) := by omega
  unfold domP at hO
  rw [e3, size_toList, head_data s h0, last_data s h0] at hO
  clear e3
  by_cases h64 : s.size ≤ 64
  ·rw [decide_eq_true h64] at hO
   have g1 : ¬ ((64 : Int) < s.size) := by omega
   have hl : s.size - 1 < s.size := by omega
   have hk1 : ((s.size : Int) - 1) = ((s.size - 1 : Nat) : Int) := by omega
   have P1 := fun w => P.out s[0] w
   have P2 := fun w => P.out (s[s.size - 1]'hl) w
   cases ha : jdA s[0] with
   | false =>
    have : O = false := by rw [← hO, ha]; simp
    subst this
    rw [ha] at P1
    have PH := Lib.hid P1
    clear P1 P2 hO ha hk1
    go_enter Tryz.func144, Tryz.ntmps144
    go_wp2_with fail
    refine (PH.out _).mono ?_
    rintro e w1 ⟨rfl, rfl⟩
    go_wp2_with fail
    go_ret
    exact ⟨rfl, rfl⟩
   | true =>
    rw [ha] at P1
    have PH := Lib.hid P1
    cases hb : jdA (s[s.size - 1]'hl) with
    | false =>
     have : O = false := by rw [← hO, hb]; simp
     subst this
     rw [hb] at P2
     have PH2 := Lib.hid P2
     clear P1 P2 hO ha hb
     go_enter Tryz.func144, Tryz.ntmps144
     go_wp2_with fail
     refine (PH.out _).mono ?_
     rintro e w1 ⟨rfl, rfl⟩
     go_wp2_with fail
     refine (PH2.out _).mono ?_
     rintro e w1 ⟨rfl, rfl⟩
     go_wp2_with fail
     go_ret
     exact ⟨rfl, rfl⟩
    | true =>
     rw [hb] at P2
     have PH2 := Lib.hid P2
     rw [ha, hb] at hO
     have HO : Hid ((s.data.toList.all jdD && !dotsP s.data.toList) = O) := Lib.hid (by rw [← hO]; simp)
     clear P1 P2 hO ha hb
     go_enter Tryz.func144, Tryz.ntmps144
     go_wp2_with fail
     refine (PH.out _).mono ?_
     rintro e w1 ⟨rfl, rfl⟩
     go_wp2_with fail
     refine (PH2.out _).mono ?_
     rintro e w1 ⟨rfl, rfl⟩
     go_wp2_with fail
     clear hk1
     go_loop [3] (fun i => ∃ k : Nat, k ≤ s.size ∧ i = .int .i64 k ∧ (s.data.toList.take k).all jdD = true ∧ dotsP (s.data.toList.take k) = false) (fun i => s.size - (intOf i).toNat)
     case atStart => exact ⟨0, Nat.zero_le _, rfl, rfl, rfl⟩
     case round =>
      obtain ⟨k, hk, rfl, hall, hdot⟩ := hrel
      by_cases hlt : k < s.size
      ·have hc := s[k].toNat_lt
       have P1 := fun w => P.out s[k] w
       have hds := dots_step s k hlt
       rw [hdot, Bool.false_or] at hds
       cases hA : jdA s[k] with
       | true =>
        rw [hA] at P1
        have h46 := jdA_46 _ hA
        have q46 : (s[k] == 46) = false := beq_eq_false_iff_ne.2 (fun e => h46 (by rw [e]; rfl))
        by_cases hk0 : 0 < k
        ·have gk : (0 : Int) < k := by omega
         have hD : jdD s[k] = true := (jdA_D _ hA).1
         have HS := Lib.hid (all_snoc s k hlt hall hD)
         have hdd : dotsP (s.data.toList.take (k + 1)) = false := hds.trans (by rw [q46]; simp)
         have HD := Lib.hid hdd
         clear hD hdd
         have e46 : ((s[k].toNat : Int) == 46) = false := beq_eq_false_iff_ne.2 (by omega)
         have f46 : ((s[k].toNat : Int) != 46) = true := by unfold bne; rw [e46]; rfl
         have PH := Lib.hid P1
         clear P1 hA hall hdot hds
         (try clear h1)
         (try clear h2)
         (try clear h46)
         (try clear q46)
         (try clear r46)
         go_wp2_with fail
         refine (PH.out _).mono ?_
         rintro e w1 ⟨rfl, rfl⟩
         go_wp2_with fail
         go_round
         case rel => exact ⟨k + 1, by omega, by go_num, HS.out, HD.out⟩
         case measure => simp [intOf]; omega
        ·have gk : ((0 : Int) < (k : Int)) = False := eq_false (by omega)
         have hD : jdD s[k] = true := (jdA_D _ hA).1
         have HS := Lib.hid (all_snoc s k hlt hall hD)
         have hdd : dotsP (s.data.toList.take (k + 1)) = false := hds.trans (by rw [q46]; simp)
         have HD := Lib.hid hdd
         clear hD hdd
         have e46 : ((s[k].toNat : Int) == 46) = false := beq_eq_false_iff_ne.2 (by omega)
         have f46 : ((s[k].toNat : Int) != 46) = true := by unfold bne; rw [e46]; rfl
         have PH := Lib.hid P1
         clear P1 hA hall hdot hds
         (try clear h1)
         (try clear h2)
         (try clear h46)
         (try clear q46)
         (try clear r46)
         go_wp2_with fail
         refine (PH.out _).mono ?_
         rintro e w1 ⟨rfl, rfl⟩
         go_wp2_with fail
         go_round
         case rel => exact ⟨k + 1, by omega, by go_num, HS.out, HD.out⟩
         case measure => simp [intOf]; omega
       | false =>
        rw [hA] at P1
        by_cases h1 : s[k].toNat = 46
        ·have q46 : (s[k] == 46) = true := beq_iff_eq.2 (c_is _ 46 h1 (by omega))
         by_cases hk0 : 0 < k
         ·have gk : (0 : Int) < k := by omega
          have hkl : k - 1 < s.size := by omega
          have hk1 : ((k : Int) - 1) = ((k - 1 : Nat) : Int) := by omega
          by_cases h2 : (s[k - 1]'hkl).toNat = 46
          ·have r46 : (s[k - 1]'hkl == 46) = true := beq_iff_eq.2 (c_is _ 46 h2 (by omega))
           have hn : O = false := by
            rw [← HO.out]
            have : dotsP s.data.toList = true := by
             rw [← List.take_append_drop (k + 1) s.data.toList]
             exact dots_mono _ _ (by rw [hds, r46, q46, decide_eq_true hk0]; rfl)
            rw [this]; simp
           subst hn
           have e46 : ((s[k].toNat : Int) == 46) = true := beq_iff_eq.2 (by omega)
           have f46 : ((s[k].toNat : Int) != 46) = false := by unfold bne; rw [e46]; rfl
           have b46 : (((s[k - 1]'hkl).toNat : Int) == 46) = true := beq_iff_eq.2 (by omega)
           have PH := Lib.hid P1
           clear P1 hA hall hdot hds
           (try clear h1)
           (try clear h2)
           (try clear h46)
           (try clear q46)
           (try clear r46)
           go_wp2_with fail
           refine (PH.out _).mono ?_
           rintro e w1 ⟨rfl, rfl⟩
           go_wp2_with fail
           go_ret
           exact ⟨rfl, rfl⟩
          ·have r46 : (s[k - 1]'hkl == 46) = false := beq_eq_false_iff_ne.2 (fun e => h2 (by rw [e]; rfl))
           have b46 : (((s[k - 1]'hkl).toNat : Int) == 46) = false := beq_eq_false_iff_ne.2 (by omega)
           have hD : jdD s[k] = true := (jdL_46 _ h1).2.1
           have HS := Lib.hid (all_snoc s k hlt hall hD)
           have hdd : dotsP (s.data.toList.take (k + 1)) = false := hds.trans (by rw [r46]; simp)
           have HD := Lib.hid hdd
           clear hD hdd
           have e46 : ((s[k].toNat : Int) == 46) = true := beq_iff_eq.2 (by omega)
           have f46 : ((s[k].toNat : Int) != 46) = false := by unfold bne; rw [e46]; rfl
           have PH := Lib.hid P1
           clear P1 hA hall hdot hds
           (try clear h1)
           (try clear h2)
           (try clear h46)
           (try clear q46)
           (try clear r46)
           go_wp2_with fail
           refine (PH.out _).mono ?_
           rintro e w1 ⟨rfl, rfl⟩
           go_wp2_with fail
           go_round
           case rel => exact ⟨k + 1, by omega, by go_num, HS.out, HD.out⟩
           case measure => simp [intOf]; omega
         ·have gk : ((0 : Int) < (k : Int)) = False := eq_false (by omega)
          have hD : jdD s[k] = true := (jdL_46 _ h1).2.1
          have HS := Lib.hid (all_snoc s k hlt hall hD)
          have hdd : dotsP (s.data.toList.take (k + 1)) = false := hds.trans (by rw [decide_eq_false hk0]; rfl)
          have HD := Lib.hid hdd
          clear hD hdd
          have e46 : ((s[k].toNat : Int) == 46) = true := beq_iff_eq.2 (by omega)
          have f46 : ((s[k].toNat : Int) != 46) = false := by unfold bne; rw [e46]; rfl
          have PH := Lib.hid P1
          clear P1 hA hall hdot hds
          (try clear h1)
          (try clear h2)
          (try clear h46)
          (try clear q46)
          (try clear r46)
          go_wp2_with fail
          refine (PH.out _).mono ?_
          rintro e w1 ⟨rfl, rfl⟩
          go_wp2_with fail
          go_round
          case rel => exact ⟨k + 1, by omega, by go_num, HS.out, HD.out⟩
          case measure => simp [intOf]; omega
        ·have q46 : (s[k] == 46) = false := beq_eq_false_iff_ne.2 (fun e => h1 (by rw [e]; rfl))
         by_cases h2 : s[k].toNat = 45
         ·by_cases hk0 : 0 < k
          ·have gk : (0 : Int) < k := by omega
           have hD : jdD s[k] = true := (jdL_45 _ h2).2.1
           have HS := Lib.hid (all_snoc s k hlt hall hD)
           have hdd : dotsP (s.data.toList.take (k + 1)) = false := hds.trans (by rw [q46]; simp)
           have HD := Lib.hid hdd
           clear hD hdd
           have e46 : ((s[k].toNat : Int) == 46) = false := beq_eq_false_iff_ne.2 (by omega)
           have f46 : ((s[k].toNat : Int) != 46) = true := by unfold bne; rw [e46]; rfl
           have e45 : ((s[k].toNat : Int) == 45) = true := beq_iff_eq.2 (by omega)
           have f45 : ((s[k].toNat : Int) != 45) = false := by unfold bne; rw [e45]; rfl
           have PH := Lib.hid P1
           clear P1 hA hall hdot hds
           (try clear h1)
           (try clear h2)
           (try clear h46)
           (try clear q46)
           (try clear r46)
           go_wp2_with fail
           refine (PH.out _).mono ?_
           rintro e w1 ⟨rfl, rfl⟩
           go_wp2_with fail
           go_round
           case rel => exact ⟨k + 1, by omega, by go_num, HS.out, HD.out⟩
           case measure => simp [intOf]; omega
          ·have gk : ((0 : Int) < (k : Int)) = False := eq_false (by omega)
           have hD : jdD s[k] = true := (jdL_45 _ h2).2.1
           have HS := Lib.hid (all_snoc s k hlt hall hD)
           have hdd : dotsP (s.data.toList.take (k + 1)) = false := hds.trans (by rw [q46]; simp)
           have HD := Lib.hid hdd
           clear hD hdd
           have e46 : ((s[k].toNat : Int) == 46) = false := beq_eq_false_iff_ne.2 (by omega)
           have f46 : ((s[k].toNat : Int) != 46) = true := by unfold bne; rw [e46]; rfl
           have e45 : ((s[k].toNat : Int) == 45) = true := beq_iff_eq.2 (by omega)
           have f45 : ((s[k].toNat : Int) != 45) = false := by unfold bne; rw [e45]; rfl
           have PH := Lib.hid P1
           clear P1 hA hall hdot hds
           (try clear h1)
           (try clear h2)
           (try clear h46)
           (try clear q46)
           (try clear r46)
           go_wp2_with fail
           refine (PH.out _).mono ?_
           rintro e w1 ⟨rfl, rfl⟩
           go_wp2_with fail
           go_round
           case rel => exact ⟨k + 1, by omega, by go_num, HS.out, HD.out⟩
           case measure => simp [intOf]; omega
         ·have hn : O = false := by rw [← HO.out, all_last s k hlt (jdL_no _ hA h1 h2).1]; simp
          subst hn
          have e46 : ((s[k].toNat : Int) == 46) = false := beq_eq_false_iff_ne.2 (by omega)
          have f46 : ((s[k].toNat : Int) != 46) = true := by unfold bne; rw [e46]; rfl
          have e45 : ((s[k].toNat : Int) == 45) = false := beq_eq_false_iff_ne.2 (by omega)
          have f45 : ((s[k].toNat : Int) != 45) = true := by unfold bne; rw [e45]; rfl
          have PH := Lib.hid P1
          clear P1 hA hall hdot hds
          (try clear h1)
          (try clear h2)
          (try clear h46)
          (try clear q46)
          (try clear r46)
          go_wp2_with fail
          refine (PH.out _).mono ?_
          rintro e w1 ⟨rfl, rfl⟩
          go_wp2_with fail
          go_ret
          exact ⟨rfl, rfl⟩
      ·have hn : O = true := by
        rw [List.take_of_length_le (by rw [size_toList]; omega)] at hall hdot
        rw [← HO.out, hall, hdot]; rfl
       subst hn
       clear hall hdot
       go_wp2_with fail
       go_ret
       exact ⟨rfl, rfl⟩
  ·rw [decide_eq_false h64] at hO
   have : O = false := by rw [← hO]; rfl
   subst this
   have g1 : ((64 : Int) < s.size) := by omega
   clear hO
   go_enter Tryz.func144, Tryz.ntmps144
   go_wp2_with fail
   go_ret
   exact ⟨rfl, rfl⟩
 ·obtain rfl : s = ⟨#[]⟩ := str_ext (List.eq_nil_of_length_eq_zero (by rw [size_toList]; omega))
  have : O = false := by rw [← hO]; rfl
  subst this
  clear hO h0
  go_enter Tryz.func144, Tryz.ntmps144
  go_wp2_with fail
  go_ret
  exact ⟨rfl, rfl⟩
set_option maxHeartbeats 1000000 in
theorem r19_Resource (s : ByteArray) (w : World) (hs : s.size ≤ 10000) : Calls Tryz.prog 146 #[.string s] w (Ret w (.bool (resP s.data.toList))) := by
 obtain ⟨O, hO⟩ : ∃ O, resP s.data.toList = O := ⟨_, rfl⟩
 rw [hO]
 have I := r5_Is s w hs
 have HO := Lib.hid hO
 obtain ⟨X, hX⟩ : ∃ X, txP s.data.toList = X := ⟨_, rfl⟩
 rw [hX] at I
 have HX := Lib.hid hX
 have IH := Lib.hid I
 clear hO hX I
 go_enter Tryz.func146, Tryz.ntmps146
 go_wp2_with fail
 go_loop [3] (fun i => ∃ k : Nat, k ≤ s.size ∧ i = .int .i64 k ∧ ((s.data.toList.take k).all fun c => decide (32 ≤ c.toNat)) = true) (fun i => s.size - (intOf i).toNat)
 case atStart => exact ⟨0, Nat.zero_le _, rfl, rfl⟩
 case round =>
  obtain ⟨k, hk, rfl, hall⟩ := hrel
  by_cases hlt : k < s.size
  ·have hc := s[k].toNat_lt
   by_cases h32 : 32 ≤ s[k].toNat
   ·have HS := Lib.hid (all_snoc (q := fun c => decide (32 ≤ c.toNat)) s k hlt hall (decide_eq_true h32))
    have g1 : ¬ ((s[k].toNat : Int) < 32) := by omega
    clear hall
    go_wp2_with fail
    go_round
    case rel => exact ⟨k + 1, by omega, by go_num, HS.out⟩
    case measure => simp [intOf]; omega
   ·have hn : O = false := by rw [← HO.out]; unfold resP; rw [all_last (q := fun c => decide (32 ≤ c.toNat)) s k hlt (decide_eq_false h32)]; simp
    subst hn
    have g1 : ((s[k].toNat : Int) < 32) := by omega
    clear hall
    go_wp2_with fail
    go_ret
    exact ⟨rfl, Below.refl _ _⟩
  ·have hO := HO.out
   rw [List.take_of_length_le (by rw [size_toList]; omega)] at hall
   unfold resP at hO
   rw [HX.out, hall, size_toList, Bool.and_true] at hO
   clear hall HO HX
   by_cases h0 : 0 < s.size
   ·have e3 : s.data.toList.isEmpty = false := by rw [← Lib.toList_data]; exact isEmpty_of_pos h0
    rw [e3] at hO
    clear e3
    have g0 : 1 ≤ s.size := h0
    have g1 : ((1 : Int) ≤ s.size) := by omega
    by_cases h64 : s.size ≤ 64
    ·rw [decide_eq_true h64] at hO
     have g2 : ((s.size : Int) ≤ 64) := by omega
     have : X = O := by rw [← hO]; rfl
     subst this
     clear hO
     go_wp2_with fail
     refine IH.out.mono ?_
     rintro e w1 ⟨rfl, hb⟩
     go_wp2_with fail
     go_ret
     exact ⟨rfl, hb⟩
    ·rw [decide_eq_false h64] at hO
     have g2 : ¬ ((s.size : Int) ≤ 64) := by omega
     subst hO
     go_wp2_with fail
     go_ret
     exact ⟨rfl, Below.refl _ _⟩
   ·obtain rfl : s = ⟨#[]⟩ := str_ext (List.eq_nil_of_length_eq_zero (by rw [size_toList]; omega))
    have : O = false := by rw [← hO]; rfl
    subst this
    clear hO h0
    go_wp2_with fail
    go_ret
    exact ⟨rfl, Below.refl _ _⟩
/-- the place of a byte; below 0: it is not there. -/
def atP (c : UInt8) (l : List UInt8) : Int := if l.contains c then ((cA c l).length : Int) else -1
theorem cA_take (c : UInt8) (s : ByteArray) (k : Nat) (hlt : k < s.size) (h : (s.data.toList.take k).contains c = false) : (s[k] = c → atP c s.data.toList = k) ∧ (s[k] ≠ c → (s.data.toList.take (k + 1)).contains c = false) := by
 constructor
 ·intro e
  have hd := drop_cons s k hlt
  have e2 : s.data.toList = s.data.toList.take k ++ c :: s.data.toList.drop (k + 1) := by
   rw [← e, ← hd, List.take_append_drop]
  have hm : c ∉ s.data.toList.take k := by simpa using h
  obtain ⟨a, -⟩ := cA_app c _ (s.data.toList.drop (k + 1)) hm
  rw [← e2] at a
  have hc : s.data.toList.contains c = true := by
   rw [e2]; simp
  unfold atP
  rw [hc, if_pos rfl, a, List.length_take, size_toList]
  congr 1
  omega
 ·intro e
  rw [take_snoc s k hlt, List.contains_append]
  rw [h]
  simp
  exact fun q => e q.symm
set_option maxHeartbeats 1000000 in
theorem r19_at (s : ByteArray) (c : UInt8) (w : World) (hs : s.size ≤ 10000) : Calls Tryz.prog 124 #[.string s, .int .u8 (c.toNat : Int)] w fun e w' => e = .returned (.int .i64 (atP c s.data.toList)) ∧ w' = w := by
 obtain ⟨O, hO⟩ : ∃ O, atP c s.data.toList = O := ⟨_, rfl⟩
 rw [hO]
 have HO := Lib.hid hO
 clear hO
 go_enter Tryz.func124, Tryz.ntmps124
 go_wp2_with fail
 go_loop [5] (fun i => ∃ k : Nat, k ≤ s.size ∧ i = .int .i64 k ∧ (s.data.toList.take k).contains c = false) (fun i => s.size - (intOf i).toNat)
 case atStart => exact ⟨0, Nat.zero_le _, rfl, rfl⟩
 case round =>
  obtain ⟨k, hk, rfl, hall⟩ := hrel
  by_cases hlt : k < s.size
  ·have hc := s[k].toNat_lt
   obtain ⟨h1, h2⟩ := cA_take c s k hlt hall
   by_cases he : s[k] = c
   ·have hn : O = k := by rw [← HO.out, h1 he]
    subst hn
    have g1 : ((s[k].toNat : Int) == c.toNat) = true := by rw [he]; simp
    clear h1 h2 hall he
    go_wp2_with fail
    go_ret
    exact ⟨rfl, rfl⟩
   ·have HS := Lib.hid (h2 he)
    have hq : s[k].toNat ≠ c.toNat := fun e => he (UInt8.toNat_inj.1 e)
    have g1 : ((s[k].toNat : Int) == c.toNat) = false := beq_eq_false_iff_ne.2 (by omega)
    clear h1 h2 hall he
    go_wp2_with fail
    go_round
    case rel => exact ⟨k + 1, by omega, by go_num, HS.out⟩
    case measure => simp [intOf]; omega
  ·rw [List.take_of_length_le (by rw [size_toList]; omega)] at hall
   have hn : O = -1 := by rw [← HO.out]; unfold atP; rw [hall]; rfl
   subst hn
   clear hall
   go_wp2_with fail
   go_ret
   exact ⟨rfl, rfl⟩
end Go.Proofs.YtfonkblbgadhmaaGreatDoor
namespace Go.Proofs.YtfonkblbgadhmaaGreatDoor
open Go.RowKit Go.Lib

theorem may_O (l d r : List UInt8) (A B C : Bool) (hA : (l.isEmpty || locP l) = A) (hB : (r.isEmpty || resP r) = B) (hC : domP d = C) : chkP l d r = (A && B && C) := by
 unfold chkP
 rw [hA, hB, hC]
set_option maxHeartbeats 4000000 in
theorem r19_May (l d r : ByteArray) (w : World) (zl : l.size ≤ 10000) (zd : d.size ≤ 10000) (zr : r.size ≤ 10000) :
  Calls Tryz.prog 126 #[jV l d r] w (Ret w (.bool (chkP l.data.toList d.data.toList r.data.toList))) := by
 have k0 := JAt.new w l d r
 have q0 := (Below.refl w.heap.size w).alloc (Nat.le_refl _) (.cells #[.string l, .string d, .string r] 85)
 obtain ⟨x0, x1, x2, x3, x4⟩ := k0
 have D0 := fun w => r19_Domain d w zd
 have L0 := fun w => r19_Local l w zl
 have R0 := fun w => r19_Resource r w zr
 cases hd : domP d.data.toList with
 | false =>
  rw [may_O _ _ _ _ _ _ rfl rfl hd, Bool.and_false]
  rw [hd] at D0
  have DH := Lib.hid D0
  clear D0 L0 R0 hd
  go_enter Tryz.func126, Tryz.ntmps126
  go_wp2_with fail
  refine (DH.out _).mono ?_
  rintro e w1 ⟨rfl, rfl⟩
  go_wp2_with fail
  go_ret
  exact ⟨rfl, q0⟩
 | true =>
  rw [hd] at D0
  have DH := Lib.hid D0
  clear D0
  cases hl : l.data.toList.isEmpty with
  | true =>
   obtain rfl := nil_facts hl
   cases hr : r.data.toList.isEmpty with
   | true =>
    obtain rfl := nil_facts hr
    rw [may_O _ _ _ true true true (by rw [hl]; rfl) (by rw [hr]; rfl) hd]
    clear L0 R0 hl hr hd
    go_enter Tryz.func126, Tryz.ntmps126
    go_wp2_with fail
    refine (DH.out _).mono ?_
    rintro e w1 ⟨rfl, rfl⟩
    go_wp2_with fail
    go_ret
    exact ⟨rfl, q0⟩
   | false =>
    have er := cons_facts hr
    cases hR : resP r.data.toList with
    | true =>
     rw [may_O _ _ _ true true true (by rw [hl]; rfl) (by rw [hr, hR]; rfl) hd]
     rw [hR] at R0
     have RH := Lib.hid R0
     clear hR
     clear L0 R0 hl hr hd
     go_enter Tryz.func126, Tryz.ntmps126
     go_wp2_with fail
     refine (DH.out _).mono ?_
     rintro e w1 ⟨rfl, rfl⟩
     go_wp2_with fail
     refine (RH.out _).mono ?_
     rintro e w2 ⟨rfl, hb⟩
     have q1 := q0.trans (hb.mono q0.size)
     clear hb
     go_wp2_with fail
     go_ret
     exact ⟨rfl, q1⟩
    | false =>
     rw [may_O _ _ _ true false true (by rw [hl]; rfl) (by rw [hr, hR]; rfl) hd]
     rw [hR] at R0
     have RH := Lib.hid R0
     clear hR
     clear L0 R0 hl hr hd
     go_enter Tryz.func126, Tryz.ntmps126
     go_wp2_with fail
     refine (DH.out _).mono ?_
     rintro e w1 ⟨rfl, rfl⟩
     go_wp2_with fail
     refine (RH.out _).mono ?_
     rintro e w2 ⟨rfl, hb⟩
     have q1 := q0.trans (hb.mono q0.size)
     clear hb
     go_wp2_with fail
     go_ret
     exact ⟨rfl, q1⟩
  | false =>
   have el := cons_facts hl
   cases hL : locP l.data.toList with
   | true =>
    rw [hL] at L0
    have LH := Lib.hid L0
    cases hr : r.data.toList.isEmpty with
    | true =>
     obtain rfl := nil_facts hr
     rw [may_O _ _ _ true true true (by rw [hl, hL]; rfl) (by rw [hr]; rfl) hd]
     clear L0 R0 hl hL hr hd
     go_enter Tryz.func126, Tryz.ntmps126
     go_wp2_with fail
     refine (DH.out _).mono ?_
     rintro e w1 ⟨rfl, rfl⟩
     go_wp2_with fail
     refine (LH.out _).mono ?_
     rintro e w1 ⟨rfl, rfl⟩
     go_wp2_with fail
     go_ret
     exact ⟨rfl, q0⟩
    | false =>
     have er := cons_facts hr
     cases hR : resP r.data.toList with
     | true =>
      rw [may_O _ _ _ true true true (by rw [hl, hL]; rfl) (by rw [hr, hR]; rfl) hd]
      rw [hR] at R0
      have RH := Lib.hid R0
      clear hR
      clear L0 R0 hl hL hr hd
      go_enter Tryz.func126, Tryz.ntmps126
      go_wp2_with fail
      refine (DH.out _).mono ?_
      rintro e w1 ⟨rfl, rfl⟩
      go_wp2_with fail
      refine (LH.out _).mono ?_
      rintro e w1 ⟨rfl, rfl⟩
      go_wp2_with fail
      refine (RH.out _).mono ?_
      rintro e w2 ⟨rfl, hb⟩
      have q1 := q0.trans (hb.mono q0.size)
      clear hb
      go_wp2_with fail
      go_ret
      exact ⟨rfl, q1⟩
     | false =>
      rw [may_O _ _ _ true false true (by rw [hl, hL]; rfl) (by rw [hr, hR]; rfl) hd]
      rw [hR] at R0
      have RH := Lib.hid R0
      clear hR
      clear L0 R0 hl hL hr hd
      go_enter Tryz.func126, Tryz.ntmps126
      go_wp2_with fail
      refine (DH.out _).mono ?_
      rintro e w1 ⟨rfl, rfl⟩
      go_wp2_with fail
      refine (LH.out _).mono ?_
      rintro e w1 ⟨rfl, rfl⟩
      go_wp2_with fail
      refine (RH.out _).mono ?_
      rintro e w2 ⟨rfl, hb⟩
      have q1 := q0.trans (hb.mono q0.size)
      clear hb
      go_wp2_with fail
      go_ret
      exact ⟨rfl, q1⟩
   | false =>
    rw [hL] at L0
    have LH := Lib.hid L0
    rw [may_O _ _ _ false _ _ (by rw [hl, hL]; rfl) rfl hd]
    clear L0 R0 hl hL hd
    go_enter Tryz.func126, Tryz.ntmps126
    go_wp2_with fail
    refine (DH.out _).mono ?_
    rintro e w1 ⟨rfl, rfl⟩
    go_wp2_with fail
    refine (LH.out _).mono ?_
    rintro e w1 ⟨rfl, rfl⟩
    go_wp2_with fail
    go_ret
    exact ⟨rfl, q0⟩
set_option maxHeartbeats 4000000 in
theorem r19_Text (l d r : ByteArray) (w : World) (zl : l.size ≤ 10000) (zd : d.size ≤ 10000) (zr : r.size ≤ 10000) :
  Calls Tryz.prog 111 #[jV l d r] w (Ret w (.string (jB (txtP l.data.toList d.data.toList r.data.toList)))) := by
 have k0 := JAt.new w l d r
 have q0 := (Below.refl w.heap.size w).alloc (Nat.le_refl _) (.cells #[.string l, .string d, .string r] 85)
 obtain ⟨x0, x1, x2, x3, x4⟩ := k0
 obtain ⟨T, hT⟩ : ∃ T, jB (txtP l.data.toList d.data.toList r.data.toList) = T := ⟨_, rfl⟩
 rw [hT]
 have HT := Lib.hid hT
 have n1 : (⟨#[64]⟩ : ByteArray).size = 1 := rfl
 have n2 : (⟨#[47]⟩ : ByteArray).size = 1 := rfl
 clear hT
 cases hl : l.data.toList.isEmpty with
 | true =>
  obtain rfl := nil_facts hl
  cases hr : r.data.toList.isEmpty with
  | true =>
   obtain rfl := nil_facts hr
   have ht : d = T := by rw [← HT.out]; apply str_ext; simp [txtP]
   have HE := Lib.hid ht
   clear ht hl hr
   go_enter Tryz.func111, Tryz.ntmps111
   go_wp2_with fail
   go_ret
   exact ⟨by rw [← HE.out]; rfl, q0⟩
  | false =>
   have er := cons_facts hr
   have ht : d ++ ⟨#[47]⟩ ++ r = T := by rw [← HT.out]; apply str_ext; simp [txtP, hr]
   have HE := Lib.hid ht
   clear ht hl hr
   go_enter Tryz.func111, Tryz.ntmps111
   go_wp2_with fail
   go_ret
   exact ⟨by rw [← HE.out]; rfl, q0⟩
 | false =>
  have el := cons_facts hl
  cases hr : r.data.toList.isEmpty with
  | true =>
   obtain rfl := nil_facts hr
   have ht : l ++ ⟨#[64]⟩ ++ d = T := by rw [← HT.out]; apply str_ext; simp [txtP, hl]
   have HE := Lib.hid ht
   clear ht hl hr
   go_enter Tryz.func111, Tryz.ntmps111
   go_wp2_with fail
   go_ret
   exact ⟨by rw [← HE.out]; rfl, q0⟩
  | false =>
   have er := cons_facts hr
   have ht : l ++ ⟨#[64]⟩ ++ d ++ ⟨#[47]⟩ ++ r = T := by rw [← HT.out]; apply str_ext; simp [txtP, hl, hr]
   have HE := Lib.hid ht
   clear ht hl hr
   go_enter Tryz.func111, Tryz.ntmps111
   go_wp2_with fail
   go_ret
   exact ⟨by rw [← HE.out]; rfl, q0⟩
theorem str_eqb (X Y : ByteArray) (x y : List UInt8) (hx : X.data.toList = x) (hy : Y.data.toList = y) : (X.toList == Y.toList) = decide (x = y) := by
 rw [Lib.toList_data, Lib.toList_data, hx, hy]
 rw [Bool.eq_iff_iff]
 simp
set_option maxHeartbeats 4000000 in
theorem r19_Less (a b c x y z : ByteArray) (w : World) : Calls Tryz.prog 101 #[jV a b c, jV x y z] w (Ret w (.bool (lsP (a.data.toList, b.data.toList, c.data.toList) (x.data.toList, y.data.toList, z.data.toList)))) := by
 have k1 := JAt.new w a b c
 have q1 := (Below.refl w.heap.size w).alloc (Nat.le_refl _) (.cells #[.string a, .string b, .string c] 85)
 have q2 := q1.alloc q1.size (.cells #[.string x, .string y, .string z] 85)
 clear k1
 obtain ⟨A, hA⟩ : ∃ X, a.toList = X := ⟨_, rfl⟩
 obtain ⟨B, hB⟩ : ∃ X, b.toList = X := ⟨_, rfl⟩
 obtain ⟨C, hC⟩ : ∃ X, c.toList = X := ⟨_, rfl⟩
 obtain ⟨X, hX⟩ : ∃ X, x.toList = X := ⟨_, rfl⟩
 obtain ⟨Y, hY⟩ : ∃ X, y.toList = X := ⟨_, rfl⟩
 obtain ⟨Z, hZ⟩ : ∃ X, z.toList = X := ⟨_, rfl⟩
 rw [← Lib.toList_data a, ← Lib.toList_data b, ← Lib.toList_data c, ← Lib.toList_data x, ← Lib.toList_data y, ← Lib.toList_data z, hA, hB, hC, hX, hY, hZ]
 unfold lsP
 dsimp only
 by_cases e1 : B = Y
 ·subst e1
  rw [bl_irr]
  have f1 : (B == B) = true := by simp
  by_cases e2 : A = X
  ·subst e2
   rw [bl_irr]
   have f2 : (A == A) = true := by simp
   cases h : Op.bytesLess C Z with
   | true =>
    go_enter Tryz.func101, Tryz.ntmps101
    go_wp2_with fail
    go_ret
    exact ⟨by first | rfl | (simp [*]), q2⟩
   | false =>
    go_enter Tryz.func101, Tryz.ntmps101
    go_wp2_with fail
    go_ret
    exact ⟨by first | rfl | (simp [*]), q2⟩
  ·have f2 : (A == X) = false := by simpa using e2
   clear e2
   obtain ⟨V, hV⟩ : ∃ V, Op.bytesLess A X = V := ⟨_, rfl⟩
   have hV2 : (false || !false && (V || !Op.bytesLess X A && Op.bytesLess C Z)) = V := by
    rcases bl_tri A X with ⟨h1, h2, h3⟩ | ⟨h1, h2, h3⟩ | ⟨h1, h2, h3⟩
    ·rw [h1] at hV; subst hV; rfl
    ·rw [h1] at hV; subst hV; rw [h2]; rfl
    ·subst h3; simp at f2
   rw [hV, hV2]
   clear hV2
   go_enter Tryz.func101, Tryz.ntmps101
   go_wp2_with fail
   go_ret
   exact ⟨by first | rfl | (simp [*]), q2⟩
 ·have f1 : (B == Y) = false := by simpa using e1
  clear e1
  obtain ⟨V, hV⟩ : ∃ V, Op.bytesLess B Y = V := ⟨_, rfl⟩
  have hV2 : (V || !Op.bytesLess Y B && (Op.bytesLess A X || !Op.bytesLess X A && Op.bytesLess C Z)) = V := by
   rcases bl_tri B Y with ⟨h1, h2, h3⟩ | ⟨h1, h2, h3⟩ | ⟨h1, h2, h3⟩
   ·rw [h1] at hV; subst hV; rfl
   ·rw [h1] at hV; subst hV; rw [h2]; rfl
   ·subst h3; simp at f1
  rw [hV, hV2]
  clear hV2
  go_enter Tryz.func101, Tryz.ntmps101
  go_wp2_with fail
  go_ret
  exact ⟨by first | rfl | (simp [*]), q2⟩
end Go.Proofs.YtfonkblbgadhmaaGreatDoor
namespace Go.Proofs.YtfonkblbgadhmaaGreatDoor
/-- the text that the document's Parse wants the address to have. -/
def wantP (s : List UInt8) : List UInt8 := lowA s ++ (if s.contains 47 then 47 :: jRes s else [])
theorem ref_prs (s : List UInt8) : (chkP (jLoc s) (jDom s) (jRes s) && decide (txtP (jLoc s) (jDom s) (jRes s) = wantP s)) = prsP s := by
 have a : ∃ H, (if (jLoc s).isEmpty then jDom s else jLoc s ++ 64 :: jDom s) = H ∧ (((lowA s).contains 64 && (jLoc s).isEmpty) = true → lowA s = 64 :: H) ∧ (((lowA s).contains 64 && (jLoc s).isEmpty) = false → lowA s = H) := by
  refine ⟨_, rfl, fun h => ?_, fun h => ?_⟩
  ·rw [Bool.and_eq_true] at h
   rw [h.2, if_pos rfl]
   obtain ⟨e, -⟩ := cA_cR 64 (lowA s) (by simpa using h.1)
   have h2 := List.isEmpty_iff.1 h.2
   unfold jLoc at h2
   rw [h.1, if_pos rfl] at h2
   rw [h2] at e
   unfold jDom
   rw [h.1, if_pos rfl]
   exact e
  ·cases hc : (lowA s).contains 64 with
   | false =>
    unfold jLoc jDom
    rw [hc]
    rfl
   | true =>
    rw [hc, Bool.true_and] at h
    rw [h]
    obtain ⟨e, -⟩ := cA_cR 64 (lowA s) (by simpa using hc)
    unfold jLoc jDom
    rw [hc]
    exact e
 have b : ∃ T, (if (jRes s).isEmpty then [] else 47 :: jRes s) = T ∧ ((s.contains 47 && (jRes s).isEmpty) = true → (if s.contains 47 then 47 :: jRes s else []) = 47 :: T) ∧ ((s.contains 47 && (jRes s).isEmpty) = false → (if s.contains 47 then 47 :: jRes s else []) = T) := by
  refine ⟨_, rfl, fun h => ?_, fun h => ?_⟩
  ·rw [Bool.and_eq_true] at h
   rw [h.1, h.2, List.isEmpty_iff.1 h.2]
   rfl
  ·cases hc : s.contains 47 with
   | false =>
    have := cA_not 47 s (by simpa using hc)
    unfold jRes
    rw [this.2]
    rfl
   | true =>
    rw [hc, Bool.true_and] at h
    rw [h]
    rfl
 obtain ⟨H, hH, a1, a2⟩ := a
 obtain ⟨T, hT, b1, b2⟩ := b
 unfold prsP txtP wantP
 rw [hH, hT]
 cases ha : ((lowA s).contains 64 && (jLoc s).isEmpty) with
 | true =>
  rw [a1 ha]
  have : H ++ T ≠ 64 :: H ++ (if s.contains 47 then 47 :: jRes s else []) := by
   intro e
   have e := congrArg List.length e
   cases hb : (s.contains 47 && (jRes s).isEmpty) with
   | true => rw [b1 hb] at e; simp at e; omega
   | false => rw [b2 hb] at e; simp at e
  rw [decide_eq_false this]
  simp
 | false =>
  rw [a2 ha]
  cases hb : (s.contains 47 && (jRes s).isEmpty) with
  | true =>
   rw [b1 hb]
   have : H ++ T ≠ H ++ 47 :: T := by
    intro e
    have e := congrArg List.length e
    simp at e
   rw [decide_eq_false this]
   simp
  | false =>
   rw [b2 hb]
   simp
end Go.Proofs.YtfonkblbgadhmaaGreatDoor
namespace Go.Proofs.YtfonkblbgadhmaaGreatDoor
open Go.RowKit Go.Lib

theorem JAt.set0 {L : Nat} {a b c : ByteArray} {w : World} (h : JAt L a b c w) (x : ByteArray) : JAt L x b c (w.setCell ⟨L, 0, none⟩ (.string x)) := by
 obtain ⟨h0, h1, h2, h3, h4, h5, h6⟩ := h
 constructor <;> simp [go_sem, *]
theorem JAt.set1 {L : Nat} {a b c : ByteArray} {w : World} (h : JAt L a b c w) (x : ByteArray) : JAt L a x c (w.setCell ⟨L, 1, none⟩ (.string x)) := by
 obtain ⟨h0, h1, h2, h3, h4, h5, h6⟩ := h
 constructor <;> simp [go_sem, *]
theorem JAt.other {L M o : Nat} {a b c : ByteArray} {w : World} (h : JAt L a b c w) (hne : L ≠ M) (x : Value) : JAt L a b c (w.setCell ⟨M, o, none⟩ x) := by
 obtain ⟨h0, h1, h2, h3, h4, h5, h6⟩ := h
 constructor <;> simp [go_sem, *]
theorem JAt.two (w : World) (a b c x y z : ByteArray) : JAt w.heap.size a b c ((w.alloc (.cells #[.string a, .string b, .string c] 85)).alloc (.cells #[.string x, .string y, .string z] 85)) ∧ JAt (w.heap.size + 1) x y z ((w.alloc (.cells #[.string a, .string b, .string c] 85)).alloc (.cells #[.string x, .string y, .string z] 85)) := by
 have k1 := JAt.new w a b c
 have k2 := JAt.new (w.alloc (.cells #[.string a, .string b, .string c] 85)) x y z
 rw [World.size_alloc] at k2
 exact ⟨k1.ret ((Below.refl _ _).alloc (Nat.le_refl _) _), k2⟩
set_option maxHeartbeats 4000000 in
theorem r19_Parse_ttTT (s Lo A R X Y T W : ByteArray) (n m : Nat) (w : World)
  (C1 : ∀ w, Calls Tryz.prog 124 #[.string s, .int .u8 47] w fun e w' => e = .returned (.int .i64 n) ∧ w' = w)
  (hn : n < s.size) (hs : s.size ≤ 10000) (hA : s.extract 0 n = A) (hR : s.extract (n + 1) s.size = R)
  (C2 : ∀ w, Calls Tryz.prog 125 #[.string A] w (Ret w (.string Lo)))
  (C3 : ∀ w, Calls Tryz.prog 124 #[.string Lo, .int .u8 64] w fun e w' => e = .returned (.int .i64 m) ∧ w' = w)
  (hlo : Lo.size ≤ 10000)
  (hmm : m < Lo.size) (hX : Lo.extract 0 m = X) (hY : Lo.extract (m + 1) Lo.size = Y)
  (CM : ∀ w, Calls Tryz.prog 126 #[jV X Y R] w (Ret w (.bool true)))
  (hrz : R.size ≤ 10000)
  (CT : ∀ w, Calls Tryz.prog 111 #[jV X Y R] w (Ret w (.string T)))
  (hW : Lo ++ ⟨#[47]⟩ ++ R = W)
  (hE : (T.toList == W.toList) = true) :
  Calls Tryz.prog 110 #[.string s] w (Ret w (.tuple #[jV X Y R, .int .i64 0])) := by
 obtain ⟨kr, kj⟩ := JAt.two w ⟨#[]⟩ ⟨#[]⟩ ⟨#[]⟩ ⟨#[]⟩ ⟨#[]⟩ R
 have q0 := ((Below.refl w.heap.size w).alloc (Nat.le_refl _) (.cells #[.string ⟨#[]⟩, .string ⟨#[]⟩, .string ⟨#[]⟩] 85)).alloc (by simp) (.cells #[.string ⟨#[]⟩, .string ⟨#[]⟩, .string R] 85)
 have H1 := Lib.hid C1
 have H2 := Lib.hid C2
 have H3 := Lib.hid C3
 have HM := Lib.hid CM
 have HT := Lib.hid CT
 have n2 : (⟨#[47]⟩ : ByteArray).size = 1 := rfl
 clear C1 C2 C3 CM CT
 go_enter Tryz.func110, Tryz.ntmps110
 go_wp2_with fail
 refine (H1.out _).mono ?_
 rintro e w1 ⟨rfl, rfl⟩
 go_wp2_with fail
 refine (H2.out _).mono ?_
 rintro e w2 ⟨rfl, hb⟩
 have kr2 := kr.ret hb
 have kj2 := kj.ret hb
 have q2 := q0.trans (hb.mono q0.size)
 clear hb kr kj q0
 obtain ⟨x0, x1, x2, x3, x4, x5, x6⟩ := id kj2
 obtain ⟨y0, y1, y2, y3, y4, y5, y6⟩ := id kr2
 go_wp2_with fail
 refine (H3.out _).mono ?_
 rintro e w3 ⟨rfl, rfl⟩
 have kr3 := kr2.other (M := w.heap.size + 1) (o := 1) (by omega) (.string Lo)
 have kj3 := kj2.set1 Lo
 have q3 := q2.setCell (p := ⟨w.heap.size + 1, 1, none⟩) (Nat.le_succ _) (.string Lo)
 clear kr2 kj2 q2
 have kr4 := (kr3.other (M := w.heap.size + 1) (o := 0) (by omega) (.string X)).other (M := w.heap.size + 1) (o := 1) (by omega) (.string Y)
 have kj4 := (kj3.set0 X).set1 Y
 have q4 := (q3.setCell (p := ⟨w.heap.size + 1, 0, none⟩) (Nat.le_succ _) (.string X)).setCell (p := ⟨w.heap.size + 1, 1, none⟩) (Nat.le_succ _) (.string Y)
 clear kr3 kj3 q3
 go_wp2_with fail
 refine (HM.out _).mono ?_
 rintro e w5 ⟨rfl, hb⟩
 have kr5 := kr4.ret hb
 have kj5 := kj4.ret hb
 have q5 := q4.trans (hb.mono q4.size)
 clear hb kr4 kj4 q4 x0 x1 x2 x3 x4 x5 x6 y0 y1 y2 y3 y4 y5 y6
 obtain ⟨x0, x1, x2, x3, x4, x5, x6⟩ := id kj5
 go_wp2_with fail
 refine (HT.out _).mono ?_
 rintro e w6 ⟨rfl, hb⟩
 have kr6 := kr5.ret hb
 have kj6 := kj5.ret hb
 have q6 := q5.trans (hb.mono q5.size)
 clear hb kr5 kj5 q5 x0 x1 x2 x3 x4 x5 x6
 obtain ⟨x0, x1, x2, x3, x4, x5, x6⟩ := kj6
 obtain ⟨y0, y1, y2, y3, y4, y5, y6⟩ := kr6
 go_wp2_with fail
 refine bodyPost_ret (ret_jid rfl rfl rfl ((JAt.mk y0 y1 y2 y3 y4 y5 y6).set3 _ _ _)) rfl ⟨rfl, jset_below q6 (Nat.le_refl _) _ _ _⟩
set_option maxHeartbeats 4000000 in
theorem r19_Parse_ttTN (s Lo A R X Y T W : ByteArray) (n m : Nat) (w : World)
  (C1 : ∀ w, Calls Tryz.prog 124 #[.string s, .int .u8 47] w fun e w' => e = .returned (.int .i64 n) ∧ w' = w)
  (hn : n < s.size) (hs : s.size ≤ 10000) (hA : s.extract 0 n = A) (hR : s.extract (n + 1) s.size = R)
  (C2 : ∀ w, Calls Tryz.prog 125 #[.string A] w (Ret w (.string Lo)))
  (C3 : ∀ w, Calls Tryz.prog 124 #[.string Lo, .int .u8 64] w fun e w' => e = .returned (.int .i64 m) ∧ w' = w)
  (hlo : Lo.size ≤ 10000)
  (hmm : m < Lo.size) (hX : Lo.extract 0 m = X) (hY : Lo.extract (m + 1) Lo.size = Y)
  (CM : ∀ w, Calls Tryz.prog 126 #[jV X Y R] w (Ret w (.bool true)))
  (hrz : R.size ≤ 10000)
  (CT : ∀ w, Calls Tryz.prog 111 #[jV X Y R] w (Ret w (.string T)))
  (hW : Lo ++ ⟨#[47]⟩ ++ R = W)
  (hE : (T.toList == W.toList) = false) :
  Calls Tryz.prog 110 #[.string s] w (Ret w (.tuple #[jV ⟨#[]⟩ ⟨#[]⟩ ⟨#[]⟩, .int .i64 190])) := by
 obtain ⟨kr, kj⟩ := JAt.two w ⟨#[]⟩ ⟨#[]⟩ ⟨#[]⟩ ⟨#[]⟩ ⟨#[]⟩ R
 have q0 := ((Below.refl w.heap.size w).alloc (Nat.le_refl _) (.cells #[.string ⟨#[]⟩, .string ⟨#[]⟩, .string ⟨#[]⟩] 85)).alloc (by simp) (.cells #[.string ⟨#[]⟩, .string ⟨#[]⟩, .string R] 85)
 have H1 := Lib.hid C1
 have H2 := Lib.hid C2
 have H3 := Lib.hid C3
 have HM := Lib.hid CM
 have HT := Lib.hid CT
 have n2 : (⟨#[47]⟩ : ByteArray).size = 1 := rfl
 clear C1 C2 C3 CM CT
 go_enter Tryz.func110, Tryz.ntmps110
 go_wp2_with fail
 refine (H1.out _).mono ?_
 rintro e w1 ⟨rfl, rfl⟩
 go_wp2_with fail
 refine (H2.out _).mono ?_
 rintro e w2 ⟨rfl, hb⟩
 have kr2 := kr.ret hb
 have kj2 := kj.ret hb
 have q2 := q0.trans (hb.mono q0.size)
 clear hb kr kj q0
 obtain ⟨x0, x1, x2, x3, x4, x5, x6⟩ := id kj2
 obtain ⟨y0, y1, y2, y3, y4, y5, y6⟩ := id kr2
 go_wp2_with fail
 refine (H3.out _).mono ?_
 rintro e w3 ⟨rfl, rfl⟩
 have kr3 := kr2.other (M := w.heap.size + 1) (o := 1) (by omega) (.string Lo)
 have kj3 := kj2.set1 Lo
 have q3 := q2.setCell (p := ⟨w.heap.size + 1, 1, none⟩) (Nat.le_succ _) (.string Lo)
 clear kr2 kj2 q2
 have kr4 := (kr3.other (M := w.heap.size + 1) (o := 0) (by omega) (.string X)).other (M := w.heap.size + 1) (o := 1) (by omega) (.string Y)
 have kj4 := (kj3.set0 X).set1 Y
 have q4 := (q3.setCell (p := ⟨w.heap.size + 1, 0, none⟩) (Nat.le_succ _) (.string X)).setCell (p := ⟨w.heap.size + 1, 1, none⟩) (Nat.le_succ _) (.string Y)
 clear kr3 kj3 q3
 go_wp2_with fail
 refine (HM.out _).mono ?_
 rintro e w5 ⟨rfl, hb⟩
 have kr5 := kr4.ret hb
 have kj5 := kj4.ret hb
 have q5 := q4.trans (hb.mono q4.size)
 clear hb kr4 kj4 q4 x0 x1 x2 x3 x4 x5 x6 y0 y1 y2 y3 y4 y5 y6
 obtain ⟨x0, x1, x2, x3, x4, x5, x6⟩ := id kj5
 go_wp2_with fail
 refine (HT.out _).mono ?_
 rintro e w6 ⟨rfl, hb⟩
 have kr6 := kr5.ret hb
 have kj6 := kj5.ret hb
 have q6 := q5.trans (hb.mono q5.size)
 clear hb kr5 kj5 q5 x0 x1 x2 x3 x4 x5 x6
 obtain ⟨x0, x1, x2, x3, x4, x5, x6⟩ := kj6
 obtain ⟨y0, y1, y2, y3, y4, y5, y6⟩ := kr6
 go_wp2_with fail
 refine bodyPost_ret (ret_jid rfl rfl rfl ((JAt.mk y0 y1 y2 y3 y4 y5 y6).set3 _ _ _)) rfl ⟨rfl, jset_below q6 (Nat.le_refl _) _ _ _⟩
set_option maxHeartbeats 4000000 in
theorem r19_Parse_ttF (s Lo A R X Y : ByteArray) (n m : Nat) (w : World)
  (C1 : ∀ w, Calls Tryz.prog 124 #[.string s, .int .u8 47] w fun e w' => e = .returned (.int .i64 n) ∧ w' = w)
  (hn : n < s.size) (hs : s.size ≤ 10000) (hA : s.extract 0 n = A) (hR : s.extract (n + 1) s.size = R)
  (C2 : ∀ w, Calls Tryz.prog 125 #[.string A] w (Ret w (.string Lo)))
  (C3 : ∀ w, Calls Tryz.prog 124 #[.string Lo, .int .u8 64] w fun e w' => e = .returned (.int .i64 m) ∧ w' = w)
  (hlo : Lo.size ≤ 10000)
  (hmm : m < Lo.size) (hX : Lo.extract 0 m = X) (hY : Lo.extract (m + 1) Lo.size = Y)
  (CM : ∀ w, Calls Tryz.prog 126 #[jV X Y R] w (Ret w (.bool false)))
  (hrz : R.size ≤ 10000) :
  Calls Tryz.prog 110 #[.string s] w (Ret w (.tuple #[jV ⟨#[]⟩ ⟨#[]⟩ ⟨#[]⟩, .int .i64 190])) := by
 obtain ⟨kr, kj⟩ := JAt.two w ⟨#[]⟩ ⟨#[]⟩ ⟨#[]⟩ ⟨#[]⟩ ⟨#[]⟩ R
 have q0 := ((Below.refl w.heap.size w).alloc (Nat.le_refl _) (.cells #[.string ⟨#[]⟩, .string ⟨#[]⟩, .string ⟨#[]⟩] 85)).alloc (by simp) (.cells #[.string ⟨#[]⟩, .string ⟨#[]⟩, .string R] 85)
 have H1 := Lib.hid C1
 have H2 := Lib.hid C2
 have H3 := Lib.hid C3
 have HM := Lib.hid CM
 skip
 have n2 : (⟨#[47]⟩ : ByteArray).size = 1 := rfl
 clear C1 C2 C3 CM 
 go_enter Tryz.func110, Tryz.ntmps110
 go_wp2_with fail
 refine (H1.out _).mono ?_
 rintro e w1 ⟨rfl, rfl⟩
 go_wp2_with fail
 refine (H2.out _).mono ?_
 rintro e w2 ⟨rfl, hb⟩
 have kr2 := kr.ret hb
 have kj2 := kj.ret hb
 have q2 := q0.trans (hb.mono q0.size)
 clear hb kr kj q0
 obtain ⟨x0, x1, x2, x3, x4, x5, x6⟩ := id kj2
 obtain ⟨y0, y1, y2, y3, y4, y5, y6⟩ := id kr2
 go_wp2_with fail
 refine (H3.out _).mono ?_
 rintro e w3 ⟨rfl, rfl⟩
 have kr3 := kr2.other (M := w.heap.size + 1) (o := 1) (by omega) (.string Lo)
 have kj3 := kj2.set1 Lo
 have q3 := q2.setCell (p := ⟨w.heap.size + 1, 1, none⟩) (Nat.le_succ _) (.string Lo)
 clear kr2 kj2 q2
 have kr4 := (kr3.other (M := w.heap.size + 1) (o := 0) (by omega) (.string X)).other (M := w.heap.size + 1) (o := 1) (by omega) (.string Y)
 have kj4 := (kj3.set0 X).set1 Y
 have q4 := (q3.setCell (p := ⟨w.heap.size + 1, 0, none⟩) (Nat.le_succ _) (.string X)).setCell (p := ⟨w.heap.size + 1, 1, none⟩) (Nat.le_succ _) (.string Y)
 clear kr3 kj3 q3
 go_wp2_with fail
 refine (HM.out _).mono ?_
 rintro e w5 ⟨rfl, hb⟩
 have kr5 := kr4.ret hb
 have kj5 := kj4.ret hb
 have q5 := q4.trans (hb.mono q4.size)
 clear hb kr4 kj4 q4 x0 x1 x2 x3 x4 x5 x6 y0 y1 y2 y3 y4 y5 y6
 obtain ⟨x0, x1, x2, x3, x4, x5, x6⟩ := kj5
 obtain ⟨y0, y1, y2, y3, y4, y5, y6⟩ := kr5
 go_wp2_with fail
 refine bodyPost_ret (ret_jid rfl rfl rfl ((JAt.mk y0 y1 y2 y3 y4 y5 y6).set3 _ _ _)) rfl ⟨rfl, jset_below q5 (Nat.le_refl _) _ _ _⟩
set_option maxHeartbeats 4000000 in
theorem r19_Parse_tfTT (s Lo A R T W : ByteArray) (n : Nat) (w : World)
  (C1 : ∀ w, Calls Tryz.prog 124 #[.string s, .int .u8 47] w fun e w' => e = .returned (.int .i64 n) ∧ w' = w)
  (hn : n < s.size) (hs : s.size ≤ 10000) (hA : s.extract 0 n = A) (hR : s.extract (n + 1) s.size = R)
  (C2 : ∀ w, Calls Tryz.prog 125 #[.string A] w (Ret w (.string Lo)))
  (C3 : ∀ w, Calls Tryz.prog 124 #[.string Lo, .int .u8 64] w fun e w' => e = .returned (.int .i64 (-1)) ∧ w' = w)
  (hlo : Lo.size ≤ 10000)
  (CM : ∀ w, Calls Tryz.prog 126 #[jV ⟨#[]⟩ Lo R] w (Ret w (.bool true)))
  (hrz : R.size ≤ 10000)
  (CT : ∀ w, Calls Tryz.prog 111 #[jV ⟨#[]⟩ Lo R] w (Ret w (.string T)))
  (hW : Lo ++ ⟨#[47]⟩ ++ R = W)
  (hE : (T.toList == W.toList) = true) :
  Calls Tryz.prog 110 #[.string s] w (Ret w (.tuple #[jV ⟨#[]⟩ Lo R, .int .i64 0])) := by
 obtain ⟨kr, kj⟩ := JAt.two w ⟨#[]⟩ ⟨#[]⟩ ⟨#[]⟩ ⟨#[]⟩ ⟨#[]⟩ R
 have q0 := ((Below.refl w.heap.size w).alloc (Nat.le_refl _) (.cells #[.string ⟨#[]⟩, .string ⟨#[]⟩, .string ⟨#[]⟩] 85)).alloc (by simp) (.cells #[.string ⟨#[]⟩, .string ⟨#[]⟩, .string R] 85)
 have H1 := Lib.hid C1
 have H2 := Lib.hid C2
 have H3 := Lib.hid C3
 have HM := Lib.hid CM
 have HT := Lib.hid CT
 have n2 : (⟨#[47]⟩ : ByteArray).size = 1 := rfl
 clear C1 C2 C3 CM CT
 go_enter Tryz.func110, Tryz.ntmps110
 go_wp2_with fail
 refine (H1.out _).mono ?_
 rintro e w1 ⟨rfl, rfl⟩
 go_wp2_with fail
 refine (H2.out _).mono ?_
 rintro e w2 ⟨rfl, hb⟩
 have kr2 := kr.ret hb
 have kj2 := kj.ret hb
 have q2 := q0.trans (hb.mono q0.size)
 clear hb kr kj q0
 obtain ⟨x0, x1, x2, x3, x4, x5, x6⟩ := id kj2
 obtain ⟨y0, y1, y2, y3, y4, y5, y6⟩ := id kr2
 go_wp2_with fail
 refine (H3.out _).mono ?_
 rintro e w3 ⟨rfl, rfl⟩
 have kr3 := kr2.other (M := w.heap.size + 1) (o := 1) (by omega) (.string Lo)
 have kj3 := kj2.set1 Lo
 have q3 := q2.setCell (p := ⟨w.heap.size + 1, 1, none⟩) (Nat.le_succ _) (.string Lo)
 clear kr2 kj2 q2
 have kr4 := kr3
 have kj4 := kj3
 have q4 := q3
 clear kr3 kj3 q3
 go_wp2_with fail
 refine (HM.out _).mono ?_
 rintro e w5 ⟨rfl, hb⟩
 have kr5 := kr4.ret hb
 have kj5 := kj4.ret hb
 have q5 := q4.trans (hb.mono q4.size)
 clear hb kr4 kj4 q4 x0 x1 x2 x3 x4 x5 x6 y0 y1 y2 y3 y4 y5 y6
 obtain ⟨x0, x1, x2, x3, x4, x5, x6⟩ := id kj5
 go_wp2_with fail
 refine (HT.out _).mono ?_
 rintro e w6 ⟨rfl, hb⟩
 have kr6 := kr5.ret hb
 have kj6 := kj5.ret hb
 have q6 := q5.trans (hb.mono q5.size)
 clear hb kr5 kj5 q5 x0 x1 x2 x3 x4 x5 x6
 obtain ⟨x0, x1, x2, x3, x4, x5, x6⟩ := kj6
 obtain ⟨y0, y1, y2, y3, y4, y5, y6⟩ := kr6
 go_wp2_with fail
 refine bodyPost_ret (ret_jid rfl rfl rfl ((JAt.mk y0 y1 y2 y3 y4 y5 y6).set3 _ _ _)) rfl ⟨rfl, jset_below q6 (Nat.le_refl _) _ _ _⟩
set_option maxHeartbeats 4000000 in
theorem r19_Parse_tfTN (s Lo A R T W : ByteArray) (n : Nat) (w : World)
  (C1 : ∀ w, Calls Tryz.prog 124 #[.string s, .int .u8 47] w fun e w' => e = .returned (.int .i64 n) ∧ w' = w)
  (hn : n < s.size) (hs : s.size ≤ 10000) (hA : s.extract 0 n = A) (hR : s.extract (n + 1) s.size = R)
  (C2 : ∀ w, Calls Tryz.prog 125 #[.string A] w (Ret w (.string Lo)))
  (C3 : ∀ w, Calls Tryz.prog 124 #[.string Lo, .int .u8 64] w fun e w' => e = .returned (.int .i64 (-1)) ∧ w' = w)
  (hlo : Lo.size ≤ 10000)
  (CM : ∀ w, Calls Tryz.prog 126 #[jV ⟨#[]⟩ Lo R] w (Ret w (.bool true)))
  (hrz : R.size ≤ 10000)
  (CT : ∀ w, Calls Tryz.prog 111 #[jV ⟨#[]⟩ Lo R] w (Ret w (.string T)))
  (hW : Lo ++ ⟨#[47]⟩ ++ R = W)
  (hE : (T.toList == W.toList) = false) :
  Calls Tryz.prog 110 #[.string s] w (Ret w (.tuple #[jV ⟨#[]⟩ ⟨#[]⟩ ⟨#[]⟩, .int .i64 190])) := by
 obtain ⟨kr, kj⟩ := JAt.two w ⟨#[]⟩ ⟨#[]⟩ ⟨#[]⟩ ⟨#[]⟩ ⟨#[]⟩ R
 have q0 := ((Below.refl w.heap.size w).alloc (Nat.le_refl _) (.cells #[.string ⟨#[]⟩, .string ⟨#[]⟩, .string ⟨#[]⟩] 85)).alloc (by simp) (.cells #[.string ⟨#[]⟩, .string ⟨#[]⟩, .string R] 85)
 have H1 := Lib.hid C1
 have H2 := Lib.hid C2
 have H3 := Lib.hid C3
 have HM := Lib.hid CM
 have HT := Lib.hid CT
 have n2 : (⟨#[47]⟩ : ByteArray).size = 1 := rfl
 clear C1 C2 C3 CM CT
 go_enter Tryz.func110, Tryz.ntmps110
 go_wp2_with fail
 refine (H1.out _).mono ?_
 rintro e w1 ⟨rfl, rfl⟩
 go_wp2_with fail
 refine (H2.out _).mono ?_
 rintro e w2 ⟨rfl, hb⟩
 have kr2 := kr.ret hb
 have kj2 := kj.ret hb
 have q2 := q0.trans (hb.mono q0.size)
 clear hb kr kj q0
 obtain ⟨x0, x1, x2, x3, x4, x5, x6⟩ := id kj2
 obtain ⟨y0, y1, y2, y3, y4, y5, y6⟩ := id kr2
 go_wp2_with fail
 refine (H3.out _).mono ?_
 rintro e w3 ⟨rfl, rfl⟩
 have kr3 := kr2.other (M := w.heap.size + 1) (o := 1) (by omega) (.string Lo)
 have kj3 := kj2.set1 Lo
 have q3 := q2.setCell (p := ⟨w.heap.size + 1, 1, none⟩) (Nat.le_succ _) (.string Lo)
 clear kr2 kj2 q2
 have kr4 := kr3
 have kj4 := kj3
 have q4 := q3
 clear kr3 kj3 q3
 go_wp2_with fail
 refine (HM.out _).mono ?_
 rintro e w5 ⟨rfl, hb⟩
 have kr5 := kr4.ret hb
 have kj5 := kj4.ret hb
 have q5 := q4.trans (hb.mono q4.size)
 clear hb kr4 kj4 q4 x0 x1 x2 x3 x4 x5 x6 y0 y1 y2 y3 y4 y5 y6
 obtain ⟨x0, x1, x2, x3, x4, x5, x6⟩ := id kj5
 go_wp2_with fail
 refine (HT.out _).mono ?_
 rintro e w6 ⟨rfl, hb⟩
 have kr6 := kr5.ret hb
 have kj6 := kj5.ret hb
 have q6 := q5.trans (hb.mono q5.size)
 clear hb kr5 kj5 q5 x0 x1 x2 x3 x4 x5 x6
 obtain ⟨x0, x1, x2, x3, x4, x5, x6⟩ := kj6
 obtain ⟨y0, y1, y2, y3, y4, y5, y6⟩ := kr6
 go_wp2_with fail
 refine bodyPost_ret (ret_jid rfl rfl rfl ((JAt.mk y0 y1 y2 y3 y4 y5 y6).set3 _ _ _)) rfl ⟨rfl, jset_below q6 (Nat.le_refl _) _ _ _⟩
set_option maxHeartbeats 4000000 in
theorem r19_Parse_tfF (s Lo A R : ByteArray) (n : Nat) (w : World)
  (C1 : ∀ w, Calls Tryz.prog 124 #[.string s, .int .u8 47] w fun e w' => e = .returned (.int .i64 n) ∧ w' = w)
  (hn : n < s.size) (hs : s.size ≤ 10000) (hA : s.extract 0 n = A) (hR : s.extract (n + 1) s.size = R)
  (C2 : ∀ w, Calls Tryz.prog 125 #[.string A] w (Ret w (.string Lo)))
  (C3 : ∀ w, Calls Tryz.prog 124 #[.string Lo, .int .u8 64] w fun e w' => e = .returned (.int .i64 (-1)) ∧ w' = w)
  (hlo : Lo.size ≤ 10000)
  (CM : ∀ w, Calls Tryz.prog 126 #[jV ⟨#[]⟩ Lo R] w (Ret w (.bool false)))
  (hrz : R.size ≤ 10000) :
  Calls Tryz.prog 110 #[.string s] w (Ret w (.tuple #[jV ⟨#[]⟩ ⟨#[]⟩ ⟨#[]⟩, .int .i64 190])) := by
 obtain ⟨kr, kj⟩ := JAt.two w ⟨#[]⟩ ⟨#[]⟩ ⟨#[]⟩ ⟨#[]⟩ ⟨#[]⟩ R
 have q0 := ((Below.refl w.heap.size w).alloc (Nat.le_refl _) (.cells #[.string ⟨#[]⟩, .string ⟨#[]⟩, .string ⟨#[]⟩] 85)).alloc (by simp) (.cells #[.string ⟨#[]⟩, .string ⟨#[]⟩, .string R] 85)
 have H1 := Lib.hid C1
 have H2 := Lib.hid C2
 have H3 := Lib.hid C3
 have HM := Lib.hid CM
 skip
 have n2 : (⟨#[47]⟩ : ByteArray).size = 1 := rfl
 clear C1 C2 C3 CM 
 go_enter Tryz.func110, Tryz.ntmps110
 go_wp2_with fail
 refine (H1.out _).mono ?_
 rintro e w1 ⟨rfl, rfl⟩
 go_wp2_with fail
 refine (H2.out _).mono ?_
 rintro e w2 ⟨rfl, hb⟩
 have kr2 := kr.ret hb
 have kj2 := kj.ret hb
 have q2 := q0.trans (hb.mono q0.size)
 clear hb kr kj q0
 obtain ⟨x0, x1, x2, x3, x4, x5, x6⟩ := id kj2
 obtain ⟨y0, y1, y2, y3, y4, y5, y6⟩ := id kr2
 go_wp2_with fail
 refine (H3.out _).mono ?_
 rintro e w3 ⟨rfl, rfl⟩
 have kr3 := kr2.other (M := w.heap.size + 1) (o := 1) (by omega) (.string Lo)
 have kj3 := kj2.set1 Lo
 have q3 := q2.setCell (p := ⟨w.heap.size + 1, 1, none⟩) (Nat.le_succ _) (.string Lo)
 clear kr2 kj2 q2
 have kr4 := kr3
 have kj4 := kj3
 have q4 := q3
 clear kr3 kj3 q3
 go_wp2_with fail
 refine (HM.out _).mono ?_
 rintro e w5 ⟨rfl, hb⟩
 have kr5 := kr4.ret hb
 have kj5 := kj4.ret hb
 have q5 := q4.trans (hb.mono q4.size)
 clear hb kr4 kj4 q4 x0 x1 x2 x3 x4 x5 x6 y0 y1 y2 y3 y4 y5 y6
 obtain ⟨x0, x1, x2, x3, x4, x5, x6⟩ := kj5
 obtain ⟨y0, y1, y2, y3, y4, y5, y6⟩ := kr5
 go_wp2_with fail
 refine bodyPost_ret (ret_jid rfl rfl rfl ((JAt.mk y0 y1 y2 y3 y4 y5 y6).set3 _ _ _)) rfl ⟨rfl, jset_below q5 (Nat.le_refl _) _ _ _⟩
set_option maxHeartbeats 4000000 in
theorem r19_Parse_ftTT (s Lo X Y T : ByteArray) (m : Nat) (w : World)
  (C1 : ∀ w, Calls Tryz.prog 124 #[.string s, .int .u8 47] w fun e w' => e = .returned (.int .i64 (-1)) ∧ w' = w)
  (C2 : ∀ w, Calls Tryz.prog 125 #[.string s] w (Ret w (.string Lo)))
  (C3 : ∀ w, Calls Tryz.prog 124 #[.string Lo, .int .u8 64] w fun e w' => e = .returned (.int .i64 m) ∧ w' = w)
  (hlo : Lo.size ≤ 10000)
  (hmm : m < Lo.size) (hX : Lo.extract 0 m = X) (hY : Lo.extract (m + 1) Lo.size = Y)
  (CM : ∀ w, Calls Tryz.prog 126 #[jV X Y ⟨#[]⟩] w (Ret w (.bool true)))
  (CT : ∀ w, Calls Tryz.prog 111 #[jV X Y ⟨#[]⟩] w (Ret w (.string T)))
  (hE : (T.toList == Lo.toList) = true) :
  Calls Tryz.prog 110 #[.string s] w (Ret w (.tuple #[jV X Y ⟨#[]⟩, .int .i64 0])) := by
 obtain ⟨kr, kj⟩ := JAt.two w ⟨#[]⟩ ⟨#[]⟩ ⟨#[]⟩ ⟨#[]⟩ ⟨#[]⟩ ⟨#[]⟩
 have q0 := ((Below.refl w.heap.size w).alloc (Nat.le_refl _) (.cells #[.string ⟨#[]⟩, .string ⟨#[]⟩, .string ⟨#[]⟩] 85)).alloc (by simp) (.cells #[.string ⟨#[]⟩, .string ⟨#[]⟩, .string ⟨#[]⟩] 85)
 have H1 := Lib.hid C1
 have H2 := Lib.hid C2
 have H3 := Lib.hid C3
 have HM := Lib.hid CM
 have HT := Lib.hid CT
 have n2 : (⟨#[47]⟩ : ByteArray).size = 1 := rfl
 clear C1 C2 C3 CM CT
 go_enter Tryz.func110, Tryz.ntmps110
 go_wp2_with fail
 refine (H1.out _).mono ?_
 rintro e w1 ⟨rfl, rfl⟩
 go_wp2_with fail
 refine (H2.out _).mono ?_
 rintro e w2 ⟨rfl, hb⟩
 have kr2 := kr.ret hb
 have kj2 := kj.ret hb
 have q2 := q0.trans (hb.mono q0.size)
 clear hb kr kj q0
 obtain ⟨x0, x1, x2, x3, x4, x5, x6⟩ := id kj2
 obtain ⟨y0, y1, y2, y3, y4, y5, y6⟩ := id kr2
 go_wp2_with fail
 refine (H3.out _).mono ?_
 rintro e w3 ⟨rfl, rfl⟩
 have kr3 := kr2.other (M := w.heap.size + 1) (o := 1) (by omega) (.string Lo)
 have kj3 := kj2.set1 Lo
 have q3 := q2.setCell (p := ⟨w.heap.size + 1, 1, none⟩) (Nat.le_succ _) (.string Lo)
 clear kr2 kj2 q2
 have kr4 := (kr3.other (M := w.heap.size + 1) (o := 0) (by omega) (.string X)).other (M := w.heap.size + 1) (o := 1) (by omega) (.string Y)
 have kj4 := (kj3.set0 X).set1 Y
 have q4 := (q3.setCell (p := ⟨w.heap.size + 1, 0, none⟩) (Nat.le_succ _) (.string X)).setCell (p := ⟨w.heap.size + 1, 1, none⟩) (Nat.le_succ _) (.string Y)
 clear kr3 kj3 q3
 go_wp2_with fail
 refine (HM.out _).mono ?_
 rintro e w5 ⟨rfl, hb⟩
 have kr5 := kr4.ret hb
 have kj5 := kj4.ret hb
 have q5 := q4.trans (hb.mono q4.size)
 clear hb kr4 kj4 q4 x0 x1 x2 x3 x4 x5 x6 y0 y1 y2 y3 y4 y5 y6
 obtain ⟨x0, x1, x2, x3, x4, x5, x6⟩ := id kj5
 go_wp2_with fail
 refine (HT.out _).mono ?_
 rintro e w6 ⟨rfl, hb⟩
 have kr6 := kr5.ret hb
 have kj6 := kj5.ret hb
 have q6 := q5.trans (hb.mono q5.size)
 clear hb kr5 kj5 q5 x0 x1 x2 x3 x4 x5 x6
 obtain ⟨x0, x1, x2, x3, x4, x5, x6⟩ := kj6
 obtain ⟨y0, y1, y2, y3, y4, y5, y6⟩ := kr6
 go_wp2_with fail
 refine bodyPost_ret (ret_jid rfl rfl rfl ((JAt.mk y0 y1 y2 y3 y4 y5 y6).set3 _ _ _)) rfl ⟨rfl, jset_below q6 (Nat.le_refl _) _ _ _⟩
set_option maxHeartbeats 4000000 in
theorem r19_Parse_ftTN (s Lo X Y T : ByteArray) (m : Nat) (w : World)
  (C1 : ∀ w, Calls Tryz.prog 124 #[.string s, .int .u8 47] w fun e w' => e = .returned (.int .i64 (-1)) ∧ w' = w)
  (C2 : ∀ w, Calls Tryz.prog 125 #[.string s] w (Ret w (.string Lo)))
  (C3 : ∀ w, Calls Tryz.prog 124 #[.string Lo, .int .u8 64] w fun e w' => e = .returned (.int .i64 m) ∧ w' = w)
  (hlo : Lo.size ≤ 10000)
  (hmm : m < Lo.size) (hX : Lo.extract 0 m = X) (hY : Lo.extract (m + 1) Lo.size = Y)
  (CM : ∀ w, Calls Tryz.prog 126 #[jV X Y ⟨#[]⟩] w (Ret w (.bool true)))
  (CT : ∀ w, Calls Tryz.prog 111 #[jV X Y ⟨#[]⟩] w (Ret w (.string T)))
  (hE : (T.toList == Lo.toList) = false) :
  Calls Tryz.prog 110 #[.string s] w (Ret w (.tuple #[jV ⟨#[]⟩ ⟨#[]⟩ ⟨#[]⟩, .int .i64 190])) := by
 obtain ⟨kr, kj⟩ := JAt.two w ⟨#[]⟩ ⟨#[]⟩ ⟨#[]⟩ ⟨#[]⟩ ⟨#[]⟩ ⟨#[]⟩
 have q0 := ((Below.refl w.heap.size w).alloc (Nat.le_refl _) (.cells #[.string ⟨#[]⟩, .string ⟨#[]⟩, .string ⟨#[]⟩] 85)).alloc (by simp) (.cells #[.string ⟨#[]⟩, .string ⟨#[]⟩, .string ⟨#[]⟩] 85)
 have H1 := Lib.hid C1
 have H2 := Lib.hid C2
 have H3 := Lib.hid C3
 have HM := Lib.hid CM
 have HT := Lib.hid CT
 have n2 : (⟨#[47]⟩ : ByteArray).size = 1 := rfl
 clear C1 C2 C3 CM CT
 go_enter Tryz.func110, Tryz.ntmps110
 go_wp2_with fail
 refine (H1.out _).mono ?_
 rintro e w1 ⟨rfl, rfl⟩
 go_wp2_with fail
 refine (H2.out _).mono ?_
 rintro e w2 ⟨rfl, hb⟩
 have kr2 := kr.ret hb
 have kj2 := kj.ret hb
 have q2 := q0.trans (hb.mono q0.size)
 clear hb kr kj q0
 obtain ⟨x0, x1, x2, x3, x4, x5, x6⟩ := id kj2
 obtain ⟨y0, y1, y2, y3, y4, y5, y6⟩ := id kr2
 go_wp2_with fail
 refine (H3.out _).mono ?_
 rintro e w3 ⟨rfl, rfl⟩
 have kr3 := kr2.other (M := w.heap.size + 1) (o := 1) (by omega) (.string Lo)
 have kj3 := kj2.set1 Lo
 have q3 := q2.setCell (p := ⟨w.heap.size + 1, 1, none⟩) (Nat.le_succ _) (.string Lo)
 clear kr2 kj2 q2
 have kr4 := (kr3.other (M := w.heap.size + 1) (o := 0) (by omega) (.string X)).other (M := w.heap.size + 1) (o := 1) (by omega) (.string Y)
 have kj4 := (kj3.set0 X).set1 Y
 have q4 := (q3.setCell (p := ⟨w.heap.size + 1, 0, none⟩) (Nat.le_succ _) (.string X)).setCell (p := ⟨w.heap.size + 1, 1, none⟩) (Nat.le_succ _) (.string Y)
 clear kr3 kj3 q3
 go_wp2_with fail
 refine (HM.out _).mono ?_
 rintro e w5 ⟨rfl, hb⟩
 have kr5 := kr4.ret hb
 have kj5 := kj4.ret hb
 have q5 := q4.trans (hb.mono q4.size)
 clear hb kr4 kj4 q4 x0 x1 x2 x3 x4 x5 x6 y0 y1 y2 y3 y4 y5 y6
 obtain ⟨x0, x1, x2, x3, x4, x5, x6⟩ := id kj5
 go_wp2_with fail
 refine (HT.out _).mono ?_
 rintro e w6 ⟨rfl, hb⟩
 have kr6 := kr5.ret hb
 have kj6 := kj5.ret hb
 have q6 := q5.trans (hb.mono q5.size)
 clear hb kr5 kj5 q5 x0 x1 x2 x3 x4 x5 x6
 obtain ⟨x0, x1, x2, x3, x4, x5, x6⟩ := kj6
 obtain ⟨y0, y1, y2, y3, y4, y5, y6⟩ := kr6
 go_wp2_with fail
 refine bodyPost_ret (ret_jid rfl rfl rfl ((JAt.mk y0 y1 y2 y3 y4 y5 y6).set3 _ _ _)) rfl ⟨rfl, jset_below q6 (Nat.le_refl _) _ _ _⟩
set_option maxHeartbeats 4000000 in
theorem r19_Parse_ftF (s Lo X Y : ByteArray) (m : Nat) (w : World)
  (C1 : ∀ w, Calls Tryz.prog 124 #[.string s, .int .u8 47] w fun e w' => e = .returned (.int .i64 (-1)) ∧ w' = w)
  (C2 : ∀ w, Calls Tryz.prog 125 #[.string s] w (Ret w (.string Lo)))
  (C3 : ∀ w, Calls Tryz.prog 124 #[.string Lo, .int .u8 64] w fun e w' => e = .returned (.int .i64 m) ∧ w' = w)
  (hlo : Lo.size ≤ 10000)
  (hmm : m < Lo.size) (hX : Lo.extract 0 m = X) (hY : Lo.extract (m + 1) Lo.size = Y)
  (CM : ∀ w, Calls Tryz.prog 126 #[jV X Y ⟨#[]⟩] w (Ret w (.bool false))) :
  Calls Tryz.prog 110 #[.string s] w (Ret w (.tuple #[jV ⟨#[]⟩ ⟨#[]⟩ ⟨#[]⟩, .int .i64 190])) := by
 obtain ⟨kr, kj⟩ := JAt.two w ⟨#[]⟩ ⟨#[]⟩ ⟨#[]⟩ ⟨#[]⟩ ⟨#[]⟩ ⟨#[]⟩
 have q0 := ((Below.refl w.heap.size w).alloc (Nat.le_refl _) (.cells #[.string ⟨#[]⟩, .string ⟨#[]⟩, .string ⟨#[]⟩] 85)).alloc (by simp) (.cells #[.string ⟨#[]⟩, .string ⟨#[]⟩, .string ⟨#[]⟩] 85)
 have H1 := Lib.hid C1
 have H2 := Lib.hid C2
 have H3 := Lib.hid C3
 have HM := Lib.hid CM
 skip
 have n2 : (⟨#[47]⟩ : ByteArray).size = 1 := rfl
 clear C1 C2 C3 CM 
 go_enter Tryz.func110, Tryz.ntmps110
 go_wp2_with fail
 refine (H1.out _).mono ?_
 rintro e w1 ⟨rfl, rfl⟩
 go_wp2_with fail
 refine (H2.out _).mono ?_
 rintro e w2 ⟨rfl, hb⟩
 have kr2 := kr.ret hb
 have kj2 := kj.ret hb
 have q2 := q0.trans (hb.mono q0.size)
 clear hb kr kj q0
 obtain ⟨x0, x1, x2, x3, x4, x5, x6⟩ := id kj2
 obtain ⟨y0, y1, y2, y3, y4, y5, y6⟩ := id kr2
 go_wp2_with fail
 refine (H3.out _).mono ?_
 rintro e w3 ⟨rfl, rfl⟩
 have kr3 := kr2.other (M := w.heap.size + 1) (o := 1) (by omega) (.string Lo)
 have kj3 := kj2.set1 Lo
 have q3 := q2.setCell (p := ⟨w.heap.size + 1, 1, none⟩) (Nat.le_succ _) (.string Lo)
 clear kr2 kj2 q2
 have kr4 := (kr3.other (M := w.heap.size + 1) (o := 0) (by omega) (.string X)).other (M := w.heap.size + 1) (o := 1) (by omega) (.string Y)
 have kj4 := (kj3.set0 X).set1 Y
 have q4 := (q3.setCell (p := ⟨w.heap.size + 1, 0, none⟩) (Nat.le_succ _) (.string X)).setCell (p := ⟨w.heap.size + 1, 1, none⟩) (Nat.le_succ _) (.string Y)
 clear kr3 kj3 q3
 go_wp2_with fail
 refine (HM.out _).mono ?_
 rintro e w5 ⟨rfl, hb⟩
 have kr5 := kr4.ret hb
 have kj5 := kj4.ret hb
 have q5 := q4.trans (hb.mono q4.size)
 clear hb kr4 kj4 q4 x0 x1 x2 x3 x4 x5 x6 y0 y1 y2 y3 y4 y5 y6
 obtain ⟨x0, x1, x2, x3, x4, x5, x6⟩ := kj5
 obtain ⟨y0, y1, y2, y3, y4, y5, y6⟩ := kr5
 go_wp2_with fail
 refine bodyPost_ret (ret_jid rfl rfl rfl ((JAt.mk y0 y1 y2 y3 y4 y5 y6).set3 _ _ _)) rfl ⟨rfl, jset_below q5 (Nat.le_refl _) _ _ _⟩
set_option maxHeartbeats 4000000 in
theorem r19_Parse_ffTT (s Lo T : ByteArray) (w : World)
  (C1 : ∀ w, Calls Tryz.prog 124 #[.string s, .int .u8 47] w fun e w' => e = .returned (.int .i64 (-1)) ∧ w' = w)
  (C2 : ∀ w, Calls Tryz.prog 125 #[.string s] w (Ret w (.string Lo)))
  (C3 : ∀ w, Calls Tryz.prog 124 #[.string Lo, .int .u8 64] w fun e w' => e = .returned (.int .i64 (-1)) ∧ w' = w)
  (CM : ∀ w, Calls Tryz.prog 126 #[jV ⟨#[]⟩ Lo ⟨#[]⟩] w (Ret w (.bool true)))
  (CT : ∀ w, Calls Tryz.prog 111 #[jV ⟨#[]⟩ Lo ⟨#[]⟩] w (Ret w (.string T)))
  (hE : (T.toList == Lo.toList) = true) :
  Calls Tryz.prog 110 #[.string s] w (Ret w (.tuple #[jV ⟨#[]⟩ Lo ⟨#[]⟩, .int .i64 0])) := by
 obtain ⟨kr, kj⟩ := JAt.two w ⟨#[]⟩ ⟨#[]⟩ ⟨#[]⟩ ⟨#[]⟩ ⟨#[]⟩ ⟨#[]⟩
 have q0 := ((Below.refl w.heap.size w).alloc (Nat.le_refl _) (.cells #[.string ⟨#[]⟩, .string ⟨#[]⟩, .string ⟨#[]⟩] 85)).alloc (by simp) (.cells #[.string ⟨#[]⟩, .string ⟨#[]⟩, .string ⟨#[]⟩] 85)
 have H1 := Lib.hid C1
 have H2 := Lib.hid C2
 have H3 := Lib.hid C3
 have HM := Lib.hid CM
 have HT := Lib.hid CT
 have n2 : (⟨#[47]⟩ : ByteArray).size = 1 := rfl
 clear C1 C2 C3 CM CT
 go_enter Tryz.func110, Tryz.ntmps110
 go_wp2_with fail
 refine (H1.out _).mono ?_
 rintro e w1 ⟨rfl, rfl⟩
 go_wp2_with fail
 refine (H2.out _).mono ?_
 rintro e w2 ⟨rfl, hb⟩
 have kr2 := kr.ret hb
 have kj2 := kj.ret hb
 have q2 := q0.trans (hb.mono q0.size)
 clear hb kr kj q0
 obtain ⟨x0, x1, x2, x3, x4, x5, x6⟩ := id kj2
 obtain ⟨y0, y1, y2, y3, y4, y5, y6⟩ := id kr2
 go_wp2_with fail
 refine (H3.out _).mono ?_
 rintro e w3 ⟨rfl, rfl⟩
 have kr3 := kr2.other (M := w.heap.size + 1) (o := 1) (by omega) (.string Lo)
 have kj3 := kj2.set1 Lo
 have q3 := q2.setCell (p := ⟨w.heap.size + 1, 1, none⟩) (Nat.le_succ _) (.string Lo)
 clear kr2 kj2 q2
 have kr4 := kr3
 have kj4 := kj3
 have q4 := q3
 clear kr3 kj3 q3
 go_wp2_with fail
 refine (HM.out _).mono ?_
 rintro e w5 ⟨rfl, hb⟩
 have kr5 := kr4.ret hb
 have kj5 := kj4.ret hb
 have q5 := q4.trans (hb.mono q4.size)
 clear hb kr4 kj4 q4 x0 x1 x2 x3 x4 x5 x6 y0 y1 y2 y3 y4 y5 y6
 obtain ⟨x0, x1, x2, x3, x4, x5, x6⟩ := id kj5
 go_wp2_with fail
 refine (HT.out _).mono ?_
 rintro e w6 ⟨rfl, hb⟩
 have kr6 := kr5.ret hb
 have kj6 := kj5.ret hb
 have q6 := q5.trans (hb.mono q5.size)
 clear hb kr5 kj5 q5 x0 x1 x2 x3 x4 x5 x6
 obtain ⟨x0, x1, x2, x3, x4, x5, x6⟩ := kj6
 obtain ⟨y0, y1, y2, y3, y4, y5, y6⟩ := kr6
 go_wp2_with fail
 refine bodyPost_ret (ret_jid rfl rfl rfl ((JAt.mk y0 y1 y2 y3 y4 y5 y6).set3 _ _ _)) rfl ⟨rfl, jset_below q6 (Nat.le_refl _) _ _ _⟩
set_option maxHeartbeats 4000000 in
theorem r19_Parse_ffTN (s Lo T : ByteArray) (w : World)
  (C1 : ∀ w, Calls Tryz.prog 124 #[.string s, .int .u8 47] w fun e w' => e = .returned (.int .i64 (-1)) ∧ w' = w)
  (C2 : ∀ w, Calls Tryz.prog 125 #[.string s] w (Ret w (.string Lo)))
  (C3 : ∀ w, Calls Tryz.prog 124 #[.string Lo, .int .u8 64] w fun e w' => e = .returned (.int .i64 (-1)) ∧ w' = w)
  (CM : ∀ w, Calls Tryz.prog 126 #[jV ⟨#[]⟩ Lo ⟨#[]⟩] w (Ret w (.bool true)))
  (CT : ∀ w, Calls Tryz.prog 111 #[jV ⟨#[]⟩ Lo ⟨#[]⟩] w (Ret w (.string T)))
  (hE : (T.toList == Lo.toList) = false) :
  Calls Tryz.prog 110 #[.string s] w (Ret w (.tuple #[jV ⟨#[]⟩ ⟨#[]⟩ ⟨#[]⟩, .int .i64 190])) := by
 obtain ⟨kr, kj⟩ := JAt.two w ⟨#[]⟩ ⟨#[]⟩ ⟨#[]⟩ ⟨#[]⟩ ⟨#[]⟩ ⟨#[]⟩
 have q0 := ((Below.refl w.heap.size w).alloc (Nat.le_refl _) (.cells #[.string ⟨#[]⟩, .string ⟨#[]⟩, .string ⟨#[]⟩] 85)).alloc (by simp) (.cells #[.string ⟨#[]⟩, .string ⟨#[]⟩, .string ⟨#[]⟩] 85)
 have H1 := Lib.hid C1
 have H2 := Lib.hid C2
 have H3 := Lib.hid C3
 have HM := Lib.hid CM
 have HT := Lib.hid CT
 have n2 : (⟨#[47]⟩ : ByteArray).size = 1 := rfl
 clear C1 C2 C3 CM CT
 go_enter Tryz.func110, Tryz.ntmps110
 go_wp2_with fail
 refine (H1.out _).mono ?_
 rintro e w1 ⟨rfl, rfl⟩
 go_wp2_with fail
 refine (H2.out _).mono ?_
 rintro e w2 ⟨rfl, hb⟩
 have kr2 := kr.ret hb
 have kj2 := kj.ret hb
 have q2 := q0.trans (hb.mono q0.size)
 clear hb kr kj q0
 obtain ⟨x0, x1, x2, x3, x4, x5, x6⟩ := id kj2
 obtain ⟨y0, y1, y2, y3, y4, y5, y6⟩ := id kr2
 go_wp2_with fail
 refine (H3.out _).mono ?_
 rintro e w3 ⟨rfl, rfl⟩
 have kr3 := kr2.other (M := w.heap.size + 1) (o := 1) (by omega) (.string Lo)
 have kj3 := kj2.set1 Lo
 have q3 := q2.setCell (p := ⟨w.heap.size + 1, 1, none⟩) (Nat.le_succ _) (.string Lo)
 clear kr2 kj2 q2
 have kr4 := kr3
 have kj4 := kj3
 have q4 := q3
 clear kr3 kj3 q3
 go_wp2_with fail
 refine (HM.out _).mono ?_
 rintro e w5 ⟨rfl, hb⟩
 have kr5 := kr4.ret hb
 have kj5 := kj4.ret hb
 have q5 := q4.trans (hb.mono q4.size)
 clear hb kr4 kj4 q4 x0 x1 x2 x3 x4 x5 x6 y0 y1 y2 y3 y4 y5 y6
 obtain ⟨x0, x1, x2, x3, x4, x5, x6⟩ := id kj5
 go_wp2_with fail
 refine (HT.out _).mono ?_
 rintro e w6 ⟨rfl, hb⟩
 have kr6 := kr5.ret hb
 have kj6 := kj5.ret hb
 have q6 := q5.trans (hb.mono q5.size)
 clear hb kr5 kj5 q5 x0 x1 x2 x3 x4 x5 x6
 obtain ⟨x0, x1, x2, x3, x4, x5, x6⟩ := kj6
 obtain ⟨y0, y1, y2, y3, y4, y5, y6⟩ := kr6
 go_wp2_with fail
 refine bodyPost_ret (ret_jid rfl rfl rfl ((JAt.mk y0 y1 y2 y3 y4 y5 y6).set3 _ _ _)) rfl ⟨rfl, jset_below q6 (Nat.le_refl _) _ _ _⟩
set_option maxHeartbeats 4000000 in
theorem r19_Parse_ffF (s Lo : ByteArray) (w : World)
  (C1 : ∀ w, Calls Tryz.prog 124 #[.string s, .int .u8 47] w fun e w' => e = .returned (.int .i64 (-1)) ∧ w' = w)
  (C2 : ∀ w, Calls Tryz.prog 125 #[.string s] w (Ret w (.string Lo)))
  (C3 : ∀ w, Calls Tryz.prog 124 #[.string Lo, .int .u8 64] w fun e w' => e = .returned (.int .i64 (-1)) ∧ w' = w)
  (CM : ∀ w, Calls Tryz.prog 126 #[jV ⟨#[]⟩ Lo ⟨#[]⟩] w (Ret w (.bool false))) :
  Calls Tryz.prog 110 #[.string s] w (Ret w (.tuple #[jV ⟨#[]⟩ ⟨#[]⟩ ⟨#[]⟩, .int .i64 190])) := by
 obtain ⟨kr, kj⟩ := JAt.two w ⟨#[]⟩ ⟨#[]⟩ ⟨#[]⟩ ⟨#[]⟩ ⟨#[]⟩ ⟨#[]⟩
 have q0 := ((Below.refl w.heap.size w).alloc (Nat.le_refl _) (.cells #[.string ⟨#[]⟩, .string ⟨#[]⟩, .string ⟨#[]⟩] 85)).alloc (by simp) (.cells #[.string ⟨#[]⟩, .string ⟨#[]⟩, .string ⟨#[]⟩] 85)
 have H1 := Lib.hid C1
 have H2 := Lib.hid C2
 have H3 := Lib.hid C3
 have HM := Lib.hid CM
 skip
 have n2 : (⟨#[47]⟩ : ByteArray).size = 1 := rfl
 clear C1 C2 C3 CM 
 go_enter Tryz.func110, Tryz.ntmps110
 go_wp2_with fail
 refine (H1.out _).mono ?_
 rintro e w1 ⟨rfl, rfl⟩
 go_wp2_with fail
 refine (H2.out _).mono ?_
 rintro e w2 ⟨rfl, hb⟩
 have kr2 := kr.ret hb
 have kj2 := kj.ret hb
 have q2 := q0.trans (hb.mono q0.size)
 clear hb kr kj q0
 obtain ⟨x0, x1, x2, x3, x4, x5, x6⟩ := id kj2
 obtain ⟨y0, y1, y2, y3, y4, y5, y6⟩ := id kr2
 go_wp2_with fail
 refine (H3.out _).mono ?_
 rintro e w3 ⟨rfl, rfl⟩
 have kr3 := kr2.other (M := w.heap.size + 1) (o := 1) (by omega) (.string Lo)
 have kj3 := kj2.set1 Lo
 have q3 := q2.setCell (p := ⟨w.heap.size + 1, 1, none⟩) (Nat.le_succ _) (.string Lo)
 clear kr2 kj2 q2
 have kr4 := kr3
 have kj4 := kj3
 have q4 := q3
 clear kr3 kj3 q3
 go_wp2_with fail
 refine (HM.out _).mono ?_
 rintro e w5 ⟨rfl, hb⟩
 have kr5 := kr4.ret hb
 have kj5 := kj4.ret hb
 have q5 := q4.trans (hb.mono q4.size)
 clear hb kr4 kj4 q4 x0 x1 x2 x3 x4 x5 x6 y0 y1 y2 y3 y4 y5 y6
 obtain ⟨x0, x1, x2, x3, x4, x5, x6⟩ := kj5
 obtain ⟨y0, y1, y2, y3, y4, y5, y6⟩ := kr5
 go_wp2_with fail
 refine bodyPost_ret (ret_jid rfl rfl rfl ((JAt.mk y0 y1 y2 y3 y4 y5 y6).set3 _ _ _)) rfl ⟨rfl, jset_below q5 (Nat.le_refl _) _ _ _⟩
theorem cut_facts (c : UInt8) (s : ByteArray) (h : s.data.toList.contains c = true) : (cA c s.data.toList).length < s.size ∧ s.extract 0 (cA c s.data.toList).length = jB (cA c s.data.toList) ∧ s.extract ((cA c s.data.toList).length + 1) s.size = jB (cR c s.data.toList) := by
 obtain ⟨e, -⟩ := cA_cR c s.data.toList (by simpa using h)
 have hl := congrArg List.length e
 rw [size_toList, List.length_append, List.length_cons] at hl
 refine ⟨by omega, ?_, ?_⟩
 ·apply str_ext
  rw [ext_data, List.drop_zero, Nat.sub_zero, jB_list]
  conv => lhs; rw [e]
  rw [List.take_append_of_le_length (by rw [← e]; exact Nat.le_refl _), List.take_of_length_le (by rw [← e]; exact Nat.le_refl _)]
 ·apply str_ext
  rw [ext_tail, jB_list]
  have : ∀ n, n = (cA c s.data.toList).length → s.data.toList.drop (n + 1) = cR c s.data.toList := fun n hn => by
   conv => lhs; rw [e]
   rw [hn, List.drop_append]
   simp
  exact this _ rfl
theorem r19_Parse (s : ByteArray) (w : World) (hs : s.size ≤ 10000) : Calls Tryz.prog 110 #[.string s] w (Ret w (prsV s.data.toList)) := by
 have C1 := fun w => r19_at s 47 w hs
 have hz := size_toList s
 have cf := cut_facts 47 s
 obtain ⟨l, hl⟩ : ∃ l, s.data.toList = l := ⟨_, rfl⟩
 rw [hl] at C1 hz cf ⊢
 have zA := len_cA 47 l
 have zR := len_cR 47 l
 have zLo := len_lowA l
 have zX := len_cA 64 (lowA l)
 have zY := len_cR 64 (lowA l)
 have C3 := fun w => r19_at (jB (lowA l)) 64 w (by rw [jB_size]; first | omega | (rw [len_low]; omega))
 have cf2 := cut_facts 64 (jB (lowA l))
 rw [jB_list] at C3 cf2
 have C4 : ∀ a b c : List UInt8, a.length ≤ 10000 → b.length ≤ 10000 → c.length ≤ 10000 → ∀ w : World, Calls Tryz.prog 126 #[jV (jB a) (jB b) (jB c)] w (Ret w (.bool (chkP a b c))) := by
  intro a b c za zb zc w
  have := r19_May (jB a) (jB b) (jB c) w (by rw [jB_size]; exact za) (by rw [jB_size]; exact zb) (by rw [jB_size]; exact zc)
  rw [jB_list, jB_list, jB_list] at this
  exact this
 have C5 : ∀ a b c : List UInt8, a.length ≤ 10000 → b.length ≤ 10000 → c.length ≤ 10000 → ∀ w : World, Calls Tryz.prog 111 #[jV (jB a) (jB b) (jB c)] w (Ret w (.string (jB (txtP a b c)))) := by
  intro a b c za zb zc w
  have := r19_Text (jB a) (jB b) (jB c) w (by rw [jB_size]; exact za) (by rw [jB_size]; exact zb) (by rw [jB_size]; exact zc)
  rw [jB_list, jB_list, jB_list] at this
  exact this
 have hp := ref_prs l
 have zl1 : (jLoc l).length ≤ 10000 := by
  unfold jLoc
  split
  ·omega
  ·exact Nat.zero_le _
 have zd1 : (jDom l).length ≤ 10000 := by
  unfold jDom
  split <;> omega
 have zr1 : (jRes l).length ≤ 10000 := by unfold jRes; omega
 have CM := C4 (jLoc l) (jDom l) (jRes l) zl1 zd1 zr1
 have CT := C5 (jLoc l) (jDom l) (jRes l) zl1 zd1 zr1
 clear C4 C5
 unfold prsV
 have hW : ∀ W : ByteArray, W.data.toList = wantP l → ((jB (txtP (jLoc l) (jDom l) (jRes l))).toList == W.toList) = decide (txtP (jLoc l) (jDom l) (jRes l) = wantP l) := fun W hWl => str_eqb _ _ _ _ (jB_list _) hWl
 unfold atP at C1 C3
 cases hh : (lowA l).contains 64 with
 | true =>
  cases hb : l.contains 47 with
  | true =>
   rw [hb, if_pos rfl] at C1
   obtain ⟨a1, a2, a3⟩ := cf hb
   have C2 := fun w => r7_Lower (jB (cA 47 l)) w (by rw [jB_size]; first | omega | (rw [len_low]; omega))
   rw [jB_list] at C2
   have eL : jLoc l = cA 64 (lowA l) := by unfold jLoc; rw [hh]; rfl
   have eD : jDom l = cR 64 (lowA l) := by unfold jDom; rw [hh]; rfl
   rw [hh, if_pos rfl] at C3
   obtain ⟨b1, b2, b3⟩ := cf2 hh
   rw [eL, eD] at CM CT
   have hq := hW (jB (lowA l) ++ ⟨#[47]⟩ ++ jB (cR 47 l)) (by unfold wantP; rw [hb]; simp [jRes])
   rw [eL, eD] at hp hq
   rw [eL, eD]
   cases hc : chkP (cA 64 (lowA l)) (cR 64 (lowA l)) (jRes l) with
   | false =>
    rw [hc, Bool.false_and] at hp
    rw [hc] at CM
    rw [← hp]
    exact r19_Parse_ttF s _ _ _ _ _ _ _ w C1 a1 hs a2 a3 C2 C3 (by rw [jB_size]; first | omega | (rw [len_low]; omega)) b1 b2 b3 CM (by rw [jB_size]; first | omega | (rw [len_low]; omega))
   | true =>
    rw [hc] at CM
    rw [hc, Bool.true_and] at hp
    rw [hp] at hq
    cases he : prsP l with
    | true =>
     rw [he] at hq
     exact r19_Parse_ttTT s _ _ _ _ _ _ _ _ _ w C1 a1 hs a2 a3 C2 C3 (by rw [jB_size]; first | omega | (rw [len_low]; omega)) b1 b2 b3 CM (by rw [jB_size]; first | omega | (rw [len_low]; omega)) CT rfl hq
    | false =>
     rw [he] at hq
     exact r19_Parse_ttTN s _ _ _ _ _ _ _ _ _ w C1 a1 hs a2 a3 C2 C3 (by rw [jB_size]; first | omega | (rw [len_low]; omega)) b1 b2 b3 CM (by rw [jB_size]; first | omega | (rw [len_low]; omega)) CT rfl hq
  | false =>
   rw [hb, if_neg (by decide)] at C1
   have eA : cA 47 l = l := (cA_not 47 l (by simpa using hb)).1
   have eR : jRes l = [] := (cA_not 47 l (by simpa using hb)).2
   have C2 := fun w => r7_Lower s w (by omega)
   rw [hl, show lowL l = lowA l by unfold lowA; rw [eA]] at C2
   rw [eR] at CM CT
   have eL : jLoc l = cA 64 (lowA l) := by unfold jLoc; rw [hh]; rfl
   have eD : jDom l = cR 64 (lowA l) := by unfold jDom; rw [hh]; rfl
   rw [hh, if_pos rfl] at C3
   obtain ⟨b1, b2, b3⟩ := cf2 hh
   rw [eL, eD] at CM CT
   have hq := hW (jB (lowA l)) (by unfold wantP; rw [hb]; simp)
   rw [eL, eD, eR] at hp hq
   rw [eL, eD, eR]
   cases hc : chkP (cA 64 (lowA l)) (cR 64 (lowA l)) [] with
   | false =>
    rw [hc, Bool.false_and] at hp
    rw [hc] at CM
    rw [← hp]
    exact r19_Parse_ftF s _ _ _ _ w C1 C2 C3 (by rw [jB_size]; first | omega | (rw [len_low]; omega)) b1 b2 b3 CM
   | true =>
    rw [hc] at CM
    rw [hc, Bool.true_and] at hp
    rw [hp] at hq
    cases he : prsP l with
    | true =>
     rw [he] at hq
     exact r19_Parse_ftTT s _ _ _ _ _ w C1 C2 C3 (by rw [jB_size]; first | omega | (rw [len_low]; omega)) b1 b2 b3 CM CT hq
    | false =>
     rw [he] at hq
     exact r19_Parse_ftTN s _ _ _ _ _ w C1 C2 C3 (by rw [jB_size]; first | omega | (rw [len_low]; omega)) b1 b2 b3 CM CT hq
 | false =>
  cases hb : l.contains 47 with
  | true =>
   rw [hb, if_pos rfl] at C1
   obtain ⟨a1, a2, a3⟩ := cf hb
   have C2 := fun w => r7_Lower (jB (cA 47 l)) w (by rw [jB_size]; first | omega | (rw [len_low]; omega))
   rw [jB_list] at C2
   have eL : jLoc l = [] := by unfold jLoc; rw [hh]; rfl
   have eD : jDom l = lowA l := by unfold jDom; rw [hh]; rfl
   rw [hh, if_neg (by decide)] at C3
   rw [eL, eD] at CM CT
   have hq := hW (jB (lowA l) ++ ⟨#[47]⟩ ++ jB (cR 47 l)) (by unfold wantP; rw [hb]; simp [jRes])
   rw [eL, eD] at hp hq
   rw [eL, eD]
   cases hc : chkP [] (lowA l) (jRes l) with
   | false =>
    rw [hc, Bool.false_and] at hp
    rw [hc] at CM
    rw [← hp]
    exact r19_Parse_tfF s _ _ _ _ w C1 a1 hs a2 a3 C2 C3 (by rw [jB_size]; first | omega | (rw [len_low]; omega)) CM (by rw [jB_size]; first | omega | (rw [len_low]; omega))
   | true =>
    rw [hc] at CM
    rw [hc, Bool.true_and] at hp
    rw [hp] at hq
    cases he : prsP l with
    | true =>
     rw [he] at hq
     exact r19_Parse_tfTT s _ _ _ _ _ _ w C1 a1 hs a2 a3 C2 C3 (by rw [jB_size]; first | omega | (rw [len_low]; omega)) CM (by rw [jB_size]; first | omega | (rw [len_low]; omega)) CT rfl hq
    | false =>
     rw [he] at hq
     exact r19_Parse_tfTN s _ _ _ _ _ _ w C1 a1 hs a2 a3 C2 C3 (by rw [jB_size]; first | omega | (rw [len_low]; omega)) CM (by rw [jB_size]; first | omega | (rw [len_low]; omega)) CT rfl hq
  | false =>
   rw [hb, if_neg (by decide)] at C1
   have eA : cA 47 l = l := (cA_not 47 l (by simpa using hb)).1
   have eR : jRes l = [] := (cA_not 47 l (by simpa using hb)).2
   have C2 := fun w => r7_Lower s w (by omega)
   rw [hl, show lowL l = lowA l by unfold lowA; rw [eA]] at C2
   rw [eR] at CM CT
   have eL : jLoc l = [] := by unfold jLoc; rw [hh]; rfl
   have eD : jDom l = lowA l := by unfold jDom; rw [hh]; rfl
   rw [hh, if_neg (by decide)] at C3
   rw [eL, eD] at CM CT
   have hq := hW (jB (lowA l)) (by unfold wantP; rw [hb]; simp)
   rw [eL, eD, eR] at hp hq
   rw [eL, eD, eR]
   cases hc : chkP [] (lowA l) [] with
   | false =>
    rw [hc, Bool.false_and] at hp
    rw [hc] at CM
    rw [← hp]
    exact r19_Parse_ffF s _ w C1 C2 C3 CM
   | true =>
    rw [hc] at CM
    rw [hc, Bool.true_and] at hp
    rw [hp] at hq
    cases he : prsP l with
    | true =>
     rw [he] at hq
     exact r19_Parse_ffTT s _ _ w C1 C2 C3 CM CT hq
    | false =>
     rw [he] at hq
     exact r19_Parse_ffTN s _ _ w C1 C2 C3 CM CT hq
end Go.Proofs.YtfonkblbgadhmaaGreatDoor
