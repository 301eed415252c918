/- The document's addresses (tidewaiterref19): plain, Local, Domain, Resource, at. PRINTED BY PROGRAM (gen_jdx.py). -/
import Derived.Test.YtfonkblbgadhmaaDoorJdU
import Derived.Test.YtfonkblbgadhmaaDoorJdF
namespace Go.Proofs.YtfonkblbgadhmaaDoor
open Go.RowKit Go.Lib

set_option maxHeartbeats 1000000 in
theorem r19_plain (c : UInt8) (w : World) : Calls Tryd.prog 68 #[.int .u8 (c.toNat : Int)] w fun e w' => e = .returned (.bool (jdA c)) ∧ w' = w := by
  have hc := c.toNat_lt
  have hj : jdA c = ((decide (97 ≤ c.toNat) && decide (c.toNat ≤ 122)) || (decide (48 ≤ c.toNat) && decide (c.toNat ≤ 57))) := rfl
  rw [hj]
  obtain ⟨n, hn⟩ : ∃ n, c.toNat = n := ⟨_, rfl⟩
  rw [hn] at hc ⊢
  clear hj hn
  by_cases h1 : 97 ≤ n
  · by_cases h2 : n ≤ 122
    · rw [show ((decide (97 ≤ n) && decide (n ≤ 122)) || (decide (48 ≤ n) && decide (n ≤ 57))) = true by simp; omega]
      have g0 : ((97 : Int) ≤ n) = True := eq_true (by omega)
      have g1 : ((n : Int) ≤ 122) = True := eq_true (by omega)
      go_enter Tryd.func68, Tryd.ntmps68
      go_wp2_with fail
      go_ret
      exact ⟨by first | rfl | (apply ret_b; simp; omega), rfl⟩
    · rw [show ((decide (97 ≤ n) && decide (n ≤ 122)) || (decide (48 ≤ n) && decide (n ≤ 57))) = false by simp; omega]
      have g0 : ((97 : Int) ≤ n) = True := eq_true (by omega)
      have g1 : ((n : Int) ≤ 122) = False := eq_false (by omega)
      have g2 : ((48 : Int) ≤ n) = True := eq_true (by omega)
      have g3 : ((n : Int) ≤ 57) = False := eq_false (by omega)
      go_enter Tryd.func68, Tryd.ntmps68
      go_wp2_with fail
      go_ret
      exact ⟨by first | rfl | (apply ret_b; simp; omega), rfl⟩
  · by_cases h3 : 48 ≤ n
    · by_cases h4 : n ≤ 57
      · rw [show ((decide (97 ≤ n) && decide (n ≤ 122)) || (decide (48 ≤ n) && decide (n ≤ 57))) = true by simp; omega]
        have g0 : ((97 : Int) ≤ n) = False := eq_false (by omega)
        have g1 : ((48 : Int) ≤ n) = True := eq_true (by omega)
        have g2 : ((n : Int) ≤ 57) = True := eq_true (by omega)
        go_enter Tryd.func68, Tryd.ntmps68
        go_wp2_with fail
        go_ret
        exact ⟨by first | rfl | (apply ret_b; simp; omega), rfl⟩
      · rw [show ((decide (97 ≤ n) && decide (n ≤ 122)) || (decide (48 ≤ n) && decide (n ≤ 57))) = false by simp; omega]
        have g0 : ((97 : Int) ≤ n) = False := eq_false (by omega)
        have g1 : ((48 : Int) ≤ n) = True := eq_true (by omega)
        have g2 : ((n : Int) ≤ 57) = False := eq_false (by omega)
        go_enter Tryd.func68, Tryd.ntmps68
        go_wp2_with fail
        go_ret
        exact ⟨by first | rfl | (apply ret_b; simp; omega), rfl⟩
    · rw [show ((decide (97 ≤ n) && decide (n ≤ 122)) || (decide (48 ≤ n) && decide (n ≤ 57))) = false by simp; omega]
      have g0 : ((97 : Int) ≤ n) = False := eq_false (by omega)
      have g1 : ((48 : Int) ≤ n) = False := eq_false (by omega)
      go_enter Tryd.func68, Tryd.ntmps68
      go_wp2_with fail
      go_ret
      exact ⟨by first | rfl | (apply ret_b; simp; omega), rfl⟩
theorem all_last {q : UInt8 → Bool} (s : ByteArray) (k : Nat) (hlt : k < s.size) (h : q s[k] = false) : s.data.toList.all q = false := by
  rw [← List.take_append_drop (k + 1) s.data.toList, List.all_append, take_snoc s k hlt, List.all_append]
  simp [h]
theorem all_snoc {q : UInt8 → Bool} (s : ByteArray) (k : Nat) (hlt : k < s.size) (h : (s.data.toList.take k).all q = true) (hq : q s[k] = true) : (s.data.toList.take (k + 1)).all q = true := by
  rw [take_snoc s k hlt, List.all_append, h]
  simp [hq]
theorem c_is (c : UInt8) (n : Nat) (h : c.toNat = n) (hn : n < 256) : c = UInt8.ofNat n := by
  apply UInt8.toNat_inj.1
  rw [h, UInt8.toNat_ofNat']
  exact (Nat.mod_eq_of_lt hn).symm
theorem jdL_46 (c : UInt8) (h : c.toNat = 46) : jdL c = true ∧ jdD c = true ∧ jdA c = false := by
  rw [c_is c 46 h (by omega)]; decide
theorem jdL_45 (c : UInt8) (h : c.toNat = 45) : jdL c = true ∧ jdD c = true ∧ jdA c = false := by
  rw [c_is c 45 h (by omega)]; decide
theorem jdL_95 (c : UInt8) (h : c.toNat = 95) : jdL c = true ∧ jdA c = false := by
  rw [c_is c 95 h (by omega)]; decide
theorem jdL_no (c : UInt8) (h : jdA c = false) (h1 : c.toNat ≠ 46) (h2 : c.toNat ≠ 45) : jdD c = false ∧ (c.toNat ≠ 95 → jdL c = false) := by
  have e1 : (c == 46) = false := beq_eq_false_iff_ne.2 (fun e => h1 (by rw [e]; rfl))
  have e2 : (c == 45) = false := beq_eq_false_iff_ne.2 (fun e => h2 (by rw [e]; rfl))
  have d : jdD c = false := by unfold jdD; rw [h, e1, e2]; rfl
  refine ⟨d, fun h3 => ?_⟩
  have e3 : (c == 95) = false := beq_eq_false_iff_ne.2 (fun e => h3 (by rw [e]; rfl))
  unfold jdL
  rw [d, e3]; rfl
theorem jdA_D (c : UInt8) (h : jdA c = true) : jdD c = true ∧ jdL c = true := by
  have d : jdD c = true := by unfold jdD; rw [h]; rfl
  exact ⟨d, jdD_of c d⟩
theorem jdA_46 (c : UInt8) (h : jdA c = true) : c.toNat ≠ 46 := fun e => by have := (jdL_46 c e).2.2; rw [h] at this; cases this
theorem dots_snoc : ∀ (l : List UInt8) (c : UInt8), dotsP (l ++ [c]) = (dotsP l || (!l.isEmpty && (l.getLastD 0 == 46 && c == 46)))
  | [], _ => rfl
  | [a], c => by simp [dotsP]
  | a :: b :: l, c => by
    show (_ || dotsP ((b :: l) ++ [c])) = ((_ || dotsP (b :: l)) || _)
    rw [dots_snoc (b :: l) c, Bool.or_assoc]
    congr 2
theorem dots_mono (l r : List UInt8) (h : dotsP l = true) : dotsP (l ++ r) = true := by
  induction r generalizing l with
  | nil => rwa [List.append_nil]
  | cons a r ih =>
    rw [List.append_cons]
    exact ih _ (by rw [dots_snoc, h]; rfl)
theorem dots_step (s : ByteArray) (k : Nat) (hlt : k < s.size) : dotsP (s.data.toList.take (k + 1)) = (dotsP (s.data.toList.take k) || (decide (0 < k) && (s[k - 1]'(by omega) == 46 && s[k] == 46))) := by
  rw [take_snoc s k hlt, dots_snoc]
  congr 1
  cases k with
  | zero => rfl
  | succ j =>
    have hj : j < s.size := by omega
    rw [take_snoc s j hj]
    have e1 : (s.data.toList.take j ++ [s[j]]).isEmpty = false := by simp
    have e2 : (s.data.toList.take j ++ [s[j]]).getLastD 0 = s[j] := by simp [List.getLastD_eq_getLast?]
    rw [e1, e2, decide_eq_true (Nat.succ_pos j)]
    rfl
set_option maxHeartbeats 1000000 in
theorem r19_Local (s : ByteArray) (w : World) (hs : s.size ≤ 10000) : Calls Tryd.prog 51 #[.string s] w fun e w' => e = .returned (.bool (locP s.data.toList)) ∧ w' = w := by
  have P := Lib.hid r19_plain
  obtain ⟨O, hO⟩ : ∃ O, locP s.data.toList = O := ⟨_, rfl⟩
  rw [hO]
  have HO := Lib.hid hO
  clear hO
  go_enter Tryd.func51, Tryd.ntmps51
  go_wp2_with fail
  go_loop [3] (fun i => ∃ k : Nat, k ≤ s.size ∧ i = .int .i64 k ∧ (s.data.toList.take k).all jdL = true) (fun i => s.size - (intOf i).toNat)
  case atStart => exact ⟨0, Nat.zero_le _, rfl, rfl⟩
  case round =>
    obtain ⟨k, hk, rfl, hall⟩ := hrel
    by_cases hlt : k < s.size
    · have hc := s[k].toNat_lt
      have P1 := fun w => P.out s[k] w
      cases hA : jdA s[k] with
      | true =>
        rw [hA] at P1
        have hL : jdL s[k] = true := (jdA_D _ hA).2
        have HS := Lib.hid (all_snoc s k hlt hall hL)
        have PH := Lib.hid P1
        clear P1 hL hA hall
        (try clear h1)
        (try clear h2)
        (try clear h3)
        go_wp2_with fail
        refine (PH.out _).mono ?_
        rintro e w1 ⟨rfl, rfl⟩
        go_wp2_with fail
        go_round
        case rel => exact ⟨k + 1, by omega, by go_num, HS.out⟩
        case measure => simp [intOf]; omega
      | false =>
        rw [hA] at P1
        by_cases h1 : s[k].toNat = 46
        · have hL : jdL s[k] = true := (jdL_46 _ h1).1
          have HS := Lib.hid (all_snoc s k hlt hall hL)
          have e46 : ((s[k].toNat : Int) == 46) = true := beq_iff_eq.2 (by omega)
          have f46 : ((s[k].toNat : Int) != 46) = false := by unfold bne; rw [e46]; rfl
          have PH := Lib.hid P1
          clear P1 hL hA hall
          (try clear h1)
          (try clear h2)
          (try clear h3)
          go_wp2_with fail
          refine (PH.out _).mono ?_
          rintro e w1 ⟨rfl, rfl⟩
          go_wp2_with fail
          go_round
          case rel => exact ⟨k + 1, by omega, by go_num, HS.out⟩
          case measure => simp [intOf]; omega
        · by_cases h2 : s[k].toNat = 45
          · have hL : jdL s[k] = true := (jdL_45 _ h2).1
            have HS := Lib.hid (all_snoc s k hlt hall hL)
            have e46 : ((s[k].toNat : Int) == 46) = false := beq_eq_false_iff_ne.2 (by omega)
            have f46 : ((s[k].toNat : Int) != 46) = true := by unfold bne; rw [e46]; rfl
            have e45 : ((s[k].toNat : Int) == 45) = true := beq_iff_eq.2 (by omega)
            have f45 : ((s[k].toNat : Int) != 45) = false := by unfold bne; rw [e45]; rfl
            have PH := Lib.hid P1
            clear P1 hL hA hall
            (try clear h1)
            (try clear h2)
            (try clear h3)
            go_wp2_with fail
            refine (PH.out _).mono ?_
            rintro e w1 ⟨rfl, rfl⟩
            go_wp2_with fail
            go_round
            case rel => exact ⟨k + 1, by omega, by go_num, HS.out⟩
            case measure => simp [intOf]; omega
          · by_cases h3 : s[k].toNat = 95
            · have hL : jdL s[k] = true := (jdL_95 _ h3).1
              have HS := Lib.hid (all_snoc s k hlt hall hL)
              have e46 : ((s[k].toNat : Int) == 46) = false := beq_eq_false_iff_ne.2 (by omega)
              have f46 : ((s[k].toNat : Int) != 46) = true := by unfold bne; rw [e46]; rfl
              have e45 : ((s[k].toNat : Int) == 45) = false := beq_eq_false_iff_ne.2 (by omega)
              have f45 : ((s[k].toNat : Int) != 45) = true := by unfold bne; rw [e45]; rfl
              have e95 : ((s[k].toNat : Int) == 95) = true := beq_iff_eq.2 (by omega)
              have f95 : ((s[k].toNat : Int) != 95) = false := by unfold bne; rw [e95]; rfl
              have PH := Lib.hid P1
              clear P1 hL hA hall
              (try clear h1)
              (try clear h2)
              (try clear h3)
              go_wp2_with fail
              refine (PH.out _).mono ?_
              rintro e w1 ⟨rfl, rfl⟩
              go_wp2_with fail
              go_round
              case rel => exact ⟨k + 1, by omega, by go_num, HS.out⟩
              case measure => simp [intOf]; omega
            · have hn : O = false := by rw [← HO.out]; unfold locP; rw [all_last s k hlt ((jdL_no _ hA h1 h2).2 h3)]; simp
              subst hn
              have e46 : ((s[k].toNat : Int) == 46) = false := beq_eq_false_iff_ne.2 (by omega)
              have f46 : ((s[k].toNat : Int) != 46) = true := by unfold bne; rw [e46]; rfl
              have e45 : ((s[k].toNat : Int) == 45) = false := beq_eq_false_iff_ne.2 (by omega)
              have f45 : ((s[k].toNat : Int) != 45) = true := by unfold bne; rw [e45]; rfl
              have e95 : ((s[k].toNat : Int) == 95) = false := beq_eq_false_iff_ne.2 (by omega)
              have f95 : ((s[k].toNat : Int) != 95) = true := by unfold bne; rw [e95]; rfl
              have PH := Lib.hid P1
              clear P1 hA hall h1 h2 h3
              go_wp2_with fail
              refine (PH.out _).mono ?_
              rintro e w1 ⟨rfl, rfl⟩
              go_wp2_with fail
              go_ret
              exact ⟨rfl, rfl⟩
    · have hfull : s.data.toList.all jdL = true := by
        rw [List.take_of_length_le (by rw [size_toList]; omega)] at hall
        exact hall
      have hO := HO.out
      unfold locP at hO
      rw [hfull, size_toList, Bool.and_true] at hO
      clear HO hfull hall
      by_cases h0 : 0 < s.size
      · have e3 : s.data.toList.isEmpty = false := by rw [← Lib.toList_data]; exact isEmpty_of_pos h0
        rw [e3] at hO
        have g0 : 1 ≤ s.size := h0
        clear e3
        by_cases h64 : s.size ≤ 64
        · rw [decide_eq_true h64] at hO
          subst hO
          have g1 : ((1 : Int) ≤ s.size) := by omega
          have g2 : ((s.size : Int) ≤ 64) := by omega
          go_wp2_with fail
          go_ret
          exact ⟨rfl, rfl⟩
        · rw [decide_eq_false h64] at hO
          subst hO
          have g1 : ((1 : Int) ≤ s.size) := by omega
          have g2 : ¬ ((s.size : Int) ≤ 64) := by omega
          go_wp2_with fail
          go_ret
          exact ⟨rfl, rfl⟩
      · obtain rfl : s = ⟨#[]⟩ := str_ext (List.eq_nil_of_length_eq_zero (by rw [size_toList]; omega))
        have : O = false := by rw [← hO]; rfl
        subst this
        clear hO h0
        go_wp2_with fail
        go_ret
        exact ⟨rfl, rfl⟩
set_option maxHeartbeats 1000000 in
set_option maxRecDepth 100000 in
theorem r19_Domain (s : ByteArray) (w : World) (hs : s.size ≤ 10000) : Calls Tryd.prog 50 #[.string s] w fun e w' => e = .returned (.bool (domP s.data.toList)) ∧ w' = w := by
  have P := Lib.hid r19_plain
  obtain ⟨O, hO⟩ : ∃ O, domP s.data.toList = O := ⟨_, rfl⟩
  rw [hO]
  by_cases h0 : 0 < s.size
  · have e3 : s.data.toList.isEmpty = false := by rw [← Lib.toList_data]; exact isEmpty_of_pos h0
    have g0 : ¬ ((s.size : Int) < 1) := by omega
    unfold domP at hO
    rw [e3, size_toList, head_data s h0, last_data s h0] at hO
    clear e3
    by_cases h64 : s.size ≤ 64
    · rw [decide_eq_true h64] at hO
      have g1 : ¬ ((64 : Int) < s.size) := by omega
      have hl : s.size - 1 < s.size := by omega
      have hk1 : ((s.size : Int) - 1) = ((s.size - 1 : Nat) : Int) := by omega
      have P1 := fun w => P.out s[0] w
      have P2 := fun w => P.out (s[s.size - 1]'hl) w
      cases ha : jdA s[0] with
      | false =>
        have : O = false := by rw [← hO, ha]; simp
        subst this
        rw [ha] at P1
        have PH := Lib.hid P1
        clear P1 P2 hO ha hk1
        go_enter Tryd.func50, Tryd.ntmps50
        go_wp2_with fail
        refine (PH.out _).mono ?_
        rintro e w1 ⟨rfl, rfl⟩
        go_wp2_with fail
        go_ret
        exact ⟨rfl, rfl⟩
      | true =>
        rw [ha] at P1
        have PH := Lib.hid P1
        cases hb : jdA (s[s.size - 1]'hl) with
        | false =>
          have : O = false := by rw [← hO, hb]; simp
          subst this
          rw [hb] at P2
          have PH2 := Lib.hid P2
          clear P1 P2 hO ha hb
          go_enter Tryd.func50, Tryd.ntmps50
          go_wp2_with fail
          refine (PH.out _).mono ?_
          rintro e w1 ⟨rfl, rfl⟩
          go_wp2_with fail
          refine (PH2.out _).mono ?_
          rintro e w1 ⟨rfl, rfl⟩
          go_wp2_with fail
          go_ret
          exact ⟨rfl, rfl⟩
        | true =>
          rw [hb] at P2
          have PH2 := Lib.hid P2
          rw [ha, hb] at hO
          have HO : Hid ((s.data.toList.all jdD && !dotsP s.data.toList) = O) := Lib.hid (by rw [← hO]; simp)
          clear P1 P2 hO ha hb
          go_enter Tryd.func50, Tryd.ntmps50
          go_wp2_with fail
          refine (PH.out _).mono ?_
          rintro e w1 ⟨rfl, rfl⟩
          go_wp2_with fail
          refine (PH2.out _).mono ?_
          rintro e w1 ⟨rfl, rfl⟩
          go_wp2_with fail
          clear hk1
          go_loop [3] (fun i => ∃ k : Nat, k ≤ s.size ∧ i = .int .i64 k ∧ (s.data.toList.take k).all jdD = true ∧ dotsP (s.data.toList.take k) = false) (fun i => s.size - (intOf i).toNat)
          case atStart => exact ⟨0, Nat.zero_le _, rfl, rfl, rfl⟩
          case round =>
            obtain ⟨k, hk, rfl, hall, hdot⟩ := hrel
            by_cases hlt : k < s.size
            · have hc := s[k].toNat_lt
              have P1 := fun w => P.out s[k] w
              have hds := dots_step s k hlt
              rw [hdot, Bool.false_or] at hds
              cases hA : jdA s[k] with
              | true =>
                rw [hA] at P1
                have h46 := jdA_46 _ hA
                have q46 : (s[k] == 46) = false := beq_eq_false_iff_ne.2 (fun e => h46 (by rw [e]; rfl))
                by_cases hk0 : 0 < k
                · have gk : (0 : Int) < k := by omega
                  have hD : jdD s[k] = true := (jdA_D _ hA).1
                  have HS := Lib.hid (all_snoc s k hlt hall hD)
                  have hdd : dotsP (s.data.toList.take (k + 1)) = false := hds.trans (by rw [q46]; simp)
                  have HD := Lib.hid hdd
                  clear hD hdd
                  have e46 : ((s[k].toNat : Int) == 46) = false := beq_eq_false_iff_ne.2 (by omega)
                  have f46 : ((s[k].toNat : Int) != 46) = true := by unfold bne; rw [e46]; rfl
                  have PH := Lib.hid P1
                  clear P1 hA hall hdot hds
                  (try clear h1)
                  (try clear h2)
                  (try clear h46)
                  (try clear q46)
                  (try clear r46)
                  go_wp2_with fail
                  refine (PH.out _).mono ?_
                  rintro e w1 ⟨rfl, rfl⟩
                  go_wp2_with fail
                  go_round
                  case rel => exact ⟨k + 1, by omega, by go_num, HS.out, HD.out⟩
                  case measure => simp [intOf]; omega
                · have gk : ((0 : Int) < (k : Int)) = False := eq_false (by omega)
                  have hD : jdD s[k] = true := (jdA_D _ hA).1
                  have HS := Lib.hid (all_snoc s k hlt hall hD)
                  have hdd : dotsP (s.data.toList.take (k + 1)) = false := hds.trans (by rw [q46]; simp)
                  have HD := Lib.hid hdd
                  clear hD hdd
                  have e46 : ((s[k].toNat : Int) == 46) = false := beq_eq_false_iff_ne.2 (by omega)
                  have f46 : ((s[k].toNat : Int) != 46) = true := by unfold bne; rw [e46]; rfl
                  have PH := Lib.hid P1
                  clear P1 hA hall hdot hds
                  (try clear h1)
                  (try clear h2)
                  (try clear h46)
                  (try clear q46)
                  (try clear r46)
                  go_wp2_with fail
                  refine (PH.out _).mono ?_
                  rintro e w1 ⟨rfl, rfl⟩
                  go_wp2_with fail
                  go_round
                  case rel => exact ⟨k + 1, by omega, by go_num, HS.out, HD.out⟩
                  case measure => simp [intOf]; omega
              | false =>
                rw [hA] at P1
                by_cases h1 : s[k].toNat = 46
                · have q46 : (s[k] == 46) = true := beq_iff_eq.2 (c_is _ 46 h1 (by omega))
                  by_cases hk0 : 0 < k
                  · have gk : (0 : Int) < k := by omega
                    have hkl : k - 1 < s.size := by omega
                    have hk1 : ((k : Int) - 1) = ((k - 1 : Nat) : Int) := by omega
                    by_cases h2 : (s[k - 1]'hkl).toNat = 46
                    · have r46 : (s[k - 1]'hkl == 46) = true := beq_iff_eq.2 (c_is _ 46 h2 (by omega))
                      have hn : O = false := by
                        rw [← HO.out]
                        have : dotsP s.data.toList = true := by
                          rw [← List.take_append_drop (k + 1) s.data.toList]
                          exact dots_mono _ _ (by rw [hds, r46, q46, decide_eq_true hk0]; rfl)
                        rw [this]; simp
                      subst hn
                      have e46 : ((s[k].toNat : Int) == 46) = true := beq_iff_eq.2 (by omega)
                      have f46 : ((s[k].toNat : Int) != 46) = false := by unfold bne; rw [e46]; rfl
                      have b46 : (((s[k - 1]'hkl).toNat : Int) == 46) = true := beq_iff_eq.2 (by omega)
                      have PH := Lib.hid P1
                      clear P1 hA hall hdot hds
                      (try clear h1)
                      (try clear h2)
                      (try clear h46)
                      (try clear q46)
                      (try clear r46)
                      go_wp2_with fail
                      refine (PH.out _).mono ?_
                      rintro e w1 ⟨rfl, rfl⟩
                      go_wp2_with fail
                      go_ret
                      exact ⟨rfl, rfl⟩
                    · have r46 : (s[k - 1]'hkl == 46) = false := beq_eq_false_iff_ne.2 (fun e => h2 (by rw [e]; rfl))
                      have b46 : (((s[k - 1]'hkl).toNat : Int) == 46) = false := beq_eq_false_iff_ne.2 (by omega)
                      have hD : jdD s[k] = true := (jdL_46 _ h1).2.1
                      have HS := Lib.hid (all_snoc s k hlt hall hD)
                      have hdd : dotsP (s.data.toList.take (k + 1)) = false := hds.trans (by rw [r46]; simp)
                      have HD := Lib.hid hdd
                      clear hD hdd
                      have e46 : ((s[k].toNat : Int) == 46) = true := beq_iff_eq.2 (by omega)
                      have f46 : ((s[k].toNat : Int) != 46) = false := by unfold bne; rw [e46]; rfl
                      have PH := Lib.hid P1
                      clear P1 hA hall hdot hds
                      (try clear h1)
                      (try clear h2)
                      (try clear h46)
                      (try clear q46)
                      (try clear r46)
                      go_wp2_with fail
                      refine (PH.out _).mono ?_
                      rintro e w1 ⟨rfl, rfl⟩
                      go_wp2_with fail
                      go_round
                      case rel => exact ⟨k + 1, by omega, by go_num, HS.out, HD.out⟩
                      case measure => simp [intOf]; omega
                  · have gk : ((0 : Int) < (k : Int)) = False := eq_false (by omega)
                    have hD : jdD s[k] = true := (jdL_46 _ h1).2.1
                    have HS := Lib.hid (all_snoc s k hlt hall hD)
                    have hdd : dotsP (s.data.toList.take (k + 1)) = false := hds.trans (by rw [decide_eq_false hk0]; rfl)
                    have HD := Lib.hid hdd
                    clear hD hdd
                    have e46 : ((s[k].toNat : Int) == 46) = true := beq_iff_eq.2 (by omega)
                    have f46 : ((s[k].toNat : Int) != 46) = false := by unfold bne; rw [e46]; rfl
                    have PH := Lib.hid P1
                    clear P1 hA hall hdot hds
                    (try clear h1)
                    (try clear h2)
                    (try clear h46)
                    (try clear q46)
                    (try clear r46)
                    go_wp2_with fail
                    refine (PH.out _).mono ?_
                    rintro e w1 ⟨rfl, rfl⟩
                    go_wp2_with fail
                    go_round
                    case rel => exact ⟨k + 1, by omega, by go_num, HS.out, HD.out⟩
                    case measure => simp [intOf]; omega
                · have q46 : (s[k] == 46) = false := beq_eq_false_iff_ne.2 (fun e => h1 (by rw [e]; rfl))
                  by_cases h2 : s[k].toNat = 45
                  · by_cases hk0 : 0 < k
                    · have gk : (0 : Int) < k := by omega
                      have hD : jdD s[k] = true := (jdL_45 _ h2).2.1
                      have HS := Lib.hid (all_snoc s k hlt hall hD)
                      have hdd : dotsP (s.data.toList.take (k + 1)) = false := hds.trans (by rw [q46]; simp)
                      have HD := Lib.hid hdd
                      clear hD hdd
                      have e46 : ((s[k].toNat : Int) == 46) = false := beq_eq_false_iff_ne.2 (by omega)
                      have f46 : ((s[k].toNat : Int) != 46) = true := by unfold bne; rw [e46]; rfl
                      have e45 : ((s[k].toNat : Int) == 45) = true := beq_iff_eq.2 (by omega)
                      have f45 : ((s[k].toNat : Int) != 45) = false := by unfold bne; rw [e45]; rfl
                      have PH := Lib.hid P1
                      clear P1 hA hall hdot hds
                      (try clear h1)
                      (try clear h2)
                      (try clear h46)
                      (try clear q46)
                      (try clear r46)
                      go_wp2_with fail
                      refine (PH.out _).mono ?_
                      rintro e w1 ⟨rfl, rfl⟩
                      go_wp2_with fail
                      go_round
                      case rel => exact ⟨k + 1, by omega, by go_num, HS.out, HD.out⟩
                      case measure => simp [intOf]; omega
                    · have gk : ((0 : Int) < (k : Int)) = False := eq_false (by omega)
                      have hD : jdD s[k] = true := (jdL_45 _ h2).2.1
                      have HS := Lib.hid (all_snoc s k hlt hall hD)
                      have hdd : dotsP (s.data.toList.take (k + 1)) = false := hds.trans (by rw [q46]; simp)
                      have HD := Lib.hid hdd
                      clear hD hdd
                      have e46 : ((s[k].toNat : Int) == 46) = false := beq_eq_false_iff_ne.2 (by omega)
                      have f46 : ((s[k].toNat : Int) != 46) = true := by unfold bne; rw [e46]; rfl
                      have e45 : ((s[k].toNat : Int) == 45) = true := beq_iff_eq.2 (by omega)
                      have f45 : ((s[k].toNat : Int) != 45) = false := by unfold bne; rw [e45]; rfl
                      have PH := Lib.hid P1
                      clear P1 hA hall hdot hds
                      (try clear h1)
                      (try clear h2)
                      (try clear h46)
                      (try clear q46)
                      (try clear r46)
                      go_wp2_with fail
                      refine (PH.out _).mono ?_
                      rintro e w1 ⟨rfl, rfl⟩
                      go_wp2_with fail
                      go_round
                      case rel => exact ⟨k + 1, by omega, by go_num, HS.out, HD.out⟩
                      case measure => simp [intOf]; omega
                  · have hn : O = false := by rw [← HO.out, all_last s k hlt (jdL_no _ hA h1 h2).1]; simp
                    subst hn
                    have e46 : ((s[k].toNat : Int) == 46) = false := beq_eq_false_iff_ne.2 (by omega)
                    have f46 : ((s[k].toNat : Int) != 46) = true := by unfold bne; rw [e46]; rfl
                    have e45 : ((s[k].toNat : Int) == 45) = false := beq_eq_false_iff_ne.2 (by omega)
                    have f45 : ((s[k].toNat : Int) != 45) = true := by unfold bne; rw [e45]; rfl
                    have PH := Lib.hid P1
                    clear P1 hA hall hdot hds
                    (try clear h1)
                    (try clear h2)
                    (try clear h46)
                    (try clear q46)
                    (try clear r46)
                    go_wp2_with fail
                    refine (PH.out _).mono ?_
                    rintro e w1 ⟨rfl, rfl⟩
                    go_wp2_with fail
                    go_ret
                    exact ⟨rfl, rfl⟩
            · have hn : O = true := by
                rw [List.take_of_length_le (by rw [size_toList]; omega)] at hall hdot
                rw [← HO.out, hall, hdot]; rfl
              subst hn
              clear hall hdot
              go_wp2_with fail
              go_ret
              exact ⟨rfl, rfl⟩
    · rw [decide_eq_false h64] at hO
      have : O = false := by rw [← hO]; rfl
      subst this
      have g1 : ((64 : Int) < s.size) := by omega
      clear hO
      go_enter Tryd.func50, Tryd.ntmps50
      go_wp2_with fail
      go_ret
      exact ⟨rfl, rfl⟩
  · obtain rfl : s = ⟨#[]⟩ := str_ext (List.eq_nil_of_length_eq_zero (by rw [size_toList]; omega))
    have : O = false := by rw [← hO]; rfl
    subst this
    clear hO h0
    go_enter Tryd.func50, Tryd.ntmps50
    go_wp2_with fail
    go_ret
    exact ⟨rfl, rfl⟩
set_option maxHeartbeats 1000000 in
theorem r19_Resource (s : ByteArray) (w : World) (hs : s.size ≤ 10000) : Calls Tryd.prog 52 #[.string s] w (Ret w (.bool (resP s.data.toList))) := by
  obtain ⟨O, hO⟩ : ∃ O, resP s.data.toList = O := ⟨_, rfl⟩
  rw [hO]
  have I := r5_Is s w hs
  have HO := Lib.hid hO
  obtain ⟨X, hX⟩ : ∃ X, txP s.data.toList = X := ⟨_, rfl⟩
  rw [hX] at I
  have HX := Lib.hid hX
  have IH := Lib.hid I
  clear hO hX I
  go_enter Tryd.func52, Tryd.ntmps52
  go_wp2_with fail
  go_loop [3] (fun i => ∃ k : Nat, k ≤ s.size ∧ i = .int .i64 k ∧ ((s.data.toList.take k).all fun c => decide (32 ≤ c.toNat)) = true) (fun i => s.size - (intOf i).toNat)
  case atStart => exact ⟨0, Nat.zero_le _, rfl, rfl⟩
  case round =>
    obtain ⟨k, hk, rfl, hall⟩ := hrel
    by_cases hlt : k < s.size
    · have hc := s[k].toNat_lt
      by_cases h32 : 32 ≤ s[k].toNat
      · have HS := Lib.hid (all_snoc (q := fun c => decide (32 ≤ c.toNat)) s k hlt hall (decide_eq_true h32))
        have g1 : ¬ ((s[k].toNat : Int) < 32) := by omega
        clear hall
        go_wp2_with fail
        go_round
        case rel => exact ⟨k + 1, by omega, by go_num, HS.out⟩
        case measure => simp [intOf]; omega
      · have hn : O = false := by rw [← HO.out]; unfold resP; rw [all_last (q := fun c => decide (32 ≤ c.toNat)) s k hlt (decide_eq_false h32)]; simp
        subst hn
        have g1 : ((s[k].toNat : Int) < 32) := by omega
        clear hall
        go_wp2_with fail
        go_ret
        exact ⟨rfl, Below.refl _ _⟩
    · have hO := HO.out
      rw [List.take_of_length_le (by rw [size_toList]; omega)] at hall
      unfold resP at hO
      rw [HX.out, hall, size_toList, Bool.and_true] at hO
      clear hall HO HX
      by_cases h0 : 0 < s.size
      · have e3 : s.data.toList.isEmpty = false := by rw [← Lib.toList_data]; exact isEmpty_of_pos h0
        rw [e3] at hO
        clear e3
        have g0 : 1 ≤ s.size := h0
        have g1 : ((1 : Int) ≤ s.size) := by omega
        by_cases h64 : s.size ≤ 64
        · rw [decide_eq_true h64] at hO
          have g2 : ((s.size : Int) ≤ 64) := by omega
          have : X = O := by rw [← hO]; rfl
          subst this
          clear hO
          go_wp2_with fail
          refine IH.out.mono ?_
          rintro e w1 ⟨rfl, hb⟩
          go_wp2_with fail
          go_ret
          exact ⟨rfl, hb⟩
        · rw [decide_eq_false h64] at hO
          have g2 : ¬ ((s.size : Int) ≤ 64) := by omega
          subst hO
          go_wp2_with fail
          go_ret
          exact ⟨rfl, Below.refl _ _⟩
      · obtain rfl : s = ⟨#[]⟩ := str_ext (List.eq_nil_of_length_eq_zero (by rw [size_toList]; omega))
        have : O = false := by rw [← hO]; rfl
        subst this
        clear hO h0
        go_wp2_with fail
        go_ret
        exact ⟨rfl, Below.refl _ _⟩
/-- the place of a byte; below 0: it is not there. -/
def atP (c : UInt8) (l : List UInt8) : Int := if l.contains c then ((cA c l).length : Int) else -1
theorem cA_take (c : UInt8) (s : ByteArray) (k : Nat) (hlt : k < s.size) (h : (s.data.toList.take k).contains c = false) : (s[k] = c → atP c s.data.toList = k) ∧ (s[k] ≠ c → (s.data.toList.take (k + 1)).contains c = false) := by
  constructor
  · intro e
    have hd := drop_cons s k hlt
    have e2 : s.data.toList = s.data.toList.take k ++ c :: s.data.toList.drop (k + 1) := by
      rw [← e, ← hd, List.take_append_drop]
    have hm : c ∉ s.data.toList.take k := by simpa using h
    obtain ⟨a, -⟩ := cA_app c _ (s.data.toList.drop (k + 1)) hm
    rw [← e2] at a
    have hc : s.data.toList.contains c = true := by
      rw [e2]; simp
    unfold atP
    rw [hc, if_pos rfl, a, List.length_take, size_toList]
    congr 1
    omega
  · intro e
    rw [take_snoc s k hlt, List.contains_append]
    rw [h]
    simp
    exact fun q => e q.symm
set_option maxHeartbeats 1000000 in
theorem r19_at (s : ByteArray) (c : UInt8) (w : World) (hs : s.size ≤ 10000) : Calls Tryd.prog 33 #[.string s, .int .u8 (c.toNat : Int)] w fun e w' => e = .returned (.int .i64 (atP c s.data.toList)) ∧ w' = w := by
  obtain ⟨O, hO⟩ : ∃ O, atP c s.data.toList = O := ⟨_, rfl⟩
  rw [hO]
  have HO := Lib.hid hO
  clear hO
  go_enter Tryd.func33, Tryd.ntmps33
  go_wp2_with fail
  go_loop [5] (fun i => ∃ k : Nat, k ≤ s.size ∧ i = .int .i64 k ∧ (s.data.toList.take k).contains c = false) (fun i => s.size - (intOf i).toNat)
  case atStart => exact ⟨0, Nat.zero_le _, rfl, rfl⟩
  case round =>
    obtain ⟨k, hk, rfl, hall⟩ := hrel
    by_cases hlt : k < s.size
    · have hc := s[k].toNat_lt
      obtain ⟨h1, h2⟩ := cA_take c s k hlt hall
      by_cases he : s[k] = c
      · have hn : O = k := by rw [← HO.out, h1 he]
        subst hn
        have g1 : ((s[k].toNat : Int) == c.toNat) = true := by rw [he]; simp
        clear h1 h2 hall he
        go_wp2_with fail
        go_ret
        exact ⟨rfl, rfl⟩
      · have HS := Lib.hid (h2 he)
        have hq : s[k].toNat ≠ c.toNat := fun e => he (UInt8.toNat_inj.1 e)
        have g1 : ((s[k].toNat : Int) == c.toNat) = false := beq_eq_false_iff_ne.2 (by omega)
        clear h1 h2 hall he
        go_wp2_with fail
        go_round
        case rel => exact ⟨k + 1, by omega, by go_num, HS.out⟩
        case measure => simp [intOf]; omega
    · rw [List.take_of_length_le (by rw [size_toList]; omega)] at hall
      have hn : O = -1 := by rw [← HO.out]; unfold atP; rw [hall]; rfl
      subst hn
      clear hall
      go_wp2_with fail
      go_ret
      exact ⟨rfl, rfl⟩
end Go.Proofs.YtfonkblbgadhmaaDoor
