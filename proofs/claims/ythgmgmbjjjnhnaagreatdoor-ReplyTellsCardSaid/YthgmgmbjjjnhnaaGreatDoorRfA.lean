/- The document's replies: May, Check, begins, length. -/
import Derived.Test.YthgmgmbjjjnhnaaGreatDoorRpQ
import Derived.Test.YthgmgmbjjjnhnaaGreatDoorRpA
import Derived.Test.YthgmgmbjjjnhnaaGreatDoorGd
import Derived.Test.YthgmgmbjjjnhnaaGreatDoorGi
namespace Go.Proofs.YthgmgmbjjjnhnaaGreatDoor
open Go.RowKit

theorem RpAt.ret2 {L B : Nat} {a b c : Value} {w w' : World} (h : RpAt L a b c w) (hL : L < B) (hb : Below B w w') : RpAt L a b c w' := by
  obtain ⟨h0, h1, h2, h3, h4, h5, h6⟩ := h
  have q : ∀ o, w'.cell? ⟨L, o, none⟩ = w.cell? ⟨L, o, none⟩ := fun o => hb.cell (p := ⟨L, o, none⟩) hL
  have r : ∀ o, w'.frozen? ⟨L, o, none⟩ = w.frozen? ⟨L, o, none⟩ := fun o => hb.frozen (p := ⟨L, o, none⟩) hL
  exact ⟨Nat.lt_of_lt_of_le h0 hb.size, (q _).trans h1, (q _).trans h2, (q _).trans h3, (r _).trans h4, (r _).trans h5, (r _).trans h6⟩
set_option maxHeartbeats 4000000 in
theorem r18_May (st : Int) (B : ByteArray) (k : Bool) (w : World) (hz : B.size ≤ 9223372036854775807) : Calls Tryz.prog 29 #[rpV st B k] w (Ret w (.bool (rpMay st B.data.toList k))) := by
  have q0 := (Below.refl w.heap.size w).alloc (Nat.le_refl _) (.cells #[.int .i64 st, .string B, .bool k] 23)
  have a0 := RpAt.new w (.int .i64 st) (.string B) (.bool k)
  obtain ⟨m0, m1, m2, m3, m4, m5, m6⟩ := a0
  have S := Lib.hid (fun w => r15_Name st w)
  obtain ⟨O, hO⟩ : ∃ O, rpMay st B.data.toList k = O := ⟨_, rfl⟩
  rw [hO]
  unfold rpMay at hO
  by_cases h2 : st = 200
  · subst h2
    rw [if_pos rfl] at hO
    by_cases h3 : B.size ≤ 16384
    · rw [decide_eq_true (by rw [size_toList]; exact h3)] at hO
      subst hO
      have g1 : (B.size : Int) ≤ 16384 := by omega
      go_enter Tryz.func29, Tryz.ntmps29
      go_wp2_with fail
      go_ret
      exact ⟨rfl, q0⟩
    · rw [decide_eq_false (by rw [size_toList]; exact h3)] at hO
      subst hO
      have g1 : ¬ (B.size : Int) ≤ 16384 := by omega
      go_enter Tryz.func29, Tryz.ntmps29
      go_wp2_with fail
      go_ret
      exact ⟨rfl, q0⟩
  · rw [if_neg h2] at hO
    have g0 : (st == 200) = false := by rw [beq_eq_false_iff_ne]; exact h2
    have g1 : (st != 200) = true := by rw [bne_iff_ne]; exact h2
    obtain ⟨N, hN⟩ : ∃ N : ByteArray, ⟨(stN st).toArray⟩ = N := ⟨_, rfl⟩
    have hNl : N.data.toList = stN st := by rw [← hN]
    by_cases hn : stN st = []
    · rw [decide_eq_true hn] at hO
      have hO2 : O = false := by rw [← hO]; simp
      subst hO2
      rw [hn] at S
      clear hO hN hNl h2
      go_enter Tryz.func29, Tryz.ntmps29
      go_wp2_with fail
      refine (S.out _).mono ?_
      rintro e w1 ⟨rfl, rfl⟩
      go_wp2_with fail
      go_ret
      exact ⟨rfl, q0⟩
    · rw [decide_eq_false hn] at hO
      have hp : 0 < N.size := by
        rw [← size_toList, hNl]
        exact List.length_pos_iff.2 hn
      have e1 := isEmpty_of_pos hp
      have e2 := ne_nil_of_pos hp
      rw [hN] at S
      by_cases h3 : B.size = 0
      · have hB : B = ⟨#[]⟩ := str_ext (List.eq_nil_of_length_eq_zero (by rw [size_toList]; exact h3))
        subst hB
        have hO2 : O = !k := by rw [← hO]; rfl
        subst hO2
        clear hO hN hNl h2 h3 hn hp
        cases k
        all_goals
          go_enter Tryz.func29, Tryz.ntmps29
          go_wp2_with fail
          refine (S.out _).mono ?_
          rintro e w1 ⟨rfl, rfl⟩
          go_wp2_with fail
          go_ret
          exact ⟨rfl, q0⟩
      · have e3 := isEmpty_of_pos (s := B) (by omega)
        have e4 := ne_nil_of_pos (s := B) (by omega)
        have hb : B.data.toList ≠ [] := fun h => h3 (by rw [← size_toList, h]; rfl)
        rw [decide_eq_false hb] at hO
        have hO2 : O = false := by rw [← hO]; simp
        subst hO2
        clear hO hN hNl h2 h3 hn hp hb
        go_enter Tryz.func29, Tryz.ntmps29
        go_wp2_with fail
        refine (S.out _).mono ?_
        rintro e w1 ⟨rfl, rfl⟩
        go_wp2_with fail
        go_ret
        exact ⟨rfl, q0⟩
set_option maxHeartbeats 4000000 in
theorem r18_Check (st : Int) (B : ByteArray) (k : Bool) (w : World) (hz : B.size ≤ 9223372036854775807) : Calls Tryz.prog 13 #[rpV st B k] w (Ret w (.int .i64 (chkE st B.data.toList k))) := by
  have q0 := (Below.refl w.heap.size w).alloc (Nat.le_refl _) (.cells #[.int .i64 st, .string B, .bool k] 23)
  have a0 := RpAt.new w (.int .i64 st) (.string B) (.bool k)
  obtain ⟨m0, m1, m2, m3, m4, m5, m6⟩ := a0
  have M0 := fun w => r18_May st B k w hz
  unfold chkE
  cases hm : rpMay st B.data.toList k
  all_goals
    rw [hm] at M0
    have M := Lib.hid M0
    clear M0 hm
    go_enter Tryz.func13, Tryz.ntmps13
    go_wp2_with fail
    refine (M.out _).mono ?_
    rintro e w1 ⟨rfl, hb1⟩
    go_wp2_with fail
    go_ret
    exact ⟨rfl, q0.trans (hb1.mono q0.size)⟩
set_option maxHeartbeats 1000000 in
theorem r18_begins (b a : ByteArray) (w : World) : Calls Tryz.prog 67 #[.string b, .string a] w fun e w' => e = .returned (.bool (a.data.toList.isPrefixOf b.data.toList)) ∧ w' = w := by
  obtain ⟨p, hp⟩ : ∃ p, a.data.toList.isPrefixOf b.data.toList = p := ⟨_, rfl⟩
  rw [hp]
  by_cases h : a.size ≤ b.size
  · have hp2 : (b.data.toList.take a.data.toList.length == a.data.toList) = p := by
      rw [← hp, Bool.eq_iff_iff, beq_iff_eq, List.isPrefixOf_iff_prefix, List.prefix_iff_eq_take]
      exact eq_comm
    have HP := Lib.hid hp2
    clear hp hp2
    go_enter Tryz.func67, Tryz.ntmps67
    go_wp2_with fail
    go_ret
    exact ⟨ret_b (by rw [← HP.out, ext_list, Lib.toList_data, List.drop_zero, Nat.sub_zero, size_toList]), rfl⟩
  · have hp2 : a.data.toList.isPrefixOf b.data.toList = false := by
      rw [Bool.eq_false_iff, Ne, List.isPrefixOf_iff_prefix]
      intro hx
      have := hx.length_le
      rw [size_toList, size_toList] at this
      omega
    rw [hp2] at hp
    subst hp
    clear hp2
    go_enter Tryz.func67, Tryz.ntmps67
    go_wp2_with fail
    go_ret
    exact ⟨rfl, rfl⟩
/-- The digits that stand at a place. -/
def digsAt (s : List UInt8) (at' : Nat) : List UInt8 := (s.drop at').takeWhile isDig
theorem digs_on {s : List UInt8} {at' j : Nat} (hj : at' ≤ j) (hjl : j < s.length) (hall : ((s.drop at').take (j - at')).all isDig = true) (hd : isDig (s[j]) = true) : ((s.drop at').take (j + 1 - at')).all isDig = true := by
  have e : (s.drop at').take (j + 1 - at') = (s.drop at').take (j - at') ++ [s[j]] := by
    rw [show j + 1 - at' = (j - at') + 1 by omega, List.take_succ_eq_append_getElem (by rw [List.length_drop]; omega), List.getElem_drop]
    congr 2
    congr 1
    omega
  rw [e, List.all_append, hall, List.all_cons, hd]
  rfl
theorem digs_end {s : List UInt8} {at' j : Nat} (hj : at' ≤ j) (hall : ((s.drop at').take (j - at')).all isDig = true) (hd : ∀ (h : j < s.length), isDig (s[j]) = false) : digsAt s at' = (s.drop at').take (j - at') := by
  unfold digsAt
  have e : s.drop at' = (s.drop at').take (j - at') ++ s.drop j := by
    conv => lhs; rw [← List.take_append_drop (j - at') (s.drop at')]
    rw [List.drop_drop, show at' + (j - at') = j by omega]
  conv => lhs; rw [e]
  refine take_digs hall ?_
  intro c t h
  by_cases hlt : j < s.length
  · rw [List.drop_eq_getElem_cons hlt] at h
    injection h with h
    rw [← h]
    exact hd hlt
  · rw [List.drop_eq_nil_of_le (by omega)] at h
    cases h
theorem digs_len (s : List UInt8) (at' : Nat) (h : at' ≤ s.length) : at' + (digsAt s at').length ≤ s.length := by
  unfold digsAt
  have := (List.takeWhile_sublist (l := s.drop at') isDig).length_le
  rw [List.length_drop] at this
  omega
def lenV (s : List UInt8) (at' : Nat) : Value := if rdE (digsAt s at') = 0 ∧ rdN (digsAt s at') ≤ 16384 then .tuple #[.int .i64 (rdN (digsAt s at')), .int .i64 ((at' + (digsAt s at').length : Nat) : Int)] else .tuple #[.int .i64 (-1), .int .i64 (at' : Int)]
theorem isDig_iff (c : UInt8) : isDig c = true ↔ (48 ≤ c.toNat ∧ c.toNat ≤ 57) := by
  unfold isDig
  simp
set_option maxHeartbeats 4000000 in
theorem r18_length (s : ByteArray) (at' : Nat) (w : World) (hs : s.size ≤ 1000000) (ha : at' ≤ s.size) : Calls Tryz.prog 97 #[.string s, .int .i64 at'] w (Ret w (lenV s.data.toList at')) := by
  obtain ⟨O, hO⟩ : ∃ O, lenV s.data.toList at' = O := ⟨_, rfl⟩
  rw [hO]
  have HO := Lib.hid hO
  clear hO
  go_enter Tryz.func97, Tryz.ntmps97
  go_wp2_with fail
  go_loop [6] (fun i => ∃ j : Nat, at' ≤ j ∧ j ≤ s.size ∧ i = .int .i64 j ∧ ((s.data.toList.drop at').take (j - at')).all isDig = true) (fun i => s.size - (intOf i).toNat)
  case atStart => exact ⟨at', Nat.le_refl _, ha, rfl, by rw [Nat.sub_self]; simp⟩
  case round =>
    obtain ⟨j, hj1, hj2, rfl, hall⟩ := hrel
    by_cases hlt : j < s.size
    rotate_left
    · have hdg := digs_end (s := s.data.toList) hj1 hall (by intro h; rw [size_toList] at h; omega)
      have hln : (digsAt s.data.toList at').length = j - at' := by rw [hdg, List.length_take, List.length_drop, size_toList]; omega
      have hO := HO.out
      unfold lenV at hO
      rw [hln, show at' + (j - at') = j by omega] at hO
      have R0 := fun w => ref06_Read (s.extract at' j) w (by rw [ByteArray.size_extract]; omega)
      rw [ext_data, ← hdg] at R0
      obtain ⟨N, hN⟩ : ∃ N, rdN (digsAt s.data.toList at') = N := ⟨_, rfl⟩
      obtain ⟨E, hE⟩ : ∃ E, rdE (digsAt s.data.toList at') = E := ⟨_, rfl⟩
      rw [hN, hE] at R0 hO
      have R := Lib.hid R0
      have g5 : (at' : Int) ≤ j := by omega
      have g6 : (j : Int) ≤ s.size := by omega
      clear R0 hdg hln hN hall
      by_cases he : E = 0
      · subst he
        by_cases hn : N ≤ 16384
        · rw [if_pos ⟨rfl, hn⟩] at hO
          subst hO
          go_wp2_with fail
          refine (R.out _).mono ?_
          rintro e w1 ⟨rfl, hb1⟩
          go_wp2_with fail
          go_ret2
          exact ⟨rfl, hb1⟩
        · rw [if_neg (fun h => hn h.2)] at hO
          subst hO
          go_wp2_with fail
          refine (R.out _).mono ?_
          rintro e w1 ⟨rfl, hb1⟩
          go_wp2_with fail
          go_ret2
          exact ⟨rfl, hb1⟩
      · rw [if_neg (fun h => he h.1)] at hO
        subst hO
        have e5 : (E == 0) = false := by rw [beq_eq_false_iff_ne]; exact he
        have e6 : (E != 0) = true := by rw [bne_iff_ne]; exact he
        go_wp2_with fail
        refine (R.out _).mono ?_
        rintro e w1 ⟨rfl, hb1⟩
        go_wp2_with fail
        go_ret2
        exact ⟨rfl, hb1⟩
    · have hx : j < s.data.toList.length := by rw [size_toList]; exact hlt
      have hc : s.data.toList[j] = s[j] := rfl
      have hb : (s[j].toNat : Int) ≤ 255 := by have := s[j].toNat_lt; omega
      have h0 : 0 ≤ (s[j].toNat : Int) := by omega
      have g1 : (j : Int) < s.size := by omega
      by_cases c1 : 48 ≤ s[j].toNat
      rotate_left
      · have hno : isDig s[j] = false := by rw [Bool.eq_false_iff, Ne, isDig_iff]; omega
        have g2 : ¬ (48 : Int) ≤ s[j].toNat := by omega
        have hdg := digs_end (s := s.data.toList) hj1 hall (by intro h; rw [hc]; exact hno)
        have hln : (digsAt s.data.toList at').length = j - at' := by rw [hdg, List.length_take, List.length_drop, size_toList]; omega
        have hO := HO.out
        unfold lenV at hO
        rw [hln, show at' + (j - at') = j by omega] at hO
        have R0 := fun w => ref06_Read (s.extract at' j) w (by rw [ByteArray.size_extract]; omega)
        rw [ext_data, ← hdg] at R0
        obtain ⟨N, hN⟩ : ∃ N, rdN (digsAt s.data.toList at') = N := ⟨_, rfl⟩
        obtain ⟨E, hE⟩ : ∃ E, rdE (digsAt s.data.toList at') = E := ⟨_, rfl⟩
        rw [hN, hE] at R0 hO
        have R := Lib.hid R0
        have g5 : (at' : Int) ≤ j := by omega
        have g6 : (j : Int) ≤ s.size := by omega
        clear R0 hdg hln hN hall
        by_cases he : E = 0
        · subst he
          by_cases hn : N ≤ 16384
          · rw [if_pos ⟨rfl, hn⟩] at hO
            subst hO
            go_wp2_with fail
            refine (R.out _).mono ?_
            rintro e w1 ⟨rfl, hb1⟩
            go_wp2_with fail
            go_ret2
            exact ⟨rfl, hb1⟩
          · rw [if_neg (fun h => hn h.2)] at hO
            subst hO
            go_wp2_with fail
            refine (R.out _).mono ?_
            rintro e w1 ⟨rfl, hb1⟩
            go_wp2_with fail
            go_ret2
            exact ⟨rfl, hb1⟩
        · rw [if_neg (fun h => he h.1)] at hO
          subst hO
          have e5 : (E == 0) = false := by rw [beq_eq_false_iff_ne]; exact he
          have e6 : (E != 0) = true := by rw [bne_iff_ne]; exact he
          go_wp2_with fail
          refine (R.out _).mono ?_
          rintro e w1 ⟨rfl, hb1⟩
          go_wp2_with fail
          go_ret2
          exact ⟨rfl, hb1⟩
      · by_cases c2 : s[j].toNat ≤ 57
        rotate_left
        · have hno : isDig s[j] = false := by rw [Bool.eq_false_iff, Ne, isDig_iff]; omega
          have g2 : (48 : Int) ≤ s[j].toNat := by omega
          have g3 : ¬ (s[j].toNat : Int) ≤ 57 := by omega
          have hdg := digs_end (s := s.data.toList) hj1 hall (by intro h; rw [hc]; exact hno)
          have hln : (digsAt s.data.toList at').length = j - at' := by rw [hdg, List.length_take, List.length_drop, size_toList]; omega
          have hO := HO.out
          unfold lenV at hO
          rw [hln, show at' + (j - at') = j by omega] at hO
          have R0 := fun w => ref06_Read (s.extract at' j) w (by rw [ByteArray.size_extract]; omega)
          rw [ext_data, ← hdg] at R0
          obtain ⟨N, hN⟩ : ∃ N, rdN (digsAt s.data.toList at') = N := ⟨_, rfl⟩
          obtain ⟨E, hE⟩ : ∃ E, rdE (digsAt s.data.toList at') = E := ⟨_, rfl⟩
          rw [hN, hE] at R0 hO
          have R := Lib.hid R0
          have g5 : (at' : Int) ≤ j := by omega
          have g6 : (j : Int) ≤ s.size := by omega
          clear R0 hdg hln hN hall
          by_cases he : E = 0
          · subst he
            by_cases hn : N ≤ 16384
            · rw [if_pos ⟨rfl, hn⟩] at hO
              subst hO
              go_wp2_with fail
              refine (R.out _).mono ?_
              rintro e w1 ⟨rfl, hb1⟩
              go_wp2_with fail
              go_ret2
              exact ⟨rfl, hb1⟩
            · rw [if_neg (fun h => hn h.2)] at hO
              subst hO
              go_wp2_with fail
              refine (R.out _).mono ?_
              rintro e w1 ⟨rfl, hb1⟩
              go_wp2_with fail
              go_ret2
              exact ⟨rfl, hb1⟩
          · rw [if_neg (fun h => he h.1)] at hO
            subst hO
            have e5 : (E == 0) = false := by rw [beq_eq_false_iff_ne]; exact he
            have e6 : (E != 0) = true := by rw [bne_iff_ne]; exact he
            go_wp2_with fail
            refine (R.out _).mono ?_
            rintro e w1 ⟨rfl, hb1⟩
            go_wp2_with fail
            go_ret2
            exact ⟨rfl, hb1⟩
        · have HA := Lib.hid (digs_on hj1 hx hall (by rw [hc, isDig_iff]; exact ⟨c1, c2⟩))
          have g2 : (48 : Int) ≤ s[j].toNat := by omega
          have g3 : (s[j].toNat : Int) ≤ 57 := by omega
          clear hall
          go_wp2_with fail
          go_round
          case rel => exact ⟨j + 1, by omega, by omega, by go_num, HA.out⟩
          case measure => simp [intOf]; omega
end Go.Proofs.YthgmgmbjjjnhnaaGreatDoor
