/- AsciiAgain: the walk. -/
import Derived.Test.YtcmbmbkglglljaaDoorAsWp
namespace Go.Proofs.YtcmbmbkglglljaaDoor
open Go.RowKit

theorem blank_at (s : ByteArray) (l : List UInt8) (b : Bool) (w : World) (hs : s.size ≤ 1000000) (h : s.data.toList = l) (hb : l.all blk = b) : Calls Tryd.prog 35 #[.string s] w fun e w' => e = .returned (.bool b) ∧ w' = w := by
  have := blank07 s w hs
  rwa [h, hb] at this
theorem not_blk {c : UInt8} (h : blk c = false) : ((c.toNat : Int) != 32) = true ∧ ((c.toNat : Int) != 9) = true := by
  have h1 := u8_beq c 32
  have h2 := u8_beq c 9
  have e1 : (UInt8.toNat 32 : Int) = 32 := rfl
  have e2 : (UInt8.toNat 9 : Int) = 9 := rfl
  rw [e1] at h1
  rw [e2] at h2
  unfold blk at h
  rw [Bool.or_eq_false_iff] at h
  unfold bne
  rw [h1, h2, h.1, h.2]
  exact ⟨rfl, rfl⟩
set_option maxHeartbeats 16000000 in
set_option maxRecDepth 100000 in
theorem again07 (s : ByteArray) (w : World) : Calls Tryd.prog 10 #[.string s] w (Ret w (.bool true)) := by
  have AL := Lib.hid alive07
  by_cases h1 : 1000 < s.size
  · have g1 : (1000 : Int) < s.size := by omega
    go_enter Tryd.func10, Tryd.ntmps10
    go_wp2_with fail
    refine (AL.out _).mono ?_
    rintro e w1 ⟨rfl, hb1⟩
    go_wp2_with fail
    go_ret
    exact ⟨rfl, hb1⟩
  have g1 : ¬ (1000 : Int) < s.size := by omega
  have zs : s.size ≤ 1000000 := by omega
  obtain ⟨A, hA⟩ : ∃ A : ByteArray, ⟨(lowL s.data.toList).toArray⟩ = A := ⟨_, rfl⟩
  obtain ⟨B, hB⟩ : ∃ B : ByteArray, ⟨(trm s.data.toList).toArray⟩ = B := ⟨_, rfl⟩
  have hAl : A.data.toList = lowL s.data.toList := by rw [← hA]
  have hBl : B.data.toList = trm s.data.toList := by rw [← hB]
  have hAs : A.size = s.size := by rw [← size_toList, hAl, lowL_len, size_toList]
  have hBs : B.size ≤ s.size := by rw [← size_toList, hBl, ← size_toList]; exact trm_le _
  have zA : A.size ≤ 1000000 := by omega
  have zB : B.size ≤ 1000000 := by omega
  have C1 := Lib.hid fun w => lower_at s A w zs hAl.symm
  have C2 := Lib.hid fun w => trim_at s B w zs hBl.symm
  have C3 := Lib.hid fun w => lower_at A A w zA (by rw [hAl, lowL_again])
  have C4 := Lib.hid fun w => trim_at B B w zB (by rw [hBl, trm_again])
  have C5 := Lib.hid fun w => same_at A s true w zA zs (by rw [hAl, lowL_again, decide_eq_true rfl])
  have C6 := fun w => token_at s _ w zs rfl
  have C7 := fun w => token_at A _ w zA (by rw [hAl, tok_low])
  have C8 := fun w => plain_at s _ w zs rfl
  have C9 := fun w => plain_at B _ w zB (by rw [hBl, pln_trm])
  obtain ⟨K, hK⟩ : ∃ K, tok s.data.toList = K := ⟨_, rfl⟩
  obtain ⟨Q, hQ⟩ : ∃ Q, pln s.data.toList = Q := ⟨_, rfl⟩
  rw [hK] at C6 C7
  rw [hQ] at C8 C9
  have D6 := Lib.hid C6
  have D7 := Lib.hid C7
  have D8 := Lib.hid C8
  have D9 := Lib.hid C9
  have hP := plc_some s.data.toList s.size B.size (size_toList s) (by rw [← hBl, size_toList])
  rw [← hBl] at hP
  have HP := Lib.hid hP
  have hhd := trm_head s.data.toList
  have hlast := trm_last s.data.toList
  rw [← hBl] at hhd hlast
  have HD := Lib.hid hhd
  have HL := Lib.hid hlast
  have e1 : ((A.size : Int) != (s.size : Int)) = false := by rw [hAs]; simp
  have g2 : ¬ (s.size : Int) < B.size := by omega
  have e6 : decide (s.size < B.size) = false := decide_eq_false (by omega)
  have e7 : decide ((1000 : Int) < s.size) = false := decide_eq_false (by omega)
  clear hA hB hAl hBl hK hQ C6 C7 C8 C9 hP hhd hlast zA
  go_enter Tryd.func10, Tryd.ntmps10
  go_wp2_with fail
  refine (AL.out _).mono ?_
  rintro e w1 ⟨rfl, hb1⟩
  go_wp2_with fail
  refine (C1.out _).mono ?_
  rintro e w2 ⟨rfl, hb2⟩
  have q2 := ret_thru hb1 hb2
  go_wp2_with fail
  refine (C2.out _).mono ?_
  rintro e w3 ⟨rfl, hb3⟩
  have q3 := ret_thru q2 hb3
  go_wp2_with fail
  refine (C3.out _).mono ?_
  rintro e w4 ⟨rfl, hb4⟩
  have q4 := ret_thru q3 hb4
  go_wp2_with fail
  refine (C4.out _).mono ?_
  rintro e w5 ⟨rfl, hb5⟩
  have q5 := ret_thru q4 hb5
  go_wp2_with fail
  refine (C5.out _).mono ?_
  rintro e w6 ⟨rfl, hb6⟩
  have q6 := ret_thru q5 hb6
  clear hb1 hb2 hb3 hb4 hb5 hb6 q2 q3 q4 q5 C1 C2 C3 C4 C5 AL
  go_wp2_with fail
  go_loop [6, 7] (fun z i => ∃ k : Nat, k + B.size ≤ s.size + 1 ∧ i = .int .i64 k ∧ z = .bool ((List.range k).any (plc s.data.toList B.data.toList))) (fun _ i => s.size + 2 - (intOf i).toNat)
  case atStart => exact ⟨0, by omega, rfl, rfl⟩
  case round =>
    obtain ⟨k, hk, rfl, rfl⟩ := hrel
    have hsn : (List.range (k + 1)).any (plc s.data.toList B.data.toList) = ((List.range k).any (plc s.data.toList B.data.toList) || plc s.data.toList B.data.toList k) := by
      rw [List.range_succ, List.any_append]
      simp
    by_cases hlt : k + B.size ≤ s.size
    · have g3 : (k : Int) + B.size ≤ s.size := by omega
      have hpk : plc s.data.toList B.data.toList k = (decide ((s.data.toList.drop k).take B.size = B.data.toList) && ((s.data.toList.take k).all blk && (s.data.toList.drop (k + B.size)).all blk)) := by
        unfold plc
        rw [size_toList]
      rw [hpk] at hsn
      have heq := beq_str (s.extract k (k + B.size)) B ((s.data.toList.drop k).take B.size) B.data.toList (by rw [ext_data, Nat.add_sub_cancel_left]) rfl
      have zk : (s.extract 0 k).size ≤ 1000000 := by rw [← size_toList, ext_data, List.length_take]; omega
      have zt : (s.extract (k + B.size) s.size).size ≤ 1000000 := by rw [← size_toList, ext_tail, List.length_drop, size_toList]; omega
      have cb1 := fun w => blank_at (s.extract 0 k) (s.data.toList.take k) _ w zk (by rw [ext_data]; rfl) rfl
      have cb2 := fun w => blank_at (s.extract (k + B.size) s.size) (s.data.toList.drop (k + B.size)) _ w zt (ext_tail _ _) rfl
      obtain ⟨z, hz⟩ : ∃ z, (List.range k).any (plc s.data.toList B.data.toList) = z := ⟨_, rfl⟩
      obtain ⟨v, hv⟩ : ∃ v, decide ((s.data.toList.drop k).take B.size = B.data.toList) = v := ⟨_, rfl⟩
      obtain ⟨b1, hb1⟩ : ∃ b, (s.data.toList.take k).all blk = b := ⟨_, rfl⟩
      obtain ⟨b2, hb2⟩ : ∃ b, (s.data.toList.drop (k + B.size)).all blk = b := ⟨_, rfl⟩
      rw [hz] at hsn ⊢
      rw [hv] at hsn heq
      rw [hb1] at hsn cb1
      rw [hb2] at hsn cb2
      have CB1 := Lib.hid cb1
      have CB2 := Lib.hid cb2
      have g4 : (k : Int) ≤ s.size := by omega
      have g5 : (k : Int) ≤ (k : Int) + B.size := by omega
      have e3 : ((k : Int) + (B.size : Int)).toNat = k + B.size := by omega
      have g6 : (0 : Int) ≤ (k : Int) + B.size := by omega
      clear cb1 cb2 hz hv hb1 hb2 hpk zk zt
      cases z with
      | true =>
        rw [Bool.true_or] at hsn
        have HS := Lib.hid hsn
        clear hsn heq
        go_wp2_with fail
        go_round
        case rel => exact ⟨k + 1, by omega, by go_num, by rw [HS.out]⟩
        case measure => simp [intOf]; omega
      | false =>
        cases v with
        | false =>
          have HS : Hid ((List.range (k + 1)).any (plc s.data.toList B.data.toList) = false) := Lib.hid hsn
          clear hsn
          go_wp2_with fail
          go_round
          case rel => exact ⟨k + 1, by omega, by go_num, by rw [HS.out]⟩
          case measure => simp [intOf]; omega
        | true =>
          cases b1 with
          | false =>
            have HS : Hid ((List.range (k + 1)).any (plc s.data.toList B.data.toList) = false) := Lib.hid hsn
            clear hsn
            go_wp2_with fail
            refine (CB1.out _).mono ?_
            rintro e w7 ⟨rfl, rfl⟩
            go_wp2_with fail
            go_round
            case rel => exact ⟨k + 1, by omega, by go_num, by rw [HS.out]⟩
            case measure => simp [intOf]; omega
          | true =>
            have HS : Hid ((List.range (k + 1)).any (plc s.data.toList B.data.toList) = b2) := Lib.hid hsn
            clear hsn
            go_wp2_with fail
            refine (CB1.out _).mono ?_
            rintro e w7 ⟨rfl, rfl⟩
            go_wp2_with fail
            refine (CB2.out _).mono ?_
            rintro e w8 ⟨rfl, rfl⟩
            go_wp2_with fail
            go_round
            case rel => exact ⟨k + 1, by omega, by go_num, by rw [HS.out]⟩
            case measure => simp [intOf]; omega
    · have hke : k = s.size - B.size + 1 := by omega
      have g3 : (s.size : Int) < (k : Int) + B.size := by omega
      have hzt : (List.range k).any (plc s.data.toList B.data.toList) = true := by rw [hke]; exact HP.out
      rw [hzt]
      clear hsn hzt
      by_cases h0 : B.size = 0
      · obtain rfl : B = ⟨#[]⟩ := str_ext (List.eq_nil_of_length_eq_zero (by rw [size_toList]; exact h0))
        clear h0
        clear hke e1 HP HD HL
        go_wp2_with fail
        refine (D7.out _).mono ?_
        rintro e w7 ⟨rfl, hb7⟩
        have q7 := ret_thru q6 hb7
        go_wp2_with fail
        refine (D6.out _).mono ?_
        rintro e w8 ⟨rfl, hb8⟩
        have q8 := ret_thru q7 hb8
        clear hb7 hb8 q6 q7
        go_wp2_with fail
        refine (D9.out _).mono ?_
        rintro e w9 ⟨rfl, hb9⟩
        have q9 := ret_thru q8 hb9
        go_wp2_with fail
        refine (D8.out _).mono ?_
        rintro e w10 ⟨rfl, hb10⟩
        have q10 := ret_thru q9 hb10
        clear hb9 hb10 q8 q9
        go_wp2_with fail
        go_ret
        exact ⟨ret_b (by first | rfl | simp), q10⟩
      · obtain ⟨c, r, hcr, hc⟩ := HD.out.resolve_left (fun h => h0 (by rw [← size_toList, h]; rfl))
        obtain ⟨r2, c2, hcr2, hc2⟩ := HL.out.resolve_left (fun h => h0 (by rw [← size_toList, h]; rfl))
        obtain ⟨y, hy⟩ : ∃ y, B.size = y + 1 := ⟨B.size - 1, by omega⟩
        have hp0 : 0 < B.size := by omega
        have hp1 : y < B.size := by omega
        have hB0 : B[0] = c := by
          have h := drop_cons B 0 hp0
          rw [List.drop_zero, hcr] at h
          exact (List.cons.inj h).1.symm
        have hB1 : B[y] = c2 := by
          have h := take_snoc B y hp1
          rw [List.take_of_length_le (by rw [size_toList]; omega), hcr2] at h
          exact (List.concat_inj.1 (by simpa using h)).2.symm
        obtain ⟨n1, n2⟩ := not_blk hc
        obtain ⟨n3, n4⟩ := not_blk hc2
        rw [← hB0] at n1 n2
        rw [← hB1] at n3 n4
        have e4 := isEmpty_of_pos (s := B) (by omega)
        have e5 := ne_nil_of_pos (s := B) (by omega)
        have i1 : IntKind.i64.wrap ((B.size : Int) - 1) = (y : Int) := by rw [hy]; exact (IntWalk.i64_in _ (by omega)).trans (by omega)
        have i2 : (B.size : Int) - 1 = (y : Int) := by omega
        have i3 : (y : Int) ≤ 1000 := by omega
        clear hke e1 HP HD HL hcr hcr2 hc hc2 hB0 hB1 h0
        go_wp2_with fail
        refine (D7.out _).mono ?_
        rintro e w7 ⟨rfl, hb7⟩
        have q7 := ret_thru q6 hb7
        go_wp2_with fail
        refine (D6.out _).mono ?_
        rintro e w8 ⟨rfl, hb8⟩
        have q8 := ret_thru q7 hb8
        clear hb7 hb8 q6 q7
        go_wp2_with fail
        refine (D9.out _).mono ?_
        rintro e w9 ⟨rfl, hb9⟩
        have q9 := ret_thru q8 hb9
        go_wp2_with fail
        refine (D8.out _).mono ?_
        rintro e w10 ⟨rfl, hb10⟩
        have q10 := ret_thru q9 hb10
        clear hb9 hb10 q8 q9
        go_wp2_with fail
        go_ret
        exact ⟨ret_b (by first | rfl | simp), q10⟩
end Go.Proofs.YtcmbmbkglglljaaDoor
