/- AsciiNames: the walk. -/
import Derived.Test.YtcmbmbkglglljaaDoorAsU
namespace Go.Proofs.YtcmbmbkglglljaaDoor
open Go.RowKit

set_option maxHeartbeats 16000000 in
set_option maxRecDepth 100000 in
theorem names07 (w : World) : Calls Tryd.prog 8 #[] w (Ret w (.bool true)) := by
  have C1 := Lib.hid fun w => list_at ⟨#[97, 32, 98]⟩ 8 [] w (by decide) (by decide +kernel) (by decide +kernel)
  have C2 := Lib.hid fun w => list_at ⟨(mny 15).toArray⟩ 0 (List.replicate 16 [97]) w (by decide +kernel) (by decide +kernel) (by decide +kernel)
  have C3 := Lib.hid fun w => list_at (⟨(mny 15).toArray⟩ ++ ⟨#[44, 98, 32, 99]⟩) 4 [] w (by decide +kernel) (by decide +kernel) (by decide +kernel)
  have T1 := Lib.hid fun w => token_at ⟨#[]⟩ false w (by decide) (by decide +kernel)
  have T2 := Lib.hid fun w => token_at ⟨#[97, 32, 98]⟩ false w (by decide) (by decide +kernel)
  have T3 := Lib.hid fun w => token_at ⟨#[97, 58]⟩ false w (by decide) (by decide +kernel)
  have T4 := Lib.hid fun w => token_at ⟨#[195, 169]⟩ false w (by decide) (by decide +kernel)
  have T5 := Lib.hid fun w => token_at ⟨#[33, 35, 36, 37, 38, 39, 42, 43, 45, 46, 94, 95, 96, 124, 126, 48, 57, 97, 122, 65, 90]⟩ true w (by decide) (by decide +kernel)
  have L0 := Lib.hid fun w => lists07 ⟨#[]⟩ (.slice none 0 0) [] true w (by decide) (IsVals.nil w) (by decide +kernel)
  have P1 := Lib.hid fun w => plain_at ⟨#[97, 10]⟩ false w (by decide) (by decide +kernel)
  have P2 := Lib.hid fun w => plain_at ⟨#[127]⟩ false w (by decide) (by decide +kernel)
  have P3 := Lib.hid fun w => plain_at ⟨#[9, 128]⟩ true w (by decide) (by decide +kernel)
  have S1 := Lib.hid fun w => same_at ⟨#[91]⟩ ⟨#[123]⟩ false w (by decide) (by decide) (by decide +kernel)
  have A := Lib.hid alive07
  have hmA : ∀ k, (⟨(mny k).toArray⟩ : ByteArray) ++ ⟨#[44, 97]⟩ = ⟨(mny (k + 1)).toArray⟩ := fun k => by
    apply str_ext
    rw [mny_succ]
    simp
  have HM := Lib.hid hmA
  clear hmA
  go_enter Tryd.func8, Tryd.ntmps8
  go_wp2_with fail
  refine (C1.out _).mono ?_
  rintro e w1 ⟨v1, rfl, _, hb1⟩
  go_wp2_with fail
  go_loop [3, 4] (fun v i => ∃ k : Nat, k ≤ 15 ∧ i = .int .i64 k ∧ v = .string ⟨(mny k).toArray⟩) (fun _ i => 15 - (intOf i).toNat)
  case atStart => exact ⟨0, by omega, rfl, rfl⟩
  case round =>
    obtain ⟨k, hk, rfl, rfl⟩ := hrel
    obtain ⟨M, hM⟩ : ∃ M : ByteArray, ⟨(mny k).toArray⟩ = M := ⟨_, rfl⟩
    have hMs : M.size ≤ 31 := by rw [← hM, ← size_toList]; show (mny k).length ≤ 31; rw [mny_len]; omega
    rw [hM]
    by_cases hlt : k < 15
    · have hn := HM.out k
      rw [hM] at hn
      have HN := Lib.hid hn
      have g1 : (k : Int) < 15 := by omega
      clear hn hM
      go_wp2_with fail
      go_round
      case rel => exact ⟨k + 1, by omega, by go_num, by rw [← HN.out]⟩
      case measure => simp [intOf]; omega
    · obtain rfl : k = 15 := by omega
      have c2 := C2.out
      have c3 := C3.out
      rw [hM] at c2 c3
      have D2 := Lib.hid c2
      have D3 := Lib.hid c3
      clear hM c2 c3 C2 C3
      go_wp2_with fail
      refine (D2.out _).mono ?_
      rintro e w2 ⟨v2, rfl, iv2, hb2⟩
      have q2 := ret_thru hb1 hb2
      obtain ⟨a2, cap2, rfl, _, _⟩ := iv2
      rw [show (strV (List.replicate 16 [97])).length = 16 from rfl]
      go_wp2_with fail
      refine (D3.out _).mono ?_
      rintro e w3 ⟨v3, rfl, _, hb3⟩
      have q3 := ret_thru q2 hb3
      go_wp2_with fail
      refine (T1.out _).mono ?_
      rintro e w4 ⟨rfl, hb4⟩
      have q4 := ret_thru q3 hb4
      clear hb4 q3
      go_wp2_with fail
      refine (T2.out _).mono ?_
      rintro e w5 ⟨rfl, hb5⟩
      have q5 := ret_thru q4 hb5
      clear hb5 q4
      go_wp2_with fail
      refine (T3.out _).mono ?_
      rintro e w6 ⟨rfl, hb6⟩
      have q6 := ret_thru q5 hb6
      clear hb6 q5
      go_wp2_with fail
      refine (T4.out _).mono ?_
      rintro e w7 ⟨rfl, hb7⟩
      have q7 := ret_thru q6 hb7
      clear hb7 q6
      go_wp2_with fail
      refine (T5.out _).mono ?_
      rintro e w8 ⟨rfl, hb8⟩
      have q8 := ret_thru q7 hb8
      clear hb8 q7
      go_wp2_with fail
      refine (A.out _).mono ?_
      rintro e w9 ⟨rfl, hb9⟩
      have q9 := ret_thru q8 hb9
      clear hb9 q8
      go_wp2_with fail
      refine (L0.out _).mono ?_
      rintro e w10 ⟨rfl, hb10⟩
      have q10 := ret_thru q9 hb10
      clear hb10 q9
      go_wp2_with fail
      refine (P1.out _).mono ?_
      rintro e w11 ⟨rfl, hb11⟩
      have q11 := ret_thru q10 hb11
      clear hb11 q10
      go_wp2_with fail
      refine (P2.out _).mono ?_
      rintro e w12 ⟨rfl, hb12⟩
      have q12 := ret_thru q11 hb12
      clear hb12 q11
      go_wp2_with fail
      refine (P3.out _).mono ?_
      rintro e w13 ⟨rfl, hb13⟩
      have q13 := ret_thru q12 hb13
      clear hb13 q12
      go_wp2_with fail
      refine (S1.out _).mono ?_
      rintro e w14 ⟨rfl, hb14⟩
      have q14 := ret_thru q13 hb14
      clear hb14 q13
      go_wp2_with fail
      go_ret
      exact ⟨ret_b (by first | rfl | simp), q14⟩
end Go.Proofs.YtcmbmbkglglljaaDoor
