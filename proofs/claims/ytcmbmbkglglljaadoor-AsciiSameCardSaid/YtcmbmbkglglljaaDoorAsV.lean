/- PRINTED BY PROGRAM (gen_as7.py). -/
import Derived.Test.YtcmbmbkglglljaaDoorAsU
namespace Go.Proofs.YtcmbmbkglglljaaDoor
open Go.RowKit

set_option maxHeartbeats 16000000 in
set_option maxRecDepth 100000 in
theorem same07 (a b c : ByteArray) (w : World) : Calls Tryd.prog 11 #[.string a, .string b, .string c] w (Ret w (.bool true)) := by
  have A := Lib.hid alive07
  by_cases h1 : 1000 < a.size
  · have gh1 : (1000 : Int) < a.size := by omega
    go_enter Tryd.func11, Tryd.ntmps11
    go_wp2_with fail
    refine (A.out _).mono ?_
    rintro e w1 ⟨rfl, hb1⟩
    go_wp2_with fail
    go_ret
    exact ⟨rfl, hb1⟩
  by_cases h2 : 1000 < b.size
  · have gh2 : (1000 : Int) < b.size := by omega
    have gh1 : ¬ (1000 : Int) < a.size := by omega
    go_enter Tryd.func11, Tryd.ntmps11
    go_wp2_with fail
    refine (A.out _).mono ?_
    rintro e w1 ⟨rfl, hb1⟩
    go_wp2_with fail
    go_ret
    exact ⟨rfl, hb1⟩
  by_cases h3 : 1000 < c.size
  · have gh3 : (1000 : Int) < c.size := by omega
    have gh1 : ¬ (1000 : Int) < a.size := by omega
    have gh2 : ¬ (1000 : Int) < b.size := by omega
    go_enter Tryd.func11, Tryd.ntmps11
    go_wp2_with fail
    refine (A.out _).mono ?_
    rintro e w1 ⟨rfl, hb1⟩
    go_wp2_with fail
    go_ret
    exact ⟨rfl, hb1⟩
  have gh1 : ¬ (1000 : Int) < a.size := by omega
  have za : a.size ≤ 1000000 := by omega
  have gh2 : ¬ (1000 : Int) < b.size := by omega
  have zb : b.size ≤ 1000000 := by omega
  have gh3 : ¬ (1000 : Int) < c.size := by omega
  have zc : c.size ≤ 1000000 := by omega
  have cab := fun w => as_Same a b w za zb
  have cba := fun w => as_Same b a w zb za
  have cbc := fun w => as_Same b c w zb zc
  have cac := fun w => as_Same a c w za zc
  have caa := fun w => same_at a a true w za za (by simp)
  have ca := fun w => as_Lower a w za
  have cb := fun w => as_Lower b w zb
  have hsym : decide (lowL b.data.toList = lowL a.data.toList) = decide (lowL a.data.toList = lowL b.data.toList) := by rw [decide_eq_decide]; exact eq_comm
  simp only [hsym] at cba
  have htr : decide (lowL a.data.toList = lowL b.data.toList) = true → decide (lowL b.data.toList = lowL c.data.toList) = true → decide (lowL a.data.toList = lowL c.data.toList) = true := by
    simp only [decide_eq_true_eq]
    exact Eq.trans
  have hxy := beq_str ⟨(lowL a.data.toList).toArray⟩ ⟨(lowL b.data.toList).toArray⟩ _ _ rfl rfl
  obtain ⟨p, hp⟩ : ∃ x, decide (lowL a.data.toList = lowL b.data.toList) = x := ⟨_, rfl⟩
  simp only [hp] at cab cba htr hxy
  obtain ⟨q, hq⟩ : ∃ x, decide (lowL b.data.toList = lowL c.data.toList) = x := ⟨_, rfl⟩
  simp only [hq] at cbc htr
  obtain ⟨r, hr⟩ : ∃ x, decide (lowL a.data.toList = lowL c.data.toList) = x := ⟨_, rfl⟩
  simp only [hr] at cac htr
  obtain ⟨X, hX⟩ : ∃ x, (⟨(lowL a.data.toList).toArray⟩ : ByteArray) = x := ⟨_, rfl⟩
  simp only [hX] at ca hxy
  obtain ⟨Y, hY⟩ : ∃ x, (⟨(lowL b.data.toList).toArray⟩ : ByteArray) = x := ⟨_, rfl⟩
  simp only [hY] at cb hxy
  have Cab := Lib.hid cab
  have Cba := Lib.hid cba
  have Cbc := Lib.hid cbc
  have Cac := Lib.hid cac
  have Caa := Lib.hid caa
  have Ca := Lib.hid ca
  have Cb := Lib.hid cb
  clear cab cba cbc cac caa ca cb hsym hp hq hr hX hY za zb zc
  cases p with
  | false =>
    clear htr
    go_enter Tryd.func11, Tryd.ntmps11
    go_wp2_with fail
    refine (A.out _).mono ?_
    rintro e w1 ⟨rfl, hb1⟩
    have q1 := hb1
    go_wp2_with fail
    refine (Cab.out _).mono ?_
    rintro e w2 ⟨rfl, hb2⟩
    have q2 := ret_thru q1 hb2
    go_wp2_with fail
    refine (Caa.out _).mono ?_
    rintro e w3 ⟨rfl, hb3⟩
    have q3 := ret_thru q2 hb3
    go_wp2_with fail
    refine (Cab.out _).mono ?_
    rintro e w4 ⟨rfl, hb4⟩
    have q4 := ret_thru q3 hb4
    go_wp2_with fail
    refine (Cba.out _).mono ?_
    rintro e w5 ⟨rfl, hb5⟩
    have q5 := ret_thru q4 hb5
    go_wp2_with fail
    refine (Cab.out _).mono ?_
    rintro e w6 ⟨rfl, hb6⟩
    have q6 := ret_thru q5 hb6
    go_wp2_with fail
    refine (Ca.out _).mono ?_
    rintro e w7 ⟨rfl, hb7⟩
    have q7 := ret_thru q6 hb7
    go_wp2_with fail
    refine (Cb.out _).mono ?_
    rintro e w8 ⟨rfl, hb8⟩
    have q8 := ret_thru q7 hb8
    go_wp2_with fail
    go_ret
    exact ⟨ret_b (by first | rfl | simp [hxy] | simp), q8⟩
  | true =>
    cases q with
    | false =>
      clear htr
      go_enter Tryd.func11, Tryd.ntmps11
      go_wp2_with fail
      refine (A.out _).mono ?_
      rintro e w1 ⟨rfl, hb1⟩
      have q1 := hb1
      go_wp2_with fail
      refine (Cab.out _).mono ?_
      rintro e w2 ⟨rfl, hb2⟩
      have q2 := ret_thru q1 hb2
      go_wp2_with fail
      refine (Cbc.out _).mono ?_
      rintro e w3 ⟨rfl, hb3⟩
      have q3 := ret_thru q2 hb3
      go_wp2_with fail
      refine (Caa.out _).mono ?_
      rintro e w4 ⟨rfl, hb4⟩
      have q4 := ret_thru q3 hb4
      go_wp2_with fail
      refine (Cab.out _).mono ?_
      rintro e w5 ⟨rfl, hb5⟩
      have q5 := ret_thru q4 hb5
      go_wp2_with fail
      refine (Cba.out _).mono ?_
      rintro e w6 ⟨rfl, hb6⟩
      have q6 := ret_thru q5 hb6
      go_wp2_with fail
      refine (Cab.out _).mono ?_
      rintro e w7 ⟨rfl, hb7⟩
      have q7 := ret_thru q6 hb7
      go_wp2_with fail
      refine (Ca.out _).mono ?_
      rintro e w8 ⟨rfl, hb8⟩
      have q8 := ret_thru q7 hb8
      go_wp2_with fail
      refine (Cb.out _).mono ?_
      rintro e w9 ⟨rfl, hb9⟩
      have q9 := ret_thru q8 hb9
      go_wp2_with fail
      go_ret
      exact ⟨ret_b (by first | rfl | simp [hxy] | simp), q9⟩
    | true =>
      obtain rfl : r = true := htr rfl rfl
      clear htr
      go_enter Tryd.func11, Tryd.ntmps11
      go_wp2_with fail
      refine (A.out _).mono ?_
      rintro e w1 ⟨rfl, hb1⟩
      have q1 := hb1
      go_wp2_with fail
      refine (Cab.out _).mono ?_
      rintro e w2 ⟨rfl, hb2⟩
      have q2 := ret_thru q1 hb2
      go_wp2_with fail
      refine (Cbc.out _).mono ?_
      rintro e w3 ⟨rfl, hb3⟩
      have q3 := ret_thru q2 hb3
      go_wp2_with fail
      refine (Cac.out _).mono ?_
      rintro e w4 ⟨rfl, hb4⟩
      have q4 := ret_thru q3 hb4
      go_wp2_with fail
      refine (Caa.out _).mono ?_
      rintro e w5 ⟨rfl, hb5⟩
      have q5 := ret_thru q4 hb5
      go_wp2_with fail
      refine (Cab.out _).mono ?_
      rintro e w6 ⟨rfl, hb6⟩
      have q6 := ret_thru q5 hb6
      go_wp2_with fail
      refine (Cba.out _).mono ?_
      rintro e w7 ⟨rfl, hb7⟩
      have q7 := ret_thru q6 hb7
      go_wp2_with fail
      refine (Cab.out _).mono ?_
      rintro e w8 ⟨rfl, hb8⟩
      have q8 := ret_thru q7 hb8
      go_wp2_with fail
      refine (Ca.out _).mono ?_
      rintro e w9 ⟨rfl, hb9⟩
      have q9 := ret_thru q8 hb9
      go_wp2_with fail
      refine (Cb.out _).mono ?_
      rintro e w10 ⟨rfl, hb10⟩
      have q10 := ret_thru q9 hb10
      go_wp2_with fail
      go_ret
      exact ⟨ret_b (by first | rfl | simp [hxy] | simp), q10⟩
end Go.Proofs.YtcmbmbkglglljaaDoor
