/- PRINTED BY PROGRAM (gen_as7.py). -/
import Derived.Test.YtcmbmbkglglljaaDoorAsN
namespace Go.Proofs.YtcmbmbkglglljaaDoor
open Go.RowKit

theorem ret_thru {w w1 w2 : World} (h1 : Below w.heap.size w w1) (h2 : Below w1.heap.size w1 w2) : Below w.heap.size w w2 := h1.trans (h2.mono h1.size)
theorem lstV_bound (l : List UInt8) : (lstV l).length ≤ l.length + 1 := by
  unfold lstV
  split
  · have h1 := lstG_len (cutG 44 [] l)
    have h2 := cutG_len 44 l []
    exact Nat.le_trans h1 h2
  · simp
set_option maxHeartbeats 8000000 in
set_option maxRecDepth 100000 in
theorem tells07 (a b : ByteArray) (w : World) : Calls Tryd.prog 9 #[.string a, .string b] w (Ret w (.bool true)) := by
  by_cases h1 : 1000 < a.size
  · have gh1 : (1000 : Int) < a.size := by omega
    go_enter Tryd.func9, Tryd.ntmps9
    go_wp2_with fail
    go_ret
    exact ⟨rfl, Below.refl _ _⟩
  by_cases h2 : 1000 < b.size
  · have gh2 : (1000 : Int) < b.size := by omega
    have gh1 : ¬ (1000 : Int) < a.size := by omega
    go_enter Tryd.func9, Tryd.ntmps9
    go_wp2_with fail
    go_ret
    exact ⟨rfl, Below.refl _ _⟩
  have gh1 : ¬ (1000 : Int) < a.size := by omega
  have gh2 : ¬ (1000 : Int) < b.size := by omega
  have z1 : a.size ≤ 1000000 := by omega
  have z2 : b.size ≤ 1000000 := by omega
  have c1 := fun w => as_List a w z1
  have c2 := fun w => r7_List a w z1
  have c3 := fun w => as_Lower a w z1
  have c4 := fun w => r7_Lower a w z1
  have c5 := fun w => as_Same a b w z1 z2
  have c6 := fun w => r7_Same a b w z1 z2
  have c7 := fun w => as_Trim a w z1
  have c8 := fun w => r7_Trim a w z1
  have c9 := fun w => as_Token a w z1
  have c10 := fun w => r7_Token a w z1
  have c11 := fun w => as_Plain a w z1
  have c12 := fun w => r7_Plain a w z1
  unfold LstIs at c1 c2
  have hln := lstV_bound a.data.toList
  rw [size_toList] at hln
  obtain ⟨S, hS⟩ : ∃ x, decide (lowL a.data.toList = lowL b.data.toList) = x := ⟨_, rfl⟩
  simp only [hS] at c5 c6
  obtain ⟨E, hE⟩ : ∃ x, lstE a.data.toList = x := ⟨_, rfl⟩
  simp only [hE] at c1 c2
  obtain ⟨V, hV⟩ : ∃ x, lstV a.data.toList = x := ⟨_, rfl⟩
  rw [hV] at hln
  simp only [hV] at c1 c2
  obtain ⟨L, hL⟩ : ∃ x, lowL a.data.toList = x := ⟨_, rfl⟩
  simp only [hL] at c3 c4
  obtain ⟨T, hT⟩ : ∃ x, trm a.data.toList = x := ⟨_, rfl⟩
  simp only [hT] at c7 c8
  obtain ⟨K, hK⟩ : ∃ x, tok a.data.toList = x := ⟨_, rfl⟩
  simp only [hK] at c9 c10
  obtain ⟨P, hP⟩ : ∃ x, pln a.data.toList = x := ⟨_, rfl⟩
  simp only [hP] at c11 c12
  obtain ⟨X, hX⟩ : ∃ X : ByteArray, ⟨L.toArray⟩ = X := ⟨_, rfl⟩
  simp only [hX] at c3 c4
  obtain ⟨Y, hY⟩ : ∃ Y : ByteArray, ⟨T.toArray⟩ = Y := ⟨_, rfl⟩
  simp only [hY] at c7 c8
  have C1 := Lib.hid c1
  have C2 := Lib.hid c2
  have C3 := Lib.hid c3
  have C4 := Lib.hid c4
  have C5 := Lib.hid c5
  have C6 := Lib.hid c6
  have C7 := Lib.hid c7
  have C8 := Lib.hid c8
  have C9 := Lib.hid c9
  have C10 := Lib.hid c10
  have C11 := Lib.hid c11
  have C12 := Lib.hid c12
  have HV := Lib.hid hln
  clear hln c1 c2 c3 c4 c5 c6 c7 c8 c9 c10 c11 c12 hE hV hL hT hK hP hS hX hY z2
  go_enter Tryd.func9, Tryd.ntmps9
  go_wp2_with fail
  refine (C1.out _).mono ?_
  rintro e w1 ⟨va, rfl, ivva, hb1⟩
  have q1 := hb1
  go_wp2_with fail
  refine (C2.out _).mono ?_
  rintro e w2 ⟨vb, rfl, ivvb, hb2⟩
  have q2 := ret_thru q1 hb2
  have I1 := Lib.hid (ivva.ret hb2)
  clear ivva
  go_wp2_with fail
  refine (C3.out _).mono ?_
  rintro e w3 ⟨rfl, hb3⟩
  have q3 := ret_thru q2 hb3
  go_wp2_with fail
  refine (C4.out _).mono ?_
  rintro e w4 ⟨rfl, hb4⟩
  have q4 := ret_thru q3 hb4
  go_wp2_with fail
  refine (C5.out _).mono ?_
  rintro e w5 ⟨rfl, hb5⟩
  have q5 := ret_thru q4 hb5
  go_wp2_with fail
  refine (C6.out _).mono ?_
  rintro e w6 ⟨rfl, hb6⟩
  have q6 := ret_thru q5 hb6
  go_wp2_with fail
  refine (C7.out _).mono ?_
  rintro e w7 ⟨rfl, hb7⟩
  have q7 := ret_thru q6 hb7
  go_wp2_with fail
  refine (C8.out _).mono ?_
  rintro e w8 ⟨rfl, rfl⟩
  go_wp2_with fail
  refine (C9.out _).mono ?_
  rintro e w9 ⟨rfl, hb9⟩
  have q9 := ret_thru q7 hb9
  go_wp2_with fail
  refine (C10.out _).mono ?_
  rintro e w10 ⟨rfl, rfl⟩
  go_wp2_with fail
  refine (C11.out _).mono ?_
  rintro e w11 ⟨rfl, hb11⟩
  have q11 := ret_thru q9 hb11
  go_wp2_with fail
  refine (C12.out _).mono ?_
  rintro e w12 ⟨rfl, rfl⟩
  have d := ret_thru (ret_thru (ret_thru (ret_thru (ret_thru (ret_thru hb3 hb4) hb5) hb6) hb7) hb9) hb11
  have hln := HV.out
  go_wp2_with fail
  refine (r4_Same va vb V V w12 (I1.out.ret d) (ivvb.ret d) (by omega)).mono ?_
  rintro e w13 ⟨rfl, hb13⟩
  have q13 := ret_thru q11 hb13
  rw [decide_eq_true (rfl : V = V)]
  go_wp2_with fail
  go_ret
  exact ⟨ret_b (by simp), q13⟩
end Go.Proofs.YtcmbmbkglglljaaDoor
