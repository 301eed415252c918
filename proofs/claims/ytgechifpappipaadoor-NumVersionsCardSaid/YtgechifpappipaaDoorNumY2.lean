/- The laws NumSums, NumVersions, NumBack: the walks. PRINTED BY PROGRAM (gen_walk06.py). -/
import Derived.Test.YtgechifpappipaaDoorNumY
namespace Go.Proofs.YtgechifpappipaaDoor
open Go.RowKit
theorem ret_trans' : True := trivial
set_option maxHeartbeats 8000000 in
theorem sums06_walk (n m k : Int) (w : World) (ht : Tab w) : Calls Tryd.prog 6 #[.int .i64 n, .int .i64 m, .int .i64 k] w (Ret w (.bool true)) := by
  have HT := Lib.hid ht
  have AL := Lib.hid (alive06 w ht)
  clear ht
  by_cases h1 : SumOk n m
  · have S1 := Lib.hid (num_Sum_ok n m h1)
    have S2 := Lib.hid (num_Sum_ok (n + m) (-m) (by unfold SumOk at *; omega))
    rw [show n + m + -m = n by omega] at S2
    have b1 : -9007199254740991 ≤ m := by unfold SumOk at *; omega
    have b2 : m ≤ 9007199254740991 := by unfold SumOk at *; omega
    have b3 : 0 ≤ n + m := by unfold SumOk at *; omega
    have b4 : n + m ≤ 9007199254740991 := by unfold SumOk at *; omega
    by_cases h2 : 0 ≤ m
    · have S3 := Lib.hid (num_Sum_ok m n (by unfold SumOk at *; omega))
      rw [show m + n = n + m by omega] at S3
      by_cases h3 : SumOk (n + m) k
      · have S4 := Lib.hid (num_Sum_ok (n + m) k h3)
        by_cases h4 : SumOk n k
        · have S5 := Lib.hid (num_Sum_ok n k h4)
          have S6 := Lib.hid (num_Sum_ok (n + k) m (by unfold SumOk at *; omega))
          rw [show n + k + m = n + m + k by omega] at S6
          clear h1 h3 h4
          go_enter Tryd.func6, Tryd.ntmps6
          go_wp2_with fail
          refine (AL.out).mono ?_
          rintro e w0 ⟨rfl, hb⟩
          have q0 := hb
          clear hb
          go_wp2_with fail
          refine (S1.out _).mono ?_
          rintro e w1 ⟨rfl, hb⟩
          have q1 := ret_trans q0 hb
          clear hb
          go_wp2_with fail
          refine (S2.out _).mono ?_
          rintro e w2 ⟨rfl, hb⟩
          have q2 := ret_trans q1 hb
          clear hb
          go_wp2_with fail
          refine (S3.out _).mono ?_
          rintro e w3 ⟨rfl, hb⟩
          have q3 := ret_trans q2 hb
          clear hb
          go_wp2_with fail
          refine (S4.out _).mono ?_
          rintro e w4 ⟨rfl, hb⟩
          have q4 := ret_trans q3 hb
          clear hb
          go_wp2_with fail
          refine (S5.out _).mono ?_
          rintro e w5 ⟨rfl, hb⟩
          have q5 := ret_trans q4 hb
          clear hb
          go_wp2_with fail
          refine (S6.out _).mono ?_
          rintro e w6 ⟨rfl, hb⟩
          have q6 := ret_trans q5 hb
          clear hb
          go_wp2_with fail
          go_ret
          exact ⟨rfl, q6⟩
        · have S5 := Lib.hid (num_Sum_no n k h4)
          clear h1 h3 h4
          go_enter Tryd.func6, Tryd.ntmps6
          go_wp2_with fail
          refine (AL.out).mono ?_
          rintro e w0 ⟨rfl, hb⟩
          have q0 := hb
          clear hb
          go_wp2_with fail
          refine (S1.out _).mono ?_
          rintro e w1 ⟨rfl, hb⟩
          have q1 := ret_trans q0 hb
          clear hb
          go_wp2_with fail
          refine (S2.out _).mono ?_
          rintro e w2 ⟨rfl, hb⟩
          have q2 := ret_trans q1 hb
          clear hb
          go_wp2_with fail
          refine (S3.out _).mono ?_
          rintro e w3 ⟨rfl, hb⟩
          have q3 := ret_trans q2 hb
          clear hb
          go_wp2_with fail
          refine (S4.out _).mono ?_
          rintro e w4 ⟨rfl, hb⟩
          have q4 := ret_trans q3 hb
          clear hb
          go_wp2_with fail
          refine (S5.out _).mono ?_
          rintro e w5 ⟨rfl, hb⟩
          have q5 := ret_trans q4 hb
          clear hb
          go_wp2_with fail
          go_ret
          exact ⟨rfl, q5⟩
      · have S4 := Lib.hid (num_Sum_no (n + m) k h3)
        by_cases h4 : SumOk n k
        · have S5 := Lib.hid (num_Sum_ok n k h4)
          clear h1 h3 h4
          go_enter Tryd.func6, Tryd.ntmps6
          go_wp2_with fail
          refine (AL.out).mono ?_
          rintro e w0 ⟨rfl, hb⟩
          have q0 := hb
          clear hb
          go_wp2_with fail
          refine (S1.out _).mono ?_
          rintro e w1 ⟨rfl, hb⟩
          have q1 := ret_trans q0 hb
          clear hb
          go_wp2_with fail
          refine (S2.out _).mono ?_
          rintro e w2 ⟨rfl, hb⟩
          have q2 := ret_trans q1 hb
          clear hb
          go_wp2_with fail
          refine (S3.out _).mono ?_
          rintro e w3 ⟨rfl, hb⟩
          have q3 := ret_trans q2 hb
          clear hb
          go_wp2_with fail
          refine (S4.out _).mono ?_
          rintro e w4 ⟨rfl, hb⟩
          have q4 := ret_trans q3 hb
          clear hb
          go_wp2_with fail
          refine (S5.out _).mono ?_
          rintro e w5 ⟨rfl, hb⟩
          have q5 := ret_trans q4 hb
          clear hb
          go_wp2_with fail
          go_ret
          exact ⟨rfl, q5⟩
        · have S5 := Lib.hid (num_Sum_no n k h4)
          clear h1 h3 h4
          go_enter Tryd.func6, Tryd.ntmps6
          go_wp2_with fail
          refine (AL.out).mono ?_
          rintro e w0 ⟨rfl, hb⟩
          have q0 := hb
          clear hb
          go_wp2_with fail
          refine (S1.out _).mono ?_
          rintro e w1 ⟨rfl, hb⟩
          have q1 := ret_trans q0 hb
          clear hb
          go_wp2_with fail
          refine (S2.out _).mono ?_
          rintro e w2 ⟨rfl, hb⟩
          have q2 := ret_trans q1 hb
          clear hb
          go_wp2_with fail
          refine (S3.out _).mono ?_
          rintro e w3 ⟨rfl, hb⟩
          have q3 := ret_trans q2 hb
          clear hb
          go_wp2_with fail
          refine (S4.out _).mono ?_
          rintro e w4 ⟨rfl, hb⟩
          have q4 := ret_trans q3 hb
          clear hb
          go_wp2_with fail
          refine (S5.out _).mono ?_
          rintro e w5 ⟨rfl, hb⟩
          have q5 := ret_trans q4 hb
          clear hb
          go_wp2_with fail
          go_ret
          exact ⟨rfl, q5⟩
    · have S3 := Lib.hid (num_Sum_no m n (by unfold SumOk; omega))
      by_cases h3 : SumOk (n + m) k
      · have S4 := Lib.hid (num_Sum_ok (n + m) k h3)
        by_cases h4 : SumOk n k
        · have S5 := Lib.hid (num_Sum_ok n k h4)
          have S6 := Lib.hid (num_Sum_ok (n + k) m (by unfold SumOk at *; omega))
          rw [show n + k + m = n + m + k by omega] at S6
          clear h1 h3 h4
          go_enter Tryd.func6, Tryd.ntmps6
          go_wp2_with fail
          refine (AL.out).mono ?_
          rintro e w0 ⟨rfl, hb⟩
          have q0 := hb
          clear hb
          go_wp2_with fail
          refine (S1.out _).mono ?_
          rintro e w1 ⟨rfl, hb⟩
          have q1 := ret_trans q0 hb
          clear hb
          go_wp2_with fail
          refine (S2.out _).mono ?_
          rintro e w2 ⟨rfl, hb⟩
          have q2 := ret_trans q1 hb
          clear hb
          go_wp2_with fail
          refine (S3.out _).mono ?_
          rintro e w3 ⟨rfl, hb⟩
          have q3 := ret_trans q2 hb
          clear hb
          go_wp2_with fail
          refine (S4.out _).mono ?_
          rintro e w4 ⟨rfl, hb⟩
          have q4 := ret_trans q3 hb
          clear hb
          go_wp2_with fail
          refine (S5.out _).mono ?_
          rintro e w5 ⟨rfl, hb⟩
          have q5 := ret_trans q4 hb
          clear hb
          go_wp2_with fail
          refine (S6.out _).mono ?_
          rintro e w6 ⟨rfl, hb⟩
          have q6 := ret_trans q5 hb
          clear hb
          go_wp2_with fail
          go_ret
          exact ⟨rfl, q6⟩
        · have S5 := Lib.hid (num_Sum_no n k h4)
          clear h1 h3 h4
          go_enter Tryd.func6, Tryd.ntmps6
          go_wp2_with fail
          refine (AL.out).mono ?_
          rintro e w0 ⟨rfl, hb⟩
          have q0 := hb
          clear hb
          go_wp2_with fail
          refine (S1.out _).mono ?_
          rintro e w1 ⟨rfl, hb⟩
          have q1 := ret_trans q0 hb
          clear hb
          go_wp2_with fail
          refine (S2.out _).mono ?_
          rintro e w2 ⟨rfl, hb⟩
          have q2 := ret_trans q1 hb
          clear hb
          go_wp2_with fail
          refine (S3.out _).mono ?_
          rintro e w3 ⟨rfl, hb⟩
          have q3 := ret_trans q2 hb
          clear hb
          go_wp2_with fail
          refine (S4.out _).mono ?_
          rintro e w4 ⟨rfl, hb⟩
          have q4 := ret_trans q3 hb
          clear hb
          go_wp2_with fail
          refine (S5.out _).mono ?_
          rintro e w5 ⟨rfl, hb⟩
          have q5 := ret_trans q4 hb
          clear hb
          go_wp2_with fail
          go_ret
          exact ⟨rfl, q5⟩
      · have S4 := Lib.hid (num_Sum_no (n + m) k h3)
        by_cases h4 : SumOk n k
        · have S5 := Lib.hid (num_Sum_ok n k h4)
          clear h1 h3 h4
          go_enter Tryd.func6, Tryd.ntmps6
          go_wp2_with fail
          refine (AL.out).mono ?_
          rintro e w0 ⟨rfl, hb⟩
          have q0 := hb
          clear hb
          go_wp2_with fail
          refine (S1.out _).mono ?_
          rintro e w1 ⟨rfl, hb⟩
          have q1 := ret_trans q0 hb
          clear hb
          go_wp2_with fail
          refine (S2.out _).mono ?_
          rintro e w2 ⟨rfl, hb⟩
          have q2 := ret_trans q1 hb
          clear hb
          go_wp2_with fail
          refine (S3.out _).mono ?_
          rintro e w3 ⟨rfl, hb⟩
          have q3 := ret_trans q2 hb
          clear hb
          go_wp2_with fail
          refine (S4.out _).mono ?_
          rintro e w4 ⟨rfl, hb⟩
          have q4 := ret_trans q3 hb
          clear hb
          go_wp2_with fail
          refine (S5.out _).mono ?_
          rintro e w5 ⟨rfl, hb⟩
          have q5 := ret_trans q4 hb
          clear hb
          go_wp2_with fail
          go_ret
          exact ⟨rfl, q5⟩
        · have S5 := Lib.hid (num_Sum_no n k h4)
          clear h1 h3 h4
          go_enter Tryd.func6, Tryd.ntmps6
          go_wp2_with fail
          refine (AL.out).mono ?_
          rintro e w0 ⟨rfl, hb⟩
          have q0 := hb
          clear hb
          go_wp2_with fail
          refine (S1.out _).mono ?_
          rintro e w1 ⟨rfl, hb⟩
          have q1 := ret_trans q0 hb
          clear hb
          go_wp2_with fail
          refine (S2.out _).mono ?_
          rintro e w2 ⟨rfl, hb⟩
          have q2 := ret_trans q1 hb
          clear hb
          go_wp2_with fail
          refine (S3.out _).mono ?_
          rintro e w3 ⟨rfl, hb⟩
          have q3 := ret_trans q2 hb
          clear hb
          go_wp2_with fail
          refine (S4.out _).mono ?_
          rintro e w4 ⟨rfl, hb⟩
          have q4 := ret_trans q3 hb
          clear hb
          go_wp2_with fail
          refine (S5.out _).mono ?_
          rintro e w5 ⟨rfl, hb⟩
          have q5 := ret_trans q4 hb
          clear hb
          go_wp2_with fail
          go_ret
          exact ⟨rfl, q5⟩
  · have S1 := Lib.hid (num_Sum_no n m h1)
    clear h1
    go_enter Tryd.func6, Tryd.ntmps6
    go_wp2_with fail
    refine (AL.out).mono ?_
    rintro e w0 ⟨rfl, hb⟩
    have q0 := hb
    clear hb
    go_wp2_with fail
    refine (S1.out _).mono ?_
    rintro e w1 ⟨rfl, hb⟩
    have q1 := ret_trans q0 hb
    clear hb
    go_wp2_with fail
    go_ret
    exact ⟨rfl, q1⟩

theorem str3 (a b : List UInt8) : (⟨a.toArray⟩ : ByteArray) ++ ⟨#[46]⟩ ++ ⟨b.toArray⟩ = ⟨(a ++ 46 :: b).toArray⟩ := by
  have : (⟨#[46]⟩ : ByteArray) = ⟨[46].toArray⟩ := rfl
  rw [this, str_append, str_append]; simp
set_option maxHeartbeats 8000000 in
theorem versions06_walk (n m : Int) (w : World) (ht : Tab w) : Calls Tryd.prog 7 #[.int .i64 n, .int .i64 m] w (Ret w (.bool true)) := by
  have HT := Lib.hid ht
  have AL := Lib.hid (alive06 w ht)
  clear ht
  by_cases h1 : n < 0 ∨ 9007199254740991 < n
  · have S1 := Lib.hid (num_Write_no n h1)
    clear h1
    by_cases h2 : m < 0 ∨ 9007199254740991 < m
    · have S2 := Lib.hid (num_Write_no m h2)
      clear h2
      go_enter Tryd.func7, Tryd.ntmps7
      go_wp2_with fail
      refine (AL.out).mono ?_
      rintro e w0 ⟨rfl, hb⟩
      have q0 := hb
      clear hb
      go_wp2_with fail
      refine (S1.out _).mono ?_
      rintro e w1 ⟨rfl, hb⟩
      have q1 := ret_trans q0 hb
      clear hb
      go_wp2_with fail
      refine (S2.out _).mono ?_
      rintro e w2 ⟨rfl, hb⟩
      have q2 := ret_trans q1 hb
      clear hb
      go_wp2_with fail
      go_ret
      exact ⟨rfl, q2⟩
    · obtain ⟨j, rfl⟩ := Int.eq_ofNat_of_zero_le (by omega : 0 ≤ m)
      have J := Lib.hid (show j ≤ 9007199254740991 by omega)
      clear h2
      go_enter Tryd.func7, Tryd.ntmps7
      go_wp2_with fail
      refine (AL.out).mono ?_
      rintro e w0 ⟨rfl, hb⟩
      have q0 := hb
      clear hb
      go_wp2_with fail
      refine (S1.out _).mono ?_
      rintro e w1 ⟨rfl, hb⟩
      have q1 := ret_trans q0 hb
      clear hb
      go_wp2_with fail
      refine (num_Write_ok j J.out _ (HT.out.ret q1)).mono ?_
      rintro e w2 ⟨rfl, hb⟩
      have q2 := ret_trans q1 hb
      clear hb
      go_wp2_with fail
      go_ret
      exact ⟨rfl, q2⟩
  obtain ⟨i, rfl⟩ := Int.eq_ofNat_of_zero_le (by omega : 0 ≤ n)
  have I := Lib.hid (show i ≤ 9007199254740991 by omega)
  clear h1
  by_cases h2 : m < 0 ∨ 9007199254740991 < m
  · have S2 := Lib.hid (num_Write_no m h2)
    clear h2
    go_enter Tryd.func7, Tryd.ntmps7
    go_wp2_with fail
    refine (AL.out).mono ?_
    rintro e w0 ⟨rfl, hb⟩
    have q0 := hb
    clear hb
    go_wp2_with fail
    refine (num_Write_ok i I.out _ (HT.out.ret q0)).mono ?_
    rintro e w1 ⟨rfl, hb⟩
    have q1 := ret_trans q0 hb
    clear hb
    go_wp2_with fail
    refine (S2.out _).mono ?_
    rintro e w2 ⟨rfl, hb⟩
    have q2 := ret_trans q1 hb
    clear hb
    go_wp2_with fail
    go_ret
    exact ⟨rfl, q2⟩
  obtain ⟨j, rfl⟩ := Int.eq_ofNat_of_zero_le (by omega : 0 ≤ m)
  have J := Lib.hid (show j ≤ 9007199254740991 by omega)
  clear h2
  have c1 := num_Write_ok i I.out
  have c2 := num_Write_ok j J.out
  have k1 := len_dec I.out
  have k2 := len_dec J.out
  have hu := fun x => vs_uniq (i := i) (j := j) (x := x)
  have hv := fun h3 h4 => vs_is (vs_some (l := Lib.decDigits i ++ 46 :: Lib.decDigits j) (n := i) (m := j) h3 h4 rfl)
  obtain ⟨d, hd⟩ : ∃ d : ByteArray, ⟨(Lib.decDigits i).toArray⟩ = d := ⟨_, rfl⟩
  obtain ⟨f, hf⟩ : ∃ f : ByteArray, ⟨(Lib.decDigits j).toArray⟩ = f := ⟨_, rfl⟩
  rw [hd] at c1
  rw [hf] at c2
  have hl : (d ++ ⟨#[46]⟩ ++ f).data.toList = Lib.decDigits i ++ 46 :: Lib.decDigits j := by
    rw [← hd, ← hf]
    simp
  have z1 : d.size ≤ 16 := by
    rw [← hd, ← size_toList]
    exact k1
  have z2 : f.size ≤ 16 := by
    rw [← hf, ← size_toList]
    exact k2
  have hz : (d ++ ⟨#[46]⟩ ++ f).size ≤ 33 := by
    rw [← size_toList, hl]
    simp
    omega
  have V := fun w => num_Version (d ++ ⟨#[46]⟩ ++ f) w (by omega)
  rw [hl] at V
  have C1 := Lib.hid c1
  have C2 := Lib.hid c2
  clear c1 c2 k1 k2 hd hf hl hz
  by_cases h3 : i ≤ 99
  · by_cases h4 : j ≤ 99
    · obtain ⟨e1, e2, e3⟩ := hv h3 h4
      simp only [e1, e2, e3] at V
      have S3 := Lib.hid V
      clear V e1 e2 e3 hu hv
      go_enter Tryd.func7, Tryd.ntmps7
      go_wp2_with fail
      refine (AL.out).mono ?_
      rintro e w0 ⟨rfl, hb⟩
      have q0 := hb
      clear hb
      go_wp2_with fail
      refine (C1.out _ (HT.out.ret q0)).mono ?_
      rintro e w1 ⟨rfl, hb⟩
      have q1 := ret_trans q0 hb
      clear hb
      go_wp2_with fail
      refine (C2.out _ (HT.out.ret q1)).mono ?_
      rintro e w2 ⟨rfl, hb⟩
      have q2 := ret_trans q1 hb
      clear hb
      go_wp2_with fail
      refine (S3.out _).mono ?_
      rintro e w3 ⟨rfl, hb⟩
      have q3 := ret_trans q2 hb
      clear hb
      go_wp2_with fail
      go_ret
      exact ⟨rfl, q3⟩
    · obtain ⟨e1, e2, e3⟩ := vs_no (l := Lib.decDigits i ++ 46 :: Lib.decDigits j) (by
        cases h : vsOf (Lib.decDigits i ++ 46 :: Lib.decDigits j) with
        | none => rfl
        | some x => exact absurd (hu x h) (by omega))
      simp only [e1, e2, e3] at V
      have S3 := Lib.hid V
      clear V e1 e2 e3 hu hv
      go_enter Tryd.func7, Tryd.ntmps7
      go_wp2_with fail
      refine (AL.out).mono ?_
      rintro e w0 ⟨rfl, hb⟩
      have q0 := hb
      clear hb
      go_wp2_with fail
      refine (C1.out _ (HT.out.ret q0)).mono ?_
      rintro e w1 ⟨rfl, hb⟩
      have q1 := ret_trans q0 hb
      clear hb
      go_wp2_with fail
      refine (C2.out _ (HT.out.ret q1)).mono ?_
      rintro e w2 ⟨rfl, hb⟩
      have q2 := ret_trans q1 hb
      clear hb
      go_wp2_with fail
      refine (S3.out _).mono ?_
      rintro e w3 ⟨rfl, hb⟩
      have q3 := ret_trans q2 hb
      clear hb
      go_wp2_with fail
      go_ret
      exact ⟨rfl, q3⟩
  · obtain ⟨e1, e2, e3⟩ := vs_no (l := Lib.decDigits i ++ 46 :: Lib.decDigits j) (by
      cases h : vsOf (Lib.decDigits i ++ 46 :: Lib.decDigits j) with
      | none => rfl
      | some x => exact absurd (hu x h) (by omega))
    simp only [e1, e2, e3] at V
    have S3 := Lib.hid V
    clear V e1 e2 e3 hu hv
    go_enter Tryd.func7, Tryd.ntmps7
    go_wp2_with fail
    refine (AL.out).mono ?_
    rintro e w0 ⟨rfl, hb⟩
    have q0 := hb
    clear hb
    go_wp2_with fail
    refine (C1.out _ (HT.out.ret q0)).mono ?_
    rintro e w1 ⟨rfl, hb⟩
    have q1 := ret_trans q0 hb
    clear hb
    go_wp2_with fail
    refine (C2.out _ (HT.out.ret q1)).mono ?_
    rintro e w2 ⟨rfl, hb⟩
    have q2 := ret_trans q1 hb
    clear hb
    go_wp2_with fail
    refine (S3.out _).mono ?_
    rintro e w3 ⟨rfl, hb⟩
    have q3 := ret_trans q2 hb
    clear hb
    go_wp2_with fail
    go_ret
    exact ⟨rfl, q3⟩

set_option maxHeartbeats 8000000 in
theorem back06_walk (n : Int) (s : ByteArray) (hs : s.size ≤ 9223372036854775807) (w : World) (ht : Tab w) : Calls Tryd.prog 4 #[.int .i64 n, .string s] w (Ret w (.bool true)) := by
  have HT := Lib.hid ht
  have AL := Lib.hid (alive06 w ht)
  clear ht
  by_cases h0 : 1000 < s.size
  · clear hs
    go_enter Tryd.func4, Tryd.ntmps4
    go_wp2_with fail
    refine (AL.out).mono ?_
    rintro e w0 ⟨rfl, hb⟩
    have q0 := hb
    clear hb
    go_wp2_with fail
    go_ret
    exact ⟨rfl, q0⟩
  have h0' : s.size ≤ 1000 := by omega
  clear h0
  have R := fun w => num_Read s w hs
  by_cases h1 : n < 0 ∨ 9007199254740991 < n
  · have S1 := Lib.hid (num_Write_no n h1)
    clear h1
    cases h2 : numOk s.data.toList with
    | false =>
      obtain ⟨e1, e2⟩ := rd_bad h2
      rw [e1, e2] at R
      have S2 := Lib.hid R
      clear R e1 e2 h2 hs
      go_enter Tryd.func4, Tryd.ntmps4
      go_wp2_with fail
      refine (AL.out).mono ?_
      rintro e w0 ⟨rfl, hb⟩
      have q0 := hb
      clear hb
      go_wp2_with fail
      refine (S1.out _).mono ?_
      rintro e w1 ⟨rfl, hb⟩
      have q1 := ret_trans q0 hb
      clear hb
      go_wp2_with fail
      refine (S2.out _).mono ?_
      rintro e w2 ⟨rfl, hb⟩
      have q2 := ret_trans q1 hb
      clear hb
      go_wp2_with fail
      go_ret
      exact ⟨rfl, q2⟩
    | true =>
      obtain ⟨e1, e2⟩ := rd_good h2
      rw [e1, e2] at R
      have S2 := Lib.hid R
      obtain ⟨d1, d2⟩ := dec_of_ok h2
      have S3 := Lib.hid (num_Write_ok _ d2)
      rw [d1] at S3
      clear R e1 e2 h2 hs d1 d2
      go_enter Tryd.func4, Tryd.ntmps4
      go_wp2_with fail
      refine (AL.out).mono ?_
      rintro e w0 ⟨rfl, hb⟩
      have q0 := hb
      clear hb
      go_wp2_with fail
      refine (S1.out _).mono ?_
      rintro e w1 ⟨rfl, hb⟩
      have q1 := ret_trans q0 hb
      clear hb
      go_wp2_with fail
      refine (S2.out _).mono ?_
      rintro e w2 ⟨rfl, hb⟩
      have q2 := ret_trans q1 hb
      clear hb
      go_wp2_with fail
      refine (S3.out _ (HT.out.ret q2)).mono ?_
      rintro e w3 ⟨rfl, hb⟩
      have q3 := ret_trans q2 hb
      clear hb
      go_wp2_with fail
      go_ret
      exact ⟨rfl, q3⟩
  obtain ⟨i, rfl⟩ := Int.eq_ofNat_of_zero_le (by omega : 0 ≤ n)
  have I := Lib.hid (show i ≤ 9007199254740991 by omega)
  clear h1
  have IT := Lib.hid (is_true ⟨(Lib.decDigits i).toArray⟩ i · (by
    have h1 := len_dec I.out
    show (Lib.decDigits i).toArray.size ≤ _
    simp
    omega) (by rw [(rd_good (numOk_dec I.out)).1]; simp [valOf_dec]) (rd_good (numOk_dec I.out)).2)
  cases h2 : numOk s.data.toList with
  | false =>
    obtain ⟨e1, e2⟩ := rd_bad h2
    rw [e1, e2] at R
    have S2 := Lib.hid R
    clear R e1 e2 h2 hs
    go_enter Tryd.func4, Tryd.ntmps4
    go_wp2_with fail
    refine (AL.out).mono ?_
    rintro e w0 ⟨rfl, hb⟩
    have q0 := hb
    clear hb
    go_wp2_with fail
    refine (num_Write_ok i I.out _ (HT.out.ret q0)).mono ?_
    rintro e w1 ⟨rfl, hb⟩
    have q1 := ret_trans q0 hb
    clear hb
    go_wp2_with fail
    refine (IT.out _).mono ?_
    rintro e w2 ⟨rfl, hb⟩
    have q2 := ret_trans q1 hb
    clear hb
    go_wp2_with fail
    refine (S2.out _).mono ?_
    rintro e w3 ⟨rfl, hb⟩
    have q3 := ret_trans q2 hb
    clear hb
    go_wp2_with fail
    go_ret
    exact ⟨rfl, q3⟩
  | true =>
    obtain ⟨e1, e2⟩ := rd_good h2
    rw [e1, e2] at R
    have S2 := Lib.hid R
    obtain ⟨d1, d2⟩ := dec_of_ok h2
    have S3 := Lib.hid (num_Write_ok _ d2)
    rw [d1] at S3
    clear R e1 e2 h2 hs d1 d2
    go_enter Tryd.func4, Tryd.ntmps4
    go_wp2_with fail
    refine (AL.out).mono ?_
    rintro e w0 ⟨rfl, hb⟩
    have q0 := hb
    clear hb
    go_wp2_with fail
    refine (num_Write_ok i I.out _ (HT.out.ret q0)).mono ?_
    rintro e w1 ⟨rfl, hb⟩
    have q1 := ret_trans q0 hb
    clear hb
    go_wp2_with fail
    refine (IT.out _).mono ?_
    rintro e w2 ⟨rfl, hb⟩
    have q2 := ret_trans q1 hb
    clear hb
    go_wp2_with fail
    refine (S2.out _).mono ?_
    rintro e w3 ⟨rfl, hb⟩
    have q3 := ret_trans q2 hb
    clear hb
    go_wp2_with fail
    refine (S3.out _ (HT.out.ret q3)).mono ?_
    rintro e w4 ⟨rfl, hb⟩
    have q4 := ret_trans q3 hb
    clear hb
    go_wp2_with fail
    go_ret
    exact ⟨rfl, q4⟩
end Go.Proofs.YtgechifpappipaaDoor
