/- The law NumOrder: the walk. PRINTED BY PROGRAM (gen_walk06.py). -/
import Derived.Test.YtgechifpappipaaDoorNumY
import Derived.Test.YtgechifpappipaaDoorNumO
namespace Go.Proofs.YtgechifpappipaaDoor
open Go.RowKit
set_option maxHeartbeats 8000000 in
theorem order06_walk (n m : Int) (w : World) (ht : Tab w) : Calls Tryd.prog 5 #[.int .i64 n, .int .i64 m] w (Ret w (.bool true)) := by
  have HT := Lib.hid ht
  have AL := Lib.hid (alive06 w ht)
  clear ht
  by_cases h1 : n < 0 ∨ 9007199254740991 < n
  · have S1 := Lib.hid (num_Write_no n h1)
    clear h1
    by_cases h2 : m < 0 ∨ 9007199254740991 < m
    · have S2 := Lib.hid (num_Write_no m h2)
      clear h2
      go_enter Tryd.func5, Tryd.ntmps5
      go_wp2_with fail
      refine (AL.out).mono ?_
      rintro e w0 ⟨rfl, hb⟩
      have q0 := hb
      clear hb
      go_wp2_with fail
      refine (S1.out _).mono ?_
      rintro e w1 ⟨rfl, hb⟩
      have q1 := ret_trans q0 hb
      clear hb
      go_wp2_with fail
      refine (S2.out _).mono ?_
      rintro e w2 ⟨rfl, hb⟩
      have q2 := ret_trans q1 hb
      clear hb
      go_wp2_with fail
      go_ret
      exact ⟨rfl, q2⟩
    · obtain ⟨j, rfl⟩ := Int.eq_ofNat_of_zero_le (by omega : 0 ≤ m)
      have J := Lib.hid (show j ≤ 9007199254740991 by omega)
      clear h2
      go_enter Tryd.func5, Tryd.ntmps5
      go_wp2_with fail
      refine (AL.out).mono ?_
      rintro e w0 ⟨rfl, hb⟩
      have q0 := hb
      clear hb
      go_wp2_with fail
      refine (S1.out _).mono ?_
      rintro e w1 ⟨rfl, hb⟩
      have q1 := ret_trans q0 hb
      clear hb
      go_wp2_with fail
      refine (num_Write_ok j J.out _ (HT.out.ret q1)).mono ?_
      rintro e w2 ⟨rfl, hb⟩
      have q2 := ret_trans q1 hb
      clear hb
      go_wp2_with fail
      go_ret
      exact ⟨rfl, q2⟩
  obtain ⟨i, rfl⟩ := Int.eq_ofNat_of_zero_le (by omega : 0 ≤ n)
  have I := Lib.hid (show i ≤ 9007199254740991 by omega)
  clear h1
  by_cases h2 : m < 0 ∨ 9007199254740991 < m
  · have S2 := Lib.hid (num_Write_no m h2)
    clear h2
    go_enter Tryd.func5, Tryd.ntmps5
    go_wp2_with fail
    refine (AL.out).mono ?_
    rintro e w0 ⟨rfl, hb⟩
    have q0 := hb
    clear hb
    go_wp2_with fail
    refine (num_Write_ok i I.out _ (HT.out.ret q0)).mono ?_
    rintro e w1 ⟨rfl, hb⟩
    have q1 := ret_trans q0 hb
    clear hb
    go_wp2_with fail
    refine (S2.out _).mono ?_
    rintro e w2 ⟨rfl, hb⟩
    have q2 := ret_trans q1 hb
    clear hb
    go_wp2_with fail
    go_ret
    exact ⟨rfl, q2⟩
  obtain ⟨j, rfl⟩ := Int.eq_ofNat_of_zero_le (by omega : 0 ≤ m)
  have J := Lib.hid (show j ≤ 9007199254740991 by omega)
  clear h2
  have c1 := num_Write_ok i I.out
  have c2 := num_Write_ok j J.out
  have k1 := len_dec I.out
  have k2 := len_dec J.out
  obtain ⟨d, hd⟩ : ∃ d : ByteArray, ⟨(Lib.decDigits i).toArray⟩ = d := ⟨_, rfl⟩
  obtain ⟨f, hf⟩ : ∃ f : ByteArray, ⟨(Lib.decDigits j).toArray⟩ = f := ⟨_, rfl⟩
  have key := dec_kinds d f hd hf
  rw [hd] at c1
  rw [hf] at c2
  have z1 : d.size ≤ 16 := by
    rw [← hd, ← size_toList]
    exact k1
  have z2 : f.size ≤ 16 := by
    rw [← hf, ← size_toList]
    exact k2
  have C1 := Lib.hid c1
  have C2 := Lib.hid c2
  clear c1 c2 k1 k2 hd hf
  rcases key with ⟨g1, g2, g3⟩ | ⟨g1, g2, g3⟩ | ⟨g1, g2, g3, g4⟩ | ⟨g1, g2, g3, g4⟩ | ⟨g1, g2, g3, g4⟩
  · have p1 : ((d.size : Int) == (f.size : Int)) = false := by simp; omega
    have p2 : ((i : Int) == (j : Int)) = false := by simp; omega
    have p3 : decide (d.size < f.size) = true := by simp; omega
    have p4 : decide ((i : Int) < (j : Int)) = true := by simp; omega
    have p5 : decide ((d.size : Int) < (f.size : Int)) = true := by simp; omega
    have p6 : decide (i < j) = true := by simp; omega
    clear g1 g2
    go_enter Tryd.func5, Tryd.ntmps5
    go_wp2_with fail
    refine (AL.out).mono ?_
    rintro e w0 ⟨rfl, hb⟩
    have q0 := hb
    clear hb
    go_wp2_with fail
    refine (C1.out _ (HT.out.ret q0)).mono ?_
    rintro e w1 ⟨rfl, hb⟩
    have q1 := ret_trans q0 hb
    clear hb
    go_wp2_with fail
    refine (C2.out _ (HT.out.ret q1)).mono ?_
    rintro e w2 ⟨rfl, hb⟩
    have q2 := ret_trans q1 hb
    clear hb
    go_wp2_with fail
    go_ret
    exact ⟨rfl, q2⟩
  · have p1 : ((d.size : Int) == (f.size : Int)) = false := by simp; omega
    have p2 : ((i : Int) == (j : Int)) = false := by simp; omega
    have p3 : decide (d.size < f.size) = false := by simp; omega
    have p4 : decide ((i : Int) < (j : Int)) = false := by simp; omega
    have p5 : decide ((d.size : Int) < (f.size : Int)) = false := by simp; omega
    have p6 : decide (i < j) = false := by simp; omega
    clear g1 g2
    go_enter Tryd.func5, Tryd.ntmps5
    go_wp2_with fail
    refine (AL.out).mono ?_
    rintro e w0 ⟨rfl, hb⟩
    have q0 := hb
    clear hb
    go_wp2_with fail
    refine (C1.out _ (HT.out.ret q0)).mono ?_
    rintro e w1 ⟨rfl, hb⟩
    have q1 := ret_trans q0 hb
    clear hb
    go_wp2_with fail
    refine (C2.out _ (HT.out.ret q1)).mono ?_
    rintro e w2 ⟨rfl, hb⟩
    have q2 := ret_trans q1 hb
    clear hb
    go_wp2_with fail
    go_ret
    exact ⟨rfl, q2⟩
  · have p1 : ((d.size : Int) == (f.size : Int)) = true := by simp; omega
    have p2 : ((i : Int) == (j : Int)) = false := by simp; omega
    have p3 : decide (d.size < f.size) = false := by simp; omega
    have p4 : decide ((i : Int) < (j : Int)) = true := by simp; omega
    have p5 : decide ((d.size : Int) < (f.size : Int)) = false := by simp; omega
    have p6 : decide (i < j) = true := by simp; omega
    clear g1 g2
    go_enter Tryd.func5, Tryd.ntmps5
    go_wp2_with fail
    refine (AL.out).mono ?_
    rintro e w0 ⟨rfl, hb⟩
    have q0 := hb
    clear hb
    go_wp2_with fail
    refine (C1.out _ (HT.out.ret q0)).mono ?_
    rintro e w1 ⟨rfl, hb⟩
    have q1 := ret_trans q0 hb
    clear hb
    go_wp2_with fail
    refine (C2.out _ (HT.out.ret q1)).mono ?_
    rintro e w2 ⟨rfl, hb⟩
    have q2 := ret_trans q1 hb
    clear hb
    go_wp2_with fail
    go_ret
    exact ⟨rfl, q2⟩
  · have p1 : ((d.size : Int) == (f.size : Int)) = true := by simp; omega
    have p2 : ((i : Int) == (j : Int)) = false := by simp; omega
    have p3 : decide (d.size < f.size) = false := by simp; omega
    have p4 : decide ((i : Int) < (j : Int)) = false := by simp; omega
    have p5 : decide ((d.size : Int) < (f.size : Int)) = false := by simp; omega
    have p6 : decide (i < j) = false := by simp; omega
    clear g1 g2
    go_enter Tryd.func5, Tryd.ntmps5
    go_wp2_with fail
    refine (AL.out).mono ?_
    rintro e w0 ⟨rfl, hb⟩
    have q0 := hb
    clear hb
    go_wp2_with fail
    refine (C1.out _ (HT.out.ret q0)).mono ?_
    rintro e w1 ⟨rfl, hb⟩
    have q1 := ret_trans q0 hb
    clear hb
    go_wp2_with fail
    refine (C2.out _ (HT.out.ret q1)).mono ?_
    rintro e w2 ⟨rfl, hb⟩
    have q2 := ret_trans q1 hb
    clear hb
    go_wp2_with fail
    go_ret
    exact ⟨rfl, q2⟩
  · have p1 : ((d.size : Int) == (f.size : Int)) = true := by simp; omega
    have p2 : ((i : Int) == (j : Int)) = true := by simp; omega
    have p3 : decide (d.size < f.size) = false := by simp; omega
    have p4 : decide ((i : Int) < (j : Int)) = false := by simp; omega
    have p5 : decide ((d.size : Int) < (f.size : Int)) = false := by simp; omega
    have p6 : decide (i < j) = false := by simp; omega
    clear g1 g2
    go_enter Tryd.func5, Tryd.ntmps5
    go_wp2_with fail
    refine (AL.out).mono ?_
    rintro e w0 ⟨rfl, hb⟩
    have q0 := hb
    clear hb
    go_wp2_with fail
    refine (C1.out _ (HT.out.ret q0)).mono ?_
    rintro e w1 ⟨rfl, hb⟩
    have q1 := ret_trans q0 hb
    clear hb
    go_wp2_with fail
    refine (C2.out _ (HT.out.ret q1)).mono ?_
    rintro e w2 ⟨rfl, hb⟩
    have q2 := ret_trans q1 hb
    clear hb
    go_wp2_with fail
    go_ret
    exact ⟨rfl, q2⟩
end Go.Proofs.YtgechifpappipaaDoor
