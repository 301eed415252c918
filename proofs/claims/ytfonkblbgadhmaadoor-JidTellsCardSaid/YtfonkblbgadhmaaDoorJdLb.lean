/- law19: alive, JidNames. PRINTED BY PROGRAM (gen_jlb.py). -/
import Derived.Test.YtfonkblbgadhmaaDoorJdLa
import Derived.Test.YtfonkblbgadhmaaDoorJdB
namespace Go.Proofs.YtfonkblbgadhmaaDoor
open Go.RowKit Go.Lib

theorem is_at (s l d r : ByteArray) (b : Bool) (w : World) (hs : s.size ≤ 10000) (hm : ML w) (h : isP s.data.toList l.data.toList d.data.toList r.data.toList = b) : Calls Tryd.prog 10 #[.string s, .string l, .string d, .string r] w (Ret w (.bool b)) := by
  rw [← h]; exact l19_is s l d r w hs hm
theorem odd_at (s : ByteArray) (b : Bool) (w : World) (hs : s.size ≤ 10000) (hm : ML w) (h : prsP s.data.toList = !b) : Calls Tryd.prog 18 #[.string s] w (Ret w (.bool b)) := by
  have := l19_odd s w hs hm
  rw [h, Bool.not_not] at this
  exact this
theorem wrt_at (l d r t : ByteArray) (n : Int) (w : World) (zl : l.size ≤ 10000) (zd : d.size ≤ 10000) (zr : r.size ≤ 10000) (hm : ML w) (h : (wrtB l.data.toList d.data.toList r.data.toList).data.toList = t.data.toList ∧ wrtE l.data.toList d.data.toList r.data.toList = n) :
    Calls Tryd.prog 9 #[jV l d r] w (Ret w (.tuple #[.string t, .int .i64 n])) := by
  have := jd_Write l d r w zl zd zr hm
  rw [h.2, str_ext h.1] at this
  exact this
theorem full_at (l d r : ByteArray) (b : Bool) (w : World) (zl : l.size ≤ 10000) (zd : d.size ≤ 10000) (zr : r.size ≤ 10000) (hm : ML w) (h : (chkP l.data.toList d.data.toList r.data.toList && (!l.data.toList.isEmpty && !r.data.toList.isEmpty)) = b) : Calls Tryd.prog 14 #[jV l d r] w (Ret w (.bool b)) := by
  rw [← h]; exact jd_Full l d r w zl zd zr hm
theorem mine_at (l d r : ByteArray) (b : Bool) (w : World) (zl : l.size ≤ 10000) (zd : d.size ≤ 10000) (zr : r.size ≤ 10000) (hm : ML w) (h : (chkP l.data.toList d.data.toList r.data.toList && (!l.data.toList.isEmpty && r.data.toList.isEmpty)) = b) : Calls Tryd.prog 15 #[jV l d r] w (Ret w (.bool b)) := by
  rw [← h]; exact jd_Mine l d r w zl zd zr hm
theorem jless_at (a b c x y z : ByteArray) (v : Bool) (w : World) (h : lsP (a.data.toList, b.data.toList, c.data.toList) (x.data.toList, y.data.toList, z.data.toList) = v) : Calls Tryd.prog 17 #[jV a b c, jV x y z] w (Ret w (.bool v)) := by
  rw [← h]; exact jd_Less a b c x y z w
set_option maxHeartbeats 2000000 in
theorem alive19 (w : World) (m0 : ML w) : Calls Tryd.prog 8 #[] w (Ret w (.bool true)) := by
  have q0 := Below.refl w.heap.size w
  go_enter Tryd.func8, Tryd.ntmps8
  go_wp2_with fail
  refine (wrt_at ⟨#[117]⟩ ⟨#[97]⟩ ⟨#[82]⟩ ⟨#[117, 64, 97, 47, 82]⟩ 0 _ (by decide) (by decide) (by decide) m0 ⟨by decide +kernel, by decide +kernel⟩).mono ?_
  rintro e w1 ⟨rfl, hb⟩
  have q1 := q0.trans (hb.mono q0.size)
  have m1 := m0.ret hb
  clear hb q0 m0
  go_wp2_with fail
  refine (is_at ⟨#[85, 46, 49, 64, 65, 46, 101, 120, 97, 109, 112, 108, 101, 47, 72, 111, 109, 101, 32, 120]⟩ ⟨#[117, 46, 49]⟩ ⟨#[97, 46, 101, 120, 97, 109, 112, 108, 101]⟩ ⟨#[72, 111, 109, 101, 32, 120]⟩ true _ (by decide) m1 (by decide +kernel)).mono ?_
  rintro e w2 ⟨rfl, hb⟩
  have q2 := q1.trans (hb.mono q1.size)
  have m2 := m1.ret hb
  clear hb q1 m1
  go_wp2_with fail
  refine (is_at ⟨#[97, 46, 101, 120, 97, 109, 112, 108, 101]⟩ ⟨#[]⟩ ⟨#[97, 46, 101, 120, 97, 109, 112, 108, 101]⟩ ⟨#[]⟩ true _ (by decide) m2 (by decide +kernel)).mono ?_
  rintro e w3 ⟨rfl, hb⟩
  have q3 := q2.trans (hb.mono q2.size)
  have m3 := m2.ret hb
  clear hb q2 m2
  go_wp2_with fail
  go_ret
  exact ⟨rfl, q3⟩
theorem long_lit : (List.replicate 64 (97 : UInt8)) = [97, 97, 97, 97, 97, 97, 97, 97, 97, 97, 97, 97, 97, 97, 97, 97, 97, 97, 97, 97, 97, 97, 97, 97, 97, 97, 97, 97, 97, 97, 97, 97, 97, 97, 97, 97, 97, 97, 97, 97, 97, 97, 97, 97, 97, 97, 97, 97, 97, 97, 97, 97, 97, 97, 97, 97, 97, 97, 97, 97, 97, 97, 97, 97] := by decide +kernel
set_option maxHeartbeats 8000000 in
set_option maxRecDepth 100000 in
theorem names19 (w : World) (m0 : ML w) : Calls Tryd.prog 6 #[] w (Ret w (.bool true)) := by
  have q0 := Below.refl w.heap.size w
  go_enter Tryd.func6, Tryd.ntmps6
  go_wp2_with fail
  go_loop [1, 2] (fun t i => ∃ k : Nat, k ≤ 64 ∧ i = .int .i64 k ∧ t = .string (jB (List.replicate k 97))) (fun _ i => 64 - (intOf i).toNat)
  case atStart => exact ⟨0, Nat.zero_le _, rfl, rfl⟩
  case round =>
    obtain ⟨k, hk, rfl, rfl⟩ := hrel
    by_cases hlt : k < 64
    · have hx : jB (List.replicate k 97) ++ ⟨#[97]⟩ = jB (List.replicate (k + 1) 97) := by apply str_ext; simp [List.replicate_succ']
      have hz : (jB (List.replicate k 97)).size = k := by rw [jB_size, List.length_replicate]
      obtain ⟨X, hX⟩ : ∃ X, jB (List.replicate k 97) = X := ⟨_, rfl⟩
      rw [hX] at hx hz ⊢
      have n1 : (⟨#[97]⟩ : ByteArray).size = 1 := rfl
      have g1 : (k : Int) < 64 := by omega
      have HX := Lib.hid hx
      clear hx hX
      go_wp2_with fail
      go_round
      case rel => exact ⟨k + 1, by omega, by go_num, by rw [HX.out]⟩
      case measure => simp [intOf]; omega
    · obtain rfl : k = 64 := by omega
      obtain ⟨X, hX⟩ : ∃ X, jB (List.replicate 64 97) = X := ⟨_, rfl⟩
      have hXl : X.data.toList = List.replicate 64 97 := by rw [← hX, jB_list]
      have hz : X.size = 64 := by rw [← size_toList, hXl, List.length_replicate]
      rw [hX]
      have HXL := Lib.hid hXl
      have O1 : Hid (∀ w, ML w → Calls Tryd.prog 18 #[.string (X ++ (⟨#[97]⟩ : ByteArray))] w (Ret w (.bool true))) := Lib.hid fun w m => odd_at _ true w (by rw [ByteArray.size_append, hz]; decide) m (by rw [ByteArray.data_append, Array.toList_append, HXL.out]; decide +kernel)
      have O2 : Hid (∀ w, ML w → Calls Tryd.prog 18 #[.string ((⟨#[117, 64, 97, 47]⟩ : ByteArray) ++ X ++ (⟨#[97]⟩ : ByteArray))] w (Ret w (.bool true))) := Lib.hid fun w m => odd_at _ true w (by rw [ByteArray.size_append, ByteArray.size_append, hz]; decide) m (by rw [ByteArray.data_append, Array.toList_append, ByteArray.data_append, Array.toList_append, HXL.out]; decide +kernel)
      have O3 : Hid (∀ w, ML w → Calls Tryd.prog 10 #[.string (X ++ (⟨#[64]⟩ : ByteArray) ++ X ++ (⟨#[47]⟩ : ByteArray) ++ X), .string X, .string X, .string X] w (Ret w (.bool true))) := Lib.hid fun w m => is_at _ _ _ _ true w (by rw [ByteArray.size_append, ByteArray.size_append, ByteArray.size_append, ByteArray.size_append, hz]; decide) m (by rw [ByteArray.data_append, Array.toList_append, ByteArray.data_append, Array.toList_append, ByteArray.data_append, Array.toList_append, ByteArray.data_append, Array.toList_append, HXL.out]; decide +kernel)
      have n1 : (⟨#[97]⟩ : ByteArray).size = 1 := rfl
      have n2 : (⟨#[117, 64, 97, 47]⟩ : ByteArray).size = 4 := rfl
      have n3 : (⟨#[64]⟩ : ByteArray).size = 1 := rfl
      have n4 : (⟨#[47]⟩ : ByteArray).size = 1 := rfl
      clear hX hXl hlt hk
      go_wp2_with fail
      refine (odd_at ⟨#[64, 97]⟩ true _ (by decide) m0 (by decide +kernel)).mono ?_
      rintro e w1 ⟨rfl, hb⟩
      have q1 := q0.trans (hb.mono q0.size)
      have m1 := m0.ret hb
      clear hb q0 m0
      go_wp2_with fail
      refine (odd_at ⟨#[117, 64]⟩ true _ (by decide) m1 (by decide +kernel)).mono ?_
      rintro e w2 ⟨rfl, hb⟩
      have q2 := q1.trans (hb.mono q1.size)
      have m2 := m1.ret hb
      clear hb q1 m1
      go_wp2_with fail
      refine (odd_at ⟨#[97, 47]⟩ true _ (by decide) m2 (by decide +kernel)).mono ?_
      rintro e w3 ⟨rfl, hb⟩
      have q3 := q2.trans (hb.mono q2.size)
      have m3 := m2.ret hb
      clear hb q2 m2
      go_wp2_with fail
      refine (odd_at ⟨#[117, 64, 97, 64, 98]⟩ true _ (by decide) m3 (by decide +kernel)).mono ?_
      rintro e w4 ⟨rfl, hb⟩
      have q4 := q3.trans (hb.mono q3.size)
      have m4 := m3.ret hb
      clear hb q3 m3
      go_wp2_with fail
      refine (odd_at ⟨#[117, 64, 46, 97]⟩ true _ (by decide) m4 (by decide +kernel)).mono ?_
      rintro e w5 ⟨rfl, hb⟩
      have q5 := q4.trans (hb.mono q4.size)
      have m5 := m4.ret hb
      clear hb q4 m4
      go_wp2_with fail
      refine (odd_at ⟨#[117, 32, 98, 64, 97]⟩ true _ (by decide) m5 (by decide +kernel)).mono ?_
      rintro e w6 ⟨rfl, hb⟩
      have q6 := q5.trans (hb.mono q5.size)
      have m6 := m5.ret hb
      clear hb q5 m5
      go_wp2_with fail
      refine (odd_at ⟨#[]⟩ true _ (by decide) m6 (by decide +kernel)).mono ?_
      rintro e w7 ⟨rfl, hb⟩
      have q7 := q6.trans (hb.mono q6.size)
      have m7 := m6.ret hb
      clear hb q6 m6
      go_wp2_with fail
      refine (odd_at ⟨#[97, 46, 46, 98]⟩ true _ (by decide) m7 (by decide +kernel)).mono ?_
      rintro e w8 ⟨rfl, hb⟩
      have q8 := q7.trans (hb.mono q7.size)
      have m8 := m7.ret hb
      clear hb q7 m7
      go_wp2_with fail
      refine (odd_at ⟨#[97, 45]⟩ true _ (by decide) m8 (by decide +kernel)).mono ?_
      rintro e w9 ⟨rfl, hb⟩
      have q9 := q8.trans (hb.mono q8.size)
      have m9 := m8.ret hb
      clear hb q8 m8
      go_wp2_with fail
      refine (odd_at ⟨#[117, 64, 97, 47, 9]⟩ true _ (by decide) m9 (by decide +kernel)).mono ?_
      rintro e w10 ⟨rfl, hb⟩
      have q10 := q9.trans (hb.mono q9.size)
      have m10 := m9.ret hb
      clear hb q9 m9
      go_wp2_with fail
      refine (odd_at ⟨#[117, 64, 97, 47, 255]⟩ true _ (by decide) m10 (by decide +kernel)).mono ?_
      rintro e w11 ⟨rfl, hb⟩
      have q11 := q10.trans (hb.mono q10.size)
      have m11 := m10.ret hb
      clear hb q10 m10
      go_wp2_with fail
      refine (O1.out _ m11).mono ?_
      rintro e w12 ⟨rfl, hb⟩
      have q12 := q11.trans (hb.mono q11.size)
      have m12 := m11.ret hb
      clear hb q11 m11
      go_wp2_with fail
      refine (O2.out _ m12).mono ?_
      rintro e w13 ⟨rfl, hb⟩
      have q13 := q12.trans (hb.mono q12.size)
      have m13 := m12.ret hb
      clear hb q12 m12
      go_wp2_with fail
      refine (odd_at ⟨#[47, 120]⟩ true _ (by decide) m13 (by decide +kernel)).mono ?_
      rintro e w14 ⟨rfl, hb⟩
      have q14 := q13.trans (hb.mono q13.size)
      have m14 := m13.ret hb
      clear hb q13 m13
      go_wp2_with fail
      have al := (Below.refl w14.heap.size w14).alloc (Nat.le_refl _) (.cells #[.string ⟨#[117]⟩, .string ⟨#[97]⟩, .string ⟨#[114]⟩] 23)
      have kj := JAt.new w14 ⟨#[117]⟩ ⟨#[97]⟩ ⟨#[114]⟩
      have q15 := q14.trans (al.mono q14.size)
      have m15 := m14.ret al
      clear al q14 m14
      refine (wrt_at ⟨#[85]⟩ ⟨#[97]⟩ ⟨#[]⟩ ⟨#[]⟩ 8 _ (by decide) (by decide) (by decide) m15 ⟨by decide +kernel, by decide +kernel⟩).mono ?_
      rintro e w16 ⟨rfl, hb⟩
      have q16 := q15.trans (hb.mono q15.size)
      have m16 := m15.ret hb
      have kj := kj.ret hb
      clear hb q15 m15
      obtain ⟨x0, x1, x2, x3, x4, x5, x6⟩ := kj
      go_wp2_with fail
      have kj := JAt.mk x0 x1 x2 x3 x4 x5 x6
      clear x0 x1 x2 x3 x4 x5 x6
      refine (alive19 _ m16).mono ?_
      rintro e w17 ⟨rfl, hb⟩
      have q17 := q16.trans (hb.mono q16.size)
      have m17 := m16.ret hb
      have kj := kj.ret hb
      clear hb q16 m16
      obtain ⟨x0, x1, x2, x3, x4, x5, x6⟩ := kj
      go_wp2_with fail
      have kj := JAt.mk x0 x1 x2 x3 x4 x5 x6
      clear x0 x1 x2 x3 x4 x5 x6
      refine (O3.out _ m17).mono ?_
      rintro e w18 ⟨rfl, hb⟩
      have q18 := q17.trans (hb.mono q17.size)
      have m18 := m17.ret hb
      have kj := kj.ret hb
      clear hb q17 m17
      obtain ⟨x0, x1, x2, x3, x4, x5, x6⟩ := kj
      go_wp2_with fail
      have kj := JAt.mk x0 x1 x2 x3 x4 x5 x6
      clear x0 x1 x2 x3 x4 x5 x6
      refine (is_at ⟨#[97, 47, 98, 47, 99, 64, 100]⟩ ⟨#[]⟩ ⟨#[97]⟩ ⟨#[98, 47, 99, 64, 100]⟩ true _ (by decide) m18 (by decide +kernel)).mono ?_
      rintro e w19 ⟨rfl, hb⟩
      have q19 := q18.trans (hb.mono q18.size)
      have m19 := m18.ret hb
      have kj := kj.ret hb
      clear hb q18 m18
      obtain ⟨x0, x1, x2, x3, x4, x5, x6⟩ := kj
      go_wp2_with fail
      have kj := JAt.mk x0 x1 x2 x3 x4 x5 x6
      clear x0 x1 x2 x3 x4 x5 x6
      refine (full_at ⟨#[117]⟩ ⟨#[97]⟩ ⟨#[114]⟩ true _ (by decide) (by decide) (by decide) m19 (by decide +kernel)).mono ?_
      rintro e w20 ⟨rfl, hb⟩
      have q20 := q19.trans (hb.mono q19.size)
      have m20 := m19.ret hb
      have kj := kj.ret hb
      clear hb q19 m19
      obtain ⟨x0, x1, x2, x3, x4, x5, x6⟩ := kj
      go_wp2_with fail
      have kj := JAt.mk x0 x1 x2 x3 x4 x5 x6
      clear x0 x1 x2 x3 x4 x5 x6
      refine (mine_at ⟨#[117]⟩ ⟨#[97]⟩ ⟨#[114]⟩ false _ (by decide) (by decide) (by decide) m20 (by decide +kernel)).mono ?_
      rintro e w21 ⟨rfl, hb⟩
      have q21 := q20.trans (hb.mono q20.size)
      have m21 := m20.ret hb
      have kj := kj.ret hb
      clear hb q20 m20
      obtain ⟨x0, x1, x2, x3, x4, x5, x6⟩ := kj
      go_wp2_with fail
      have kj := JAt.mk x0 x1 x2 x3 x4 x5 x6
      clear x0 x1 x2 x3 x4 x5 x6
      refine (jd_Bare ⟨#[117]⟩ ⟨#[97]⟩ ⟨#[114]⟩ _).mono ?_
      rintro e w22 ⟨rfl, hb⟩
      have q22 := q21.trans (hb.mono q21.size)
      have m22 := m21.ret hb
      have kj := kj.ret hb
      clear hb q21 m21
      obtain ⟨x0, x1, x2, x3, x4, x5, x6⟩ := kj
      go_wp2_with fail
      have kj := JAt.mk x0 x1 x2 x3 x4 x5 x6
      clear x0 x1 x2 x3 x4 x5 x6
      refine (mine_at ⟨#[117]⟩ ⟨#[97]⟩ ⟨#[]⟩ true _ (by decide) (by decide) (by decide) m22 (by decide +kernel)).mono ?_
      rintro e w23 ⟨rfl, hb⟩
      have q23 := q22.trans (hb.mono q22.size)
      have m23 := m22.ret hb
      have kj := kj.ret hb
      clear hb q22 m22
      obtain ⟨x0, x1, x2, x3, x4, x5, x6⟩ := kj
      go_wp2_with fail
      have kj := JAt.mk x0 x1 x2 x3 x4 x5 x6
      clear x0 x1 x2 x3 x4 x5 x6
      refine (full_at ⟨#[]⟩ ⟨#[97]⟩ ⟨#[114]⟩ false _ (by decide) (by decide) (by decide) m23 (by decide +kernel)).mono ?_
      rintro e w24 ⟨rfl, hb⟩
      have q24 := q23.trans (hb.mono q23.size)
      have m24 := m23.ret hb
      have kj := kj.ret hb
      clear hb q23 m23
      obtain ⟨x0, x1, x2, x3, x4, x5, x6⟩ := kj
      go_wp2_with fail
      have kj := JAt.mk x0 x1 x2 x3 x4 x5 x6
      clear x0 x1 x2 x3 x4 x5 x6
      refine (jless_at ⟨#[122]⟩ ⟨#[97]⟩ ⟨#[]⟩ ⟨#[]⟩ ⟨#[98]⟩ ⟨#[]⟩ true _ (by decide +kernel)).mono ?_
      rintro e w25 ⟨rfl, hb⟩
      have q25 := q24.trans (hb.mono q24.size)
      have m25 := m24.ret hb
      have kj := kj.ret hb
      clear hb q24 m24
      obtain ⟨x0, x1, x2, x3, x4, x5, x6⟩ := kj
      go_wp2_with fail
      have kj := JAt.mk x0 x1 x2 x3 x4 x5 x6
      clear x0 x1 x2 x3 x4 x5 x6
      refine (is_at ⟨#[117, 64, 97, 47, 195, 169]⟩ ⟨#[117]⟩ ⟨#[97]⟩ ⟨#[195, 169]⟩ true _ (by decide) m25 (by decide +kernel)).mono ?_
      rintro e w26 ⟨rfl, hb⟩
      have q26 := q25.trans (hb.mono q25.size)
      have m26 := m25.ret hb
      have kj := kj.ret hb
      clear hb q25 m25
      obtain ⟨x0, x1, x2, x3, x4, x5, x6⟩ := kj
      go_wp2_with fail
      have kj := JAt.mk x0 x1 x2 x3 x4 x5 x6
      clear x0 x1 x2 x3 x4 x5 x6
      go_ret
      exact ⟨rfl, q26⟩
end Go.Proofs.YtfonkblbgadhmaaDoor
