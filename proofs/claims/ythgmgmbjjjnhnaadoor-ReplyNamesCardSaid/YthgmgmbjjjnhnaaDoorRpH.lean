/- law18's odd; ReplyNames: the walk. PRINTED BY PROGRAM (gen_rph.py). -/
import Derived.Test.YthgmgmbjjjnhnaaDoorRpG
namespace Go.Proofs.YthgmgmbjjjnhnaaDoor
open Go.RowKit

theorem wp_no (st : Int) (B : ByteArray) (k : Bool) (w : World) (ht : Tab w) (hB : B.size ≤ 9223372036854775807) (hm : rpMay st B.data.toList k = false) : Calls Tryd.prog 7 #[rpV st B k] w (Ret w (.tuple #[.string ⟨#[]⟩, .int .i64 8])) := by
  have h := rp_Write st B k w ht hB
  unfold wpW at h
  rw [if_neg (by rw [hm]; decide)] at h
  exact h
theorem odd_at (s : ByteArray) (w : World) (ht : Tab w) (hm : ML w) (hs : s.size ≤ 100000) (hr : rpR s.data.toList = none) : Calls Tryd.prog 10 #[.string s] w (Ret w (.bool true)) := by
  have R0 := rp_Read s w ht hm hs
  rw [hr] at R0
  unfold rdV at R0
  have R := Lib.hid R0
  clear R0 ht hm hr
  go_enter Tryd.func10, Tryd.ntmps10
  go_wp2_with fail
  refine R.out.mono ?_
  rintro e w1 ⟨rfl, hb⟩
  go_wp2_with fail
  go_ret
  exact ⟨rfl, hb.alloc hb.size _⟩
def nmT : ByteArray := ⟨#[72, 84, 84, 80, 47, 49, 46, 49, 32, 50, 48, 48, 32, 79, 75, 13, 10, 99, 111, 110, 116, 101, 110, 116, 45, 116, 121, 112, 101, 58, 32, 116, 101, 120, 116, 47, 120, 109, 108, 59, 32, 99, 104, 97, 114, 115, 101, 116, 61, 117, 116, 102, 45, 56, 13, 10, 99, 111, 110, 116, 101, 110, 116, 45, 108, 101, 110, 103, 116, 104, 58, 32, 49, 13, 10, 99, 111, 110, 110, 101, 99, 116, 105, 111, 110, 58, 32, 99, 108, 111, 115, 101, 13, 10, 13, 10, 120]⟩
theorem nmT_size : nmT.size = 97 := rfl
theorem nm_read : rpR (nmT ++ ⟨#[109, 111, 114, 101]⟩).data.toList = some (200, (⟨#[120]⟩ : ByteArray).data.toList, false) := by
  rw [app_data]
  have h : nmT.data.toList = rpT 200 [120] false := by decide +kernel
  rw [h]
  exact rp_back (by decide +kernel) (by decide) _
theorem nm_cut : rpR (nmT.extract 0 96).data.toList = none := by
  rw [ext_data]
  decide +kernel
theorem nm_o1 : rpR [72, 84, 84, 80, 47, 49, 46, 49, 32, 52, 48, 52, 32, 78, 111, 116, 32, 70, 111, 117, 110, 100, 13, 10, 99, 111, 110, 116, 101, 110, 116, 45, 108, 101, 110, 103, 116, 104, 58, 32, 48, 13, 10, 13, 10] = none := by decide +kernel
theorem nm_o2 : rpR [72, 84, 84, 80, 47, 49, 46, 49, 32, 50, 48, 48, 32, 79, 75, 13, 10, 99, 111, 110, 116, 101, 110, 116, 45, 108, 101, 110, 103, 116, 104, 58, 32, 48, 13, 10, 99, 111, 110, 116, 101, 110, 116, 45, 116, 121, 112, 101, 58, 32, 116, 101, 120, 116, 47, 120, 109, 108, 59, 32, 99, 104, 97, 114, 115, 101, 116, 61, 117, 116, 102, 45, 56, 13, 10, 13, 10] = none := by decide +kernel
set_option maxHeartbeats 16000000 in
set_option maxRecDepth 100000 in
theorem names18 (w : World) (ht : Tab w) (hm : ML w) : Calls Tryd.prog 3 #[] w (Ret w (.bool true)) := by
  have hw : rpT 200 (⟨#[120]⟩ : ByteArray).data.toList false = nmT.data.toList := by decide +kernel
  have hsz := nmT_size
  have hrd := nm_read
  have hct := nm_cut
  obtain ⟨X, hX⟩ : ∃ X, nmT = X := ⟨_, rfl⟩
  rw [hX] at hw hsz hrd hct
  have A10 := fun w ht => wp_at 200 ⟨#[120]⟩ X false w ht (by decide) (by decide +kernel) hw
  have hxm : (X ++ ⟨#[109, 111, 114, 101]⟩).size ≤ 100000 := by
    rw [← size_toList, app_data, List.length_append, size_toList, hsz]
    decide
  have A20 := fun w ht hm => rd_at (X ++ ⟨#[109, 111, 114, 101]⟩) ⟨#[120]⟩ 200 false 97 w ht hm hxm hrd (by rw [hw, size_toList, hsz])
  have A30 := fun w ht => wp_no 404 ⟨#[]⟩ true w ht (by decide) (by decide +kernel)
  have A40 := fun w ht => wp_no 400 ⟨#[120]⟩ false w ht (by decide) (by decide +kernel)
  have A50 := fun w ht => wp_no 200 (zstr 16385) false w ht (by rw [zstr_size]; decide) (by
    unfold rpMay
    rw [if_pos rfl, zstr_list, List.length_replicate]
    decide)
  have A60 := fun w ht => wp_no 201 ⟨#[]⟩ false w ht (by decide) (by decide +kernel)
  have D10 := fun w ht hm => odd_at ⟨#[]⟩ w ht hm (by decide) (by decide +kernel)
  have D20 := fun w ht hm => odd_at (X.extract 0 96) w ht hm (by
    have := congrArg List.length (ext_data X 0 96)
    rw [size_toList, List.length_take, List.length_drop, size_toList, hsz] at this
    omega) hct
  have D30 := fun w ht hm => odd_at ⟨#[72, 84, 84, 80, 47, 49, 46, 49, 32, 52, 48, 52, 32, 78, 111, 116, 32, 70, 111, 117, 110, 100, 13, 10, 99, 111, 110, 116, 101, 110, 116, 45, 108, 101, 110, 103, 116, 104, 58, 32, 48, 13, 10, 13, 10]⟩ w ht hm (by decide) nm_o1
  have D40 := fun w ht hm => odd_at ⟨#[72, 84, 84, 80, 47, 49, 46, 49, 32, 50, 48, 48, 32, 79, 75, 13, 10, 99, 111, 110, 116, 101, 110, 116, 45, 108, 101, 110, 103, 116, 104, 58, 32, 48, 13, 10, 99, 111, 110, 116, 101, 110, 116, 45, 116, 121, 112, 101, 58, 32, 116, 101, 120, 116, 47, 120, 109, 108, 59, 32, 99, 104, 97, 114, 115, 101, 116, 61, 117, 116, 102, 45, 56, 13, 10, 13, 10]⟩ w ht hm (by decide) nm_o2
  have A1 := Lib.hid A10
  have A2 := Lib.hid A20
  have A3 := Lib.hid A30
  have A4 := Lib.hid A40
  have A5 := Lib.hid A50
  have A6 := Lib.hid A60
  have D1 := Lib.hid D10
  have D2 := Lib.hid D20
  have D3 := Lib.hid D30
  have D4 := Lib.hid D40
  have T0 := Lib.hid ht
  have M0 := Lib.hid hm
  clear A10 A20 A30 A40 A50 A60 D10 D20 D30 D40 hw hrd hct hxm hX ht hm
  go_enter Tryd.func3, Tryd.ntmps3
  go_wp2_with fail
  refine (A1.out _ T0.out).mono ?_
  rintro e w1 ⟨rfl, hb⟩
  have q1 := hb
  have T1 := Lib.hid (T0.out.ret hb)
  have M1 := Lib.hid (M0.out.ret hb)
  clear hb T0 M0
  go_wp2_with fail
  refine (A2.out _ T1.out M1.out).mono ?_
  rintro e w2 ⟨rfl, hb⟩
  have q2 := q1.trans (hb.mono q1.size)
  have T2 := Lib.hid (T1.out.ret hb)
  have M2 := Lib.hid (M1.out.ret hb)
  clear hb T1 M1
  go_wp2_with fail
  have al := (Below.refl w2.heap.size w2).alloc (Nat.le_refl _) (.cells #[.int .i64 200, .string ⟨#[120]⟩, .bool false] 26)
  have B2 := Lib.hid (RpAt.new w2 (.int .i64 200) (.string ⟨#[120]⟩) (.bool false))
  have q3 := q2.trans (al.mono q2.size)
  have T3 := Lib.hid (T2.out.ret al)
  have M3 := Lib.hid (M2.out.ret al)
  clear al T2 M2
  have B3 := B2
  clear B2
  refine (A3.out _ T3.out).mono ?_
  rintro e w4 ⟨rfl, hb⟩
  have q4 := q3.trans (hb.mono q3.size)
  have T4 := Lib.hid (T3.out.ret hb)
  have M4 := Lib.hid (M3.out.ret hb)
  have B4 := Lib.hid (B3.out.ret hb)
  clear hb T3 M3 B3
  go_wp2_with fail
  refine (A4.out _ T4.out).mono ?_
  rintro e w5 ⟨rfl, hb⟩
  have q5 := q4.trans (hb.mono q4.size)
  have T5 := Lib.hid (T4.out.ret hb)
  have M5 := Lib.hid (M4.out.ret hb)
  have B5 := Lib.hid (B4.out.ret hb)
  clear hb T4 M4 B4
  have hmk := mk_bytes 16385 (by omega) w5
  have hcv := mk_conv 16385 w5
  simp only [Int.cast_ofNat_Int] at hmk
  go_wp2_with fail
  have al := (Below.refl w5.heap.size w5).alloc (Nat.le_refl _) (.cells (zrow 16385) 5)
  have q6 := q5.trans (al.mono q5.size)
  have T6 := Lib.hid (T5.out.ret al)
  have M6 := Lib.hid (M5.out.ret al)
  have B6 := Lib.hid (B5.out.ret al)
  clear al T5 M5 B5 hmk hcv
  refine (A5.out _ T6.out).mono ?_
  rintro e w7 ⟨rfl, hb⟩
  have q7 := q6.trans (hb.mono q6.size)
  have T7 := Lib.hid (T6.out.ret hb)
  have M7 := Lib.hid (M6.out.ret hb)
  have B7 := Lib.hid (B6.out.ret hb)
  clear hb T6 M6 B6
  go_wp2_with fail
  refine (A6.out _ T7.out).mono ?_
  rintro e w8 ⟨rfl, hb⟩
  have q8 := q7.trans (hb.mono q7.size)
  have T8 := Lib.hid (T7.out.ret hb)
  have M8 := Lib.hid (M7.out.ret hb)
  have B8 := Lib.hid (B7.out.ret hb)
  clear hb T7 M7 B7
  obtain ⟨y0, y1, y2, y3, y4, y5, y6⟩ := B8.out
  go_wp2_with fail
  refine (alive18 _ T8.out).mono ?_
  rintro e w9 ⟨rfl, hb⟩
  have q9 := q8.trans (hb.mono q8.size)
  have T9 := Lib.hid (T8.out.ret hb)
  have M9 := Lib.hid (M8.out.ret hb)
  have B9 := Lib.hid (B8.out.ret hb)
  clear hb T8 M8 B8
  go_wp2_with fail
  refine (D1.out _ T9.out M9.out).mono ?_
  rintro e w10 ⟨rfl, hb⟩
  have q10 := q9.trans (hb.mono q9.size)
  have T10 := Lib.hid (T9.out.ret hb)
  have M10 := Lib.hid (M9.out.ret hb)
  have B10 := Lib.hid (B9.out.ret hb)
  clear hb T9 M9 B9
  go_wp2_with fail
  refine (D2.out _ T10.out M10.out).mono ?_
  rintro e w11 ⟨rfl, hb⟩
  have q11 := q10.trans (hb.mono q10.size)
  have T11 := Lib.hid (T10.out.ret hb)
  have M11 := Lib.hid (M10.out.ret hb)
  have B11 := Lib.hid (B10.out.ret hb)
  clear hb T10 M10 B10
  go_wp2_with fail
  refine (D3.out _ T11.out M11.out).mono ?_
  rintro e w12 ⟨rfl, hb⟩
  have q12 := q11.trans (hb.mono q11.size)
  have T12 := Lib.hid (T11.out.ret hb)
  have M12 := Lib.hid (M11.out.ret hb)
  have B12 := Lib.hid (B11.out.ret hb)
  clear hb T11 M11 B11
  go_wp2_with fail
  refine (D4.out _ T12.out M12.out).mono ?_
  rintro e w13 ⟨rfl, hb⟩
  have q13 := q12.trans (hb.mono q12.size)
  have T13 := Lib.hid (T12.out.ret hb)
  have M13 := Lib.hid (M12.out.ret hb)
  have B13 := Lib.hid (B12.out.ret hb)
  clear hb T12 M12 B12
  go_wp2_with fail
  go_ret
  exact ⟨rfl, q13⟩
end Go.Proofs.YthgmgmbjjjnhnaaDoor
