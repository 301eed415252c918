/- The document's Sum; the law NumWrites; the helpers is, none, alive of the outright statements. -/
import Derived.Test.YtgechifpappipaaDoorNumW
import Derived.Test.YtgechifpappipaaDoorNumA
namespace Go.Proofs.YtgechifpappipaaDoor
open Go.RowKit

theorem ref06_Sum_ok (n m : Int) (h : SumOk n m) (w : World) : Calls Tryd.prog 12 #[.int .i64 n, .int .i64 m] w (Ret w (.tuple #[.int .i64 (n + m), .int .i64 0])) := by
  obtain ⟨h1, h2, h3, h4, h5, h6⟩ := h
  go_enter Tryd.func12, Tryd.ntmps12
  go_wp2_with fail
  go_ret2
  exact ⟨rfl, Below.refl _ _⟩
set_option maxHeartbeats 1000000 in
theorem ref06_Sum_no (n m : Int) (h : ¬ SumOk n m) (w : World) : Calls Tryd.prog 12 #[.int .i64 n, .int .i64 m] w (Ret w (.tuple #[.int .i64 0, .int .i64 2])) := by
  unfold SumOk at h
  have HN := Lib.hid h
  clear h
  by_cases h1 : n < 0
  · go_enter Tryd.func12, Tryd.ntmps12
    go_wp2_with fail
    go_ret2
    exact ⟨rfl, Below.refl _ _⟩
  have a1 : 0 ≤ n := by omega
  clear h1
  by_cases h2 : 9007199254740991 < n
  · go_enter Tryd.func12, Tryd.ntmps12
    go_wp2_with fail
    go_ret2
    exact ⟨rfl, Below.refl _ _⟩
  have a2 : n ≤ 9007199254740991 := by omega
  clear h2
  by_cases h3 : m < -9007199254740991
  · go_enter Tryd.func12, Tryd.ntmps12
    go_wp2_with fail
    go_ret2
    exact ⟨rfl, Below.refl _ _⟩
  have a3 : -9007199254740991 ≤ m := by omega
  clear h3
  by_cases h4 : 9007199254740991 < m
  · go_enter Tryd.func12, Tryd.ntmps12
    go_wp2_with fail
    go_ret2
    exact ⟨rfl, Below.refl _ _⟩
  have a4 : m ≤ 9007199254740991 := by omega
  clear h4
  by_cases h5 : n + m < 0
  · go_enter Tryd.func12, Tryd.ntmps12
    go_wp2_with fail
    go_ret2
    exact ⟨rfl, Below.refl _ _⟩
  have a5 : 0 ≤ n + m := by omega
  have a6 : 9007199254740991 < n + m := by have := HN.out; omega
  clear h5
  go_enter Tryd.func12, Tryd.ntmps12
  go_wp2_with fail
  go_ret2
  exact ⟨rfl, Below.refl _ _⟩

/-- The law NumWrites, of what the four calls come to. -/
theorem writes_of (n m : Int) (t : ByteArray) (e s f : Int) (w : World) (ht : Tab w) (h1 : ∀ w, Tab w → Calls Tryd.prog 9 #[.int .i64 n] w (Ret w (.tuple #[.string t, .int .i64 e])))
    (h2 : ∀ w, Calls Tryd.prog 10 #[.int .i64 n] w (Ret w (.tuple #[.string t, .int .i64 e]))) (h3 : ∀ w, Calls Tryd.prog 11 #[.int .i64 n, .int .i64 m] w (Ret w (.tuple #[.int .i64 s, .int .i64 f])))
    (h4 : ∀ w, Calls Tryd.prog 12 #[.int .i64 n, .int .i64 m] w (Ret w (.tuple #[.int .i64 s, .int .i64 f]))) :
    Calls Tryd.prog 3 #[.int .i64 n, .int .i64 m] w (Ret w (.bool true)) := by
  have H1 := Lib.hid (h1 w ht)
  have H2 := Lib.hid h2
  have H3 := Lib.hid h3
  have H4 := Lib.hid h4
  clear h1 h2 h3 h4 ht
  go_enter Tryd.func3, Tryd.ntmps3
  go_wp2_with fail
  refine H1.out.mono ?_
  rintro e w1 ⟨rfl, hb1⟩
  go_wp2_with fail
  refine (H2.out _).mono ?_
  rintro e w2 ⟨rfl, hb2⟩
  go_wp2_with fail
  refine (H3.out _).mono ?_
  rintro e w3 ⟨rfl, hb3⟩
  go_wp2_with fail
  refine (H4.out _).mono ?_
  rintro e w4 ⟨rfl, hb4⟩
  go_wp2_with fail
  go_ret
  have q2 := hb1.trans (hb2.mono hb1.size)
  have q3 := q2.trans (hb3.mono q2.size)
  exact ⟨rfl, q3.trans (hb4.mono q3.size)⟩
theorem writes_walk (n m : Int) (w : World) (ht : Tab w) : Calls Tryd.prog 3 #[.int .i64 n, .int .i64 m] w (Ret w (.bool true)) := by
  by_cases hn : n < 0 ∨ 9007199254740991 < n
  · by_cases hs : SumOk n m
    · exact writes_of n m _ _ _ _ w ht (fun w _ => num_Write_no n hn w) (ref06_Write_no n hn) (num_Sum_ok n m hs) (ref06_Sum_ok n m hs)
    · exact writes_of n m _ _ _ _ w ht (fun w _ => num_Write_no n hn w) (ref06_Write_no n hn) (num_Sum_no n m hs) (ref06_Sum_no n m hs)
  · obtain ⟨k, rfl⟩ := Int.eq_ofNat_of_zero_le (by omega : 0 ≤ n)
    by_cases hs : SumOk k m
    · exact writes_of k m _ _ _ _ w ht (fun w ht => num_Write_ok k (by omega) w ht) (ref06_Write_ok k (by omega)) (num_Sum_ok k m hs) (ref06_Sum_ok k m hs)
    · exact writes_of k m _ _ _ _ w ht (fun w ht => num_Write_ok k (by omega) w ht) (ref06_Write_ok k (by omega)) (num_Sum_no k m hs) (ref06_Sum_no k m hs)

/-- is: a text's number. -/
theorem is_true (s : ByteArray) (n : Int) (w : World) (hs : s.size ≤ 9223372036854775807) (h1 : rdN s.data.toList = n) (h2 : rdE s.data.toList = 0) : Calls Tryd.prog 14 #[.string s, .int .i64 n] w (Ret w (.bool true)) := by
  have c := fun w => num_Read s w hs
  rw [h1, h2] at c
  have C := Lib.hid c
  clear c h1 h2
  go_enter Tryd.func14, Tryd.ntmps14
  go_wp2_with fail
  refine (C.out _).mono ?_
  rintro e w1 ⟨rfl, hb1⟩
  go_wp2_with fail
  go_ret
  exact ⟨rfl, hb1⟩
theorem none_true (s : ByteArray) (w : World) (hs : s.size ≤ 9223372036854775807) (h : numOk s.data.toList = false) : Calls Tryd.prog 18 #[.string s] w (Ret w (.bool true)) := by
  have c := fun w => num_Read s w hs
  obtain ⟨h1, h2⟩ := rd_bad h
  rw [h1, h2] at c
  have C := Lib.hid c
  clear c h1 h2 h
  go_enter Tryd.func18, Tryd.ntmps18
  go_wp2_with fail
  refine (C.out _).mono ?_
  rintro e w1 ⟨rfl, hb1⟩
  go_wp2_with fail
  go_ret
  exact ⟨rfl, hb1⟩
theorem dec1234 : Lib.decDigits 1234 = [49, 50, 51, 52] := by
  rw [decDigits_big (by omega), decDigits_big (by omega), decDigits_big (by omega), Lib.decDigits_one (by omega)]
  rfl
set_option maxHeartbeats 1000000 in
theorem alive06 (w : World) (ht : Tab w) : Calls Tryd.prog 13 #[] w (Ret w (.bool true)) := by
  have c := num_Write_ok 1234 (by omega) w ht
  rw [dec1234] at c
  have C := Lib.hid c
  clear c ht
  go_enter Tryd.func13, Tryd.ntmps13
  go_wp2_with fail
  refine C.out.mono ?_
  rintro e w1 ⟨rfl, hb1⟩
  go_wp2_with fail
  refine (is_true ⟨#[48]⟩ 0 _ (by decide) (by decide +kernel) (by decide +kernel)).mono ?_
  rintro e w2 ⟨rfl, hb2⟩
  go_wp2_with fail
  refine (is_true ⟨#[57, 48, 48, 55, 49, 57, 57, 50, 53, 52, 55, 52, 48, 57, 57, 49]⟩ 9007199254740991 _ (by decide) (by decide +kernel) (by decide +kernel)).mono ?_
  rintro e w3 ⟨rfl, hb3⟩
  go_wp2_with fail
  refine (none_true ⟨#[57, 48, 48, 55, 49, 57, 57, 50, 53, 52, 55, 52, 48, 57, 57, 50]⟩ _ (by decide) (by decide +kernel)).mono ?_
  rintro e w4 ⟨rfl, hb4⟩
  go_wp2_with fail
  go_ret
  have q2 := hb1.trans (hb2.mono hb1.size)
  have q3 := q2.trans (hb3.mono q2.size)
  exact ⟨rfl, q3.trans (hb4.mono q3.size)⟩
end Go.Proofs.YtgechifpappipaaDoor
