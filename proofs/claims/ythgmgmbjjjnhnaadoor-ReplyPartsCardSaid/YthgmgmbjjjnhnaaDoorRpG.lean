/- law18's alive; ReplyBack: the walk. PRINTED BY PROGRAM (gen_rpg.py). -/
import Derived.Test.YthgmgmbjjjnhnaaDoorRpF
namespace Go.Proofs.YthgmgmbjjjnhnaaDoor
open Go.RowKit

theorem wp_at (st : Int) (B X : ByteArray) (k : Bool) (w : World) (ht : Tab w) (hB : B.size ≤ 16384) (hm : rpMay st B.data.toList k = true) (hX : rpT st B.data.toList k = X.data.toList) : Calls Tryd.prog 7 #[rpV st B k] w (Ret w (.tuple #[.string X, .int .i64 0])) := by
  have h := rp_Write st B k w ht (by omega)
  unfold wpW at h
  rw [if_pos hm, hX] at h
  exact h
theorem rd_at (s B : ByteArray) (st : Int) (k : Bool) (n : Nat) (w : World) (ht : Tab w) (hm : ML w) (hs : s.size ≤ 100000) (hr : rpR s.data.toList = some (st, B.data.toList, k)) (hn : (rpT st B.data.toList k).length = n) : Calls Tryd.prog 8 #[.string s] w (Ret w (.tuple #[rpV st B k, .int .i64 n, .int .i64 0])) := by
  have h := rp_Read s w ht hm hs
  rw [hr] at h
  unfold rdV at h
  simp only [hn] at h
  exact h
set_option maxHeartbeats 4000000 in
theorem alive18 (w : World) (ht : Tab w) : Calls Tryd.prog 9 #[] w (Ret w (.bool true)) := by
  have A0 := fun w ht => wp_at 200 ⟨#[97, 98]⟩ ⟨#[72, 84, 84, 80, 47, 49, 46, 49, 32, 50, 48, 48, 32, 79, 75, 13, 10, 99, 111, 110, 116, 101, 110, 116, 45, 116, 121, 112, 101, 58, 32, 116, 101, 120, 116, 47, 120, 109, 108, 59, 32, 99, 104, 97, 114, 115, 101, 116, 61, 117, 116, 102, 45, 56, 13, 10, 99, 111, 110, 116, 101, 110, 116, 45, 108, 101, 110, 103, 116, 104, 58, 32, 50, 13, 10, 13, 10, 97, 98]⟩ true w ht (by decide) (by decide +kernel) (by decide +kernel)
  have B0 := fun w ht => wp_at 404 ⟨#[]⟩ ⟨#[72, 84, 84, 80, 47, 49, 46, 49, 32, 52, 48, 52, 32, 78, 111, 116, 32, 70, 111, 117, 110, 100, 13, 10, 99, 111, 110, 116, 101, 110, 116, 45, 108, 101, 110, 103, 116, 104, 58, 32, 48, 13, 10, 99, 111, 110, 110, 101, 99, 116, 105, 111, 110, 58, 32, 99, 108, 111, 115, 101, 13, 10, 13, 10]⟩ false w ht (by decide) (by decide +kernel) (by decide +kernel)
  have AH := Lib.hid A0
  have BH := Lib.hid B0
  have HT := Lib.hid ht
  clear A0 B0 ht
  go_enter Tryd.func9, Tryd.ntmps9
  go_wp2_with fail
  refine (AH.out _ HT.out).mono ?_
  rintro e w1 ⟨rfl, hb1⟩
  go_wp2_with fail
  refine (BH.out _ (HT.out.ret hb1)).mono ?_
  rintro e w2 ⟨rfl, hb2⟩
  have q2 := hb1.trans (hb2.mono hb1.size)
  go_wp2_with fail
  go_ret
  exact ⟨rfl, q2⟩
set_option maxHeartbeats 16000000 in
set_option maxRecDepth 100000 in
theorem back18 (st : Int) (B : ByteArray) (k : Bool) (M s : ByteArray) (w : World) (zB : B.size ≤ 9223372036854775807) (zM : M.size ≤ 9223372036854775807) (zs : s.size ≤ 9223372036854775807) (ht : Tab w) (hm : ML w) :
    Calls Tryd.prog 4 #[rpV st B k, .string M, .string s] w (Ret w (.bool true)) := by
  have q0 := (Below.refl w.heap.size w).alloc (Nat.le_refl _) (.cells #[.int .i64 st, .string B, .bool k] 26)
  have R0 := Lib.hid (RpAt.new w (.int .i64 st) (.string B) (.bool k))
  have T0 := Lib.hid (ht.ret q0)
  have M0 := Lib.hid (hm.ret q0)
  clear ht hm
  by_cases b1 : 2000 < B.size
  · have e1 : decide ((2000 : Int) < B.size) = true := decide_eq_true (by omega)
    clear b1
    go_enter Tryd.func4, Tryd.ntmps4
    go_wp2_with fail
    refine (alive18 _ T0.out).mono ?_
    rintro e w1 ⟨rfl, hb⟩
    have q1 := q0.trans (hb.mono q0.size)
    have T1 := Lib.hid (T0.out.ret hb)
    have M1 := Lib.hid (M0.out.ret hb)
    have R1 := Lib.hid (R0.out.ret hb)
    clear hb T0 M0 R0 q0
    obtain ⟨y0, y1, y2, y3, y4, y5, y6⟩ := R1.out
    go_wp2_with fail
    go_ret
    exact ⟨rfl, q1⟩
  have e1 : decide ((2000 : Int) < B.size) = false := decide_eq_false (by omega)
  by_cases b2 : 2000 < M.size
  · have e2 : decide ((2000 : Int) < M.size) = true := decide_eq_true (by omega)
    clear b1 b2
    go_enter Tryd.func4, Tryd.ntmps4
    go_wp2_with fail
    refine (alive18 _ T0.out).mono ?_
    rintro e w1 ⟨rfl, hb⟩
    have q1 := q0.trans (hb.mono q0.size)
    have T1 := Lib.hid (T0.out.ret hb)
    have M1 := Lib.hid (M0.out.ret hb)
    have R1 := Lib.hid (R0.out.ret hb)
    clear hb T0 M0 R0 q0
    obtain ⟨y0, y1, y2, y3, y4, y5, y6⟩ := R1.out
    go_wp2_with fail
    go_ret
    exact ⟨rfl, q1⟩
  have e2 : decide ((2000 : Int) < M.size) = false := decide_eq_false (by omega)
  by_cases b3 : 2000 < s.size
  · have e3 : decide ((2000 : Int) < s.size) = true := decide_eq_true (by omega)
    clear b1 b2 b3
    go_enter Tryd.func4, Tryd.ntmps4
    go_wp2_with fail
    refine (alive18 _ T0.out).mono ?_
    rintro e w1 ⟨rfl, hb⟩
    have q1 := q0.trans (hb.mono q0.size)
    have T1 := Lib.hid (T0.out.ret hb)
    have M1 := Lib.hid (M0.out.ret hb)
    have R1 := Lib.hid (R0.out.ret hb)
    clear hb T0 M0 R0 q0
    obtain ⟨y0, y1, y2, y3, y4, y5, y6⟩ := R1.out
    go_wp2_with fail
    go_ret
    exact ⟨rfl, q1⟩
  have e3 : decide ((2000 : Int) < s.size) = false := decide_eq_false (by omega)
  have zB2 : B.size ≤ 2000 := by omega
  have zM2 : M.size ≤ 2000 := by omega
  have zs2 : s.size ≤ 2000 := by omega
  clear b1 b2 b3 zB zM zs
  have S0 := fun w ht hm => rp_Read s w ht hm (by omega)
  have W0 := fun w ht => rp_Write st B k w ht (by omega)
  unfold wpW at W0
  cases hmay : rpMay st B.data.toList k with
  | true =>
    obtain ⟨X, hX⟩ : ∃ X : ByteArray, ⟨(rpT st B.data.toList k).toArray⟩ = X := ⟨_, rfl⟩
    have hXl : X.data.toList = rpT st B.data.toList k := by rw [← hX]
    rw [if_pos hmay, hX] at W0
    have hTs := (rpT_size (b := B.data.toList) (k := k) (rpMay_code hmay) (by rw [size_toList]; omega)).1
    have zX : X.size ≤ 2200 := by
      rw [size_toList] at hTs
      rw [← size_toList, hXl]
      omega
    have hXM : rpR (X ++ M).data.toList = some (st, B.data.toList, k) := by
      rw [app_data, hXl]
      exact rp_back hmay (by rw [size_toList]; omega) _
    have zXM : (X ++ M).size ≤ 100000 := by
      rw [← size_toList, app_data, List.length_append, size_toList, size_toList]
      omega
    have R00 := fun w ht hm => rd_at (X ++ M) B st k X.size w ht hm zXM hXM (by rw [← hXl, size_toList])
    have WH := Lib.hid W0
    have RH := Lib.hid R00
    clear W0 R00 hX hXl hTs hXM zXM hmay
    cases hr : rpR s.data.toList with
    | none =>
      rw [hr] at S0
      unfold rdV at S0
      have SH := Lib.hid S0
      clear S0 hr
      go_enter Tryd.func4, Tryd.ntmps4
      go_wp2_with fail
      refine (alive18 _ T0.out).mono ?_
      rintro e w1 ⟨rfl, hb⟩
      have q1 := q0.trans (hb.mono q0.size)
      have T1 := Lib.hid (T0.out.ret hb)
      have M1 := Lib.hid (M0.out.ret hb)
      have R1 := Lib.hid (R0.out.ret hb)
      clear hb T0 M0 R0 q0
      obtain ⟨y0, y1, y2, y3, y4, y5, y6⟩ := R1.out
      go_wp2_with fail
      refine (WH.out _ T1.out).mono ?_
      rintro e w2 ⟨rfl, hb⟩
      clear y0 y1 y2 y3 y4 y5 y6
      have q2 := q1.trans (hb.mono q1.size)
      have T2 := Lib.hid (T1.out.ret hb)
      have M2 := Lib.hid (M1.out.ret hb)
      have R2 := Lib.hid (R1.out.ret hb)
      clear hb T1 M1 R1 q1
      go_wp2_with fail
      refine (RH.out _ T2.out M2.out).mono ?_
      rintro e w3 ⟨rfl, hb⟩
      have q3 := q2.trans (hb.mono q2.size)
      have T3 := Lib.hid (T2.out.ret hb)
      have M3 := Lib.hid (M2.out.ret hb)
      have R3 := Lib.hid (R2.out.ret hb)
      clear hb T2 M2 R2 q2
      obtain ⟨y0, y1, y2, y3, y4, y5, y6⟩ := R3.out
      go_wp2_with fail
      have al := (Below.refl w3.heap.size w3).alloc (Nat.le_refl _) (.cells #[.int .i64 st, .string B, .bool k] 26)
      have q4 := q3.trans (al.mono q3.size)
      have T4 := Lib.hid (T3.out.ret al)
      have M4 := Lib.hid (M3.out.ret al)
      have R4 := Lib.hid (R3.out.ret al)
      clear al T3 M3 R3 q3
      refine (SH.out _ T4.out M4.out).mono ?_
      rintro e w5 ⟨rfl, hb⟩
      clear y0 y1 y2 y3 y4 y5 y6
      have q5 := q4.trans (hb.mono q4.size)
      have T5 := Lib.hid (T4.out.ret hb)
      have M5 := Lib.hid (M4.out.ret hb)
      have R5 := Lib.hid (R4.out.ret hb)
      clear hb T4 M4 R4 q4
      go_wp2_with fail
      go_ret
      exact ⟨rfl, q5.alloc q5.size _⟩
    | some x =>
      obtain ⟨c, d, kk⟩ := x
      rw [hr] at S0
      unfold rdV at S0
      obtain ⟨hmy, more, hs⟩ := rp_some hr
      obtain ⟨D, hD⟩ : ∃ X : ByteArray, ⟨d.toArray⟩ = X := ⟨_, rfl⟩
      have hDl : D.data.toList = d := by rw [← hD]
      obtain ⟨n, hn⟩ : ∃ n, (rpT c d kk).length = n := ⟨_, rfl⟩
      have hns : n ≤ s.size := by rw [← size_toList, hs, List.length_append]; omega
      have hsx : (s.extract 0 n).data.toList = rpT c d kk := by
        rw [ext_data, hs, List.drop_zero, Nat.sub_zero, ← hn, List.take_left]
      simp only [hD, hn] at S0
      have U0 := fun w ht => wp_at c D (s.extract 0 n) kk w ht (by have := may_small hmy; rw [← size_toList, hDl]; exact this) (by rw [hDl]; exact hmy) (by rw [hDl, hsx])
      have SH := Lib.hid S0
      have UH := Lib.hid U0
      have g1 : (n : Int) ≤ s.size := by omega
      clear S0 U0 hr hmy hs hD hDl hn hsx
      go_enter Tryd.func4, Tryd.ntmps4
      go_wp2_with fail
      refine (alive18 _ T0.out).mono ?_
      rintro e w1 ⟨rfl, hb⟩
      have q1 := q0.trans (hb.mono q0.size)
      have T1 := Lib.hid (T0.out.ret hb)
      have M1 := Lib.hid (M0.out.ret hb)
      have R1 := Lib.hid (R0.out.ret hb)
      clear hb T0 M0 R0 q0
      obtain ⟨y0, y1, y2, y3, y4, y5, y6⟩ := R1.out
      go_wp2_with fail
      refine (WH.out _ T1.out).mono ?_
      rintro e w2 ⟨rfl, hb⟩
      clear y0 y1 y2 y3 y4 y5 y6
      have q2 := q1.trans (hb.mono q1.size)
      have T2 := Lib.hid (T1.out.ret hb)
      have M2 := Lib.hid (M1.out.ret hb)
      have R2 := Lib.hid (R1.out.ret hb)
      clear hb T1 M1 R1 q1
      go_wp2_with fail
      refine (RH.out _ T2.out M2.out).mono ?_
      rintro e w3 ⟨rfl, hb⟩
      have q3 := q2.trans (hb.mono q2.size)
      have T3 := Lib.hid (T2.out.ret hb)
      have M3 := Lib.hid (M2.out.ret hb)
      have R3 := Lib.hid (R2.out.ret hb)
      clear hb T2 M2 R2 q2
      obtain ⟨y0, y1, y2, y3, y4, y5, y6⟩ := R3.out
      go_wp2_with fail
      have al := (Below.refl w3.heap.size w3).alloc (Nat.le_refl _) (.cells #[.int .i64 st, .string B, .bool k] 26)
      have q4 := q3.trans (al.mono q3.size)
      have T4 := Lib.hid (T3.out.ret al)
      have M4 := Lib.hid (M3.out.ret al)
      have R4 := Lib.hid (R3.out.ret al)
      clear al T3 M3 R3 q3
      refine (SH.out _ T4.out M4.out).mono ?_
      rintro e w5 ⟨rfl, hb⟩
      clear y0 y1 y2 y3 y4 y5 y6
      have q5 := q4.trans (hb.mono q4.size)
      have T5 := Lib.hid (T4.out.ret hb)
      have M5 := Lib.hid (M4.out.ret hb)
      have R5 := Lib.hid (R4.out.ret hb)
      clear hb T4 M4 R4 q4
      go_wp2_with fail
      have al := (Below.refl w5.heap.size w5).alloc (Nat.le_refl _) (.cells #[.int .i64 c, .string D, .bool kk] 26)
      have q6 := q5.trans (al.mono q5.size)
      have T6 := Lib.hid (T5.out.ret al)
      have M6 := Lib.hid (M5.out.ret al)
      have R6 := Lib.hid (R5.out.ret al)
      clear al T5 M5 R5 q5
      refine (UH.out _ T6.out).mono ?_
      rintro e w7 ⟨rfl, hb⟩
      have q7 := q6.trans (hb.mono q6.size)
      have T7 := Lib.hid (T6.out.ret hb)
      have M7 := Lib.hid (M6.out.ret hb)
      have R7 := Lib.hid (R6.out.ret hb)
      clear hb T6 M6 R6 q6
      go_wp2_with fail
      go_ret
      exact ⟨rfl, q7⟩
  | false =>
    rw [if_neg (by rw [hmay]; decide)] at W0
    have WH := Lib.hid W0
    clear W0 hmay
    cases hr : rpR s.data.toList with
    | none =>
      rw [hr] at S0
      unfold rdV at S0
      have SH := Lib.hid S0
      clear S0 hr
      go_enter Tryd.func4, Tryd.ntmps4
      go_wp2_with fail
      refine (alive18 _ T0.out).mono ?_
      rintro e w1 ⟨rfl, hb⟩
      have q1 := q0.trans (hb.mono q0.size)
      have T1 := Lib.hid (T0.out.ret hb)
      have M1 := Lib.hid (M0.out.ret hb)
      have R1 := Lib.hid (R0.out.ret hb)
      clear hb T0 M0 R0 q0
      obtain ⟨y0, y1, y2, y3, y4, y5, y6⟩ := R1.out
      go_wp2_with fail
      refine (WH.out _ T1.out).mono ?_
      rintro e w2 ⟨rfl, hb⟩
      clear y0 y1 y2 y3 y4 y5 y6
      have q2 := q1.trans (hb.mono q1.size)
      have T2 := Lib.hid (T1.out.ret hb)
      have M2 := Lib.hid (M1.out.ret hb)
      have R2 := Lib.hid (R1.out.ret hb)
      clear hb T1 M1 R1 q1
      go_wp2_with fail
      refine (SH.out _ T2.out M2.out).mono ?_
      rintro e w3 ⟨rfl, hb⟩
      have q3 := q2.trans (hb.mono q2.size)
      have T3 := Lib.hid (T2.out.ret hb)
      have M3 := Lib.hid (M2.out.ret hb)
      have R3 := Lib.hid (R2.out.ret hb)
      clear hb T2 M2 R2 q2
      go_wp2_with fail
      go_ret
      exact ⟨rfl, q3.alloc q3.size _⟩
    | some x =>
      obtain ⟨c, d, kk⟩ := x
      rw [hr] at S0
      unfold rdV at S0
      obtain ⟨hmy, more, hs⟩ := rp_some hr
      obtain ⟨D, hD⟩ : ∃ X : ByteArray, ⟨d.toArray⟩ = X := ⟨_, rfl⟩
      have hDl : D.data.toList = d := by rw [← hD]
      obtain ⟨n, hn⟩ : ∃ n, (rpT c d kk).length = n := ⟨_, rfl⟩
      have hns : n ≤ s.size := by rw [← size_toList, hs, List.length_append]; omega
      have hsx : (s.extract 0 n).data.toList = rpT c d kk := by
        rw [ext_data, hs, List.drop_zero, Nat.sub_zero, ← hn, List.take_left]
      simp only [hD, hn] at S0
      have U0 := fun w ht => wp_at c D (s.extract 0 n) kk w ht (by have := may_small hmy; rw [← size_toList, hDl]; exact this) (by rw [hDl]; exact hmy) (by rw [hDl, hsx])
      have SH := Lib.hid S0
      have UH := Lib.hid U0
      have g1 : (n : Int) ≤ s.size := by omega
      clear S0 U0 hr hmy hs hD hDl hn hsx
      go_enter Tryd.func4, Tryd.ntmps4
      go_wp2_with fail
      refine (alive18 _ T0.out).mono ?_
      rintro e w1 ⟨rfl, hb⟩
      have q1 := q0.trans (hb.mono q0.size)
      have T1 := Lib.hid (T0.out.ret hb)
      have M1 := Lib.hid (M0.out.ret hb)
      have R1 := Lib.hid (R0.out.ret hb)
      clear hb T0 M0 R0 q0
      obtain ⟨y0, y1, y2, y3, y4, y5, y6⟩ := R1.out
      go_wp2_with fail
      refine (WH.out _ T1.out).mono ?_
      rintro e w2 ⟨rfl, hb⟩
      clear y0 y1 y2 y3 y4 y5 y6
      have q2 := q1.trans (hb.mono q1.size)
      have T2 := Lib.hid (T1.out.ret hb)
      have M2 := Lib.hid (M1.out.ret hb)
      have R2 := Lib.hid (R1.out.ret hb)
      clear hb T1 M1 R1 q1
      go_wp2_with fail
      refine (SH.out _ T2.out M2.out).mono ?_
      rintro e w3 ⟨rfl, hb⟩
      have q3 := q2.trans (hb.mono q2.size)
      have T3 := Lib.hid (T2.out.ret hb)
      have M3 := Lib.hid (M2.out.ret hb)
      have R3 := Lib.hid (R2.out.ret hb)
      clear hb T2 M2 R2 q2
      go_wp2_with fail
      have al := (Below.refl w3.heap.size w3).alloc (Nat.le_refl _) (.cells #[.int .i64 c, .string D, .bool kk] 26)
      have q4 := q3.trans (al.mono q3.size)
      have T4 := Lib.hid (T3.out.ret al)
      have M4 := Lib.hid (M3.out.ret al)
      have R4 := Lib.hid (R3.out.ret al)
      clear al T3 M3 R3 q3
      refine (UH.out _ T4.out).mono ?_
      rintro e w5 ⟨rfl, hb⟩
      have q5 := q4.trans (hb.mono q4.size)
      have T5 := Lib.hid (T4.out.ret hb)
      have M5 := Lib.hid (M4.out.ret hb)
      have R5 := Lib.hid (R4.out.ret hb)
      clear hb T4 M4 R4 q4
      go_wp2_with fail
      go_ret
      exact ⟨rfl, q5⟩
end Go.Proofs.YthgmgmbjjjnhnaaDoor
