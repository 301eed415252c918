/- The statement ChunkNames: the walk. -/
import Derived.Test.YtcmbmbkglglljaaDoorChV
import Derived.Test.YtcmbmbkglglljaaDoorMk
namespace Go.Proofs.YtcmbmbkglglljaaDoor
open Go.RowKit

theorem encode_big (s : ByteArray) (v : Value) (w : World) (h : 8192 < s.size) : Calls Tryd.prog 15 #[.string s, v] w (Ret w (.tuple #[.string ⟨#[]⟩, .int .i64 2])) := by
  have c := ch_Encode_long s v [] w h
  have hn : encOf s.data.toList [] = none := by unfold encOf; rw [if_pos (by rw [size_toList]; exact h)]
  rw [(ec_none hn).1, (ec_none hn).2] at c
  exact c
set_option maxHeartbeats 8000000 in
set_option maxRecDepth 100000 in
theorem names16 (w : World) (ht : TabZ w) : Calls Tryd.prog 3 #[] w (Ret w (.bool true)) := by
  have HT := Lib.hid ht
  clear ht
  go_enter Tryd.func3, Tryd.ntmps3
  go_wp2_with fail
  refine (odd16 _ _ _ (by decide) (by decide +kernel)).mono ?_
  rintro e w1 ⟨rfl, hb⟩
  have q1 := hb
  clear hb
  go_wp2_with fail
  refine (odd16 _ _ _ (by decide) (by decide +kernel)).mono ?_
  rintro e w2 ⟨rfl, hb⟩
  have q2 := ret_trans q1 hb
  clear hb q1
  go_wp2_with fail
  refine (odd16 _ _ _ (by decide) (by decide +kernel)).mono ?_
  rintro e w3 ⟨rfl, hb⟩
  have q3 := ret_trans q2 hb
  clear hb q2
  go_wp2_with fail
  refine (odd16 _ _ _ (by decide) (by decide +kernel)).mono ?_
  rintro e w4 ⟨rfl, hb⟩
  have q4 := ret_trans q3 hb
  clear hb q3
  go_wp2_with fail
  refine (odd16 _ _ _ (by decide) (by decide +kernel)).mono ?_
  rintro e w5 ⟨rfl, hb⟩
  have q5 := ret_trans q4 hb
  clear hb q4
  go_wp2_with fail
  refine (odd16 _ _ _ (by decide) (by decide +kernel)).mono ?_
  rintro e w6 ⟨rfl, hb⟩
  have q6 := ret_trans q5 hb
  clear hb q5
  go_wp2_with fail
  refine (odd16 _ _ _ (by decide) (by decide +kernel)).mono ?_
  rintro e w7 ⟨rfl, hb⟩
  have q7 := ret_trans q6 hb
  clear hb q6
  go_wp2_with fail
  refine (odd16 _ _ _ (by decide) (by decide +kernel)).mono ?_
  rintro e w8 ⟨rfl, hb⟩
  have q8 := ret_trans q7 hb
  clear hb q7
  go_wp2_with fail
  refine (odd16 _ _ _ (by decide) (by decide +kernel)).mono ?_
  rintro e w9 ⟨rfl, hb⟩
  have q9 := ret_trans q8 hb
  clear hb q8
  go_wp2_with fail
  refine (begun16 _ _ (by decide) (by decide +kernel)).mono ?_
  rintro e w10 ⟨rfl, hb⟩
  have q10 := ret_trans q9 hb
  clear hb q9
  go_wp2_with fail
  refine (begun16 _ _ (by decide) (by decide +kernel)).mono ?_
  rintro e w11 ⟨rfl, hb⟩
  have q11 := ret_trans q10 hb
  clear hb q10
  go_wp2_with fail
  refine (begun16 _ _ (by decide) (by decide +kernel)).mono ?_
  rintro e w12 ⟨rfl, hb⟩
  have q12 := ret_trans q11 hb
  clear hb q11
  go_wp2_with fail
  refine (begun16 _ _ (by decide) (by decide +kernel)).mono ?_
  rintro e w13 ⟨rfl, hb⟩
  have q13 := ret_trans q12 hb
  clear hb q12
  go_wp2_with fail
  refine (odd16 _ _ _ (by decide) (by decide +kernel)).mono ?_
  rintro e w14 ⟨rfl, hb⟩
  have q14 := ret_trans q13 hb
  clear hb q13
  go_wp2_with fail
  refine (is16 _ _ _ 5 _ (by decide) (by decide +kernel) rfl).mono ?_
  rintro e w15 ⟨rfl, hb⟩
  have q15 := ret_trans q14 hb
  clear hb q14
  go_wp2_with fail
  refine (encode_some _ _ [11, 1] ⟨#[98, 13, 10, 97, 98, 99, 100, 101, 102, 103, 104, 105, 106, 107, 13, 10, 49, 13, 10, 108, 13, 10, 48, 13, 10, 13, 10]⟩ (by decide +kernel) (by simp) (by simp) _ (HT.out.ret (q15.alloc q15.size _)) ⟨_, _, rfl, .inr ⟨_, 0, rfl, ints_new w15 [11, 1] 3 #[.int .i64 11, .int .i64 1] rfl⟩⟩).mono ?_
  rintro e w16 ⟨rfl, hb⟩
  have q16 := ret_trans (q15.alloc q15.size (.cells #[.int .i64 11, .int .i64 1] 3)) hb
  clear hb q15
  go_wp2_with fail
  refine (encode_none _ _ [2] (by decide +kernel) (by simp) (by simp) _ (HT.out.ret (q16.alloc q16.size _)) ⟨_, _, rfl, .inr ⟨_, 0, rfl, ints_new w16 [2] 3 #[.int .i64 2] rfl⟩⟩).mono ?_
  rintro e w17 ⟨rfl, hb⟩
  have q17 := ret_trans (q16.alloc q16.size (.cells #[.int .i64 2] 3)) hb
  clear hb q16
  go_wp2_with fail
  refine (encode_none _ _ [0, 3] (by decide +kernel) (by simp) (by simp) _ (HT.out.ret (q17.alloc q17.size _)) ⟨_, _, rfl, .inr ⟨_, 0, rfl, ints_new w17 [0, 3] 3 #[.int .i64 0, .int .i64 3] rfl⟩⟩).mono ?_
  rintro e w18 ⟨rfl, hb⟩
  have q18 := ret_trans (q17.alloc q17.size (.cells #[.int .i64 0, .int .i64 3] 3)) hb
  clear hb q17
  have hmk := mk_bytes 8193 (by omega) w18
  have hcv := mk_conv 8193 w18
  simp only [Int.cast_ofNat_Int] at hmk
  go_wp2_with fail
  refine (encode_big (zstr 8193) _ _ (by rw [zstr_size]; omega)).mono ?_
  rintro e w19 ⟨rfl, hb⟩
  have q19 := ret_trans ((q18.alloc q18.size (.cells (zrow 8193) 5)).alloc (by have := q18.size; simp; omega) (.cells #[.int .i64 8193] 3)) hb
  clear hb q18 hmk hcv
  go_wp2_with fail
  refine (alive16 _).mono ?_
  rintro e w20 ⟨rfl, hb⟩
  go_wp2_with fail
  go_ret
  exact ⟨rfl, ret_trans q19 hb⟩
end Go.Proofs.YtcmbmbkglglljaaDoor
