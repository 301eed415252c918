/- Chapter 15's helpers (judges, odd, alive), and LineNames: the walks. PRINTED BY PROGRAM (gen_lnj.py). -/
import Derived.Test.YtnfgpcccmbblcaaDoorLnI
namespace Go.Proofs.YtnfgpcccmbblcaaDoor
open Go.RowKit

theorem parse_some (s M T : ByteArray) (g f : Int) (w : World) (hs : s.size ≤ 1000000) (hm : ML w) (h : lnOf s.data.toList = some (M.data.toList, T.data.toList, g, f)) : Calls Tryd.prog 21 #[.string s] w (Ret w (.tuple #[lnV M T g f, .int .i64 0])) := by
  have := ln_Parse s w hs hm
  rw [h, lnA_some] at this
  exact this
theorem parse_none (s : ByteArray) (w : World) (hs : s.size ≤ 1000000) (hm : ML w) (h : lnOf s.data.toList = none) : Calls Tryd.prog 21 #[.string s] w (Ret w (.tuple #[lnV ⟨#[]⟩ ⟨#[]⟩ 0 0, .int .i64 150])) := by
  have := ln_Parse s w hs hm
  rw [h] at this
  exact this
theorem judge_may (M T : ByteArray) (g f n : Int) (w : World) (hm : M.size ≤ 1000000) (ht : T.size ≤ 1000000) (h : lnMay M.data.toList T.data.toList g f = true) (hj : jdg M.data.toList T.data.toList g f = n) : Calls Tryd.prog 19 #[lnV M T g f] w (Ret w (.tuple #[.int .i64 n, .int .i64 0])) := by
  have := ln_Judge M T g f w hm ht
  unfold lnJ at this
  rwa [if_pos h, hj] at this
theorem judge_not (w : World) : Calls Tryd.prog 19 #[lnV ⟨#[]⟩ ⟨#[]⟩ 0 0] w (Ret w (.tuple #[.int .i64 0, .int .i64 8])) := by
  have := ln_Judge ⟨#[]⟩ ⟨#[]⟩ 0 0 w (by decide) (by decide)
  unfold lnJ at this
  rwa [if_neg (by decide)] at this
theorem status_at (n : Int) (X : ByteArray) (w : World) (ht : Tab w) (h0 : stN n ≠ []) (h : stT n = X.data.toList) : Calls Tryd.prog 18 #[.int .i64 n] w (Ret w (.tuple #[.string X, .int .i64 0])) := by
  have := ln_Status n w ht
  unfold stV at this
  rwa [if_neg h0, h, str_mk] at this
theorem below_new {w w1 w2 : World} (h : Below w.heap.size w w1) (hb : Below w1.heap.size w1 w2) (o : Obj) : Below w.heap.size w (w2.alloc o) := below_alloc (h.trans (hb.mono h.size)) o
set_option maxHeartbeats 2000000 in
theorem odd15 (s : ByteArray) (w : World) (hs : s.size ≤ 1000000) (hm : ML w) (h : lnOf s.data.toList = none) : Calls Tryd.prog 17 #[.string s] w (Ret w (.bool true)) := by
  have PH := Lib.hid (parse_none s w hs hm h)
  clear h hm
  go_enter Tryd.func17, Tryd.ntmps17
  go_wp2_with fail
  refine (PH.out).mono ?_
  rintro e w1 ⟨rfl, hb1⟩
  have q1 := below_alloc hb1 (.cells #[.string ⟨#[]⟩, .string ⟨#[]⟩, .int .i64 0, .int .i64 0] 36)
  go_wp2_with fail
  go_ret
  exact ⟨ret_b (by first | rfl | simp), q1⟩
set_option maxHeartbeats 2000000 in
theorem judges15 (s M T : ByteArray) (g f n : Int) (w : World) (hs : s.size ≤ 1000000) (zM : M.size ≤ 1000000) (zT : T.size ≤ 1000000) (hm : ML w) (h : lnOf s.data.toList = some (M.data.toList, T.data.toList, g, f)) (hj : jdg M.data.toList T.data.toList g f = n) : Calls Tryd.prog 16 #[.string s, .int .i64 n] w (Ret w (.bool true)) := by
  have PH := Lib.hid (parse_some s M T g f w hs hm h)
  have JH := Lib.hid fun w => judge_may M T g f n w zM zT (lnOf_some h).1 hj
  clear h hm hj
  go_enter Tryd.func16, Tryd.ntmps16
  go_wp2_with fail
  refine (PH.out).mono ?_
  rintro e w1 ⟨rfl, hb1⟩
  have q1 := below_alloc hb1 (.cells #[.string M, .string T, .int .i64 g, .int .i64 f] 36)
  go_wp2_with fail
  refine (JH.out _).mono ?_
  rintro e w2 ⟨rfl, hb2⟩
  have q2 := q1.trans (hb2.mono q1.size)
  go_wp2_with fail
  go_ret
  exact ⟨ret_b (by first | rfl | simp), q2⟩
set_option maxHeartbeats 4000000 in
set_option maxRecDepth 100000 in
theorem alive15 (w : World) (ht : Tab w) (hm : ML w) : Calls Tryd.prog 20 #[] w (Ret w (.bool true)) := by
  have PH := Lib.hid (parse_some ⟨#[80, 79, 83, 84, 32, 47, 104, 116, 116, 112, 45, 98, 105, 110, 100, 32, 72, 84, 84, 80, 47, 49, 46, 49]⟩ ⟨#[80, 79, 83, 84]⟩ ⟨#[47, 104, 116, 116, 112, 45, 98, 105, 110, 100]⟩ 1 1 w (by decide) hm (by decide +kernel))
  have SH := Lib.hid fun w ht => status_at 404 ⟨#[72, 84, 84, 80, 47, 49, 46, 49, 32, 52, 48, 52, 32, 78, 111, 116, 32, 70, 111, 117, 110, 100, 13, 10]⟩ w ht (by decide) (by decide +kernel)
  have JH := Lib.hid fun w hm => judges15 ⟨#[80, 79, 83, 84, 32, 47, 104, 116, 116, 112, 45, 98, 105, 110, 100, 32, 72, 84, 84, 80, 47, 49, 46, 49]⟩ ⟨#[80, 79, 83, 84]⟩ ⟨#[47, 104, 116, 116, 112, 45, 98, 105, 110, 100]⟩ 1 1 200 w (by decide) (by decide) (by decide) hm (by decide +kernel) (by decide +kernel)
  have HT := Lib.hid ht
  have HM := Lib.hid hm
  clear ht hm
  go_enter Tryd.func20, Tryd.ntmps20
  go_wp2_with fail
  refine (PH.out).mono ?_
  rintro e w1 ⟨rfl, hb1⟩
  have q1 := below_alloc hb1 (.cells #[.string ⟨#[80, 79, 83, 84]⟩, .string ⟨#[47, 104, 116, 116, 112, 45, 98, 105, 110, 100]⟩, .int .i64 1, .int .i64 1] 36)
  have B1 := Lib.hid (LnAt.new w1 (.string ⟨#[80, 79, 83, 84]⟩) (.string ⟨#[47, 104, 116, 116, 112, 45, 98, 105, 110, 100]⟩) (.int .i64 1) (.int .i64 1))
  clear hb1
  go_wp2_with fail
  refine (SH.out _ (HT.out.ret q1)).mono ?_
  rintro e w2 ⟨rfl, hb2⟩
  have q2 := q1.trans (hb2.mono q1.size)
  obtain ⟨x0, x1, x2, x3, x4, _, _, _, _⟩ := B1.out.ret hb2
  clear hb2 q1 B1
  go_wp2_with fail
  refine (JH.out _ (HM.out.ret q2)).mono ?_
  rintro e w3 ⟨rfl, hb3⟩
  have q3 := q2.trans (hb3.mono q2.size)
  clear hb3 q2 x0 x1 x2 x3 x4
  go_wp2_with fail
  go_ret
  exact ⟨ret_b (by first | rfl | simp), q3⟩
set_option maxHeartbeats 16000000 in
set_option maxRecDepth 100000 in
theorem names15 (w : World) (ht : Tab w) (hm : ML w) : Calls Tryd.prog 4 #[] w (Ret w (.bool true)) := by
  have AL := Lib.hid alive15
  have HT := Lib.hid ht
  have HM := Lib.hid hm
  have J0 := Lib.hid fun w hm => judges15 ⟨#[71, 69, 84, 32, 47, 120, 32, 72, 84, 84, 80, 47, 49, 46, 48]⟩ ⟨#[71, 69, 84]⟩ ⟨#[47, 120]⟩ 1 0 505 w (by decide) (by decide) (by decide) hm (by decide +kernel) (by decide +kernel)
  have J1 := Lib.hid fun w hm => judges15 ⟨#[71, 69, 84, 32, 47, 120, 32, 72, 84, 84, 80, 47, 49, 46, 49]⟩ ⟨#[71, 69, 84]⟩ ⟨#[47, 120]⟩ 1 1 404 w (by decide) (by decide) (by decide) hm (by decide +kernel) (by decide +kernel)
  have J2 := Lib.hid fun w hm => judges15 ⟨#[71, 69, 84, 32, 47, 104, 116, 116, 112, 45, 98, 105, 110, 100, 32, 72, 84, 84, 80, 47, 49, 46, 49]⟩ ⟨#[71, 69, 84]⟩ ⟨#[47, 104, 116, 116, 112, 45, 98, 105, 110, 100]⟩ 1 1 405 w (by decide) (by decide) (by decide) hm (by decide +kernel) (by decide +kernel)
  have J3 := Lib.hid fun w hm => judges15 ⟨#[112, 111, 115, 116, 32, 47, 104, 116, 116, 112, 45, 98, 105, 110, 100, 32, 72, 84, 84, 80, 47, 49, 46, 49]⟩ ⟨#[112, 111, 115, 116]⟩ ⟨#[47, 104, 116, 116, 112, 45, 98, 105, 110, 100]⟩ 1 1 405 w (by decide) (by decide) (by decide) hm (by decide +kernel) (by decide +kernel)
  have O0 := Lib.hid fun w hm => odd15 ⟨#[80, 79, 83, 84, 32, 32, 47, 104, 116, 116, 112, 45, 98, 105, 110, 100, 32, 72, 84, 84, 80, 47, 49, 46, 49]⟩ w (by decide) hm (by decide +kernel)
  have O1 := Lib.hid fun w hm => odd15 ⟨#[80, 79, 83, 84, 32, 47, 97, 32, 98, 32, 72, 84, 84, 80, 47, 49, 46, 49]⟩ w (by decide) hm (by decide +kernel)
  have O2 := Lib.hid fun w hm => odd15 ⟨#[80, 79, 83, 84, 32, 47, 32, 72, 84, 84, 80, 47, 49, 49]⟩ w (by decide) hm (by decide +kernel)
  have O3 := Lib.hid fun w hm => odd15 ⟨#[]⟩ w (by decide) hm (by decide +kernel)
  have O4 := Lib.hid fun w hm => odd15 ⟨#[80, 79, 83, 84, 32, 47, 104, 116, 116, 112, 45, 98, 105, 110, 100, 32, 72, 84, 84, 80, 47, 49, 46, 49, 32]⟩ w (by decide) hm (by decide +kernel)
  have O5 := Lib.hid fun w hm => odd15 ⟨#[80, 58, 84, 32, 47, 32, 72, 84, 84, 80, 47, 49, 46, 49]⟩ w (by decide) hm (by decide +kernel)
  have O6 := Lib.hid fun w hm => odd15 ⟨#[80, 79, 83, 84, 32, 47, 195, 32, 72, 84, 84, 80, 47, 49, 46, 49]⟩ w (by decide) hm (by decide +kernel)
  have O7 := Lib.hid fun w hm => odd15 ⟨#[80, 79, 83, 84, 32, 47, 32, 104, 116, 116, 112, 47, 49, 46, 49]⟩ w (by decide) hm (by decide +kernel)
  have O8 := Lib.hid fun w hm => odd15 ⟨#[80, 79, 83, 84, 32, 47, 32, 72, 84, 84, 80, 47, 49, 46, 97]⟩ w (by decide) hm (by decide +kernel)
  have S0 := Lib.hid fun w => ln_Status_no 500 w (by decide)
  have S1 := Lib.hid fun w ht => status_at 505 ⟨#[72, 84, 84, 80, 47, 49, 46, 49, 32, 53, 48, 53, 32, 72, 84, 84, 80, 32, 86, 101, 114, 115, 105, 111, 110, 32, 78, 111, 116, 32, 83, 117, 112, 112, 111, 114, 116, 101, 100, 13, 10]⟩ w ht (by decide) (by decide +kernel)
  have G0 := Lib.hid judge_not
  clear ht hm
  go_enter Tryd.func4, Tryd.ntmps4
  go_wp2_with fail
  refine (J0.out _ HM.out).mono ?_
  rintro e w1 ⟨rfl, hb0⟩
  have q0 := hb0
  clear hb0 J0
  go_wp2_with fail
  refine (J1.out _ (HM.out.ret q0)).mono ?_
  rintro e w2 ⟨rfl, hb1⟩
  have q1 := q0.trans (hb1.mono q0.size)
  clear hb1 q0 J1
  go_wp2_with fail
  refine (J2.out _ (HM.out.ret q1)).mono ?_
  rintro e w3 ⟨rfl, hb2⟩
  have q2 := q1.trans (hb2.mono q1.size)
  clear hb2 q1 J2
  go_wp2_with fail
  refine (J3.out _ (HM.out.ret q2)).mono ?_
  rintro e w4 ⟨rfl, hb3⟩
  have q3 := q2.trans (hb3.mono q2.size)
  clear hb3 q2 J3
  go_wp2_with fail
  refine (O0.out _ (HM.out.ret q3)).mono ?_
  rintro e w5 ⟨rfl, hb4⟩
  have q4 := q3.trans (hb4.mono q3.size)
  clear hb4 q3 O0
  go_wp2_with fail
  refine (O1.out _ (HM.out.ret q4)).mono ?_
  rintro e w6 ⟨rfl, hb5⟩
  have q5 := q4.trans (hb5.mono q4.size)
  clear hb5 q4 O1
  go_wp2_with fail
  refine (O2.out _ (HM.out.ret q5)).mono ?_
  rintro e w7 ⟨rfl, hb6⟩
  have q6 := q5.trans (hb6.mono q5.size)
  clear hb6 q5 O2
  go_wp2_with fail
  refine (O3.out _ (HM.out.ret q6)).mono ?_
  rintro e w8 ⟨rfl, hb7⟩
  have q7 := q6.trans (hb7.mono q6.size)
  clear hb7 q6 O3
  go_wp2_with fail
  refine (O4.out _ (HM.out.ret q7)).mono ?_
  rintro e w9 ⟨rfl, hb8⟩
  have q8 := q7.trans (hb8.mono q7.size)
  clear hb8 q7 O4
  go_wp2_with fail
  refine (O5.out _ (HM.out.ret q8)).mono ?_
  rintro e w10 ⟨rfl, hb9⟩
  have q9 := q8.trans (hb9.mono q8.size)
  clear hb9 q8 O5
  go_wp2_with fail
  refine (O6.out _ (HM.out.ret q9)).mono ?_
  rintro e w11 ⟨rfl, hb10⟩
  have q10 := q9.trans (hb10.mono q9.size)
  clear hb10 q9 O6
  go_wp2_with fail
  refine (O7.out _ (HM.out.ret q10)).mono ?_
  rintro e w12 ⟨rfl, hb11⟩
  have q11 := q10.trans (hb11.mono q10.size)
  clear hb11 q10 O7
  go_wp2_with fail
  refine (O8.out _ (HM.out.ret q11)).mono ?_
  rintro e w13 ⟨rfl, hb12⟩
  have q12 := q11.trans (hb12.mono q11.size)
  clear hb12 q11 O8
  go_wp2_with fail
  refine (S0.out _).mono ?_
  rintro e w14 ⟨rfl, hb13⟩
  have q13 := q12.trans (hb13.mono q12.size)
  clear hb13 q12 S0
  go_wp2_with fail
  refine (S1.out _ (HT.out.ret q13)).mono ?_
  rintro e w15 ⟨rfl, hb14⟩
  have q14 := q13.trans (hb14.mono q13.size)
  clear hb14 q13 S1
  go_wp2_with fail
  refine (G0.out _).mono ?_
  rintro e w16 ⟨rfl, hb15⟩
  have q15 := q14.trans (hb15.mono q14.size)
  clear hb15 q14 G0
  go_wp2_with fail
  refine (AL.out _ (HT.out.ret q15) (HM.out.ret q15)).mono ?_
  rintro e w17 ⟨rfl, hb16⟩
  have q16 := q15.trans (hb16.mono q15.size)
  clear hb16 q15 AL
  go_wp2_with fail
  go_ret
  exact ⟨ret_b (by first | rfl | simp), q16⟩
end Go.Proofs.YtnfgpcccmbblcaaDoor
