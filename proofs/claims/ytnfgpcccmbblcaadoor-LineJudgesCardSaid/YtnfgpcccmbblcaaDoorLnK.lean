/- LineJudges, LineBack: the walks. PRINTED BY PROGRAM (gen_lnk.py). -/
import Derived.Test.YtnfgpcccmbblcaaDoorLnJ
namespace Go.Proofs.YtnfgpcccmbblcaaDoor
open Go.RowKit

/-- The one line that is judged 200. -/
def okLine : List UInt8 := [80, 79, 83, 84, 32, 47, 104, 116, 116, 112, 45, 98, 105, 110, 100, 32, 72, 84, 84, 80, 47, 49, 46, 49]
theorem okLine_of : lnOf okLine = some (post, bindT, 1, 1) := by decide +kernel
theorem okLine_txt : lnTxt post bindT 1 1 = okLine := by decide +kernel
theorem status_any (n : Int) (w : World) (ht : Tab w) (h0 : stN n ≠ []) : Calls Tryd.prog 18 #[.int .i64 n] w (Ret w (.tuple #[.string ⟨(stT n).toArray⟩, .int .i64 0])) := by
  have := ln_Status n w ht
  unfold stV at this
  rwa [if_neg h0] at this
set_option maxHeartbeats 8000000 in
set_option maxRecDepth 100000 in
theorem judgedA (s M T : ByteArray) (g f : Int) (w : World) (hs : s.size ≤ 2000) (ht : Tab w) (hm : ML w) (h : lnOf s.data.toList = some (M.data.toList, T.data.toList, g, f)) (zM : M.size ≤ 1000000) (zT : T.size ≤ 1000000) (hg : g ≠ 1) :
    Calls Tryd.prog 5 #[.string s] w (Ret w (.bool true)) := by
  have hj : jdg M.data.toList T.data.toList g f = 505 := by unfold jdg; rw [if_neg (fun e => hg e.1)]
  have AL := Lib.hid fun w ht hm => alive15 w ht hm
  have PH := Lib.hid fun w hm => parse_some s M T g f w (by omega) hm h
  have JH := Lib.hid fun w => judge_may M T g f 505 w zM zT (lnOf_some h).1 hj
  have SH := Lib.hid fun w ht => status_any 505 w ht (by decide)
  obtain ⟨X, hX⟩ : ∃ X : ByteArray, ⟨(stT 505).toArray⟩ = X := ⟨_, rfl⟩
  rw [hX] at SH
  have hsl : ¬ s.data.toList = okLine := by
    intro e
    have hh := h
    rw [e, okLine_of] at hh
    simp only [Option.some.injEq, Prod.mk.injEq] at hh
    exact hg hh.2.2.1.symm
  have e1 : (s.toList == [80, 79, 83, 84, 32, 47, 104, 116, 116, 112, 45, 98, 105, 110, 100, 32, 72, 84, 84, 80, 47, 49, 46, 49]) = false := by
    rw [Lib.toList_data, eqb_list]
    exact decide_eq_false hsl
  clear hsl
  have n1 : (g != 1) = true := by simpa using hg
  have HT := Lib.hid ht
  have HM := Lib.hid hm
  have g1 : ¬ (2000 : Int) < s.size := by omega
  clear h hj hX ht hm hg
  go_enter Tryd.func5, Tryd.ntmps5
  go_wp2_with fail
  refine (AL.out _ HT.out HM.out).mono ?_
  rintro e w1 ⟨rfl, hb1⟩
  go_wp2_with fail
  refine (PH.out _ (HM.out.ret hb1)).mono ?_
  rintro e w2 ⟨rfl, hb2⟩
  have q2 := below_new hb1 hb2 (.cells #[.string M, .string T, .int .i64 g, .int .i64 f] 36)
  have B2 := Lib.hid (LnAt.new w2 (.string M) (.string T) (.int .i64 g) (.int .i64 f))
  clear hb1 hb2 AL PH
  go_wp2_with fail
  refine (JH.out _).mono ?_
  rintro e w3 ⟨rfl, hb3⟩
  have q3 := q2.trans (hb3.mono q2.size)
  have B3 := Lib.hid (B2.out.ret hb3)
  clear hb3 q2 B2 JH
  go_wp2_with fail
  refine (SH.out _ (HT.out.ret q3)).mono ?_
  rintro e w4 ⟨rfl, hb4⟩
  have q4 := q3.trans (hb4.mono q3.size)
  obtain ⟨x0, x1, x2, x3, x4, _, _, _, _⟩ := B3.out.ret hb4
  clear hb4 q3 B3 SH HT HM
  go_wp2_with fail
  go_ret
  exact ⟨ret_b (by first | rfl | simp), q4⟩
set_option maxHeartbeats 8000000 in
set_option maxRecDepth 100000 in
theorem judgedB (s M T : ByteArray) (f : Int) (w : World) (hs : s.size ≤ 2000) (ht : Tab w) (hm : ML w) (h : lnOf s.data.toList = some (M.data.toList, T.data.toList, 1, f)) (zM : M.size ≤ 1000000) (zT : T.size ≤ 1000000) (hf : f ≠ 1) :
    Calls Tryd.prog 5 #[.string s] w (Ret w (.bool true)) := by
  have hj : jdg M.data.toList T.data.toList 1 f = 505 := by unfold jdg; rw [if_neg (fun e => hf e.2)]
  have AL := Lib.hid fun w ht hm => alive15 w ht hm
  have PH := Lib.hid fun w hm => parse_some s M T 1 f w (by omega) hm h
  have JH := Lib.hid fun w => judge_may M T 1 f 505 w zM zT (lnOf_some h).1 hj
  have SH := Lib.hid fun w ht => status_any 505 w ht (by decide)
  obtain ⟨X, hX⟩ : ∃ X : ByteArray, ⟨(stT 505).toArray⟩ = X := ⟨_, rfl⟩
  rw [hX] at SH
  have hsl : ¬ s.data.toList = okLine := by
    intro e
    have hh := h
    rw [e, okLine_of] at hh
    simp only [Option.some.injEq, Prod.mk.injEq, true_and] at hh
    exact hf hh.2.2.symm
  have e1 : (s.toList == [80, 79, 83, 84, 32, 47, 104, 116, 116, 112, 45, 98, 105, 110, 100, 32, 72, 84, 84, 80, 47, 49, 46, 49]) = false := by
    rw [Lib.toList_data, eqb_list]
    exact decide_eq_false hsl
  clear hsl
  have n1 : (f != 1) = true := by simpa using hf
  have HT := Lib.hid ht
  have HM := Lib.hid hm
  have g1 : ¬ (2000 : Int) < s.size := by omega
  clear h hj hX ht hm hf
  go_enter Tryd.func5, Tryd.ntmps5
  go_wp2_with fail
  refine (AL.out _ HT.out HM.out).mono ?_
  rintro e w1 ⟨rfl, hb1⟩
  go_wp2_with fail
  refine (PH.out _ (HM.out.ret hb1)).mono ?_
  rintro e w2 ⟨rfl, hb2⟩
  have q2 := below_new hb1 hb2 (.cells #[.string M, .string T, .int .i64 1, .int .i64 f] 36)
  have B2 := Lib.hid (LnAt.new w2 (.string M) (.string T) (.int .i64 1) (.int .i64 f))
  clear hb1 hb2 AL PH
  go_wp2_with fail
  refine (JH.out _).mono ?_
  rintro e w3 ⟨rfl, hb3⟩
  have q3 := q2.trans (hb3.mono q2.size)
  have B3 := Lib.hid (B2.out.ret hb3)
  clear hb3 q2 B2 JH
  go_wp2_with fail
  refine (SH.out _ (HT.out.ret q3)).mono ?_
  rintro e w4 ⟨rfl, hb4⟩
  have q4 := q3.trans (hb4.mono q3.size)
  obtain ⟨x0, x1, x2, x3, x4, _, _, _, _⟩ := B3.out.ret hb4
  clear hb4 q3 B3 SH HT HM
  go_wp2_with fail
  go_ret
  exact ⟨ret_b (by first | rfl | simp), q4⟩
set_option maxHeartbeats 8000000 in
set_option maxRecDepth 100000 in
theorem judgedC (s M T : ByteArray) (w : World) (hs : s.size ≤ 2000) (ht : Tab w) (hm : ML w) (h : lnOf s.data.toList = some (M.data.toList, T.data.toList, 1, 1)) (zM : M.size ≤ 1000000) (zT : T.size ≤ 1000000) (ht2 : T.data.toList ≠ bindT) :
    Calls Tryd.prog 5 #[.string s] w (Ret w (.bool true)) := by
  have hj : jdg M.data.toList T.data.toList 1 1 = 404 := by unfold jdg; rw [if_pos ⟨rfl, rfl⟩, if_neg ht2]
  have AL := Lib.hid fun w ht hm => alive15 w ht hm
  have PH := Lib.hid fun w hm => parse_some s M T 1 1 w (by omega) hm h
  have JH := Lib.hid fun w => judge_may M T 1 1 404 w zM zT (lnOf_some h).1 hj
  have SH := Lib.hid fun w ht => status_any 404 w ht (by decide)
  obtain ⟨X, hX⟩ : ∃ X : ByteArray, ⟨(stT 404).toArray⟩ = X := ⟨_, rfl⟩
  rw [hX] at SH
  have hsl : ¬ s.data.toList = okLine := by
    intro e
    have hh := h
    rw [e, okLine_of] at hh
    simp only [Option.some.injEq, Prod.mk.injEq, and_true] at hh
    exact ht2 hh.2.symm
  have e1 : (s.toList == [80, 79, 83, 84, 32, 47, 104, 116, 116, 112, 45, 98, 105, 110, 100, 32, 72, 84, 84, 80, 47, 49, 46, 49]) = false := by
    rw [Lib.toList_data, eqb_list]
    exact decide_eq_false hsl
  clear hsl
  have e2 : (T.toList == [47, 104, 116, 116, 112, 45, 98, 105, 110, 100]) = false := by
    rw [Lib.toList_data, eqb_list]
    exact decide_eq_false ht2
  have HT := Lib.hid ht
  have HM := Lib.hid hm
  have g1 : ¬ (2000 : Int) < s.size := by omega
  clear h hj hX ht hm ht2
  go_enter Tryd.func5, Tryd.ntmps5
  go_wp2_with fail
  refine (AL.out _ HT.out HM.out).mono ?_
  rintro e w1 ⟨rfl, hb1⟩
  go_wp2_with fail
  refine (PH.out _ (HM.out.ret hb1)).mono ?_
  rintro e w2 ⟨rfl, hb2⟩
  have q2 := below_new hb1 hb2 (.cells #[.string M, .string T, .int .i64 1, .int .i64 1] 36)
  have B2 := Lib.hid (LnAt.new w2 (.string M) (.string T) (.int .i64 1) (.int .i64 1))
  clear hb1 hb2 AL PH
  go_wp2_with fail
  refine (JH.out _).mono ?_
  rintro e w3 ⟨rfl, hb3⟩
  have q3 := q2.trans (hb3.mono q2.size)
  have B3 := Lib.hid (B2.out.ret hb3)
  clear hb3 q2 B2 JH
  go_wp2_with fail
  refine (SH.out _ (HT.out.ret q3)).mono ?_
  rintro e w4 ⟨rfl, hb4⟩
  have q4 := q3.trans (hb4.mono q3.size)
  obtain ⟨x0, x1, x2, x3, x4, _, _, _, _⟩ := B3.out.ret hb4
  clear hb4 q3 B3 SH HT HM
  go_wp2_with fail
  go_ret
  exact ⟨ret_b (by first | rfl | simp), q4⟩
set_option maxHeartbeats 8000000 in
set_option maxRecDepth 100000 in
theorem judgedD (s M T : ByteArray) (w : World) (hs : s.size ≤ 2000) (ht : Tab w) (hm : ML w) (h : lnOf s.data.toList = some (M.data.toList, T.data.toList, 1, 1)) (zM : M.size ≤ 1000000) (zT : T.size ≤ 1000000) (ht2 : T.data.toList = bindT) (hm2 : M.data.toList ≠ post) :
    Calls Tryd.prog 5 #[.string s] w (Ret w (.bool true)) := by
  have hj : jdg M.data.toList T.data.toList 1 1 = 405 := by unfold jdg; rw [if_pos ⟨rfl, rfl⟩, if_pos ht2, if_neg hm2]
  have AL := Lib.hid fun w ht hm => alive15 w ht hm
  have PH := Lib.hid fun w hm => parse_some s M T 1 1 w (by omega) hm h
  have JH := Lib.hid fun w => judge_may M T 1 1 405 w zM zT (lnOf_some h).1 hj
  have SH := Lib.hid fun w ht => status_any 405 w ht (by decide)
  obtain ⟨X, hX⟩ : ∃ X : ByteArray, ⟨(stT 405).toArray⟩ = X := ⟨_, rfl⟩
  rw [hX] at SH
  have hsl : ¬ s.data.toList = okLine := by
    intro e
    have hh := h
    rw [e, okLine_of] at hh
    simp only [Option.some.injEq, Prod.mk.injEq, and_true] at hh
    exact hm2 hh.1.symm
  have e1 : (s.toList == [80, 79, 83, 84, 32, 47, 104, 116, 116, 112, 45, 98, 105, 110, 100, 32, 72, 84, 84, 80, 47, 49, 46, 49]) = false := by
    rw [Lib.toList_data, eqb_list]
    exact decide_eq_false hsl
  clear hsl
  have e2 : (T.toList == [47, 104, 116, 116, 112, 45, 98, 105, 110, 100]) = true := by
    rw [Lib.toList_data, eqb_list]
    exact decide_eq_true ht2
  have HT := Lib.hid ht
  have HM := Lib.hid hm
  have g1 : ¬ (2000 : Int) < s.size := by omega
  clear h hj hX ht hm ht2 hm2
  go_enter Tryd.func5, Tryd.ntmps5
  go_wp2_with fail
  refine (AL.out _ HT.out HM.out).mono ?_
  rintro e w1 ⟨rfl, hb1⟩
  go_wp2_with fail
  refine (PH.out _ (HM.out.ret hb1)).mono ?_
  rintro e w2 ⟨rfl, hb2⟩
  have q2 := below_new hb1 hb2 (.cells #[.string M, .string T, .int .i64 1, .int .i64 1] 36)
  have B2 := Lib.hid (LnAt.new w2 (.string M) (.string T) (.int .i64 1) (.int .i64 1))
  clear hb1 hb2 AL PH
  go_wp2_with fail
  refine (JH.out _).mono ?_
  rintro e w3 ⟨rfl, hb3⟩
  have q3 := q2.trans (hb3.mono q2.size)
  have B3 := Lib.hid (B2.out.ret hb3)
  clear hb3 q2 B2 JH
  go_wp2_with fail
  refine (SH.out _ (HT.out.ret q3)).mono ?_
  rintro e w4 ⟨rfl, hb4⟩
  have q4 := q3.trans (hb4.mono q3.size)
  obtain ⟨x0, x1, x2, x3, x4, _, _, _, _⟩ := B3.out.ret hb4
  clear hb4 q3 B3 SH HT HM
  go_wp2_with fail
  go_ret
  exact ⟨ret_b (by first | rfl | simp), q4⟩
set_option maxHeartbeats 8000000 in
set_option maxRecDepth 100000 in
theorem judgedE (s M T : ByteArray) (w : World) (hs : s.size ≤ 2000) (ht : Tab w) (hm : ML w) (h : lnOf s.data.toList = some (M.data.toList, T.data.toList, 1, 1)) (zM : M.size ≤ 1000000) (zT : T.size ≤ 1000000) (ht2 : T.data.toList = bindT) (hm2 : M.data.toList = post) :
    Calls Tryd.prog 5 #[.string s] w (Ret w (.bool true)) := by
  have hj : jdg M.data.toList T.data.toList 1 1 = 200 := by unfold jdg; rw [if_pos ⟨rfl, rfl⟩, if_pos ht2, if_pos hm2]
  have AL := Lib.hid fun w ht hm => alive15 w ht hm
  have PH := Lib.hid fun w hm => parse_some s M T 1 1 w (by omega) hm h
  have JH := Lib.hid fun w => judge_may M T 1 1 200 w zM zT (lnOf_some h).1 hj
  have SH := Lib.hid fun w ht => status_any 200 w ht (by decide)
  obtain ⟨X, hX⟩ : ∃ X : ByteArray, ⟨(stT 200).toArray⟩ = X := ⟨_, rfl⟩
  rw [hX] at SH
  have hsl : s.data.toList = okLine := by
    rw [(lnOf_some h).2, ht2, hm2]
    exact okLine_txt
  have e1 : (s.toList == [80, 79, 83, 84, 32, 47, 104, 116, 116, 112, 45, 98, 105, 110, 100, 32, 72, 84, 84, 80, 47, 49, 46, 49]) = true := by
    rw [Lib.toList_data, eqb_list]
    exact decide_eq_true hsl
  clear hsl
  have e2 : (T.toList == [47, 104, 116, 116, 112, 45, 98, 105, 110, 100]) = true := by
    rw [Lib.toList_data, eqb_list]
    exact decide_eq_true ht2
  have HT := Lib.hid ht
  have HM := Lib.hid hm
  have g1 : ¬ (2000 : Int) < s.size := by omega
  clear h hj hX ht hm ht2 hm2
  go_enter Tryd.func5, Tryd.ntmps5
  go_wp2_with fail
  refine (AL.out _ HT.out HM.out).mono ?_
  rintro e w1 ⟨rfl, hb1⟩
  go_wp2_with fail
  refine (PH.out _ (HM.out.ret hb1)).mono ?_
  rintro e w2 ⟨rfl, hb2⟩
  have q2 := below_new hb1 hb2 (.cells #[.string M, .string T, .int .i64 1, .int .i64 1] 36)
  have B2 := Lib.hid (LnAt.new w2 (.string M) (.string T) (.int .i64 1) (.int .i64 1))
  clear hb1 hb2 AL PH
  go_wp2_with fail
  refine (JH.out _).mono ?_
  rintro e w3 ⟨rfl, hb3⟩
  have q3 := q2.trans (hb3.mono q2.size)
  have B3 := Lib.hid (B2.out.ret hb3)
  clear hb3 q2 B2 JH
  go_wp2_with fail
  refine (SH.out _ (HT.out.ret q3)).mono ?_
  rintro e w4 ⟨rfl, hb4⟩
  have q4 := q3.trans (hb4.mono q3.size)
  obtain ⟨x0, x1, x2, x3, x4, _, _, _, _⟩ := B3.out.ret hb4
  clear hb4 q3 B3 SH HT HM
  go_wp2_with fail
  go_ret
  exact ⟨ret_b (by first | rfl | simp), q4⟩
set_option maxHeartbeats 4000000 in
set_option maxRecDepth 100000 in
theorem judgedN (s : ByteArray) (w : World) (hs : s.size ≤ 2000) (ht : Tab w) (hm : ML w) (h : lnOf s.data.toList = none) : Calls Tryd.prog 5 #[.string s] w (Ret w (.bool true)) := by
  have AL := Lib.hid fun w ht hm => alive15 w ht hm
  have PH := Lib.hid fun w hm => parse_none s w (by omega) hm h
  have JH := Lib.hid judge_not
  have HT := Lib.hid ht
  have HM := Lib.hid hm
  have g1 : ¬ (2000 : Int) < s.size := by omega
  clear h ht hm
  go_enter Tryd.func5, Tryd.ntmps5
  go_wp2_with fail
  refine (AL.out _ HT.out HM.out).mono ?_
  rintro e w1 ⟨rfl, hb1⟩
  go_wp2_with fail
  refine (PH.out _ (HM.out.ret hb1)).mono ?_
  rintro e w2 ⟨rfl, hb2⟩
  have q2 := below_new hb1 hb2 (.cells #[.string ⟨#[]⟩, .string ⟨#[]⟩, .int .i64 0, .int .i64 0] 36)
  clear hb1 hb2 AL PH
  go_wp2_with fail
  refine (JH.out _).mono ?_
  rintro e w3 ⟨rfl, hb3⟩
  have q3 := q2.trans (hb3.mono q2.size)
  go_wp2_with fail
  go_ret
  exact ⟨ret_b (by first | rfl | simp), q3⟩
theorem lnTxt_len (m t : List UInt8) (g f : Int) : (lnTxt m t g f).length = m.length + t.length + 10 := by
  unfold lnTxt http
  simp
  omega
theorem judges15_all (s : ByteArray) (w : World) (zs : s.size ≤ 9223372036854775807) (ht : Tab w) (hm : ML w) : Calls Tryd.prog 5 #[.string s] w (Ret w (.bool true)) := by
  by_cases hs : 2000 < s.size
  · have AL := Lib.hid fun w ht hm => alive15 w ht hm
    have g1 : (2000 : Int) < s.size := by omega
    have HT := Lib.hid ht
    have HM := Lib.hid hm
    clear ht hm hs
    go_enter Tryd.func5, Tryd.ntmps5
    go_wp2_with fail
    refine (AL.out _ HT.out HM.out).mono ?_
    rintro e w1 ⟨rfl, hb1⟩
    go_wp2_with fail
    go_ret
    exact ⟨rfl, hb1⟩
  have zs2 : s.size ≤ 2000 := by omega
  cases h : lnOf s.data.toList with
  | none => exact judgedN s w zs2 ht hm h
  | some x =>
    obtain ⟨m, t, g, f⟩ := x
    have hl := congrArg List.length (lnOf_some h).2
    rw [lnTxt_len, size_toList] at hl
    have zM : (⟨m.toArray⟩ : ByteArray).size ≤ 1000000 := by rw [← size_toList]; show m.length ≤ _; omega
    have zT : (⟨t.toArray⟩ : ByteArray).size ≤ 1000000 := by rw [← size_toList]; show t.length ≤ _; omega
    by_cases hg : g = 1
    · subst hg
      by_cases hf : f = 1
      · subst hf
        by_cases h2 : t = bindT
        · by_cases h3 : m = post
          · exact judgedE s ⟨m.toArray⟩ ⟨t.toArray⟩ w zs2 ht hm h zM zT h2 h3
          · exact judgedD s ⟨m.toArray⟩ ⟨t.toArray⟩ w zs2 ht hm h zM zT h2 h3
        · exact judgedC s ⟨m.toArray⟩ ⟨t.toArray⟩ w zs2 ht hm h zM zT h2
      · exact judgedB s ⟨m.toArray⟩ ⟨t.toArray⟩ f w zs2 ht hm h zM zT hf
    · exact judgedA s ⟨m.toArray⟩ ⟨t.toArray⟩ g f w zs2 ht hm h zM zT hg
theorem write_may (M T : ByteArray) (g f : Int) (X : ByteArray) (w : World) (hm : M.size ≤ 1000000) (ht : T.size ≤ 1000000) (h : lnMay M.data.toList T.data.toList g f = true) (hX : lnTxt M.data.toList T.data.toList g f = X.data.toList) : Calls Tryd.prog 23 #[lnV M T g f] w (Ret w (.tuple #[.string X, .int .i64 0])) := by
  have := ln_Write M T g f w hm ht
  unfold lnWr at this
  rwa [if_pos h, hX, str_mk] at this
theorem write_not (M T : ByteArray) (g f : Int) (w : World) (hm : M.size ≤ 1000000) (ht : T.size ≤ 1000000) (h : lnMay M.data.toList T.data.toList g f = false) : Calls Tryd.prog 23 #[lnV M T g f] w (Ret w (.tuple #[.string ⟨#[]⟩, .int .i64 8])) := by
  have := ln_Write M T g f w hm ht
  unfold lnWr at this
  rwa [if_neg (by rw [h]; decide)] at this
set_option maxHeartbeats 8000000 in
set_option maxRecDepth 100000 in
theorem backWS (m t s : ByteArray) (g f : Int) (M T : ByteArray) (pg pf : Int) (zM : M.size ≤ 1000000) (zT : T.size ≤ 1000000) (w : World) (hs : s.size ≤ 2000) (hmt : m.size + t.size ≤ 2000) (ht : Tab w) (hm : ML w) (hK : lnMay m.data.toList t.data.toList g f = true) (hS : lnOf s.data.toList = some (M.data.toList, T.data.toList, pg, pf)) :
    Calls Tryd.prog 7 #[lnV m t g f, .string s] w (Ret w (.bool true)) := by
  have AL := Lib.hid fun w ht hm => alive15 w ht hm
  have g1 : ¬ (2000 : Int) < s.size := by omega
  have g2 : (m.size : Int) + t.size ≤ 2000 := by omega
  have g3 : IntKind.i64.wrap ((m.size : Int) + t.size) = (m.size : Int) + t.size := IntWalk.i64_in _ (by omega)
  obtain ⟨X, hX⟩ : ∃ X : ByteArray, ⟨(lnTxt m.data.toList t.data.toList g f).toArray⟩ = X := ⟨_, rfl⟩
  have hXl : lnTxt m.data.toList t.data.toList g f = X.data.toList := by rw [← hX]
  have hXs : X.size ≤ 1000000 := by rw [← size_toList, ← hXl, lnTxt_len, size_toList, size_toList]; omega
  have WH := Lib.hid fun w => write_may m t g f X w (by omega) (by omega) hK hXl
  have PX := Lib.hid fun w hm => parse_some X m t g f w hXs hm (by rw [← hXl]; exact lnOf_txt hK)
  have TK := Lib.hid fun w => token_at m true w (by omega) (lnMay_parts hK).1
  clear hX hXl hXs
  obtain ⟨k1, k2⟩ := lnOf_some hS
  have PH := Lib.hid fun w hm => parse_some s M T pg pf w (by omega) hm hS
  have W2 := Lib.hid fun w => write_may M T pg pf s w zM zT k1 k2.symm
  clear k1 k2
  have HT := Lib.hid ht
  have HM := Lib.hid hm
  have q0 := below_alloc (Below.refl _ w) (.cells #[.string m, .string t, .int .i64 g, .int .i64 f] 36)
  have A0 := Lib.hid (LnAt.new w (.string m) (.string t) (.int .i64 g) (.int .i64 f))
  clear ht hm hK hS hs hmt
  go_enter Tryd.func7, Tryd.ntmps7
  go_wp2_with fail
  refine (AL.out _ (HT.out.ret q0) (HM.out.ret q0)).mono ?_
  rintro e w1 ⟨rfl, hb1⟩
  have q1 := q0.trans (hb1.mono q0.size)
  have A1 := Lib.hid (A0.out.ret hb1)
  obtain ⟨x0, x1, x2, x3, x4, _, _, _, _⟩ := A1.out
  clear hb1 q0 A0 AL
  go_wp2_with fail
  refine (WH.out _).mono ?_
  rintro e w2 ⟨rfl, hb2⟩
  clear x0 x1 x2 x3 x4
  have q2 := q1.trans (hb2.mono q1.size)
  have A2 := Lib.hid (A1.out.ret hb2)
  clear hb2 q1 A1 WH
  go_wp2_with fail
  refine (PX.out _ (HM.out.ret q2)).mono ?_
  rintro e w3 ⟨rfl, hb3⟩
  have q3 := below_new q2 hb3 (.cells #[.string m, .string t, .int .i64 g, .int .i64 f] 36)
  have A3 := Lib.hid ((A2.out.ret hb3).alloc (.cells #[.string m, .string t, .int .i64 g, .int .i64 f] 36))
  obtain ⟨x0, x1, x2, x3, x4, _, _, _, _⟩ := A3.out
  clear hb3 q2 A2 PX
  go_wp2_with fail
  refine (TK.out _).mono ?_
  rintro e w4 ⟨rfl, hb4⟩
  clear x0 x1 x2 x3 x4
  have q4 := q3.trans (hb4.mono q3.size)
  clear hb4 q3 A3 TK
  go_wp2_with fail
  refine (PH.out _ (HM.out.ret q4)).mono ?_
  rintro e w5 ⟨rfl, hb5⟩
  have q5 := below_new q4 hb5 (.cells #[.string M, .string T, .int .i64 pg, .int .i64 pf] 36)
  clear hb5 q4 PH
  go_wp2_with fail
  refine (W2.out _).mono ?_
  rintro e w6 ⟨rfl, hb6⟩
  have q6 := q5.trans (hb6.mono q5.size)
  go_wp2_with fail
  go_ret
  exact ⟨ret_b (by first | rfl | simp), q6⟩
set_option maxHeartbeats 8000000 in
set_option maxRecDepth 100000 in
theorem backWO (m t s : ByteArray) (g f : Int) (w : World) (hs : s.size ≤ 2000) (hmt : m.size + t.size ≤ 2000) (ht : Tab w) (hm : ML w) (hK : lnMay m.data.toList t.data.toList g f = true) (hS : lnOf s.data.toList = none) :
    Calls Tryd.prog 7 #[lnV m t g f, .string s] w (Ret w (.bool true)) := by
  have AL := Lib.hid fun w ht hm => alive15 w ht hm
  have g1 : ¬ (2000 : Int) < s.size := by omega
  have g2 : (m.size : Int) + t.size ≤ 2000 := by omega
  have g3 : IntKind.i64.wrap ((m.size : Int) + t.size) = (m.size : Int) + t.size := IntWalk.i64_in _ (by omega)
  obtain ⟨X, hX⟩ : ∃ X : ByteArray, ⟨(lnTxt m.data.toList t.data.toList g f).toArray⟩ = X := ⟨_, rfl⟩
  have hXl : lnTxt m.data.toList t.data.toList g f = X.data.toList := by rw [← hX]
  have hXs : X.size ≤ 1000000 := by rw [← size_toList, ← hXl, lnTxt_len, size_toList, size_toList]; omega
  have WH := Lib.hid fun w => write_may m t g f X w (by omega) (by omega) hK hXl
  have PX := Lib.hid fun w hm => parse_some X m t g f w hXs hm (by rw [← hXl]; exact lnOf_txt hK)
  have TK := Lib.hid fun w => token_at m true w (by omega) (lnMay_parts hK).1
  clear hX hXl hXs
  have PH := Lib.hid fun w hm => parse_none s w (by omega) hm hS
  have HT := Lib.hid ht
  have HM := Lib.hid hm
  have q0 := below_alloc (Below.refl _ w) (.cells #[.string m, .string t, .int .i64 g, .int .i64 f] 36)
  have A0 := Lib.hid (LnAt.new w (.string m) (.string t) (.int .i64 g) (.int .i64 f))
  clear ht hm hK hS hs hmt
  go_enter Tryd.func7, Tryd.ntmps7
  go_wp2_with fail
  refine (AL.out _ (HT.out.ret q0) (HM.out.ret q0)).mono ?_
  rintro e w1 ⟨rfl, hb1⟩
  have q1 := q0.trans (hb1.mono q0.size)
  have A1 := Lib.hid (A0.out.ret hb1)
  obtain ⟨x0, x1, x2, x3, x4, _, _, _, _⟩ := A1.out
  clear hb1 q0 A0 AL
  go_wp2_with fail
  refine (WH.out _).mono ?_
  rintro e w2 ⟨rfl, hb2⟩
  clear x0 x1 x2 x3 x4
  have q2 := q1.trans (hb2.mono q1.size)
  have A2 := Lib.hid (A1.out.ret hb2)
  clear hb2 q1 A1 WH
  go_wp2_with fail
  refine (PX.out _ (HM.out.ret q2)).mono ?_
  rintro e w3 ⟨rfl, hb3⟩
  have q3 := below_new q2 hb3 (.cells #[.string m, .string t, .int .i64 g, .int .i64 f] 36)
  have A3 := Lib.hid ((A2.out.ret hb3).alloc (.cells #[.string m, .string t, .int .i64 g, .int .i64 f] 36))
  obtain ⟨x0, x1, x2, x3, x4, _, _, _, _⟩ := A3.out
  clear hb3 q2 A2 PX
  go_wp2_with fail
  refine (TK.out _).mono ?_
  rintro e w4 ⟨rfl, hb4⟩
  clear x0 x1 x2 x3 x4
  have q4 := q3.trans (hb4.mono q3.size)
  clear hb4 q3 A3 TK
  go_wp2_with fail
  refine (PH.out _ (HM.out.ret q4)).mono ?_
  rintro e w5 ⟨rfl, hb5⟩
  have q5 := below_new q4 hb5 (.cells #[.string ⟨#[]⟩, .string ⟨#[]⟩, .int .i64 0, .int .i64 0] 36)
  clear hb5 q4 PH
  go_wp2_with fail
  go_ret
  exact ⟨ret_b (by first | rfl | simp), q5⟩
set_option maxHeartbeats 8000000 in
set_option maxRecDepth 100000 in
theorem backNS (m t s : ByteArray) (g f : Int) (M T : ByteArray) (pg pf : Int) (zM : M.size ≤ 1000000) (zT : T.size ≤ 1000000) (w : World) (hs : s.size ≤ 2000) (hmt : m.size + t.size ≤ 2000) (ht : Tab w) (hm : ML w) (hK : lnMay m.data.toList t.data.toList g f = false) (hS : lnOf s.data.toList = some (M.data.toList, T.data.toList, pg, pf)) :
    Calls Tryd.prog 7 #[lnV m t g f, .string s] w (Ret w (.bool true)) := by
  have AL := Lib.hid fun w ht hm => alive15 w ht hm
  have g1 : ¬ (2000 : Int) < s.size := by omega
  have g2 : (m.size : Int) + t.size ≤ 2000 := by omega
  have g3 : IntKind.i64.wrap ((m.size : Int) + t.size) = (m.size : Int) + t.size := IntWalk.i64_in _ (by omega)
  have WH := Lib.hid fun w => write_not m t g f w (by omega) (by omega) hK
  obtain ⟨k1, k2⟩ := lnOf_some hS
  have PH := Lib.hid fun w hm => parse_some s M T pg pf w (by omega) hm hS
  have W2 := Lib.hid fun w => write_may M T pg pf s w zM zT k1 k2.symm
  clear k1 k2
  have HT := Lib.hid ht
  have HM := Lib.hid hm
  have q0 := below_alloc (Below.refl _ w) (.cells #[.string m, .string t, .int .i64 g, .int .i64 f] 36)
  have A0 := Lib.hid (LnAt.new w (.string m) (.string t) (.int .i64 g) (.int .i64 f))
  clear ht hm hK hS hs hmt
  go_enter Tryd.func7, Tryd.ntmps7
  go_wp2_with fail
  refine (AL.out _ (HT.out.ret q0) (HM.out.ret q0)).mono ?_
  rintro e w1 ⟨rfl, hb1⟩
  have q1 := q0.trans (hb1.mono q0.size)
  have A1 := Lib.hid (A0.out.ret hb1)
  obtain ⟨x0, x1, x2, x3, x4, _, _, _, _⟩ := A1.out
  clear hb1 q0 A0 AL
  go_wp2_with fail
  refine (WH.out _).mono ?_
  rintro e w2 ⟨rfl, hb2⟩
  clear x0 x1 x2 x3 x4
  have q2 := q1.trans (hb2.mono q1.size)
  have A2 := Lib.hid (A1.out.ret hb2)
  clear hb2 q1 A1 WH
  go_wp2_with fail
  refine (PH.out _ (HM.out.ret q2)).mono ?_
  rintro e w5 ⟨rfl, hb5⟩
  have q5 := below_new q2 hb5 (.cells #[.string M, .string T, .int .i64 pg, .int .i64 pf] 36)
  clear hb5 q2 PH
  go_wp2_with fail
  refine (W2.out _).mono ?_
  rintro e w6 ⟨rfl, hb6⟩
  have q6 := q5.trans (hb6.mono q5.size)
  go_wp2_with fail
  go_ret
  exact ⟨ret_b (by first | rfl | simp), q6⟩
set_option maxHeartbeats 8000000 in
set_option maxRecDepth 100000 in
theorem backNO (m t s : ByteArray) (g f : Int) (w : World) (hs : s.size ≤ 2000) (hmt : m.size + t.size ≤ 2000) (ht : Tab w) (hm : ML w) (hK : lnMay m.data.toList t.data.toList g f = false) (hS : lnOf s.data.toList = none) :
    Calls Tryd.prog 7 #[lnV m t g f, .string s] w (Ret w (.bool true)) := by
  have AL := Lib.hid fun w ht hm => alive15 w ht hm
  have g1 : ¬ (2000 : Int) < s.size := by omega
  have g2 : (m.size : Int) + t.size ≤ 2000 := by omega
  have g3 : IntKind.i64.wrap ((m.size : Int) + t.size) = (m.size : Int) + t.size := IntWalk.i64_in _ (by omega)
  have WH := Lib.hid fun w => write_not m t g f w (by omega) (by omega) hK
  have PH := Lib.hid fun w hm => parse_none s w (by omega) hm hS
  have HT := Lib.hid ht
  have HM := Lib.hid hm
  have q0 := below_alloc (Below.refl _ w) (.cells #[.string m, .string t, .int .i64 g, .int .i64 f] 36)
  have A0 := Lib.hid (LnAt.new w (.string m) (.string t) (.int .i64 g) (.int .i64 f))
  clear ht hm hK hS hs hmt
  go_enter Tryd.func7, Tryd.ntmps7
  go_wp2_with fail
  refine (AL.out _ (HT.out.ret q0) (HM.out.ret q0)).mono ?_
  rintro e w1 ⟨rfl, hb1⟩
  have q1 := q0.trans (hb1.mono q0.size)
  have A1 := Lib.hid (A0.out.ret hb1)
  obtain ⟨x0, x1, x2, x3, x4, _, _, _, _⟩ := A1.out
  clear hb1 q0 A0 AL
  go_wp2_with fail
  refine (WH.out _).mono ?_
  rintro e w2 ⟨rfl, hb2⟩
  clear x0 x1 x2 x3 x4
  have q2 := q1.trans (hb2.mono q1.size)
  have A2 := Lib.hid (A1.out.ret hb2)
  clear hb2 q1 A1 WH
  go_wp2_with fail
  refine (PH.out _ (HM.out.ret q2)).mono ?_
  rintro e w5 ⟨rfl, hb5⟩
  have q5 := below_new q2 hb5 (.cells #[.string ⟨#[]⟩, .string ⟨#[]⟩, .int .i64 0, .int .i64 0] 36)
  clear hb5 q2 PH
  go_wp2_with fail
  go_ret
  exact ⟨ret_b (by first | rfl | simp), q5⟩
theorem back15 (m t s : ByteArray) (g f : Int) (w : World) (zs : s.size ≤ 9223372036854775807) (zm : m.size ≤ 140737488351232) (zt : t.size ≤ 140737488351232) (ht : Tab w) (hm : ML w) :
    Calls Tryd.prog 7 #[lnV m t g f, .string s] w (Ret w (.bool true)) := by
  by_cases hs : 2000 < s.size
  · have AL := Lib.hid fun w ht hm => alive15 w ht hm
    have g1 : (2000 : Int) < s.size := by omega
    have HT := Lib.hid ht
    have HM := Lib.hid hm
    have q0 := below_alloc (Below.refl _ w) (.cells #[.string m, .string t, .int .i64 g, .int .i64 f] 36)
    clear ht hm hs
    go_enter Tryd.func7, Tryd.ntmps7
    go_wp2_with fail
    refine (AL.out _ (HT.out.ret q0) (HM.out.ret q0)).mono ?_
    rintro e w1 ⟨rfl, hb1⟩
    go_wp2_with fail
    go_ret
    exact ⟨rfl, q0.trans (hb1.mono q0.size)⟩
  by_cases hmt : 2000 < m.size + t.size
  · have AL := Lib.hid fun w ht hm => alive15 w ht hm
    have g1 : ¬ (2000 : Int) < s.size := by omega
    have g2 : (2000 : Int) < (m.size : Int) + t.size := by omega
    have g3 : IntKind.i64.wrap ((m.size : Int) + t.size) = (m.size : Int) + t.size := IntWalk.i64_in _ (by omega)
    have HT := Lib.hid ht
    have HM := Lib.hid hm
    have q0 := below_alloc (Below.refl _ w) (.cells #[.string m, .string t, .int .i64 g, .int .i64 f] 36)
    have A0 := Lib.hid (LnAt.new w (.string m) (.string t) (.int .i64 g) (.int .i64 f))
    clear ht hm hs hmt
    go_enter Tryd.func7, Tryd.ntmps7
    go_wp2_with fail
    refine (AL.out _ (HT.out.ret q0) (HM.out.ret q0)).mono ?_
    rintro e w1 ⟨rfl, hb1⟩
    obtain ⟨x0, x1, x2, x3, x4, _, _, _, _⟩ := A0.out.ret hb1
    go_wp2_with fail
    go_ret
    exact ⟨rfl, q0.trans (hb1.mono q0.size)⟩
  have zs2 : s.size ≤ 2000 := by omega
  have zmt : m.size + t.size ≤ 2000 := by omega
  cases hK : lnMay m.data.toList t.data.toList g f with
  | true =>
    cases h : lnOf s.data.toList with
    | none => exact backWO m t s g f w zs2 zmt ht hm hK h
    | some x =>
      obtain ⟨a, b, c, d⟩ := x
      have hl := congrArg List.length (lnOf_some h).2
      rw [lnTxt_len, size_toList] at hl
      exact backWS m t s g f ⟨a.toArray⟩ ⟨b.toArray⟩ c d (by rw [← size_toList]; show a.length ≤ _; omega) (by rw [← size_toList]; show b.length ≤ _; omega) w zs2 zmt ht hm hK h
  | false =>
    cases h : lnOf s.data.toList with
    | none => exact backNO m t s g f w zs2 zmt ht hm hK h
    | some x =>
      obtain ⟨a, b, c, d⟩ := x
      have hl := congrArg List.length (lnOf_some h).2
      rw [lnTxt_len, size_toList] at hl
      exact backNS m t s g f ⟨a.toArray⟩ ⟨b.toArray⟩ c d (by rw [← size_toList]; show a.length ≤ _; omega) (by rw [← size_toList]; show b.length ≤ _; omega) w zs2 zmt ht hm hK h
end Go.Proofs.YtnfgpcccmbblcaaDoor
