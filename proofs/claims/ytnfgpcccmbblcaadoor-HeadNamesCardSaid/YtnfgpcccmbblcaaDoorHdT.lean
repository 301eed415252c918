/- HeadNames: the walk. PRINTED BY PROGRAM (gen_hdt.py). -/
import Derived.Test.YtnfgpcccmbblcaaDoorHdS
namespace Go.Proofs.YtnfgpcccmbblcaaDoor
open Go.RowKit

set_option maxHeartbeats 16000000 in
set_option maxRecDepth 100000 in
theorem names14 (w : World) (hm : ML w) : Calls Tryd.prog 10 #[] w (Ret w (.bool true)) := by
  have PH := Lib.hid hd_pair
  have HM := Lib.hid hm
  clear hm
  go_enter Tryd.func10, Tryd.ntmps10
  go_wp2_with fail
  have q0 := Below.refl w.heap.size w
  refine (hd_odd ⟨#[32, 97, 58, 32, 98, 13, 10]⟩ _ (by decide) (HM.out.ret q0) nmO0).mono ?_
  rintro e w1 ⟨rfl, hb⟩
  have q1 := q0.trans (hb.mono q0.size)
  clear hb q0
  go_wp2_with fail
  refine (hd_odd ⟨#[97, 32, 98, 58, 32, 99, 13, 10]⟩ _ (by decide) (HM.out.ret q1) nmO1).mono ?_
  rintro e w2 ⟨rfl, hb⟩
  have q2 := q1.trans (hb.mono q1.size)
  clear hb q1
  go_wp2_with fail
  refine (hd_odd ⟨#[97, 58, 32, 98]⟩ _ (by decide) (HM.out.ret q2) nmO2).mono ?_
  rintro e w3 ⟨rfl, hb⟩
  have q3 := q2.trans (hb.mono q2.size)
  clear hb q2
  go_wp2_with fail
  refine (hd_odd ⟨#[13, 10]⟩ _ (by decide) (HM.out.ret q3) nmO3).mono ?_
  rintro e w4 ⟨rfl, hb⟩
  have q4 := q3.trans (hb.mono q3.size)
  clear hb q3
  go_wp2_with fail
  refine (hd_odd ⟨#[97, 58, 32, 98, 10]⟩ _ (by decide) (HM.out.ret q4) nmO4).mono ?_
  rintro e w5 ⟨rfl, hb⟩
  have q5 := q4.trans (hb.mono q4.size)
  clear hb q4
  go_wp2_with fail
  refine (hd_odd ⟨#[97, 13, 10]⟩ _ (by decide) (HM.out.ret q5) nmO5).mono ?_
  rintro e w6 ⟨rfl, hb⟩
  have q6 := q5.trans (hb.mono q5.size)
  clear hb q5
  go_wp2_with fail
  refine (hd_odd ⟨#[97, 58, 32, 98, 13, 99, 13, 10]⟩ _ (by decide) (HM.out.ret q6) nmO6).mono ?_
  rintro e w7 ⟨rfl, hb⟩
  have q7 := q6.trans (hb.mono q6.size)
  clear hb q6
  go_wp2_with fail
  refine (hd_odd ⟨#[58, 32, 120, 13, 10]⟩ _ (by decide) (HM.out.ret q7) nmO7).mono ?_
  rintro e w8 ⟨rfl, hb⟩
  have q8 := q7.trans (hb.mono q7.size)
  clear hb q7
  go_wp2_with fail
  refine (PH.out _ _ _).mono ?_
  rintro e w9 ⟨rfl, hb⟩
  have q9 := q8.trans (hb.mono q8.size)
  clear hb q8
  go_wp2_with fail
  refine (PH.out _ _ _).mono ?_
  rintro e w10 ⟨rfl, hb⟩
  have q10 := q9.trans (hb.mono q9.size)
  clear hb q9
  go_wp2_with fail
  have h : IsPairs (.slice (some ⟨w10.heap.size, 0, none⟩) 2 2) [([116, 114, 97, 110, 115, 102, 101, 114, 45, 101, 110, 99, 111, 100, 105, 110, 103], [99, 104, 117, 110, 107, 101, 100]), ([99, 111, 110, 116, 101, 110, 116, 45, 108, 101, 110, 103, 116, 104], [49])] _ := new_row4 w10 _ _ _ _
  have qa := q10.alloc q10.size (.cells #[.string ⟨#[116, 114, 97, 110, 115, 102, 101, 114, 45, 101, 110, 99, 111, 100, 105, 110, 103]⟩, .string ⟨#[99, 104, 117, 110, 107, 101, 100]⟩, .string ⟨#[99, 111, 110, 116, 101, 110, 116, 45, 108, 101, 110, 103, 116, 104]⟩, .string ⟨#[49]⟩] 52)
  refine (hd_lost _ [([116, 114, 97, 110, 115, 102, 101, 114, 45, 101, 110, 99, 111, 100, 105, 110, 103], [99, 104, 117, 110, 107, 101, 100]), ([99, 111, 110, 116, 101, 110, 116, 45, 108, 101, 110, 103, 116, 104], [49])] _ h (by decide) (by decide) (by decide) nmL0).mono ?_
  rintro e w11 ⟨rfl, hb⟩
  have q11 := qa.trans (hb.mono qa.size)
  clear hb qa h q10
  go_wp2_with fail
  refine (PH.out _ _ _).mono ?_
  rintro e w12 ⟨rfl, hb⟩
  have q12 := q11.trans (hb.mono q11.size)
  clear hb q11
  go_wp2_with fail
  refine (PH.out _ _ _).mono ?_
  rintro e w13 ⟨rfl, hb⟩
  have q13 := q12.trans (hb.mono q12.size)
  clear hb q12
  go_wp2_with fail
  have h : IsPairs (.slice (some ⟨w13.heap.size, 0, none⟩) 2 2) [([99, 111, 110, 116, 101, 110, 116, 45, 108, 101, 110, 103, 116, 104], [49]), ([99, 111, 110, 116, 101, 110, 116, 45, 108, 101, 110, 103, 116, 104], [49])] _ := new_row4 w13 _ _ _ _
  have qa := q13.alloc q13.size (.cells #[.string ⟨#[99, 111, 110, 116, 101, 110, 116, 45, 108, 101, 110, 103, 116, 104]⟩, .string ⟨#[49]⟩, .string ⟨#[99, 111, 110, 116, 101, 110, 116, 45, 108, 101, 110, 103, 116, 104]⟩, .string ⟨#[49]⟩] 52)
  refine (hd_lost _ [([99, 111, 110, 116, 101, 110, 116, 45, 108, 101, 110, 103, 116, 104], [49]), ([99, 111, 110, 116, 101, 110, 116, 45, 108, 101, 110, 103, 116, 104], [49])] _ h (by decide) (by decide) (by decide) nmL1).mono ?_
  rintro e w14 ⟨rfl, hb⟩
  have q14 := qa.trans (hb.mono qa.size)
  clear hb qa h q13
  go_wp2_with fail
  refine (PH.out _ _ _).mono ?_
  rintro e w15 ⟨rfl, hb⟩
  have q15 := q14.trans (hb.mono q14.size)
  clear hb q14
  go_wp2_with fail
  have h : IsPairs (.slice (some ⟨w15.heap.size, 0, none⟩) 1 1) [([99, 111, 110, 116, 101, 110, 116, 45, 108, 101, 110, 103, 116, 104], [45, 49])] _ := new_row2 w15 _ _
  have qa := q15.alloc q15.size (.cells #[.string ⟨#[99, 111, 110, 116, 101, 110, 116, 45, 108, 101, 110, 103, 116, 104]⟩, .string ⟨#[45, 49]⟩] 52)
  refine (hd_lost _ [([99, 111, 110, 116, 101, 110, 116, 45, 108, 101, 110, 103, 116, 104], [45, 49])] _ h (by decide) (by decide) (by decide) nmL2).mono ?_
  rintro e w16 ⟨rfl, hb⟩
  have q16 := qa.trans (hb.mono qa.size)
  clear hb qa h q15
  go_wp2_with fail
  refine (PH.out _ _ _).mono ?_
  rintro e w17 ⟨rfl, hb⟩
  have q17 := q16.trans (hb.mono q16.size)
  clear hb q16
  go_wp2_with fail
  have h : IsPairs (.slice (some ⟨w17.heap.size, 0, none⟩) 1 1) [([116, 114, 97, 110, 115, 102, 101, 114, 45, 101, 110, 99, 111, 100, 105, 110, 103], [103, 122, 105, 112, 44, 32, 99, 104, 117, 110, 107, 101, 100])] _ := new_row2 w17 _ _
  have qa := q17.alloc q17.size (.cells #[.string ⟨#[116, 114, 97, 110, 115, 102, 101, 114, 45, 101, 110, 99, 111, 100, 105, 110, 103]⟩, .string ⟨#[103, 122, 105, 112, 44, 32, 99, 104, 117, 110, 107, 101, 100]⟩] 52)
  refine (hd_lost _ [([116, 114, 97, 110, 115, 102, 101, 114, 45, 101, 110, 99, 111, 100, 105, 110, 103], [103, 122, 105, 112, 44, 32, 99, 104, 117, 110, 107, 101, 100])] _ h (by decide) (by decide) (by decide) nmL3).mono ?_
  rintro e w18 ⟨rfl, hb⟩
  have q18 := qa.trans (hb.mono qa.size)
  clear hb qa h q17
  go_wp2_with fail
  refine (PH.out _ _ _).mono ?_
  rintro e w19 ⟨rfl, hb⟩
  have q19 := q18.trans (hb.mono q18.size)
  clear hb q18
  go_wp2_with fail
  have h : IsPairs (.slice (some ⟨w19.heap.size, 0, none⟩) 1 1) [([84, 114, 97, 110, 115, 102, 101, 114, 45, 69, 110, 99, 111, 100, 105, 110, 103], [32, 67, 104, 117, 110, 107, 101, 100, 44])] _ := new_row2 w19 _ _
  have qa := q19.alloc q19.size (.cells #[.string ⟨#[84, 114, 97, 110, 115, 102, 101, 114, 45, 69, 110, 99, 111, 100, 105, 110, 103]⟩, .string ⟨#[32, 67, 104, 117, 110, 107, 101, 100, 44]⟩] 52)
  refine ((show Calls _ _ _ _ (Ret _ (.bool true)) from by have F := hd_frames 2 0 _ [([84, 114, 97, 110, 115, 102, 101, 114, 45, 69, 110, 99, 111, 100, 105, 110, 103], [32, 67, 104, 117, 110, 107, 101, 100, 44])] _ h (by decide) (by decide) (by decide); rw [decide_eq_true nmF0] at F; exact F)).mono ?_
  rintro e w20 ⟨rfl, hb⟩
  have q20 := qa.trans (hb.mono qa.size)
  clear hb qa h q19
  go_wp2_with fail
  refine ((show Calls _ _ _ _ (Ret _ (.bool true)) from by have F := hd_frames 0 0 _ [] w20 (IsPairs.nil _) (by decide) (by decide) (by decide); rw [decide_eq_true nmF1] at F; exact F)).mono ?_
  rintro e w21 ⟨rfl, hb⟩
  have q21 := q20.trans (hb.mono q20.size)
  clear hb q20
  go_wp2_with fail
  go_loopw [3, 4] (fun x y wr => ∃ (k : Nat) (X : ByteArray), k ≤ 33 ∧ x = .string X ∧ X.data.toList = rep k ∧ y = .int .i64 k ∧ wr = w21) (fun _ y _ => 33 - (intOf y).toNat)
  case atStart => exact ⟨0, ⟨#[]⟩, by decide, rfl, rfl, rfl, rfl⟩
  case round =>
    obtain ⟨k, X, hk, rfl, hX, rfl, rfl⟩ := hrel
    have hz : X.size = 5 * k := by rw [← size_toList, hX, rep_len]
    by_cases hlt : k < 33
    · have g1 : (k : Int) < 33 := by omega
      have g2 : ¬ 9223372036854775807 < X.size + 5 := by omega
      have HX := Lib.hid hX
      clear hX
      go_wp2_with fail
      go_roundw
      case rel => exact ⟨k + 1, X ++ ⟨#[97, 58, 98, 13, 10]⟩, by omega, by rfl, by rw [show rep (k + 1) = rep k ++ [97, 58, 98, 13, 10] from rfl, ← HX.out]; simp, by go_num, by first | rfl | trivial⟩
      case measure => simp [intOf]; omega
    · obtain rfl : k = 33 := by omega
      have HX := Lib.hid hX
      clear hX
      have hz5 : X.size = 165 := by omega
      clear hz hlt hk
      have P1 := hd_Parse X wr (by omega) (HM.out.ret q21)
      unfold HdIs at P1
      rw [HX.out, nmP0, hdE_bad (by rw [nmP0]; decide)] at P1
      go_wp2_with fail
      refine (P1).mono ?_
      rintro e w22 ⟨u1, rfl, hu1, hb⟩
      have q22 := q21.trans (hb.mono q21.size)
      clear hb q21
      clear hu1 P1
      go_wp2_with fail
      have hY : (X.extract 5 165).data.toList = (rep 33).drop 5 := by
        have h5 := ext_tail X 5
        rw [hz5] at h5
        rw [h5, HX.out]
      generalize X.extract 5 165 = Y at hY ⊢
      have P2 := hd_Parse Y w22 (by rw [← size_toList, hY]; decide) (HM.out.ret q22)
      unfold HdIs at P2
      rw [hY, nmP1.1] at P2
      have hLl := nmP1.2
      generalize hdV ((rep 33).drop 5) = L at P2 hLl
      refine (P2).mono ?_
      rintro e w23 ⟨u2, rfl, hu2, hb⟩
      have q23 := q22.trans (hb.mono q22.size)
      clear hb q22
      obtain ⟨a2, c2, rfl⟩ := hu2.form
      rw [hLl]
      clear hu2 P2
      go_wp2_with fail
      refine (PH.out _ _ _).mono ?_
      rintro e w24 ⟨rfl, hb⟩
      have q24 := q23.trans (hb.mono q23.size)
      clear hb q23
      go_wp2_with fail
      have h : IsPairs (.slice (some ⟨w24.heap.size, 0, none⟩) 1 1) [([67, 111, 110, 110, 101, 99, 116, 105, 111, 110], [120, 44, 32, 67, 76, 79, 83, 69])] _ := new_row2 w24 _ _
      have qa := q24.alloc q24.size (.cells #[.string ⟨#[67, 111, 110, 110, 101, 99, 116, 105, 111, 110]⟩, .string ⟨#[120, 44, 32, 67, 76, 79, 83, 69]⟩] 52)
      refine ((show Calls _ _ _ _ (Ret _ (.tuple #[.bool false, .int .i64 0])) from by have F := hd_Keep _ [([67, 111, 110, 110, 101, 99, 116, 105, 111, 110], [120, 44, 32, 67, 76, 79, 83, 69])] _ h (by decide) (by decide) (by decide); rw [nmK0] at F; exact F)).mono ?_
      rintro e w25 ⟨rfl, hb⟩
      have q25 := qa.trans (hb.mono qa.size)
      clear hb qa h q24
      go_wp2_with fail
      refine (PH.out _ _ _).mono ?_
      rintro e w26 ⟨rfl, hb⟩
      have q26 := q25.trans (hb.mono q25.size)
      clear hb q25
      go_wp2_with fail
      have h : IsPairs (.slice (some ⟨w26.heap.size, 0, none⟩) 1 1) [([99, 111, 110, 110, 101, 99, 116, 105, 111, 110], [107, 101, 101, 112, 45, 97, 108, 105, 118, 101])] _ := new_row2 w26 _ _
      have qa := q26.alloc q26.size (.cells #[.string ⟨#[99, 111, 110, 110, 101, 99, 116, 105, 111, 110]⟩, .string ⟨#[107, 101, 101, 112, 45, 97, 108, 105, 118, 101]⟩] 52)
      refine ((show Calls _ _ _ _ (Ret _ (.tuple #[.bool true, .int .i64 0])) from by have F := hd_Keep _ [([99, 111, 110, 110, 101, 99, 116, 105, 111, 110], [107, 101, 101, 112, 45, 97, 108, 105, 118, 101])] _ h (by decide) (by decide) (by decide); rw [nmK1] at F; exact F)).mono ?_
      rintro e w27 ⟨rfl, hb⟩
      have q27 := qa.trans (hb.mono qa.size)
      clear hb qa h q26
      go_wp2_with fail
      refine (PH.out _ _ _).mono ?_
      rintro e w28 ⟨rfl, hb⟩
      have q28 := q27.trans (hb.mono q27.size)
      clear hb q27
      go_wp2_with fail
      have h : IsPairs (.slice (some ⟨w28.heap.size, 0, none⟩) 1 1) [([99, 111, 110, 110, 101, 99, 116, 105, 111, 110], [97, 32, 98])] _ := new_row2 w28 _ _
      have qa := q28.alloc q28.size (.cells #[.string ⟨#[99, 111, 110, 110, 101, 99, 116, 105, 111, 110]⟩, .string ⟨#[97, 32, 98]⟩] 52)
      refine ((show Calls _ _ _ _ (Ret _ (.tuple #[.bool false, .int .i64 140])) from by have F := hd_Keep _ [([99, 111, 110, 110, 101, 99, 116, 105, 111, 110], [97, 32, 98])] _ h (by decide) (by decide) (by decide); rw [nmK2] at F; exact F)).mono ?_
      rintro e w29 ⟨rfl, hb⟩
      have q29 := qa.trans (hb.mono qa.size)
      clear hb qa h q28
      go_wp2_with fail
      refine (PH.out _ _ _).mono ?_
      rintro e w30 ⟨rfl, hb⟩
      have q30 := q29.trans (hb.mono q29.size)
      clear hb q29
      go_wp2_with fail
      have h : IsPairs (.slice (some ⟨w30.heap.size, 0, none⟩) 1 1) [([104, 111, 115, 116], [65, 46, 101, 120, 97, 109, 112, 108, 101, 58, 53, 50, 56, 48])] _ := new_row2 w30 _ _
      have qa := q30.alloc q30.size (.cells #[.string ⟨#[104, 111, 115, 116]⟩, .string ⟨#[65, 46, 101, 120, 97, 109, 112, 108, 101, 58, 53, 50, 56, 48]⟩] 52)
      refine ((show Calls _ _ _ _ (Ret _ (.tuple #[.string ⟨#[97, 46, 101, 120, 97, 109, 112, 108, 101]⟩, .int .i64 0])) from by have F := hd_Host _ [([104, 111, 115, 116], [65, 46, 101, 120, 97, 109, 112, 108, 101, 58, 53, 50, 56, 48])] _ h (by decide) (by decide) (by decide); rw [nmH0] at F; exact F)).mono ?_
      rintro e w31 ⟨rfl, hb⟩
      have q31 := qa.trans (hb.mono qa.size)
      clear hb qa h q30
      go_wp2_with fail
      refine (PH.out _ _ _).mono ?_
      rintro e w32 ⟨rfl, hb⟩
      have q32 := q31.trans (hb.mono q31.size)
      clear hb q31
      go_wp2_with fail
      have h : IsPairs (.slice (some ⟨w32.heap.size, 0, none⟩) 1 1) [([104, 111, 115, 116], [97, 58, 98])] _ := new_row2 w32 _ _
      have qa := q32.alloc q32.size (.cells #[.string ⟨#[104, 111, 115, 116]⟩, .string ⟨#[97, 58, 98]⟩] 52)
      refine ((show Calls _ _ _ _ (Ret _ (.tuple #[.string ⟨#[]⟩, .int .i64 140])) from by have F := hd_Host _ [([104, 111, 115, 116], [97, 58, 98])] _ h (by decide) (by decide) (by decide); rw [nmH1] at F; exact F)).mono ?_
      rintro e w33 ⟨rfl, hb⟩
      have q33 := qa.trans (hb.mono qa.size)
      clear hb qa h q32
      go_wp2_with fail
      refine ((show Calls _ _ _ _ (Ret _ (.tuple #[.string ⟨#[]⟩, .int .i64 140])) from by have F := hd_Host _ [] w33 (IsPairs.nil _) (by decide) (by decide) (by decide); rw [nmH2] at F; exact F)).mono ?_
      rintro e w34 ⟨rfl, hb⟩
      have q34 := q33.trans (hb.mono q33.size)
      clear hb q33
      go_wp2_with fail
      refine (alive14 _ (HM.out.ret q34)).mono ?_
      rintro e w35 ⟨rfl, hb⟩
      have q35 := q34.trans (hb.mono q34.size)
      clear hb q34
      go_wp2_with fail
      refine ((show Calls _ _ _ _ (Ret _ (.bool true)) from by have F := hd_are ⟨#[]⟩ _ [] w35 (by decide) (IsPairs.nil _) (HM.out.ret q35); rw [decide_eq_true nmA0] at F; exact F)).mono ?_
      rintro e w36 ⟨rfl, hb⟩
      have q36 := q35.trans (hb.mono q35.size)
      clear hb q35
      go_wp2_with fail
      refine (PH.out _ _ _).mono ?_
      rintro e w37 ⟨rfl, hb⟩
      have q37 := q36.trans (hb.mono q36.size)
      clear hb q36
      go_wp2_with fail
      have h : IsPairs (.slice (some ⟨w37.heap.size, 0, none⟩) 1 1) [([97], [98, 32, 99])] _ := new_row2 w37 _ _
      have qa := q37.alloc q37.size (.cells #[.string ⟨#[97]⟩, .string ⟨#[98, 32, 99]⟩] 52)
      refine ((show Calls _ _ _ _ (Ret _ (.bool true)) from by have F := hd_are ⟨#[97, 58, 9, 32, 98, 32, 99, 32, 13, 10]⟩ _ [([97], [98, 32, 99])] _ (by decide) h (HM.out.ret qa); rw [decide_eq_true nmA1] at F; exact F)).mono ?_
      rintro e w38 ⟨rfl, hb⟩
      have q38 := qa.trans (hb.mono qa.size)
      clear hb qa h q37
      go_wp2_with fail
      go_ret
      exact ⟨rfl, q38⟩
end Go.Proofs.YtnfgpcccmbblcaaDoor
