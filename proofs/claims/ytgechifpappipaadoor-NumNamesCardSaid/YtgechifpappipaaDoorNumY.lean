/- The laws NumNames, NumSums, NumVersions, NumBack: the walks. -/
import Derived.Test.YtgechifpappipaaDoorNumX
import Derived.Test.YtgechifpappipaaDoorNumI
import Derived.Test.YtgechifpappipaaDoorNumE
namespace Go.Proofs.YtgechifpappipaaDoor
open Go.RowKit
theorem ret_trans {w w1 w2 : World} (h1 : Below w.heap.size w w1) (h2 : Below w1.heap.size w1 w2) : Below w.heap.size w w2 := h1.trans (h2.mono h1.size)

set_option maxHeartbeats 4000000 in
set_option maxRecDepth 100000 in
theorem names06_walk (w : World) (ht : Tab w) : Calls Tryd.prog 8 #[] w (Ret w (.bool true)) := by
  have L1 : ∀ w, Calls Tryd.prog 17 #[.string ⟨#[45, 49, 50, 56]⟩] w (Ret w (.tuple #[.int .i64 (-128), .int .i64 0])) := fun w => num_Level ⟨#[45, 49, 50, 56]⟩ w (by decide)
  have L2 : ∀ w, Calls Tryd.prog 17 #[.string ⟨#[49, 50, 55]⟩] w (Ret w (.tuple #[.int .i64 127, .int .i64 0])) := fun w => num_Level ⟨#[49, 50, 55]⟩ w (by decide)
  have L3 : ∀ w, Calls Tryd.prog 17 #[.string ⟨#[49, 50, 56]⟩] w (Ret w (.tuple #[.int .i64 0, .int .i64 60])) := fun w => num_Level ⟨#[49, 50, 56]⟩ w (by decide)
  have L4 : ∀ w, Calls Tryd.prog 17 #[.string ⟨#[45, 48]⟩] w (Ret w (.tuple #[.int .i64 0, .int .i64 60])) := fun w => num_Level ⟨#[45, 48]⟩ w (by decide)
  have V1 : ∀ w, Calls Tryd.prog 16 #[.string ⟨#[49, 46, 54]⟩] w (Ret w (.tuple #[.int .i64 1, .int .i64 6, .int .i64 0])) := fun w => num_Version ⟨#[49, 46, 54]⟩ w (by decide)
  have V2 : ∀ w, Calls Tryd.prog 16 #[.string ⟨#[49]⟩] w (Ret w (.tuple #[.int .i64 0, .int .i64 0, .int .i64 60])) := fun w => num_Version ⟨#[49]⟩ w (by decide)
  have V3 : ∀ w, Calls Tryd.prog 16 #[.string ⟨#[49, 46, 48, 54]⟩] w (Ret w (.tuple #[.int .i64 0, .int .i64 0, .int .i64 60])) := fun w => num_Version ⟨#[49, 46, 48, 54]⟩ w (by decide)
  have V4 : ∀ w, Calls Tryd.prog 16 #[.string ⟨#[49, 48, 48, 46, 48]⟩] w (Ret w (.tuple #[.int .i64 0, .int .i64 0, .int .i64 60])) := fun w => num_Version ⟨#[49, 48, 48, 46, 48]⟩ w (by decide)
  have W1 : ∀ w, Calls Tryd.prog 9 #[.int .i64 (-1)] w (Ret w (.tuple #[.string ⟨#[]⟩, .int .i64 2])) := fun w => num_Write_no (-1) (by omega) w
  have S1 : ∀ w, Calls Tryd.prog 11 #[.int .i64 9007199254740991, .int .i64 1] w (Ret w (.tuple #[.int .i64 0, .int .i64 2])) := fun w => num_Sum_no 9007199254740991 1 (by unfold SumOk; omega) w
  have S2 : ∀ w, Calls Tryd.prog 11 #[.int .i64 5, .int .i64 (-5)] w (Ret w (.tuple #[.int .i64 0, .int .i64 0])) := fun w => num_Sum_ok 5 (-5) (by unfold SumOk; omega) w
  have HT := Lib.hid ht
  clear ht
  go_enter Tryd.func8, Tryd.ntmps8
  go_wp2_with fail
  refine (L1 _).mono ?_
  rintro e w1 ⟨rfl, hb1⟩
  go_wp2_with fail
  refine (L2 _).mono ?_
  rintro e w2 ⟨rfl, hb2⟩
  go_wp2_with fail
  refine (L3 _).mono ?_
  rintro e w3 ⟨rfl, hb3⟩
  go_wp2_with fail
  refine (L4 _).mono ?_
  rintro e w4 ⟨rfl, hb4⟩
  go_wp2_with fail
  refine (V1 _).mono ?_
  rintro e w5 ⟨rfl, hb5⟩
  go_wp2_with fail
  refine (V2 _).mono ?_
  rintro e w6 ⟨rfl, hb6⟩
  go_wp2_with fail
  refine (V3 _).mono ?_
  rintro e w7 ⟨rfl, hb7⟩
  go_wp2_with fail
  refine (V4 _).mono ?_
  rintro e w8 ⟨rfl, hb8⟩
  go_wp2_with fail
  refine (W1 _).mono ?_
  rintro e w9 ⟨rfl, hb9⟩
  go_wp2_with fail
  refine (S1 _).mono ?_
  rintro e w10 ⟨rfl, hb10⟩
  go_wp2_with fail
  refine (S2 _).mono ?_
  rintro e w11 ⟨rfl, hb11⟩
  have q := ret_trans (ret_trans (ret_trans (ret_trans (ret_trans (ret_trans (ret_trans (ret_trans (ret_trans (ret_trans hb1 hb2) hb3) hb4) hb5) hb6) hb7) hb8) hb9) hb10) hb11
  clear hb1 hb2 hb3 hb4 hb5 hb6 hb7 hb8 hb9 hb10 hb11
  go_wp2_with fail
  refine (alive06 _ (HT.out.ret q)).mono ?_
  rintro e w12 ⟨rfl, hb12⟩
  go_wp2_with fail
  refine (none_true ⟨#[48, 49]⟩ _ (by decide) (by decide +kernel)).mono ?_
  rintro e w13 ⟨rfl, hb13⟩
  go_wp2_with fail
  refine (none_true ⟨#[43, 49]⟩ _ (by decide) (by decide +kernel)).mono ?_
  rintro e w14 ⟨rfl, hb14⟩
  go_wp2_with fail
  refine (none_true ⟨#[]⟩ _ (by decide) (by decide +kernel)).mono ?_
  rintro e w15 ⟨rfl, hb15⟩
  go_wp2_with fail
  refine (none_true ⟨#[49, 32]⟩ _ (by decide) (by decide +kernel)).mono ?_
  rintro e w16 ⟨rfl, hb16⟩
  go_wp2_with fail
  go_ret
  exact ⟨rfl, ret_trans (ret_trans (ret_trans (ret_trans (ret_trans q hb12) hb13) hb14) hb15) hb16⟩

theorem nodup_point : ∀ (a b c d : List UInt8), a.all isDig = true → c.all isDig = true → a ++ 46 :: b = c ++ 46 :: d → a = c ∧ b = d
  | [], b, [], d, _, _, h => by simpa using h
  | [], b, y :: c, d, _, hc, h => by
    obtain ⟨rfl, _⟩ := List.cons.inj h
    simp [isDig] at hc
  | x :: a, b, [], d, ha, _, h => by
    obtain ⟨rfl, _⟩ := List.cons.inj h
    simp [isDig] at ha
  | x :: a, b, y :: c, d, ha, hc, h => by
    have h' := List.cons.inj h
    simp only [List.all_cons, Bool.and_eq_true] at ha hc
    obtain ⟨e1, e2⟩ := nodup_point a b c d ha.2 hc.2 h'.2
    exact ⟨by rw [h'.1, e1], e2⟩
theorem vs_uniq {i j : Nat} {x : Nat × Nat} (h : vsOf (Lib.decDigits i ++ 46 :: Lib.decDigits j) = some x) : i ≤ 99 ∧ j ≤ 99 := by
  obtain ⟨n, m⟩ := x
  obtain ⟨h1, h2, h3⟩ := vs_back h
  obtain ⟨e1, e2⟩ := nodup_point _ _ _ _ (all_dec n) (all_dec i) h3
  rw [← dec_inj e1, ← dec_inj e2]
  exact ⟨h1, h2⟩
end Go.Proofs.YtgechifpappipaaDoor
