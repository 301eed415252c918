/- The law SubTells: what comes of stanzas is the document's. PRINTED BY PROGRAM (gen_law20.py). -/
import Derived.Test.YtgechifpappipaaSubC
import Derived.Test.YtgechifpappipaaSubD
import Derived.Test.YtgechifpappipaaSubE
import Derived.Test.YtgechifpappipaaRef20
namespace Go.Proofs.Ytgechifpappipaa
open Go.RowKit

theorem find_sent (k : Int) (h : k < 1 ∨ 4 < k) : Instr.findNow (.int .u8) (.int .u8 k) sentMap.toList 0 = some none := by
  have e1 : (k == 1) = false := by simp; omega
  have e2 : (k == 2) = false := by simp; omega
  have e3 : (k == 3) = false := by simp; omega
  have e4 : (k == 4) = false := by simp; omega
  simp [sentMap, entry, Instr.findNow, Instr.sameNow, e1, e2, e3, e4]
theorem find_taken (k : Int) (h : k < 1 ∨ 4 < k) : Instr.findNow (.int .u8) (.int .u8 k) takenMap.toList 0 = some none := by
  have e1 : (k == 1) = false := by simp; omega
  have e2 : (k == 2) = false := by simp; omega
  have e3 : (k == 3) = false := by simp; omega
  have e4 : (k == 4) = false := by simp; omega
  simp [takenMap, entry, Instr.findNow, Instr.sameNow, e1, e2, e3, e4]
attribute [local go_sem ↓] Go.wp_at_zero Go.wp_at_succ

set_option maxHeartbeats 8000000 in
theorem tells1t (a b : Bool) (ho : (a && b || true && false) = false) (w : World) : Calls Try.prog 7 #[.agg #[.bool a, .bool b, .bool true, .bool false], .int .u8 1] w (Ret w (.bool true)) := by
  have HO := Lib.hid ho
  clear ho
  go_enter Try.func7, Try.ntmps7
  go_wp2_with fail
  refine (sub_Send1 _ _ _ _ HO.out _).mono ?_
  rintro e w1 ⟨rfl, hb1⟩
  obtain ⟨hc1, hf1, hz1, hB1⟩ := bfacts (w := w) hb1 (by go_grown)
  (try simp only [World.size_alloc] at hz1)
  (try have z1_0 : w.heap.size < w1.heap.size := (by omega))
  go_wp2_with fail
  refine (ref20_Send1 _ _ _ _ _ HO.out).mono ?_
  rintro e w2 ⟨rfl, hb2⟩
  obtain ⟨hc2, hf2, hz2, hB2⟩ := bfacts (w := w) hb2 (by go_grown)
  (try simp only [World.size_alloc] at hz2)
  (try have z2_0 : w.heap.size < w2.heap.size := (by omega))
  (try have z2_1 : w1.heap.size < w2.heap.size := (by omega))
  go_wp2_with fail
  refine (sub_Take1t _ _ _ HO.out _).mono ?_
  rintro e w3 ⟨rfl, hb3⟩
  obtain ⟨hc3, hf3, hz3, hB3⟩ := bfacts (w := w) hb3 (by go_grown)
  (try simp only [World.size_alloc] at hz3)
  (try have z3_0 : w.heap.size < w3.heap.size := (by omega))
  (try have z3_1 : w1.heap.size < w3.heap.size := (by omega))
  (try have z3_2 : w2.heap.size < w3.heap.size := (by omega))
  go_wp2_with fail
  refine (ref20_Take1t _ _ _ _ HO.out).mono ?_
  rintro e w4 ⟨rfl, hb4⟩
  obtain ⟨hc4, hf4, hz4, hB4⟩ := bfacts (w := w) hb4 (by go_grown)
  (try simp only [World.size_alloc] at hz4)
  (try have z4_0 : w.heap.size < w4.heap.size := (by omega))
  (try have z4_1 : w1.heap.size < w4.heap.size := (by omega))
  (try have z4_2 : w2.heap.size < w4.heap.size := (by omega))
  (try have z4_3 : w3.heap.size < w4.heap.size := (by omega))
  go_wp2_with fail
  refine (sub_Name _ _ _ _ _ HO.out).mono ?_
  rintro e w5 ⟨rfl, hb5⟩
  obtain ⟨hc5, hf5, hz5, hB5⟩ := bfacts (w := w) hb5 (by go_grown)
  (try simp only [World.size_alloc] at hz5)
  (try have z5_0 : w.heap.size < w5.heap.size := (by omega))
  (try have z5_1 : w1.heap.size < w5.heap.size := (by omega))
  (try have z5_2 : w2.heap.size < w5.heap.size := (by omega))
  (try have z5_3 : w3.heap.size < w5.heap.size := (by omega))
  (try have z5_4 : w4.heap.size < w5.heap.size := (by omega))
  go_wp2_with fail
  refine (ref20_Name _ _ _ _ _ HO.out).mono ?_
  rintro e w6 ⟨rfl, hb6⟩
  obtain ⟨hc6, hf6, hz6, hB6⟩ := bfacts (w := w) hb6 (by go_grown)
  (try simp only [World.size_alloc] at hz6)
  (try have z6_0 : w.heap.size < w6.heap.size := (by omega))
  (try have z6_1 : w1.heap.size < w6.heap.size := (by omega))
  (try have z6_2 : w2.heap.size < w6.heap.size := (by omega))
  (try have z6_3 : w3.heap.size < w6.heap.size := (by omega))
  (try have z6_4 : w4.heap.size < w6.heap.size := (by omega))
  (try have z6_5 : w5.heap.size < w6.heap.size := (by omega))
  go_wp2_with fail
  go_region_held3 (fun w' => w'.cell? ⟨w.heap.size, 0, none⟩ = some (.bool a) ∧ w'.cell? ⟨w.heap.size, 1, none⟩ = some (.bool b) ∧ w'.cell? ⟨w.heap.size, 2, none⟩ = some (.bool true) ∧ w'.cell? ⟨w.heap.size, 3, none⟩ = some (.bool false)) (simp (maxDischargeDepth := 9) [go_sem, *])
    (first
      | (go_at_call 11; refine (sub_Check _ _ _ _ _).mono ?_; rw [HO.out]; rintro e w7 ⟨rfl, hb7⟩; obtain ⟨hc7, hf7, hz7, hB7⟩ := bfactsD (w := w) hb7 (by go_grown); have z7 : w.heap.size < w7.heap.size := (by omega))
      | (go_at_call 24; refine (ref20_Check _ _ _ _ _).mono ?_; rw [HO.out]; rintro e w8 ⟨rfl, hb8⟩; obtain ⟨hc8, hf8, hz8, hB8⟩ := bfacts (w := w) hb8 (by go_grown); have z8 : w.heap.size < w8.heap.size := (by omega)))
  all_goals go_wp2
  all_goals go_returns
  all_goals exact ⟨rfl, by go_grown⟩

set_option maxHeartbeats 8000000 in
theorem tells1f (a b d : Bool) (ho : (a && b || false && d) = false) (w : World) : Calls Try.prog 7 #[.agg #[.bool a, .bool b, .bool false, .bool d], .int .u8 1] w (Ret w (.bool true)) := by
  have HO := Lib.hid ho
  clear ho
  go_enter Try.func7, Try.ntmps7
  go_wp2_with fail
  refine (sub_Send1 _ _ _ _ HO.out _).mono ?_
  rintro e w1 ⟨rfl, hb1⟩
  obtain ⟨hc1, hf1, hz1, hB1⟩ := bfacts (w := w) hb1 (by go_grown)
  (try simp only [World.size_alloc] at hz1)
  (try have z1_0 : w.heap.size < w1.heap.size := (by omega))
  go_wp2_with fail
  refine (ref20_Send1 _ _ _ _ _ HO.out).mono ?_
  rintro e w2 ⟨rfl, hb2⟩
  obtain ⟨hc2, hf2, hz2, hB2⟩ := bfacts (w := w) hb2 (by go_grown)
  (try simp only [World.size_alloc] at hz2)
  (try have z2_0 : w.heap.size < w2.heap.size := (by omega))
  (try have z2_1 : w1.heap.size < w2.heap.size := (by omega))
  go_wp2_with fail
  refine (sub_Take1f _ _ _ HO.out _).mono ?_
  rintro e w3 ⟨rfl, hb3⟩
  obtain ⟨hc3, hf3, hz3, hB3⟩ := bfacts (w := w) hb3 (by go_grown)
  (try simp only [World.size_alloc] at hz3)
  (try have z3_0 : w.heap.size < w3.heap.size := (by omega))
  (try have z3_1 : w1.heap.size < w3.heap.size := (by omega))
  (try have z3_2 : w2.heap.size < w3.heap.size := (by omega))
  go_wp2_with fail
  refine (ref20_Take1f _ _ _ _ HO.out).mono ?_
  rintro e w4 ⟨rfl, hb4⟩
  obtain ⟨hc4, hf4, hz4, hB4⟩ := bfacts (w := w) hb4 (by go_grown)
  (try simp only [World.size_alloc] at hz4)
  (try have z4_0 : w.heap.size < w4.heap.size := (by omega))
  (try have z4_1 : w1.heap.size < w4.heap.size := (by omega))
  (try have z4_2 : w2.heap.size < w4.heap.size := (by omega))
  (try have z4_3 : w3.heap.size < w4.heap.size := (by omega))
  go_wp2_with fail
  refine (sub_Name _ _ _ _ _ HO.out).mono ?_
  rintro e w5 ⟨rfl, hb5⟩
  obtain ⟨hc5, hf5, hz5, hB5⟩ := bfacts (w := w) hb5 (by go_grown)
  (try simp only [World.size_alloc] at hz5)
  (try have z5_0 : w.heap.size < w5.heap.size := (by omega))
  (try have z5_1 : w1.heap.size < w5.heap.size := (by omega))
  (try have z5_2 : w2.heap.size < w5.heap.size := (by omega))
  (try have z5_3 : w3.heap.size < w5.heap.size := (by omega))
  (try have z5_4 : w4.heap.size < w5.heap.size := (by omega))
  go_wp2_with fail
  refine (ref20_Name _ _ _ _ _ HO.out).mono ?_
  rintro e w6 ⟨rfl, hb6⟩
  obtain ⟨hc6, hf6, hz6, hB6⟩ := bfacts (w := w) hb6 (by go_grown)
  (try simp only [World.size_alloc] at hz6)
  (try have z6_0 : w.heap.size < w6.heap.size := (by omega))
  (try have z6_1 : w1.heap.size < w6.heap.size := (by omega))
  (try have z6_2 : w2.heap.size < w6.heap.size := (by omega))
  (try have z6_3 : w3.heap.size < w6.heap.size := (by omega))
  (try have z6_4 : w4.heap.size < w6.heap.size := (by omega))
  (try have z6_5 : w5.heap.size < w6.heap.size := (by omega))
  go_wp2_with fail
  go_region_held3 (fun w' => w'.cell? ⟨w.heap.size, 0, none⟩ = some (.bool a) ∧ w'.cell? ⟨w.heap.size, 1, none⟩ = some (.bool b) ∧ w'.cell? ⟨w.heap.size, 2, none⟩ = some (.bool false) ∧ w'.cell? ⟨w.heap.size, 3, none⟩ = some (.bool d)) (simp (maxDischargeDepth := 9) [go_sem, *])
    (first
      | (go_at_call 11; refine (sub_Check _ _ _ _ _).mono ?_; rw [HO.out]; rintro e w7 ⟨rfl, hb7⟩; obtain ⟨hc7, hf7, hz7, hB7⟩ := bfactsD (w := w) hb7 (by go_grown); have z7 : w.heap.size < w7.heap.size := (by omega))
      | (go_at_call 24; refine (ref20_Check _ _ _ _ _).mono ?_; rw [HO.out]; rintro e w8 ⟨rfl, hb8⟩; obtain ⟨hc8, hf8, hz8, hB8⟩ := bfacts (w := w) hb8 (by go_grown); have z8 : w.heap.size < w8.heap.size := (by omega)))
  all_goals go_wp2
  all_goals go_returns
  all_goals exact ⟨rfl, by go_grown⟩

set_option maxHeartbeats 8000000 in
theorem tells2 (a b c d : Bool) (ho : (a && b || c && d) = false) (w : World) : Calls Try.prog 7 #[.agg #[.bool a, .bool b, .bool c, .bool d], .int .u8 2] w (Ret w (.bool true)) := by
  have HO := Lib.hid ho
  clear ho
  go_enter Try.func7, Try.ntmps7
  go_wp2_with fail
  refine (sub_Send2 _ _ _ _ HO.out _).mono ?_
  rintro e w1 ⟨rfl, hb1⟩
  obtain ⟨hc1, hf1, hz1, hB1⟩ := bfacts (w := w) hb1 (by go_grown)
  (try simp only [World.size_alloc] at hz1)
  (try have z1_0 : w.heap.size < w1.heap.size := (by omega))
  go_wp2_with fail
  refine (ref20_Send2 _ _ _ _ _ HO.out).mono ?_
  rintro e w2 ⟨rfl, hb2⟩
  obtain ⟨hc2, hf2, hz2, hB2⟩ := bfacts (w := w) hb2 (by go_grown)
  (try simp only [World.size_alloc] at hz2)
  (try have z2_0 : w.heap.size < w2.heap.size := (by omega))
  (try have z2_1 : w1.heap.size < w2.heap.size := (by omega))
  go_wp2_with fail
  refine (sub_Take2 _ _ _ _ HO.out _).mono ?_
  rintro e w3 ⟨rfl, hb3⟩
  obtain ⟨hc3, hf3, hz3, hB3⟩ := bfacts (w := w) hb3 (by go_grown)
  (try simp only [World.size_alloc] at hz3)
  (try have z3_0 : w.heap.size < w3.heap.size := (by omega))
  (try have z3_1 : w1.heap.size < w3.heap.size := (by omega))
  (try have z3_2 : w2.heap.size < w3.heap.size := (by omega))
  go_wp2_with fail
  refine (ref20_Take2 _ _ _ _ _ HO.out).mono ?_
  rintro e w4 ⟨rfl, hb4⟩
  obtain ⟨hc4, hf4, hz4, hB4⟩ := bfacts (w := w) hb4 (by go_grown)
  (try simp only [World.size_alloc] at hz4)
  (try have z4_0 : w.heap.size < w4.heap.size := (by omega))
  (try have z4_1 : w1.heap.size < w4.heap.size := (by omega))
  (try have z4_2 : w2.heap.size < w4.heap.size := (by omega))
  (try have z4_3 : w3.heap.size < w4.heap.size := (by omega))
  go_wp2_with fail
  refine (sub_Name _ _ _ _ _ HO.out).mono ?_
  rintro e w5 ⟨rfl, hb5⟩
  obtain ⟨hc5, hf5, hz5, hB5⟩ := bfacts (w := w) hb5 (by go_grown)
  (try simp only [World.size_alloc] at hz5)
  (try have z5_0 : w.heap.size < w5.heap.size := (by omega))
  (try have z5_1 : w1.heap.size < w5.heap.size := (by omega))
  (try have z5_2 : w2.heap.size < w5.heap.size := (by omega))
  (try have z5_3 : w3.heap.size < w5.heap.size := (by omega))
  (try have z5_4 : w4.heap.size < w5.heap.size := (by omega))
  go_wp2_with fail
  refine (ref20_Name _ _ _ _ _ HO.out).mono ?_
  rintro e w6 ⟨rfl, hb6⟩
  obtain ⟨hc6, hf6, hz6, hB6⟩ := bfacts (w := w) hb6 (by go_grown)
  (try simp only [World.size_alloc] at hz6)
  (try have z6_0 : w.heap.size < w6.heap.size := (by omega))
  (try have z6_1 : w1.heap.size < w6.heap.size := (by omega))
  (try have z6_2 : w2.heap.size < w6.heap.size := (by omega))
  (try have z6_3 : w3.heap.size < w6.heap.size := (by omega))
  (try have z6_4 : w4.heap.size < w6.heap.size := (by omega))
  (try have z6_5 : w5.heap.size < w6.heap.size := (by omega))
  go_wp2_with fail
  go_region_held3 (fun w' => w'.cell? ⟨w.heap.size, 0, none⟩ = some (.bool a) ∧ w'.cell? ⟨w.heap.size, 1, none⟩ = some (.bool b) ∧ w'.cell? ⟨w.heap.size, 2, none⟩ = some (.bool c) ∧ w'.cell? ⟨w.heap.size, 3, none⟩ = some (.bool d)) (simp (maxDischargeDepth := 9) [go_sem, *])
    (first
      | (go_at_call 11; refine (sub_Check _ _ _ _ _).mono ?_; rw [HO.out]; rintro e w7 ⟨rfl, hb7⟩; obtain ⟨hc7, hf7, hz7, hB7⟩ := bfactsD (w := w) hb7 (by go_grown); have z7 : w.heap.size < w7.heap.size := (by omega))
      | (go_at_call 24; refine (ref20_Check _ _ _ _ _).mono ?_; rw [HO.out]; rintro e w8 ⟨rfl, hb8⟩; obtain ⟨hc8, hf8, hz8, hB8⟩ := bfacts (w := w) hb8 (by go_grown); have z8 : w.heap.size < w8.heap.size := (by omega)))
  all_goals go_wp2
  all_goals go_returns
  all_goals exact ⟨rfl, by go_grown⟩

set_option maxHeartbeats 8000000 in
theorem tells3 (a b c d : Bool) (ho : (a && b || c && d) = false) (w : World) : Calls Try.prog 7 #[.agg #[.bool a, .bool b, .bool c, .bool d], .int .u8 3] w (Ret w (.bool true)) := by
  have HO := Lib.hid ho
  clear ho
  go_enter Try.func7, Try.ntmps7
  go_wp2_with fail
  refine (sub_Send3 _ _ _ _ HO.out _).mono ?_
  rintro e w1 ⟨rfl, hb1⟩
  obtain ⟨hc1, hf1, hz1, hB1⟩ := bfacts (w := w) hb1 (by go_grown)
  (try simp only [World.size_alloc] at hz1)
  (try have z1_0 : w.heap.size < w1.heap.size := (by omega))
  go_wp2_with fail
  refine (ref20_Send3 _ _ _ _ _ HO.out).mono ?_
  rintro e w2 ⟨rfl, hb2⟩
  obtain ⟨hc2, hf2, hz2, hB2⟩ := bfacts (w := w) hb2 (by go_grown)
  (try simp only [World.size_alloc] at hz2)
  (try have z2_0 : w.heap.size < w2.heap.size := (by omega))
  (try have z2_1 : w1.heap.size < w2.heap.size := (by omega))
  go_wp2_with fail
  refine (sub_Take3 _ _ _ _ HO.out _).mono ?_
  rintro e w3 ⟨rfl, hb3⟩
  obtain ⟨hc3, hf3, hz3, hB3⟩ := bfacts (w := w) hb3 (by go_grown)
  (try simp only [World.size_alloc] at hz3)
  (try have z3_0 : w.heap.size < w3.heap.size := (by omega))
  (try have z3_1 : w1.heap.size < w3.heap.size := (by omega))
  (try have z3_2 : w2.heap.size < w3.heap.size := (by omega))
  go_wp2_with fail
  refine (ref20_Take3 _ _ _ _ _ HO.out).mono ?_
  rintro e w4 ⟨rfl, hb4⟩
  obtain ⟨hc4, hf4, hz4, hB4⟩ := bfacts (w := w) hb4 (by go_grown)
  (try simp only [World.size_alloc] at hz4)
  (try have z4_0 : w.heap.size < w4.heap.size := (by omega))
  (try have z4_1 : w1.heap.size < w4.heap.size := (by omega))
  (try have z4_2 : w2.heap.size < w4.heap.size := (by omega))
  (try have z4_3 : w3.heap.size < w4.heap.size := (by omega))
  go_wp2_with fail
  refine (sub_Name _ _ _ _ _ HO.out).mono ?_
  rintro e w5 ⟨rfl, hb5⟩
  obtain ⟨hc5, hf5, hz5, hB5⟩ := bfacts (w := w) hb5 (by go_grown)
  (try simp only [World.size_alloc] at hz5)
  (try have z5_0 : w.heap.size < w5.heap.size := (by omega))
  (try have z5_1 : w1.heap.size < w5.heap.size := (by omega))
  (try have z5_2 : w2.heap.size < w5.heap.size := (by omega))
  (try have z5_3 : w3.heap.size < w5.heap.size := (by omega))
  (try have z5_4 : w4.heap.size < w5.heap.size := (by omega))
  go_wp2_with fail
  refine (ref20_Name _ _ _ _ _ HO.out).mono ?_
  rintro e w6 ⟨rfl, hb6⟩
  obtain ⟨hc6, hf6, hz6, hB6⟩ := bfacts (w := w) hb6 (by go_grown)
  (try simp only [World.size_alloc] at hz6)
  (try have z6_0 : w.heap.size < w6.heap.size := (by omega))
  (try have z6_1 : w1.heap.size < w6.heap.size := (by omega))
  (try have z6_2 : w2.heap.size < w6.heap.size := (by omega))
  (try have z6_3 : w3.heap.size < w6.heap.size := (by omega))
  (try have z6_4 : w4.heap.size < w6.heap.size := (by omega))
  (try have z6_5 : w5.heap.size < w6.heap.size := (by omega))
  go_wp2_with fail
  go_region_held3 (fun w' => w'.cell? ⟨w.heap.size, 0, none⟩ = some (.bool a) ∧ w'.cell? ⟨w.heap.size, 1, none⟩ = some (.bool b) ∧ w'.cell? ⟨w.heap.size, 2, none⟩ = some (.bool c) ∧ w'.cell? ⟨w.heap.size, 3, none⟩ = some (.bool d)) (simp (maxDischargeDepth := 9) [go_sem, *])
    (first
      | (go_at_call 11; refine (sub_Check _ _ _ _ _).mono ?_; rw [HO.out]; rintro e w7 ⟨rfl, hb7⟩; obtain ⟨hc7, hf7, hz7, hB7⟩ := bfactsD (w := w) hb7 (by go_grown); have z7 : w.heap.size < w7.heap.size := (by omega))
      | (go_at_call 24; refine (ref20_Check _ _ _ _ _).mono ?_; rw [HO.out]; rintro e w8 ⟨rfl, hb8⟩; obtain ⟨hc8, hf8, hz8, hB8⟩ := bfacts (w := w) hb8 (by go_grown); have z8 : w.heap.size < w8.heap.size := (by omega)))
  all_goals go_wp2
  all_goals go_returns
  all_goals exact ⟨rfl, by go_grown⟩

set_option maxHeartbeats 8000000 in
theorem tells4 (a b c d : Bool) (ho : (a && b || c && d) = false) (w : World) : Calls Try.prog 7 #[.agg #[.bool a, .bool b, .bool c, .bool d], .int .u8 4] w (Ret w (.bool true)) := by
  have HO := Lib.hid ho
  clear ho
  go_enter Try.func7, Try.ntmps7
  go_wp2_with fail
  refine (sub_Send4 _ _ _ _ HO.out _).mono ?_
  rintro e w1 ⟨rfl, hb1⟩
  obtain ⟨hc1, hf1, hz1, hB1⟩ := bfacts (w := w) hb1 (by go_grown)
  (try simp only [World.size_alloc] at hz1)
  (try have z1_0 : w.heap.size < w1.heap.size := (by omega))
  go_wp2_with fail
  refine (ref20_Send4 _ _ _ _ _ HO.out).mono ?_
  rintro e w2 ⟨rfl, hb2⟩
  obtain ⟨hc2, hf2, hz2, hB2⟩ := bfacts (w := w) hb2 (by go_grown)
  (try simp only [World.size_alloc] at hz2)
  (try have z2_0 : w.heap.size < w2.heap.size := (by omega))
  (try have z2_1 : w1.heap.size < w2.heap.size := (by omega))
  go_wp2_with fail
  refine (sub_Take4 _ _ _ _ HO.out _).mono ?_
  rintro e w3 ⟨rfl, hb3⟩
  obtain ⟨hc3, hf3, hz3, hB3⟩ := bfacts (w := w) hb3 (by go_grown)
  (try simp only [World.size_alloc] at hz3)
  (try have z3_0 : w.heap.size < w3.heap.size := (by omega))
  (try have z3_1 : w1.heap.size < w3.heap.size := (by omega))
  (try have z3_2 : w2.heap.size < w3.heap.size := (by omega))
  go_wp2_with fail
  refine (ref20_Take4 _ _ _ _ _ HO.out).mono ?_
  rintro e w4 ⟨rfl, hb4⟩
  obtain ⟨hc4, hf4, hz4, hB4⟩ := bfacts (w := w) hb4 (by go_grown)
  (try simp only [World.size_alloc] at hz4)
  (try have z4_0 : w.heap.size < w4.heap.size := (by omega))
  (try have z4_1 : w1.heap.size < w4.heap.size := (by omega))
  (try have z4_2 : w2.heap.size < w4.heap.size := (by omega))
  (try have z4_3 : w3.heap.size < w4.heap.size := (by omega))
  go_wp2_with fail
  refine (sub_Name _ _ _ _ _ HO.out).mono ?_
  rintro e w5 ⟨rfl, hb5⟩
  obtain ⟨hc5, hf5, hz5, hB5⟩ := bfacts (w := w) hb5 (by go_grown)
  (try simp only [World.size_alloc] at hz5)
  (try have z5_0 : w.heap.size < w5.heap.size := (by omega))
  (try have z5_1 : w1.heap.size < w5.heap.size := (by omega))
  (try have z5_2 : w2.heap.size < w5.heap.size := (by omega))
  (try have z5_3 : w3.heap.size < w5.heap.size := (by omega))
  (try have z5_4 : w4.heap.size < w5.heap.size := (by omega))
  go_wp2_with fail
  refine (ref20_Name _ _ _ _ _ HO.out).mono ?_
  rintro e w6 ⟨rfl, hb6⟩
  obtain ⟨hc6, hf6, hz6, hB6⟩ := bfacts (w := w) hb6 (by go_grown)
  (try simp only [World.size_alloc] at hz6)
  (try have z6_0 : w.heap.size < w6.heap.size := (by omega))
  (try have z6_1 : w1.heap.size < w6.heap.size := (by omega))
  (try have z6_2 : w2.heap.size < w6.heap.size := (by omega))
  (try have z6_3 : w3.heap.size < w6.heap.size := (by omega))
  (try have z6_4 : w4.heap.size < w6.heap.size := (by omega))
  (try have z6_5 : w5.heap.size < w6.heap.size := (by omega))
  go_wp2_with fail
  go_region_held3 (fun w' => w'.cell? ⟨w.heap.size, 0, none⟩ = some (.bool a) ∧ w'.cell? ⟨w.heap.size, 1, none⟩ = some (.bool b) ∧ w'.cell? ⟨w.heap.size, 2, none⟩ = some (.bool c) ∧ w'.cell? ⟨w.heap.size, 3, none⟩ = some (.bool d)) (simp (maxDischargeDepth := 9) [go_sem, *])
    (first
      | (go_at_call 11; refine (sub_Check _ _ _ _ _).mono ?_; rw [HO.out]; rintro e w7 ⟨rfl, hb7⟩; obtain ⟨hc7, hf7, hz7, hB7⟩ := bfactsD (w := w) hb7 (by go_grown); have z7 : w.heap.size < w7.heap.size := (by omega))
      | (go_at_call 24; refine (ref20_Check _ _ _ _ _).mono ?_; rw [HO.out]; rintro e w8 ⟨rfl, hb8⟩; obtain ⟨hc8, hf8, hz8, hB8⟩ := bfacts (w := w) hb8 (by go_grown); have z8 : w.heap.size < w8.heap.size := (by omega)))
  all_goals go_wp2
  all_goals go_returns
  all_goals exact ⟨rfl, by go_grown⟩

set_option maxHeartbeats 8000000 in
theorem tells_bad (a b c d : Bool) (ho : (a && b || c && d) = true) (k : Int) (w : World) : Calls Try.prog 7 #[.agg #[.bool a, .bool b, .bool c, .bool d], .int .u8 k] w (Ret w (.bool true)) := by
  have HO := Lib.hid ho
  clear ho
  go_enter Try.func7, Try.ntmps7
  go_wp2_with fail
  refine (sub_Send_bad _ _ _ _ HO.out _ _).mono ?_
  rintro e w1 ⟨rfl, hb1⟩
  obtain ⟨hc1, hf1, hz1, hB1⟩ := bfacts (w := w) hb1 (by go_grown)
  (try simp only [World.size_alloc] at hz1)
  (try have z1_0 : w.heap.size < w1.heap.size := (by omega))
  go_wp2_with fail
  refine (ref20_Send_bad _ _ _ _ _ _ HO.out).mono ?_
  rintro e w2 ⟨rfl, hb2⟩
  obtain ⟨hc2, hf2, hz2, hB2⟩ := bfacts (w := w) hb2 (by go_grown)
  (try simp only [World.size_alloc] at hz2)
  (try have z2_0 : w.heap.size < w2.heap.size := (by omega))
  (try have z2_1 : w1.heap.size < w2.heap.size := (by omega))
  go_wp2_with fail
  refine (sub_Take_bad _ _ _ _ HO.out _ _).mono ?_
  rintro e w3 ⟨rfl, hb3⟩
  obtain ⟨hc3, hf3, hz3, hB3⟩ := bfacts (w := w) hb3 (by go_grown)
  (try simp only [World.size_alloc] at hz3)
  (try have z3_0 : w.heap.size < w3.heap.size := (by omega))
  (try have z3_1 : w1.heap.size < w3.heap.size := (by omega))
  (try have z3_2 : w2.heap.size < w3.heap.size := (by omega))
  go_wp2_with fail
  refine (ref20_Take_bad _ _ _ _ _ _ HO.out).mono ?_
  rintro e w4 ⟨rfl, hb4⟩
  obtain ⟨hc4, hf4, hz4, hB4⟩ := bfacts (w := w) hb4 (by go_grown)
  (try simp only [World.size_alloc] at hz4)
  (try have z4_0 : w.heap.size < w4.heap.size := (by omega))
  (try have z4_1 : w1.heap.size < w4.heap.size := (by omega))
  (try have z4_2 : w2.heap.size < w4.heap.size := (by omega))
  (try have z4_3 : w3.heap.size < w4.heap.size := (by omega))
  go_wp2_with fail
  refine (sub_Name_bad _ _ _ _ _ HO.out).mono ?_
  rintro e w5 ⟨rfl, hb5⟩
  obtain ⟨hc5, hf5, hz5, hB5⟩ := bfacts (w := w) hb5 (by go_grown)
  (try simp only [World.size_alloc] at hz5)
  (try have z5_0 : w.heap.size < w5.heap.size := (by omega))
  (try have z5_1 : w1.heap.size < w5.heap.size := (by omega))
  (try have z5_2 : w2.heap.size < w5.heap.size := (by omega))
  (try have z5_3 : w3.heap.size < w5.heap.size := (by omega))
  (try have z5_4 : w4.heap.size < w5.heap.size := (by omega))
  go_wp2_with fail
  refine (ref20_Name_bad _ _ _ _ _ HO.out).mono ?_
  rintro e w6 ⟨rfl, hb6⟩
  obtain ⟨hc6, hf6, hz6, hB6⟩ := bfacts (w := w) hb6 (by go_grown)
  (try simp only [World.size_alloc] at hz6)
  (try have z6_0 : w.heap.size < w6.heap.size := (by omega))
  (try have z6_1 : w1.heap.size < w6.heap.size := (by omega))
  (try have z6_2 : w2.heap.size < w6.heap.size := (by omega))
  (try have z6_3 : w3.heap.size < w6.heap.size := (by omega))
  (try have z6_4 : w4.heap.size < w6.heap.size := (by omega))
  (try have z6_5 : w5.heap.size < w6.heap.size := (by omega))
  go_wp2_with fail
  go_region_held3 (fun w' => w'.cell? ⟨w.heap.size, 0, none⟩ = some (.bool a) ∧ w'.cell? ⟨w.heap.size, 1, none⟩ = some (.bool b) ∧ w'.cell? ⟨w.heap.size, 2, none⟩ = some (.bool c) ∧ w'.cell? ⟨w.heap.size, 3, none⟩ = some (.bool d)) (simp (maxDischargeDepth := 9) [go_sem, *])
    (first
      | (go_at_call 11; refine (sub_Check _ _ _ _ _).mono ?_; rw [HO.out]; rintro e w7 ⟨rfl, hb7⟩; obtain ⟨hc7, hf7, hz7, hB7⟩ := bfactsD (w := w) hb7 (by go_grown); have z7 : w.heap.size < w7.heap.size := (by omega))
      | (go_at_call 24; refine (ref20_Check _ _ _ _ _).mono ?_; rw [HO.out]; rintro e w8 ⟨rfl, hb8⟩; obtain ⟨hc8, hf8, hz8, hB8⟩ := bfacts (w := w) hb8 (by go_grown); have z8 : w.heap.size < w8.heap.size := (by omega)))
  all_goals go_wp2
  all_goals go_returns
  all_goals exact ⟨rfl, by go_grown⟩

set_option maxHeartbeats 8000000 in
theorem tells_not (a b c d : Bool) (ho : (a && b || c && d) = false) (k : Int) (h : k < 1 ∨ 4 < k) (w : World) : Calls Try.prog 7 #[.agg #[.bool a, .bool b, .bool c, .bool d], .int .u8 k] w (Ret w (.bool true)) := by
  have HO := Lib.hid ho
  clear ho
  have HK := Lib.hid h
  clear h
  go_enter Try.func7, Try.ntmps7
  go_wp2_with fail
  refine (sub_Send_not _ _ _ _ HO.out _ (find_sent _ HK.out) _).mono ?_
  rintro e w1 ⟨rfl, hb1⟩
  obtain ⟨hc1, hf1, hz1, hB1⟩ := bfacts (w := w) hb1 (by go_grown)
  (try simp only [World.size_alloc] at hz1)
  (try have z1_0 : w.heap.size < w1.heap.size := (by omega))
  go_wp2_with fail
  refine (ref20_Send_not _ _ _ _ _ _ HO.out HK.out).mono ?_
  rintro e w2 ⟨rfl, hb2⟩
  obtain ⟨hc2, hf2, hz2, hB2⟩ := bfacts (w := w) hb2 (by go_grown)
  (try simp only [World.size_alloc] at hz2)
  (try have z2_0 : w.heap.size < w2.heap.size := (by omega))
  (try have z2_1 : w1.heap.size < w2.heap.size := (by omega))
  go_wp2_with fail
  refine (sub_Take_not _ _ _ _ HO.out _ (find_taken _ HK.out) _).mono ?_
  rintro e w3 ⟨rfl, hb3⟩
  obtain ⟨hc3, hf3, hz3, hB3⟩ := bfacts (w := w) hb3 (by go_grown)
  (try simp only [World.size_alloc] at hz3)
  (try have z3_0 : w.heap.size < w3.heap.size := (by omega))
  (try have z3_1 : w1.heap.size < w3.heap.size := (by omega))
  (try have z3_2 : w2.heap.size < w3.heap.size := (by omega))
  go_wp2_with fail
  refine (ref20_Take_not _ _ _ _ _ _ HO.out HK.out).mono ?_
  rintro e w4 ⟨rfl, hb4⟩
  obtain ⟨hc4, hf4, hz4, hB4⟩ := bfacts (w := w) hb4 (by go_grown)
  (try simp only [World.size_alloc] at hz4)
  (try have z4_0 : w.heap.size < w4.heap.size := (by omega))
  (try have z4_1 : w1.heap.size < w4.heap.size := (by omega))
  (try have z4_2 : w2.heap.size < w4.heap.size := (by omega))
  (try have z4_3 : w3.heap.size < w4.heap.size := (by omega))
  go_wp2_with fail
  refine (sub_Name _ _ _ _ _ HO.out).mono ?_
  rintro e w5 ⟨rfl, hb5⟩
  obtain ⟨hc5, hf5, hz5, hB5⟩ := bfacts (w := w) hb5 (by go_grown)
  (try simp only [World.size_alloc] at hz5)
  (try have z5_0 : w.heap.size < w5.heap.size := (by omega))
  (try have z5_1 : w1.heap.size < w5.heap.size := (by omega))
  (try have z5_2 : w2.heap.size < w5.heap.size := (by omega))
  (try have z5_3 : w3.heap.size < w5.heap.size := (by omega))
  (try have z5_4 : w4.heap.size < w5.heap.size := (by omega))
  go_wp2_with fail
  refine (ref20_Name _ _ _ _ _ HO.out).mono ?_
  rintro e w6 ⟨rfl, hb6⟩
  obtain ⟨hc6, hf6, hz6, hB6⟩ := bfacts (w := w) hb6 (by go_grown)
  (try simp only [World.size_alloc] at hz6)
  (try have z6_0 : w.heap.size < w6.heap.size := (by omega))
  (try have z6_1 : w1.heap.size < w6.heap.size := (by omega))
  (try have z6_2 : w2.heap.size < w6.heap.size := (by omega))
  (try have z6_3 : w3.heap.size < w6.heap.size := (by omega))
  (try have z6_4 : w4.heap.size < w6.heap.size := (by omega))
  (try have z6_5 : w5.heap.size < w6.heap.size := (by omega))
  go_wp2_with fail
  go_region_held3 (fun w' => w'.cell? ⟨w.heap.size, 0, none⟩ = some (.bool a) ∧ w'.cell? ⟨w.heap.size, 1, none⟩ = some (.bool b) ∧ w'.cell? ⟨w.heap.size, 2, none⟩ = some (.bool c) ∧ w'.cell? ⟨w.heap.size, 3, none⟩ = some (.bool d)) (simp (maxDischargeDepth := 9) [go_sem, *])
    (first
      | (go_at_call 11; refine (sub_Check _ _ _ _ _).mono ?_; rw [HO.out]; rintro e w7 ⟨rfl, hb7⟩; obtain ⟨hc7, hf7, hz7, hB7⟩ := bfactsD (w := w) hb7 (by go_grown); have z7 : w.heap.size < w7.heap.size := (by omega))
      | (go_at_call 24; refine (ref20_Check _ _ _ _ _).mono ?_; rw [HO.out]; rintro e w8 ⟨rfl, hb8⟩; obtain ⟨hc8, hf8, hz8, hB8⟩ := bfacts (w := w) hb8 (by go_grown); have z8 : w.heap.size < w8.heap.size := (by omega)))
  all_goals go_wp2
  all_goals go_returns
  all_goals exact ⟨rfl, by go_grown⟩

theorem tells_walk (a b c d : Bool) (k : Int) (w : World) : Calls Try.prog 7 #[.agg #[.bool a, .bool b, .bool c, .bool d], .int .u8 k] w (Ret w (.bool true)) := by
  cases ho : (a && b || c && d)
  · by_cases h1 : k < 1
    · exact tells_not a b c d ho k (.inl h1) w
    by_cases h4 : 4 < k
    · exact tells_not a b c d ho k (.inr h4) w
    obtain rfl | rfl | rfl | rfl : k = 1 ∨ k = 2 ∨ k = 3 ∨ k = 4 := by omega
    · cases c
      · exact tells1f a b d ho w
      · cases d
        · exact tells1t a b ho w
        · simp at ho
    · exact tells2 a b c d ho w
    · exact tells3 a b c d ho w
    · exact tells4 a b c d ho w
  · exact tells_bad a b c d ho k w

end Go.Proofs.Ytgechifpappipaa
