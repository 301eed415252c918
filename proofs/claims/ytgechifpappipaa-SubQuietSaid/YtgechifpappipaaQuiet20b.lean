/- The law SubQuiet, second half. PRINTED BY PROGRAM (gen_out20b.py). -/
import Derived.Test.YtgechifpappipaaAlive20
namespace Go.Proofs.Ytgechifpappipaa
open Go.RowKit
attribute [local go_sem ↓] Go.wp_at_zero Go.wp_at_succ

set_option maxRecDepth 100000 in
set_option maxHeartbeats 4000000 in
theorem quiet3_0000 (w : World) : Calls Try.prog 4 #[.agg #[.bool false, .bool false, .bool false, .bool false], .int .u8 3] w (Ret w (.bool true)) := by
  go_enter Try.func4, Try.ntmps4
  go_wp2_with fail
  refine (alive20 _).mono ?_
  rintro e w1 ⟨rfl, hb1⟩
  obtain ⟨hc1, hf1, hz1, hB1⟩ := bfacts (w := w) hb1 (by go_grown)
  (try simp only [World.size_alloc] at hz1)
  (try have z1_0 : w.heap.size < w1.heap.size := (by omega))
  (try have z1_1 : w1.heap.size < w1.heap.size := (by omega))
  (try have z1_2 : w2.heap.size < w1.heap.size := (by omega))
  (try have z1_3 : w3.heap.size < w1.heap.size := (by omega))
  (try have z1_4 : w4.heap.size < w1.heap.size := (by omega))
  go_wp2_with fail
  refine (sub_Send3 false false false false rfl _).mono ?_
  rintro e w2 ⟨rfl, hb2⟩
  obtain ⟨hc2, hf2, hz2, hB2⟩ := bfacts (w := w) hb2 (by go_grown)
  (try simp only [World.size_alloc] at hz2)
  (try have z2_0 : w.heap.size < w2.heap.size := (by omega))
  (try have z2_1 : w1.heap.size < w2.heap.size := (by omega))
  (try have z2_2 : w2.heap.size < w2.heap.size := (by omega))
  (try have z2_3 : w3.heap.size < w2.heap.size := (by omega))
  (try have z2_4 : w4.heap.size < w2.heap.size := (by omega))
  go_wp2_with fail
  refine (sub_Take3 false false false false rfl _).mono ?_
  rintro e w3 ⟨rfl, hb3⟩
  obtain ⟨hc3, hf3, hz3, hB3⟩ := bfacts (w := w) hb3 (by go_grown)
  (try simp only [World.size_alloc] at hz3)
  (try have z3_0 : w.heap.size < w3.heap.size := (by omega))
  (try have z3_1 : w1.heap.size < w3.heap.size := (by omega))
  (try have z3_2 : w2.heap.size < w3.heap.size := (by omega))
  (try have z3_3 : w3.heap.size < w3.heap.size := (by omega))
  (try have z3_4 : w4.heap.size < w3.heap.size := (by omega))
  go_wp2_with fail
  refine (sub_Send3 false false false false rfl _).mono ?_
  rintro e w4 ⟨rfl, hb4⟩
  obtain ⟨hc4, hf4, hz4, hB4⟩ := bfacts (w := w) hb4 (by go_grown)
  (try simp only [World.size_alloc] at hz4)
  (try have z4_0 : w.heap.size < w4.heap.size := (by omega))
  (try have z4_1 : w1.heap.size < w4.heap.size := (by omega))
  (try have z4_2 : w2.heap.size < w4.heap.size := (by omega))
  (try have z4_3 : w3.heap.size < w4.heap.size := (by omega))
  (try have z4_4 : w4.heap.size < w4.heap.size := (by omega))
  go_wp2_with fail
  refine (sub_Take3 false false false false rfl _).mono ?_
  rintro e w5 ⟨rfl, hb5⟩
  obtain ⟨hc5, hf5, hz5, hB5⟩ := bfacts (w := w) hb5 (by go_grown)
  (try simp only [World.size_alloc] at hz5)
  (try have z5_0 : w.heap.size < w5.heap.size := (by omega))
  (try have z5_1 : w1.heap.size < w5.heap.size := (by omega))
  (try have z5_2 : w2.heap.size < w5.heap.size := (by omega))
  (try have z5_3 : w3.heap.size < w5.heap.size := (by omega))
  (try have z5_4 : w4.heap.size < w5.heap.size := (by omega))
  go_wp2_with fail
  refine (sub_Check false false false false _).mono ?_
  rintro e w6 ⟨rfl, hb6⟩
  obtain ⟨hc6, hf6, hz6, hB6⟩ := bfacts (w := w) hb6 (by go_grown)
  (try simp only [World.size_alloc] at hz6)
  (try have z6_0 : w.heap.size < w6.heap.size := (by omega))
  (try have z6_1 : w1.heap.size < w6.heap.size := (by omega))
  (try have z6_2 : w2.heap.size < w6.heap.size := (by omega))
  (try have z6_3 : w3.heap.size < w6.heap.size := (by omega))
  (try have z6_4 : w4.heap.size < w6.heap.size := (by omega))
  go_wp2_with fail
  refine (sub_Check false false false false _).mono ?_
  rintro e w7 ⟨rfl, hb7⟩
  obtain ⟨hc7, hf7, hz7, hB7⟩ := bfacts (w := w) hb7 (by go_grown)
  (try simp only [World.size_alloc] at hz7)
  (try have z7_0 : w.heap.size < w7.heap.size := (by omega))
  (try have z7_1 : w1.heap.size < w7.heap.size := (by omega))
  (try have z7_2 : w2.heap.size < w7.heap.size := (by omega))
  (try have z7_3 : w3.heap.size < w7.heap.size := (by omega))
  (try have z7_4 : w4.heap.size < w7.heap.size := (by omega))
  go_wp2_with fail
  go_returns
  exact ⟨rfl, by go_grown⟩

set_option maxRecDepth 100000 in
set_option maxHeartbeats 4000000 in
theorem quiet3_0001 (w : World) : Calls Try.prog 4 #[.agg #[.bool false, .bool false, .bool false, .bool true], .int .u8 3] w (Ret w (.bool true)) := by
  go_enter Try.func4, Try.ntmps4
  go_wp2_with fail
  refine (alive20 _).mono ?_
  rintro e w1 ⟨rfl, hb1⟩
  obtain ⟨hc1, hf1, hz1, hB1⟩ := bfacts (w := w) hb1 (by go_grown)
  (try simp only [World.size_alloc] at hz1)
  (try have z1_0 : w.heap.size < w1.heap.size := (by omega))
  (try have z1_1 : w1.heap.size < w1.heap.size := (by omega))
  (try have z1_2 : w2.heap.size < w1.heap.size := (by omega))
  (try have z1_3 : w3.heap.size < w1.heap.size := (by omega))
  (try have z1_4 : w4.heap.size < w1.heap.size := (by omega))
  go_wp2_with fail
  refine (sub_Send3 false false false true rfl _).mono ?_
  rintro e w2 ⟨rfl, hb2⟩
  obtain ⟨hc2, hf2, hz2, hB2⟩ := bfacts (w := w) hb2 (by go_grown)
  (try simp only [World.size_alloc] at hz2)
  (try have z2_0 : w.heap.size < w2.heap.size := (by omega))
  (try have z2_1 : w1.heap.size < w2.heap.size := (by omega))
  (try have z2_2 : w2.heap.size < w2.heap.size := (by omega))
  (try have z2_3 : w3.heap.size < w2.heap.size := (by omega))
  (try have z2_4 : w4.heap.size < w2.heap.size := (by omega))
  go_wp2_with fail
  refine (sub_Take3 false false false true rfl _).mono ?_
  rintro e w3 ⟨rfl, hb3⟩
  obtain ⟨hc3, hf3, hz3, hB3⟩ := bfacts (w := w) hb3 (by go_grown)
  (try simp only [World.size_alloc] at hz3)
  (try have z3_0 : w.heap.size < w3.heap.size := (by omega))
  (try have z3_1 : w1.heap.size < w3.heap.size := (by omega))
  (try have z3_2 : w2.heap.size < w3.heap.size := (by omega))
  (try have z3_3 : w3.heap.size < w3.heap.size := (by omega))
  (try have z3_4 : w4.heap.size < w3.heap.size := (by omega))
  go_wp2_with fail
  refine (sub_Send3 false false false true rfl _).mono ?_
  rintro e w4 ⟨rfl, hb4⟩
  obtain ⟨hc4, hf4, hz4, hB4⟩ := bfacts (w := w) hb4 (by go_grown)
  (try simp only [World.size_alloc] at hz4)
  (try have z4_0 : w.heap.size < w4.heap.size := (by omega))
  (try have z4_1 : w1.heap.size < w4.heap.size := (by omega))
  (try have z4_2 : w2.heap.size < w4.heap.size := (by omega))
  (try have z4_3 : w3.heap.size < w4.heap.size := (by omega))
  (try have z4_4 : w4.heap.size < w4.heap.size := (by omega))
  go_wp2_with fail
  refine (sub_Take3 false false false false rfl _).mono ?_
  rintro e w5 ⟨rfl, hb5⟩
  obtain ⟨hc5, hf5, hz5, hB5⟩ := bfacts (w := w) hb5 (by go_grown)
  (try simp only [World.size_alloc] at hz5)
  (try have z5_0 : w.heap.size < w5.heap.size := (by omega))
  (try have z5_1 : w1.heap.size < w5.heap.size := (by omega))
  (try have z5_2 : w2.heap.size < w5.heap.size := (by omega))
  (try have z5_3 : w3.heap.size < w5.heap.size := (by omega))
  (try have z5_4 : w4.heap.size < w5.heap.size := (by omega))
  go_wp2_with fail
  refine (sub_Check false false false true _).mono ?_
  rintro e w6 ⟨rfl, hb6⟩
  obtain ⟨hc6, hf6, hz6, hB6⟩ := bfacts (w := w) hb6 (by go_grown)
  (try simp only [World.size_alloc] at hz6)
  (try have z6_0 : w.heap.size < w6.heap.size := (by omega))
  (try have z6_1 : w1.heap.size < w6.heap.size := (by omega))
  (try have z6_2 : w2.heap.size < w6.heap.size := (by omega))
  (try have z6_3 : w3.heap.size < w6.heap.size := (by omega))
  (try have z6_4 : w4.heap.size < w6.heap.size := (by omega))
  go_wp2_with fail
  refine (sub_Check false false false false _).mono ?_
  rintro e w7 ⟨rfl, hb7⟩
  obtain ⟨hc7, hf7, hz7, hB7⟩ := bfacts (w := w) hb7 (by go_grown)
  (try simp only [World.size_alloc] at hz7)
  (try have z7_0 : w.heap.size < w7.heap.size := (by omega))
  (try have z7_1 : w1.heap.size < w7.heap.size := (by omega))
  (try have z7_2 : w2.heap.size < w7.heap.size := (by omega))
  (try have z7_3 : w3.heap.size < w7.heap.size := (by omega))
  (try have z7_4 : w4.heap.size < w7.heap.size := (by omega))
  go_wp2_with fail
  go_returns
  exact ⟨rfl, by go_grown⟩

set_option maxRecDepth 100000 in
set_option maxHeartbeats 4000000 in
theorem quiet3_0010 (w : World) : Calls Try.prog 4 #[.agg #[.bool false, .bool false, .bool true, .bool false], .int .u8 3] w (Ret w (.bool true)) := by
  go_enter Try.func4, Try.ntmps4
  go_wp2_with fail
  refine (alive20 _).mono ?_
  rintro e w1 ⟨rfl, hb1⟩
  obtain ⟨hc1, hf1, hz1, hB1⟩ := bfacts (w := w) hb1 (by go_grown)
  (try simp only [World.size_alloc] at hz1)
  (try have z1_0 : w.heap.size < w1.heap.size := (by omega))
  (try have z1_1 : w1.heap.size < w1.heap.size := (by omega))
  (try have z1_2 : w2.heap.size < w1.heap.size := (by omega))
  (try have z1_3 : w3.heap.size < w1.heap.size := (by omega))
  (try have z1_4 : w4.heap.size < w1.heap.size := (by omega))
  go_wp2_with fail
  refine (sub_Send3 false false true false rfl _).mono ?_
  rintro e w2 ⟨rfl, hb2⟩
  obtain ⟨hc2, hf2, hz2, hB2⟩ := bfacts (w := w) hb2 (by go_grown)
  (try simp only [World.size_alloc] at hz2)
  (try have z2_0 : w.heap.size < w2.heap.size := (by omega))
  (try have z2_1 : w1.heap.size < w2.heap.size := (by omega))
  (try have z2_2 : w2.heap.size < w2.heap.size := (by omega))
  (try have z2_3 : w3.heap.size < w2.heap.size := (by omega))
  (try have z2_4 : w4.heap.size < w2.heap.size := (by omega))
  go_wp2_with fail
  refine (sub_Take3 false false true false rfl _).mono ?_
  rintro e w3 ⟨rfl, hb3⟩
  obtain ⟨hc3, hf3, hz3, hB3⟩ := bfacts (w := w) hb3 (by go_grown)
  (try simp only [World.size_alloc] at hz3)
  (try have z3_0 : w.heap.size < w3.heap.size := (by omega))
  (try have z3_1 : w1.heap.size < w3.heap.size := (by omega))
  (try have z3_2 : w2.heap.size < w3.heap.size := (by omega))
  (try have z3_3 : w3.heap.size < w3.heap.size := (by omega))
  (try have z3_4 : w4.heap.size < w3.heap.size := (by omega))
  go_wp2_with fail
  refine (sub_Send3 false false true false rfl _).mono ?_
  rintro e w4 ⟨rfl, hb4⟩
  obtain ⟨hc4, hf4, hz4, hB4⟩ := bfacts (w := w) hb4 (by go_grown)
  (try simp only [World.size_alloc] at hz4)
  (try have z4_0 : w.heap.size < w4.heap.size := (by omega))
  (try have z4_1 : w1.heap.size < w4.heap.size := (by omega))
  (try have z4_2 : w2.heap.size < w4.heap.size := (by omega))
  (try have z4_3 : w3.heap.size < w4.heap.size := (by omega))
  (try have z4_4 : w4.heap.size < w4.heap.size := (by omega))
  go_wp2_with fail
  refine (sub_Take3 false false false false rfl _).mono ?_
  rintro e w5 ⟨rfl, hb5⟩
  obtain ⟨hc5, hf5, hz5, hB5⟩ := bfacts (w := w) hb5 (by go_grown)
  (try simp only [World.size_alloc] at hz5)
  (try have z5_0 : w.heap.size < w5.heap.size := (by omega))
  (try have z5_1 : w1.heap.size < w5.heap.size := (by omega))
  (try have z5_2 : w2.heap.size < w5.heap.size := (by omega))
  (try have z5_3 : w3.heap.size < w5.heap.size := (by omega))
  (try have z5_4 : w4.heap.size < w5.heap.size := (by omega))
  go_wp2_with fail
  refine (sub_Check false false true false _).mono ?_
  rintro e w6 ⟨rfl, hb6⟩
  obtain ⟨hc6, hf6, hz6, hB6⟩ := bfacts (w := w) hb6 (by go_grown)
  (try simp only [World.size_alloc] at hz6)
  (try have z6_0 : w.heap.size < w6.heap.size := (by omega))
  (try have z6_1 : w1.heap.size < w6.heap.size := (by omega))
  (try have z6_2 : w2.heap.size < w6.heap.size := (by omega))
  (try have z6_3 : w3.heap.size < w6.heap.size := (by omega))
  (try have z6_4 : w4.heap.size < w6.heap.size := (by omega))
  go_wp2_with fail
  refine (sub_Check false false false false _).mono ?_
  rintro e w7 ⟨rfl, hb7⟩
  obtain ⟨hc7, hf7, hz7, hB7⟩ := bfacts (w := w) hb7 (by go_grown)
  (try simp only [World.size_alloc] at hz7)
  (try have z7_0 : w.heap.size < w7.heap.size := (by omega))
  (try have z7_1 : w1.heap.size < w7.heap.size := (by omega))
  (try have z7_2 : w2.heap.size < w7.heap.size := (by omega))
  (try have z7_3 : w3.heap.size < w7.heap.size := (by omega))
  (try have z7_4 : w4.heap.size < w7.heap.size := (by omega))
  go_wp2_with fail
  go_returns
  exact ⟨rfl, by go_grown⟩

set_option maxRecDepth 100000 in
set_option maxHeartbeats 4000000 in
theorem quiet3_0100 (w : World) : Calls Try.prog 4 #[.agg #[.bool false, .bool true, .bool false, .bool false], .int .u8 3] w (Ret w (.bool true)) := by
  go_enter Try.func4, Try.ntmps4
  go_wp2_with fail
  refine (alive20 _).mono ?_
  rintro e w1 ⟨rfl, hb1⟩
  obtain ⟨hc1, hf1, hz1, hB1⟩ := bfacts (w := w) hb1 (by go_grown)
  (try simp only [World.size_alloc] at hz1)
  (try have z1_0 : w.heap.size < w1.heap.size := (by omega))
  (try have z1_1 : w1.heap.size < w1.heap.size := (by omega))
  (try have z1_2 : w2.heap.size < w1.heap.size := (by omega))
  (try have z1_3 : w3.heap.size < w1.heap.size := (by omega))
  (try have z1_4 : w4.heap.size < w1.heap.size := (by omega))
  go_wp2_with fail
  refine (sub_Send3 false true false false rfl _).mono ?_
  rintro e w2 ⟨rfl, hb2⟩
  obtain ⟨hc2, hf2, hz2, hB2⟩ := bfacts (w := w) hb2 (by go_grown)
  (try simp only [World.size_alloc] at hz2)
  (try have z2_0 : w.heap.size < w2.heap.size := (by omega))
  (try have z2_1 : w1.heap.size < w2.heap.size := (by omega))
  (try have z2_2 : w2.heap.size < w2.heap.size := (by omega))
  (try have z2_3 : w3.heap.size < w2.heap.size := (by omega))
  (try have z2_4 : w4.heap.size < w2.heap.size := (by omega))
  go_wp2_with fail
  refine (sub_Take3 false true false false rfl _).mono ?_
  rintro e w3 ⟨rfl, hb3⟩
  obtain ⟨hc3, hf3, hz3, hB3⟩ := bfacts (w := w) hb3 (by go_grown)
  (try simp only [World.size_alloc] at hz3)
  (try have z3_0 : w.heap.size < w3.heap.size := (by omega))
  (try have z3_1 : w1.heap.size < w3.heap.size := (by omega))
  (try have z3_2 : w2.heap.size < w3.heap.size := (by omega))
  (try have z3_3 : w3.heap.size < w3.heap.size := (by omega))
  (try have z3_4 : w4.heap.size < w3.heap.size := (by omega))
  go_wp2_with fail
  refine (sub_Send3 false false false false rfl _).mono ?_
  rintro e w4 ⟨rfl, hb4⟩
  obtain ⟨hc4, hf4, hz4, hB4⟩ := bfacts (w := w) hb4 (by go_grown)
  (try simp only [World.size_alloc] at hz4)
  (try have z4_0 : w.heap.size < w4.heap.size := (by omega))
  (try have z4_1 : w1.heap.size < w4.heap.size := (by omega))
  (try have z4_2 : w2.heap.size < w4.heap.size := (by omega))
  (try have z4_3 : w3.heap.size < w4.heap.size := (by omega))
  (try have z4_4 : w4.heap.size < w4.heap.size := (by omega))
  go_wp2_with fail
  refine (sub_Take3 false true false false rfl _).mono ?_
  rintro e w5 ⟨rfl, hb5⟩
  obtain ⟨hc5, hf5, hz5, hB5⟩ := bfacts (w := w) hb5 (by go_grown)
  (try simp only [World.size_alloc] at hz5)
  (try have z5_0 : w.heap.size < w5.heap.size := (by omega))
  (try have z5_1 : w1.heap.size < w5.heap.size := (by omega))
  (try have z5_2 : w2.heap.size < w5.heap.size := (by omega))
  (try have z5_3 : w3.heap.size < w5.heap.size := (by omega))
  (try have z5_4 : w4.heap.size < w5.heap.size := (by omega))
  go_wp2_with fail
  refine (sub_Check false false false false _).mono ?_
  rintro e w6 ⟨rfl, hb6⟩
  obtain ⟨hc6, hf6, hz6, hB6⟩ := bfacts (w := w) hb6 (by go_grown)
  (try simp only [World.size_alloc] at hz6)
  (try have z6_0 : w.heap.size < w6.heap.size := (by omega))
  (try have z6_1 : w1.heap.size < w6.heap.size := (by omega))
  (try have z6_2 : w2.heap.size < w6.heap.size := (by omega))
  (try have z6_3 : w3.heap.size < w6.heap.size := (by omega))
  (try have z6_4 : w4.heap.size < w6.heap.size := (by omega))
  go_wp2_with fail
  refine (sub_Check false true false false _).mono ?_
  rintro e w7 ⟨rfl, hb7⟩
  obtain ⟨hc7, hf7, hz7, hB7⟩ := bfacts (w := w) hb7 (by go_grown)
  (try simp only [World.size_alloc] at hz7)
  (try have z7_0 : w.heap.size < w7.heap.size := (by omega))
  (try have z7_1 : w1.heap.size < w7.heap.size := (by omega))
  (try have z7_2 : w2.heap.size < w7.heap.size := (by omega))
  (try have z7_3 : w3.heap.size < w7.heap.size := (by omega))
  (try have z7_4 : w4.heap.size < w7.heap.size := (by omega))
  go_wp2_with fail
  go_returns
  exact ⟨rfl, by go_grown⟩

set_option maxRecDepth 100000 in
set_option maxHeartbeats 4000000 in
theorem quiet3_0101 (w : World) : Calls Try.prog 4 #[.agg #[.bool false, .bool true, .bool false, .bool true], .int .u8 3] w (Ret w (.bool true)) := by
  go_enter Try.func4, Try.ntmps4
  go_wp2_with fail
  refine (alive20 _).mono ?_
  rintro e w1 ⟨rfl, hb1⟩
  obtain ⟨hc1, hf1, hz1, hB1⟩ := bfacts (w := w) hb1 (by go_grown)
  (try simp only [World.size_alloc] at hz1)
  (try have z1_0 : w.heap.size < w1.heap.size := (by omega))
  (try have z1_1 : w1.heap.size < w1.heap.size := (by omega))
  (try have z1_2 : w2.heap.size < w1.heap.size := (by omega))
  (try have z1_3 : w3.heap.size < w1.heap.size := (by omega))
  (try have z1_4 : w4.heap.size < w1.heap.size := (by omega))
  go_wp2_with fail
  refine (sub_Send3 false true false true rfl _).mono ?_
  rintro e w2 ⟨rfl, hb2⟩
  obtain ⟨hc2, hf2, hz2, hB2⟩ := bfacts (w := w) hb2 (by go_grown)
  (try simp only [World.size_alloc] at hz2)
  (try have z2_0 : w.heap.size < w2.heap.size := (by omega))
  (try have z2_1 : w1.heap.size < w2.heap.size := (by omega))
  (try have z2_2 : w2.heap.size < w2.heap.size := (by omega))
  (try have z2_3 : w3.heap.size < w2.heap.size := (by omega))
  (try have z2_4 : w4.heap.size < w2.heap.size := (by omega))
  go_wp2_with fail
  refine (sub_Take3 false true false true rfl _).mono ?_
  rintro e w3 ⟨rfl, hb3⟩
  obtain ⟨hc3, hf3, hz3, hB3⟩ := bfacts (w := w) hb3 (by go_grown)
  (try simp only [World.size_alloc] at hz3)
  (try have z3_0 : w.heap.size < w3.heap.size := (by omega))
  (try have z3_1 : w1.heap.size < w3.heap.size := (by omega))
  (try have z3_2 : w2.heap.size < w3.heap.size := (by omega))
  (try have z3_3 : w3.heap.size < w3.heap.size := (by omega))
  (try have z3_4 : w4.heap.size < w3.heap.size := (by omega))
  go_wp2_with fail
  refine (sub_Send3 false false false true rfl _).mono ?_
  rintro e w4 ⟨rfl, hb4⟩
  obtain ⟨hc4, hf4, hz4, hB4⟩ := bfacts (w := w) hb4 (by go_grown)
  (try simp only [World.size_alloc] at hz4)
  (try have z4_0 : w.heap.size < w4.heap.size := (by omega))
  (try have z4_1 : w1.heap.size < w4.heap.size := (by omega))
  (try have z4_2 : w2.heap.size < w4.heap.size := (by omega))
  (try have z4_3 : w3.heap.size < w4.heap.size := (by omega))
  (try have z4_4 : w4.heap.size < w4.heap.size := (by omega))
  go_wp2_with fail
  refine (sub_Take3 false true false false rfl _).mono ?_
  rintro e w5 ⟨rfl, hb5⟩
  obtain ⟨hc5, hf5, hz5, hB5⟩ := bfacts (w := w) hb5 (by go_grown)
  (try simp only [World.size_alloc] at hz5)
  (try have z5_0 : w.heap.size < w5.heap.size := (by omega))
  (try have z5_1 : w1.heap.size < w5.heap.size := (by omega))
  (try have z5_2 : w2.heap.size < w5.heap.size := (by omega))
  (try have z5_3 : w3.heap.size < w5.heap.size := (by omega))
  (try have z5_4 : w4.heap.size < w5.heap.size := (by omega))
  go_wp2_with fail
  refine (sub_Check false false false true _).mono ?_
  rintro e w6 ⟨rfl, hb6⟩
  obtain ⟨hc6, hf6, hz6, hB6⟩ := bfacts (w := w) hb6 (by go_grown)
  (try simp only [World.size_alloc] at hz6)
  (try have z6_0 : w.heap.size < w6.heap.size := (by omega))
  (try have z6_1 : w1.heap.size < w6.heap.size := (by omega))
  (try have z6_2 : w2.heap.size < w6.heap.size := (by omega))
  (try have z6_3 : w3.heap.size < w6.heap.size := (by omega))
  (try have z6_4 : w4.heap.size < w6.heap.size := (by omega))
  go_wp2_with fail
  refine (sub_Check false true false false _).mono ?_
  rintro e w7 ⟨rfl, hb7⟩
  obtain ⟨hc7, hf7, hz7, hB7⟩ := bfacts (w := w) hb7 (by go_grown)
  (try simp only [World.size_alloc] at hz7)
  (try have z7_0 : w.heap.size < w7.heap.size := (by omega))
  (try have z7_1 : w1.heap.size < w7.heap.size := (by omega))
  (try have z7_2 : w2.heap.size < w7.heap.size := (by omega))
  (try have z7_3 : w3.heap.size < w7.heap.size := (by omega))
  (try have z7_4 : w4.heap.size < w7.heap.size := (by omega))
  go_wp2_with fail
  go_returns
  exact ⟨rfl, by go_grown⟩

set_option maxRecDepth 100000 in
set_option maxHeartbeats 4000000 in
theorem quiet3_0110 (w : World) : Calls Try.prog 4 #[.agg #[.bool false, .bool true, .bool true, .bool false], .int .u8 3] w (Ret w (.bool true)) := by
  go_enter Try.func4, Try.ntmps4
  go_wp2_with fail
  refine (alive20 _).mono ?_
  rintro e w1 ⟨rfl, hb1⟩
  obtain ⟨hc1, hf1, hz1, hB1⟩ := bfacts (w := w) hb1 (by go_grown)
  (try simp only [World.size_alloc] at hz1)
  (try have z1_0 : w.heap.size < w1.heap.size := (by omega))
  (try have z1_1 : w1.heap.size < w1.heap.size := (by omega))
  (try have z1_2 : w2.heap.size < w1.heap.size := (by omega))
  (try have z1_3 : w3.heap.size < w1.heap.size := (by omega))
  (try have z1_4 : w4.heap.size < w1.heap.size := (by omega))
  go_wp2_with fail
  refine (sub_Send3 false true true false rfl _).mono ?_
  rintro e w2 ⟨rfl, hb2⟩
  obtain ⟨hc2, hf2, hz2, hB2⟩ := bfacts (w := w) hb2 (by go_grown)
  (try simp only [World.size_alloc] at hz2)
  (try have z2_0 : w.heap.size < w2.heap.size := (by omega))
  (try have z2_1 : w1.heap.size < w2.heap.size := (by omega))
  (try have z2_2 : w2.heap.size < w2.heap.size := (by omega))
  (try have z2_3 : w3.heap.size < w2.heap.size := (by omega))
  (try have z2_4 : w4.heap.size < w2.heap.size := (by omega))
  go_wp2_with fail
  refine (sub_Take3 false true true false rfl _).mono ?_
  rintro e w3 ⟨rfl, hb3⟩
  obtain ⟨hc3, hf3, hz3, hB3⟩ := bfacts (w := w) hb3 (by go_grown)
  (try simp only [World.size_alloc] at hz3)
  (try have z3_0 : w.heap.size < w3.heap.size := (by omega))
  (try have z3_1 : w1.heap.size < w3.heap.size := (by omega))
  (try have z3_2 : w2.heap.size < w3.heap.size := (by omega))
  (try have z3_3 : w3.heap.size < w3.heap.size := (by omega))
  (try have z3_4 : w4.heap.size < w3.heap.size := (by omega))
  go_wp2_with fail
  refine (sub_Send3 false false true false rfl _).mono ?_
  rintro e w4 ⟨rfl, hb4⟩
  obtain ⟨hc4, hf4, hz4, hB4⟩ := bfacts (w := w) hb4 (by go_grown)
  (try simp only [World.size_alloc] at hz4)
  (try have z4_0 : w.heap.size < w4.heap.size := (by omega))
  (try have z4_1 : w1.heap.size < w4.heap.size := (by omega))
  (try have z4_2 : w2.heap.size < w4.heap.size := (by omega))
  (try have z4_3 : w3.heap.size < w4.heap.size := (by omega))
  (try have z4_4 : w4.heap.size < w4.heap.size := (by omega))
  go_wp2_with fail
  refine (sub_Take3 false true false false rfl _).mono ?_
  rintro e w5 ⟨rfl, hb5⟩
  obtain ⟨hc5, hf5, hz5, hB5⟩ := bfacts (w := w) hb5 (by go_grown)
  (try simp only [World.size_alloc] at hz5)
  (try have z5_0 : w.heap.size < w5.heap.size := (by omega))
  (try have z5_1 : w1.heap.size < w5.heap.size := (by omega))
  (try have z5_2 : w2.heap.size < w5.heap.size := (by omega))
  (try have z5_3 : w3.heap.size < w5.heap.size := (by omega))
  (try have z5_4 : w4.heap.size < w5.heap.size := (by omega))
  go_wp2_with fail
  refine (sub_Check false false true false _).mono ?_
  rintro e w6 ⟨rfl, hb6⟩
  obtain ⟨hc6, hf6, hz6, hB6⟩ := bfacts (w := w) hb6 (by go_grown)
  (try simp only [World.size_alloc] at hz6)
  (try have z6_0 : w.heap.size < w6.heap.size := (by omega))
  (try have z6_1 : w1.heap.size < w6.heap.size := (by omega))
  (try have z6_2 : w2.heap.size < w6.heap.size := (by omega))
  (try have z6_3 : w3.heap.size < w6.heap.size := (by omega))
  (try have z6_4 : w4.heap.size < w6.heap.size := (by omega))
  go_wp2_with fail
  refine (sub_Check false true false false _).mono ?_
  rintro e w7 ⟨rfl, hb7⟩
  obtain ⟨hc7, hf7, hz7, hB7⟩ := bfacts (w := w) hb7 (by go_grown)
  (try simp only [World.size_alloc] at hz7)
  (try have z7_0 : w.heap.size < w7.heap.size := (by omega))
  (try have z7_1 : w1.heap.size < w7.heap.size := (by omega))
  (try have z7_2 : w2.heap.size < w7.heap.size := (by omega))
  (try have z7_3 : w3.heap.size < w7.heap.size := (by omega))
  (try have z7_4 : w4.heap.size < w7.heap.size := (by omega))
  go_wp2_with fail
  go_returns
  exact ⟨rfl, by go_grown⟩

set_option maxRecDepth 100000 in
set_option maxHeartbeats 4000000 in
theorem quiet3_1000 (w : World) : Calls Try.prog 4 #[.agg #[.bool true, .bool false, .bool false, .bool false], .int .u8 3] w (Ret w (.bool true)) := by
  go_enter Try.func4, Try.ntmps4
  go_wp2_with fail
  refine (alive20 _).mono ?_
  rintro e w1 ⟨rfl, hb1⟩
  obtain ⟨hc1, hf1, hz1, hB1⟩ := bfacts (w := w) hb1 (by go_grown)
  (try simp only [World.size_alloc] at hz1)
  (try have z1_0 : w.heap.size < w1.heap.size := (by omega))
  (try have z1_1 : w1.heap.size < w1.heap.size := (by omega))
  (try have z1_2 : w2.heap.size < w1.heap.size := (by omega))
  (try have z1_3 : w3.heap.size < w1.heap.size := (by omega))
  (try have z1_4 : w4.heap.size < w1.heap.size := (by omega))
  go_wp2_with fail
  refine (sub_Send3 true false false false rfl _).mono ?_
  rintro e w2 ⟨rfl, hb2⟩
  obtain ⟨hc2, hf2, hz2, hB2⟩ := bfacts (w := w) hb2 (by go_grown)
  (try simp only [World.size_alloc] at hz2)
  (try have z2_0 : w.heap.size < w2.heap.size := (by omega))
  (try have z2_1 : w1.heap.size < w2.heap.size := (by omega))
  (try have z2_2 : w2.heap.size < w2.heap.size := (by omega))
  (try have z2_3 : w3.heap.size < w2.heap.size := (by omega))
  (try have z2_4 : w4.heap.size < w2.heap.size := (by omega))
  go_wp2_with fail
  refine (sub_Take3 true false false false rfl _).mono ?_
  rintro e w3 ⟨rfl, hb3⟩
  obtain ⟨hc3, hf3, hz3, hB3⟩ := bfacts (w := w) hb3 (by go_grown)
  (try simp only [World.size_alloc] at hz3)
  (try have z3_0 : w.heap.size < w3.heap.size := (by omega))
  (try have z3_1 : w1.heap.size < w3.heap.size := (by omega))
  (try have z3_2 : w2.heap.size < w3.heap.size := (by omega))
  (try have z3_3 : w3.heap.size < w3.heap.size := (by omega))
  (try have z3_4 : w4.heap.size < w3.heap.size := (by omega))
  go_wp2_with fail
  refine (sub_Send3 false false false false rfl _).mono ?_
  rintro e w4 ⟨rfl, hb4⟩
  obtain ⟨hc4, hf4, hz4, hB4⟩ := bfacts (w := w) hb4 (by go_grown)
  (try simp only [World.size_alloc] at hz4)
  (try have z4_0 : w.heap.size < w4.heap.size := (by omega))
  (try have z4_1 : w1.heap.size < w4.heap.size := (by omega))
  (try have z4_2 : w2.heap.size < w4.heap.size := (by omega))
  (try have z4_3 : w3.heap.size < w4.heap.size := (by omega))
  (try have z4_4 : w4.heap.size < w4.heap.size := (by omega))
  go_wp2_with fail
  refine (sub_Take3 true false false false rfl _).mono ?_
  rintro e w5 ⟨rfl, hb5⟩
  obtain ⟨hc5, hf5, hz5, hB5⟩ := bfacts (w := w) hb5 (by go_grown)
  (try simp only [World.size_alloc] at hz5)
  (try have z5_0 : w.heap.size < w5.heap.size := (by omega))
  (try have z5_1 : w1.heap.size < w5.heap.size := (by omega))
  (try have z5_2 : w2.heap.size < w5.heap.size := (by omega))
  (try have z5_3 : w3.heap.size < w5.heap.size := (by omega))
  (try have z5_4 : w4.heap.size < w5.heap.size := (by omega))
  go_wp2_with fail
  refine (sub_Check false false false false _).mono ?_
  rintro e w6 ⟨rfl, hb6⟩
  obtain ⟨hc6, hf6, hz6, hB6⟩ := bfacts (w := w) hb6 (by go_grown)
  (try simp only [World.size_alloc] at hz6)
  (try have z6_0 : w.heap.size < w6.heap.size := (by omega))
  (try have z6_1 : w1.heap.size < w6.heap.size := (by omega))
  (try have z6_2 : w2.heap.size < w6.heap.size := (by omega))
  (try have z6_3 : w3.heap.size < w6.heap.size := (by omega))
  (try have z6_4 : w4.heap.size < w6.heap.size := (by omega))
  go_wp2_with fail
  refine (sub_Check true false false false _).mono ?_
  rintro e w7 ⟨rfl, hb7⟩
  obtain ⟨hc7, hf7, hz7, hB7⟩ := bfacts (w := w) hb7 (by go_grown)
  (try simp only [World.size_alloc] at hz7)
  (try have z7_0 : w.heap.size < w7.heap.size := (by omega))
  (try have z7_1 : w1.heap.size < w7.heap.size := (by omega))
  (try have z7_2 : w2.heap.size < w7.heap.size := (by omega))
  (try have z7_3 : w3.heap.size < w7.heap.size := (by omega))
  (try have z7_4 : w4.heap.size < w7.heap.size := (by omega))
  go_wp2_with fail
  go_returns
  exact ⟨rfl, by go_grown⟩

set_option maxRecDepth 100000 in
set_option maxHeartbeats 4000000 in
theorem quiet3_1001 (w : World) : Calls Try.prog 4 #[.agg #[.bool true, .bool false, .bool false, .bool true], .int .u8 3] w (Ret w (.bool true)) := by
  go_enter Try.func4, Try.ntmps4
  go_wp2_with fail
  refine (alive20 _).mono ?_
  rintro e w1 ⟨rfl, hb1⟩
  obtain ⟨hc1, hf1, hz1, hB1⟩ := bfacts (w := w) hb1 (by go_grown)
  (try simp only [World.size_alloc] at hz1)
  (try have z1_0 : w.heap.size < w1.heap.size := (by omega))
  (try have z1_1 : w1.heap.size < w1.heap.size := (by omega))
  (try have z1_2 : w2.heap.size < w1.heap.size := (by omega))
  (try have z1_3 : w3.heap.size < w1.heap.size := (by omega))
  (try have z1_4 : w4.heap.size < w1.heap.size := (by omega))
  go_wp2_with fail
  refine (sub_Send3 true false false true rfl _).mono ?_
  rintro e w2 ⟨rfl, hb2⟩
  obtain ⟨hc2, hf2, hz2, hB2⟩ := bfacts (w := w) hb2 (by go_grown)
  (try simp only [World.size_alloc] at hz2)
  (try have z2_0 : w.heap.size < w2.heap.size := (by omega))
  (try have z2_1 : w1.heap.size < w2.heap.size := (by omega))
  (try have z2_2 : w2.heap.size < w2.heap.size := (by omega))
  (try have z2_3 : w3.heap.size < w2.heap.size := (by omega))
  (try have z2_4 : w4.heap.size < w2.heap.size := (by omega))
  go_wp2_with fail
  refine (sub_Take3 true false false true rfl _).mono ?_
  rintro e w3 ⟨rfl, hb3⟩
  obtain ⟨hc3, hf3, hz3, hB3⟩ := bfacts (w := w) hb3 (by go_grown)
  (try simp only [World.size_alloc] at hz3)
  (try have z3_0 : w.heap.size < w3.heap.size := (by omega))
  (try have z3_1 : w1.heap.size < w3.heap.size := (by omega))
  (try have z3_2 : w2.heap.size < w3.heap.size := (by omega))
  (try have z3_3 : w3.heap.size < w3.heap.size := (by omega))
  (try have z3_4 : w4.heap.size < w3.heap.size := (by omega))
  go_wp2_with fail
  refine (sub_Send3 false false false true rfl _).mono ?_
  rintro e w4 ⟨rfl, hb4⟩
  obtain ⟨hc4, hf4, hz4, hB4⟩ := bfacts (w := w) hb4 (by go_grown)
  (try simp only [World.size_alloc] at hz4)
  (try have z4_0 : w.heap.size < w4.heap.size := (by omega))
  (try have z4_1 : w1.heap.size < w4.heap.size := (by omega))
  (try have z4_2 : w2.heap.size < w4.heap.size := (by omega))
  (try have z4_3 : w3.heap.size < w4.heap.size := (by omega))
  (try have z4_4 : w4.heap.size < w4.heap.size := (by omega))
  go_wp2_with fail
  refine (sub_Take3 true false false false rfl _).mono ?_
  rintro e w5 ⟨rfl, hb5⟩
  obtain ⟨hc5, hf5, hz5, hB5⟩ := bfacts (w := w) hb5 (by go_grown)
  (try simp only [World.size_alloc] at hz5)
  (try have z5_0 : w.heap.size < w5.heap.size := (by omega))
  (try have z5_1 : w1.heap.size < w5.heap.size := (by omega))
  (try have z5_2 : w2.heap.size < w5.heap.size := (by omega))
  (try have z5_3 : w3.heap.size < w5.heap.size := (by omega))
  (try have z5_4 : w4.heap.size < w5.heap.size := (by omega))
  go_wp2_with fail
  refine (sub_Check false false false true _).mono ?_
  rintro e w6 ⟨rfl, hb6⟩
  obtain ⟨hc6, hf6, hz6, hB6⟩ := bfacts (w := w) hb6 (by go_grown)
  (try simp only [World.size_alloc] at hz6)
  (try have z6_0 : w.heap.size < w6.heap.size := (by omega))
  (try have z6_1 : w1.heap.size < w6.heap.size := (by omega))
  (try have z6_2 : w2.heap.size < w6.heap.size := (by omega))
  (try have z6_3 : w3.heap.size < w6.heap.size := (by omega))
  (try have z6_4 : w4.heap.size < w6.heap.size := (by omega))
  go_wp2_with fail
  refine (sub_Check true false false false _).mono ?_
  rintro e w7 ⟨rfl, hb7⟩
  obtain ⟨hc7, hf7, hz7, hB7⟩ := bfacts (w := w) hb7 (by go_grown)
  (try simp only [World.size_alloc] at hz7)
  (try have z7_0 : w.heap.size < w7.heap.size := (by omega))
  (try have z7_1 : w1.heap.size < w7.heap.size := (by omega))
  (try have z7_2 : w2.heap.size < w7.heap.size := (by omega))
  (try have z7_3 : w3.heap.size < w7.heap.size := (by omega))
  (try have z7_4 : w4.heap.size < w7.heap.size := (by omega))
  go_wp2_with fail
  go_returns
  exact ⟨rfl, by go_grown⟩

set_option maxRecDepth 100000 in
set_option maxHeartbeats 4000000 in
theorem quiet3_1010 (w : World) : Calls Try.prog 4 #[.agg #[.bool true, .bool false, .bool true, .bool false], .int .u8 3] w (Ret w (.bool true)) := by
  go_enter Try.func4, Try.ntmps4
  go_wp2_with fail
  refine (alive20 _).mono ?_
  rintro e w1 ⟨rfl, hb1⟩
  obtain ⟨hc1, hf1, hz1, hB1⟩ := bfacts (w := w) hb1 (by go_grown)
  (try simp only [World.size_alloc] at hz1)
  (try have z1_0 : w.heap.size < w1.heap.size := (by omega))
  (try have z1_1 : w1.heap.size < w1.heap.size := (by omega))
  (try have z1_2 : w2.heap.size < w1.heap.size := (by omega))
  (try have z1_3 : w3.heap.size < w1.heap.size := (by omega))
  (try have z1_4 : w4.heap.size < w1.heap.size := (by omega))
  go_wp2_with fail
  refine (sub_Send3 true false true false rfl _).mono ?_
  rintro e w2 ⟨rfl, hb2⟩
  obtain ⟨hc2, hf2, hz2, hB2⟩ := bfacts (w := w) hb2 (by go_grown)
  (try simp only [World.size_alloc] at hz2)
  (try have z2_0 : w.heap.size < w2.heap.size := (by omega))
  (try have z2_1 : w1.heap.size < w2.heap.size := (by omega))
  (try have z2_2 : w2.heap.size < w2.heap.size := (by omega))
  (try have z2_3 : w3.heap.size < w2.heap.size := (by omega))
  (try have z2_4 : w4.heap.size < w2.heap.size := (by omega))
  go_wp2_with fail
  refine (sub_Take3 true false true false rfl _).mono ?_
  rintro e w3 ⟨rfl, hb3⟩
  obtain ⟨hc3, hf3, hz3, hB3⟩ := bfacts (w := w) hb3 (by go_grown)
  (try simp only [World.size_alloc] at hz3)
  (try have z3_0 : w.heap.size < w3.heap.size := (by omega))
  (try have z3_1 : w1.heap.size < w3.heap.size := (by omega))
  (try have z3_2 : w2.heap.size < w3.heap.size := (by omega))
  (try have z3_3 : w3.heap.size < w3.heap.size := (by omega))
  (try have z3_4 : w4.heap.size < w3.heap.size := (by omega))
  go_wp2_with fail
  refine (sub_Send3 false false true false rfl _).mono ?_
  rintro e w4 ⟨rfl, hb4⟩
  obtain ⟨hc4, hf4, hz4, hB4⟩ := bfacts (w := w) hb4 (by go_grown)
  (try simp only [World.size_alloc] at hz4)
  (try have z4_0 : w.heap.size < w4.heap.size := (by omega))
  (try have z4_1 : w1.heap.size < w4.heap.size := (by omega))
  (try have z4_2 : w2.heap.size < w4.heap.size := (by omega))
  (try have z4_3 : w3.heap.size < w4.heap.size := (by omega))
  (try have z4_4 : w4.heap.size < w4.heap.size := (by omega))
  go_wp2_with fail
  refine (sub_Take3 true false false false rfl _).mono ?_
  rintro e w5 ⟨rfl, hb5⟩
  obtain ⟨hc5, hf5, hz5, hB5⟩ := bfacts (w := w) hb5 (by go_grown)
  (try simp only [World.size_alloc] at hz5)
  (try have z5_0 : w.heap.size < w5.heap.size := (by omega))
  (try have z5_1 : w1.heap.size < w5.heap.size := (by omega))
  (try have z5_2 : w2.heap.size < w5.heap.size := (by omega))
  (try have z5_3 : w3.heap.size < w5.heap.size := (by omega))
  (try have z5_4 : w4.heap.size < w5.heap.size := (by omega))
  go_wp2_with fail
  refine (sub_Check false false true false _).mono ?_
  rintro e w6 ⟨rfl, hb6⟩
  obtain ⟨hc6, hf6, hz6, hB6⟩ := bfacts (w := w) hb6 (by go_grown)
  (try simp only [World.size_alloc] at hz6)
  (try have z6_0 : w.heap.size < w6.heap.size := (by omega))
  (try have z6_1 : w1.heap.size < w6.heap.size := (by omega))
  (try have z6_2 : w2.heap.size < w6.heap.size := (by omega))
  (try have z6_3 : w3.heap.size < w6.heap.size := (by omega))
  (try have z6_4 : w4.heap.size < w6.heap.size := (by omega))
  go_wp2_with fail
  refine (sub_Check true false false false _).mono ?_
  rintro e w7 ⟨rfl, hb7⟩
  obtain ⟨hc7, hf7, hz7, hB7⟩ := bfacts (w := w) hb7 (by go_grown)
  (try simp only [World.size_alloc] at hz7)
  (try have z7_0 : w.heap.size < w7.heap.size := (by omega))
  (try have z7_1 : w1.heap.size < w7.heap.size := (by omega))
  (try have z7_2 : w2.heap.size < w7.heap.size := (by omega))
  (try have z7_3 : w3.heap.size < w7.heap.size := (by omega))
  (try have z7_4 : w4.heap.size < w7.heap.size := (by omega))
  go_wp2_with fail
  go_returns
  exact ⟨rfl, by go_grown⟩

set_option maxRecDepth 100000 in
set_option maxHeartbeats 4000000 in
theorem quiet4_0000 (w : World) : Calls Try.prog 4 #[.agg #[.bool false, .bool false, .bool false, .bool false], .int .u8 4] w (Ret w (.bool true)) := by
  go_enter Try.func4, Try.ntmps4
  go_wp2_with fail
  refine (alive20 _).mono ?_
  rintro e w1 ⟨rfl, hb1⟩
  obtain ⟨hc1, hf1, hz1, hB1⟩ := bfacts (w := w) hb1 (by go_grown)
  (try simp only [World.size_alloc] at hz1)
  (try have z1_0 : w.heap.size < w1.heap.size := (by omega))
  (try have z1_1 : w1.heap.size < w1.heap.size := (by omega))
  (try have z1_2 : w2.heap.size < w1.heap.size := (by omega))
  (try have z1_3 : w3.heap.size < w1.heap.size := (by omega))
  (try have z1_4 : w4.heap.size < w1.heap.size := (by omega))
  go_wp2_with fail
  refine (sub_Send4 false false false false rfl _).mono ?_
  rintro e w2 ⟨rfl, hb2⟩
  obtain ⟨hc2, hf2, hz2, hB2⟩ := bfacts (w := w) hb2 (by go_grown)
  (try simp only [World.size_alloc] at hz2)
  (try have z2_0 : w.heap.size < w2.heap.size := (by omega))
  (try have z2_1 : w1.heap.size < w2.heap.size := (by omega))
  (try have z2_2 : w2.heap.size < w2.heap.size := (by omega))
  (try have z2_3 : w3.heap.size < w2.heap.size := (by omega))
  (try have z2_4 : w4.heap.size < w2.heap.size := (by omega))
  go_wp2_with fail
  refine (sub_Take4 false false false false rfl _).mono ?_
  rintro e w3 ⟨rfl, hb3⟩
  obtain ⟨hc3, hf3, hz3, hB3⟩ := bfacts (w := w) hb3 (by go_grown)
  (try simp only [World.size_alloc] at hz3)
  (try have z3_0 : w.heap.size < w3.heap.size := (by omega))
  (try have z3_1 : w1.heap.size < w3.heap.size := (by omega))
  (try have z3_2 : w2.heap.size < w3.heap.size := (by omega))
  (try have z3_3 : w3.heap.size < w3.heap.size := (by omega))
  (try have z3_4 : w4.heap.size < w3.heap.size := (by omega))
  go_wp2_with fail
  refine (sub_Send4 false false false false rfl _).mono ?_
  rintro e w4 ⟨rfl, hb4⟩
  obtain ⟨hc4, hf4, hz4, hB4⟩ := bfacts (w := w) hb4 (by go_grown)
  (try simp only [World.size_alloc] at hz4)
  (try have z4_0 : w.heap.size < w4.heap.size := (by omega))
  (try have z4_1 : w1.heap.size < w4.heap.size := (by omega))
  (try have z4_2 : w2.heap.size < w4.heap.size := (by omega))
  (try have z4_3 : w3.heap.size < w4.heap.size := (by omega))
  (try have z4_4 : w4.heap.size < w4.heap.size := (by omega))
  go_wp2_with fail
  refine (sub_Take4 false false false false rfl _).mono ?_
  rintro e w5 ⟨rfl, hb5⟩
  obtain ⟨hc5, hf5, hz5, hB5⟩ := bfacts (w := w) hb5 (by go_grown)
  (try simp only [World.size_alloc] at hz5)
  (try have z5_0 : w.heap.size < w5.heap.size := (by omega))
  (try have z5_1 : w1.heap.size < w5.heap.size := (by omega))
  (try have z5_2 : w2.heap.size < w5.heap.size := (by omega))
  (try have z5_3 : w3.heap.size < w5.heap.size := (by omega))
  (try have z5_4 : w4.heap.size < w5.heap.size := (by omega))
  go_wp2_with fail
  refine (sub_Check false false false false _).mono ?_
  rintro e w6 ⟨rfl, hb6⟩
  obtain ⟨hc6, hf6, hz6, hB6⟩ := bfacts (w := w) hb6 (by go_grown)
  (try simp only [World.size_alloc] at hz6)
  (try have z6_0 : w.heap.size < w6.heap.size := (by omega))
  (try have z6_1 : w1.heap.size < w6.heap.size := (by omega))
  (try have z6_2 : w2.heap.size < w6.heap.size := (by omega))
  (try have z6_3 : w3.heap.size < w6.heap.size := (by omega))
  (try have z6_4 : w4.heap.size < w6.heap.size := (by omega))
  go_wp2_with fail
  refine (sub_Check false false false false _).mono ?_
  rintro e w7 ⟨rfl, hb7⟩
  obtain ⟨hc7, hf7, hz7, hB7⟩ := bfacts (w := w) hb7 (by go_grown)
  (try simp only [World.size_alloc] at hz7)
  (try have z7_0 : w.heap.size < w7.heap.size := (by omega))
  (try have z7_1 : w1.heap.size < w7.heap.size := (by omega))
  (try have z7_2 : w2.heap.size < w7.heap.size := (by omega))
  (try have z7_3 : w3.heap.size < w7.heap.size := (by omega))
  (try have z7_4 : w4.heap.size < w7.heap.size := (by omega))
  go_wp2_with fail
  go_returns
  exact ⟨rfl, by go_grown⟩

set_option maxRecDepth 100000 in
set_option maxHeartbeats 4000000 in
theorem quiet4_0001 (w : World) : Calls Try.prog 4 #[.agg #[.bool false, .bool false, .bool false, .bool true], .int .u8 4] w (Ret w (.bool true)) := by
  go_enter Try.func4, Try.ntmps4
  go_wp2_with fail
  refine (alive20 _).mono ?_
  rintro e w1 ⟨rfl, hb1⟩
  obtain ⟨hc1, hf1, hz1, hB1⟩ := bfacts (w := w) hb1 (by go_grown)
  (try simp only [World.size_alloc] at hz1)
  (try have z1_0 : w.heap.size < w1.heap.size := (by omega))
  (try have z1_1 : w1.heap.size < w1.heap.size := (by omega))
  (try have z1_2 : w2.heap.size < w1.heap.size := (by omega))
  (try have z1_3 : w3.heap.size < w1.heap.size := (by omega))
  (try have z1_4 : w4.heap.size < w1.heap.size := (by omega))
  go_wp2_with fail
  refine (sub_Send4 false false false true rfl _).mono ?_
  rintro e w2 ⟨rfl, hb2⟩
  obtain ⟨hc2, hf2, hz2, hB2⟩ := bfacts (w := w) hb2 (by go_grown)
  (try simp only [World.size_alloc] at hz2)
  (try have z2_0 : w.heap.size < w2.heap.size := (by omega))
  (try have z2_1 : w1.heap.size < w2.heap.size := (by omega))
  (try have z2_2 : w2.heap.size < w2.heap.size := (by omega))
  (try have z2_3 : w3.heap.size < w2.heap.size := (by omega))
  (try have z2_4 : w4.heap.size < w2.heap.size := (by omega))
  go_wp2_with fail
  refine (sub_Take4 false false false true rfl _).mono ?_
  rintro e w3 ⟨rfl, hb3⟩
  obtain ⟨hc3, hf3, hz3, hB3⟩ := bfacts (w := w) hb3 (by go_grown)
  (try simp only [World.size_alloc] at hz3)
  (try have z3_0 : w.heap.size < w3.heap.size := (by omega))
  (try have z3_1 : w1.heap.size < w3.heap.size := (by omega))
  (try have z3_2 : w2.heap.size < w3.heap.size := (by omega))
  (try have z3_3 : w3.heap.size < w3.heap.size := (by omega))
  (try have z3_4 : w4.heap.size < w3.heap.size := (by omega))
  go_wp2_with fail
  refine (sub_Send4 false false false false rfl _).mono ?_
  rintro e w4 ⟨rfl, hb4⟩
  obtain ⟨hc4, hf4, hz4, hB4⟩ := bfacts (w := w) hb4 (by go_grown)
  (try simp only [World.size_alloc] at hz4)
  (try have z4_0 : w.heap.size < w4.heap.size := (by omega))
  (try have z4_1 : w1.heap.size < w4.heap.size := (by omega))
  (try have z4_2 : w2.heap.size < w4.heap.size := (by omega))
  (try have z4_3 : w3.heap.size < w4.heap.size := (by omega))
  (try have z4_4 : w4.heap.size < w4.heap.size := (by omega))
  go_wp2_with fail
  refine (sub_Take4 false false false true rfl _).mono ?_
  rintro e w5 ⟨rfl, hb5⟩
  obtain ⟨hc5, hf5, hz5, hB5⟩ := bfacts (w := w) hb5 (by go_grown)
  (try simp only [World.size_alloc] at hz5)
  (try have z5_0 : w.heap.size < w5.heap.size := (by omega))
  (try have z5_1 : w1.heap.size < w5.heap.size := (by omega))
  (try have z5_2 : w2.heap.size < w5.heap.size := (by omega))
  (try have z5_3 : w3.heap.size < w5.heap.size := (by omega))
  (try have z5_4 : w4.heap.size < w5.heap.size := (by omega))
  go_wp2_with fail
  refine (sub_Check false false false false _).mono ?_
  rintro e w6 ⟨rfl, hb6⟩
  obtain ⟨hc6, hf6, hz6, hB6⟩ := bfacts (w := w) hb6 (by go_grown)
  (try simp only [World.size_alloc] at hz6)
  (try have z6_0 : w.heap.size < w6.heap.size := (by omega))
  (try have z6_1 : w1.heap.size < w6.heap.size := (by omega))
  (try have z6_2 : w2.heap.size < w6.heap.size := (by omega))
  (try have z6_3 : w3.heap.size < w6.heap.size := (by omega))
  (try have z6_4 : w4.heap.size < w6.heap.size := (by omega))
  go_wp2_with fail
  refine (sub_Check false false false true _).mono ?_
  rintro e w7 ⟨rfl, hb7⟩
  obtain ⟨hc7, hf7, hz7, hB7⟩ := bfacts (w := w) hb7 (by go_grown)
  (try simp only [World.size_alloc] at hz7)
  (try have z7_0 : w.heap.size < w7.heap.size := (by omega))
  (try have z7_1 : w1.heap.size < w7.heap.size := (by omega))
  (try have z7_2 : w2.heap.size < w7.heap.size := (by omega))
  (try have z7_3 : w3.heap.size < w7.heap.size := (by omega))
  (try have z7_4 : w4.heap.size < w7.heap.size := (by omega))
  go_wp2_with fail
  go_returns
  exact ⟨rfl, by go_grown⟩

set_option maxRecDepth 100000 in
set_option maxHeartbeats 4000000 in
theorem quiet4_0010 (w : World) : Calls Try.prog 4 #[.agg #[.bool false, .bool false, .bool true, .bool false], .int .u8 4] w (Ret w (.bool true)) := by
  go_enter Try.func4, Try.ntmps4
  go_wp2_with fail
  refine (alive20 _).mono ?_
  rintro e w1 ⟨rfl, hb1⟩
  obtain ⟨hc1, hf1, hz1, hB1⟩ := bfacts (w := w) hb1 (by go_grown)
  (try simp only [World.size_alloc] at hz1)
  (try have z1_0 : w.heap.size < w1.heap.size := (by omega))
  (try have z1_1 : w1.heap.size < w1.heap.size := (by omega))
  (try have z1_2 : w2.heap.size < w1.heap.size := (by omega))
  (try have z1_3 : w3.heap.size < w1.heap.size := (by omega))
  (try have z1_4 : w4.heap.size < w1.heap.size := (by omega))
  go_wp2_with fail
  refine (sub_Send4 false false true false rfl _).mono ?_
  rintro e w2 ⟨rfl, hb2⟩
  obtain ⟨hc2, hf2, hz2, hB2⟩ := bfacts (w := w) hb2 (by go_grown)
  (try simp only [World.size_alloc] at hz2)
  (try have z2_0 : w.heap.size < w2.heap.size := (by omega))
  (try have z2_1 : w1.heap.size < w2.heap.size := (by omega))
  (try have z2_2 : w2.heap.size < w2.heap.size := (by omega))
  (try have z2_3 : w3.heap.size < w2.heap.size := (by omega))
  (try have z2_4 : w4.heap.size < w2.heap.size := (by omega))
  go_wp2_with fail
  refine (sub_Take4 false false true false rfl _).mono ?_
  rintro e w3 ⟨rfl, hb3⟩
  obtain ⟨hc3, hf3, hz3, hB3⟩ := bfacts (w := w) hb3 (by go_grown)
  (try simp only [World.size_alloc] at hz3)
  (try have z3_0 : w.heap.size < w3.heap.size := (by omega))
  (try have z3_1 : w1.heap.size < w3.heap.size := (by omega))
  (try have z3_2 : w2.heap.size < w3.heap.size := (by omega))
  (try have z3_3 : w3.heap.size < w3.heap.size := (by omega))
  (try have z3_4 : w4.heap.size < w3.heap.size := (by omega))
  go_wp2_with fail
  refine (sub_Send4 false false false false rfl _).mono ?_
  rintro e w4 ⟨rfl, hb4⟩
  obtain ⟨hc4, hf4, hz4, hB4⟩ := bfacts (w := w) hb4 (by go_grown)
  (try simp only [World.size_alloc] at hz4)
  (try have z4_0 : w.heap.size < w4.heap.size := (by omega))
  (try have z4_1 : w1.heap.size < w4.heap.size := (by omega))
  (try have z4_2 : w2.heap.size < w4.heap.size := (by omega))
  (try have z4_3 : w3.heap.size < w4.heap.size := (by omega))
  (try have z4_4 : w4.heap.size < w4.heap.size := (by omega))
  go_wp2_with fail
  refine (sub_Take4 false false true false rfl _).mono ?_
  rintro e w5 ⟨rfl, hb5⟩
  obtain ⟨hc5, hf5, hz5, hB5⟩ := bfacts (w := w) hb5 (by go_grown)
  (try simp only [World.size_alloc] at hz5)
  (try have z5_0 : w.heap.size < w5.heap.size := (by omega))
  (try have z5_1 : w1.heap.size < w5.heap.size := (by omega))
  (try have z5_2 : w2.heap.size < w5.heap.size := (by omega))
  (try have z5_3 : w3.heap.size < w5.heap.size := (by omega))
  (try have z5_4 : w4.heap.size < w5.heap.size := (by omega))
  go_wp2_with fail
  refine (sub_Check false false false false _).mono ?_
  rintro e w6 ⟨rfl, hb6⟩
  obtain ⟨hc6, hf6, hz6, hB6⟩ := bfacts (w := w) hb6 (by go_grown)
  (try simp only [World.size_alloc] at hz6)
  (try have z6_0 : w.heap.size < w6.heap.size := (by omega))
  (try have z6_1 : w1.heap.size < w6.heap.size := (by omega))
  (try have z6_2 : w2.heap.size < w6.heap.size := (by omega))
  (try have z6_3 : w3.heap.size < w6.heap.size := (by omega))
  (try have z6_4 : w4.heap.size < w6.heap.size := (by omega))
  go_wp2_with fail
  refine (sub_Check false false true false _).mono ?_
  rintro e w7 ⟨rfl, hb7⟩
  obtain ⟨hc7, hf7, hz7, hB7⟩ := bfacts (w := w) hb7 (by go_grown)
  (try simp only [World.size_alloc] at hz7)
  (try have z7_0 : w.heap.size < w7.heap.size := (by omega))
  (try have z7_1 : w1.heap.size < w7.heap.size := (by omega))
  (try have z7_2 : w2.heap.size < w7.heap.size := (by omega))
  (try have z7_3 : w3.heap.size < w7.heap.size := (by omega))
  (try have z7_4 : w4.heap.size < w7.heap.size := (by omega))
  go_wp2_with fail
  go_returns
  exact ⟨rfl, by go_grown⟩

set_option maxRecDepth 100000 in
set_option maxHeartbeats 4000000 in
theorem quiet4_0100 (w : World) : Calls Try.prog 4 #[.agg #[.bool false, .bool true, .bool false, .bool false], .int .u8 4] w (Ret w (.bool true)) := by
  go_enter Try.func4, Try.ntmps4
  go_wp2_with fail
  refine (alive20 _).mono ?_
  rintro e w1 ⟨rfl, hb1⟩
  obtain ⟨hc1, hf1, hz1, hB1⟩ := bfacts (w := w) hb1 (by go_grown)
  (try simp only [World.size_alloc] at hz1)
  (try have z1_0 : w.heap.size < w1.heap.size := (by omega))
  (try have z1_1 : w1.heap.size < w1.heap.size := (by omega))
  (try have z1_2 : w2.heap.size < w1.heap.size := (by omega))
  (try have z1_3 : w3.heap.size < w1.heap.size := (by omega))
  (try have z1_4 : w4.heap.size < w1.heap.size := (by omega))
  go_wp2_with fail
  refine (sub_Send4 false true false false rfl _).mono ?_
  rintro e w2 ⟨rfl, hb2⟩
  obtain ⟨hc2, hf2, hz2, hB2⟩ := bfacts (w := w) hb2 (by go_grown)
  (try simp only [World.size_alloc] at hz2)
  (try have z2_0 : w.heap.size < w2.heap.size := (by omega))
  (try have z2_1 : w1.heap.size < w2.heap.size := (by omega))
  (try have z2_2 : w2.heap.size < w2.heap.size := (by omega))
  (try have z2_3 : w3.heap.size < w2.heap.size := (by omega))
  (try have z2_4 : w4.heap.size < w2.heap.size := (by omega))
  go_wp2_with fail
  refine (sub_Take4 false true false false rfl _).mono ?_
  rintro e w3 ⟨rfl, hb3⟩
  obtain ⟨hc3, hf3, hz3, hB3⟩ := bfacts (w := w) hb3 (by go_grown)
  (try simp only [World.size_alloc] at hz3)
  (try have z3_0 : w.heap.size < w3.heap.size := (by omega))
  (try have z3_1 : w1.heap.size < w3.heap.size := (by omega))
  (try have z3_2 : w2.heap.size < w3.heap.size := (by omega))
  (try have z3_3 : w3.heap.size < w3.heap.size := (by omega))
  (try have z3_4 : w4.heap.size < w3.heap.size := (by omega))
  go_wp2_with fail
  refine (sub_Send4 false true false false rfl _).mono ?_
  rintro e w4 ⟨rfl, hb4⟩
  obtain ⟨hc4, hf4, hz4, hB4⟩ := bfacts (w := w) hb4 (by go_grown)
  (try simp only [World.size_alloc] at hz4)
  (try have z4_0 : w.heap.size < w4.heap.size := (by omega))
  (try have z4_1 : w1.heap.size < w4.heap.size := (by omega))
  (try have z4_2 : w2.heap.size < w4.heap.size := (by omega))
  (try have z4_3 : w3.heap.size < w4.heap.size := (by omega))
  (try have z4_4 : w4.heap.size < w4.heap.size := (by omega))
  go_wp2_with fail
  refine (sub_Take4 false false false false rfl _).mono ?_
  rintro e w5 ⟨rfl, hb5⟩
  obtain ⟨hc5, hf5, hz5, hB5⟩ := bfacts (w := w) hb5 (by go_grown)
  (try simp only [World.size_alloc] at hz5)
  (try have z5_0 : w.heap.size < w5.heap.size := (by omega))
  (try have z5_1 : w1.heap.size < w5.heap.size := (by omega))
  (try have z5_2 : w2.heap.size < w5.heap.size := (by omega))
  (try have z5_3 : w3.heap.size < w5.heap.size := (by omega))
  (try have z5_4 : w4.heap.size < w5.heap.size := (by omega))
  go_wp2_with fail
  refine (sub_Check false true false false _).mono ?_
  rintro e w6 ⟨rfl, hb6⟩
  obtain ⟨hc6, hf6, hz6, hB6⟩ := bfacts (w := w) hb6 (by go_grown)
  (try simp only [World.size_alloc] at hz6)
  (try have z6_0 : w.heap.size < w6.heap.size := (by omega))
  (try have z6_1 : w1.heap.size < w6.heap.size := (by omega))
  (try have z6_2 : w2.heap.size < w6.heap.size := (by omega))
  (try have z6_3 : w3.heap.size < w6.heap.size := (by omega))
  (try have z6_4 : w4.heap.size < w6.heap.size := (by omega))
  go_wp2_with fail
  refine (sub_Check false false false false _).mono ?_
  rintro e w7 ⟨rfl, hb7⟩
  obtain ⟨hc7, hf7, hz7, hB7⟩ := bfacts (w := w) hb7 (by go_grown)
  (try simp only [World.size_alloc] at hz7)
  (try have z7_0 : w.heap.size < w7.heap.size := (by omega))
  (try have z7_1 : w1.heap.size < w7.heap.size := (by omega))
  (try have z7_2 : w2.heap.size < w7.heap.size := (by omega))
  (try have z7_3 : w3.heap.size < w7.heap.size := (by omega))
  (try have z7_4 : w4.heap.size < w7.heap.size := (by omega))
  go_wp2_with fail
  go_returns
  exact ⟨rfl, by go_grown⟩

set_option maxRecDepth 100000 in
set_option maxHeartbeats 4000000 in
theorem quiet4_0101 (w : World) : Calls Try.prog 4 #[.agg #[.bool false, .bool true, .bool false, .bool true], .int .u8 4] w (Ret w (.bool true)) := by
  go_enter Try.func4, Try.ntmps4
  go_wp2_with fail
  refine (alive20 _).mono ?_
  rintro e w1 ⟨rfl, hb1⟩
  obtain ⟨hc1, hf1, hz1, hB1⟩ := bfacts (w := w) hb1 (by go_grown)
  (try simp only [World.size_alloc] at hz1)
  (try have z1_0 : w.heap.size < w1.heap.size := (by omega))
  (try have z1_1 : w1.heap.size < w1.heap.size := (by omega))
  (try have z1_2 : w2.heap.size < w1.heap.size := (by omega))
  (try have z1_3 : w3.heap.size < w1.heap.size := (by omega))
  (try have z1_4 : w4.heap.size < w1.heap.size := (by omega))
  go_wp2_with fail
  refine (sub_Send4 false true false true rfl _).mono ?_
  rintro e w2 ⟨rfl, hb2⟩
  obtain ⟨hc2, hf2, hz2, hB2⟩ := bfacts (w := w) hb2 (by go_grown)
  (try simp only [World.size_alloc] at hz2)
  (try have z2_0 : w.heap.size < w2.heap.size := (by omega))
  (try have z2_1 : w1.heap.size < w2.heap.size := (by omega))
  (try have z2_2 : w2.heap.size < w2.heap.size := (by omega))
  (try have z2_3 : w3.heap.size < w2.heap.size := (by omega))
  (try have z2_4 : w4.heap.size < w2.heap.size := (by omega))
  go_wp2_with fail
  refine (sub_Take4 false true false true rfl _).mono ?_
  rintro e w3 ⟨rfl, hb3⟩
  obtain ⟨hc3, hf3, hz3, hB3⟩ := bfacts (w := w) hb3 (by go_grown)
  (try simp only [World.size_alloc] at hz3)
  (try have z3_0 : w.heap.size < w3.heap.size := (by omega))
  (try have z3_1 : w1.heap.size < w3.heap.size := (by omega))
  (try have z3_2 : w2.heap.size < w3.heap.size := (by omega))
  (try have z3_3 : w3.heap.size < w3.heap.size := (by omega))
  (try have z3_4 : w4.heap.size < w3.heap.size := (by omega))
  go_wp2_with fail
  refine (sub_Send4 false true false false rfl _).mono ?_
  rintro e w4 ⟨rfl, hb4⟩
  obtain ⟨hc4, hf4, hz4, hB4⟩ := bfacts (w := w) hb4 (by go_grown)
  (try simp only [World.size_alloc] at hz4)
  (try have z4_0 : w.heap.size < w4.heap.size := (by omega))
  (try have z4_1 : w1.heap.size < w4.heap.size := (by omega))
  (try have z4_2 : w2.heap.size < w4.heap.size := (by omega))
  (try have z4_3 : w3.heap.size < w4.heap.size := (by omega))
  (try have z4_4 : w4.heap.size < w4.heap.size := (by omega))
  go_wp2_with fail
  refine (sub_Take4 false false false true rfl _).mono ?_
  rintro e w5 ⟨rfl, hb5⟩
  obtain ⟨hc5, hf5, hz5, hB5⟩ := bfacts (w := w) hb5 (by go_grown)
  (try simp only [World.size_alloc] at hz5)
  (try have z5_0 : w.heap.size < w5.heap.size := (by omega))
  (try have z5_1 : w1.heap.size < w5.heap.size := (by omega))
  (try have z5_2 : w2.heap.size < w5.heap.size := (by omega))
  (try have z5_3 : w3.heap.size < w5.heap.size := (by omega))
  (try have z5_4 : w4.heap.size < w5.heap.size := (by omega))
  go_wp2_with fail
  refine (sub_Check false true false false _).mono ?_
  rintro e w6 ⟨rfl, hb6⟩
  obtain ⟨hc6, hf6, hz6, hB6⟩ := bfacts (w := w) hb6 (by go_grown)
  (try simp only [World.size_alloc] at hz6)
  (try have z6_0 : w.heap.size < w6.heap.size := (by omega))
  (try have z6_1 : w1.heap.size < w6.heap.size := (by omega))
  (try have z6_2 : w2.heap.size < w6.heap.size := (by omega))
  (try have z6_3 : w3.heap.size < w6.heap.size := (by omega))
  (try have z6_4 : w4.heap.size < w6.heap.size := (by omega))
  go_wp2_with fail
  refine (sub_Check false false false true _).mono ?_
  rintro e w7 ⟨rfl, hb7⟩
  obtain ⟨hc7, hf7, hz7, hB7⟩ := bfacts (w := w) hb7 (by go_grown)
  (try simp only [World.size_alloc] at hz7)
  (try have z7_0 : w.heap.size < w7.heap.size := (by omega))
  (try have z7_1 : w1.heap.size < w7.heap.size := (by omega))
  (try have z7_2 : w2.heap.size < w7.heap.size := (by omega))
  (try have z7_3 : w3.heap.size < w7.heap.size := (by omega))
  (try have z7_4 : w4.heap.size < w7.heap.size := (by omega))
  go_wp2_with fail
  go_returns
  exact ⟨rfl, by go_grown⟩

set_option maxRecDepth 100000 in
set_option maxHeartbeats 4000000 in
theorem quiet4_0110 (w : World) : Calls Try.prog 4 #[.agg #[.bool false, .bool true, .bool true, .bool false], .int .u8 4] w (Ret w (.bool true)) := by
  go_enter Try.func4, Try.ntmps4
  go_wp2_with fail
  refine (alive20 _).mono ?_
  rintro e w1 ⟨rfl, hb1⟩
  obtain ⟨hc1, hf1, hz1, hB1⟩ := bfacts (w := w) hb1 (by go_grown)
  (try simp only [World.size_alloc] at hz1)
  (try have z1_0 : w.heap.size < w1.heap.size := (by omega))
  (try have z1_1 : w1.heap.size < w1.heap.size := (by omega))
  (try have z1_2 : w2.heap.size < w1.heap.size := (by omega))
  (try have z1_3 : w3.heap.size < w1.heap.size := (by omega))
  (try have z1_4 : w4.heap.size < w1.heap.size := (by omega))
  go_wp2_with fail
  refine (sub_Send4 false true true false rfl _).mono ?_
  rintro e w2 ⟨rfl, hb2⟩
  obtain ⟨hc2, hf2, hz2, hB2⟩ := bfacts (w := w) hb2 (by go_grown)
  (try simp only [World.size_alloc] at hz2)
  (try have z2_0 : w.heap.size < w2.heap.size := (by omega))
  (try have z2_1 : w1.heap.size < w2.heap.size := (by omega))
  (try have z2_2 : w2.heap.size < w2.heap.size := (by omega))
  (try have z2_3 : w3.heap.size < w2.heap.size := (by omega))
  (try have z2_4 : w4.heap.size < w2.heap.size := (by omega))
  go_wp2_with fail
  refine (sub_Take4 false true true false rfl _).mono ?_
  rintro e w3 ⟨rfl, hb3⟩
  obtain ⟨hc3, hf3, hz3, hB3⟩ := bfacts (w := w) hb3 (by go_grown)
  (try simp only [World.size_alloc] at hz3)
  (try have z3_0 : w.heap.size < w3.heap.size := (by omega))
  (try have z3_1 : w1.heap.size < w3.heap.size := (by omega))
  (try have z3_2 : w2.heap.size < w3.heap.size := (by omega))
  (try have z3_3 : w3.heap.size < w3.heap.size := (by omega))
  (try have z3_4 : w4.heap.size < w3.heap.size := (by omega))
  go_wp2_with fail
  refine (sub_Send4 false true false false rfl _).mono ?_
  rintro e w4 ⟨rfl, hb4⟩
  obtain ⟨hc4, hf4, hz4, hB4⟩ := bfacts (w := w) hb4 (by go_grown)
  (try simp only [World.size_alloc] at hz4)
  (try have z4_0 : w.heap.size < w4.heap.size := (by omega))
  (try have z4_1 : w1.heap.size < w4.heap.size := (by omega))
  (try have z4_2 : w2.heap.size < w4.heap.size := (by omega))
  (try have z4_3 : w3.heap.size < w4.heap.size := (by omega))
  (try have z4_4 : w4.heap.size < w4.heap.size := (by omega))
  go_wp2_with fail
  refine (sub_Take4 false false true false rfl _).mono ?_
  rintro e w5 ⟨rfl, hb5⟩
  obtain ⟨hc5, hf5, hz5, hB5⟩ := bfacts (w := w) hb5 (by go_grown)
  (try simp only [World.size_alloc] at hz5)
  (try have z5_0 : w.heap.size < w5.heap.size := (by omega))
  (try have z5_1 : w1.heap.size < w5.heap.size := (by omega))
  (try have z5_2 : w2.heap.size < w5.heap.size := (by omega))
  (try have z5_3 : w3.heap.size < w5.heap.size := (by omega))
  (try have z5_4 : w4.heap.size < w5.heap.size := (by omega))
  go_wp2_with fail
  refine (sub_Check false true false false _).mono ?_
  rintro e w6 ⟨rfl, hb6⟩
  obtain ⟨hc6, hf6, hz6, hB6⟩ := bfacts (w := w) hb6 (by go_grown)
  (try simp only [World.size_alloc] at hz6)
  (try have z6_0 : w.heap.size < w6.heap.size := (by omega))
  (try have z6_1 : w1.heap.size < w6.heap.size := (by omega))
  (try have z6_2 : w2.heap.size < w6.heap.size := (by omega))
  (try have z6_3 : w3.heap.size < w6.heap.size := (by omega))
  (try have z6_4 : w4.heap.size < w6.heap.size := (by omega))
  go_wp2_with fail
  refine (sub_Check false false true false _).mono ?_
  rintro e w7 ⟨rfl, hb7⟩
  obtain ⟨hc7, hf7, hz7, hB7⟩ := bfacts (w := w) hb7 (by go_grown)
  (try simp only [World.size_alloc] at hz7)
  (try have z7_0 : w.heap.size < w7.heap.size := (by omega))
  (try have z7_1 : w1.heap.size < w7.heap.size := (by omega))
  (try have z7_2 : w2.heap.size < w7.heap.size := (by omega))
  (try have z7_3 : w3.heap.size < w7.heap.size := (by omega))
  (try have z7_4 : w4.heap.size < w7.heap.size := (by omega))
  go_wp2_with fail
  go_returns
  exact ⟨rfl, by go_grown⟩

set_option maxRecDepth 100000 in
set_option maxHeartbeats 4000000 in
theorem quiet4_1000 (w : World) : Calls Try.prog 4 #[.agg #[.bool true, .bool false, .bool false, .bool false], .int .u8 4] w (Ret w (.bool true)) := by
  go_enter Try.func4, Try.ntmps4
  go_wp2_with fail
  refine (alive20 _).mono ?_
  rintro e w1 ⟨rfl, hb1⟩
  obtain ⟨hc1, hf1, hz1, hB1⟩ := bfacts (w := w) hb1 (by go_grown)
  (try simp only [World.size_alloc] at hz1)
  (try have z1_0 : w.heap.size < w1.heap.size := (by omega))
  (try have z1_1 : w1.heap.size < w1.heap.size := (by omega))
  (try have z1_2 : w2.heap.size < w1.heap.size := (by omega))
  (try have z1_3 : w3.heap.size < w1.heap.size := (by omega))
  (try have z1_4 : w4.heap.size < w1.heap.size := (by omega))
  go_wp2_with fail
  refine (sub_Send4 true false false false rfl _).mono ?_
  rintro e w2 ⟨rfl, hb2⟩
  obtain ⟨hc2, hf2, hz2, hB2⟩ := bfacts (w := w) hb2 (by go_grown)
  (try simp only [World.size_alloc] at hz2)
  (try have z2_0 : w.heap.size < w2.heap.size := (by omega))
  (try have z2_1 : w1.heap.size < w2.heap.size := (by omega))
  (try have z2_2 : w2.heap.size < w2.heap.size := (by omega))
  (try have z2_3 : w3.heap.size < w2.heap.size := (by omega))
  (try have z2_4 : w4.heap.size < w2.heap.size := (by omega))
  go_wp2_with fail
  refine (sub_Take4 true false false false rfl _).mono ?_
  rintro e w3 ⟨rfl, hb3⟩
  obtain ⟨hc3, hf3, hz3, hB3⟩ := bfacts (w := w) hb3 (by go_grown)
  (try simp only [World.size_alloc] at hz3)
  (try have z3_0 : w.heap.size < w3.heap.size := (by omega))
  (try have z3_1 : w1.heap.size < w3.heap.size := (by omega))
  (try have z3_2 : w2.heap.size < w3.heap.size := (by omega))
  (try have z3_3 : w3.heap.size < w3.heap.size := (by omega))
  (try have z3_4 : w4.heap.size < w3.heap.size := (by omega))
  go_wp2_with fail
  refine (sub_Send4 true false false false rfl _).mono ?_
  rintro e w4 ⟨rfl, hb4⟩
  obtain ⟨hc4, hf4, hz4, hB4⟩ := bfacts (w := w) hb4 (by go_grown)
  (try simp only [World.size_alloc] at hz4)
  (try have z4_0 : w.heap.size < w4.heap.size := (by omega))
  (try have z4_1 : w1.heap.size < w4.heap.size := (by omega))
  (try have z4_2 : w2.heap.size < w4.heap.size := (by omega))
  (try have z4_3 : w3.heap.size < w4.heap.size := (by omega))
  (try have z4_4 : w4.heap.size < w4.heap.size := (by omega))
  go_wp2_with fail
  refine (sub_Take4 false false false false rfl _).mono ?_
  rintro e w5 ⟨rfl, hb5⟩
  obtain ⟨hc5, hf5, hz5, hB5⟩ := bfacts (w := w) hb5 (by go_grown)
  (try simp only [World.size_alloc] at hz5)
  (try have z5_0 : w.heap.size < w5.heap.size := (by omega))
  (try have z5_1 : w1.heap.size < w5.heap.size := (by omega))
  (try have z5_2 : w2.heap.size < w5.heap.size := (by omega))
  (try have z5_3 : w3.heap.size < w5.heap.size := (by omega))
  (try have z5_4 : w4.heap.size < w5.heap.size := (by omega))
  go_wp2_with fail
  refine (sub_Check true false false false _).mono ?_
  rintro e w6 ⟨rfl, hb6⟩
  obtain ⟨hc6, hf6, hz6, hB6⟩ := bfacts (w := w) hb6 (by go_grown)
  (try simp only [World.size_alloc] at hz6)
  (try have z6_0 : w.heap.size < w6.heap.size := (by omega))
  (try have z6_1 : w1.heap.size < w6.heap.size := (by omega))
  (try have z6_2 : w2.heap.size < w6.heap.size := (by omega))
  (try have z6_3 : w3.heap.size < w6.heap.size := (by omega))
  (try have z6_4 : w4.heap.size < w6.heap.size := (by omega))
  go_wp2_with fail
  refine (sub_Check false false false false _).mono ?_
  rintro e w7 ⟨rfl, hb7⟩
  obtain ⟨hc7, hf7, hz7, hB7⟩ := bfacts (w := w) hb7 (by go_grown)
  (try simp only [World.size_alloc] at hz7)
  (try have z7_0 : w.heap.size < w7.heap.size := (by omega))
  (try have z7_1 : w1.heap.size < w7.heap.size := (by omega))
  (try have z7_2 : w2.heap.size < w7.heap.size := (by omega))
  (try have z7_3 : w3.heap.size < w7.heap.size := (by omega))
  (try have z7_4 : w4.heap.size < w7.heap.size := (by omega))
  go_wp2_with fail
  go_returns
  exact ⟨rfl, by go_grown⟩

set_option maxRecDepth 100000 in
set_option maxHeartbeats 4000000 in
theorem quiet4_1001 (w : World) : Calls Try.prog 4 #[.agg #[.bool true, .bool false, .bool false, .bool true], .int .u8 4] w (Ret w (.bool true)) := by
  go_enter Try.func4, Try.ntmps4
  go_wp2_with fail
  refine (alive20 _).mono ?_
  rintro e w1 ⟨rfl, hb1⟩
  obtain ⟨hc1, hf1, hz1, hB1⟩ := bfacts (w := w) hb1 (by go_grown)
  (try simp only [World.size_alloc] at hz1)
  (try have z1_0 : w.heap.size < w1.heap.size := (by omega))
  (try have z1_1 : w1.heap.size < w1.heap.size := (by omega))
  (try have z1_2 : w2.heap.size < w1.heap.size := (by omega))
  (try have z1_3 : w3.heap.size < w1.heap.size := (by omega))
  (try have z1_4 : w4.heap.size < w1.heap.size := (by omega))
  go_wp2_with fail
  refine (sub_Send4 true false false true rfl _).mono ?_
  rintro e w2 ⟨rfl, hb2⟩
  obtain ⟨hc2, hf2, hz2, hB2⟩ := bfacts (w := w) hb2 (by go_grown)
  (try simp only [World.size_alloc] at hz2)
  (try have z2_0 : w.heap.size < w2.heap.size := (by omega))
  (try have z2_1 : w1.heap.size < w2.heap.size := (by omega))
  (try have z2_2 : w2.heap.size < w2.heap.size := (by omega))
  (try have z2_3 : w3.heap.size < w2.heap.size := (by omega))
  (try have z2_4 : w4.heap.size < w2.heap.size := (by omega))
  go_wp2_with fail
  refine (sub_Take4 true false false true rfl _).mono ?_
  rintro e w3 ⟨rfl, hb3⟩
  obtain ⟨hc3, hf3, hz3, hB3⟩ := bfacts (w := w) hb3 (by go_grown)
  (try simp only [World.size_alloc] at hz3)
  (try have z3_0 : w.heap.size < w3.heap.size := (by omega))
  (try have z3_1 : w1.heap.size < w3.heap.size := (by omega))
  (try have z3_2 : w2.heap.size < w3.heap.size := (by omega))
  (try have z3_3 : w3.heap.size < w3.heap.size := (by omega))
  (try have z3_4 : w4.heap.size < w3.heap.size := (by omega))
  go_wp2_with fail
  refine (sub_Send4 true false false false rfl _).mono ?_
  rintro e w4 ⟨rfl, hb4⟩
  obtain ⟨hc4, hf4, hz4, hB4⟩ := bfacts (w := w) hb4 (by go_grown)
  (try simp only [World.size_alloc] at hz4)
  (try have z4_0 : w.heap.size < w4.heap.size := (by omega))
  (try have z4_1 : w1.heap.size < w4.heap.size := (by omega))
  (try have z4_2 : w2.heap.size < w4.heap.size := (by omega))
  (try have z4_3 : w3.heap.size < w4.heap.size := (by omega))
  (try have z4_4 : w4.heap.size < w4.heap.size := (by omega))
  go_wp2_with fail
  refine (sub_Take4 false false false true rfl _).mono ?_
  rintro e w5 ⟨rfl, hb5⟩
  obtain ⟨hc5, hf5, hz5, hB5⟩ := bfacts (w := w) hb5 (by go_grown)
  (try simp only [World.size_alloc] at hz5)
  (try have z5_0 : w.heap.size < w5.heap.size := (by omega))
  (try have z5_1 : w1.heap.size < w5.heap.size := (by omega))
  (try have z5_2 : w2.heap.size < w5.heap.size := (by omega))
  (try have z5_3 : w3.heap.size < w5.heap.size := (by omega))
  (try have z5_4 : w4.heap.size < w5.heap.size := (by omega))
  go_wp2_with fail
  refine (sub_Check true false false false _).mono ?_
  rintro e w6 ⟨rfl, hb6⟩
  obtain ⟨hc6, hf6, hz6, hB6⟩ := bfacts (w := w) hb6 (by go_grown)
  (try simp only [World.size_alloc] at hz6)
  (try have z6_0 : w.heap.size < w6.heap.size := (by omega))
  (try have z6_1 : w1.heap.size < w6.heap.size := (by omega))
  (try have z6_2 : w2.heap.size < w6.heap.size := (by omega))
  (try have z6_3 : w3.heap.size < w6.heap.size := (by omega))
  (try have z6_4 : w4.heap.size < w6.heap.size := (by omega))
  go_wp2_with fail
  refine (sub_Check false false false true _).mono ?_
  rintro e w7 ⟨rfl, hb7⟩
  obtain ⟨hc7, hf7, hz7, hB7⟩ := bfacts (w := w) hb7 (by go_grown)
  (try simp only [World.size_alloc] at hz7)
  (try have z7_0 : w.heap.size < w7.heap.size := (by omega))
  (try have z7_1 : w1.heap.size < w7.heap.size := (by omega))
  (try have z7_2 : w2.heap.size < w7.heap.size := (by omega))
  (try have z7_3 : w3.heap.size < w7.heap.size := (by omega))
  (try have z7_4 : w4.heap.size < w7.heap.size := (by omega))
  go_wp2_with fail
  go_returns
  exact ⟨rfl, by go_grown⟩

set_option maxRecDepth 100000 in
set_option maxHeartbeats 4000000 in
theorem quiet4_1010 (w : World) : Calls Try.prog 4 #[.agg #[.bool true, .bool false, .bool true, .bool false], .int .u8 4] w (Ret w (.bool true)) := by
  go_enter Try.func4, Try.ntmps4
  go_wp2_with fail
  refine (alive20 _).mono ?_
  rintro e w1 ⟨rfl, hb1⟩
  obtain ⟨hc1, hf1, hz1, hB1⟩ := bfacts (w := w) hb1 (by go_grown)
  (try simp only [World.size_alloc] at hz1)
  (try have z1_0 : w.heap.size < w1.heap.size := (by omega))
  (try have z1_1 : w1.heap.size < w1.heap.size := (by omega))
  (try have z1_2 : w2.heap.size < w1.heap.size := (by omega))
  (try have z1_3 : w3.heap.size < w1.heap.size := (by omega))
  (try have z1_4 : w4.heap.size < w1.heap.size := (by omega))
  go_wp2_with fail
  refine (sub_Send4 true false true false rfl _).mono ?_
  rintro e w2 ⟨rfl, hb2⟩
  obtain ⟨hc2, hf2, hz2, hB2⟩ := bfacts (w := w) hb2 (by go_grown)
  (try simp only [World.size_alloc] at hz2)
  (try have z2_0 : w.heap.size < w2.heap.size := (by omega))
  (try have z2_1 : w1.heap.size < w2.heap.size := (by omega))
  (try have z2_2 : w2.heap.size < w2.heap.size := (by omega))
  (try have z2_3 : w3.heap.size < w2.heap.size := (by omega))
  (try have z2_4 : w4.heap.size < w2.heap.size := (by omega))
  go_wp2_with fail
  refine (sub_Take4 true false true false rfl _).mono ?_
  rintro e w3 ⟨rfl, hb3⟩
  obtain ⟨hc3, hf3, hz3, hB3⟩ := bfacts (w := w) hb3 (by go_grown)
  (try simp only [World.size_alloc] at hz3)
  (try have z3_0 : w.heap.size < w3.heap.size := (by omega))
  (try have z3_1 : w1.heap.size < w3.heap.size := (by omega))
  (try have z3_2 : w2.heap.size < w3.heap.size := (by omega))
  (try have z3_3 : w3.heap.size < w3.heap.size := (by omega))
  (try have z3_4 : w4.heap.size < w3.heap.size := (by omega))
  go_wp2_with fail
  refine (sub_Send4 true false false false rfl _).mono ?_
  rintro e w4 ⟨rfl, hb4⟩
  obtain ⟨hc4, hf4, hz4, hB4⟩ := bfacts (w := w) hb4 (by go_grown)
  (try simp only [World.size_alloc] at hz4)
  (try have z4_0 : w.heap.size < w4.heap.size := (by omega))
  (try have z4_1 : w1.heap.size < w4.heap.size := (by omega))
  (try have z4_2 : w2.heap.size < w4.heap.size := (by omega))
  (try have z4_3 : w3.heap.size < w4.heap.size := (by omega))
  (try have z4_4 : w4.heap.size < w4.heap.size := (by omega))
  go_wp2_with fail
  refine (sub_Take4 false false true false rfl _).mono ?_
  rintro e w5 ⟨rfl, hb5⟩
  obtain ⟨hc5, hf5, hz5, hB5⟩ := bfacts (w := w) hb5 (by go_grown)
  (try simp only [World.size_alloc] at hz5)
  (try have z5_0 : w.heap.size < w5.heap.size := (by omega))
  (try have z5_1 : w1.heap.size < w5.heap.size := (by omega))
  (try have z5_2 : w2.heap.size < w5.heap.size := (by omega))
  (try have z5_3 : w3.heap.size < w5.heap.size := (by omega))
  (try have z5_4 : w4.heap.size < w5.heap.size := (by omega))
  go_wp2_with fail
  refine (sub_Check true false false false _).mono ?_
  rintro e w6 ⟨rfl, hb6⟩
  obtain ⟨hc6, hf6, hz6, hB6⟩ := bfacts (w := w) hb6 (by go_grown)
  (try simp only [World.size_alloc] at hz6)
  (try have z6_0 : w.heap.size < w6.heap.size := (by omega))
  (try have z6_1 : w1.heap.size < w6.heap.size := (by omega))
  (try have z6_2 : w2.heap.size < w6.heap.size := (by omega))
  (try have z6_3 : w3.heap.size < w6.heap.size := (by omega))
  (try have z6_4 : w4.heap.size < w6.heap.size := (by omega))
  go_wp2_with fail
  refine (sub_Check false false true false _).mono ?_
  rintro e w7 ⟨rfl, hb7⟩
  obtain ⟨hc7, hf7, hz7, hB7⟩ := bfacts (w := w) hb7 (by go_grown)
  (try simp only [World.size_alloc] at hz7)
  (try have z7_0 : w.heap.size < w7.heap.size := (by omega))
  (try have z7_1 : w1.heap.size < w7.heap.size := (by omega))
  (try have z7_2 : w2.heap.size < w7.heap.size := (by omega))
  (try have z7_3 : w3.heap.size < w7.heap.size := (by omega))
  (try have z7_4 : w4.heap.size < w7.heap.size := (by omega))
  go_wp2_with fail
  go_returns
  exact ⟨rfl, by go_grown⟩

end Go.Proofs.Ytgechifpappipaa
