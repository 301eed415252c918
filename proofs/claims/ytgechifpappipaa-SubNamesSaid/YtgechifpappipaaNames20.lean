/- The law SubNames: numbers, names, and more examples. PRINTED BY PROGRAM (gen_out20b.py). -/
import Derived.Test.YtgechifpappipaaAlive20
import Derived.Test.YtgechifpappipaaTells20
namespace Go.Proofs.Ytgechifpappipaa
open Go.RowKit
attribute [local go_sem ↓] Go.wp_at_zero Go.wp_at_succ
theorem name_1 (w : World) : Calls Try.prog 18 #[.agg #[.bool true, .bool false, .bool true, .bool false]] w (Ret w (.tuple #[.string ⟨#[98, 111, 116, 104]⟩, .bool false, .int .i64 0])) := sub_Name true false true false w rfl
theorem name_2 (w : World) : Calls Try.prog 18 #[.agg #[.bool false, .bool true, .bool true, .bool false]] w (Ret w (.tuple #[.string ⟨#[102, 114, 111, 109]⟩, .bool true, .int .i64 0])) := sub_Name false true true false w rfl
theorem name_3 (w : World) : Calls Try.prog 18 #[.agg #[.bool false, .bool false, .bool false, .bool true]] w (Ret w (.tuple #[.string ⟨#[110, 111, 110, 101]⟩, .bool false, .int .i64 0])) := sub_Name false false false true w rfl
theorem name_4 (w : World) : Calls Try.prog 18 #[.agg #[.bool true, .bool false, .bool false, .bool true]] w (Ret w (.tuple #[.string ⟨#[116, 111]⟩, .bool false, .int .i64 0])) := sub_Name true false false true w rfl

set_option maxRecDepth 100000 in
set_option maxHeartbeats 16000000 in
theorem names_walk (w : World) : Calls Try.prog 6 #[] w (Ret w (.bool true)) := by
  go_enter Try.func6, Try.ntmps6
  go_wp2_with fail
  refine (sub_Send_bad true true false false rfl 1 _).mono ?_
  rintro e w1 ⟨rfl, hb1⟩
  obtain ⟨hc1, hf1, hz1, hB1⟩ := bfacts (w := w) hb1 (by go_grown)
  (try simp only [World.size_alloc] at hz1)
  (try have z1_0 : w.heap.size < w1.heap.size := (by omega))
  (try have z1_1 : w.heap.size + 1 < w1.heap.size := (by omega))
  (try have z1_2 : w.heap.size + 2 < w1.heap.size := (by omega))
  (try have z1_3 : w.heap.size + 3 < w1.heap.size := (by omega))
  (try have z1_4 : w1.heap.size < w1.heap.size := (by omega))
  (try have z1_5 : w2.heap.size < w1.heap.size := (by omega))
  (try have z1_6 : w3.heap.size < w1.heap.size := (by omega))
  (try have z1_7 : w7.heap.size < w1.heap.size := (by omega))
  go_wp2_with fail
  refine (sub_Send_not false false false false rfl 0 (find_sent 0 (by omega)) _).mono ?_
  rintro e w2 ⟨rfl, hb2⟩
  obtain ⟨hc2, hf2, hz2, hB2⟩ := bfacts (w := w) hb2 (by go_grown)
  (try simp only [World.size_alloc] at hz2)
  (try have z2_0 : w.heap.size < w2.heap.size := (by omega))
  (try have z2_1 : w.heap.size + 1 < w2.heap.size := (by omega))
  (try have z2_2 : w.heap.size + 2 < w2.heap.size := (by omega))
  (try have z2_3 : w.heap.size + 3 < w2.heap.size := (by omega))
  (try have z2_4 : w1.heap.size < w2.heap.size := (by omega))
  (try have z2_5 : w2.heap.size < w2.heap.size := (by omega))
  (try have z2_6 : w3.heap.size < w2.heap.size := (by omega))
  (try have z2_7 : w7.heap.size < w2.heap.size := (by omega))
  go_wp2_with fail
  refine (sub_Take_not false false false false rfl 5 (find_taken 5 (by omega)) _).mono ?_
  rintro e w3 ⟨rfl, hb3⟩
  obtain ⟨hc3, hf3, hz3, hB3⟩ := bfacts (w := w) hb3 (by go_grown)
  (try simp only [World.size_alloc] at hz3)
  (try have z3_0 : w.heap.size < w3.heap.size := (by omega))
  (try have z3_1 : w.heap.size + 1 < w3.heap.size := (by omega))
  (try have z3_2 : w.heap.size + 2 < w3.heap.size := (by omega))
  (try have z3_3 : w.heap.size + 3 < w3.heap.size := (by omega))
  (try have z3_4 : w1.heap.size < w3.heap.size := (by omega))
  (try have z3_5 : w2.heap.size < w3.heap.size := (by omega))
  (try have z3_6 : w3.heap.size < w3.heap.size := (by omega))
  (try have z3_7 : w7.heap.size < w3.heap.size := (by omega))
  go_wp2_with fail
  refine (name_1 _).mono ?_
  rintro e w4 ⟨rfl, hb4⟩
  obtain ⟨hc4, hf4, hz4, hB4⟩ := bfacts (w := w) hb4 (by go_grown)
  (try simp only [World.size_alloc] at hz4)
  (try have z4_0 : w.heap.size < w4.heap.size := (by omega))
  (try have z4_1 : w.heap.size + 1 < w4.heap.size := (by omega))
  (try have z4_2 : w.heap.size + 2 < w4.heap.size := (by omega))
  (try have z4_3 : w.heap.size + 3 < w4.heap.size := (by omega))
  (try have z4_4 : w1.heap.size < w4.heap.size := (by omega))
  (try have z4_5 : w2.heap.size < w4.heap.size := (by omega))
  (try have z4_6 : w3.heap.size < w4.heap.size := (by omega))
  (try have z4_7 : w7.heap.size < w4.heap.size := (by omega))
  go_wp2_with fail
  refine (name_2 _).mono ?_
  rintro e w5 ⟨rfl, hb5⟩
  obtain ⟨hc5, hf5, hz5, hB5⟩ := bfacts (w := w) hb5 (by go_grown)
  (try simp only [World.size_alloc] at hz5)
  (try have z5_0 : w.heap.size < w5.heap.size := (by omega))
  (try have z5_1 : w.heap.size + 1 < w5.heap.size := (by omega))
  (try have z5_2 : w.heap.size + 2 < w5.heap.size := (by omega))
  (try have z5_3 : w.heap.size + 3 < w5.heap.size := (by omega))
  (try have z5_4 : w1.heap.size < w5.heap.size := (by omega))
  (try have z5_5 : w2.heap.size < w5.heap.size := (by omega))
  (try have z5_6 : w3.heap.size < w5.heap.size := (by omega))
  (try have z5_7 : w7.heap.size < w5.heap.size := (by omega))
  go_wp2_with fail
  refine (name_3 _).mono ?_
  rintro e w6 ⟨rfl, hb6⟩
  obtain ⟨hc6, hf6, hz6, hB6⟩ := bfacts (w := w) hb6 (by go_grown)
  (try simp only [World.size_alloc] at hz6)
  (try have z6_0 : w.heap.size < w6.heap.size := (by omega))
  (try have z6_1 : w.heap.size + 1 < w6.heap.size := (by omega))
  (try have z6_2 : w.heap.size + 2 < w6.heap.size := (by omega))
  (try have z6_3 : w.heap.size + 3 < w6.heap.size := (by omega))
  (try have z6_4 : w1.heap.size < w6.heap.size := (by omega))
  (try have z6_5 : w2.heap.size < w6.heap.size := (by omega))
  (try have z6_6 : w3.heap.size < w6.heap.size := (by omega))
  (try have z6_7 : w7.heap.size < w6.heap.size := (by omega))
  go_wp2_with fail
  refine (name_4 _).mono ?_
  rintro e w7 ⟨rfl, hb7⟩
  obtain ⟨hc7, hf7, hz7, hB7⟩ := bfacts (w := w) hb7 (by go_grown)
  (try simp only [World.size_alloc] at hz7)
  (try have z7_0 : w.heap.size < w7.heap.size := (by omega))
  (try have z7_1 : w.heap.size + 1 < w7.heap.size := (by omega))
  (try have z7_2 : w.heap.size + 2 < w7.heap.size := (by omega))
  (try have z7_3 : w.heap.size + 3 < w7.heap.size := (by omega))
  (try have z7_4 : w1.heap.size < w7.heap.size := (by omega))
  (try have z7_5 : w2.heap.size < w7.heap.size := (by omega))
  (try have z7_6 : w3.heap.size < w7.heap.size := (by omega))
  (try have z7_7 : w7.heap.size < w7.heap.size := (by omega))
  go_wp2_with fail
  refine (sends_true true false true false true false false false true 4 _ (fun W => sub_Send4 true false true false rfl W)).mono ?_
  rintro e w8 ⟨rfl, hb8⟩
  obtain ⟨hc8, hf8, hz8, hB8⟩ := bfacts (w := w) hb8 (by go_grown)
  (try simp only [World.size_alloc] at hz8)
  (try have z8_0 : w.heap.size < w8.heap.size := (by omega))
  (try have z8_1 : w.heap.size + 1 < w8.heap.size := (by omega))
  (try have z8_2 : w.heap.size + 2 < w8.heap.size := (by omega))
  (try have z8_3 : w.heap.size + 3 < w8.heap.size := (by omega))
  (try have z8_4 : w1.heap.size < w8.heap.size := (by omega))
  (try have z8_5 : w2.heap.size < w8.heap.size := (by omega))
  (try have z8_6 : w3.heap.size < w8.heap.size := (by omega))
  (try have z8_7 : w7.heap.size < w8.heap.size := (by omega))
  go_wp2_with fail
  refine (sends_true true false true false false false true false true 3 _ (fun W => sub_Send3 true false true false rfl W)).mono ?_
  rintro e w9 ⟨rfl, hb9⟩
  obtain ⟨hc9, hf9, hz9, hB9⟩ := bfacts (w := w) hb9 (by go_grown)
  (try simp only [World.size_alloc] at hz9)
  (try have z9_0 : w.heap.size < w9.heap.size := (by omega))
  (try have z9_1 : w.heap.size + 1 < w9.heap.size := (by omega))
  (try have z9_2 : w.heap.size + 2 < w9.heap.size := (by omega))
  (try have z9_3 : w.heap.size + 3 < w9.heap.size := (by omega))
  (try have z9_4 : w1.heap.size < w9.heap.size := (by omega))
  (try have z9_5 : w2.heap.size < w9.heap.size := (by omega))
  (try have z9_6 : w3.heap.size < w9.heap.size := (by omega))
  (try have z9_7 : w7.heap.size < w9.heap.size := (by omega))
  go_wp2_with fail
  refine (sends_true false false false false false false false false false 4 _ (fun W => sub_Send4 false false false false rfl W)).mono ?_
  rintro e w10 ⟨rfl, hb10⟩
  obtain ⟨hc10, hf10, hz10, hB10⟩ := bfacts (w := w) hb10 (by go_grown)
  (try simp only [World.size_alloc] at hz10)
  (try have z10_0 : w.heap.size < w10.heap.size := (by omega))
  (try have z10_1 : w.heap.size + 1 < w10.heap.size := (by omega))
  (try have z10_2 : w.heap.size + 2 < w10.heap.size := (by omega))
  (try have z10_3 : w.heap.size + 3 < w10.heap.size := (by omega))
  (try have z10_4 : w1.heap.size < w10.heap.size := (by omega))
  (try have z10_5 : w2.heap.size < w10.heap.size := (by omega))
  (try have z10_6 : w3.heap.size < w10.heap.size := (by omega))
  (try have z10_7 : w7.heap.size < w10.heap.size := (by omega))
  go_wp2_with fail
  refine (sends_true false false false false false false false false false 2 _ (fun W => sub_Send2 false false false false rfl W)).mono ?_
  rintro e w11 ⟨rfl, hb11⟩
  obtain ⟨hc11, hf11, hz11, hB11⟩ := bfacts (w := w) hb11 (by go_grown)
  (try simp only [World.size_alloc] at hz11)
  (try have z11_0 : w.heap.size < w11.heap.size := (by omega))
  (try have z11_1 : w.heap.size + 1 < w11.heap.size := (by omega))
  (try have z11_2 : w.heap.size + 2 < w11.heap.size := (by omega))
  (try have z11_3 : w.heap.size + 3 < w11.heap.size := (by omega))
  (try have z11_4 : w1.heap.size < w11.heap.size := (by omega))
  (try have z11_5 : w2.heap.size < w11.heap.size := (by omega))
  (try have z11_6 : w3.heap.size < w11.heap.size := (by omega))
  (try have z11_7 : w7.heap.size < w11.heap.size := (by omega))
  go_wp2_with fail
  refine (sends_true true false true false true false true false true 1 _ (fun W => sub_Send1 true false true false rfl W)).mono ?_
  rintro e w12 ⟨rfl, hb12⟩
  obtain ⟨hc12, hf12, hz12, hB12⟩ := bfacts (w := w) hb12 (by go_grown)
  (try simp only [World.size_alloc] at hz12)
  (try have z12_0 : w.heap.size < w12.heap.size := (by omega))
  (try have z12_1 : w.heap.size + 1 < w12.heap.size := (by omega))
  (try have z12_2 : w.heap.size + 2 < w12.heap.size := (by omega))
  (try have z12_3 : w.heap.size + 3 < w12.heap.size := (by omega))
  (try have z12_4 : w1.heap.size < w12.heap.size := (by omega))
  (try have z12_5 : w2.heap.size < w12.heap.size := (by omega))
  (try have z12_6 : w3.heap.size < w12.heap.size := (by omega))
  (try have z12_7 : w7.heap.size < w12.heap.size := (by omega))
  go_wp2_with fail
  refine (takes_true true false true false true false false false true 3 0 _ (fun W => sub_Take3 true false true false rfl W)).mono ?_
  rintro e w13 ⟨rfl, hb13⟩
  obtain ⟨hc13, hf13, hz13, hB13⟩ := bfacts (w := w) hb13 (by go_grown)
  (try simp only [World.size_alloc] at hz13)
  (try have z13_0 : w.heap.size < w13.heap.size := (by omega))
  (try have z13_1 : w.heap.size + 1 < w13.heap.size := (by omega))
  (try have z13_2 : w.heap.size + 2 < w13.heap.size := (by omega))
  (try have z13_3 : w.heap.size + 3 < w13.heap.size := (by omega))
  (try have z13_4 : w1.heap.size < w13.heap.size := (by omega))
  (try have z13_5 : w2.heap.size < w13.heap.size := (by omega))
  (try have z13_6 : w3.heap.size < w13.heap.size := (by omega))
  (try have z13_7 : w7.heap.size < w13.heap.size := (by omega))
  go_wp2_with fail
  refine (takes_true false false false false false false false false false 2 0 _ (fun W => sub_Take2 false false false false rfl W)).mono ?_
  rintro e w14 ⟨rfl, hb14⟩
  obtain ⟨hc14, hf14, hz14, hB14⟩ := bfacts (w := w) hb14 (by go_grown)
  (try simp only [World.size_alloc] at hz14)
  (try have z14_0 : w.heap.size < w14.heap.size := (by omega))
  (try have z14_1 : w.heap.size + 1 < w14.heap.size := (by omega))
  (try have z14_2 : w.heap.size + 2 < w14.heap.size := (by omega))
  (try have z14_3 : w.heap.size + 3 < w14.heap.size := (by omega))
  (try have z14_4 : w1.heap.size < w14.heap.size := (by omega))
  (try have z14_5 : w2.heap.size < w14.heap.size := (by omega))
  (try have z14_6 : w3.heap.size < w14.heap.size := (by omega))
  (try have z14_7 : w7.heap.size < w14.heap.size := (by omega))
  go_wp2_with fail
  refine (takes_true false false false false false false false true true 1 0 _ (fun W => sub_Take1f false false false rfl W)).mono ?_
  rintro e w15 ⟨rfl, hb15⟩
  obtain ⟨hc15, hf15, hz15, hB15⟩ := bfacts (w := w) hb15 (by go_grown)
  (try simp only [World.size_alloc] at hz15)
  (try have z15_0 : w.heap.size < w15.heap.size := (by omega))
  (try have z15_1 : w.heap.size + 1 < w15.heap.size := (by omega))
  (try have z15_2 : w.heap.size + 2 < w15.heap.size := (by omega))
  (try have z15_3 : w.heap.size + 3 < w15.heap.size := (by omega))
  (try have z15_4 : w1.heap.size < w15.heap.size := (by omega))
  (try have z15_5 : w2.heap.size < w15.heap.size := (by omega))
  (try have z15_6 : w3.heap.size < w15.heap.size := (by omega))
  (try have z15_7 : w7.heap.size < w15.heap.size := (by omega))
  go_wp2_with fail
  refine (takes_true false false false true false false false true false 1 0 _ (fun W => sub_Take1f false false true rfl W)).mono ?_
  rintro e w16 ⟨rfl, hb16⟩
  obtain ⟨hc16, hf16, hz16, hB16⟩ := bfacts (w := w) hb16 (by go_grown)
  (try simp only [World.size_alloc] at hz16)
  (try have z16_0 : w.heap.size < w16.heap.size := (by omega))
  (try have z16_1 : w.heap.size + 1 < w16.heap.size := (by omega))
  (try have z16_2 : w.heap.size + 2 < w16.heap.size := (by omega))
  (try have z16_3 : w.heap.size + 3 < w16.heap.size := (by omega))
  (try have z16_4 : w1.heap.size < w16.heap.size := (by omega))
  (try have z16_5 : w2.heap.size < w16.heap.size := (by omega))
  (try have z16_6 : w3.heap.size < w16.heap.size := (by omega))
  (try have z16_7 : w7.heap.size < w16.heap.size := (by omega))
  go_wp2_with fail
  refine (takes_true false true false true false false false true true 4 0 _ (fun W => sub_Take4 false true false true rfl W)).mono ?_
  rintro e w17 ⟨rfl, hb17⟩
  obtain ⟨hc17, hf17, hz17, hB17⟩ := bfacts (w := w) hb17 (by go_grown)
  (try simp only [World.size_alloc] at hz17)
  (try have z17_0 : w.heap.size < w17.heap.size := (by omega))
  (try have z17_1 : w.heap.size + 1 < w17.heap.size := (by omega))
  (try have z17_2 : w.heap.size + 2 < w17.heap.size := (by omega))
  (try have z17_3 : w.heap.size + 3 < w17.heap.size := (by omega))
  (try have z17_4 : w1.heap.size < w17.heap.size := (by omega))
  (try have z17_5 : w2.heap.size < w17.heap.size := (by omega))
  (try have z17_6 : w3.heap.size < w17.heap.size := (by omega))
  (try have z17_7 : w7.heap.size < w17.heap.size := (by omega))
  go_wp2_with fail
  refine (alive20 _).mono ?_
  rintro e w18 ⟨rfl, hb18⟩
  obtain ⟨hc18, hf18, hz18, hB18⟩ := bfacts (w := w) hb18 (by go_grown)
  (try simp only [World.size_alloc] at hz18)
  (try have z18_0 : w.heap.size < w18.heap.size := (by omega))
  (try have z18_1 : w.heap.size + 1 < w18.heap.size := (by omega))
  (try have z18_2 : w.heap.size + 2 < w18.heap.size := (by omega))
  (try have z18_3 : w.heap.size + 3 < w18.heap.size := (by omega))
  (try have z18_4 : w1.heap.size < w18.heap.size := (by omega))
  (try have z18_5 : w2.heap.size < w18.heap.size := (by omega))
  (try have z18_6 : w3.heap.size < w18.heap.size := (by omega))
  (try have z18_7 : w7.heap.size < w18.heap.size := (by omega))
  go_wp2_with fail
  go_returns
  exact ⟨rfl, by go_grown⟩
end Go.Proofs.Ytgechifpappipaa
