/- The first helpers of the outright statements of layer 20: sends, takes, alive. PRINTED BY PROGRAM (gen_out20.py). -/
import Derived.Test.YtgechifpappipaaSubC
import Derived.Test.YtgechifpappipaaSubD
import Derived.Test.YtgechifpappipaaSubE
namespace Go.Proofs.Ytgechifpappipaa
open Go.RowKit
attribute [local go_sem ↓] Go.wp_at_zero Go.wp_at_succ

set_option maxHeartbeats 2000000 in
theorem sends_true (a b c d x y z u g : Bool) (k : Int) (w : World) (h : ∀ W, Calls Try.prog 9 #[.agg #[.bool a, .bool b, .bool c, .bool d], .int .u8 k] W (Ret W (.tuple #[.agg #[.bool x, .bool y, .bool z, .bool u], .bool g, .int .i64 0]))) :
    Calls Try.prog 19 #[.agg #[.bool a, .bool b, .bool c, .bool d], .int .u8 k, .agg #[.bool x, .bool y, .bool z, .bool u], .bool g] w (Ret w (.bool true)) := by
  have H := Lib.hid h
  clear h
  go_enter Try.func19, Try.ntmps19
  go_wp2_with (go_at_call 9; refine (H.out _).mono ?_; rintro e w1 ⟨rfl, hb⟩; obtain ⟨hc, hf, hz, hB⟩ := bfacts (w := w) hb (by go_grown); simp only [World.size_alloc] at hz; have z0 : w.heap.size < w1.heap.size := (by omega); have z1 : w.heap.size + 1 < w1.heap.size := (by omega))
  go_returns
  exact ⟨rfl, by go_grown⟩
set_option maxHeartbeats 2000000 in
theorem takes_true (a b c d x y z u g : Bool) (k m : Int) (w : World) (h : ∀ W, Calls Try.prog 10 #[.agg #[.bool a, .bool b, .bool c, .bool d], .int .u8 k] W (Ret W (.tuple #[.agg #[.bool x, .bool y, .bool z, .bool u], .bool g, .int .u8 m, .int .i64 0]))) :
    Calls Try.prog 20 #[.agg #[.bool a, .bool b, .bool c, .bool d], .int .u8 k, .agg #[.bool x, .bool y, .bool z, .bool u], .bool g, .int .u8 m] w (Ret w (.bool true)) := by
  have H := Lib.hid h
  clear h
  go_enter Try.func20, Try.ntmps20
  go_wp2_with (go_at_call 10; refine (H.out _).mono ?_; rintro e w1 ⟨rfl, hb⟩; obtain ⟨hc, hf, hz, hB⟩ := bfacts (w := w) hb (by go_grown); simp only [World.size_alloc] at hz; have z0 : w.heap.size < w1.heap.size := (by omega); have z1 : w.heap.size + 1 < w1.heap.size := (by omega))
  go_returns
  exact ⟨rfl, by go_grown⟩

set_option maxHeartbeats 4000000 in
theorem alive20 (w : World) : Calls Try.prog 8 #[] w (Ret w (.bool true)) := by
  go_enter Try.func8, Try.ntmps8
  go_wp2_with fail
  refine (sends_true false false false false false true false false true 1 _ (fun W => sub_Send1 false false false false rfl W)).mono ?_
  rintro e w1 ⟨rfl, hb1⟩
  obtain ⟨hc1, hf1, hz1, hB1⟩ := bfacts (w := w) hb1 (by go_grown)
  (try simp only [World.size_alloc] at hz1)
  (try have z1_0 : w.heap.size < w1.heap.size := (by omega))
  (try have z1_1 : w.heap.size + 1 < w1.heap.size := (by omega))
  (try have z1_2 : w.heap.size + 2 < w1.heap.size := (by omega))
  (try have z1_3 : w.heap.size + 3 < w1.heap.size := (by omega))
  go_wp2_with fail
  refine (takes_true false true false false true false false false true 2 0 _ (fun W => sub_Take2 false true false false rfl W)).mono ?_
  rintro e w2 ⟨rfl, hb2⟩
  obtain ⟨hc2, hf2, hz2, hB2⟩ := bfacts (w := w) hb2 (by go_grown)
  (try simp only [World.size_alloc] at hz2)
  (try have z2_0 : w.heap.size < w2.heap.size := (by omega))
  (try have z2_1 : w.heap.size + 1 < w2.heap.size := (by omega))
  (try have z2_2 : w.heap.size + 2 < w2.heap.size := (by omega))
  (try have z2_3 : w.heap.size + 3 < w2.heap.size := (by omega))
  go_wp2_with fail
  refine (takes_true false false true false false false true false false 1 2 _ (fun W => sub_Take1t false false false rfl W)).mono ?_
  rintro e w3 ⟨rfl, hb3⟩
  obtain ⟨hc3, hf3, hz3, hB3⟩ := bfacts (w := w) hb3 (by go_grown)
  (try simp only [World.size_alloc] at hz3)
  (try have z3_0 : w.heap.size < w3.heap.size := (by omega))
  (try have z3_1 : w.heap.size + 1 < w3.heap.size := (by omega))
  (try have z3_2 : w.heap.size + 2 < w3.heap.size := (by omega))
  (try have z3_3 : w.heap.size + 3 < w3.heap.size := (by omega))
  go_wp2_with fail
  refine (sends_true false false false true false false true false true 2 _ (fun W => sub_Send2 false false false true rfl W)).mono ?_
  rintro e w4 ⟨rfl, hb4⟩
  obtain ⟨hc4, hf4, hz4, hB4⟩ := bfacts (w := w) hb4 (by go_grown)
  (try simp only [World.size_alloc] at hz4)
  (try have z4_0 : w.heap.size < w4.heap.size := (by omega))
  (try have z4_1 : w.heap.size + 1 < w4.heap.size := (by omega))
  (try have z4_2 : w.heap.size + 2 < w4.heap.size := (by omega))
  (try have z4_3 : w.heap.size + 3 < w4.heap.size := (by omega))
  go_wp2_with fail
  go_returns
  exact ⟨rfl, by go_grown⟩
end Go.Proofs.Ytgechifpappipaa
