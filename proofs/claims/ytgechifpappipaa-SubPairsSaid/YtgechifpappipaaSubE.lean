/- sub.Name: a state's name. PRINTED BY PROGRAM (gen_law20.py). -/
import Derived.Test.YtgechifpappipaaSubA
import Derived.Test.YtgechifpappipaaRef20
namespace Go.Proofs.Ytgechifpappipaa
open Go.RowKit
set_option maxHeartbeats 2000000 in
theorem sub_Name (a b c d : Bool) (w : World) (ho : (a && b || c && d) = false) : Calls Try.prog 18 #[.agg #[.bool a, .bool b, .bool c, .bool d]] w (Ret w (.tuple #[.string (subName a c), .bool b, .int .i64 0])) := by
  have HO := Lib.hid ho
  clear ho
  cases a <;> cases c
  all_goals
    go_enter Try.func18, Try.ntmps18
    go_wp2_with (first
      | (go_at_call 11; refine (sub_Check _ _ _ _ _).mono ?_; rw [HO.out]; rintro e w1 ⟨rfl, hb⟩; obtain ⟨hc, hf, hz, hB⟩ := bfacts (w := w) hb (by go_grown); simp only [World.size_alloc] at hz; have z0 : w.heap.size < w1.heap.size := (by omega))
      | (go_at_call 27; refine (sub_halves _ _ _ _ _).mono ?_; rintro e w2 ⟨rfl, hb2⟩; obtain ⟨hc2, hf2, hz2, hB2⟩ := bfacts (w := w) hb2 (by go_grown); have z2 : w.heap.size < w2.heap.size := (by omega)))
    go_quiet (fail)
    go_wp2
    go_returns
    exact ⟨rfl, by refine below_drewN ?_ _; go_grown⟩
set_option maxHeartbeats 2000000 in
theorem sub_Name_bad (a b c d : Bool) (w : World) (ho : (a && b || c && d) = true) : Calls Try.prog 18 #[.agg #[.bool a, .bool b, .bool c, .bool d]] w (Ret w (.tuple #[.string ⟨#[]⟩, .bool false, .int .i64 8])) := by
  have HO := Lib.hid ho
  clear ho
  go_enter Try.func18, Try.ntmps18
  go_wp2_with (go_at_call 11; refine (sub_Check _ _ _ _ _).mono ?_; rw [HO.out]; rintro e w1 ⟨rfl, hb⟩; obtain ⟨hc, hf, hz, hB⟩ := bfacts (w := w) hb (by go_grown))
  go_returns
  exact ⟨rfl, by go_grown⟩
end Go.Proofs.Ytgechifpappipaa
