/- The leaves of the package sub: what each rule's part, and each half of a state, comes to. -/
import Derived.Test.YtgechifpappipaaRows
import Derived.Test.YtgechifpappipaaKit
namespace Go.Proofs.Ytgechifpappipaa
open Go.RowKit

theorem sub_any (a b : Bool) (w : World) : Calls Try.prog 49 #[.agg #[.bool a, .bool b]] w (Ret w (.bool (a || b))) := by
  cases a
  all_goals
    go_enter Try.func49, Try.ntmps49
    go_wp2
    go_ret
    exact ⟨by simp, (Below.refl _ _).alloc (Nat.le_refl _) _⟩
theorem sub_ask (a b : Bool) (w : World) : Calls Try.prog 41 #[.agg #[.bool a, .bool b]] w (Ret w (.agg #[.bool a, .bool !a])) := by
  go_enter Try.func41, Try.ntmps41
  go_wp2
  go_returns
  exact ⟨rfl, by go_grown⟩
theorem sub_yes (a b : Bool) (w : World) : Calls Try.prog 44 #[.agg #[.bool a, .bool b]] w (Ret w (.agg #[.bool (a || b), .bool false])) := by
  go_enter Try.func44, Try.ntmps44
  go_wp2_with (go_at_call 49; refine (sub_any _ _ _).mono ?_; rintro e w' ⟨rfl, hb⟩; obtain ⟨hc, hf⟩ := bcell hb; have hz := hb.size)
  refine bodyPost_ret (v := .agg #[.bool (a || b), .bool false]) (by simp [results, Try.results44, go_sem, hc]) rfl ?_
  exact ⟨rfl, ((((Below.refl _ _).alloc (Nat.le_refl _) _).alloc (by simp) _).trans (hb.mono (by simp; omega))).setCell (by simp) _ |>.setCell (by simp) _⟩
theorem sub_none (a b : Bool) (w : World) : Calls Try.prog 43 #[.agg #[.bool a, .bool b]] w (Ret w (.agg #[.bool false, .bool false])) := by
  go_enter Try.func43, Try.ntmps43
  go_wp2
  go_returns
  exact ⟨rfl, by go_grown⟩
theorem sub_always (a b : Bool) (w : World) : Calls Try.prog 42 #[.agg #[.bool a, .bool b]] w (Ret w (.bool true)) := by
  go_enter Try.func42, Try.ntmps42
  go_wp2
  go_returns
  exact ⟨rfl, by go_grown⟩
theorem sub_waits (a b : Bool) (w : World) : Calls Try.prog 45 #[.agg #[.bool a, .bool b]] w (Ret w (.bool b)) := by
  go_enter Try.func45, Try.ntmps45
  go_wp2
  go_returns
  exact ⟨rfl, by go_grown⟩
theorem sub_never (a b : Bool) (w : World) : Calls Try.prog 47 #[.agg #[.bool a, .bool b]] w (Ret w (.bool (!(a || b)))) := by
  cases a <;> cases b
  all_goals
    go_enter Try.func47, Try.ntmps47
    go_wp2
    go_returns
    exact ⟨rfl, by go_grown⟩
theorem sub_either (a b : Bool) (w : World) : Calls Try.prog 46 #[.agg #[.bool a, .bool b]] w (Ret w (.bool (a || b))) := by
  cases a <;> cases b
  all_goals
    go_enter Try.func46, Try.ntmps46
    go_wp2
    go_returns
    exact ⟨rfl, by go_grown⟩
theorem sub_halves (a b c d : Bool) (w : World) : Calls Try.prog 27 #[.agg #[.bool a, .bool b, .bool c, .bool d]] w (Ret w (.tuple #[.agg #[.bool a, .bool b], .agg #[.bool c, .bool d]])) := by
  go_enter Try.func27, Try.ntmps27
  go_wp2
  go_region
  all_goals go_wp2
  all_goals go_returns
  all_goals exact ⟨rfl, by go_grown⟩
theorem sub_whole (a b c d : Bool) (w : World) : Calls Try.prog 28 #[.agg #[.bool a, .bool b], .agg #[.bool c, .bool d]] w (Ret w (.agg #[.bool a, .bool b, .bool c, .bool d])) := by
  go_enter Try.func28, Try.ntmps28
  go_wp2
  go_returns
  exact ⟨rfl, by go_grown⟩
theorem sub_Check (a b c d : Bool) (w : World) : Calls Try.prog 11 #[.agg #[.bool a, .bool b, .bool c, .bool d]] w (Ret w (.int .i64 (if a && b || c && d then 8 else 0))) := by
  cases a <;> cases b <;> cases c <;> cases d
  all_goals
    go_enter Try.func11, Try.ntmps11
    go_wp2
    go_returns
    exact ⟨rfl, by go_grown⟩
end Go.Proofs.Ytgechifpappipaa
