/- num.from: whether a number is from one to another one. -/
import Derived.Test.YtgechifpappipaaDoorRows
import Derived.Test.YtgechifpappipaaDoorKit
namespace Go.Proofs.YtgechifpappipaaDoor
open Go.RowKit
/-- num.from. -/
theorem num_from (n a b : Int) (w : World) : Calls Tryd.prog 19 #[.int .i64 n, .int .i64 a, .int .i64 b] w (Ret w (.bool (decide (a ≤ n) && decide (n ≤ b)))) := by
  by_cases h1 : a ≤ n
  · go_enter Tryd.func19, Tryd.ntmps19
    go_wp2
    go_ret
    exact ⟨by simp [h1], by go_grown⟩
  · go_enter Tryd.func19, Tryd.ntmps19
    go_wp2
    go_ret
    exact ⟨by rw [decide_eq_false (by omega : ¬ a ≤ n)]; rfl, by go_grown⟩

theorem num_from_t (n a b : Int) (h1 : a ≤ n) (h2 : n ≤ b) (w : World) : Calls Tryd.prog 19 #[.int .i64 n, .int .i64 a, .int .i64 b] w (Ret w (.bool true)) := by
  have h := num_from n a b w
  rw [decide_eq_true h1, decide_eq_true h2] at h
  exact h
theorem num_from_f (n a b : Int) (h : n < a ∨ b < n) (w : World) : Calls Tryd.prog 19 #[.int .i64 n, .int .i64 a, .int .i64 b] w (Ret w (.bool false)) := by
  have h0 := num_from n a b w
  have e : (decide (a ≤ n) && decide (n ≤ b)) = false := by simp; omega
  rw [e] at h0
  exact h0
end Go.Proofs.YtgechifpappipaaDoor
