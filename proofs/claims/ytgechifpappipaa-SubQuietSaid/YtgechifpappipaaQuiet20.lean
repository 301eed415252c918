/- The law SubQuiet, joined. PRINTED BY PROGRAM (gen_out20b.py). -/
import Derived.Test.YtgechifpappipaaQuiet20a
import Derived.Test.YtgechifpappipaaQuiet20b
namespace Go.Proofs.Ytgechifpappipaa
open Go.RowKit
theorem quiet_walk (a b c d : Bool) (k : Int) (w : World) : Calls Try.prog 4 #[.agg #[.bool a, .bool b, .bool c, .bool d], .int .u8 k] w (Ret w (.bool true)) := by
  cases ho : (a && b || c && d)
  · by_cases h1 : k < 1
    · exact quiet_not a b c d ho k (.inl h1) w
    by_cases h4 : 4 < k
    · exact quiet_not a b c d ho k (.inr h4) w
    obtain rfl | rfl | rfl | rfl : k = 1 ∨ k = 2 ∨ k = 3 ∨ k = 4 := by omega
    · cases a <;> cases b <;> cases c <;> cases d
      · exact quiet1_0000 w
      · exact quiet1_0001 w
      · exact quiet1_0010 w
      · simp at ho
      · exact quiet1_0100 w
      · exact quiet1_0101 w
      · exact quiet1_0110 w
      · simp at ho
      · exact quiet1_1000 w
      · exact quiet1_1001 w
      · exact quiet1_1010 w
      · simp at ho
      · simp at ho
      · simp at ho
      · simp at ho
      · simp at ho
    · cases a <;> cases b <;> cases c <;> cases d
      · exact quiet2_0000 w
      · exact quiet2_0001 w
      · exact quiet2_0010 w
      · simp at ho
      · exact quiet2_0100 w
      · exact quiet2_0101 w
      · exact quiet2_0110 w
      · simp at ho
      · exact quiet2_1000 w
      · exact quiet2_1001 w
      · exact quiet2_1010 w
      · simp at ho
      · simp at ho
      · simp at ho
      · simp at ho
      · simp at ho
    · cases a <;> cases b <;> cases c <;> cases d
      · exact quiet3_0000 w
      · exact quiet3_0001 w
      · exact quiet3_0010 w
      · simp at ho
      · exact quiet3_0100 w
      · exact quiet3_0101 w
      · exact quiet3_0110 w
      · simp at ho
      · exact quiet3_1000 w
      · exact quiet3_1001 w
      · exact quiet3_1010 w
      · simp at ho
      · simp at ho
      · simp at ho
      · simp at ho
      · simp at ho
    · cases a <;> cases b <;> cases c <;> cases d
      · exact quiet4_0000 w
      · exact quiet4_0001 w
      · exact quiet4_0010 w
      · simp at ho
      · exact quiet4_0100 w
      · exact quiet4_0101 w
      · exact quiet4_0110 w
      · simp at ho
      · exact quiet4_1000 w
      · exact quiet4_1001 w
      · exact quiet4_1010 w
      · simp at ho
      · simp at ho
      · simp at ho
      · simp at ho
      · simp at ho
  · exact quiet_bad a b c d ho k w
end Go.Proofs.Ytgechifpappipaa
