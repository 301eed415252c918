/- Ref20, SubE: put together by mergetpl.py. -/
import Derived.Test.YtfonkblbgadhmaaGreatDoorGa
import Derived.Test.YtfonkblbgadhmaaGreatDoorRows
import Derived.Test.YtfonkblbgadhmaaGreatDoorKh
namespace Go.Proofs.YtfonkblbgadhmaaGreatDoor
open Go.RowKit

theorem ref20_May (a b c d : Bool) (w : World) : Calls Tryz.prog 100 #[.agg #[.bool a, .bool b, .bool c, .bool d]] w (Ret w (.bool !(a && b || c && d))) := by
 cases a <;> cases b <;> cases c <;> cases d
 all_goals
  go_enter Tryz.func100, Tryz.ntmps100
  go_wp2
  go_returns
  exact ⟨rfl, by go_grown⟩
def subName (a c : Bool) : ByteArray := match a, c with
 | true, true => ⟨#[98, 111, 116, 104]⟩
 | true, false => ⟨#[116, 111]⟩
 | false, true => ⟨#[102, 114, 111, 109]⟩
 | false, false => ⟨#[110, 111, 110, 101]⟩
theorem ref20_Word (a b c d : Bool) (w : World) : Calls Tryz.prog 128 #[.agg #[.bool a, .bool b, .bool c, .bool d]] w (Ret w (.string (subName a c))) := by
 cases a <;> cases c
 all_goals
  go_enter Tryz.func128, Tryz.ntmps128
  go_wp2
  go_returns
  exact ⟨rfl, by go_grown⟩
theorem ref20_Sent1 (a b c d : Bool) (w : World) : Calls Tryz.prog 89 #[.agg #[.bool a, .bool b, .bool c, .bool d], .int .u8 1] w (Ret w (.tuple #[.agg #[.bool a, .bool !a, .bool c, .bool d], .bool true])) := by
 cases a
 all_goals
  go_enter Tryz.func89, Tryz.ntmps89
  go_wp2
  go_returns
  exact ⟨by simp, by go_grown⟩
theorem ref20_Sent3 (a b c d : Bool) (w : World) : Calls Tryz.prog 89 #[.agg #[.bool a, .bool b, .bool c, .bool d], .int .u8 3] w (Ret w (.tuple #[.agg #[.bool false, .bool false, .bool c, .bool d], .bool true])) := by
 cases a
 all_goals
  go_enter Tryz.func89, Tryz.ntmps89
  go_wp2
  go_returns
  exact ⟨by simp, by go_grown⟩
theorem ref20_Sent2 (a b c d : Bool) (w : World) : Calls Tryz.prog 89 #[.agg #[.bool a, .bool b, .bool c, .bool d], .int .u8 2] w (Ret w (.tuple #[.agg #[.bool a, .bool b, .bool (c || d), .bool false], .bool d])) := by
 cases c
 all_goals
  go_enter Tryz.func89, Tryz.ntmps89
  go_wp2
  go_returns
  exact ⟨by simp, by go_grown⟩
theorem ref20_Sent4 (a b c d : Bool) (w : World) : Calls Tryz.prog 89 #[.agg #[.bool a, .bool b, .bool c, .bool d], .int .u8 4] w (Ret w (.tuple #[.agg #[.bool a, .bool b, .bool false, .bool false], .bool (c || d)])) := by
 cases c
 all_goals
  go_enter Tryz.func89, Tryz.ntmps89
  go_wp2
  go_returns
  exact ⟨by simp, by go_grown⟩
theorem ref20_Taken1 (a b c d : Bool) (w : World) : Calls Tryz.prog 91 #[.agg #[.bool a, .bool b, .bool c, .bool d], .int .u8 1] w (Ret w (.tuple #[.agg #[.bool a, .bool b, .bool c, .bool (!c || d)], .bool (!(c || d)), .int .u8 (if c then 2 else 0)])) := by
 cases c
 all_goals
  go_enter Tryz.func91, Tryz.ntmps91
  go_wp2
  go_returns
  exact ⟨by simp, by go_grown⟩
theorem ref20_Taken3 (a b c d : Bool) (w : World) : Calls Tryz.prog 91 #[.agg #[.bool a, .bool b, .bool c, .bool d], .int .u8 3] w (Ret w (.tuple #[.agg #[.bool a, .bool b, .bool false, .bool false], .bool (c || d), .int .u8 0])) := by
 cases c
 all_goals
  go_enter Tryz.func91, Tryz.ntmps91
  go_wp2
  go_returns
  exact ⟨by simp, by go_grown⟩
theorem ref20_Taken2 (a b c d : Bool) (w : World) : Calls Tryz.prog 91 #[.agg #[.bool a, .bool b, .bool c, .bool d], .int .u8 2] w (Ret w (.tuple #[.agg #[.bool (a || b), .bool false, .bool c, .bool d], .bool b, .int .u8 0])) := by
 cases a
 all_goals
  go_enter Tryz.func91, Tryz.ntmps91
  go_wp2
  go_returns
  exact ⟨by simp, by go_grown⟩
theorem ref20_Taken4 (a b c d : Bool) (w : World) : Calls Tryz.prog 91 #[.agg #[.bool a, .bool b, .bool c, .bool d], .int .u8 4] w (Ret w (.tuple #[.agg #[.bool false, .bool false, .bool c, .bool d], .bool (a || b), .int .u8 0])) := by
 cases a
 all_goals
  go_enter Tryz.func91, Tryz.ntmps91
  go_wp2
  go_returns
  exact ⟨by simp, by go_grown⟩
end Go.Proofs.YtfonkblbgadhmaaGreatDoor
namespace Go.Proofs.YtfonkblbgadhmaaGreatDoor
open Go.RowKit
set_option maxHeartbeats 2000000 in
theorem sub_Name (a b c d : Bool) (w : World) (ho : (a && b || c && d) = false) : Calls Tryz.prog 92 #[.agg #[.bool a, .bool b, .bool c, .bool d]] w (Ret w (.tuple #[.string (subName a c), .bool b, .int .i64 0])) := by
 have HO := Lib.hid ho
 clear ho
 cases a <;> cases c
 all_goals
  go_enter Tryz.func92, Tryz.ntmps92
  go_wp2_with (first
   | (go_at_call 71; refine (sub_Check _ _ _ _ _).mono ?_; rw [HO.out]; rintro e w1 ⟨rfl, hb⟩; obtain ⟨hc, hf, hz, hB⟩ := bfacts (w := w) hb (by go_grown); simp only [World.size_alloc] at hz; have z0 : w.heap.size < w1.heap.size := (by omega))
   | (go_at_call 66; refine (sub_halves _ _ _ _ _).mono ?_; rintro e w2 ⟨rfl, hb2⟩; obtain ⟨hc2, hf2, hz2, hB2⟩ := bfacts (w := w) hb2 (by go_grown); have z2 : w.heap.size < w2.heap.size := (by omega)))
  go_quiet (fail)
  go_wp2
  go_returns
  exact ⟨rfl, by refine below_drewN ?_ _; go_grown⟩
end Go.Proofs.YtfonkblbgadhmaaGreatDoor
