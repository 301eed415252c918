/- The law NumReads: numbers, levels and versions are read as the document says. -/
import Derived.Test.YtgechifpappipaaNumE
import Derived.Test.YtgechifpappipaaNumI
import Derived.Test.YtgechifpappipaaNumJ
namespace Go.Proofs.Ytgechifpappipaa
open Go.RowKit

set_option maxHeartbeats 2000000 in
theorem reads_walk (s : ByteArray) (w : World) (hs : s.size ≤ 9223372036854775807) :
    Calls Try.prog 5 #[.string s] w (Ret w (.bool true)) := by
  by_cases h : 1000 < s.size
  · have h1 : 1000 < (s.size : Int) := by omega
    go_enter Try.func5, Try.ntmps5
    go_wp2_with fail
    go_ret
    exact ⟨rfl, by go_grown⟩
  · have h1 : (s.size : Int) ≤ 1000 := by omega
    have c1 := fun w => num_Read s w hs
    have c2 := fun w => ref06_Read s w hs
    have c3 := fun w => num_Level s w hs
    have c4 := fun w => ref06_Level s w
    have c5 := fun w => num_Version s w hs
    have c6 := fun w => ref06_Version s w hs
    generalize rdN s.data.toList = a at c1 c2
    generalize rdE s.data.toList = ae at c1 c2
    generalize lvN s.data.toList = b at c3 c4
    generalize lvE s.data.toList = be at c3 c4
    generalize vsA s.data.toList = x at c5 c6
    generalize vsB s.data.toList = y at c5 c6
    generalize vsE s.data.toList = z at c5 c6
    have C1 := Lib.hid c1
    have C2 := Lib.hid c2
    have C3 := Lib.hid c3
    have C4 := Lib.hid c4
    have C5 := Lib.hid c5
    have C6 := Lib.hid c6
    clear c1 c2 c3 c4 c5 c6
    go_enter Try.func5, Try.ntmps5
    go_wp2_with fail
    refine (C1.out _).mono ?_
    rintro e w1 ⟨rfl, hb1⟩
    go_wp2_with fail
    refine (C2.out _).mono ?_
    rintro e w2 ⟨rfl, hb2⟩
    go_wp2_with fail
    refine (C3.out _).mono ?_
    rintro e w3 ⟨rfl, hb3⟩
    go_wp2_with fail
    refine (C4.out _).mono ?_
    rintro e w4 ⟨rfl, hb4⟩
    go_wp2_with fail
    refine (C5.out _).mono ?_
    rintro e w5 ⟨rfl, hb5⟩
    go_wp2_with fail
    refine (C6.out _).mono ?_
    rintro e w6 ⟨rfl, hb6⟩
    go_wp2_with fail
    go_ret
    have q2 := hb1.trans (hb2.mono hb1.size)
    have q3 := q2.trans (hb3.mono q2.size)
    have q4 := q3.trans (hb4.mono q3.size)
    have q5 := q4.trans (hb5.mono q4.size)
    exact ⟨rfl, q5.trans (hb6.mono q5.size)⟩
end Go.Proofs.Ytgechifpappipaa
