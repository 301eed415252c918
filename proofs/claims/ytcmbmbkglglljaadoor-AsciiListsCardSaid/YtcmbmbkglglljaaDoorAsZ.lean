/- AsciiLists: both ways joined. -/
import Derived.Test.YtcmbmbkglglljaaDoorAsY
namespace Go.Proofs.YtcmbmbkglglljaaDoor
open Go.RowKit

theorem lists07_all (a b : ByteArray) (w : World) : Calls Tryd.prog 7 #[.string a, .string b] w (Ret w (.bool true)) := by
  by_cases h1 : 1000 < a.size
  · have AL := Lib.hid alive07
    have g1 : (1000 : Int) < a.size := by omega
    go_enter Tryd.func7, Tryd.ntmps7
    go_wp2_with fail
    refine (AL.out _).mono ?_
    rintro e w1 ⟨rfl, hb1⟩
    go_wp2_with fail
    go_ret
    exact ⟨rfl, hb1⟩
  by_cases h2 : 1000 < b.size
  · have AL := Lib.hid alive07
    have g1 : ¬ (1000 : Int) < a.size := by omega
    have g2 : (1000 : Int) < b.size := by omega
    go_enter Tryd.func7, Tryd.ntmps7
    go_wp2_with fail
    refine (AL.out _).mono ?_
    rintro e w1 ⟨rfl, hb1⟩
    go_wp2_with fail
    go_ret
    exact ⟨rfl, hb1⟩
  by_cases hEa : lstE a.data.toList = 0
  · by_cases hEb : lstE b.data.toList = 0
    · exact lists07_good a b w (by omega) (by omega) hEa hEb
    · exact lists07_bad a b w (by omega) (by omega) (.inr hEb)
  · exact lists07_bad a b w (by omega) (by omega) (.inl hEa)
end Go.Proofs.YtcmbmbkglglljaaDoor
