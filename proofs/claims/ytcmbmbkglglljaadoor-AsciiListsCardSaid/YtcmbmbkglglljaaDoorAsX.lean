/- AsciiLists: the walk. -/
import Derived.Test.YtcmbmbkglglljaaDoorAsXp
namespace Go.Proofs.YtcmbmbkglglljaaDoor
open Go.RowKit

set_option maxHeartbeats 16000000 in
set_option maxRecDepth 100000 in
/-- Where the one or the other is no list. -/
theorem lists07_bad (a b : ByteArray) (w : World) (ha : a.size ≤ 1000) (hb : b.size ≤ 1000) (hE : lstE a.data.toList ≠ 0 ∨ lstE b.data.toList ≠ 0) : Calls Tryd.prog 7 #[.string a, .string b] w (Ret w (.bool true)) := by
  have AL := Lib.hid alive07
  have g1 : ¬ (1000 : Int) < a.size := by omega
  have g2 : ¬ (1000 : Int) < b.size := by omega
  have k1 := fun h : lstE a.data.toList ≠ 0 => lst_bad h
  have k2 := fun h : lstE b.data.toList ≠ 0 => lst_bad h
  obtain ⟨E, hEa⟩ : ∃ x, lstE a.data.toList = x := ⟨_, rfl⟩
  obtain ⟨V, hVa⟩ : ∃ x, lstV a.data.toList = x := ⟨_, rfl⟩
  obtain ⟨F, hEb⟩ : ∃ x, lstE b.data.toList = x := ⟨_, rfl⟩
  obtain ⟨U, hVb⟩ : ∃ x, lstV b.data.toList = x := ⟨_, rfl⟩
  have C1 := Lib.hid fun w => list_at a E V w (by omega) hEa hVa
  have C2 := Lib.hid fun w => list_at b F U w (by omega) hEb hVb
  rw [hEa, hVa] at k1
  rw [hEb, hVb] at k2
  rw [hEa, hEb] at hE
  clear hEa hVa hEb hVb ha hb
  by_cases h1 : E = 0
  · subst h1
    have h2 : F ≠ 0 := hE.resolve_left (fun h => h rfl)
    obtain rfl := k2 h2
    have e2 : (F != 0) = true := by simpa using h2
    have e3 : (F == 0) = false := by simpa using h2
    clear k1 k2 hE
    go_enter Tryd.func7, Tryd.ntmps7
    go_wp2_with fail
    refine (AL.out _).mono ?_
    rintro e w1 ⟨rfl, hb1⟩
    go_wp2_with fail
    refine (C1.out _).mono ?_
    rintro e w2 ⟨va, rfl, _, hb2⟩
    go_wp2_with fail
    refine (C2.out _).mono ?_
    rintro e w3 ⟨vb, rfl, ⟨a2, c2, rfl, _, _⟩, hb3⟩
    rw [show (strV []).length = 0 from rfl]
    go_wp2_with fail
    go_ret
    exact ⟨ret_b (by first | rfl | simp), ret_thru (ret_thru hb1 hb2) hb3⟩
  · obtain rfl := k1 h1
    have e1 : (E != 0) = true := by simpa using h1
    have e0 : (E == 0) = false := by simpa using h1
    by_cases h2 : F = 0
    · subst h2
      clear k1 k2 hE
      go_enter Tryd.func7, Tryd.ntmps7
      go_wp2_with fail
      refine (AL.out _).mono ?_
      rintro e w1 ⟨rfl, hb1⟩
      go_wp2_with fail
      refine (C1.out _).mono ?_
      rintro e w2 ⟨va, rfl, ⟨a1, c1, rfl, _, _⟩, hb2⟩
      rw [show (strV []).length = 0 from rfl]
      go_wp2_with fail
      refine (C2.out _).mono ?_
      rintro e w3 ⟨vb, rfl, _, hb3⟩
      go_wp2_with fail
      go_ret
      exact ⟨ret_b (by first | rfl | simp), ret_thru (ret_thru hb1 hb2) hb3⟩
    · obtain rfl := k2 h2
      have e2 : (F != 0) = true := by simpa using h2
      have e3 : (F == 0) = false := by simpa using h2
      clear k1 k2 hE
      go_enter Tryd.func7, Tryd.ntmps7
      go_wp2_with fail
      refine (AL.out _).mono ?_
      rintro e w1 ⟨rfl, hb1⟩
      go_wp2_with fail
      refine (C1.out _).mono ?_
      rintro e w2 ⟨va, rfl, ⟨a1, c1, rfl, _, _⟩, hb2⟩
      rw [show (strV []).length = 0 from rfl]
      go_wp2_with fail
      refine (C2.out _).mono ?_
      rintro e w3 ⟨vb, rfl, ⟨a2, c2, rfl, _, _⟩, hb3⟩
      rw [show (strV []).length = 0 from rfl]
      go_wp2_with fail
      go_ret
      exact ⟨ret_b (by first | rfl | simp), ret_thru (ret_thru hb1 hb2) hb3⟩
end Go.Proofs.YtcmbmbkglglljaaDoor
