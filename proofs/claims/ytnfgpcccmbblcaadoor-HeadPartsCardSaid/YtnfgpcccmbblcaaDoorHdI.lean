/- HeadReads: the walk. -/
import Derived.Test.YtnfgpcccmbblcaaDoorHdH
namespace Go.Proofs.YtnfgpcccmbblcaaDoor
open Go.RowKit

theorem hdV_len (l : List UInt8) : (hdV l).length ≤ 32 := by
  by_cases h : hdE l = 0
  · obtain ⟨_, ps, _, h1, h2⟩ := hdE_ok h
    rw [h2]
    exact h1
  · rw [hdE_bad h]
    decide
set_option maxHeartbeats 8000000 in
theorem reads14 (s : ByteArray) (w : World) (zs : s.size ≤ 9223372036854775807) (hm : ML w) :
    Calls Tryd.prog 3 #[.string s] w (Ret w (.bool true)) := by
  by_cases h1 : 3000 < s.size ∧ s.size ≤ 16384
  · have g1 : (3000 : Int) < s.size := by omega
    have g2 : (s.size : Int) ≤ 16384 := by omega
    go_enter Tryd.func3, Tryd.ntmps3
    go_wp2_with fail
    go_ret
    exact ⟨rfl, Below.refl _ w⟩
  by_cases h2 : 17000 < s.size
  · have g1 : (3000 : Int) < s.size := by omega
    have g2 : ¬ (s.size : Int) ≤ 16384 := by omega
    have g3 : (17000 : Int) < s.size := by omega
    go_enter Tryd.func3, Tryd.ntmps3
    go_wp2_with fail
    go_ret
    exact ⟨rfl, Below.refl _ w⟩
  have g3 : ¬ (17000 : Int) < s.size := by omega
  have z : s.size ≤ 1000000 := by omega
  have PH0 := fun w hm => hd_Parse s w z hm
  have RH0 := fun w => r14_Parse s w z
  have hl := hdV_len s.data.toList
  unfold HdIs at PH0 RH0
  obtain ⟨E, hE⟩ : ∃ E, hdE s.data.toList = E := ⟨_, rfl⟩
  obtain ⟨ps, hps⟩ : ∃ ps, hdV s.data.toList = ps := ⟨_, rfl⟩
  rw [hE, hps] at PH0 RH0
  rw [hps] at hl
  clear hE hps
  have PH := Lib.hid PH0
  have RH := Lib.hid RH0
  have HL := Lib.hid hl
  have HM := Lib.hid hm
  clear PH0 RH0 hl hm
  have key : ∀ (g1 : decide ((3000 : Int) < s.size) = true ∧ decide ((s.size : Int) ≤ 16384) = false ∨ decide ((3000 : Int) < s.size) = false), Calls Tryd.prog 3 #[.string s] w (Ret w (.bool true)) := by
    intro g1
    rcases g1 with ⟨g1, g2⟩ | g1
    all_goals
      simp at g1
      try simp at g2
      go_enter Tryd.func3, Tryd.ntmps3
      go_wp2_with fail
      refine (PH.out _ HM.out).mono ?_
      rintro e w2 ⟨va, rfl, ha2, hb2⟩
      have HA2 := Lib.hid ha2
      have q2 := hb2
      clear hb2 ha2
      go_wp2_with fail
      refine (RH.out _).mono ?_
      rintro e w3 ⟨vb, rfl, hv3, hb3⟩
      have HA3 := Lib.hid (HA2.out.ret hb3)
      have HB3 := Lib.hid hv3
      have q3 := q2.trans (hb3.mono q2.size)
      clear hb3 hv3 q2
      go_wp2_with fail
      refine (r9_Same va vb ps ps _ HA3.out HB3.out (by have := HL.out; omega)).mono ?_
      rintro e w4 ⟨rfl, hb4⟩
      have q4 := q3.trans (hb4.mono q3.size)
      clear hb4 q3
      go_wp2_with fail
      go_ret
      exact ⟨ret_b (by first | rfl | simp), q4⟩
  refine key ?_
  by_cases h3 : 3000 < s.size
  · exact .inl ⟨decide_eq_true (by omega), decide_eq_false (by omega)⟩
  · exact .inr (decide_eq_false (by omega))
end Go.Proofs.YtnfgpcccmbblcaaDoor
