/- HeadBack: the walk. PRINTED BY PROGRAM (gen_hdx.py). -/
import Derived.Test.YtnfgpcccmbblcaaDoorHdWc
namespace Go.Proofs.YtnfgpcccmbblcaaDoor
open Go.RowKit

set_option maxHeartbeats 8000000 in
set_option maxRecDepth 100000 in
theorem back14 (v : Value) (l : List Pr) (s : ByteArray) (w : World) (hv : IsPairs v l w) (hl : l.length ≤ 9223372036854775807) (zs : s.size ≤ 9223372036854775807) (hm : ML w) :
    Calls Tryd.prog 11 #[v, .string s] w (Ret w (.bool true)) := by
  have GH0 := fun w (h : IsPairs v l w) => r14_Great v l w h hl
  have HV := Lib.hid hv
  have HM := Lib.hid hm
  clear hv hm
  obtain ⟨g, hg⟩ : ∃ g, grt l = g := ⟨_, rfl⟩
  rw [hg] at GH0
  have GH := Lib.hid GH0
  clear GH0
  cases g with
  | true =>
    clear hg
    go_enter Tryd.func11, Tryd.ntmps11
    go_wp2_with fail
    refine (alive14 _ HM.out).mono ?_
    rintro e w1 ⟨rfl, hb⟩
    have q1 := hb
    clear hb
    go_wp2_with fail
    refine (GH.out _ (HV.out.ret q1)).mono ?_
    rintro e w2 ⟨rfl, hb⟩
    have q2 := q1.trans (hb.mono q1.size)
    clear hb
    go_wp2_with fail
    go_ret
    exact ⟨rfl, q2⟩
  | false =>
    obtain ⟨s1, s2, s3⟩ := grt_small hg
    by_cases hs : 3000 < s.size
    · have e2 : decide ((3000 : Int) < s.size) = true := decide_eq_true (by omega)
      clear hg s1 s2 s3
      go_enter Tryd.func11, Tryd.ntmps11
      go_wp2_with fail
      refine (alive14 _ HM.out).mono ?_
      rintro e w1 ⟨rfl, hb⟩
      have q1 := hb
      clear hb
      go_wp2_with fail
      refine (GH.out _ (HV.out.ret q1)).mono ?_
      rintro e w2 ⟨rfl, hb⟩
      have q2 := q1.trans (hb.mono q1.size)
      clear hb
      go_wp2_with fail
      go_ret
      exact ⟨rfl, q2⟩
    · have e2 : decide ((3000 : Int) < s.size) = false := decide_eq_false (by omega)
      have zs3 : s.size ≤ 3000 := by omega
      have W0 := fun w (h : IsPairs v l w) => hd_Write v l w (by omega) (fun p hp => by have := s3 p hp; omega) h
      have P0 := fun w (h : ML w) => hd_Parse s w (by omega) h
      unfold wrT at W0
      unfold HdIs at P0
      have hwb : wrE l = 0 → _ := fun h => wr_back h s2 s3
      obtain ⟨X, hX⟩ : ∃ X : ByteArray, ⟨(wrS l).toArray⟩ = X := ⟨_, rfl⟩
      have hXl : X.data.toList = wrS l := by rw [← hX]
      rw [hX] at W0
      have A0 : wrE l = 0 → ∀ w, IsPairs v l w → ML w → Calls Tryd.prog 40 #[.string X, v] w (Ret w (.bool true)) := fun h w hv hm => by
        obtain ⟨b1, b2, b3⟩ := hwb h
        have := hd_are X v l w (by rw [← size_toList, hXl]; omega) hv hm
        rwa [hXl, decide_eq_true ⟨b2, b3⟩] at this
      have hrb : hdE s.data.toList = 0 → _ := fun h => rd_back h (by rw [size_toList]; exact zs3)
      have hrz : hdE s.data.toList = 0 → _ := fun h => rd_size h
      have hbad : hdE s.data.toList ≠ 0 → _ := fun h => hdE_bad h
      have hvl := hdV_len s.data.toList
      obtain ⟨E, hE⟩ : ∃ E, wrE l = E := ⟨_, rfl⟩
      obtain ⟨F, hF⟩ : ∃ F, hdE s.data.toList = F := ⟨_, rfl⟩
      obtain ⟨ps, hps⟩ : ∃ ps, hdV s.data.toList = ps := ⟨_, rfl⟩
      rw [hE] at W0 A0
      rw [hF, hps] at P0 hrb hrz
      rw [hF] at hbad
      rw [hps] at hvl hbad
      have WH := Lib.hid W0
      have PH := Lib.hid P0
      clear W0 P0 hwb hX hXl hE hF hps hg s1 s2 s3
      by_cases hf : F = 0
      · subst hf
        obtain ⟨r1, r2, r3, r4⟩ := hrb rfl
        have rz := hrz rfl
        rw [size_toList] at rz
        have W20 := fun u w (h : IsPairs u ps w) => hd_Write u ps w (by omega) (fun p hp => by have := rz p hp; omega) h
        unfold wrT at W20
        obtain ⟨Y, hY⟩ : ∃ X : ByteArray, ⟨(wrS ps).toArray⟩ = X := ⟨_, rfl⟩
        have hYl : Y.data.toList = wrS ps := by rw [← hY]
        rw [hY, r1] at W20
        have A20 := fun u w (h : IsPairs u ps w) (hm : ML w) => hd_are Y u ps w (by rw [← size_toList, hYl]; omega) h hm
        rw [hYl, decide_eq_true ⟨r3, r4⟩] at A20
        obtain ⟨m, hmm⟩ : ∃ m, ps.length = m := ⟨_, rfl⟩
        have HLEN := Lib.hid hmm
        have W2 := Lib.hid W20
        have A2 := Lib.hid A20
        clear hrb hrz hbad hvl r1 r2 r3 r4 rz W20 A20 hY hYl hmm
        by_cases he : E = 0
        · subst he
          have AH := Lib.hid (A0 rfl)
          clear A0
          go_enter Tryd.func11, Tryd.ntmps11
          go_wp2_with fail
          refine (alive14 _ HM.out).mono ?_
          rintro e w1 ⟨rfl, hb⟩
          have q1 := hb
          clear hb
          go_wp2_with fail
          refine (GH.out _ (HV.out.ret q1)).mono ?_
          rintro e w2 ⟨rfl, hb⟩
          have q2 := q1.trans (hb.mono q1.size)
          clear hb
          go_wp2_with fail
          refine (WH.out _ (HV.out.ret q2)).mono ?_
          rintro e w3 ⟨rfl, hb⟩
          have q3 := q2.trans (hb.mono q2.size)
          clear hb
          go_wp2_with fail
          refine (AH.out _ (HV.out.ret q3) (HM.out.ret q3)).mono ?_
          rintro e w4 ⟨rfl, hb⟩
          have q4 := q3.trans (hb.mono q3.size)
          clear hb
          go_wp2_with fail
          refine (PH.out _ (HM.out.ret q4)).mono ?_
          rintro e w5 ⟨u, rfl, hu, hb⟩
          have q5 := q4.trans (hb.mono q4.size)
          obtain ⟨ua, uc, rfl⟩ := hu.form
          have HU := Lib.hid hu
          clear hu
          clear hb
          rw [HLEN.out] at HU ⊢
          go_wp2_with fail
          refine (W2.out _ _ HU.out).mono ?_
          rintro e w6 ⟨rfl, hb⟩
          have q6 := q5.trans (hb.mono q5.size)
          have HU2 := Lib.hid (HU.out.ret hb)
          clear hb
          go_wp2_with fail
          refine (A2.out _ _ HU2.out (HM.out.ret q6)).mono ?_
          rintro e w7 ⟨rfl, hb⟩
          have q7 := q6.trans (hb.mono q6.size)
          clear hb
          go_wp2_with fail
          go_ret
          exact ⟨rfl, q7⟩
        · have g1 : (E == 0) = false := by rw [beq_eq_false_iff_ne]; exact he
          clear A0 he
          go_enter Tryd.func11, Tryd.ntmps11
          go_wp2_with fail
          refine (alive14 _ HM.out).mono ?_
          rintro e w1 ⟨rfl, hb⟩
          have q1 := hb
          clear hb
          go_wp2_with fail
          refine (GH.out _ (HV.out.ret q1)).mono ?_
          rintro e w2 ⟨rfl, hb⟩
          have q2 := q1.trans (hb.mono q1.size)
          clear hb
          go_wp2_with fail
          refine (WH.out _ (HV.out.ret q2)).mono ?_
          rintro e w3 ⟨rfl, hb⟩
          have q3 := q2.trans (hb.mono q2.size)
          clear hb
          go_wp2_with fail
          refine (PH.out _ (HM.out.ret q3)).mono ?_
          rintro e w4 ⟨u, rfl, hu, hb⟩
          have q4 := q3.trans (hb.mono q3.size)
          obtain ⟨ua, uc, rfl⟩ := hu.form
          have HU := Lib.hid hu
          clear hu
          clear hb
          rw [HLEN.out] at HU ⊢
          go_wp2_with fail
          refine (W2.out _ _ HU.out).mono ?_
          rintro e w5 ⟨rfl, hb⟩
          have q5 := q4.trans (hb.mono q4.size)
          have HU2 := Lib.hid (HU.out.ret hb)
          clear hb
          go_wp2_with fail
          refine (A2.out _ _ HU2.out (HM.out.ret q5)).mono ?_
          rintro e w6 ⟨rfl, hb⟩
          have q6 := q5.trans (hb.mono q5.size)
          clear hb
          go_wp2_with fail
          go_ret
          exact ⟨rfl, q6⟩
      · have hnil := hbad hf
        have g2 : (F == 0) = false := by rw [beq_eq_false_iff_ne]; exact hf
        have hn0 : ps.length = 0 := by rw [hnil]; rfl
        have HNIL := Lib.hid hn0
        clear hrb hrz hbad hvl hf hnil hn0
        by_cases he : E = 0
        · subst he
          have AH := Lib.hid (A0 rfl)
          clear A0
          go_enter Tryd.func11, Tryd.ntmps11
          go_wp2_with fail
          refine (alive14 _ HM.out).mono ?_
          rintro e w1 ⟨rfl, hb⟩
          have q1 := hb
          clear hb
          go_wp2_with fail
          refine (GH.out _ (HV.out.ret q1)).mono ?_
          rintro e w2 ⟨rfl, hb⟩
          have q2 := q1.trans (hb.mono q1.size)
          clear hb
          go_wp2_with fail
          refine (WH.out _ (HV.out.ret q2)).mono ?_
          rintro e w3 ⟨rfl, hb⟩
          have q3 := q2.trans (hb.mono q2.size)
          clear hb
          go_wp2_with fail
          refine (AH.out _ (HV.out.ret q3) (HM.out.ret q3)).mono ?_
          rintro e w4 ⟨rfl, hb⟩
          have q4 := q3.trans (hb.mono q3.size)
          clear hb
          go_wp2_with fail
          refine (PH.out _ (HM.out.ret q4)).mono ?_
          rintro e w5 ⟨u, rfl, hu, hb⟩
          have q5 := q4.trans (hb.mono q4.size)
          obtain ⟨ua, uc, rfl⟩ := hu.form
          have HU := Lib.hid hu
          clear hu
          clear hb
          rw [HNIL.out] at HU ⊢
          go_wp2_with fail
          go_ret
          exact ⟨rfl, q5⟩
        · have g1 : (E == 0) = false := by rw [beq_eq_false_iff_ne]; exact he
          clear A0 he
          go_enter Tryd.func11, Tryd.ntmps11
          go_wp2_with fail
          refine (alive14 _ HM.out).mono ?_
          rintro e w1 ⟨rfl, hb⟩
          have q1 := hb
          clear hb
          go_wp2_with fail
          refine (GH.out _ (HV.out.ret q1)).mono ?_
          rintro e w2 ⟨rfl, hb⟩
          have q2 := q1.trans (hb.mono q1.size)
          clear hb
          go_wp2_with fail
          refine (WH.out _ (HV.out.ret q2)).mono ?_
          rintro e w3 ⟨rfl, hb⟩
          have q3 := q2.trans (hb.mono q2.size)
          clear hb
          go_wp2_with fail
          refine (PH.out _ (HM.out.ret q3)).mono ?_
          rintro e w4 ⟨u, rfl, hu, hb⟩
          have q4 := q3.trans (hb.mono q3.size)
          obtain ⟨ua, uc, rfl⟩ := hu.form
          have HU := Lib.hid hu
          clear hu
          clear hb
          rw [HNIL.out] at HU ⊢
          go_wp2_with fail
          go_ret
          exact ⟨rfl, q4⟩
end Go.Proofs.YtnfgpcccmbblcaaDoor
