/- The document's judged. PRINTED BY PROGRAM (gen_wir.py). -/
import Derived.Test.YthgmgmbjjjnhnaaGreatDoorWiQ
import Derived.Test.YthgmgmbjjjnhnaaGreatDoorHdYb
import Derived.Test.YthgmgmbjjjnhnaaGreatDoorGi
import Derived.Test.YthgmgmbjjjnhnaaGreatDoorGj
import Derived.Test.YthgmgmbjjjnhnaaGreatDoorGm
namespace Go.Proofs.YthgmgmbjjjnhnaaGreatDoor
open Go.RowKit

def jgV (j : Int × List UInt8 × Bool × Int × Int) : Value := .tuple #[.agg #[.int .i64 j.1, .string ⟨j.2.1.toArray⟩, .string ⟨#[]⟩, .bool j.2.2.1], .int .u8 j.2.2.2.1, .int .i64 j.2.2.2.2]
set_option maxHeartbeats 16000000 in
set_option maxRecDepth 100000 in
/-- A head with its end of a line. -/
theorem r17_judged (p h : ByteArray) (w : World) (hp : p.data.toList = h.data.toList ++ [13, 10]) (hh : ∃ a, h.data.toList = a ++ [13, 10]) (hs : p.size ≤ 1000000) : Calls Tryz.prog 38 #[.string p] w (Ret w (jgV (wiJ h.data.toList))) := by
  have q0 := (Below.refl w.heap.size w).alloc (Nat.le_refl _) (.cells #[.int .i64 0, .string ⟨#[]⟩, .string ⟨#[]⟩, .bool false] 40)
  have C0 := Lib.hid (CmAt.new w (.int .i64 0) (.string ⟨#[]⟩) (.string ⟨#[]⟩) (.bool false))
  obtain ⟨y, y0, y1, y2, y3, y4, y5, y6, y7⟩ := C0.out
  obtain ⟨a, ha⟩ := hh
  obtain ⟨x, r, hc⟩ := crA_end a
  rw [← ha] at hc
  have hcp := crA_app [13, 10] h.data.toList hc
  rw [← hp] at hcp
  have e1 : lnX p.data.toList = cutX h.data.toList := by unfold lnX cutX; rw [hcp, hc]
  have e2 : lnR p.data.toList = lnR h.data.toList ++ [13, 10] := by unfold lnR; rw [hcp, hc]
  have e3 : lnB p.data.toList = true := by unfold lnB; rw [hcp]; rfl
  have L0 := fun w => r14_Line p w hs
  rw [e1, e2, e3] at L0
  have zp : p.size = h.size + 2 := by rw [← size_toList, hp, List.length_append, size_toList]; rfl
  obtain ⟨X, hX⟩ : ∃ X : ByteArray, ⟨(cutX h.data.toList).toArray⟩ = X := ⟨_, rfl⟩
  obtain ⟨S, hS⟩ : ∃ X : ByteArray, ⟨(lnR h.data.toList ++ [13, 10]).toArray⟩ = X := ⟨_, rfl⟩
  have hXl : X.data.toList = cutX h.data.toList := by rw [← hX]
  have hSl : S.data.toList = lnR h.data.toList ++ [13, 10] := by rw [← hS]
  have zX : X.size ≤ 1000000 := by
    rw [← size_toList, hXl]
    have := cutX_le h.data.toList
    rw [size_toList] at this
    omega
  have zR := lnR_le h.data.toList
  rw [size_toList] at zR
  have zS : S.size = (lnR h.data.toList).length + 2 := by rw [← size_toList, hSl, List.length_append]; rfl
  rw [hX, hS] at L0
  have P0 := fun w => r15_Parse X w zX
  obtain ⟨O, hO⟩ : ∃ O, jgV (wiJ h.data.toList) = O := ⟨_, rfl⟩
  rw [hO]
  have hO2 := hO
  unfold wiJ at hO2
  rw [← hXl] at hO2
  unfold wiL at hO2
  have LH := Lib.hid L0
  clear hc hcp e1 e2 e3 L0 ha hp hX hS hO
  cases hl : lnOf X.data.toList with
  | none =>
    rw [hl] at P0 hO2
    simp only at hO2
    rw [if_pos (by decide)] at hO2
    unfold lnA at P0
    have PH := Lib.hid P0
    have HO := Lib.hid hO2
    clear P0 hO2 hl hXl hSl zR zS zp
    go_enter Tryz.func38, Tryz.ntmps38
    go_wp2_with fail
    refine (LH.out _).mono ?_
    rintro e w1 ⟨rfl, hb⟩
    have q1 := q0.trans (hb.mono q0.size)
    have C1 := Lib.hid (C0.out.ret' hb)
    clear hb y y0 y1 y2 y3 y4 y5 y6 y7
    go_wp2_with fail
    refine (PH.out _).mono ?_
    rintro e w2 ⟨rfl, hb⟩
    have q2 := q1.trans (hb.mono q1.size)
    have C2 := Lib.hid (C1.out.ret' hb)
    clear hb
    obtain ⟨y, y0, y1, y2, y3, y4, y5, y6, y7⟩ := C2.out
    go_wp2_with fail
    refine bodyPost_ret (v := .tuple #[.agg #[.int .i64 400, .string ⟨#[]⟩, .string ⟨#[]⟩, .bool false], .int .u8 0, .int .i64 0]) (by simp (maxDischargeDepth := 9) [results, Tryz.results38, go_sem, *]) rfl ⟨by rw [← HO.out]; rfl, ?_⟩
    repeat (first | with_reducible exact q2 | with_reducible refine Below.drew ?_ | with_reducible refine Below.setCell ?_ (by first | omega | (simp <;> omega)) _ | with_reducible refine Below.alloc ?_ (by first | omega | (simp <;> omega)) _)
  | some q =>
    obtain ⟨m, t, g, sv⟩ := q
    rw [hl] at P0 hO2
    simp only at hO2
    obtain ⟨MM, hM⟩ : ∃ X : ByteArray, ⟨m.toArray⟩ = X := ⟨_, rfl⟩
    obtain ⟨TT, hT⟩ : ∃ X : ByteArray, ⟨t.toArray⟩ = X := ⟨_, rfl⟩
    have hMl : MM.data.toList = m := by rw [← hM]
    have hTl : TT.data.toList = t := by rw [← hT]
    rw [← hMl, ← hTl] at P0 hO2
    rw [lnA_some] at P0
    have J0 := fun w => r15_Judged MM TT g sv w
    obtain ⟨st, hst⟩ : ∃ st, jdg MM.data.toList TT.data.toList g sv = st := ⟨_, rfl⟩
    rw [hst] at J0 hO2
    have PH := Lib.hid P0
    have JH := Lib.hid J0
    clear P0 J0 hst hM hT hMl hTl hl hXl
    by_cases h2 : st = 200
    rotate_left
    · rw [if_pos h2] at hO2
      have HO := Lib.hid hO2
      have f1 : (st == 200) = false := by rw [beq_eq_false_iff_ne]; exact h2
      have f2 : (st != 200) = true := by rw [bne_iff_ne]; exact h2
      clear hO2 h2 hSl zR zS zp
      go_enter Tryz.func38, Tryz.ntmps38
      go_wp2_with fail
      refine (LH.out _).mono ?_
      rintro e w1 ⟨rfl, hb⟩
      have q1 := q0.trans (hb.mono q0.size)
      have C1 := Lib.hid (C0.out.ret' hb)
      clear hb y y0 y1 y2 y3 y4 y5 y6 y7
      go_wp2_with fail
      refine (PH.out _).mono ?_
      rintro e w2 ⟨rfl, hb⟩
      have q2 := q1.trans (hb.mono q1.size)
      have C2 := Lib.hid (C1.out.ret' hb)
      clear hb

      have al := (Below.refl w2.heap.size w2).alloc (Nat.le_refl _) (.cells #[.string MM, .string TT, .int .i64 g, .int .i64 sv] 130)
      have q3 := q2.trans (al.mono q2.size)
      have C3 := Lib.hid (C2.out.ret' al)
      clear al
      go_wp2_with fail
      refine (JH.out _).mono ?_
      rintro e w4 ⟨rfl, hb⟩
      have q4 := q3.trans (hb.mono q3.size)
      have C4 := Lib.hid (C3.out.ret' hb)
      clear hb
      obtain ⟨y, y0, y1, y2, y3, y4, y5, y6, y7⟩ := C4.out
      go_wp2_with fail
      refine bodyPost_ret (v := .tuple #[.agg #[.int .i64 st, .string ⟨#[]⟩, .string ⟨#[]⟩, .bool false], .int .u8 0, .int .i64 0]) (by simp (maxDischargeDepth := 9) [results, Tryz.results38, go_sem, *]) rfl ⟨by rw [← HO.out]; rfl, ?_⟩
      repeat (first | with_reducible exact q4 | with_reducible refine Below.drew ?_ | with_reducible refine Below.setCell ?_ (by first | omega | (simp <;> omega)) _ | with_reducible refine Below.alloc ?_ (by first | omega | (simp <;> omega)) _)
    subst h2
    rw [if_neg (by decide)] at hO2
    have hSx : (S.extract 0 (S.size - 2)).data.toList = lnR h.data.toList := by
      rw [ext_data, List.drop_zero, Nat.sub_zero, hSl, zS, Nat.add_sub_cancel, List.take_left]
    obtain ⟨Q, hQ⟩ : ∃ Q, S.extract 0 (S.size - 2) = Q := ⟨_, rfl⟩
    rw [hQ] at hSx
    rw [← hSx] at hO2
    have zQ : Q.size ≤ 1000000 := by rw [← size_toList, hSx]; omega
    have hpl := hdV_le32 Q.data.toList
    have hpz : ∀ p ∈ hdV Q.data.toList, p.1.length ≤ 1000000 ∧ p.2.length ≤ 1000000 := hdV_sizes zQ
    have Q0 := fun w => r14_Parse Q w zQ
    have K0 := fun v w hv => r14_Keep v (hdV Q.data.toList) w hv (by omega) (fun p hp => (hpz p hp).1) (fun p hp => (hpz p hp).2)
    have H0 := fun v w hv => r14_Host v (hdV Q.data.toList) w hv (by omega) (fun p hp => (hpz p hp).1) (fun p hp => (hpz p hp).2)
    have F0 := fun v w hv => r14_Frame v (hdV Q.data.toList) w hv (by omega) (fun p hp => (hpz p hp).1) (fun p hp => (hpz p hp).2)
    unfold HdIs at Q0
    unfold wiF wiF4 at hO2
    unfold kepT at K0
    unfold hstT at H0
    obtain ⟨E, hE⟩ : ∃ E, hdE Q.data.toList = E := ⟨_, rfl⟩
    obtain ⟨ps, hps⟩ : ∃ x, hdV Q.data.toList = x := ⟨_, rfl⟩
    rw [hE, hps] at Q0
    rw [hE] at hO2
    rw [hps] at K0 H0 F0 hO2
    obtain ⟨⟨kp, g1⟩, hx1⟩ : ∃ x, kep ps = x := ⟨_, rfl⟩
    obtain ⟨⟨ho, g2⟩, hx2⟩ : ∃ x, hst ps = x := ⟨_, rfl⟩
    obtain ⟨⟨kd, n, g3⟩, hx3⟩ : ∃ x, frm ps = x := ⟨_, rfl⟩
    rw [hx1] at K0 hO2
    rw [hx2] at H0 hO2
    rw [hx3] at F0 hO2
    simp only at K0 H0 F0 hO2
    obtain ⟨RR, hR⟩ : ∃ X : ByteArray, ⟨ho.toArray⟩ = X := ⟨_, rfl⟩
    rw [hR] at H0
    have QH := Lib.hid Q0
    have KH := Lib.hid K0
    have HH := Lib.hid H0
    have FH := Lib.hid F0
    have HQ := Lib.hid hQ
    have HRR := Lib.hid hR
    have i1 : (2 : Int) ≤ S.size := by omega
    have i2 : (0 : Int) ≤ (S.size : Int) - 2 := by omega
    have i3 : (S.size : Int) - 2 ≤ S.size := by omega
    have i4 : ((S.size : Int) - 2).toNat = S.size - 2 := by omega
    have i5 : S.size ≤ 1000000 := by omega
    clear Q0 K0 H0 F0 hE hps hx1 hx2 hx3 hR hQ hSl hSx zR zS zp hpl hpz zQ
    by_cases z : E = 0 ∧ g1 = 0 ∧ g2 = 0 ∧ g3 = 0 ∧ kd ≠ 0
    · obtain ⟨rfl, rfl, rfl, rfl, z4⟩ := z
      rw [if_neg (by decide), if_neg (by simp [z4])] at hO2
      have HO := Lib.hid hO2
      have f1 : (kd == 0) = false := by rw [beq_eq_false_iff_ne]; exact z4
      clear hO2
      go_enter Tryz.func38, Tryz.ntmps38
      go_wp2_with fail
      refine (LH.out _).mono ?_
      rintro e w1 ⟨rfl, hb⟩
      have q1 := q0.trans (hb.mono q0.size)
      have C1 := Lib.hid (C0.out.ret' hb)
      clear hb y y0 y1 y2 y3 y4 y5 y6 y7
      go_wp2_with fail
      refine (PH.out _).mono ?_
      rintro e w2 ⟨rfl, hb⟩
      have q2 := q1.trans (hb.mono q1.size)
      have C2 := Lib.hid (C1.out.ret' hb)
      clear hb

      have al := (Below.refl w2.heap.size w2).alloc (Nat.le_refl _) (.cells #[.string MM, .string TT, .int .i64 g, .int .i64 sv] 130)
      have q3 := q2.trans (al.mono q2.size)
      have C3 := Lib.hid (C2.out.ret' al)
      clear al
      go_wp2_with fail
      refine (JH.out _).mono ?_
      rintro e w4 ⟨rfl, hb⟩
      have q4 := q3.trans (hb.mono q3.size)
      have C4 := Lib.hid (C3.out.ret' hb)
      clear hb
      go_wp2_with fail
      rw [HQ.out]
      refine (QH.out _).mono ?_
      rintro e w5 ⟨v, rfl, hv, hb⟩
      have q5 := q4.trans (hb.mono q4.size)
      have C5 := Lib.hid (C4.out.ret' hb)
      have V5 := Lib.hid hv
      clear hb hv
      go_wp2_with fail
      refine (KH.out _ _ V5.out).mono ?_
      rintro e w6 ⟨rfl, hb⟩
      have q6 := q5.trans (hb.mono q5.size)
      have C6 := Lib.hid (C5.out.ret' hb)
      have V6 := Lib.hid (V5.out.ret hb)
      clear hb
      go_wp2_with fail
      refine (HH.out _ _ V6.out).mono ?_
      rintro e w7 ⟨rfl, hb⟩
      have q7 := q6.trans (hb.mono q6.size)
      have C7 := Lib.hid (C6.out.ret' hb)
      have V7 := Lib.hid (V6.out.ret hb)
      clear hb
      go_wp2_with fail
      refine (FH.out _ _ V7.out).mono ?_
      rintro e w8 ⟨rfl, hb⟩
      have q8 := q7.trans (hb.mono q7.size)
      have C8 := Lib.hid (C7.out.ret' hb)
      clear hb
      obtain ⟨y, y0, y1, y2, y3, y4, y5, y6, y7⟩ := C8.out
      go_wp2_with fail
      refine bodyPost_ret (v := .tuple #[.agg #[.int .i64 200, .string RR, .string ⟨#[]⟩, .bool kp], .int .u8 kd, .int .i64 n]) (by simp (maxDischargeDepth := 9) [results, Tryz.results38, go_sem, *]) rfl ⟨by rw [← HO.out, ← HRR.out]; rfl, ?_⟩
      repeat (first | with_reducible exact q8 | with_reducible refine Below.drew ?_ | with_reducible refine Below.setCell ?_ (by first | omega | (simp <;> omega)) _ | with_reducible refine Below.alloc ?_ (by first | omega | (simp <;> omega)) _)
    · have hO3 : jgV (400, [], false, 0, 0) = O := by
        rw [← hO2]
        congr 1
        by_cases hE : E ≠ 0
        · rw [if_pos hE]
        · rw [if_neg hE, if_pos]
          rcases Classical.em (g1 = 0) with a1 | a1
          · rcases Classical.em (g2 = 0) with a2 | a2
            · rcases Classical.em (g3 = 0) with a3 | a3
              · refine .inr (.inr (.inr ?_))
                rcases Classical.em (kd = 0) with a4 | a4
                · exact a4
                · exact absurd ⟨by omega, a1, a2, a3, a4⟩ z
              · exact .inr (.inr (.inl a3))
            · exact .inr (.inl a2)
          · exact .inl a1
      have HO := Lib.hid hO3
      clear hO2 hO3
      have LAST : E ≠ 0 ∨ g1 ≠ 0 ∨ g2 ≠ 0 ∨ g3 ≠ 0 ∨ kd = 0 := by
        by_cases a0 : E = 0 <;> by_cases a1 : g1 = 0 <;> by_cases a2 : g2 = 0 <;> by_cases a3 : g3 = 0 <;> by_cases a4 : kd = 0 <;> simp_all
      clear z
      by_cases a0 : E = 0
      rotate_left
      · have f1 : (E == 0) = false := by rw [beq_eq_false_iff_ne]; exact a0
        have f2 : (E != 0) = true := by rw [bne_iff_ne]; exact a0
        clear LAST a0
        go_enter Tryz.func38, Tryz.ntmps38
        go_wp2_with fail
        refine (LH.out _).mono ?_
        rintro e w1 ⟨rfl, hb⟩
        have q1 := q0.trans (hb.mono q0.size)
        have C1 := Lib.hid (C0.out.ret' hb)
        clear hb y y0 y1 y2 y3 y4 y5 y6 y7
        go_wp2_with fail
        refine (PH.out _).mono ?_
        rintro e w2 ⟨rfl, hb⟩
        have q2 := q1.trans (hb.mono q1.size)
        have C2 := Lib.hid (C1.out.ret' hb)
        clear hb

        have al := (Below.refl w2.heap.size w2).alloc (Nat.le_refl _) (.cells #[.string MM, .string TT, .int .i64 g, .int .i64 sv] 130)
        have q3 := q2.trans (al.mono q2.size)
        have C3 := Lib.hid (C2.out.ret' al)
        clear al
        go_wp2_with fail
        refine (JH.out _).mono ?_
        rintro e w4 ⟨rfl, hb⟩
        have q4 := q3.trans (hb.mono q3.size)
        have C4 := Lib.hid (C3.out.ret' hb)
        clear hb
        go_wp2_with fail
        rw [HQ.out]
        refine (QH.out _).mono ?_
        rintro e w5 ⟨v, rfl, hv, hb⟩
        have q5 := q4.trans (hb.mono q4.size)
        have C5 := Lib.hid (C4.out.ret' hb)
        have V5 := Lib.hid hv
        clear hb hv
        go_wp2_with fail
        refine (KH.out _ _ V5.out).mono ?_
        rintro e w6 ⟨rfl, hb⟩
        have q6 := q5.trans (hb.mono q5.size)
        have C6 := Lib.hid (C5.out.ret' hb)
        have V6 := Lib.hid (V5.out.ret hb)
        clear hb
        go_wp2_with fail
        refine (HH.out _ _ V6.out).mono ?_
        rintro e w7 ⟨rfl, hb⟩
        have q7 := q6.trans (hb.mono q6.size)
        have C7 := Lib.hid (C6.out.ret' hb)
        have V7 := Lib.hid (V6.out.ret hb)
        clear hb
        go_wp2_with fail
        refine (FH.out _ _ V7.out).mono ?_
        rintro e w8 ⟨rfl, hb⟩
        have q8 := q7.trans (hb.mono q7.size)
        have C8 := Lib.hid (C7.out.ret' hb)
        clear hb
        obtain ⟨y, y0, y1, y2, y3, y4, y5, y6, y7⟩ := C8.out
        go_wp2_with fail
        refine bodyPost_ret (v := .tuple #[.agg #[.int .i64 400, .string ⟨#[]⟩, .string ⟨#[]⟩, .bool false], .int .u8 0, .int .i64 0]) (by simp (maxDischargeDepth := 9) [results, Tryz.results38, go_sem, *]) rfl ⟨by rw [← HO.out]; rfl, ?_⟩
        repeat (first | with_reducible exact q8 | with_reducible refine Below.drew ?_ | with_reducible refine Below.setCell ?_ (by first | omega | (simp <;> omega)) _ | with_reducible refine Below.alloc ?_ (by first | omega | (simp <;> omega)) _)
      subst a0
      by_cases a1 : g1 = 0
      rotate_left
      · have f1 : (g1 == 0) = false := by rw [beq_eq_false_iff_ne]; exact a1
        have f2 : (g1 != 0) = true := by rw [bne_iff_ne]; exact a1
        clear LAST a1
        go_enter Tryz.func38, Tryz.ntmps38
        go_wp2_with fail
        refine (LH.out _).mono ?_
        rintro e w1 ⟨rfl, hb⟩
        have q1 := q0.trans (hb.mono q0.size)
        have C1 := Lib.hid (C0.out.ret' hb)
        clear hb y y0 y1 y2 y3 y4 y5 y6 y7
        go_wp2_with fail
        refine (PH.out _).mono ?_
        rintro e w2 ⟨rfl, hb⟩
        have q2 := q1.trans (hb.mono q1.size)
        have C2 := Lib.hid (C1.out.ret' hb)
        clear hb

        have al := (Below.refl w2.heap.size w2).alloc (Nat.le_refl _) (.cells #[.string MM, .string TT, .int .i64 g, .int .i64 sv] 130)
        have q3 := q2.trans (al.mono q2.size)
        have C3 := Lib.hid (C2.out.ret' al)
        clear al
        go_wp2_with fail
        refine (JH.out _).mono ?_
        rintro e w4 ⟨rfl, hb⟩
        have q4 := q3.trans (hb.mono q3.size)
        have C4 := Lib.hid (C3.out.ret' hb)
        clear hb
        go_wp2_with fail
        rw [HQ.out]
        refine (QH.out _).mono ?_
        rintro e w5 ⟨v, rfl, hv, hb⟩
        have q5 := q4.trans (hb.mono q4.size)
        have C5 := Lib.hid (C4.out.ret' hb)
        have V5 := Lib.hid hv
        clear hb hv
        go_wp2_with fail
        refine (KH.out _ _ V5.out).mono ?_
        rintro e w6 ⟨rfl, hb⟩
        have q6 := q5.trans (hb.mono q5.size)
        have C6 := Lib.hid (C5.out.ret' hb)
        have V6 := Lib.hid (V5.out.ret hb)
        clear hb
        go_wp2_with fail
        refine (HH.out _ _ V6.out).mono ?_
        rintro e w7 ⟨rfl, hb⟩
        have q7 := q6.trans (hb.mono q6.size)
        have C7 := Lib.hid (C6.out.ret' hb)
        have V7 := Lib.hid (V6.out.ret hb)
        clear hb
        go_wp2_with fail
        refine (FH.out _ _ V7.out).mono ?_
        rintro e w8 ⟨rfl, hb⟩
        have q8 := q7.trans (hb.mono q7.size)
        have C8 := Lib.hid (C7.out.ret' hb)
        clear hb
        obtain ⟨y, y0, y1, y2, y3, y4, y5, y6, y7⟩ := C8.out
        go_wp2_with fail
        refine bodyPost_ret (v := .tuple #[.agg #[.int .i64 400, .string ⟨#[]⟩, .string ⟨#[]⟩, .bool false], .int .u8 0, .int .i64 0]) (by simp (maxDischargeDepth := 9) [results, Tryz.results38, go_sem, *]) rfl ⟨by rw [← HO.out]; rfl, ?_⟩
        repeat (first | with_reducible exact q8 | with_reducible refine Below.drew ?_ | with_reducible refine Below.setCell ?_ (by first | omega | (simp <;> omega)) _ | with_reducible refine Below.alloc ?_ (by first | omega | (simp <;> omega)) _)
      subst a1
      by_cases a2 : g2 = 0
      rotate_left
      · have f1 : (g2 == 0) = false := by rw [beq_eq_false_iff_ne]; exact a2
        have f2 : (g2 != 0) = true := by rw [bne_iff_ne]; exact a2
        clear LAST a2
        go_enter Tryz.func38, Tryz.ntmps38
        go_wp2_with fail
        refine (LH.out _).mono ?_
        rintro e w1 ⟨rfl, hb⟩
        have q1 := q0.trans (hb.mono q0.size)
        have C1 := Lib.hid (C0.out.ret' hb)
        clear hb y y0 y1 y2 y3 y4 y5 y6 y7
        go_wp2_with fail
        refine (PH.out _).mono ?_
        rintro e w2 ⟨rfl, hb⟩
        have q2 := q1.trans (hb.mono q1.size)
        have C2 := Lib.hid (C1.out.ret' hb)
        clear hb

        have al := (Below.refl w2.heap.size w2).alloc (Nat.le_refl _) (.cells #[.string MM, .string TT, .int .i64 g, .int .i64 sv] 130)
        have q3 := q2.trans (al.mono q2.size)
        have C3 := Lib.hid (C2.out.ret' al)
        clear al
        go_wp2_with fail
        refine (JH.out _).mono ?_
        rintro e w4 ⟨rfl, hb⟩
        have q4 := q3.trans (hb.mono q3.size)
        have C4 := Lib.hid (C3.out.ret' hb)
        clear hb
        go_wp2_with fail
        rw [HQ.out]
        refine (QH.out _).mono ?_
        rintro e w5 ⟨v, rfl, hv, hb⟩
        have q5 := q4.trans (hb.mono q4.size)
        have C5 := Lib.hid (C4.out.ret' hb)
        have V5 := Lib.hid hv
        clear hb hv
        go_wp2_with fail
        refine (KH.out _ _ V5.out).mono ?_
        rintro e w6 ⟨rfl, hb⟩
        have q6 := q5.trans (hb.mono q5.size)
        have C6 := Lib.hid (C5.out.ret' hb)
        have V6 := Lib.hid (V5.out.ret hb)
        clear hb
        go_wp2_with fail
        refine (HH.out _ _ V6.out).mono ?_
        rintro e w7 ⟨rfl, hb⟩
        have q7 := q6.trans (hb.mono q6.size)
        have C7 := Lib.hid (C6.out.ret' hb)
        have V7 := Lib.hid (V6.out.ret hb)
        clear hb
        go_wp2_with fail
        refine (FH.out _ _ V7.out).mono ?_
        rintro e w8 ⟨rfl, hb⟩
        have q8 := q7.trans (hb.mono q7.size)
        have C8 := Lib.hid (C7.out.ret' hb)
        clear hb
        obtain ⟨y, y0, y1, y2, y3, y4, y5, y6, y7⟩ := C8.out
        go_wp2_with fail
        refine bodyPost_ret (v := .tuple #[.agg #[.int .i64 400, .string ⟨#[]⟩, .string ⟨#[]⟩, .bool false], .int .u8 0, .int .i64 0]) (by simp (maxDischargeDepth := 9) [results, Tryz.results38, go_sem, *]) rfl ⟨by rw [← HO.out]; rfl, ?_⟩
        repeat (first | with_reducible exact q8 | with_reducible refine Below.drew ?_ | with_reducible refine Below.setCell ?_ (by first | omega | (simp <;> omega)) _ | with_reducible refine Below.alloc ?_ (by first | omega | (simp <;> omega)) _)
      subst a2
      by_cases a3 : g3 = 0
      rotate_left
      · have f1 : (g3 == 0) = false := by rw [beq_eq_false_iff_ne]; exact a3
        have f2 : (g3 != 0) = true := by rw [bne_iff_ne]; exact a3
        clear LAST a3
        go_enter Tryz.func38, Tryz.ntmps38
        go_wp2_with fail
        refine (LH.out _).mono ?_
        rintro e w1 ⟨rfl, hb⟩
        have q1 := q0.trans (hb.mono q0.size)
        have C1 := Lib.hid (C0.out.ret' hb)
        clear hb y y0 y1 y2 y3 y4 y5 y6 y7
        go_wp2_with fail
        refine (PH.out _).mono ?_
        rintro e w2 ⟨rfl, hb⟩
        have q2 := q1.trans (hb.mono q1.size)
        have C2 := Lib.hid (C1.out.ret' hb)
        clear hb

        have al := (Below.refl w2.heap.size w2).alloc (Nat.le_refl _) (.cells #[.string MM, .string TT, .int .i64 g, .int .i64 sv] 130)
        have q3 := q2.trans (al.mono q2.size)
        have C3 := Lib.hid (C2.out.ret' al)
        clear al
        go_wp2_with fail
        refine (JH.out _).mono ?_
        rintro e w4 ⟨rfl, hb⟩
        have q4 := q3.trans (hb.mono q3.size)
        have C4 := Lib.hid (C3.out.ret' hb)
        clear hb
        go_wp2_with fail
        rw [HQ.out]
        refine (QH.out _).mono ?_
        rintro e w5 ⟨v, rfl, hv, hb⟩
        have q5 := q4.trans (hb.mono q4.size)
        have C5 := Lib.hid (C4.out.ret' hb)
        have V5 := Lib.hid hv
        clear hb hv
        go_wp2_with fail
        refine (KH.out _ _ V5.out).mono ?_
        rintro e w6 ⟨rfl, hb⟩
        have q6 := q5.trans (hb.mono q5.size)
        have C6 := Lib.hid (C5.out.ret' hb)
        have V6 := Lib.hid (V5.out.ret hb)
        clear hb
        go_wp2_with fail
        refine (HH.out _ _ V6.out).mono ?_
        rintro e w7 ⟨rfl, hb⟩
        have q7 := q6.trans (hb.mono q6.size)
        have C7 := Lib.hid (C6.out.ret' hb)
        have V7 := Lib.hid (V6.out.ret hb)
        clear hb
        go_wp2_with fail
        refine (FH.out _ _ V7.out).mono ?_
        rintro e w8 ⟨rfl, hb⟩
        have q8 := q7.trans (hb.mono q7.size)
        have C8 := Lib.hid (C7.out.ret' hb)
        clear hb
        obtain ⟨y, y0, y1, y2, y3, y4, y5, y6, y7⟩ := C8.out
        go_wp2_with fail
        refine bodyPost_ret (v := .tuple #[.agg #[.int .i64 400, .string ⟨#[]⟩, .string ⟨#[]⟩, .bool false], .int .u8 0, .int .i64 0]) (by simp (maxDischargeDepth := 9) [results, Tryz.results38, go_sem, *]) rfl ⟨by rw [← HO.out]; rfl, ?_⟩
        repeat (first | with_reducible exact q8 | with_reducible refine Below.drew ?_ | with_reducible refine Below.setCell ?_ (by first | omega | (simp <;> omega)) _ | with_reducible refine Below.alloc ?_ (by first | omega | (simp <;> omega)) _)
      subst a3
      obtain rfl : kd = 0 := by
        rcases LAST with h | h | h | h | h
        · exact absurd rfl h
        · exact absurd rfl h
        · exact absurd rfl h
        · exact absurd rfl h
        · exact h
      clear LAST
      go_enter Tryz.func38, Tryz.ntmps38
      go_wp2_with fail
      refine (LH.out _).mono ?_
      rintro e w1 ⟨rfl, hb⟩
      have q1 := q0.trans (hb.mono q0.size)
      have C1 := Lib.hid (C0.out.ret' hb)
      clear hb y y0 y1 y2 y3 y4 y5 y6 y7
      go_wp2_with fail
      refine (PH.out _).mono ?_
      rintro e w2 ⟨rfl, hb⟩
      have q2 := q1.trans (hb.mono q1.size)
      have C2 := Lib.hid (C1.out.ret' hb)
      clear hb

      have al := (Below.refl w2.heap.size w2).alloc (Nat.le_refl _) (.cells #[.string MM, .string TT, .int .i64 g, .int .i64 sv] 130)
      have q3 := q2.trans (al.mono q2.size)
      have C3 := Lib.hid (C2.out.ret' al)
      clear al
      go_wp2_with fail
      refine (JH.out _).mono ?_
      rintro e w4 ⟨rfl, hb⟩
      have q4 := q3.trans (hb.mono q3.size)
      have C4 := Lib.hid (C3.out.ret' hb)
      clear hb
      go_wp2_with fail
      rw [HQ.out]
      refine (QH.out _).mono ?_
      rintro e w5 ⟨v, rfl, hv, hb⟩
      have q5 := q4.trans (hb.mono q4.size)
      have C5 := Lib.hid (C4.out.ret' hb)
      have V5 := Lib.hid hv
      clear hb hv
      go_wp2_with fail
      refine (KH.out _ _ V5.out).mono ?_
      rintro e w6 ⟨rfl, hb⟩
      have q6 := q5.trans (hb.mono q5.size)
      have C6 := Lib.hid (C5.out.ret' hb)
      have V6 := Lib.hid (V5.out.ret hb)
      clear hb
      go_wp2_with fail
      refine (HH.out _ _ V6.out).mono ?_
      rintro e w7 ⟨rfl, hb⟩
      have q7 := q6.trans (hb.mono q6.size)
      have C7 := Lib.hid (C6.out.ret' hb)
      have V7 := Lib.hid (V6.out.ret hb)
      clear hb
      go_wp2_with fail
      refine (FH.out _ _ V7.out).mono ?_
      rintro e w8 ⟨rfl, hb⟩
      have q8 := q7.trans (hb.mono q7.size)
      have C8 := Lib.hid (C7.out.ret' hb)
      clear hb
      obtain ⟨y, y0, y1, y2, y3, y4, y5, y6, y7⟩ := C8.out
      go_wp2_with fail
      refine bodyPost_ret (v := .tuple #[.agg #[.int .i64 400, .string ⟨#[]⟩, .string ⟨#[]⟩, .bool false], .int .u8 0, .int .i64 0]) (by simp (maxDischargeDepth := 9) [results, Tryz.results38, go_sem, *]) rfl ⟨by rw [← HO.out]; rfl, ?_⟩
      repeat (first | with_reducible exact q8 | with_reducible refine Below.drew ?_ | with_reducible refine Below.setCell ?_ (by first | omega | (simp <;> omega)) _ | with_reducible refine Below.alloc ?_ (by first | omega | (simp <;> omega)) _)
end Go.Proofs.YthgmgmbjjjnhnaaGreatDoor
