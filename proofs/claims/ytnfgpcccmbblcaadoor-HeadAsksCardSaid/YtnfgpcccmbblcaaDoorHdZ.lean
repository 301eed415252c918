/- HeadAsks: the walk. PRINTED BY PROGRAM (gen_hdz.py). -/
import Derived.Test.YtnfgpcccmbblcaaDoorHdYb
import Derived.Test.YtnfgpcccmbblcaaDoorHdWc
import Derived.Test.YtnfgpcccmbblcaaDoorAp
namespace Go.Proofs.YtnfgpcccmbblcaaDoor
open Go.RowKit

set_option maxHeartbeats 16000000 in
set_option maxRecDepth 100000 in
theorem asks14 (v : Value) (l : List Pr) (name : ByteArray) (w : World) (hv : IsPairs v l w) (hl : l.length ≤ 9223372036854775807) (zs : name.size ≤ 9223372036854775807) :
    Calls Tryd.prog 12 #[v, .string name] w (Ret w (.bool true)) := by
  have GH0 := fun w (h : IsPairs v l w) => r14_Great v l w h hl
  have HV := Lib.hid hv
  obtain ⟨g, hg⟩ : ∃ g, grt l = g := ⟨_, rfl⟩
  rw [hg] at GH0
  have GH := Lib.hid GH0
  clear GH0
  by_cases hgood : g = false ∧ name.size ≤ 1000
  · obtain ⟨rfl, zn⟩ := hgood
    obtain ⟨s1, s2, s3⟩ := grt_small hg
    have e1 : decide ((1000 : Int) < name.size) = false := decide_eq_false (by omega)
    have b1 : ∀ p ∈ l, p.1.length ≤ 1000000 := fun p hp => by have := s3 p hp; omega
    have b2 : ∀ p ∈ l, p.2.length ≤ 1000000 := fun p hp => by have := s3 p hp; omega
    have b3 : ∀ p ∈ l, p.1.length ≤ 100000 ∧ p.2.length ≤ 100000 := fun p hp => by have := s3 p hp; omega
    have W10 := fun v w (h : IsPairs v l w) => hd_Write v l w (by omega) b3 h
    have W20 := fun w (h : IsPairs v l w) => r14_Write v l w (by omega) b3 h
    have O10 := fun v w (h : IsPairs v l w) => hd_One v l name w h (by omega) b1 (by omega)
    have O20 := fun w (h : IsPairs v l w) => r14_One v l name w h (by omega) b1 (by omega)
    have F10 := fun v w (h : IsPairs v l w) => hd_Frame v l w h (by omega) b1 b2
    have F20 := fun w (h : IsPairs v l w) => r14_Frame v l w h (by omega) b1 b2
    have K10 := fun v w (h : IsPairs v l w) => hd_Keep v l w h (by omega) b1 b2
    have K20 := fun w (h : IsPairs v l w) => r14_Keep v l w h (by omega) b1 b2
    have H10 := fun v w (h : IsPairs v l w) => hd_Host v l w h (by omega) b1 b2
    have H20 := fun w (h : IsPairs v l w) => r14_Host v l w h (by omega) b1 b2
    have D10 := fun v w (h : IsPairs v l w) => hd_Find v l name w h (by omega) b1 (by omega)
    have D20 := fun w (h : IsPairs v l w) => r14_Find v l name w h (by omega) b1 (by omega)
    have hfl := fndV_len l name.data.toList
    unfold wrT at W10 W20
    unfold OneIs at O10 O20
    unfold frmT at F10
    unfold kepT at K10 K20
    unfold hstT at H10 H20
    unfold FndIs at D10 D20
    obtain ⟨xs, hxs⟩ : ∃ x, fndV l name.data.toList = x := ⟨_, rfl⟩
    rw [hxs] at O10 O20 D10 D20 hfl
    obtain ⟨⟨c1, c2, c3⟩, hone⟩ : ∃ x, oneX xs = x := ⟨_, rfl⟩
    rw [hone] at O10 O20
    obtain ⟨⟨k1, k2, k3⟩, hfrm⟩ : ∃ x, frm l = x := ⟨_, rfl⟩
    rw [hfrm] at F10 F20
    obtain ⟨⟨t1, t2⟩, hkep⟩ : ∃ x, kep l = x := ⟨_, rfl⟩
    rw [hkep] at K10 K20
    obtain ⟨⟨h1, h2⟩, hhst⟩ : ∃ x, hst l = x := ⟨_, rfl⟩
    rw [hhst] at H10 H20
    obtain ⟨a1, ha1⟩ : ∃ x : ByteArray, ⟨(wrS l).toArray⟩ = x := ⟨_, rfl⟩
    obtain ⟨a2, ha2⟩ : ∃ x, wrE l = x := ⟨_, rfl⟩
    rw [ha1, ha2] at W10 W20
    simp only at O10 O20 F10 F20 K10 K20 H10 H20
    obtain ⟨C1, hC1⟩ : ∃ x : ByteArray, ⟨c1.toArray⟩ = x := ⟨_, rfl⟩
    rw [hC1] at O10 O20
    obtain ⟨P1, hP1⟩ : ∃ x : ByteArray, ⟨h1.toArray⟩ = x := ⟨_, rfl⟩
    rw [hP1] at H10 H20
    have S10 := fun u1 u2 w (h1 : IsVals u1 (strV xs) w) (h2 : IsVals u2 (strV xs) w) => r4_Same u1 u2 xs xs w h1 h2 (by omega)
    rw [decide_eq_true rfl] at S10
    have S20 := fun u w (h1 : IsPairs u l w) (h2 : IsPairs v l w) => r9_Same u v l l w h1 h2 (by omega)
    rw [decide_eq_true rfl] at S20
    have W1 := Lib.hid W10
    have W2 := Lib.hid W20
    have O1 := Lib.hid O10
    have O2 := Lib.hid O20
    have F1 := Lib.hid F10
    have F2 := Lib.hid F20
    have K1 := Lib.hid K10
    have K2 := Lib.hid K20
    have H1 := Lib.hid H10
    have H2 := Lib.hid H20
    have D1 := Lib.hid D10
    have D2 := Lib.hid D20
    have S1 := Lib.hid S10
    have S2 := Lib.hid S20
    clear W10 W20 O10 O20 F10 F20 K10 K20 H10 H20 D10 D20 S10 S20 hone hfrm hkep hhst ha1 ha2 hC1 hP1 b1 b2 b3 s2 s3 hxs hfl hv hg
    obtain ⟨i0, hi, hz0, hz1, hz2⟩ := info_parts vinfo_pair
    obtain ⟨va, vc, rfl⟩ := HV.out.form
    obtain ⟨m, hmm⟩ : ∃ m, l.length = m := ⟨_, rfl⟩
    rw [hmm] at HV GH W2 O2 F2 K2 H2 D2 S2 s1 ⊢
    clear hl zs
    go_enter Tryd.func12, Tryd.ntmps12
    have q0 := Below.refl w.heap.size w
    go_wp2_with fail
    refine (GH.out _ (HV.out.ret q0)).mono ?_
    rintro e w1 ⟨rfl, hb⟩
    have q1 := q0.trans (hb.mono q0.size)
    clear hb
    clear q0
    go_wp2_with (at_builtin; refine Hid.out ?_)
    refine Lib.hid ?_
    have r0 := ap_new w1.heap.size (Below.refl w1.heap.size w1) (Nat.le_refl _) rfl
    have p0 := (HV.out.ret q1).ret ((Below.refl w1.heap.size w1).alloc (Nat.le_refl _) (.cells #[] 52))
    unfold IsPairs at p0
    rw [hmm] at p0
    refine wpList_app_row rfl _ _ _ rfl w1.heap.size 52 i0 _ 2 32 Tryd.underlying22 hi hz0 hz1 hz2 rfl (by omega) _ 0 [] (by rfl) r0 (.slice va m vc) (by rfl) m (prV l) p0 (prV_one l) (by omega) (by omega) (by simp) ?_
    intro v5 w2 hown hgrow
    have hb := ap_below ((Below.refl w1.heap.size w1).alloc (Nat.le_refl _) (.cells #[] 52)) (Nat.le_refl _) r0 hgrow
    have o2 : IsPairs v5 l w2 := by
      have := own_row hown
      rw [Nat.zero_add] at this
      unfold IsPairs
      rw [hmm]
      exact this
    have q2 := q1.trans (hb.mono q1.size)
    clear hb hown hgrow r0 p0 q1 i0 hi hz0 hz1 hz2
    go_wp2_with fail
    refine (W1.out v5 _ o2).mono ?_
    rintro e w3 ⟨rfl, hb⟩
    have q3 := q2.trans (hb.mono q2.size)
    have o3 := o2.ret hb
    clear hb
    go_wp2_with fail
    refine (W2.out _ (HV.out.ret q3)).mono ?_
    rintro e w4 ⟨rfl, hb⟩
    have q4 := q3.trans (hb.mono q3.size)
    have o4 := o3.ret hb
    clear hb
    go_wp2_with fail
    refine (O1.out v5 _ o4).mono ?_
    rintro e w5 ⟨rfl, hb⟩
    have q5 := q4.trans (hb.mono q4.size)
    have o5 := o4.ret hb
    clear hb
    go_wp2_with fail
    refine (O2.out _ (HV.out.ret q5)).mono ?_
    rintro e w6 ⟨rfl, hb⟩
    have q6 := q5.trans (hb.mono q5.size)
    have o6 := o5.ret hb
    clear hb
    go_wp2_with fail
    refine (F1.out v5 _ o6).mono ?_
    rintro e w7 ⟨rfl, hb⟩
    have q7 := q6.trans (hb.mono q6.size)
    have o7 := o6.ret hb
    clear hb
    go_wp2_with fail
    refine (F2.out _ (HV.out.ret q7)).mono ?_
    rintro e w8 ⟨rfl, hb⟩
    have q8 := q7.trans (hb.mono q7.size)
    have o8 := o7.ret hb
    clear hb
    go_wp2_with fail
    refine (K1.out v5 _ o8).mono ?_
    rintro e w9 ⟨rfl, hb⟩
    have q9 := q8.trans (hb.mono q8.size)
    have o9 := o8.ret hb
    clear hb
    go_wp2_with fail
    refine (K2.out _ (HV.out.ret q9)).mono ?_
    rintro e w10 ⟨rfl, hb⟩
    have q10 := q9.trans (hb.mono q9.size)
    have o10 := o9.ret hb
    clear hb
    go_wp2_with fail
    refine (H1.out v5 _ o10).mono ?_
    rintro e w11 ⟨rfl, hb⟩
    have q11 := q10.trans (hb.mono q10.size)
    have o11 := o10.ret hb
    clear hb
    go_wp2_with fail
    refine (H2.out _ (HV.out.ret q11)).mono ?_
    rintro e w12 ⟨rfl, hb⟩
    have q12 := q11.trans (hb.mono q11.size)
    have o12 := o11.ret hb
    clear hb
    go_wp2_with fail
    refine (D1.out v5 _ o12).mono ?_
    rintro e w13 ⟨u1, rfl, hu1, hb⟩
    have q13 := q12.trans (hb.mono q12.size)
    have o13 := o12.ret hb
    clear hb
    go_wp2_with fail
    refine (D2.out _ (HV.out.ret q13)).mono ?_
    rintro e w14 ⟨u2, rfl, hu2, hb⟩
    have q14 := q13.trans (hb.mono q13.size)
    have o14 := o13.ret hb
    have hu3 := hu1.ret hb
    clear hb
    go_wp2_with fail
    refine (S1.out u1 u2 _ hu3 hu2).mono ?_
    rintro e w15 ⟨rfl, hb⟩
    have q15 := q14.trans (hb.mono q14.size)
    have o15 := o14.ret hb
    clear hb
    go_wp2_with fail
    refine (S2.out v5 _ o15 (HV.out.ret q15)).mono ?_
    rintro e w16 ⟨rfl, hb⟩
    have q16 := q15.trans (hb.mono q15.size)
    have o16 := o15.ret hb
    clear hb
    go_wp2_with fail
    go_ret
    exact ⟨rfl, q16⟩
  · have done : ∀ (h : g = true ∨ decide ((1000 : Int) < name.size) = true), Calls Tryd.prog 12 #[v, .string name] w (Ret w (.bool true)) := by
      intro h
      clear hgood hg hv
      cases g with
      | true =>
        clear h
        go_enter Tryd.func12, Tryd.ntmps12
        go_wp2_with fail
        refine (GH.out _ HV.out).mono ?_
        rintro e w1 ⟨rfl, hb⟩
        go_wp2_with fail
        go_ret
        exact ⟨rfl, hb⟩
      | false =>
        have e1 : decide ((1000 : Int) < name.size) = true := by
          rcases h with h | h
          · cases h
          · exact h
        clear h
        go_enter Tryd.func12, Tryd.ntmps12
        go_wp2_with fail
        refine (GH.out _ HV.out).mono ?_
        rintro e w1 ⟨rfl, hb⟩
        go_wp2_with fail
        go_ret
        exact ⟨rfl, hb⟩
    refine done ?_
    cases g with
    | true => exact .inl rfl
    | false =>
      right
      by_cases h1 : name.size ≤ 1000
      · exact absurd ⟨rfl, h1⟩ hgood
      · exact decide_eq_true (by omega)
end Go.Proofs.YtnfgpcccmbblcaaDoor
