/- law19: JidBack. PRINTED BY PROGRAM (gen_jlc.py). -/
import Derived.Test.YtfonkblbgadhmaaDoorJdLb
import Derived.Test.YtfonkblbgadhmaaDoorGh
namespace Go.Proofs.YtfonkblbgadhmaaDoor
open Go.RowKit Go.Lib

theorem back19_big (l d r s : ByteArray) (w : World) (zl : l.size ≤ 140737488351232) (zd : d.size ≤ 140737488351232) (zr : r.size ≤ 140737488351232) (zs : s.size ≤ 9223372036854775807) (hm : ML w) (hbig : 1000 < s.size ∨ 1000 < l.size + d.size + r.size) :
    Calls Tryd.prog 3 #[jV l d r, .string s] w (Ret w (.bool true)) := by
  have q0 := (Below.refl w.heap.size w).alloc (Nat.le_refl _) (.cells #[.string l, .string d, .string r] 23)
  have k0 := JAt.new w l d r
  have m0 := hm.ret q0
  by_cases h1 : 1000 < s.size
  · have g1 : (1000 : Int) < s.size := by omega
    clear hbig
    go_enter Tryd.func3, Tryd.ntmps3
    go_wp2_with fail
    refine (alive19 _ m0).mono ?_
    rintro e w1 ⟨rfl, hb⟩
    have q1 := q0.trans (hb.mono q0.size)
    have m1 := m0.ret hb
    have k1 := k0.ret hb
    clear hb q0 m0 k0
    go_wp2_with fail
    go_ret
    exact ⟨rfl, q1⟩
  · have g1 : ¬ (1000 : Int) < s.size := by omega
    have g2 : (1000 : Int) < (l.size : Int) + d.size + r.size := by omega
    clear hbig
    go_enter Tryd.func3, Tryd.ntmps3
    go_wp2_with fail
    refine (alive19 _ m0).mono ?_
    rintro e w1 ⟨rfl, hb⟩
    have q1 := q0.trans (hb.mono q0.size)
    have m1 := m0.ret hb
    have k1 := k0.ret hb
    clear hb q0 m0 k0
    obtain ⟨x0, x1, x2, x3, x4⟩ := id k1
    go_wp2_with fail
    go_ret
    exact ⟨rfl, q1⟩
set_option maxHeartbeats 2000000 in
theorem back19_TF (l d r s T0 : ByteArray) (w : World) (hm : ML w) (g1 : ¬ (1000 : Int) < s.size) (g2 : ¬ (1000 : Int) < (l.size : Int) + d.size + r.size) (zl : l.size ≤ 1000) (zd : d.size ≤ 1000) (zr : r.size ≤ 1000) (zs : s.size ≤ 1000)
    (CW : ∀ w : World, ML w → Calls Tryd.prog 9 #[jV l d r] w (Ret w (.tuple #[.string T0, .int .i64 0]))) (CI : ∀ w : World, ML w → Calls Tryd.prog 10 #[.string T0, .string l, .string d, .string r] w (Ret w (.bool true)))
    (CP : ∀ w : World, ML w → Calls Tryd.prog 11 #[.string s] w (Ret w (.tuple #[jV ⟨#[]⟩ ⟨#[]⟩ ⟨#[]⟩, .int .i64 190]))) :
    Calls Tryd.prog 3 #[jV l d r, .string s] w (Ret w (.bool true)) := by
  have q0 := (Below.refl w.heap.size w).alloc (Nat.le_refl _) (.cells #[.string l, .string d, .string r] 23)
  have k0 := JAt.new w l d r
  have m0 := hm.ret q0
  have EQ := eql_jid
  have EG := eg_jid
  have ES := jE_self ⟨#[]⟩ ⟨#[]⟩ ⟨#[]⟩
  have HW := Lib.hid CW
  have HI := Lib.hid CI
  have HP := Lib.hid CP
  clear CW CP CI
  go_enter Tryd.func3, Tryd.ntmps3
  go_wp2_with fail
  refine (alive19 _ m0).mono ?_
  rintro e w1 ⟨rfl, hb⟩
  have q1 := q0.trans (hb.mono q0.size)
  have m1 := m0.ret hb
  have k1 := k0.ret hb
  clear hb q0 m0 k0
  obtain ⟨x0, x1, x2, x3, x4⟩ := id k1
  go_wp2_with fail
  refine (HW.out _ m1).mono ?_
  rintro e w2 ⟨rfl, hb⟩
  have q2 := q1.trans (hb.mono q1.size)
  have m2 := m1.ret hb
  have k2 := k1.ret hb
  clear hb q1 m1 k1
  clear x0 x1 x2 x3 x4
  obtain ⟨x0, x1, x2, x3, x4⟩ := id k2
  go_wp2_with fail
  refine (HI.out _ m2).mono ?_
  rintro e w3 ⟨rfl, hb⟩
  have q3 := q2.trans (hb.mono q2.size)
  have m3 := m2.ret hb
  have k3 := k2.ret hb
  clear hb q2 m2 k2
  clear x0 x1 x2 x3 x4
  go_wp2_with fail
  refine (HP.out _ m3).mono ?_
  rintro e w4 ⟨rfl, hb⟩
  have q4 := q3.trans (hb.mono q3.size)
  have m4 := m3.ret hb
  have k4 := k3.ret hb
  clear hb q3 m3 k3
  go_wp2_with fail
  go_ret
  exact ⟨rfl, q4.alloc q4.size _⟩
set_option maxHeartbeats 8000000 in
set_option maxRecDepth 100000 in
theorem back19_TT (l d r s T0 X Y Z A Lo B U : ByteArray) (N : Nat) (w : World) (hm : ML w) (g1 : ¬ (1000 : Int) < s.size) (g2 : ¬ (1000 : Int) < (l.size : Int) + d.size + r.size) (zl : l.size ≤ 1000) (zd : d.size ≤ 1000) (zr : r.size ≤ 1000) (zs : s.size ≤ 1000)
    (CW : ∀ w : World, ML w → Calls Tryd.prog 9 #[jV l d r] w (Ret w (.tuple #[.string T0, .int .i64 0]))) (CI : ∀ w : World, ML w → Calls Tryd.prog 10 #[.string T0, .string l, .string d, .string r] w (Ret w (.bool true)))
    (CP : ∀ w : World, ML w → Calls Tryd.prog 11 #[.string s] w (Ret w (.tuple #[jV X Y Z, .int .i64 0])))
    (hN : N ≤ s.size) (hlt : ∀ k, k < N → ∃ h : k < s.size, s[k].toNat ≠ 47) (hend : ∀ h : N < s.size, s[N].toNat = 47)
    (hA : s.extract 0 N = A) (hB : s.extract N s.size = B)
    (CL : ∀ w : World, Calls Tryd.prog 12 #[.string A] w (Ret w (.string Lo))) (zLo : Lo.size ≤ 1000) (zB : B.size ≤ 1000) (hU : Lo ++ B = U)
    (CU : ∀ w : World, ML w → Calls Tryd.prog 9 #[jV X Y Z] w (Ret w (.tuple #[.string U, .int .i64 0])))
    (CC : ∀ w : World, ML w → Calls Tryd.prog 13 #[jV X Y Z] w (Ret w (.int .i64 0))) :
    Calls Tryd.prog 3 #[jV l d r, .string s] w (Ret w (.bool true)) := by
  have q0 := (Below.refl w.heap.size w).alloc (Nat.le_refl _) (.cells #[.string l, .string d, .string r] 23)
  have k0 := JAt.new w l d r
  have m0 := hm.ret q0
  have HW := Lib.hid CW
  have HI := Lib.hid CI
  have HP := Lib.hid CP
  have HL := Lib.hid CL
  have WK := Lib.hid CU
  have CK := Lib.hid CC
  have HLT := Lib.hid hlt
  have HEND := Lib.hid hend
  have HA := Lib.hid hA
  have HB := Lib.hid hB
  have HU := Lib.hid hU
  have nz : ¬ 9223372036854775807 < Lo.size + B.size := by omega
  clear CW CP CL CU CC hlt hend hA hB hU CI
  go_enter Tryd.func3, Tryd.ntmps3
  go_wp2_with fail
  refine (alive19 _ m0).mono ?_
  rintro e w1 ⟨rfl, hb⟩
  have q1 := q0.trans (hb.mono q0.size)
  have m1 := m0.ret hb
  have k1 := k0.ret hb
  clear hb q0 m0 k0
  obtain ⟨x0, x1, x2, x3, x4⟩ := id k1
  go_wp2_with fail
  refine (HW.out _ m1).mono ?_
  rintro e w2 ⟨rfl, hb⟩
  have q2 := q1.trans (hb.mono q1.size)
  have m2 := m1.ret hb
  have k2 := k1.ret hb
  clear hb q1 m1 k1
  clear x0 x1 x2 x3 x4
  obtain ⟨x0, x1, x2, x3, x4⟩ := id k2
  go_wp2_with fail
  refine (HI.out _ m2).mono ?_
  rintro e w3 ⟨rfl, hb⟩
  have q3 := q2.trans (hb.mono q2.size)
  have m3 := m2.ret hb
  have k3 := k2.ret hb
  clear hb q2 m2 k2
  clear x0 x1 x2 x3 x4
  go_wp2_with fail
  refine (HP.out _ m3).mono ?_
  rintro e w4 ⟨rfl, hb⟩
  have q4 := q3.trans (hb.mono q3.size)
  have m4 := m3.ret hb
  have k4 := k3.ret hb
  clear hb q3 m3 k3
  have al := (Below.refl w4.heap.size w4).alloc (Nat.le_refl _) (.cells #[.string X, .string Y, .string Z] 23)
  have k5 := JAt.new w4 X Y Z
  have q5 := q4.trans (al.mono q4.size)
  have m5 := m4.ret al
  clear al q4 m4 k4
  go_wp2_with fail
  go_loop [10] (fun i => ∃ k : Nat, k ≤ N ∧ i = .int .i64 k) (fun i => N - (intOf i).toNat)
  case atStart => exact ⟨0, Nat.zero_le _, rfl⟩
  case round =>
    obtain ⟨k, hk, rfl⟩ := hrel
    by_cases hkN : k < N
    · obtain ⟨h1, h2⟩ := HLT.out k hkN
      have e47 : ((s[k].toNat : Int) == 47) = false := beq_eq_false_iff_ne.2 (by omega)
      have f47 : ((s[k].toNat : Int) != 47) = true := by unfold bne; rw [e47]; rfl
      clear h2
      go_wp2_with fail
      go_round
      case rel => exact ⟨k + 1, by omega, by go_num⟩
      case measure => simp [intOf]; omega
    · obtain rfl : k = N := by omega
      by_cases h1 : k < s.size
      · have h2 := HEND.out h1
        have e47 : ((s[k].toNat : Int) == 47) = true := beq_iff_eq.2 (by omega)
        have f47 : ((s[k].toNat : Int) != 47) = false := by unfold bne; rw [e47]; rfl
        clear h2
        have hA := HA.out
        have hB := HB.out
        have hU := HU.out
        obtain ⟨x0, x1, x2, x3, x4⟩ := id k5
        go_wp2_with fail
        refine (WK.out _ m5).mono ?_
        rintro e w6 ⟨rfl, hb⟩
        have q6 := q5.trans (hb.mono q5.size)
        have m6 := m5.ret hb
        have k6 := k5.ret hb
        clear hb q5 m5 k5
        clear x0 x1 x2 x3 x4
        go_wp2_with fail
        have k7 := k6.ret (Below.drew (Below.refl _ _))
        have q7 := q6.drew
        have m7 := m6.ret (Below.drew (Below.refl _ _))
        refine wp_region_held_drew (S := fun w' => w'.cell? ⟨w4.heap.size, 0, none⟩ = some (.string X) ∧ w'.cell? ⟨w4.heap.size, 1, none⟩ = some (.string Y) ∧ w'.cell? ⟨w4.heap.size, 2, none⟩ = some (.string Z)) (by kernel_rfl) ⟨k7.c0, k7.c1, k7.c2⟩ (fun hHeld => ?_)
        refine tk_on (i := 0) (some 84) (v := ?_) (by kernel_rfl) (by kernel_rfl) (by kernel_rfl) (by kernel_rfl) (fun _ _ _ h => h) (by assumption) (fun o ho w' hSw => ?_) ?_
        rotate_left
        · (simp only [List.getElem?_toArray, List.getElem?_cons_zero, Option.some.injEq] at ho; subst ho; (try dsimp only at hSw); go_simp; try with_reducible rfl)
        simp only [Act.put, List.setIfInBounds_toArray, List.set_cons_zero, List.set_cons_succ]
        refine tk_on (i := 1) (some 85) (v := ?_) (by kernel_rfl) (by kernel_rfl) (by kernel_rfl) (by kernel_rfl) (fun _ _ _ h => h) (by assumption) (fun o ho w' hSw => ?_) ?_
        rotate_left
        · (simp only [List.getElem?_toArray, List.getElem?_cons_succ, List.getElem?_cons_zero, Option.some.injEq] at ho; subst ho; (try dsimp only at hSw); go_simp; try with_reducible rfl)
        simp only [Act.put, List.setIfInBounds_toArray, List.set_cons_zero, List.set_cons_succ]
        refine tk_on (i := 2) (some 86) (v := ?_) (by kernel_rfl) (by kernel_rfl) (by kernel_rfl) (by kernel_rfl) (fun _ _ _ h => h) (by assumption) (fun o ho w' hSw => ?_) ?_
        rotate_left
        · (simp only [List.getElem?_toArray, List.getElem?_cons_succ, List.getElem?_cons_zero, Option.some.injEq] at ho; subst ho; (try dsimp only at hSw); go_simp; try with_reducible rfl)
        simp only [Act.put, List.setIfInBounds_toArray, List.set_cons_zero, List.set_cons_succ]
        refine tk_on (i := 3) (some 87) (v := ?_) (by kernel_rfl) (by kernel_rfl) (by kernel_rfl) (by kernel_rfl) (fun _ _ _ h => h) (by assumption) (fun o ho w' hSw => ?_) ?_
        rotate_left
        · (simp only [List.getElem?_toArray, List.getElem?_cons_succ, List.getElem?_cons_zero, Option.some.injEq] at ho; subst ho; (try dsimp only at hSw); go_simp; try with_reducible rfl)
        simp only [Act.put, List.setIfInBounds_toArray, List.set_cons_zero, List.set_cons_succ]
        refine tk_on (i := 4) (some 88) (v := ?_) (by kernel_rfl) (by kernel_rfl) (by kernel_rfl) (by kernel_rfl) (fun _ _ _ h => h) (by assumption) (fun o ho w' hSw => ?_) ?_
        rotate_left
        · (simp only [List.getElem?_toArray, List.getElem?_cons_succ, List.getElem?_cons_zero, Option.some.injEq] at ho; subst ho; (try dsimp only at hSw); go_simp; try with_reducible rfl)
        simp only [Act.put, List.setIfInBounds_toArray, List.set_cons_zero, List.set_cons_succ]
        refine tk_on (i := 5) (some 89) (v := ?_) (by kernel_rfl) (by kernel_rfl) (by kernel_rfl) (by kernel_rfl) (fun _ _ _ h => h) (by assumption) (fun o ho w' hSw => ?_) ?_
        rotate_left
        · (simp only [List.getElem?_toArray, List.getElem?_cons_succ, List.getElem?_cons_zero, Option.some.injEq] at ho; subst ho; (try dsimp only at hSw); go_simp; try with_reducible rfl)
        simp only [Act.put, List.setIfInBounds_toArray, List.set_cons_zero, List.set_cons_succ]
        refine tk_on (i := 6) (some 90) (v := ?_) (by kernel_rfl) (by kernel_rfl) (by kernel_rfl) (by kernel_rfl) (fun _ _ _ h => h) (by assumption) (fun o ho w' hSw => ?_) ?_
        rotate_left
        · (simp only [List.getElem?_toArray, List.getElem?_cons_succ, List.getElem?_cons_zero, Option.some.injEq] at ho; subst ho; (try dsimp only at hSw); go_simp; try with_reducible rfl)
        simp only [Act.put, List.setIfInBounds_toArray, List.set_cons_zero, List.set_cons_succ]
        refine tk_on (i := 7) (some 91) (v := ?_) (by kernel_rfl) (by kernel_rfl) (by kernel_rfl) (by kernel_rfl) (fun _ _ _ h => h) (by assumption) (fun o ho w' hSw => ?_) ?_
        rotate_left
        · (simp only [List.getElem?_toArray, List.getElem?_cons_succ, List.getElem?_cons_zero, Option.some.injEq] at ho; subst ho; (try dsimp only at hSw); go_simp; try with_reducible rfl)
        simp only [Act.put, List.setIfInBounds_toArray, List.set_cons_zero, List.set_cons_succ]
        refine tk_on (i := 8) (some 92) (v := ?_) (by kernel_rfl) (by kernel_rfl) (by kernel_rfl) (by kernel_rfl) (fun _ _ _ h => h) (by assumption) (fun o ho w' hSw => ?_) ?_
        rotate_left
        · (simp only [List.getElem?_toArray, List.getElem?_cons_succ, List.getElem?_cons_zero, Option.some.injEq] at ho; subst ho; (try dsimp only at hSw); go_simp; try with_reducible rfl)
        simp only [Act.put, List.setIfInBounds_toArray, List.set_cons_zero, List.set_cons_succ]
        refine tk_on (i := 9) (some 93) (v := ?_) (by kernel_rfl) (by kernel_rfl) (by kernel_rfl) (by kernel_rfl) (fun _ _ _ h => h) (by assumption) (fun o ho w' hSw => ?_) ?_
        rotate_left
        · (simp only [List.getElem?_toArray, List.getElem?_cons_succ, List.getElem?_cons_zero, Option.some.injEq] at ho; subst ho; (try dsimp only at hSw); go_simp; try with_reducible rfl)
        simp only [Act.put, List.setIfInBounds_toArray, List.set_cons_zero, List.set_cons_succ]
        refine tk_on (i := 11) (some 95) (v := ?_) (by kernel_rfl) (by kernel_rfl) (by kernel_rfl) (by kernel_rfl) (fun _ _ _ h => h) (by assumption) (fun o ho w' hSw => ?_) ?_
        rotate_left
        · (simp only [List.getElem?_toArray, List.getElem?_cons_succ, List.getElem?_cons_zero, Option.some.injEq] at ho; subst ho; (try dsimp only at hSw); go_simp; try with_reducible rfl)
        simp only [Act.put, List.setIfInBounds_toArray, List.set_cons_zero, List.set_cons_succ]
        refine tk_on (i := 12) (some 96) (v := ?_) (by kernel_rfl) (by kernel_rfl) (by kernel_rfl) (by kernel_rfl) (fun _ _ _ h => h) (by assumption) (fun o ho w' hSw => ?_) ?_
        rotate_left
        · (simp only [List.getElem?_toArray, List.getElem?_cons_succ, List.getElem?_cons_zero, Option.some.injEq] at ho; subst ho; (try dsimp only at hSw); go_simp; try with_reducible rfl)
        simp only [Act.put, List.setIfInBounds_toArray, List.set_cons_zero, List.set_cons_succ]
        refine tk_on (i := 13) (some 97) (v := ?_) (by kernel_rfl) (by kernel_rfl) (by kernel_rfl) (by kernel_rfl) (fun _ _ _ h => h) (by assumption) (fun o ho w' hSw => ?_) ?_
        rotate_left
        · (simp only [List.getElem?_toArray, List.getElem?_cons_succ, List.getElem?_cons_zero, Option.some.injEq] at ho; subst ho; (try dsimp only at hSw); go_simp; try with_reducible rfl)
        simp only [Act.put, List.setIfInBounds_toArray, List.set_cons_zero, List.set_cons_succ]
        refine tk_call (i := 10) (by kernel_rfl) (by kernel_rfl) (fun o ho K hK => ?_)
        simp only [List.getElem?_toArray, List.getElem?_cons_succ, List.getElem?_cons_zero, Option.some.injEq] at ho
        subst ho
        go_simp
        refine ((HL.out _)).mono ?_
        rintro e w8 ⟨rfl, hb⟩
        have q8 := q7.trans (hb.mono q7.size)
        have m8 := m7.ret hb
        have k8 := k7.ret hb
        clear hb q7 m7 k7
        go_simp
        clear hHeld
        refine hK.out _ _ ⟨k8.c0, k8.c1, k8.c2⟩ (fun hHeld => ?_)
        clear hK K
        refine tk_on (i := 14) (some 98) (v := ?_) (by kernel_rfl) (by kernel_rfl) (by kernel_rfl) (by kernel_rfl) (fun _ _ _ h => h) (by assumption) (fun o ho w' hSw => ?_) ?_
        rotate_left
        · (simp only [List.getElem?_toArray, List.getElem?_cons_succ, List.getElem?_cons_zero, Option.some.injEq] at ho; subst ho; (try dsimp only at hSw); go_simp; try with_reducible rfl)
        simp only [Act.put, List.setIfInBounds_toArray, List.set_cons_zero, List.set_cons_succ]
        refine tk_on (i := 15) (some 99) (v := ?_) (by kernel_rfl) (by kernel_rfl) (by kernel_rfl) (by kernel_rfl) (fun _ _ _ h => h) (by assumption) (fun o ho w' hSw => ?_) ?_
        rotate_left
        · (simp only [List.getElem?_toArray, List.getElem?_cons_succ, List.getElem?_cons_zero, Option.some.injEq] at ho; subst ho; (try dsimp only at hSw); go_simp; try with_reducible rfl)
        simp only [Act.put, List.setIfInBounds_toArray, List.set_cons_zero, List.set_cons_succ]
        refine tk_on (i := 16) (some 100) (v := ?_) (by kernel_rfl) (by kernel_rfl) (by kernel_rfl) (by kernel_rfl) (fun _ _ _ h => h) (by assumption) (fun o ho w' hSw => ?_) ?_
        rotate_left
        · (simp only [List.getElem?_toArray, List.getElem?_cons_succ, List.getElem?_cons_zero, Option.some.injEq] at ho; subst ho; (try dsimp only at hSw); go_simp; try with_reducible rfl)
        simp only [Act.put, List.setIfInBounds_toArray, List.set_cons_zero, List.set_cons_succ]
        refine tk_on (i := 17) (some 101) (v := ?_) (by kernel_rfl) (by kernel_rfl) (by kernel_rfl) (by kernel_rfl) (fun _ _ _ h => h) (by assumption) (fun o ho w' hSw => ?_) ?_
        rotate_left
        · (simp only [List.getElem?_toArray, List.getElem?_cons_succ, List.getElem?_cons_zero, Option.some.injEq] at ho; subst ho; (try dsimp only at hSw); go_simp; try with_reducible rfl)
        simp only [Act.put, List.setIfInBounds_toArray, List.set_cons_zero, List.set_cons_succ]
        refine tk_on (i := 18) (some 102) (v := ?_) (by kernel_rfl) (by kernel_rfl) (by kernel_rfl) (by kernel_rfl) (fun _ _ _ h => h) (by assumption) (fun o ho w' hSw => ?_) ?_
        rotate_left
        · (simp only [List.getElem?_toArray, List.getElem?_cons_succ, List.getElem?_cons_zero, Option.some.injEq] at ho; subst ho; (try dsimp only at hSw); go_simp; try with_reducible rfl)
        simp only [Act.put, List.setIfInBounds_toArray, List.set_cons_zero, List.set_cons_succ]
        refine tk_call (i := 19) (by kernel_rfl) (by kernel_rfl) (fun o ho K hK => ?_)
        simp only [List.getElem?_toArray, List.getElem?_cons_succ, List.getElem?_cons_zero, Option.some.injEq] at ho
        subst ho
        go_simp
        refine ((CK.out _ m8)).mono ?_
        rintro e w9 ⟨rfl, hb⟩
        have q9 := q8.trans (hb.mono q8.size)
        have m9 := m8.ret hb
        have k9 := k8.ret hb
        clear hb q8 m8 k8
        go_simp
        clear hHeld
        refine hK.out _ _ ⟨k9.c0, k9.c1, k9.c2⟩ (fun hHeld => ?_)
        clear hK K
        refine tk_on (i := 20) (some 104) (v := ?_) (by kernel_rfl) (by kernel_rfl) (by kernel_rfl) (by kernel_rfl) (fun _ _ _ h => h) (by assumption) (fun o ho w' hSw => ?_) ?_
        rotate_left
        · (simp only [List.getElem?_toArray, List.getElem?_cons_succ, List.getElem?_cons_zero, Option.some.injEq] at ho; subst ho; (try dsimp only at hSw); go_simp; try with_reducible rfl)
        simp only [Act.put, List.setIfInBounds_toArray, List.set_cons_zero, List.set_cons_succ]
        refine tk_on (i := 21) (some 105) (v := ?_) (by kernel_rfl) (by kernel_rfl) (by kernel_rfl) (by kernel_rfl) (fun _ _ _ h => h) (by assumption) (fun o ho w' hSw => ?_) ?_
        rotate_left
        · (simp only [List.getElem?_toArray, List.getElem?_cons_succ, List.getElem?_cons_zero, Option.some.injEq] at ho; subst ho; (try dsimp only at hSw); go_simp; try with_reducible rfl)
        simp only [Act.put, List.setIfInBounds_toArray, List.set_cons_zero, List.set_cons_succ]
        refine tk_on (i := 22) (some 4) (v := ?_) (by kernel_rfl) (by kernel_rfl) (by kernel_rfl) (by kernel_rfl) (fun _ _ _ h => h) (by assumption) (fun o ho w' hSw => ?_) ?_
        rotate_left
        · (simp only [List.getElem?_toArray, List.getElem?_cons_succ, List.getElem?_cons_zero, Option.some.injEq] at ho; subst ho; (try dsimp only at hSw); go_simp; try with_reducible rfl)
        simp only [Act.put, List.setIfInBounds_toArray, List.set_cons_zero, List.set_cons_succ]
        refine wpAnyH_done (by kernel_rfl) ?_ _
        go_wp2_with fail
        go_ret
        exact ⟨rfl, q9⟩
      · have hA := HA.out
        have hB := HB.out
        have hU := HU.out
        obtain ⟨x0, x1, x2, x3, x4⟩ := id k5
        go_wp2_with fail
        refine (WK.out _ m5).mono ?_
        rintro e w6 ⟨rfl, hb⟩
        have q6 := q5.trans (hb.mono q5.size)
        have m6 := m5.ret hb
        have k6 := k5.ret hb
        clear hb q5 m5 k5
        clear x0 x1 x2 x3 x4
        go_wp2_with fail
        have k7 := k6.ret (Below.drew (Below.refl _ _))
        have q7 := q6.drew
        have m7 := m6.ret (Below.drew (Below.refl _ _))
        refine wp_region_held_drew (S := fun w' => w'.cell? ⟨w4.heap.size, 0, none⟩ = some (.string X) ∧ w'.cell? ⟨w4.heap.size, 1, none⟩ = some (.string Y) ∧ w'.cell? ⟨w4.heap.size, 2, none⟩ = some (.string Z)) (by kernel_rfl) ⟨k7.c0, k7.c1, k7.c2⟩ (fun hHeld => ?_)
        refine tk_on (i := 0) (some 84) (v := ?_) (by kernel_rfl) (by kernel_rfl) (by kernel_rfl) (by kernel_rfl) (fun _ _ _ h => h) (by assumption) (fun o ho w' hSw => ?_) ?_
        rotate_left
        · (simp only [List.getElem?_toArray, List.getElem?_cons_zero, Option.some.injEq] at ho; subst ho; (try dsimp only at hSw); go_simp; try with_reducible rfl)
        simp only [Act.put, List.setIfInBounds_toArray, List.set_cons_zero, List.set_cons_succ]
        refine tk_on (i := 1) (some 85) (v := ?_) (by kernel_rfl) (by kernel_rfl) (by kernel_rfl) (by kernel_rfl) (fun _ _ _ h => h) (by assumption) (fun o ho w' hSw => ?_) ?_
        rotate_left
        · (simp only [List.getElem?_toArray, List.getElem?_cons_succ, List.getElem?_cons_zero, Option.some.injEq] at ho; subst ho; (try dsimp only at hSw); go_simp; try with_reducible rfl)
        simp only [Act.put, List.setIfInBounds_toArray, List.set_cons_zero, List.set_cons_succ]
        refine tk_on (i := 2) (some 86) (v := ?_) (by kernel_rfl) (by kernel_rfl) (by kernel_rfl) (by kernel_rfl) (fun _ _ _ h => h) (by assumption) (fun o ho w' hSw => ?_) ?_
        rotate_left
        · (simp only [List.getElem?_toArray, List.getElem?_cons_succ, List.getElem?_cons_zero, Option.some.injEq] at ho; subst ho; (try dsimp only at hSw); go_simp; try with_reducible rfl)
        simp only [Act.put, List.setIfInBounds_toArray, List.set_cons_zero, List.set_cons_succ]
        refine tk_on (i := 3) (some 87) (v := ?_) (by kernel_rfl) (by kernel_rfl) (by kernel_rfl) (by kernel_rfl) (fun _ _ _ h => h) (by assumption) (fun o ho w' hSw => ?_) ?_
        rotate_left
        · (simp only [List.getElem?_toArray, List.getElem?_cons_succ, List.getElem?_cons_zero, Option.some.injEq] at ho; subst ho; (try dsimp only at hSw); go_simp; try with_reducible rfl)
        simp only [Act.put, List.setIfInBounds_toArray, List.set_cons_zero, List.set_cons_succ]
        refine tk_on (i := 4) (some 88) (v := ?_) (by kernel_rfl) (by kernel_rfl) (by kernel_rfl) (by kernel_rfl) (fun _ _ _ h => h) (by assumption) (fun o ho w' hSw => ?_) ?_
        rotate_left
        · (simp only [List.getElem?_toArray, List.getElem?_cons_succ, List.getElem?_cons_zero, Option.some.injEq] at ho; subst ho; (try dsimp only at hSw); go_simp; try with_reducible rfl)
        simp only [Act.put, List.setIfInBounds_toArray, List.set_cons_zero, List.set_cons_succ]
        refine tk_on (i := 5) (some 89) (v := ?_) (by kernel_rfl) (by kernel_rfl) (by kernel_rfl) (by kernel_rfl) (fun _ _ _ h => h) (by assumption) (fun o ho w' hSw => ?_) ?_
        rotate_left
        · (simp only [List.getElem?_toArray, List.getElem?_cons_succ, List.getElem?_cons_zero, Option.some.injEq] at ho; subst ho; (try dsimp only at hSw); go_simp; try with_reducible rfl)
        simp only [Act.put, List.setIfInBounds_toArray, List.set_cons_zero, List.set_cons_succ]
        refine tk_on (i := 6) (some 90) (v := ?_) (by kernel_rfl) (by kernel_rfl) (by kernel_rfl) (by kernel_rfl) (fun _ _ _ h => h) (by assumption) (fun o ho w' hSw => ?_) ?_
        rotate_left
        · (simp only [List.getElem?_toArray, List.getElem?_cons_succ, List.getElem?_cons_zero, Option.some.injEq] at ho; subst ho; (try dsimp only at hSw); go_simp; try with_reducible rfl)
        simp only [Act.put, List.setIfInBounds_toArray, List.set_cons_zero, List.set_cons_succ]
        refine tk_on (i := 7) (some 91) (v := ?_) (by kernel_rfl) (by kernel_rfl) (by kernel_rfl) (by kernel_rfl) (fun _ _ _ h => h) (by assumption) (fun o ho w' hSw => ?_) ?_
        rotate_left
        · (simp only [List.getElem?_toArray, List.getElem?_cons_succ, List.getElem?_cons_zero, Option.some.injEq] at ho; subst ho; (try dsimp only at hSw); go_simp; try with_reducible rfl)
        simp only [Act.put, List.setIfInBounds_toArray, List.set_cons_zero, List.set_cons_succ]
        refine tk_on (i := 8) (some 92) (v := ?_) (by kernel_rfl) (by kernel_rfl) (by kernel_rfl) (by kernel_rfl) (fun _ _ _ h => h) (by assumption) (fun o ho w' hSw => ?_) ?_
        rotate_left
        · (simp only [List.getElem?_toArray, List.getElem?_cons_succ, List.getElem?_cons_zero, Option.some.injEq] at ho; subst ho; (try dsimp only at hSw); go_simp; try with_reducible rfl)
        simp only [Act.put, List.setIfInBounds_toArray, List.set_cons_zero, List.set_cons_succ]
        refine tk_on (i := 9) (some 93) (v := ?_) (by kernel_rfl) (by kernel_rfl) (by kernel_rfl) (by kernel_rfl) (fun _ _ _ h => h) (by assumption) (fun o ho w' hSw => ?_) ?_
        rotate_left
        · (simp only [List.getElem?_toArray, List.getElem?_cons_succ, List.getElem?_cons_zero, Option.some.injEq] at ho; subst ho; (try dsimp only at hSw); go_simp; try with_reducible rfl)
        simp only [Act.put, List.setIfInBounds_toArray, List.set_cons_zero, List.set_cons_succ]
        refine tk_on (i := 11) (some 95) (v := ?_) (by kernel_rfl) (by kernel_rfl) (by kernel_rfl) (by kernel_rfl) (fun _ _ _ h => h) (by assumption) (fun o ho w' hSw => ?_) ?_
        rotate_left
        · (simp only [List.getElem?_toArray, List.getElem?_cons_succ, List.getElem?_cons_zero, Option.some.injEq] at ho; subst ho; (try dsimp only at hSw); go_simp; try with_reducible rfl)
        simp only [Act.put, List.setIfInBounds_toArray, List.set_cons_zero, List.set_cons_succ]
        refine tk_on (i := 12) (some 96) (v := ?_) (by kernel_rfl) (by kernel_rfl) (by kernel_rfl) (by kernel_rfl) (fun _ _ _ h => h) (by assumption) (fun o ho w' hSw => ?_) ?_
        rotate_left
        · (simp only [List.getElem?_toArray, List.getElem?_cons_succ, List.getElem?_cons_zero, Option.some.injEq] at ho; subst ho; (try dsimp only at hSw); go_simp; try with_reducible rfl)
        simp only [Act.put, List.setIfInBounds_toArray, List.set_cons_zero, List.set_cons_succ]
        refine tk_on (i := 13) (some 97) (v := ?_) (by kernel_rfl) (by kernel_rfl) (by kernel_rfl) (by kernel_rfl) (fun _ _ _ h => h) (by assumption) (fun o ho w' hSw => ?_) ?_
        rotate_left
        · (simp only [List.getElem?_toArray, List.getElem?_cons_succ, List.getElem?_cons_zero, Option.some.injEq] at ho; subst ho; (try dsimp only at hSw); go_simp; try with_reducible rfl)
        simp only [Act.put, List.setIfInBounds_toArray, List.set_cons_zero, List.set_cons_succ]
        refine tk_call (i := 10) (by kernel_rfl) (by kernel_rfl) (fun o ho K hK => ?_)
        simp only [List.getElem?_toArray, List.getElem?_cons_succ, List.getElem?_cons_zero, Option.some.injEq] at ho
        subst ho
        go_simp
        refine ((HL.out _)).mono ?_
        rintro e w8 ⟨rfl, hb⟩
        have q8 := q7.trans (hb.mono q7.size)
        have m8 := m7.ret hb
        have k8 := k7.ret hb
        clear hb q7 m7 k7
        go_simp
        clear hHeld
        refine hK.out _ _ ⟨k8.c0, k8.c1, k8.c2⟩ (fun hHeld => ?_)
        clear hK K
        refine tk_on (i := 14) (some 98) (v := ?_) (by kernel_rfl) (by kernel_rfl) (by kernel_rfl) (by kernel_rfl) (fun _ _ _ h => h) (by assumption) (fun o ho w' hSw => ?_) ?_
        rotate_left
        · (simp only [List.getElem?_toArray, List.getElem?_cons_succ, List.getElem?_cons_zero, Option.some.injEq] at ho; subst ho; (try dsimp only at hSw); go_simp; try with_reducible rfl)
        simp only [Act.put, List.setIfInBounds_toArray, List.set_cons_zero, List.set_cons_succ]
        refine tk_on (i := 15) (some 99) (v := ?_) (by kernel_rfl) (by kernel_rfl) (by kernel_rfl) (by kernel_rfl) (fun _ _ _ h => h) (by assumption) (fun o ho w' hSw => ?_) ?_
        rotate_left
        · (simp only [List.getElem?_toArray, List.getElem?_cons_succ, List.getElem?_cons_zero, Option.some.injEq] at ho; subst ho; (try dsimp only at hSw); go_simp; try with_reducible rfl)
        simp only [Act.put, List.setIfInBounds_toArray, List.set_cons_zero, List.set_cons_succ]
        refine tk_on (i := 16) (some 100) (v := ?_) (by kernel_rfl) (by kernel_rfl) (by kernel_rfl) (by kernel_rfl) (fun _ _ _ h => h) (by assumption) (fun o ho w' hSw => ?_) ?_
        rotate_left
        · (simp only [List.getElem?_toArray, List.getElem?_cons_succ, List.getElem?_cons_zero, Option.some.injEq] at ho; subst ho; (try dsimp only at hSw); go_simp; try with_reducible rfl)
        simp only [Act.put, List.setIfInBounds_toArray, List.set_cons_zero, List.set_cons_succ]
        refine tk_on (i := 17) (some 101) (v := ?_) (by kernel_rfl) (by kernel_rfl) (by kernel_rfl) (by kernel_rfl) (fun _ _ _ h => h) (by assumption) (fun o ho w' hSw => ?_) ?_
        rotate_left
        · (simp only [List.getElem?_toArray, List.getElem?_cons_succ, List.getElem?_cons_zero, Option.some.injEq] at ho; subst ho; (try dsimp only at hSw); go_simp; try with_reducible rfl)
        simp only [Act.put, List.setIfInBounds_toArray, List.set_cons_zero, List.set_cons_succ]
        refine tk_on (i := 18) (some 102) (v := ?_) (by kernel_rfl) (by kernel_rfl) (by kernel_rfl) (by kernel_rfl) (fun _ _ _ h => h) (by assumption) (fun o ho w' hSw => ?_) ?_
        rotate_left
        · (simp only [List.getElem?_toArray, List.getElem?_cons_succ, List.getElem?_cons_zero, Option.some.injEq] at ho; subst ho; (try dsimp only at hSw); go_simp; try with_reducible rfl)
        simp only [Act.put, List.setIfInBounds_toArray, List.set_cons_zero, List.set_cons_succ]
        refine tk_call (i := 19) (by kernel_rfl) (by kernel_rfl) (fun o ho K hK => ?_)
        simp only [List.getElem?_toArray, List.getElem?_cons_succ, List.getElem?_cons_zero, Option.some.injEq] at ho
        subst ho
        go_simp
        refine ((CK.out _ m8)).mono ?_
        rintro e w9 ⟨rfl, hb⟩
        have q9 := q8.trans (hb.mono q8.size)
        have m9 := m8.ret hb
        have k9 := k8.ret hb
        clear hb q8 m8 k8
        go_simp
        clear hHeld
        refine hK.out _ _ ⟨k9.c0, k9.c1, k9.c2⟩ (fun hHeld => ?_)
        clear hK K
        refine tk_on (i := 20) (some 104) (v := ?_) (by kernel_rfl) (by kernel_rfl) (by kernel_rfl) (by kernel_rfl) (fun _ _ _ h => h) (by assumption) (fun o ho w' hSw => ?_) ?_
        rotate_left
        · (simp only [List.getElem?_toArray, List.getElem?_cons_succ, List.getElem?_cons_zero, Option.some.injEq] at ho; subst ho; (try dsimp only at hSw); go_simp; try with_reducible rfl)
        simp only [Act.put, List.setIfInBounds_toArray, List.set_cons_zero, List.set_cons_succ]
        refine tk_on (i := 21) (some 105) (v := ?_) (by kernel_rfl) (by kernel_rfl) (by kernel_rfl) (by kernel_rfl) (fun _ _ _ h => h) (by assumption) (fun o ho w' hSw => ?_) ?_
        rotate_left
        · (simp only [List.getElem?_toArray, List.getElem?_cons_succ, List.getElem?_cons_zero, Option.some.injEq] at ho; subst ho; (try dsimp only at hSw); go_simp; try with_reducible rfl)
        simp only [Act.put, List.setIfInBounds_toArray, List.set_cons_zero, List.set_cons_succ]
        refine tk_on (i := 22) (some 4) (v := ?_) (by kernel_rfl) (by kernel_rfl) (by kernel_rfl) (by kernel_rfl) (fun _ _ _ h => h) (by assumption) (fun o ho w' hSw => ?_) ?_
        rotate_left
        · (simp only [List.getElem?_toArray, List.getElem?_cons_succ, List.getElem?_cons_zero, Option.some.injEq] at ho; subst ho; (try dsimp only at hSw); go_simp; try with_reducible rfl)
        simp only [Act.put, List.setIfInBounds_toArray, List.set_cons_zero, List.set_cons_succ]
        refine wpAnyH_done (by kernel_rfl) ?_ _
        go_wp2_with fail
        go_ret
        exact ⟨rfl, q9⟩
set_option maxHeartbeats 2000000 in
theorem back19_FF (l d r s T0 : ByteArray) (w : World) (hm : ML w) (g1 : ¬ (1000 : Int) < s.size) (g2 : ¬ (1000 : Int) < (l.size : Int) + d.size + r.size) (zl : l.size ≤ 1000) (zd : d.size ≤ 1000) (zr : r.size ≤ 1000) (zs : s.size ≤ 1000)
    (CW : ∀ w : World, ML w → Calls Tryd.prog 9 #[jV l d r] w (Ret w (.tuple #[.string T0, .int .i64 8]))) 
    (CP : ∀ w : World, ML w → Calls Tryd.prog 11 #[.string s] w (Ret w (.tuple #[jV ⟨#[]⟩ ⟨#[]⟩ ⟨#[]⟩, .int .i64 190]))) :
    Calls Tryd.prog 3 #[jV l d r, .string s] w (Ret w (.bool true)) := by
  have q0 := (Below.refl w.heap.size w).alloc (Nat.le_refl _) (.cells #[.string l, .string d, .string r] 23)
  have k0 := JAt.new w l d r
  have m0 := hm.ret q0
  have EQ := eql_jid
  have EG := eg_jid
  have ES := jE_self ⟨#[]⟩ ⟨#[]⟩ ⟨#[]⟩
  have HW := Lib.hid CW
  skip
  have HP := Lib.hid CP
  clear CW CP 
  go_enter Tryd.func3, Tryd.ntmps3
  go_wp2_with fail
  refine (alive19 _ m0).mono ?_
  rintro e w1 ⟨rfl, hb⟩
  have q1 := q0.trans (hb.mono q0.size)
  have m1 := m0.ret hb
  have k1 := k0.ret hb
  clear hb q0 m0 k0
  obtain ⟨x0, x1, x2, x3, x4⟩ := id k1
  go_wp2_with fail
  refine (HW.out _ m1).mono ?_
  rintro e w2 ⟨rfl, hb⟩
  have q2 := q1.trans (hb.mono q1.size)
  have m2 := m1.ret hb
  have k2 := k1.ret hb
  clear hb q1 m1 k1
  clear x0 x1 x2 x3 x4
  obtain ⟨x0, x1, x2, x3, x4⟩ := id k2
  go_wp2_with fail
  clear x0 x1 x2 x3 x4
  refine (HP.out _ m2).mono ?_
  rintro e w3 ⟨rfl, hb⟩
  have q3 := q2.trans (hb.mono q2.size)
  have m3 := m2.ret hb
  have k3 := k2.ret hb
  clear hb q2 m2 k2
  go_wp2_with fail
  go_ret
  exact ⟨rfl, q3.alloc q3.size _⟩
set_option maxHeartbeats 8000000 in
set_option maxRecDepth 100000 in
theorem back19_FT (l d r s T0 X Y Z A Lo B U : ByteArray) (N : Nat) (w : World) (hm : ML w) (g1 : ¬ (1000 : Int) < s.size) (g2 : ¬ (1000 : Int) < (l.size : Int) + d.size + r.size) (zl : l.size ≤ 1000) (zd : d.size ≤ 1000) (zr : r.size ≤ 1000) (zs : s.size ≤ 1000)
    (CW : ∀ w : World, ML w → Calls Tryd.prog 9 #[jV l d r] w (Ret w (.tuple #[.string T0, .int .i64 8]))) 
    (CP : ∀ w : World, ML w → Calls Tryd.prog 11 #[.string s] w (Ret w (.tuple #[jV X Y Z, .int .i64 0])))
    (hN : N ≤ s.size) (hlt : ∀ k, k < N → ∃ h : k < s.size, s[k].toNat ≠ 47) (hend : ∀ h : N < s.size, s[N].toNat = 47)
    (hA : s.extract 0 N = A) (hB : s.extract N s.size = B)
    (CL : ∀ w : World, Calls Tryd.prog 12 #[.string A] w (Ret w (.string Lo))) (zLo : Lo.size ≤ 1000) (zB : B.size ≤ 1000) (hU : Lo ++ B = U)
    (CU : ∀ w : World, ML w → Calls Tryd.prog 9 #[jV X Y Z] w (Ret w (.tuple #[.string U, .int .i64 0])))
    (CC : ∀ w : World, ML w → Calls Tryd.prog 13 #[jV X Y Z] w (Ret w (.int .i64 0))) :
    Calls Tryd.prog 3 #[jV l d r, .string s] w (Ret w (.bool true)) := by
  have q0 := (Below.refl w.heap.size w).alloc (Nat.le_refl _) (.cells #[.string l, .string d, .string r] 23)
  have k0 := JAt.new w l d r
  have m0 := hm.ret q0
  have HW := Lib.hid CW
  skip
  have HP := Lib.hid CP
  have HL := Lib.hid CL
  have WK := Lib.hid CU
  have CK := Lib.hid CC
  have HLT := Lib.hid hlt
  have HEND := Lib.hid hend
  have HA := Lib.hid hA
  have HB := Lib.hid hB
  have HU := Lib.hid hU
  have nz : ¬ 9223372036854775807 < Lo.size + B.size := by omega
  clear CW CP CL CU CC hlt hend hA hB hU 
  go_enter Tryd.func3, Tryd.ntmps3
  go_wp2_with fail
  refine (alive19 _ m0).mono ?_
  rintro e w1 ⟨rfl, hb⟩
  have q1 := q0.trans (hb.mono q0.size)
  have m1 := m0.ret hb
  have k1 := k0.ret hb
  clear hb q0 m0 k0
  obtain ⟨x0, x1, x2, x3, x4⟩ := id k1
  go_wp2_with fail
  refine (HW.out _ m1).mono ?_
  rintro e w2 ⟨rfl, hb⟩
  have q2 := q1.trans (hb.mono q1.size)
  have m2 := m1.ret hb
  have k2 := k1.ret hb
  clear hb q1 m1 k1
  clear x0 x1 x2 x3 x4
  obtain ⟨x0, x1, x2, x3, x4⟩ := id k2
  go_wp2_with fail
  clear x0 x1 x2 x3 x4
  refine (HP.out _ m2).mono ?_
  rintro e w3 ⟨rfl, hb⟩
  have q3 := q2.trans (hb.mono q2.size)
  have m3 := m2.ret hb
  have k3 := k2.ret hb
  clear hb q2 m2 k2
  have al := (Below.refl w3.heap.size w3).alloc (Nat.le_refl _) (.cells #[.string X, .string Y, .string Z] 23)
  have k4 := JAt.new w3 X Y Z
  have q4 := q3.trans (al.mono q3.size)
  have m4 := m3.ret al
  clear al q3 m3 k3
  go_wp2_with fail
  go_loop [10] (fun i => ∃ k : Nat, k ≤ N ∧ i = .int .i64 k) (fun i => N - (intOf i).toNat)
  case atStart => exact ⟨0, Nat.zero_le _, rfl⟩
  case round =>
    obtain ⟨k, hk, rfl⟩ := hrel
    by_cases hkN : k < N
    · obtain ⟨h1, h2⟩ := HLT.out k hkN
      have e47 : ((s[k].toNat : Int) == 47) = false := beq_eq_false_iff_ne.2 (by omega)
      have f47 : ((s[k].toNat : Int) != 47) = true := by unfold bne; rw [e47]; rfl
      clear h2
      go_wp2_with fail
      go_round
      case rel => exact ⟨k + 1, by omega, by go_num⟩
      case measure => simp [intOf]; omega
    · obtain rfl : k = N := by omega
      by_cases h1 : k < s.size
      · have h2 := HEND.out h1
        have e47 : ((s[k].toNat : Int) == 47) = true := beq_iff_eq.2 (by omega)
        have f47 : ((s[k].toNat : Int) != 47) = false := by unfold bne; rw [e47]; rfl
        clear h2
        have hA := HA.out
        have hB := HB.out
        have hU := HU.out
        obtain ⟨x0, x1, x2, x3, x4⟩ := id k4
        go_wp2_with fail
        refine (WK.out _ m4).mono ?_
        rintro e w5 ⟨rfl, hb⟩
        have q5 := q4.trans (hb.mono q4.size)
        have m5 := m4.ret hb
        have k5 := k4.ret hb
        clear hb q4 m4 k4
        clear x0 x1 x2 x3 x4
        go_wp2_with fail
        have k6 := k5.ret (Below.drew (Below.refl _ _))
        have q6 := q5.drew
        have m6 := m5.ret (Below.drew (Below.refl _ _))
        refine wp_region_held_drew (S := fun w' => w'.cell? ⟨w3.heap.size, 0, none⟩ = some (.string X) ∧ w'.cell? ⟨w3.heap.size, 1, none⟩ = some (.string Y) ∧ w'.cell? ⟨w3.heap.size, 2, none⟩ = some (.string Z)) (by kernel_rfl) ⟨k6.c0, k6.c1, k6.c2⟩ (fun hHeld => ?_)
        refine tk_on (i := 0) (some 84) (v := ?_) (by kernel_rfl) (by kernel_rfl) (by kernel_rfl) (by kernel_rfl) (fun _ _ _ h => h) (by assumption) (fun o ho w' hSw => ?_) ?_
        rotate_left
        · (simp only [List.getElem?_toArray, List.getElem?_cons_zero, Option.some.injEq] at ho; subst ho; (try dsimp only at hSw); go_simp; try with_reducible rfl)
        simp only [Act.put, List.setIfInBounds_toArray, List.set_cons_zero, List.set_cons_succ]
        refine tk_on (i := 1) (some 85) (v := ?_) (by kernel_rfl) (by kernel_rfl) (by kernel_rfl) (by kernel_rfl) (fun _ _ _ h => h) (by assumption) (fun o ho w' hSw => ?_) ?_
        rotate_left
        · (simp only [List.getElem?_toArray, List.getElem?_cons_succ, List.getElem?_cons_zero, Option.some.injEq] at ho; subst ho; (try dsimp only at hSw); go_simp; try with_reducible rfl)
        simp only [Act.put, List.setIfInBounds_toArray, List.set_cons_zero, List.set_cons_succ]
        refine tk_on (i := 2) (some 86) (v := ?_) (by kernel_rfl) (by kernel_rfl) (by kernel_rfl) (by kernel_rfl) (fun _ _ _ h => h) (by assumption) (fun o ho w' hSw => ?_) ?_
        rotate_left
        · (simp only [List.getElem?_toArray, List.getElem?_cons_succ, List.getElem?_cons_zero, Option.some.injEq] at ho; subst ho; (try dsimp only at hSw); go_simp; try with_reducible rfl)
        simp only [Act.put, List.setIfInBounds_toArray, List.set_cons_zero, List.set_cons_succ]
        refine tk_on (i := 3) (some 87) (v := ?_) (by kernel_rfl) (by kernel_rfl) (by kernel_rfl) (by kernel_rfl) (fun _ _ _ h => h) (by assumption) (fun o ho w' hSw => ?_) ?_
        rotate_left
        · (simp only [List.getElem?_toArray, List.getElem?_cons_succ, List.getElem?_cons_zero, Option.some.injEq] at ho; subst ho; (try dsimp only at hSw); go_simp; try with_reducible rfl)
        simp only [Act.put, List.setIfInBounds_toArray, List.set_cons_zero, List.set_cons_succ]
        refine tk_on (i := 4) (some 88) (v := ?_) (by kernel_rfl) (by kernel_rfl) (by kernel_rfl) (by kernel_rfl) (fun _ _ _ h => h) (by assumption) (fun o ho w' hSw => ?_) ?_
        rotate_left
        · (simp only [List.getElem?_toArray, List.getElem?_cons_succ, List.getElem?_cons_zero, Option.some.injEq] at ho; subst ho; (try dsimp only at hSw); go_simp; try with_reducible rfl)
        simp only [Act.put, List.setIfInBounds_toArray, List.set_cons_zero, List.set_cons_succ]
        refine tk_on (i := 5) (some 89) (v := ?_) (by kernel_rfl) (by kernel_rfl) (by kernel_rfl) (by kernel_rfl) (fun _ _ _ h => h) (by assumption) (fun o ho w' hSw => ?_) ?_
        rotate_left
        · (simp only [List.getElem?_toArray, List.getElem?_cons_succ, List.getElem?_cons_zero, Option.some.injEq] at ho; subst ho; (try dsimp only at hSw); go_simp; try with_reducible rfl)
        simp only [Act.put, List.setIfInBounds_toArray, List.set_cons_zero, List.set_cons_succ]
        refine tk_on (i := 6) (some 90) (v := ?_) (by kernel_rfl) (by kernel_rfl) (by kernel_rfl) (by kernel_rfl) (fun _ _ _ h => h) (by assumption) (fun o ho w' hSw => ?_) ?_
        rotate_left
        · (simp only [List.getElem?_toArray, List.getElem?_cons_succ, List.getElem?_cons_zero, Option.some.injEq] at ho; subst ho; (try dsimp only at hSw); go_simp; try with_reducible rfl)
        simp only [Act.put, List.setIfInBounds_toArray, List.set_cons_zero, List.set_cons_succ]
        refine tk_on (i := 7) (some 91) (v := ?_) (by kernel_rfl) (by kernel_rfl) (by kernel_rfl) (by kernel_rfl) (fun _ _ _ h => h) (by assumption) (fun o ho w' hSw => ?_) ?_
        rotate_left
        · (simp only [List.getElem?_toArray, List.getElem?_cons_succ, List.getElem?_cons_zero, Option.some.injEq] at ho; subst ho; (try dsimp only at hSw); go_simp; try with_reducible rfl)
        simp only [Act.put, List.setIfInBounds_toArray, List.set_cons_zero, List.set_cons_succ]
        refine tk_on (i := 8) (some 92) (v := ?_) (by kernel_rfl) (by kernel_rfl) (by kernel_rfl) (by kernel_rfl) (fun _ _ _ h => h) (by assumption) (fun o ho w' hSw => ?_) ?_
        rotate_left
        · (simp only [List.getElem?_toArray, List.getElem?_cons_succ, List.getElem?_cons_zero, Option.some.injEq] at ho; subst ho; (try dsimp only at hSw); go_simp; try with_reducible rfl)
        simp only [Act.put, List.setIfInBounds_toArray, List.set_cons_zero, List.set_cons_succ]
        refine tk_on (i := 9) (some 93) (v := ?_) (by kernel_rfl) (by kernel_rfl) (by kernel_rfl) (by kernel_rfl) (fun _ _ _ h => h) (by assumption) (fun o ho w' hSw => ?_) ?_
        rotate_left
        · (simp only [List.getElem?_toArray, List.getElem?_cons_succ, List.getElem?_cons_zero, Option.some.injEq] at ho; subst ho; (try dsimp only at hSw); go_simp; try with_reducible rfl)
        simp only [Act.put, List.setIfInBounds_toArray, List.set_cons_zero, List.set_cons_succ]
        refine tk_on (i := 11) (some 95) (v := ?_) (by kernel_rfl) (by kernel_rfl) (by kernel_rfl) (by kernel_rfl) (fun _ _ _ h => h) (by assumption) (fun o ho w' hSw => ?_) ?_
        rotate_left
        · (simp only [List.getElem?_toArray, List.getElem?_cons_succ, List.getElem?_cons_zero, Option.some.injEq] at ho; subst ho; (try dsimp only at hSw); go_simp; try with_reducible rfl)
        simp only [Act.put, List.setIfInBounds_toArray, List.set_cons_zero, List.set_cons_succ]
        refine tk_on (i := 12) (some 96) (v := ?_) (by kernel_rfl) (by kernel_rfl) (by kernel_rfl) (by kernel_rfl) (fun _ _ _ h => h) (by assumption) (fun o ho w' hSw => ?_) ?_
        rotate_left
        · (simp only [List.getElem?_toArray, List.getElem?_cons_succ, List.getElem?_cons_zero, Option.some.injEq] at ho; subst ho; (try dsimp only at hSw); go_simp; try with_reducible rfl)
        simp only [Act.put, List.setIfInBounds_toArray, List.set_cons_zero, List.set_cons_succ]
        refine tk_on (i := 13) (some 97) (v := ?_) (by kernel_rfl) (by kernel_rfl) (by kernel_rfl) (by kernel_rfl) (fun _ _ _ h => h) (by assumption) (fun o ho w' hSw => ?_) ?_
        rotate_left
        · (simp only [List.getElem?_toArray, List.getElem?_cons_succ, List.getElem?_cons_zero, Option.some.injEq] at ho; subst ho; (try dsimp only at hSw); go_simp; try with_reducible rfl)
        simp only [Act.put, List.setIfInBounds_toArray, List.set_cons_zero, List.set_cons_succ]
        refine tk_call (i := 10) (by kernel_rfl) (by kernel_rfl) (fun o ho K hK => ?_)
        simp only [List.getElem?_toArray, List.getElem?_cons_succ, List.getElem?_cons_zero, Option.some.injEq] at ho
        subst ho
        go_simp
        refine ((HL.out _)).mono ?_
        rintro e w7 ⟨rfl, hb⟩
        have q7 := q6.trans (hb.mono q6.size)
        have m7 := m6.ret hb
        have k7 := k6.ret hb
        clear hb q6 m6 k6
        go_simp
        clear hHeld
        refine hK.out _ _ ⟨k7.c0, k7.c1, k7.c2⟩ (fun hHeld => ?_)
        clear hK K
        refine tk_on (i := 14) (some 98) (v := ?_) (by kernel_rfl) (by kernel_rfl) (by kernel_rfl) (by kernel_rfl) (fun _ _ _ h => h) (by assumption) (fun o ho w' hSw => ?_) ?_
        rotate_left
        · (simp only [List.getElem?_toArray, List.getElem?_cons_succ, List.getElem?_cons_zero, Option.some.injEq] at ho; subst ho; (try dsimp only at hSw); go_simp; try with_reducible rfl)
        simp only [Act.put, List.setIfInBounds_toArray, List.set_cons_zero, List.set_cons_succ]
        refine tk_on (i := 15) (some 99) (v := ?_) (by kernel_rfl) (by kernel_rfl) (by kernel_rfl) (by kernel_rfl) (fun _ _ _ h => h) (by assumption) (fun o ho w' hSw => ?_) ?_
        rotate_left
        · (simp only [List.getElem?_toArray, List.getElem?_cons_succ, List.getElem?_cons_zero, Option.some.injEq] at ho; subst ho; (try dsimp only at hSw); go_simp; try with_reducible rfl)
        simp only [Act.put, List.setIfInBounds_toArray, List.set_cons_zero, List.set_cons_succ]
        refine tk_on (i := 16) (some 100) (v := ?_) (by kernel_rfl) (by kernel_rfl) (by kernel_rfl) (by kernel_rfl) (fun _ _ _ h => h) (by assumption) (fun o ho w' hSw => ?_) ?_
        rotate_left
        · (simp only [List.getElem?_toArray, List.getElem?_cons_succ, List.getElem?_cons_zero, Option.some.injEq] at ho; subst ho; (try dsimp only at hSw); go_simp; try with_reducible rfl)
        simp only [Act.put, List.setIfInBounds_toArray, List.set_cons_zero, List.set_cons_succ]
        refine tk_on (i := 17) (some 101) (v := ?_) (by kernel_rfl) (by kernel_rfl) (by kernel_rfl) (by kernel_rfl) (fun _ _ _ h => h) (by assumption) (fun o ho w' hSw => ?_) ?_
        rotate_left
        · (simp only [List.getElem?_toArray, List.getElem?_cons_succ, List.getElem?_cons_zero, Option.some.injEq] at ho; subst ho; (try dsimp only at hSw); go_simp; try with_reducible rfl)
        simp only [Act.put, List.setIfInBounds_toArray, List.set_cons_zero, List.set_cons_succ]
        refine tk_on (i := 18) (some 102) (v := ?_) (by kernel_rfl) (by kernel_rfl) (by kernel_rfl) (by kernel_rfl) (fun _ _ _ h => h) (by assumption) (fun o ho w' hSw => ?_) ?_
        rotate_left
        · (simp only [List.getElem?_toArray, List.getElem?_cons_succ, List.getElem?_cons_zero, Option.some.injEq] at ho; subst ho; (try dsimp only at hSw); go_simp; try with_reducible rfl)
        simp only [Act.put, List.setIfInBounds_toArray, List.set_cons_zero, List.set_cons_succ]
        refine tk_call (i := 19) (by kernel_rfl) (by kernel_rfl) (fun o ho K hK => ?_)
        simp only [List.getElem?_toArray, List.getElem?_cons_succ, List.getElem?_cons_zero, Option.some.injEq] at ho
        subst ho
        go_simp
        refine ((CK.out _ m7)).mono ?_
        rintro e w8 ⟨rfl, hb⟩
        have q8 := q7.trans (hb.mono q7.size)
        have m8 := m7.ret hb
        have k8 := k7.ret hb
        clear hb q7 m7 k7
        go_simp
        clear hHeld
        refine hK.out _ _ ⟨k8.c0, k8.c1, k8.c2⟩ (fun hHeld => ?_)
        clear hK K
        refine tk_on (i := 20) (some 104) (v := ?_) (by kernel_rfl) (by kernel_rfl) (by kernel_rfl) (by kernel_rfl) (fun _ _ _ h => h) (by assumption) (fun o ho w' hSw => ?_) ?_
        rotate_left
        · (simp only [List.getElem?_toArray, List.getElem?_cons_succ, List.getElem?_cons_zero, Option.some.injEq] at ho; subst ho; (try dsimp only at hSw); go_simp; try with_reducible rfl)
        simp only [Act.put, List.setIfInBounds_toArray, List.set_cons_zero, List.set_cons_succ]
        refine tk_on (i := 21) (some 105) (v := ?_) (by kernel_rfl) (by kernel_rfl) (by kernel_rfl) (by kernel_rfl) (fun _ _ _ h => h) (by assumption) (fun o ho w' hSw => ?_) ?_
        rotate_left
        · (simp only [List.getElem?_toArray, List.getElem?_cons_succ, List.getElem?_cons_zero, Option.some.injEq] at ho; subst ho; (try dsimp only at hSw); go_simp; try with_reducible rfl)
        simp only [Act.put, List.setIfInBounds_toArray, List.set_cons_zero, List.set_cons_succ]
        refine tk_on (i := 22) (some 4) (v := ?_) (by kernel_rfl) (by kernel_rfl) (by kernel_rfl) (by kernel_rfl) (fun _ _ _ h => h) (by assumption) (fun o ho w' hSw => ?_) ?_
        rotate_left
        · (simp only [List.getElem?_toArray, List.getElem?_cons_succ, List.getElem?_cons_zero, Option.some.injEq] at ho; subst ho; (try dsimp only at hSw); go_simp; try with_reducible rfl)
        simp only [Act.put, List.setIfInBounds_toArray, List.set_cons_zero, List.set_cons_succ]
        refine wpAnyH_done (by kernel_rfl) ?_ _
        go_wp2_with fail
        go_ret
        exact ⟨rfl, q8⟩
      · have hA := HA.out
        have hB := HB.out
        have hU := HU.out
        obtain ⟨x0, x1, x2, x3, x4⟩ := id k4
        go_wp2_with fail
        refine (WK.out _ m4).mono ?_
        rintro e w5 ⟨rfl, hb⟩
        have q5 := q4.trans (hb.mono q4.size)
        have m5 := m4.ret hb
        have k5 := k4.ret hb
        clear hb q4 m4 k4
        clear x0 x1 x2 x3 x4
        go_wp2_with fail
        have k6 := k5.ret (Below.drew (Below.refl _ _))
        have q6 := q5.drew
        have m6 := m5.ret (Below.drew (Below.refl _ _))
        refine wp_region_held_drew (S := fun w' => w'.cell? ⟨w3.heap.size, 0, none⟩ = some (.string X) ∧ w'.cell? ⟨w3.heap.size, 1, none⟩ = some (.string Y) ∧ w'.cell? ⟨w3.heap.size, 2, none⟩ = some (.string Z)) (by kernel_rfl) ⟨k6.c0, k6.c1, k6.c2⟩ (fun hHeld => ?_)
        refine tk_on (i := 0) (some 84) (v := ?_) (by kernel_rfl) (by kernel_rfl) (by kernel_rfl) (by kernel_rfl) (fun _ _ _ h => h) (by assumption) (fun o ho w' hSw => ?_) ?_
        rotate_left
        · (simp only [List.getElem?_toArray, List.getElem?_cons_zero, Option.some.injEq] at ho; subst ho; (try dsimp only at hSw); go_simp; try with_reducible rfl)
        simp only [Act.put, List.setIfInBounds_toArray, List.set_cons_zero, List.set_cons_succ]
        refine tk_on (i := 1) (some 85) (v := ?_) (by kernel_rfl) (by kernel_rfl) (by kernel_rfl) (by kernel_rfl) (fun _ _ _ h => h) (by assumption) (fun o ho w' hSw => ?_) ?_
        rotate_left
        · (simp only [List.getElem?_toArray, List.getElem?_cons_succ, List.getElem?_cons_zero, Option.some.injEq] at ho; subst ho; (try dsimp only at hSw); go_simp; try with_reducible rfl)
        simp only [Act.put, List.setIfInBounds_toArray, List.set_cons_zero, List.set_cons_succ]
        refine tk_on (i := 2) (some 86) (v := ?_) (by kernel_rfl) (by kernel_rfl) (by kernel_rfl) (by kernel_rfl) (fun _ _ _ h => h) (by assumption) (fun o ho w' hSw => ?_) ?_
        rotate_left
        · (simp only [List.getElem?_toArray, List.getElem?_cons_succ, List.getElem?_cons_zero, Option.some.injEq] at ho; subst ho; (try dsimp only at hSw); go_simp; try with_reducible rfl)
        simp only [Act.put, List.setIfInBounds_toArray, List.set_cons_zero, List.set_cons_succ]
        refine tk_on (i := 3) (some 87) (v := ?_) (by kernel_rfl) (by kernel_rfl) (by kernel_rfl) (by kernel_rfl) (fun _ _ _ h => h) (by assumption) (fun o ho w' hSw => ?_) ?_
        rotate_left
        · (simp only [List.getElem?_toArray, List.getElem?_cons_succ, List.getElem?_cons_zero, Option.some.injEq] at ho; subst ho; (try dsimp only at hSw); go_simp; try with_reducible rfl)
        simp only [Act.put, List.setIfInBounds_toArray, List.set_cons_zero, List.set_cons_succ]
        refine tk_on (i := 4) (some 88) (v := ?_) (by kernel_rfl) (by kernel_rfl) (by kernel_rfl) (by kernel_rfl) (fun _ _ _ h => h) (by assumption) (fun o ho w' hSw => ?_) ?_
        rotate_left
        · (simp only [List.getElem?_toArray, List.getElem?_cons_succ, List.getElem?_cons_zero, Option.some.injEq] at ho; subst ho; (try dsimp only at hSw); go_simp; try with_reducible rfl)
        simp only [Act.put, List.setIfInBounds_toArray, List.set_cons_zero, List.set_cons_succ]
        refine tk_on (i := 5) (some 89) (v := ?_) (by kernel_rfl) (by kernel_rfl) (by kernel_rfl) (by kernel_rfl) (fun _ _ _ h => h) (by assumption) (fun o ho w' hSw => ?_) ?_
        rotate_left
        · (simp only [List.getElem?_toArray, List.getElem?_cons_succ, List.getElem?_cons_zero, Option.some.injEq] at ho; subst ho; (try dsimp only at hSw); go_simp; try with_reducible rfl)
        simp only [Act.put, List.setIfInBounds_toArray, List.set_cons_zero, List.set_cons_succ]
        refine tk_on (i := 6) (some 90) (v := ?_) (by kernel_rfl) (by kernel_rfl) (by kernel_rfl) (by kernel_rfl) (fun _ _ _ h => h) (by assumption) (fun o ho w' hSw => ?_) ?_
        rotate_left
        · (simp only [List.getElem?_toArray, List.getElem?_cons_succ, List.getElem?_cons_zero, Option.some.injEq] at ho; subst ho; (try dsimp only at hSw); go_simp; try with_reducible rfl)
        simp only [Act.put, List.setIfInBounds_toArray, List.set_cons_zero, List.set_cons_succ]
        refine tk_on (i := 7) (some 91) (v := ?_) (by kernel_rfl) (by kernel_rfl) (by kernel_rfl) (by kernel_rfl) (fun _ _ _ h => h) (by assumption) (fun o ho w' hSw => ?_) ?_
        rotate_left
        · (simp only [List.getElem?_toArray, List.getElem?_cons_succ, List.getElem?_cons_zero, Option.some.injEq] at ho; subst ho; (try dsimp only at hSw); go_simp; try with_reducible rfl)
        simp only [Act.put, List.setIfInBounds_toArray, List.set_cons_zero, List.set_cons_succ]
        refine tk_on (i := 8) (some 92) (v := ?_) (by kernel_rfl) (by kernel_rfl) (by kernel_rfl) (by kernel_rfl) (fun _ _ _ h => h) (by assumption) (fun o ho w' hSw => ?_) ?_
        rotate_left
        · (simp only [List.getElem?_toArray, List.getElem?_cons_succ, List.getElem?_cons_zero, Option.some.injEq] at ho; subst ho; (try dsimp only at hSw); go_simp; try with_reducible rfl)
        simp only [Act.put, List.setIfInBounds_toArray, List.set_cons_zero, List.set_cons_succ]
        refine tk_on (i := 9) (some 93) (v := ?_) (by kernel_rfl) (by kernel_rfl) (by kernel_rfl) (by kernel_rfl) (fun _ _ _ h => h) (by assumption) (fun o ho w' hSw => ?_) ?_
        rotate_left
        · (simp only [List.getElem?_toArray, List.getElem?_cons_succ, List.getElem?_cons_zero, Option.some.injEq] at ho; subst ho; (try dsimp only at hSw); go_simp; try with_reducible rfl)
        simp only [Act.put, List.setIfInBounds_toArray, List.set_cons_zero, List.set_cons_succ]
        refine tk_on (i := 11) (some 95) (v := ?_) (by kernel_rfl) (by kernel_rfl) (by kernel_rfl) (by kernel_rfl) (fun _ _ _ h => h) (by assumption) (fun o ho w' hSw => ?_) ?_
        rotate_left
        · (simp only [List.getElem?_toArray, List.getElem?_cons_succ, List.getElem?_cons_zero, Option.some.injEq] at ho; subst ho; (try dsimp only at hSw); go_simp; try with_reducible rfl)
        simp only [Act.put, List.setIfInBounds_toArray, List.set_cons_zero, List.set_cons_succ]
        refine tk_on (i := 12) (some 96) (v := ?_) (by kernel_rfl) (by kernel_rfl) (by kernel_rfl) (by kernel_rfl) (fun _ _ _ h => h) (by assumption) (fun o ho w' hSw => ?_) ?_
        rotate_left
        · (simp only [List.getElem?_toArray, List.getElem?_cons_succ, List.getElem?_cons_zero, Option.some.injEq] at ho; subst ho; (try dsimp only at hSw); go_simp; try with_reducible rfl)
        simp only [Act.put, List.setIfInBounds_toArray, List.set_cons_zero, List.set_cons_succ]
        refine tk_on (i := 13) (some 97) (v := ?_) (by kernel_rfl) (by kernel_rfl) (by kernel_rfl) (by kernel_rfl) (fun _ _ _ h => h) (by assumption) (fun o ho w' hSw => ?_) ?_
        rotate_left
        · (simp only [List.getElem?_toArray, List.getElem?_cons_succ, List.getElem?_cons_zero, Option.some.injEq] at ho; subst ho; (try dsimp only at hSw); go_simp; try with_reducible rfl)
        simp only [Act.put, List.setIfInBounds_toArray, List.set_cons_zero, List.set_cons_succ]
        refine tk_call (i := 10) (by kernel_rfl) (by kernel_rfl) (fun o ho K hK => ?_)
        simp only [List.getElem?_toArray, List.getElem?_cons_succ, List.getElem?_cons_zero, Option.some.injEq] at ho
        subst ho
        go_simp
        refine ((HL.out _)).mono ?_
        rintro e w7 ⟨rfl, hb⟩
        have q7 := q6.trans (hb.mono q6.size)
        have m7 := m6.ret hb
        have k7 := k6.ret hb
        clear hb q6 m6 k6
        go_simp
        clear hHeld
        refine hK.out _ _ ⟨k7.c0, k7.c1, k7.c2⟩ (fun hHeld => ?_)
        clear hK K
        refine tk_on (i := 14) (some 98) (v := ?_) (by kernel_rfl) (by kernel_rfl) (by kernel_rfl) (by kernel_rfl) (fun _ _ _ h => h) (by assumption) (fun o ho w' hSw => ?_) ?_
        rotate_left
        · (simp only [List.getElem?_toArray, List.getElem?_cons_succ, List.getElem?_cons_zero, Option.some.injEq] at ho; subst ho; (try dsimp only at hSw); go_simp; try with_reducible rfl)
        simp only [Act.put, List.setIfInBounds_toArray, List.set_cons_zero, List.set_cons_succ]
        refine tk_on (i := 15) (some 99) (v := ?_) (by kernel_rfl) (by kernel_rfl) (by kernel_rfl) (by kernel_rfl) (fun _ _ _ h => h) (by assumption) (fun o ho w' hSw => ?_) ?_
        rotate_left
        · (simp only [List.getElem?_toArray, List.getElem?_cons_succ, List.getElem?_cons_zero, Option.some.injEq] at ho; subst ho; (try dsimp only at hSw); go_simp; try with_reducible rfl)
        simp only [Act.put, List.setIfInBounds_toArray, List.set_cons_zero, List.set_cons_succ]
        refine tk_on (i := 16) (some 100) (v := ?_) (by kernel_rfl) (by kernel_rfl) (by kernel_rfl) (by kernel_rfl) (fun _ _ _ h => h) (by assumption) (fun o ho w' hSw => ?_) ?_
        rotate_left
        · (simp only [List.getElem?_toArray, List.getElem?_cons_succ, List.getElem?_cons_zero, Option.some.injEq] at ho; subst ho; (try dsimp only at hSw); go_simp; try with_reducible rfl)
        simp only [Act.put, List.setIfInBounds_toArray, List.set_cons_zero, List.set_cons_succ]
        refine tk_on (i := 17) (some 101) (v := ?_) (by kernel_rfl) (by kernel_rfl) (by kernel_rfl) (by kernel_rfl) (fun _ _ _ h => h) (by assumption) (fun o ho w' hSw => ?_) ?_
        rotate_left
        · (simp only [List.getElem?_toArray, List.getElem?_cons_succ, List.getElem?_cons_zero, Option.some.injEq] at ho; subst ho; (try dsimp only at hSw); go_simp; try with_reducible rfl)
        simp only [Act.put, List.setIfInBounds_toArray, List.set_cons_zero, List.set_cons_succ]
        refine tk_on (i := 18) (some 102) (v := ?_) (by kernel_rfl) (by kernel_rfl) (by kernel_rfl) (by kernel_rfl) (fun _ _ _ h => h) (by assumption) (fun o ho w' hSw => ?_) ?_
        rotate_left
        · (simp only [List.getElem?_toArray, List.getElem?_cons_succ, List.getElem?_cons_zero, Option.some.injEq] at ho; subst ho; (try dsimp only at hSw); go_simp; try with_reducible rfl)
        simp only [Act.put, List.setIfInBounds_toArray, List.set_cons_zero, List.set_cons_succ]
        refine tk_call (i := 19) (by kernel_rfl) (by kernel_rfl) (fun o ho K hK => ?_)
        simp only [List.getElem?_toArray, List.getElem?_cons_succ, List.getElem?_cons_zero, Option.some.injEq] at ho
        subst ho
        go_simp
        refine ((CK.out _ m7)).mono ?_
        rintro e w8 ⟨rfl, hb⟩
        have q8 := q7.trans (hb.mono q7.size)
        have m8 := m7.ret hb
        have k8 := k7.ret hb
        clear hb q7 m7 k7
        go_simp
        clear hHeld
        refine hK.out _ _ ⟨k8.c0, k8.c1, k8.c2⟩ (fun hHeld => ?_)
        clear hK K
        refine tk_on (i := 20) (some 104) (v := ?_) (by kernel_rfl) (by kernel_rfl) (by kernel_rfl) (by kernel_rfl) (fun _ _ _ h => h) (by assumption) (fun o ho w' hSw => ?_) ?_
        rotate_left
        · (simp only [List.getElem?_toArray, List.getElem?_cons_succ, List.getElem?_cons_zero, Option.some.injEq] at ho; subst ho; (try dsimp only at hSw); go_simp; try with_reducible rfl)
        simp only [Act.put, List.setIfInBounds_toArray, List.set_cons_zero, List.set_cons_succ]
        refine tk_on (i := 21) (some 105) (v := ?_) (by kernel_rfl) (by kernel_rfl) (by kernel_rfl) (by kernel_rfl) (fun _ _ _ h => h) (by assumption) (fun o ho w' hSw => ?_) ?_
        rotate_left
        · (simp only [List.getElem?_toArray, List.getElem?_cons_succ, List.getElem?_cons_zero, Option.some.injEq] at ho; subst ho; (try dsimp only at hSw); go_simp; try with_reducible rfl)
        simp only [Act.put, List.setIfInBounds_toArray, List.set_cons_zero, List.set_cons_succ]
        refine tk_on (i := 22) (some 4) (v := ?_) (by kernel_rfl) (by kernel_rfl) (by kernel_rfl) (by kernel_rfl) (fun _ _ _ h => h) (by assumption) (fun o ho w' hSw => ?_) ?_
        rotate_left
        · (simp only [List.getElem?_toArray, List.getElem?_cons_succ, List.getElem?_cons_zero, Option.some.injEq] at ho; subst ho; (try dsimp only at hSw); go_simp; try with_reducible rfl)
        simp only [Act.put, List.setIfInBounds_toArray, List.set_cons_zero, List.set_cons_succ]
        refine wpAnyH_done (by kernel_rfl) ?_ _
        go_wp2_with fail
        go_ret
        exact ⟨rfl, q8⟩
theorem mem_tw {p : UInt8 → Bool} : ∀ (l : List UInt8) (a : UInt8), a ∈ l.takeWhile p → p a = true
  | [], a, h => by simp at h
  | b :: l, a, h => by
    rw [List.takeWhile_cons] at h
    cases hb : p b with
    | true =>
      rw [hb, if_pos rfl] at h
      cases h with
      | head => exact hb
      | tail _ h => exact mem_tw l a h
    | false => rw [hb] at h; simp at h
theorem app_l (X Y : ByteArray) : (X ++ Y).data.toList = X.data.toList ++ Y.data.toList := by simp
theorem cA_len (c : UInt8) (s : ByteArray) : (cA c s.data.toList).length ≤ s.size ∧ (∀ k, k < (cA c s.data.toList).length → ∃ h : k < s.size, s[k].toNat ≠ c.toNat) ∧ (∀ h : (cA c s.data.toList).length < s.size, s[(cA c s.data.toList).length].toNat = c.toNat) ∧ s.extract 0 (cA c s.data.toList).length = jB (cA c s.data.toList) ∧ (s.extract (cA c s.data.toList).length s.size).data.toList = s.data.toList.drop (cA c s.data.toList).length := by
  have hle : (cA c s.data.toList).length ≤ s.size := by rw [← size_toList]; exact len_cA c _
  have hpre : cA c s.data.toList = s.data.toList.take (cA c s.data.toList).length := by
    unfold cA
    exact (List.prefix_iff_eq_take.1 (List.takeWhile_prefix _))
  refine ⟨hle, fun k hk => ?_, fun h => ?_, ?_, ext_tail s _⟩
  · have h : k < s.size := by omega
    refine ⟨h, fun e => ?_⟩
    have hmem : s[k] ∈ cA c s.data.toList := by
      have : (cA c s.data.toList)[k]? = some s[k] := by
        rw [hpre, List.getElem?_take, if_pos hk, getElem_data s k h]
      exact List.mem_of_getElem? this
    have := mem_tw _ _ hmem
    simp at this
    exact this (UInt8.toNat_inj.1 e)
  · have hd := drop_cons s _ h
    by_cases hc : s.data.toList.contains c = true
    · obtain ⟨e, -⟩ := cA_cR c s.data.toList (by simpa using hc)
      have : s.data.toList.drop (cA c s.data.toList).length = c :: cR c s.data.toList := by
        have e2 : ∀ n, n = (cA c s.data.toList).length → s.data.toList.drop n = c :: cR c s.data.toList := fun n hn => by
          conv => lhs; rw [e]
          rw [hn, List.drop_left]
        exact e2 _ rfl
      rw [hd] at this
      exact congrArg UInt8.toNat (List.cons.inj this).1
    · have := (cA_not c s.data.toList (by simpa using hc)).1
      have h2 := congrArg List.length this
      rw [size_toList] at h2
      omega
  · apply str_ext
    rw [ext_data, List.drop_zero, Nat.sub_zero, jB_list]
    exact hpre.symm
theorem back19 (l d r s : ByteArray) (w : World) (zl : l.size ≤ 140737488351232) (zd : d.size ≤ 140737488351232) (zr : r.size ≤ 140737488351232) (zs : s.size ≤ 9223372036854775807) (hm : ML w) :
    Calls Tryd.prog 3 #[jV l d r, .string s] w (Ret w (.bool true)) := by
  by_cases hbig : 1000 < s.size ∨ 1000 < l.size + d.size + r.size
  · exact back19_big l d r s w zl zd zr zs hm hbig
  · have b1 : l.size ≤ 1000 := by omega
    have b2 : d.size ≤ 1000 := by omega
    have b3 : r.size ≤ 1000 := by omega
    have b4 : s.size ≤ 1000 := by omega
    have g1 : ¬ (1000 : Int) < s.size := by omega
    have g2 : ¬ (1000 : Int) < (l.size : Int) + d.size + r.size := by omega
    have CW := fun w m => jd_Write l d r w (by omega) (by omega) (by omega) m
    have CP := fun w m => jd_Parse s w (by omega) m
    unfold wrtB wrtE at CW
    unfold prsV at CP
    have hI : chkP l.data.toList d.data.toList r.data.toList = true → ∀ w, ML w → Calls Tryd.prog 10 #[.string (jB (txtP l.data.toList d.data.toList r.data.toList)), .string l, .string d, .string r] w (Ret w (.bool true)) := fun hc w m => by
      obtain ⟨p1, p2, p3, p4⟩ := prs_txt hc
      have hz : (txtP l.data.toList d.data.toList r.data.toList).length ≤ 10000 := by
        have e1 := size_toList l
        have e2 := size_toList d
        have e3 := size_toList r
        unfold txtP
        split <;> split <;> simp <;> omega
      refine is_at _ _ _ _ true w (by rw [jB_size]; exact hz) m ?_
      unfold isP
      rw [jB_list, p1, p2, p3, p4]
      simp
    cases hp : prsP s.data.toList with
    | false =>
      rw [hp, if_neg (by decide)] at CP
      cases hc : chkP l.data.toList d.data.toList r.data.toList with
      | true =>
        rw [hc, if_pos rfl, if_pos rfl] at CW
        exact back19_TF l d r s _ w hm g1 g2 b1 b2 b3 b4 CW (hI hc) CP
      | false =>
        rw [hc, if_neg (by decide), if_neg (by decide)] at CW
        exact back19_FF l d r s _ w hm g1 g2 b1 b2 b3 b4 CW CP
    | true =>
      rw [hp, if_pos rfl] at CP
      obtain ⟨a1, a2, a3, a4, a5⟩ := cA_len 47 s
      have zA := len_cA 47 s.data.toList
      have zR := len_cR 47 s.data.toList
      have zLo := len_lowA s.data.toList
      have hz := size_toList s
      have z1 : (jLoc s.data.toList).length ≤ 10000 := by
        unfold jLoc
        have := len_cA 64 (lowA s.data.toList)
        split
        · omega
        · exact Nat.zero_le _
      have z2 : (jDom s.data.toList).length ≤ 10000 := by
        unfold jDom
        have := len_cR 64 (lowA s.data.toList)
        split <;> omega
      have z3 : (jRes s.data.toList).length ≤ 10000 := by unfold jRes; omega
      have CL := fun w => as_Lower (jB (cA 47 s.data.toList)) w (by rw [jB_size]; omega)
      rw [jB_list] at CL
      have hk := prs_chk hp
      have CU := fun w m => jd_Write (jB (jLoc s.data.toList)) (jB (jDom s.data.toList)) (jB (jRes s.data.toList)) w (by rw [jB_size]; exact z1) (by rw [jB_size]; exact z2) (by rw [jB_size]; exact z3) m
      have CC := fun w m => jd_Check (jB (jLoc s.data.toList)) (jB (jDom s.data.toList)) (jB (jRes s.data.toList)) w (by rw [jB_size]; exact z1) (by rw [jB_size]; exact z2) (by rw [jB_size]; exact z3) m
      unfold wrtB wrtE at CU
      rw [jB_list, jB_list, jB_list, hk, if_pos rfl, if_pos rfl] at CU
      rw [jB_list, jB_list, jB_list, hk, if_pos rfl] at CC
      have hB : (s.extract (cA 47 s.data.toList).length s.size).size ≤ 1000 := by rw [← size_toList, a5, List.length_drop]; omega
      have hLo : (jB (lowL (cA 47 s.data.toList))).size ≤ 1000 := by rw [jB_size, len_low]; omega
      have hU : jB (lowL (cA 47 s.data.toList)) ++ s.extract (cA 47 s.data.toList).length s.size = jB (txtP (jLoc s.data.toList) (jDom s.data.toList) (jRes s.data.toList)) := by
        apply str_ext
        refine (app_l _ _).trans ?_
        rw [txt_prs hp, jB_list, jB_list, a5]
      cases hc : chkP l.data.toList d.data.toList r.data.toList with
      | true =>
        rw [hc, if_pos rfl, if_pos rfl] at CW
        exact back19_TT l d r s _ _ _ _ _ _ _ _ _ w hm g1 g2 b1 b2 b3 b4 CW (hI hc) CP a1 a2 a3 a4 rfl CL hLo hB hU CU CC
      | false =>
        rw [hc, if_neg (by decide), if_neg (by decide)] at CW
        exact back19_FT l d r s _ _ _ _ _ _ _ _ _ w hm g1 g2 b1 b2 b3 b4 CW CP a1 a2 a3 a4 rfl CL hLo hB hU CU CC
end Go.Proofs.YtfonkblbgadhmaaDoor
