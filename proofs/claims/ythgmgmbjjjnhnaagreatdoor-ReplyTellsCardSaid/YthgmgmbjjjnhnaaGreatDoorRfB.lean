/- The document's text of a reply. PRINTED BY PROGRAM (gen_rfb.py). -/
import Derived.Test.YthgmgmbjjjnhnaaGreatDoorRfA
import Derived.Test.YthgmgmbjjjnhnaaGreatDoorRpC
import Derived.Test.YthgmgmbjjjnhnaaGreatDoorHdYa
import Derived.Test.YthgmgmbjjjnhnaaGreatDoorGd
namespace Go.Proofs.YthgmgmbjjjnhnaaGreatDoor
open Go.RowKit

theorem bz {w W : World} {o : Obj} (h : Below (w.heap.size + 1) (w.alloc o) W) : w.heap.size + 1 ≤ W.heap.size := by
  have := h.size
  rwa [World.size_alloc] at this
set_option maxHeartbeats 8000000 in
set_option maxRecDepth 100000 in
theorem r18_Text (n : Int) (B : ByteArray) (k : Bool) (w : World) (hn0 : 0 ≤ n) (hn : n ≤ 999) (hz : B.size ≤ 100000) : Calls Tryz.prog 30 #[rpV n B k] w (Ret w (.string ⟨(rpT n B.data.toList k).toArray⟩)) := by
  obtain ⟨i0, hi, hz0, hz1, hz2⟩ := info_parts vinfo_pair
  have q0 := (Below.refl w.heap.size w).alloc (Nat.le_refl _) (.cells #[.int .i64 n, .string B, .bool k] 23)
  have Q0 := Below.refl (w.heap.size + 1) (w.alloc (.cells #[.int .i64 n, .string B, .bool k] 23))
  have a0 := RpAt.new w (.int .i64 n) (.string B) (.bool k)
  have A0 := Lib.hid a0
  obtain ⟨m0, m1, m2, m3, m4, m5, m6⟩ := a0
  have D0 := fun w => ref06_Digits B.size (by omega) w
  obtain ⟨D, hD⟩ : ∃ D : ByteArray, ⟨(Lib.decDigits B.size).toArray⟩ = D := ⟨_, rfl⟩
  rw [hD] at D0
  have DH := Lib.hid D0
  have HD := Lib.hid hD
  have F0 := fun w => r15_First n.toNat w (by omega)
  rw [show ((n.toNat : Nat) : Int) = n by omega] at F0
  obtain ⟨X, hX⟩ : ∃ X : ByteArray, ⟨(stT n).toArray⟩ = X := ⟨_, rfl⟩
  have hXl : X.data.toList = stT n := by rw [← hX]
  rw [hX] at F0
  have FH := Lib.hid F0
  have zX : X.size ≤ 100 := by
    rw [← size_toList, hXl]
    have h1 : (Lib.decDigits n.toNat).length ≤ 20 := by
      rw [Lib.decDigits_length]
      exact Lib.nDigits_le20 n.toNat (by omega)
    have h2 : (stN n).length ≤ 30 := by
      unfold stN
      repeat (first | (split; decide) | decide)
    unfold stT
    simp
    omega
  have hfl := rpF_size (st := n) (b := B.data.toList) (k := k) (by rw [size_toList]; omega)
  have hlen := (rpF_may n B.data.toList k).2.2
  have hpz : ∀ p ∈ rpF n B.data.toList k, p.1.length ≤ 100000 ∧ p.2.length ≤ 100000 := fun p hp => by
    have := hdW_mem hp
    rw [hdL_len] at this
    omega
  have L0 := fun v w (h : IsPairs v (rpF n B.data.toList k) w) => r14_Lines v _ w h (by omega) hpz
  obtain ⟨R, hR⟩ : ∃ R : ByteArray, ⟨(hdW (rpF n B.data.toList k)).toArray⟩ = R := ⟨_, rfl⟩
  have hRl : R.data.toList = hdW (rpF n B.data.toList k) := by rw [← hR]
  rw [hR] at L0
  have zR : R.size ≤ 100 := by rw [← size_toList, hRl]; exact hfl
  have htx : ((X ++ R) ++ ⟨#[13, 10]⟩) ++ B = (⟨(rpT n B.data.toList k).toArray⟩ : ByteArray) := by
    apply str_ext
    rw [app_data, app_data, app_data, hXl, hRl]
    unfold rpT
    simp
  have n1 : ¬ 9223372036854775807 < X.size + R.size := by omega
  have n2 : ¬ 9223372036854775807 < X.size + R.size + 2 := by omega
  have n3 : ¬ 9223372036854775807 < X.size + R.size + 2 + B.size := by omega
  obtain ⟨Y, hY⟩ : ∃ Y : ByteArray, ⟨(rpT n B.data.toList k).toArray⟩ = Y := ⟨_, rfl⟩
  rw [hY] at htx ⊢
  have HT := Lib.hid htx
  clear D0 F0 hD hX hXl hfl hlen hpz hR hRl htx hY
  by_cases h2 : n = 200
  · subst h2
    cases k with
    | true =>
      have LH := Lib.hid L0
      clear L0
      have HP : prV (rpF 200 B.data.toList true) = [sT1, sT2, sL1, .string D] := by
        rw [← HD.out]
        unfold rpF
        rw [if_pos rfl]
        unfold clen
        rw [size_toList]
        rfl
      have HL : (rpF 200 B.data.toList true).length = 2 := by
        unfold rpF
        rw [if_pos rfl]
        rfl
      have HPP := Lib.hid HP
      have HLL := Lib.hid HL
      clear HP HL
      go_enter Tryz.func30, Tryz.ntmps30
      go_wp2_with (at_builtin; refine Hid.out ?_)
      refine Lib.hid ?_
      have hsz := Q0.size
      simp only [World.size_alloc] at hsz
      refine wpList_app_row rfl _ _ _ rfl (w.heap.size + 1) 106 i0 _ 2 32 Tryz.underlying62 hi hz0 hz1 hz2 rfl (by omega) _ 0 [] rfl ((World.ownsRow_nil _ _ _ _)) (.slice (some ⟨w.heap.size + 1, 0, none⟩) 1 1) (by rfl) 1 [sT1, sT2] (by have h := new_row2 (w.alloc (.cells #[.int .i64 200, .string B, .bool true] 23)) (sT1) (sT2); rwa [World.size_alloc] at h) (by simp [Value.oneCell']) (by omega) (by omega) (by simp <;> omega) ?_
      intro v1 w1 hown' hgrow
      have Q1 := (Q0.alloc (by first | omega | (simp; omega)) (.cells #[sT1, sT2] 106)).grown hgrow (by simp <;> omega) (fun k hk => by cases hk)
      have HO1 := Lib.hid hown'
      clear hown' hgrow hsz
      skip
      obtain ⟨y0, y1, y2, y3, y4, y5, y6⟩ := A0.out.ret2 (Nat.lt_succ_self _) Q1
      have Y := Lib.hid (y0)
      clear Y
      go_wp2_with fail
      refine (DH.out _).mono ?_
      rintro e wd ⟨rfl, hbd⟩
      have Qd := Q1.trans (hbd.mono (bz Q1))
      have HOd := Lib.hid (own_below HO1.out hbd)
      obtain ⟨y0, y1, y2, y3, y4, y5, y6⟩ := A0.out.ret2 (Nat.lt_succ_self _) Qd
      clear hbd
      go_wp2_with (at_builtin; refine Hid.out ?_)
      refine Lib.hid ?_
      have hsz := Qd.size
      simp only [World.size_alloc] at hsz
      refine wpList_app_row rfl _ _ _ rfl (w.heap.size + 1) 106 i0 _ 2 32 Tryz.underlying62 hi hz0 hz1 hz2 rfl (by omega) _ 1 [sT1, sT2] rfl (HOd.out.alloc _) (.slice (some ⟨wd.heap.size, 0, none⟩) 1 1) (by rfl) 1 [sL1, .string D] (by have h := new_row2 wd (sL1) (.string D); exact h) (by simp [Value.oneCell']) (by omega) (by omega) (by simp <;> omega) ?_
      intro v2 w2 hown' hgrow
      have Q2 := (Qd.alloc (by first | omega | (simp; omega)) (.cells #[sL1, .string D] 106)).grown hgrow (by simp <;> omega) (fun k hk => (HOd.out.lt k hk).1)
      have HO2 := Lib.hid hown'
      clear hown' hgrow hsz
      clear y0 y1 y2 y3 y4 y5 y6
      obtain ⟨y0, y1, y2, y3, y4, y5, y6⟩ := A0.out.ret2 (Nat.lt_succ_self _) Q2
      have HU0 : IsPairs v2 (rpF 200 B.data.toList true) w2 := by
        unfold IsPairs
        rw [HPP.out, HLL.out]
        exact own_row HO2.out
      have HU := Lib.hid (HU0.ret (Below.drew (Below.refl _ _)))
      have K0 := Q2.drew
      have M0 := (A0.out.ret2 (Nat.lt_succ_self _) Q2).ret (Below.drew (Below.refl _ _))
      clear HU0
      go_wp2_with fail
      refine wp_region_held_drew (S := fun w' => w'.cell? ⟨w.heap.size, 0, none⟩ = some (.int .i64 200) ∧ w'.cell? ⟨w.heap.size, 1, none⟩ = some (.string B)) (by kernel_rfl) ⟨M0.c0, M0.c1⟩ (fun hHeld => ?_)
      refine tk_on (i := 0) (some 26) (v := ?_) (by kernel_rfl) (by kernel_rfl) (by kernel_rfl) (by kernel_rfl) (fun _ _ _ h => h) (by assumption) (fun o ho w' hSw => ?_) ?_
      rotate_left
      · (simp only [List.getElem?_toArray, List.getElem?_cons_zero, Option.some.injEq] at ho; subst ho; (try dsimp only at hSw); go_simp; try with_reducible rfl)
      simp only [Act.put, List.setIfInBounds_toArray, List.set_cons_zero, List.set_cons_succ]
      refine tk_on (i := 1) (some 27) (v := ?_) (by kernel_rfl) (by kernel_rfl) (by kernel_rfl) (by kernel_rfl) (fun _ _ _ h => h) (by assumption) (fun o ho w' hSw => ?_) ?_
      rotate_left
      · (simp only [List.getElem?_toArray, List.getElem?_cons_succ, List.getElem?_cons_zero, Option.some.injEq] at ho; subst ho; (try dsimp only at hSw); go_simp; try with_reducible rfl)
      simp only [Act.put, List.setIfInBounds_toArray, List.set_cons_zero, List.set_cons_succ]
      refine tk_on (i := 3) (some 29) (v := ?_) (by kernel_rfl) (by kernel_rfl) (by kernel_rfl) (by kernel_rfl) (fun _ _ _ h => h) (by assumption) (fun o ho w' hSw => ?_) ?_
      rotate_left
      · (simp only [List.getElem?_toArray, List.getElem?_cons_succ, List.getElem?_cons_zero, Option.some.injEq] at ho; subst ho; (try dsimp only at hSw); go_simp; try with_reducible rfl)
      simp only [Act.put, List.setIfInBounds_toArray, List.set_cons_zero, List.set_cons_succ]
      refine tk_on (i := 7) (some 33) (v := ?_) (by kernel_rfl) (by kernel_rfl) (by kernel_rfl) (by kernel_rfl) (fun _ _ _ h => h) (by assumption) (fun o ho w' hSw => ?_) ?_
      rotate_left
      · (simp only [List.getElem?_toArray, List.getElem?_cons_succ, List.getElem?_cons_zero, Option.some.injEq] at ho; subst ho; (try dsimp only at hSw); go_simp; try with_reducible rfl)
      simp only [Act.put, List.setIfInBounds_toArray, List.set_cons_zero, List.set_cons_succ]
      refine tk_on (i := 8) (some 34) (v := ?_) (by kernel_rfl) (by kernel_rfl) (by kernel_rfl) (by kernel_rfl) (fun _ _ _ h => h) (by assumption) (fun o ho w' hSw => ?_) ?_
      rotate_left
      · (simp only [List.getElem?_toArray, List.getElem?_cons_succ, List.getElem?_cons_zero, Option.some.injEq] at ho; subst ho; (try dsimp only at hSw); go_simp; try with_reducible rfl)
      simp only [Act.put, List.setIfInBounds_toArray, List.set_cons_zero, List.set_cons_succ]
      refine tk_call (i := 2) (by kernel_rfl) (by kernel_rfl) (fun o ho K hK => ?_)
      simp only [List.getElem?_toArray, List.getElem?_cons_succ, List.getElem?_cons_zero, Option.some.injEq] at ho
      subst ho
      go_simp
      refine (FH.out _).mono ?_
      rintro e x1 ⟨rfl, hb⟩
      have K1 := K0.trans (hb.mono (bz K0))
      have M1 := M0.ret hb
      have HU2 := Lib.hid (HU.out.ret hb)
      clear hb
      go_simp
      clear hHeld
      refine hK.out _ _ ⟨M1.c0, M1.c1⟩ (fun hHeld => ?_)
      clear hK K
      refine tk_call (i := 4) (by kernel_rfl) (by kernel_rfl) (fun o ho K hK => ?_)
      simp only [List.getElem?_toArray, List.getElem?_cons_succ, List.getElem?_cons_zero, Option.some.injEq] at ho
      subst ho
      go_simp
      refine (LH.out _ _ HU2.out).mono ?_
      rintro e x2 ⟨rfl, hb⟩
      have K2 := K1.trans (hb.mono (bz K1))
      have M2 := M1.ret hb
      clear hb
      go_simp
      clear hHeld
      refine hK.out _ _ ⟨M2.c0, M2.c1⟩ (fun hHeld => ?_)
      clear hK K
      refine tk_on (i := 5) (some 31) (v := ?_) (by kernel_rfl) (by kernel_rfl) (by kernel_rfl) (by kernel_rfl) (fun _ _ _ h => h) (by assumption) (fun o ho w' hSw => ?_) ?_
      rotate_left
      · (simp only [List.getElem?_toArray, List.getElem?_cons_succ, List.getElem?_cons_zero, Option.some.injEq] at ho; subst ho; (try dsimp only at hSw); go_simp; try with_reducible rfl)
      simp only [Act.put, List.setIfInBounds_toArray, List.set_cons_zero, List.set_cons_succ]
      refine tk_on (i := 6) (some 32) (v := ?_) (by kernel_rfl) (by kernel_rfl) (by kernel_rfl) (by kernel_rfl) (fun _ _ _ h => h) (by assumption) (fun o ho w' hSw => ?_) ?_
      rotate_left
      · (simp only [List.getElem?_toArray, List.getElem?_cons_succ, List.getElem?_cons_zero, Option.some.injEq] at ho; subst ho; (try dsimp only at hSw); go_simp; try with_reducible rfl)
      simp only [Act.put, List.setIfInBounds_toArray, List.set_cons_zero, List.set_cons_succ]
      refine tk_on (i := 9) (some 35) (v := ?_) (by kernel_rfl) (by kernel_rfl) (by kernel_rfl) (by kernel_rfl) (fun _ _ _ h => h) (by assumption) (fun o ho w' hSw => ?_) ?_
      rotate_left
      · (simp only [List.getElem?_toArray, List.getElem?_cons_succ, List.getElem?_cons_zero, Option.some.injEq] at ho; subst ho; (try dsimp only at hSw); go_simp; try with_reducible rfl)
      simp only [Act.put, List.setIfInBounds_toArray, List.set_cons_zero, List.set_cons_succ]
      refine tk_on (i := 10) (some 2) (v := ?_) (by kernel_rfl) (by kernel_rfl) (by kernel_rfl) (by kernel_rfl) (fun _ _ _ h => h) (by assumption) (fun o ho w' hSw => ?_) ?_
      rotate_left
      · (simp only [List.getElem?_toArray, List.getElem?_cons_succ, List.getElem?_cons_zero, Option.some.injEq] at ho; subst ho; (try dsimp only at hSw); go_simp; try with_reducible rfl)
      simp only [Act.put, List.setIfInBounds_toArray, List.set_cons_zero, List.set_cons_succ]
      refine wpAnyH_done (by kernel_rfl) ?_ _
      go_wp2_with fail
      go_ret
      exact ⟨ret_s HT.out, q0.trans (K2.mono (by simp))⟩
    | false =>
      have LH := Lib.hid L0
      clear L0
      have HP : prV (rpF 200 B.data.toList false) = [sT1, sT2, sL1, .string D, sC1, sC2] := by
        rw [← HD.out]
        unfold rpF
        rw [if_pos rfl]
        unfold clen
        rw [size_toList]
        rfl
      have HL : (rpF 200 B.data.toList false).length = 3 := by
        unfold rpF
        rw [if_pos rfl]
        rfl
      have HPP := Lib.hid HP
      have HLL := Lib.hid HL
      clear HP HL
      go_enter Tryz.func30, Tryz.ntmps30
      go_wp2_with (at_builtin; refine Hid.out ?_)
      refine Lib.hid ?_
      have hsz := Q0.size
      simp only [World.size_alloc] at hsz
      refine wpList_app_row rfl _ _ _ rfl (w.heap.size + 1) 106 i0 _ 2 32 Tryz.underlying62 hi hz0 hz1 hz2 rfl (by omega) _ 0 [] rfl ((World.ownsRow_nil _ _ _ _)) (.slice (some ⟨w.heap.size + 1, 0, none⟩) 1 1) (by rfl) 1 [sT1, sT2] (by have h := new_row2 (w.alloc (.cells #[.int .i64 200, .string B, .bool false] 23)) (sT1) (sT2); rwa [World.size_alloc] at h) (by simp [Value.oneCell']) (by omega) (by omega) (by simp <;> omega) ?_
      intro v1 w1 hown' hgrow
      have Q1 := (Q0.alloc (by first | omega | (simp; omega)) (.cells #[sT1, sT2] 106)).grown hgrow (by simp <;> omega) (fun k hk => by cases hk)
      have HO1 := Lib.hid hown'
      clear hown' hgrow hsz
      skip
      obtain ⟨y0, y1, y2, y3, y4, y5, y6⟩ := A0.out.ret2 (Nat.lt_succ_self _) Q1
      have Y := Lib.hid (y0)
      clear Y
      go_wp2_with fail
      refine (DH.out _).mono ?_
      rintro e wd ⟨rfl, hbd⟩
      have Qd := Q1.trans (hbd.mono (bz Q1))
      have HOd := Lib.hid (own_below HO1.out hbd)
      obtain ⟨y0, y1, y2, y3, y4, y5, y6⟩ := A0.out.ret2 (Nat.lt_succ_self _) Qd
      clear hbd
      go_wp2_with (at_builtin; refine Hid.out ?_)
      refine Lib.hid ?_
      have hsz := Qd.size
      simp only [World.size_alloc] at hsz
      refine wpList_app_row rfl _ _ _ rfl (w.heap.size + 1) 106 i0 _ 2 32 Tryz.underlying62 hi hz0 hz1 hz2 rfl (by omega) _ 1 [sT1, sT2] rfl (HOd.out.alloc _) (.slice (some ⟨wd.heap.size, 0, none⟩) 1 1) (by rfl) 1 [sL1, .string D] (by have h := new_row2 wd (sL1) (.string D); exact h) (by simp [Value.oneCell']) (by omega) (by omega) (by simp <;> omega) ?_
      intro v2 w2 hown' hgrow
      have Q2 := (Qd.alloc (by first | omega | (simp; omega)) (.cells #[sL1, .string D] 106)).grown hgrow (by simp <;> omega) (fun k hk => (HOd.out.lt k hk).1)
      have HO2 := Lib.hid hown'
      clear hown' hgrow hsz
      clear y0 y1 y2 y3 y4 y5 y6
      obtain ⟨y0, y1, y2, y3, y4, y5, y6⟩ := A0.out.ret2 (Nat.lt_succ_self _) Q2
      go_wp2_with (at_builtin; refine Hid.out ?_)
      refine Lib.hid ?_
      have hsz := Q2.size
      simp only [World.size_alloc] at hsz
      refine wpList_app_row rfl _ _ _ rfl (w.heap.size + 1) 106 i0 _ 2 32 Tryz.underlying62 hi hz0 hz1 hz2 rfl (by omega) _ 2 [sT1, sT2, sL1, .string D] rfl (HO2.out.alloc _) (.slice (some ⟨w2.heap.size, 0, none⟩) 1 1) (by rfl) 1 [sC1, sC2] (by have h := new_row2 w2 (sC1) (sC2); exact h) (by simp [Value.oneCell']) (by omega) (by omega) (by simp <;> omega) ?_
      intro v3 w3 hown' hgrow
      have Q3 := (Q2.alloc (by first | omega | (simp; omega)) (.cells #[sC1, sC2] 106)).grown hgrow (by simp <;> omega) (fun k hk => (HO2.out.lt k hk).1)
      have HO3 := Lib.hid hown'
      clear hown' hgrow hsz
      clear y0 y1 y2 y3 y4 y5 y6
      obtain ⟨y0, y1, y2, y3, y4, y5, y6⟩ := A0.out.ret2 (Nat.lt_succ_self _) Q3
      have HU0 : IsPairs v3 (rpF 200 B.data.toList false) w3 := by
        unfold IsPairs
        rw [HPP.out, HLL.out]
        exact own_row HO3.out
      have HU := Lib.hid (HU0.ret (Below.drew (Below.refl _ _)))
      have K0 := Q3.drew
      have M0 := (A0.out.ret2 (Nat.lt_succ_self _) Q3).ret (Below.drew (Below.refl _ _))
      clear HU0
      go_wp2_with fail
      refine wp_region_held_drew (S := fun w' => w'.cell? ⟨w.heap.size, 0, none⟩ = some (.int .i64 200) ∧ w'.cell? ⟨w.heap.size, 1, none⟩ = some (.string B)) (by kernel_rfl) ⟨M0.c0, M0.c1⟩ (fun hHeld => ?_)
      refine tk_on (i := 0) (some 26) (v := ?_) (by kernel_rfl) (by kernel_rfl) (by kernel_rfl) (by kernel_rfl) (fun _ _ _ h => h) (by assumption) (fun o ho w' hSw => ?_) ?_
      rotate_left
      · (simp only [List.getElem?_toArray, List.getElem?_cons_zero, Option.some.injEq] at ho; subst ho; (try dsimp only at hSw); go_simp; try with_reducible rfl)
      simp only [Act.put, List.setIfInBounds_toArray, List.set_cons_zero, List.set_cons_succ]
      refine tk_on (i := 1) (some 27) (v := ?_) (by kernel_rfl) (by kernel_rfl) (by kernel_rfl) (by kernel_rfl) (fun _ _ _ h => h) (by assumption) (fun o ho w' hSw => ?_) ?_
      rotate_left
      · (simp only [List.getElem?_toArray, List.getElem?_cons_succ, List.getElem?_cons_zero, Option.some.injEq] at ho; subst ho; (try dsimp only at hSw); go_simp; try with_reducible rfl)
      simp only [Act.put, List.setIfInBounds_toArray, List.set_cons_zero, List.set_cons_succ]
      refine tk_on (i := 3) (some 29) (v := ?_) (by kernel_rfl) (by kernel_rfl) (by kernel_rfl) (by kernel_rfl) (fun _ _ _ h => h) (by assumption) (fun o ho w' hSw => ?_) ?_
      rotate_left
      · (simp only [List.getElem?_toArray, List.getElem?_cons_succ, List.getElem?_cons_zero, Option.some.injEq] at ho; subst ho; (try dsimp only at hSw); go_simp; try with_reducible rfl)
      simp only [Act.put, List.setIfInBounds_toArray, List.set_cons_zero, List.set_cons_succ]
      refine tk_on (i := 7) (some 33) (v := ?_) (by kernel_rfl) (by kernel_rfl) (by kernel_rfl) (by kernel_rfl) (fun _ _ _ h => h) (by assumption) (fun o ho w' hSw => ?_) ?_
      rotate_left
      · (simp only [List.getElem?_toArray, List.getElem?_cons_succ, List.getElem?_cons_zero, Option.some.injEq] at ho; subst ho; (try dsimp only at hSw); go_simp; try with_reducible rfl)
      simp only [Act.put, List.setIfInBounds_toArray, List.set_cons_zero, List.set_cons_succ]
      refine tk_on (i := 8) (some 34) (v := ?_) (by kernel_rfl) (by kernel_rfl) (by kernel_rfl) (by kernel_rfl) (fun _ _ _ h => h) (by assumption) (fun o ho w' hSw => ?_) ?_
      rotate_left
      · (simp only [List.getElem?_toArray, List.getElem?_cons_succ, List.getElem?_cons_zero, Option.some.injEq] at ho; subst ho; (try dsimp only at hSw); go_simp; try with_reducible rfl)
      simp only [Act.put, List.setIfInBounds_toArray, List.set_cons_zero, List.set_cons_succ]
      refine tk_call (i := 2) (by kernel_rfl) (by kernel_rfl) (fun o ho K hK => ?_)
      simp only [List.getElem?_toArray, List.getElem?_cons_succ, List.getElem?_cons_zero, Option.some.injEq] at ho
      subst ho
      go_simp
      refine (FH.out _).mono ?_
      rintro e x1 ⟨rfl, hb⟩
      have K1 := K0.trans (hb.mono (bz K0))
      have M1 := M0.ret hb
      have HU2 := Lib.hid (HU.out.ret hb)
      clear hb
      go_simp
      clear hHeld
      refine hK.out _ _ ⟨M1.c0, M1.c1⟩ (fun hHeld => ?_)
      clear hK K
      refine tk_call (i := 4) (by kernel_rfl) (by kernel_rfl) (fun o ho K hK => ?_)
      simp only [List.getElem?_toArray, List.getElem?_cons_succ, List.getElem?_cons_zero, Option.some.injEq] at ho
      subst ho
      go_simp
      refine (LH.out _ _ HU2.out).mono ?_
      rintro e x2 ⟨rfl, hb⟩
      have K2 := K1.trans (hb.mono (bz K1))
      have M2 := M1.ret hb
      clear hb
      go_simp
      clear hHeld
      refine hK.out _ _ ⟨M2.c0, M2.c1⟩ (fun hHeld => ?_)
      clear hK K
      refine tk_on (i := 5) (some 31) (v := ?_) (by kernel_rfl) (by kernel_rfl) (by kernel_rfl) (by kernel_rfl) (fun _ _ _ h => h) (by assumption) (fun o ho w' hSw => ?_) ?_
      rotate_left
      · (simp only [List.getElem?_toArray, List.getElem?_cons_succ, List.getElem?_cons_zero, Option.some.injEq] at ho; subst ho; (try dsimp only at hSw); go_simp; try with_reducible rfl)
      simp only [Act.put, List.setIfInBounds_toArray, List.set_cons_zero, List.set_cons_succ]
      refine tk_on (i := 6) (some 32) (v := ?_) (by kernel_rfl) (by kernel_rfl) (by kernel_rfl) (by kernel_rfl) (fun _ _ _ h => h) (by assumption) (fun o ho w' hSw => ?_) ?_
      rotate_left
      · (simp only [List.getElem?_toArray, List.getElem?_cons_succ, List.getElem?_cons_zero, Option.some.injEq] at ho; subst ho; (try dsimp only at hSw); go_simp; try with_reducible rfl)
      simp only [Act.put, List.setIfInBounds_toArray, List.set_cons_zero, List.set_cons_succ]
      refine tk_on (i := 9) (some 35) (v := ?_) (by kernel_rfl) (by kernel_rfl) (by kernel_rfl) (by kernel_rfl) (fun _ _ _ h => h) (by assumption) (fun o ho w' hSw => ?_) ?_
      rotate_left
      · (simp only [List.getElem?_toArray, List.getElem?_cons_succ, List.getElem?_cons_zero, Option.some.injEq] at ho; subst ho; (try dsimp only at hSw); go_simp; try with_reducible rfl)
      simp only [Act.put, List.setIfInBounds_toArray, List.set_cons_zero, List.set_cons_succ]
      refine tk_on (i := 10) (some 2) (v := ?_) (by kernel_rfl) (by kernel_rfl) (by kernel_rfl) (by kernel_rfl) (fun _ _ _ h => h) (by assumption) (fun o ho w' hSw => ?_) ?_
      rotate_left
      · (simp only [List.getElem?_toArray, List.getElem?_cons_succ, List.getElem?_cons_zero, Option.some.injEq] at ho; subst ho; (try dsimp only at hSw); go_simp; try with_reducible rfl)
      simp only [Act.put, List.setIfInBounds_toArray, List.set_cons_zero, List.set_cons_succ]
      refine wpAnyH_done (by kernel_rfl) ?_ _
      go_wp2_with fail
      go_ret
      exact ⟨ret_s HT.out, q0.trans (K2.mono (by simp))⟩
  · cases k with
    | true =>
      have LH := Lib.hid L0
      clear L0
      have HP : prV (rpF n B.data.toList true) = [sL1, .string D] := by
        rw [← HD.out]
        unfold rpF
        rw [if_neg (by omega)]
        unfold clen
        rw [size_toList]
        rfl
      have HL : (rpF n B.data.toList true).length = 1 := by
        unfold rpF
        rw [if_neg (by omega)]
        rfl
      have HPP := Lib.hid HP
      have HLL := Lib.hid HL
      clear HP HL
      have g0 : (n == 200) = false := by rw [beq_eq_false_iff_ne]; omega
      go_enter Tryz.func30, Tryz.ntmps30
      go_wp2_with fail
      refine (DH.out _).mono ?_
      rintro e wd ⟨rfl, hbd⟩
      have Qd := Q0.trans (hbd.mono (bz Q0))
      obtain ⟨y0, y1, y2, y3, y4, y5, y6⟩ := A0.out.ret2 (Nat.lt_succ_self _) Qd
      clear hbd
      go_wp2_with (at_builtin; refine Hid.out ?_)
      refine Lib.hid ?_
      have hsz := Qd.size
      simp only [World.size_alloc] at hsz
      refine wpList_app_row rfl _ _ _ rfl (w.heap.size + 1) 106 i0 _ 2 32 Tryz.underlying62 hi hz0 hz1 hz2 rfl (by omega) _ 0 [] rfl ((World.ownsRow_nil _ _ _ _)) (.slice (some ⟨wd.heap.size, 0, none⟩) 1 1) (by rfl) 1 [sL1, .string D] (by have h := new_row2 wd (sL1) (.string D); exact h) (by simp [Value.oneCell']) (by omega) (by omega) (by simp <;> omega) ?_
      intro v1 w1 hown' hgrow
      have Q1 := (Qd.alloc (by first | omega | (simp; omega)) (.cells #[sL1, .string D] 106)).grown hgrow (by simp <;> omega) (fun k hk => by cases hk)
      have HO1 := Lib.hid hown'
      clear hown' hgrow hsz
      clear y0 y1 y2 y3 y4 y5 y6
      obtain ⟨y0, y1, y2, y3, y4, y5, y6⟩ := A0.out.ret2 (Nat.lt_succ_self _) Q1
      have HU0 : IsPairs v1 (rpF n B.data.toList true) w1 := by
        unfold IsPairs
        rw [HPP.out, HLL.out]
        exact own_row HO1.out
      have HU := Lib.hid (HU0.ret (Below.drew (Below.refl _ _)))
      have K0 := Q1.drew
      have M0 := (A0.out.ret2 (Nat.lt_succ_self _) Q1).ret (Below.drew (Below.refl _ _))
      clear HU0
      go_wp2_with fail
      refine wp_region_held_drew (S := fun w' => w'.cell? ⟨w.heap.size, 0, none⟩ = some (.int .i64 n) ∧ w'.cell? ⟨w.heap.size, 1, none⟩ = some (.string B)) (by kernel_rfl) ⟨M0.c0, M0.c1⟩ (fun hHeld => ?_)
      refine tk_on (i := 0) (some 26) (v := ?_) (by kernel_rfl) (by kernel_rfl) (by kernel_rfl) (by kernel_rfl) (fun _ _ _ h => h) (by assumption) (fun o ho w' hSw => ?_) ?_
      rotate_left
      · (simp only [List.getElem?_toArray, List.getElem?_cons_zero, Option.some.injEq] at ho; subst ho; (try dsimp only at hSw); go_simp; try with_reducible rfl)
      simp only [Act.put, List.setIfInBounds_toArray, List.set_cons_zero, List.set_cons_succ]
      refine tk_on (i := 1) (some 27) (v := ?_) (by kernel_rfl) (by kernel_rfl) (by kernel_rfl) (by kernel_rfl) (fun _ _ _ h => h) (by assumption) (fun o ho w' hSw => ?_) ?_
      rotate_left
      · (simp only [List.getElem?_toArray, List.getElem?_cons_succ, List.getElem?_cons_zero, Option.some.injEq] at ho; subst ho; (try dsimp only at hSw); go_simp; try with_reducible rfl)
      simp only [Act.put, List.setIfInBounds_toArray, List.set_cons_zero, List.set_cons_succ]
      refine tk_on (i := 3) (some 29) (v := ?_) (by kernel_rfl) (by kernel_rfl) (by kernel_rfl) (by kernel_rfl) (fun _ _ _ h => h) (by assumption) (fun o ho w' hSw => ?_) ?_
      rotate_left
      · (simp only [List.getElem?_toArray, List.getElem?_cons_succ, List.getElem?_cons_zero, Option.some.injEq] at ho; subst ho; (try dsimp only at hSw); go_simp; try with_reducible rfl)
      simp only [Act.put, List.setIfInBounds_toArray, List.set_cons_zero, List.set_cons_succ]
      refine tk_on (i := 7) (some 33) (v := ?_) (by kernel_rfl) (by kernel_rfl) (by kernel_rfl) (by kernel_rfl) (fun _ _ _ h => h) (by assumption) (fun o ho w' hSw => ?_) ?_
      rotate_left
      · (simp only [List.getElem?_toArray, List.getElem?_cons_succ, List.getElem?_cons_zero, Option.some.injEq] at ho; subst ho; (try dsimp only at hSw); go_simp; try with_reducible rfl)
      simp only [Act.put, List.setIfInBounds_toArray, List.set_cons_zero, List.set_cons_succ]
      refine tk_on (i := 8) (some 34) (v := ?_) (by kernel_rfl) (by kernel_rfl) (by kernel_rfl) (by kernel_rfl) (fun _ _ _ h => h) (by assumption) (fun o ho w' hSw => ?_) ?_
      rotate_left
      · (simp only [List.getElem?_toArray, List.getElem?_cons_succ, List.getElem?_cons_zero, Option.some.injEq] at ho; subst ho; (try dsimp only at hSw); go_simp; try with_reducible rfl)
      simp only [Act.put, List.setIfInBounds_toArray, List.set_cons_zero, List.set_cons_succ]
      refine tk_call (i := 2) (by kernel_rfl) (by kernel_rfl) (fun o ho K hK => ?_)
      simp only [List.getElem?_toArray, List.getElem?_cons_succ, List.getElem?_cons_zero, Option.some.injEq] at ho
      subst ho
      go_simp
      refine (FH.out _).mono ?_
      rintro e x1 ⟨rfl, hb⟩
      have K1 := K0.trans (hb.mono (bz K0))
      have M1 := M0.ret hb
      have HU2 := Lib.hid (HU.out.ret hb)
      clear hb
      go_simp
      clear hHeld
      refine hK.out _ _ ⟨M1.c0, M1.c1⟩ (fun hHeld => ?_)
      clear hK K
      refine tk_call (i := 4) (by kernel_rfl) (by kernel_rfl) (fun o ho K hK => ?_)
      simp only [List.getElem?_toArray, List.getElem?_cons_succ, List.getElem?_cons_zero, Option.some.injEq] at ho
      subst ho
      go_simp
      refine (LH.out _ _ HU2.out).mono ?_
      rintro e x2 ⟨rfl, hb⟩
      have K2 := K1.trans (hb.mono (bz K1))
      have M2 := M1.ret hb
      clear hb
      go_simp
      clear hHeld
      refine hK.out _ _ ⟨M2.c0, M2.c1⟩ (fun hHeld => ?_)
      clear hK K
      refine tk_on (i := 5) (some 31) (v := ?_) (by kernel_rfl) (by kernel_rfl) (by kernel_rfl) (by kernel_rfl) (fun _ _ _ h => h) (by assumption) (fun o ho w' hSw => ?_) ?_
      rotate_left
      · (simp only [List.getElem?_toArray, List.getElem?_cons_succ, List.getElem?_cons_zero, Option.some.injEq] at ho; subst ho; (try dsimp only at hSw); go_simp; try with_reducible rfl)
      simp only [Act.put, List.setIfInBounds_toArray, List.set_cons_zero, List.set_cons_succ]
      refine tk_on (i := 6) (some 32) (v := ?_) (by kernel_rfl) (by kernel_rfl) (by kernel_rfl) (by kernel_rfl) (fun _ _ _ h => h) (by assumption) (fun o ho w' hSw => ?_) ?_
      rotate_left
      · (simp only [List.getElem?_toArray, List.getElem?_cons_succ, List.getElem?_cons_zero, Option.some.injEq] at ho; subst ho; (try dsimp only at hSw); go_simp; try with_reducible rfl)
      simp only [Act.put, List.setIfInBounds_toArray, List.set_cons_zero, List.set_cons_succ]
      refine tk_on (i := 9) (some 35) (v := ?_) (by kernel_rfl) (by kernel_rfl) (by kernel_rfl) (by kernel_rfl) (fun _ _ _ h => h) (by assumption) (fun o ho w' hSw => ?_) ?_
      rotate_left
      · (simp only [List.getElem?_toArray, List.getElem?_cons_succ, List.getElem?_cons_zero, Option.some.injEq] at ho; subst ho; (try dsimp only at hSw); go_simp; try with_reducible rfl)
      simp only [Act.put, List.setIfInBounds_toArray, List.set_cons_zero, List.set_cons_succ]
      refine tk_on (i := 10) (some 2) (v := ?_) (by kernel_rfl) (by kernel_rfl) (by kernel_rfl) (by kernel_rfl) (fun _ _ _ h => h) (by assumption) (fun o ho w' hSw => ?_) ?_
      rotate_left
      · (simp only [List.getElem?_toArray, List.getElem?_cons_succ, List.getElem?_cons_zero, Option.some.injEq] at ho; subst ho; (try dsimp only at hSw); go_simp; try with_reducible rfl)
      simp only [Act.put, List.setIfInBounds_toArray, List.set_cons_zero, List.set_cons_succ]
      refine wpAnyH_done (by kernel_rfl) ?_ _
      go_wp2_with fail
      go_ret
      exact ⟨ret_s HT.out, q0.trans (K2.mono (by simp))⟩
    | false =>
      have LH := Lib.hid L0
      clear L0
      have HP : prV (rpF n B.data.toList false) = [sL1, .string D, sC1, sC2] := by
        rw [← HD.out]
        unfold rpF
        rw [if_neg (by omega)]
        unfold clen
        rw [size_toList]
        rfl
      have HL : (rpF n B.data.toList false).length = 2 := by
        unfold rpF
        rw [if_neg (by omega)]
        rfl
      have HPP := Lib.hid HP
      have HLL := Lib.hid HL
      clear HP HL
      have g0 : (n == 200) = false := by rw [beq_eq_false_iff_ne]; omega
      go_enter Tryz.func30, Tryz.ntmps30
      go_wp2_with fail
      refine (DH.out _).mono ?_
      rintro e wd ⟨rfl, hbd⟩
      have Qd := Q0.trans (hbd.mono (bz Q0))
      obtain ⟨y0, y1, y2, y3, y4, y5, y6⟩ := A0.out.ret2 (Nat.lt_succ_self _) Qd
      clear hbd
      go_wp2_with (at_builtin; refine Hid.out ?_)
      refine Lib.hid ?_
      have hsz := Qd.size
      simp only [World.size_alloc] at hsz
      refine wpList_app_row rfl _ _ _ rfl (w.heap.size + 1) 106 i0 _ 2 32 Tryz.underlying62 hi hz0 hz1 hz2 rfl (by omega) _ 0 [] rfl ((World.ownsRow_nil _ _ _ _)) (.slice (some ⟨wd.heap.size, 0, none⟩) 1 1) (by rfl) 1 [sL1, .string D] (by have h := new_row2 wd (sL1) (.string D); exact h) (by simp [Value.oneCell']) (by omega) (by omega) (by simp <;> omega) ?_
      intro v1 w1 hown' hgrow
      have Q1 := (Qd.alloc (by first | omega | (simp; omega)) (.cells #[sL1, .string D] 106)).grown hgrow (by simp <;> omega) (fun k hk => by cases hk)
      have HO1 := Lib.hid hown'
      clear hown' hgrow hsz
      clear y0 y1 y2 y3 y4 y5 y6
      obtain ⟨y0, y1, y2, y3, y4, y5, y6⟩ := A0.out.ret2 (Nat.lt_succ_self _) Q1
      go_wp2_with (at_builtin; refine Hid.out ?_)
      refine Lib.hid ?_
      have hsz := Q1.size
      simp only [World.size_alloc] at hsz
      refine wpList_app_row rfl _ _ _ rfl (w.heap.size + 1) 106 i0 _ 2 32 Tryz.underlying62 hi hz0 hz1 hz2 rfl (by omega) _ 1 [sL1, .string D] rfl (HO1.out.alloc _) (.slice (some ⟨w1.heap.size, 0, none⟩) 1 1) (by rfl) 1 [sC1, sC2] (by have h := new_row2 w1 (sC1) (sC2); exact h) (by simp [Value.oneCell']) (by omega) (by omega) (by simp <;> omega) ?_
      intro v2 w2 hown' hgrow
      have Q2 := (Q1.alloc (by first | omega | (simp; omega)) (.cells #[sC1, sC2] 106)).grown hgrow (by simp <;> omega) (fun k hk => (HO1.out.lt k hk).1)
      have HO2 := Lib.hid hown'
      clear hown' hgrow hsz
      clear y0 y1 y2 y3 y4 y5 y6
      obtain ⟨y0, y1, y2, y3, y4, y5, y6⟩ := A0.out.ret2 (Nat.lt_succ_self _) Q2
      have HU0 : IsPairs v2 (rpF n B.data.toList false) w2 := by
        unfold IsPairs
        rw [HPP.out, HLL.out]
        exact own_row HO2.out
      have HU := Lib.hid (HU0.ret (Below.drew (Below.refl _ _)))
      have K0 := Q2.drew
      have M0 := (A0.out.ret2 (Nat.lt_succ_self _) Q2).ret (Below.drew (Below.refl _ _))
      clear HU0
      go_wp2_with fail
      refine wp_region_held_drew (S := fun w' => w'.cell? ⟨w.heap.size, 0, none⟩ = some (.int .i64 n) ∧ w'.cell? ⟨w.heap.size, 1, none⟩ = some (.string B)) (by kernel_rfl) ⟨M0.c0, M0.c1⟩ (fun hHeld => ?_)
      refine tk_on (i := 0) (some 26) (v := ?_) (by kernel_rfl) (by kernel_rfl) (by kernel_rfl) (by kernel_rfl) (fun _ _ _ h => h) (by assumption) (fun o ho w' hSw => ?_) ?_
      rotate_left
      · (simp only [List.getElem?_toArray, List.getElem?_cons_zero, Option.some.injEq] at ho; subst ho; (try dsimp only at hSw); go_simp; try with_reducible rfl)
      simp only [Act.put, List.setIfInBounds_toArray, List.set_cons_zero, List.set_cons_succ]
      refine tk_on (i := 1) (some 27) (v := ?_) (by kernel_rfl) (by kernel_rfl) (by kernel_rfl) (by kernel_rfl) (fun _ _ _ h => h) (by assumption) (fun o ho w' hSw => ?_) ?_
      rotate_left
      · (simp only [List.getElem?_toArray, List.getElem?_cons_succ, List.getElem?_cons_zero, Option.some.injEq] at ho; subst ho; (try dsimp only at hSw); go_simp; try with_reducible rfl)
      simp only [Act.put, List.setIfInBounds_toArray, List.set_cons_zero, List.set_cons_succ]
      refine tk_on (i := 3) (some 29) (v := ?_) (by kernel_rfl) (by kernel_rfl) (by kernel_rfl) (by kernel_rfl) (fun _ _ _ h => h) (by assumption) (fun o ho w' hSw => ?_) ?_
      rotate_left
      · (simp only [List.getElem?_toArray, List.getElem?_cons_succ, List.getElem?_cons_zero, Option.some.injEq] at ho; subst ho; (try dsimp only at hSw); go_simp; try with_reducible rfl)
      simp only [Act.put, List.setIfInBounds_toArray, List.set_cons_zero, List.set_cons_succ]
      refine tk_on (i := 7) (some 33) (v := ?_) (by kernel_rfl) (by kernel_rfl) (by kernel_rfl) (by kernel_rfl) (fun _ _ _ h => h) (by assumption) (fun o ho w' hSw => ?_) ?_
      rotate_left
      · (simp only [List.getElem?_toArray, List.getElem?_cons_succ, List.getElem?_cons_zero, Option.some.injEq] at ho; subst ho; (try dsimp only at hSw); go_simp; try with_reducible rfl)
      simp only [Act.put, List.setIfInBounds_toArray, List.set_cons_zero, List.set_cons_succ]
      refine tk_on (i := 8) (some 34) (v := ?_) (by kernel_rfl) (by kernel_rfl) (by kernel_rfl) (by kernel_rfl) (fun _ _ _ h => h) (by assumption) (fun o ho w' hSw => ?_) ?_
      rotate_left
      · (simp only [List.getElem?_toArray, List.getElem?_cons_succ, List.getElem?_cons_zero, Option.some.injEq] at ho; subst ho; (try dsimp only at hSw); go_simp; try with_reducible rfl)
      simp only [Act.put, List.setIfInBounds_toArray, List.set_cons_zero, List.set_cons_succ]
      refine tk_call (i := 2) (by kernel_rfl) (by kernel_rfl) (fun o ho K hK => ?_)
      simp only [List.getElem?_toArray, List.getElem?_cons_succ, List.getElem?_cons_zero, Option.some.injEq] at ho
      subst ho
      go_simp
      refine (FH.out _).mono ?_
      rintro e x1 ⟨rfl, hb⟩
      have K1 := K0.trans (hb.mono (bz K0))
      have M1 := M0.ret hb
      have HU2 := Lib.hid (HU.out.ret hb)
      clear hb
      go_simp
      clear hHeld
      refine hK.out _ _ ⟨M1.c0, M1.c1⟩ (fun hHeld => ?_)
      clear hK K
      refine tk_call (i := 4) (by kernel_rfl) (by kernel_rfl) (fun o ho K hK => ?_)
      simp only [List.getElem?_toArray, List.getElem?_cons_succ, List.getElem?_cons_zero, Option.some.injEq] at ho
      subst ho
      go_simp
      refine (LH.out _ _ HU2.out).mono ?_
      rintro e x2 ⟨rfl, hb⟩
      have K2 := K1.trans (hb.mono (bz K1))
      have M2 := M1.ret hb
      clear hb
      go_simp
      clear hHeld
      refine hK.out _ _ ⟨M2.c0, M2.c1⟩ (fun hHeld => ?_)
      clear hK K
      refine tk_on (i := 5) (some 31) (v := ?_) (by kernel_rfl) (by kernel_rfl) (by kernel_rfl) (by kernel_rfl) (fun _ _ _ h => h) (by assumption) (fun o ho w' hSw => ?_) ?_
      rotate_left
      · (simp only [List.getElem?_toArray, List.getElem?_cons_succ, List.getElem?_cons_zero, Option.some.injEq] at ho; subst ho; (try dsimp only at hSw); go_simp; try with_reducible rfl)
      simp only [Act.put, List.setIfInBounds_toArray, List.set_cons_zero, List.set_cons_succ]
      refine tk_on (i := 6) (some 32) (v := ?_) (by kernel_rfl) (by kernel_rfl) (by kernel_rfl) (by kernel_rfl) (fun _ _ _ h => h) (by assumption) (fun o ho w' hSw => ?_) ?_
      rotate_left
      · (simp only [List.getElem?_toArray, List.getElem?_cons_succ, List.getElem?_cons_zero, Option.some.injEq] at ho; subst ho; (try dsimp only at hSw); go_simp; try with_reducible rfl)
      simp only [Act.put, List.setIfInBounds_toArray, List.set_cons_zero, List.set_cons_succ]
      refine tk_on (i := 9) (some 35) (v := ?_) (by kernel_rfl) (by kernel_rfl) (by kernel_rfl) (by kernel_rfl) (fun _ _ _ h => h) (by assumption) (fun o ho w' hSw => ?_) ?_
      rotate_left
      · (simp only [List.getElem?_toArray, List.getElem?_cons_succ, List.getElem?_cons_zero, Option.some.injEq] at ho; subst ho; (try dsimp only at hSw); go_simp; try with_reducible rfl)
      simp only [Act.put, List.setIfInBounds_toArray, List.set_cons_zero, List.set_cons_succ]
      refine tk_on (i := 10) (some 2) (v := ?_) (by kernel_rfl) (by kernel_rfl) (by kernel_rfl) (by kernel_rfl) (fun _ _ _ h => h) (by assumption) (fun o ho w' hSw => ?_) ?_
      rotate_left
      · (simp only [List.getElem?_toArray, List.getElem?_cons_succ, List.getElem?_cons_zero, Option.some.injEq] at ho; subst ho; (try dsimp only at hSw); go_simp; try with_reducible rfl)
      simp only [Act.put, List.setIfInBounds_toArray, List.set_cons_zero, List.set_cons_succ]
      refine wpAnyH_done (by kernel_rfl) ?_ _
      go_wp2_with fail
      go_ret
      exact ⟨ret_s HT.out, q0.trans (K2.mono (by simp))⟩
end Go.Proofs.YthgmgmbjjjnhnaaGreatDoor
