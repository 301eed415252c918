/- WireTells' walk. PRINTED BY PROGRAM (gen_wit.py). -/
import Derived.Test.YthgmgmbjjjnhnaaGreatDoorWiFd
import Derived.Test.YthgmgmbjjjnhnaaGreatDoorGh
namespace Go.Proofs.YthgmgmbjjjnhnaaGreatDoor
open Go.RowKit

set_option maxHeartbeats 16000000 in
set_option maxRecDepth 100000 in
theorem tells17 (X D : ByteArray) (off : Bool) (w : World) (zX : X.size ≤ 9223372036854775807) (zD : D.size ≤ 9223372036854775807) (hm : ML w) : Calls Tryz.prog 5 #[.agg #[.string X, .bool off], .string D] w (Ret w (.bool true)) := by
  have q0 := (Below.refl w.heap.size w).alloc (Nat.le_refl _) (.cells #[.string X, .bool off] 44)
  have W := Lib.hid (WrAt.new w (.string X) (.bool off))
  have HM := Lib.hid hm
  obtain ⟨m, m0, m1, m2, m3⟩ := W.out
  clear hm
  by_cases b1 : 20000 < X.size
  · have e1 : decide ((20000 : Int) < X.size) = true := decide_eq_true (by omega)
    clear b1
    go_enter Tryz.func5, Tryz.ntmps5
    go_wp2_with fail
    go_ret
    exact ⟨rfl, q0⟩
  have e1 : decide ((20000 : Int) < X.size) = false := decide_eq_false (by omega)
  by_cases b2 : 20000 < D.size
  · have e2 : decide ((20000 : Int) < D.size) = true := decide_eq_true (by omega)
    clear b1 b2
    go_enter Tryz.func5, Tryz.ntmps5
    go_wp2_with fail
    go_ret
    exact ⟨rfl, q0⟩
  have e2 : decide ((20000 : Int) < D.size) = false := decide_eq_false (by omega)
  have O0 := fun w hm => wi_One D w (by omega) hm
  have P0 := fun w => r17_One D w (by omega)
  obtain ⟨⟨a1, x2, x3, a4⟩, n, hv⟩ := oneV_formM D.data.toList
  obtain ⟨is, his⟩ : ∃ b, wiM D.data.toList = b := ⟨_, rfl⟩
  rw [his] at hv
  rw [hv] at O0 P0
  simp only [cmV] at O0 P0
  obtain ⟨A2, hA2⟩ : ∃ Y : ByteArray, ⟨x2.toArray⟩ = Y := ⟨_, rfl⟩
  obtain ⟨A3, hA3⟩ : ∃ Y : ByteArray, ⟨x3.toArray⟩ = Y := ⟨_, rfl⟩
  rw [hA2, hA3] at O0 P0
  have F0 := fun w hm => wi_Feed X D off w (by omega) hm
  have G0 := fun w => r17_Feed X D off w (by omega) (by omega)
  have hlen := fdT_len (X := X.data.toList) (D := D.data.toList) (off := off)
  obtain ⟨⟨⟨o1, o2⟩, l, er⟩, hT⟩ : ∃ t, fdT X.data.toList off D.data.toList = t := ⟨_, rfl⟩
  rw [hT] at F0 G0 hlen
  unfold FdIs at F0 G0
  simp only at F0 G0 hlen
  obtain ⟨OO, hOO⟩ : ∃ Y : ByteArray, ⟨o1.toArray⟩ = Y := ⟨_, rfl⟩
  rw [hOO] at F0 G0
  rw [size_toList, size_toList] at hlen
  have zl : l.length ≤ 1000000 := by omega
  have C0 := fun w hm => wi_Check X off w (by omega) hm
  have D0 := fun w => r17_Check X off w (by omega)
  obtain ⟨ck, hck⟩ : ∃ c, wiCk X.data.toList off = c := ⟨_, rfl⟩
  rw [hck] at C0 D0
  have OH := Lib.hid O0
  have PH := Lib.hid P0
  have FH := Lib.hid F0
  have GH := Lib.hid G0
  have CK := Lib.hid C0
  have DK := Lib.hid D0
  clear O0 P0 F0 G0 C0 D0 hv his hA2 hA3 hT hOO hck hlen b1 b2
  go_enter Tryz.func5, Tryz.ntmps5
  go_wp2_with fail
  refine (OH.out _ (HM.out.ret q0)).mono ?_
  rintro e w1 ⟨rfl, hb⟩
  have q1 := q0.trans (hb.mono q0.size)
  have al := (Below.refl w1.heap.size w1).alloc (Nat.le_refl _) (.cells #[.int .i64 a1, .string A2, .string A3, .bool a4] 40)
  have bb := hb.trans (al.mono hb.size)
  have q2 := q0.trans (bb.mono q0.size)
  have W := Lib.hid (W.out.ret' bb)
  have A := Lib.hid (CmAt.new w1 (.int .i64 a1) (.string A2) (.string A3) (.bool a4))
  clear hb al bb
  go_wp2_with fail
  refine (PH.out _).mono ?_
  rintro e w3 ⟨rfl, hb⟩
  have q3 := q2.trans (hb.mono q2.size)
  have al := (Below.refl w3.heap.size w3).alloc (Nat.le_refl _) (.cells #[.int .i64 a1, .string A2, .string A3, .bool a4] 40)
  have bb := hb.trans (al.mono hb.size)
  have q4 := q2.trans (bb.mono q2.size)
  have W := Lib.hid (W.out.ret' bb)
  have A := Lib.hid (A.out.ret' bb)
  have B := Lib.hid (CmAt.new w3 (.int .i64 a1) (.string A2) (.string A3) (.bool a4))
  clear hb al bb
  clear m m0 m1 m2 m3
  obtain ⟨m, m0, m1, m2, m3⟩ := W.out
  go_wp2_with fail
  refine (FH.out _ (HM.out.ret q4)).mono ?_
  rintro e w5 ⟨v1, rfl, hv, hb⟩
  have q5 := q4.trans (hb.mono q4.size)
  have al := (Below.refl w5.heap.size w5).alloc (Nat.le_refl _) (.cells #[.string OO, .bool o2] 44)
  have bb := hb.trans (al.mono hb.size)
  have q6 := q4.trans (bb.mono q4.size)
  have W := Lib.hid (W.out.ret' bb)
  have A := Lib.hid (A.out.ret' bb)
  have B := Lib.hid (B.out.ret' bb)
  have P := Lib.hid (WrAt.new w5 (.string OO) (.bool o2))
  have V := Lib.hid (IsCames.ret hv al)
  clear hb al bb hv
  clear m m0 m1 m2 m3
  obtain ⟨m, m0, m1, m2, m3⟩ := W.out
  go_wp2_with fail
  refine (GH.out _).mono ?_
  rintro e w7 ⟨v2, rfl, hv, hb⟩
  have q7 := q6.trans (hb.mono q6.size)
  have al := (Below.refl w7.heap.size w7).alloc (Nat.le_refl _) (.cells #[.string OO, .bool o2] 44)
  have bb := hb.trans (al.mono hb.size)
  have q8 := q6.trans (bb.mono q6.size)
  have W := Lib.hid (W.out.ret' bb)
  have A := Lib.hid (A.out.ret' bb)
  have B := Lib.hid (B.out.ret' bb)
  have P := Lib.hid (P.out.ret' bb)
  have V := Lib.hid (V.out.ret bb)
  have Q := Lib.hid (WrAt.new w7 (.string OO) (.bool o2))
  have U := Lib.hid (IsCames.ret hv al)
  clear hb al bb hv
  go_wp2_with fail
  have dr := Below.drew (Below.refl (w7.alloc (.cells #[.string OO, .bool o2] 44)).heap.size (w7.alloc (.cells #[.string OO, .bool o2] 44)))
  have K0 := q8.drew
  have W0 := W.out.ret' dr
  have A0 := A.out.ret' dr
  have B0 := B.out.ret' dr
  have P0 := P.out.ret' dr
  have Q0 := Q.out.ret' dr
  have V0 := Lib.hid (V.out.ret dr)
  have U0 := Lib.hid (U.out.ret dr)
  refine wp_region_held_drew (S := fun w' => w'.cell? ⟨w.heap.size, 0, none⟩ = some (.string X) ∧ w'.cell? ⟨w.heap.size, 1, none⟩ = some (.bool off) ∧ w'.cell? ⟨w1.heap.size, 0, none⟩ = some (.int .i64 a1) ∧ w'.cell? ⟨w1.heap.size, 1, none⟩ = some (.string A2) ∧ w'.cell? ⟨w1.heap.size, 2, none⟩ = some (.string A3) ∧ w'.cell? ⟨w1.heap.size, 3, none⟩ = some (.bool a4) ∧ w'.cell? ⟨w3.heap.size, 0, none⟩ = some (.int .i64 a1) ∧ w'.cell? ⟨w3.heap.size, 1, none⟩ = some (.string A2) ∧ w'.cell? ⟨w3.heap.size, 2, none⟩ = some (.string A3) ∧ w'.cell? ⟨w3.heap.size, 3, none⟩ = some (.bool a4) ∧ w'.cell? ⟨w5.heap.size, 0, none⟩ = some (.string OO) ∧ w'.cell? ⟨w5.heap.size, 1, none⟩ = some (.bool o2) ∧ w'.cell? ⟨w7.heap.size, 0, none⟩ = some (.string OO) ∧ w'.cell? ⟨w7.heap.size, 1, none⟩ = some (.bool o2)) (by kernel_rfl) ⟨W0.c0, W0.c1, A0.c0, A0.c1, A0.c2, A0.c3, B0.c0, B0.c1, B0.c2, B0.c3, P0.c0, P0.c1, Q0.c0, Q0.c1⟩ (fun hHeld => ?_)
  refine tk_on (i := 0) (some 52) (v := ?_) (by kernel_rfl) (by kernel_rfl) (by kernel_rfl) (by kernel_rfl) (fun _ _ _ h => h) (by assumption) (fun o ho w' hSw => ?_) ?_
  rotate_left
  · (simp only [List.getElem?_toArray, List.getElem?_cons_zero, Option.some.injEq] at ho; subst ho; (try dsimp only at hSw); go_simp; try with_reducible rfl)
  simp only [Act.put, List.setIfInBounds_toArray, List.set_cons_zero, List.set_cons_succ]
  refine tk_on (i := 1) (some 53) (v := ?_) (by kernel_rfl) (by kernel_rfl) (by kernel_rfl) (by kernel_rfl) (fun _ _ _ h => h) (by assumption) (fun o ho w' hSw => ?_) ?_
  rotate_left
  · (simp only [List.getElem?_toArray, List.getElem?_cons_succ, List.getElem?_cons_zero, Option.some.injEq] at ho; subst ho; (try dsimp only at hSw); go_simp; try with_reducible rfl)
  simp only [Act.put, List.setIfInBounds_toArray, List.set_cons_zero, List.set_cons_succ]
  refine tk_on (i := 2) (some 54) (v := ?_) (by kernel_rfl) (by kernel_rfl) (by kernel_rfl) (by kernel_rfl) (fun _ _ _ h => h) (by assumption) (fun o ho w' hSw => ?_) ?_
  rotate_left
  · (simp only [List.getElem?_toArray, List.getElem?_cons_succ, List.getElem?_cons_zero, Option.some.injEq] at ho; subst ho; (try dsimp only at hSw); go_simp; try with_reducible rfl)
  simp only [Act.put, List.setIfInBounds_toArray, List.set_cons_zero, List.set_cons_succ]
  refine tk_on (i := 3) (some 55) (v := ?_) (by kernel_rfl) (by kernel_rfl) (by kernel_rfl) (by kernel_rfl) (fun _ _ _ h => h) (by assumption) (fun o ho w' hSw => ?_) ?_
  rotate_left
  · (simp only [List.getElem?_toArray, List.getElem?_cons_succ, List.getElem?_cons_zero, Option.some.injEq] at ho; subst ho; (try dsimp only at hSw); go_simp; try with_reducible rfl)
  simp only [Act.put, List.setIfInBounds_toArray, List.set_cons_zero, List.set_cons_succ]
  refine tk_on (i := 4) (some 56) (v := ?_) (by kernel_rfl) (by kernel_rfl) (by kernel_rfl) (by kernel_rfl) (fun _ _ _ h => h) (by assumption) (fun o ho w' hSw => ?_) ?_
  rotate_left
  · (simp only [List.getElem?_toArray, List.getElem?_cons_succ, List.getElem?_cons_zero, Option.some.injEq] at ho; subst ho; (try dsimp only at hSw); go_simp; try with_reducible rfl)
  simp only [Act.put, List.setIfInBounds_toArray, List.set_cons_zero, List.set_cons_succ]
  refine tk_on (i := 5) (some 57) (v := ?_) (by kernel_rfl) (by kernel_rfl) (by kernel_rfl) (by kernel_rfl) (fun _ _ _ h => h) (by assumption) (fun o ho w' hSw => ?_) ?_
  rotate_left
  · (simp only [List.getElem?_toArray, List.getElem?_cons_succ, List.getElem?_cons_zero, Option.some.injEq] at ho; subst ho; (try dsimp only at hSw); go_simp; try with_reducible rfl)
  simp only [Act.put, List.setIfInBounds_toArray, List.set_cons_zero, List.set_cons_succ]
  refine tk_on (i := 6) (some 58) (v := ?_) (by kernel_rfl) (by kernel_rfl) (by kernel_rfl) (by kernel_rfl) (fun _ _ _ h => h) (by assumption) (fun o ho w' hSw => ?_) ?_
  rotate_left
  · (simp only [List.getElem?_toArray, List.getElem?_cons_succ, List.getElem?_cons_zero, Option.some.injEq] at ho; subst ho; (try dsimp only at hSw); go_simp; try with_reducible rfl)
  simp only [Act.put, List.setIfInBounds_toArray, List.set_cons_zero, List.set_cons_succ]
  refine tk_on (i := 7) (some 59) (v := ?_) (by kernel_rfl) (by kernel_rfl) (by kernel_rfl) (by kernel_rfl) (fun _ _ _ h => h) (by assumption) (fun o ho w' hSw => ?_) ?_
  rotate_left
  · (simp only [List.getElem?_toArray, List.getElem?_cons_succ, List.getElem?_cons_zero, Option.some.injEq] at ho; subst ho; (try dsimp only at hSw); go_simp; try with_reducible rfl)
  simp only [Act.put, List.setIfInBounds_toArray, List.set_cons_zero, List.set_cons_succ]
  refine tk_on (i := 8) (some 60) (v := ?_) (by kernel_rfl) (by kernel_rfl) (by kernel_rfl) (by kernel_rfl) (fun _ _ _ h => h) (by assumption) (fun o ho w' hSw => ?_) ?_
  rotate_left
  · (simp only [List.getElem?_toArray, List.getElem?_cons_succ, List.getElem?_cons_zero, Option.some.injEq] at ho; subst ho; (try dsimp only at hSw); go_simp; try with_reducible rfl)
  simp only [Act.put, List.setIfInBounds_toArray, List.set_cons_zero, List.set_cons_succ]
  refine tk_on (i := 9) (some 61) (v := ?_) (by kernel_rfl) (by kernel_rfl) (by kernel_rfl) (by kernel_rfl) (fun _ _ _ h => h) (by assumption) (fun o ho w' hSw => ?_) ?_
  rotate_left
  · (simp only [List.getElem?_toArray, List.getElem?_cons_succ, List.getElem?_cons_zero, Option.some.injEq] at ho; subst ho; (try dsimp only at hSw); go_simp; try with_reducible rfl)
  simp only [Act.put, List.setIfInBounds_toArray, List.set_cons_zero, List.set_cons_succ]
  refine tk_on (i := 10) (some 62) (v := ?_) (by kernel_rfl) (by kernel_rfl) (by kernel_rfl) (by kernel_rfl) (fun _ _ _ h => h) (by assumption) (fun o ho w' hSw => ?_) ?_
  rotate_left
  · (simp only [List.getElem?_toArray, List.getElem?_cons_succ, List.getElem?_cons_zero, Option.some.injEq] at ho; subst ho; (try dsimp only at hSw); go_simp; try with_reducible rfl)
  simp only [Act.put, List.setIfInBounds_toArray, List.set_cons_zero, List.set_cons_succ]
  refine tk_on (i := 11) (some 63) (v := ?_) (by kernel_rfl) (by kernel_rfl) (by kernel_rfl) (by kernel_rfl) (fun _ _ _ h => h) (by assumption) (fun o ho w' hSw => ?_) ?_
  rotate_left
  · (simp only [List.getElem?_toArray, List.getElem?_cons_succ, List.getElem?_cons_zero, Option.some.injEq] at ho; subst ho; (try dsimp only at hSw); go_simp; try with_reducible rfl)
  simp only [Act.put, List.setIfInBounds_toArray, List.set_cons_zero, List.set_cons_succ]
  refine tk_on (i := 12) (some 64) (v := ?_) (by kernel_rfl) (by kernel_rfl) (by kernel_rfl) (by kernel_rfl) (fun _ _ _ h => h) (by assumption) (fun o ho w' hSw => ?_) ?_
  rotate_left
  · (simp only [List.getElem?_toArray, List.getElem?_cons_succ, List.getElem?_cons_zero, Option.some.injEq] at ho; subst ho; (try dsimp only at hSw); go_simp; try with_reducible rfl)
  simp only [Act.put, List.setIfInBounds_toArray, List.set_cons_zero, List.set_cons_succ]
  refine tk_on (i := 13) (some 65) (v := ?_) (by kernel_rfl) (by kernel_rfl) (by kernel_rfl) (by kernel_rfl) (fun _ _ _ h => h) (by assumption) (fun o ho w' hSw => ?_) ?_
  rotate_left
  · (simp only [List.getElem?_toArray, List.getElem?_cons_succ, List.getElem?_cons_zero, Option.some.injEq] at ho; subst ho; (try dsimp only at hSw); go_simp; try with_reducible rfl)
  simp only [Act.put, List.setIfInBounds_toArray, List.set_cons_zero, List.set_cons_succ]
  refine tk_on (i := 14) (some 66) (v := ?_) (by kernel_rfl) (by kernel_rfl) (by kernel_rfl) (by kernel_rfl) (fun _ _ _ h => h) (by assumption) (fun o ho w' hSw => ?_) ?_
  rotate_left
  · (simp only [List.getElem?_toArray, List.getElem?_cons_succ, List.getElem?_cons_zero, Option.some.injEq] at ho; subst ho; (try dsimp only at hSw); go_simp; try with_reducible rfl)
  simp only [Act.put, List.setIfInBounds_toArray, List.set_cons_zero, List.set_cons_succ]
  refine tk_on (i := 15) (some 67) (v := ?_) (by kernel_rfl) (by kernel_rfl) (by kernel_rfl) (by kernel_rfl) (fun _ _ _ h => h) (by assumption) (fun o ho w' hSw => ?_) ?_
  rotate_left
  · (simp only [List.getElem?_toArray, List.getElem?_cons_succ, List.getElem?_cons_zero, Option.some.injEq] at ho; subst ho; (try dsimp only at hSw); go_simp; try with_reducible rfl)
  simp only [Act.put, List.setIfInBounds_toArray, List.set_cons_zero, List.set_cons_succ]
  refine tk_on (i := 16) (some 68) (v := ?_) (by kernel_rfl) (by kernel_rfl) (by kernel_rfl) (by kernel_rfl) (fun _ _ _ h => h) (by assumption) (fun o ho w' hSw => ?_) ?_
  rotate_left
  · (simp only [List.getElem?_toArray, List.getElem?_cons_succ, List.getElem?_cons_zero, Option.some.injEq] at ho; subst ho; (try dsimp only at hSw); go_simp; try with_reducible rfl)
  simp only [Act.put, List.setIfInBounds_toArray, List.set_cons_zero, List.set_cons_succ]
  refine tk_on (i := 17) (some 69) (v := ?_) (by kernel_rfl) (by kernel_rfl) (by kernel_rfl) (by kernel_rfl) (fun _ _ _ h => h) (by assumption) (fun o ho w' hSw => ?_) ?_
  rotate_left
  · (simp only [List.getElem?_toArray, List.getElem?_cons_succ, List.getElem?_cons_zero, Option.some.injEq] at ho; subst ho; (try dsimp only at hSw); go_simp; try with_reducible rfl)
  simp only [Act.put, List.setIfInBounds_toArray, List.set_cons_zero, List.set_cons_succ]
  refine tk_on (i := 18) (some 70) (v := ?_) (by kernel_rfl) (by kernel_rfl) (by kernel_rfl) (by kernel_rfl) (fun _ _ _ h => h) (by assumption) (fun o ho w' hSw => ?_) ?_
  rotate_left
  · (simp only [List.getElem?_toArray, List.getElem?_cons_succ, List.getElem?_cons_zero, Option.some.injEq] at ho; subst ho; (try dsimp only at hSw); go_simp; try with_reducible rfl)
  simp only [Act.put, List.setIfInBounds_toArray, List.set_cons_zero, List.set_cons_succ]
  refine tk_on (i := 19) (some 71) (v := ?_) (by kernel_rfl) (by kernel_rfl) (by kernel_rfl) (by kernel_rfl) (fun _ _ _ h => h) (by assumption) (fun o ho w' hSw => ?_) ?_
  rotate_left
  · (simp only [List.getElem?_toArray, List.getElem?_cons_succ, List.getElem?_cons_zero, Option.some.injEq] at ho; subst ho; (try dsimp only at hSw); go_simp; try with_reducible rfl)
  simp only [Act.put, List.setIfInBounds_toArray, List.set_cons_zero, List.set_cons_succ]
  refine tk_on (i := 20) (some 72) (v := ?_) (by kernel_rfl) (by kernel_rfl) (by kernel_rfl) (by kernel_rfl) (fun _ _ _ h => h) (by assumption) (fun o ho w' hSw => ?_) ?_
  rotate_left
  · (simp only [List.getElem?_toArray, List.getElem?_cons_succ, List.getElem?_cons_zero, Option.some.injEq] at ho; subst ho; (try dsimp only at hSw); go_simp; try with_reducible rfl)
  simp only [Act.put, List.setIfInBounds_toArray, List.set_cons_zero, List.set_cons_succ]
  refine tk_call (i := 21) (by kernel_rfl) (by kernel_rfl) (fun o ho K hK => ?_)
  simp only [List.getElem?_toArray, List.getElem?_cons_succ, List.getElem?_cons_zero, Option.some.injEq] at ho
  subst ho
  go_simp
  refine (r17_Same v1 v2 l _ V0.out U0.out zl).mono ?_
  rintro e y1 ⟨rfl, hb⟩
  have K1 := K0.trans (hb.mono K0.size)
  have W1 := W0.ret' hb
  have A1 := A0.ret' hb
  have B1 := B0.ret' hb
  have P1 := P0.ret' hb
  have Q1 := Q0.ret' hb
  clear hb
  go_simp
  clear hHeld
  refine hK.out _ _ ⟨W1.c0, W1.c1, A1.c0, A1.c1, A1.c2, A1.c3, B1.c0, B1.c1, B1.c2, B1.c3, P1.c0, P1.c1, Q1.c0, Q1.c1⟩ (fun hHeld => ?_)
  clear hK K
  refine tk_on (i := 22) (some 74) (v := ?_) (by kernel_rfl) (by kernel_rfl) (by kernel_rfl) (by kernel_rfl) (fun _ _ _ h => h) (by assumption) (fun o ho w' hSw => ?_) ?_
  rotate_left
  · (simp only [List.getElem?_toArray, List.getElem?_cons_succ, List.getElem?_cons_zero, Option.some.injEq] at ho; subst ho; (try dsimp only at hSw); go_simp; try with_reducible rfl)
  simp only [Act.put, List.setIfInBounds_toArray, List.set_cons_zero, List.set_cons_succ]
  refine tk_on (i := 23) (some 75) (v := ?_) (by kernel_rfl) (by kernel_rfl) (by kernel_rfl) (by kernel_rfl) (fun _ _ _ h => h) (by assumption) (fun o ho w' hSw => ?_) ?_
  rotate_left
  · (simp only [List.getElem?_toArray, List.getElem?_cons_succ, List.getElem?_cons_zero, Option.some.injEq] at ho; subst ho; (try dsimp only at hSw); go_simp; try with_reducible rfl)
  simp only [Act.put, List.setIfInBounds_toArray, List.set_cons_zero, List.set_cons_succ]
  refine tk_on (i := 24) (some 76) (v := ?_) (by kernel_rfl) (by kernel_rfl) (by kernel_rfl) (by kernel_rfl) (fun _ _ _ h => h) (by assumption) (fun o ho w' hSw => ?_) ?_
  rotate_left
  · (simp only [List.getElem?_toArray, List.getElem?_cons_succ, List.getElem?_cons_zero, Option.some.injEq] at ho; subst ho; (try dsimp only at hSw); go_simp; try with_reducible rfl)
  simp only [Act.put, List.setIfInBounds_toArray, List.set_cons_zero, List.set_cons_succ]
  refine tk_on (i := 25) (some 77) (v := ?_) (by kernel_rfl) (by kernel_rfl) (by kernel_rfl) (by kernel_rfl) (fun _ _ _ h => h) (by assumption) (fun o ho w' hSw => ?_) ?_
  rotate_left
  · (simp only [List.getElem?_toArray, List.getElem?_cons_succ, List.getElem?_cons_zero, Option.some.injEq] at ho; subst ho; (try dsimp only at hSw); go_simp; try with_reducible rfl)
  simp only [Act.put, List.setIfInBounds_toArray, List.set_cons_zero, List.set_cons_succ]
  refine tk_on (i := 26) (some 78) (v := ?_) (by kernel_rfl) (by kernel_rfl) (by kernel_rfl) (by kernel_rfl) (fun _ _ _ h => h) (by assumption) (fun o ho w' hSw => ?_) ?_
  rotate_left
  · (simp only [List.getElem?_toArray, List.getElem?_cons_succ, List.getElem?_cons_zero, Option.some.injEq] at ho; subst ho; (try dsimp only at hSw); go_simp; try with_reducible rfl)
  simp only [Act.put, List.setIfInBounds_toArray, List.set_cons_zero, List.set_cons_succ]
  refine tk_on (i := 27) (some 79) (v := ?_) (by kernel_rfl) (by kernel_rfl) (by kernel_rfl) (by kernel_rfl) (fun _ _ _ h => h) (by assumption) (fun o ho w' hSw => ?_) ?_
  rotate_left
  · (simp only [List.getElem?_toArray, List.getElem?_cons_succ, List.getElem?_cons_zero, Option.some.injEq] at ho; subst ho; (try dsimp only at hSw); go_simp; try with_reducible rfl)
  simp only [Act.put, List.setIfInBounds_toArray, List.set_cons_zero, List.set_cons_succ]
  refine tk_on (i := 28) (some 80) (v := ?_) (by kernel_rfl) (by kernel_rfl) (by kernel_rfl) (by kernel_rfl) (fun _ _ _ h => h) (by assumption) (fun o ho w' hSw => ?_) ?_
  rotate_left
  · (simp only [List.getElem?_toArray, List.getElem?_cons_succ, List.getElem?_cons_zero, Option.some.injEq] at ho; subst ho; (try dsimp only at hSw); go_simp; try with_reducible rfl)
  simp only [Act.put, List.setIfInBounds_toArray, List.set_cons_zero, List.set_cons_succ]
  refine tk_on (i := 29) (some 81) (v := ?_) (by kernel_rfl) (by kernel_rfl) (by kernel_rfl) (by kernel_rfl) (fun _ _ _ h => h) (by assumption) (fun o ho w' hSw => ?_) ?_
  rotate_left
  · (simp only [List.getElem?_toArray, List.getElem?_cons_succ, List.getElem?_cons_zero, Option.some.injEq] at ho; subst ho; (try dsimp only at hSw); go_simp; try with_reducible rfl)
  simp only [Act.put, List.setIfInBounds_toArray, List.set_cons_zero, List.set_cons_succ]
  refine tk_on (i := 31) (some 83) (v := ?_) (by kernel_rfl) (by kernel_rfl) (by kernel_rfl) (by kernel_rfl) (fun _ _ _ h => h) (by assumption) (fun o ho w' hSw => ?_) ?_
  rotate_left
  · (simp only [List.getElem?_toArray, List.getElem?_cons_succ, List.getElem?_cons_zero, Option.some.injEq] at ho; subst ho; (try dsimp only at hSw); go_simp; try with_reducible rfl)
  simp only [Act.put, List.setIfInBounds_toArray, List.set_cons_zero, List.set_cons_succ]
  refine tk_call (i := 30) (by kernel_rfl) (by kernel_rfl) (fun o ho K hK => ?_)
  simp only [List.getElem?_toArray, List.getElem?_cons_succ, List.getElem?_cons_zero, Option.some.injEq] at ho
  subst ho
  go_simp
  refine (CK.out _ (HM.out.ret K1)).mono ?_
  rintro e y2 ⟨rfl, hb⟩
  have K2 := K1.trans (hb.mono K1.size)
  have W2 := W1.ret' hb
  have A2 := A1.ret' hb
  have B2 := B1.ret' hb
  have P2 := P1.ret' hb
  have Q2 := Q1.ret' hb
  clear hb
  go_simp
  clear hHeld
  refine hK.out _ _ ⟨W2.c0, W2.c1, A2.c0, A2.c1, A2.c2, A2.c3, B2.c0, B2.c1, B2.c2, B2.c3, P2.c0, P2.c1, Q2.c0, Q2.c1⟩ (fun hHeld => ?_)
  clear hK K
  refine tk_call (i := 32) (by kernel_rfl) (by kernel_rfl) (fun o ho K hK => ?_)
  simp only [List.getElem?_toArray, List.getElem?_cons_succ, List.getElem?_cons_zero, Option.some.injEq] at ho
  subst ho
  go_simp
  refine (DK.out _).mono ?_
  rintro e y3 ⟨rfl, hb⟩
  have K3 := K2.trans (hb.mono K2.size)
  have W3 := W2.ret' hb
  have A3 := A2.ret' hb
  have B3 := B2.ret' hb
  have P3 := P2.ret' hb
  have Q3 := Q2.ret' hb
  clear hb
  go_simp
  clear hHeld
  refine hK.out _ _ ⟨W3.c0, W3.c1, A3.c0, A3.c1, A3.c2, A3.c3, B3.c0, B3.c1, B3.c2, B3.c3, P3.c0, P3.c1, Q3.c0, Q3.c1⟩ (fun hHeld => ?_)
  clear hK K
  refine tk_on (i := 33) (some 85) (v := ?_) (by kernel_rfl) (by kernel_rfl) (by kernel_rfl) (by kernel_rfl) (fun _ _ _ h => h) (by assumption) (fun o ho w' hSw => ?_) ?_
  rotate_left
  · (simp only [List.getElem?_toArray, List.getElem?_cons_succ, List.getElem?_cons_zero, Option.some.injEq] at ho; subst ho; (try dsimp only at hSw); go_simp; try with_reducible rfl)
  simp only [Act.put, List.setIfInBounds_toArray, List.set_cons_zero, List.set_cons_succ]
  refine tk_on (i := 34) (some 86) (v := ?_) (by kernel_rfl) (by kernel_rfl) (by kernel_rfl) (by kernel_rfl) (fun _ _ _ h => h) (by assumption) (fun o ho w' hSw => ?_) ?_
  rotate_left
  · (simp only [List.getElem?_toArray, List.getElem?_cons_succ, List.getElem?_cons_zero, Option.some.injEq] at ho; subst ho; (try dsimp only at hSw); go_simp; try with_reducible rfl)
  simp only [Act.put, List.setIfInBounds_toArray, List.set_cons_zero, List.set_cons_succ]
  refine tk_on (i := 35) (some 4) (v := ?_) (by kernel_rfl) (by kernel_rfl) (by kernel_rfl) (by kernel_rfl) (fun _ _ _ h => h) (by assumption) (fun o ho w' hSw => ?_) ?_
  rotate_left
  · (simp only [List.getElem?_toArray, List.getElem?_cons_succ, List.getElem?_cons_zero, Option.some.injEq] at ho; subst ho; (try dsimp only at hSw); go_simp; try with_reducible rfl)
  simp only [Act.put, List.setIfInBounds_toArray, List.set_cons_zero, List.set_cons_succ]
  refine wpAnyH_done (by kernel_rfl) ?_ _
  go_wp2_with fail
  go_ret
  exact ⟨rfl, K3⟩
end Go.Proofs.YthgmgmbjjjnhnaaGreatDoor
