/- RoA, RoB: put together by mergetpl.py. -/
import Derived.Test.YtjgeiieiinmdnaaGreatDoorKj
import Derived.Test.YtjgeiieiinmdnaaGreatDoorKg
import Derived.Test.YtjgeiieiinmdnaaGreatDoorJdB
import Derived.Test.YtjgeiieiinmdnaaGreatDoorVq
import Derived.Test.YtjgeiieiinmdnaaGreatDoorGh
import Derived.Test.YtjgeiieiinmdnaaGreatDoorKh
namespace Go.Proofs.YtjgeiieiinmdnaaGreatDoor
open Go.RowKit Go.Lib

/-- what address answers. -/
def adrV (s : List UInt8) : Value := .tuple #[jV (jB (adr s).1) (jB (adr s).2.1) (jB (adr s).2.2), .bool (adrOk s)]
theorem len_prs (s : List UInt8) : (jLoc s).length ≤ s.length ∧ (jDom s).length ≤ s.length ∧ (jRes s).length ≤ s.length := by
 have zA := len_cA 47 s
 have zR := len_cR 47 s
 have zLo := len_lowA s
 have zX := len_cA 64 (lowA s)
 have zY := len_cR 64 (lowA s)
 refine ⟨?_, ?_, ?_⟩
 ·unfold jLoc
  split
  ·omega
  ·exact Nat.zero_le _
 ·unfold jDom
  split <;> omega
 ·unfold jRes
  omega
set_option maxHeartbeats 4000000 in
set_option maxRecDepth 100000 in
theorem ro_address_F (s : ByteArray) (w : World) (hm : ML w)
  (CP : ∀ w : World, ML w → Calls Tryz.prog 126 #[.string s] w (Ret w (.tuple #[jV ⟨#[]⟩ ⟨#[]⟩ ⟨#[]⟩, .int .i64 190])))
  (CW : ∀ w : World, ML w → Calls Tryz.prog 137 #[jV ⟨#[]⟩ ⟨#[]⟩ ⟨#[]⟩] w (Ret w (.tuple #[.string ⟨#[]⟩, .int .i64 8]))) :
  Calls Tryz.prog 210 #[.string s] w (Ret w (.tuple #[jV ⟨#[]⟩ ⟨#[]⟩ ⟨#[]⟩, .bool false])) := by
 have r0 := JAt.new w ⟨#[]⟩ ⟨#[]⟩ ⟨#[]⟩
 have q0 := (Below.refl w.heap.size w).alloc (Nat.le_refl _) (.cells #[.string ⟨#[]⟩, .string ⟨#[]⟩, .string ⟨#[]⟩] 117)
 have m0 := hm.ret q0
 have HP := Lib.hid CP
 have HW := Lib.hid CW
 clear CP CW
 go_enter Tryz.func210, Tryz.ntmps210
 go_wp2_with fail
 refine (HP.out _ m0).mono ?_
 rintro e w1 ⟨rfl, hb⟩
 have r1 := r0.ret hb
 have q1 := q0.trans (hb.mono q0.size)
 have m1 := m0.ret hb
 clear hb r0 q0 m0
 have al := (Below.refl w1.heap.size w1).alloc (Nat.le_refl _) (.cells #[.string ⟨#[]⟩, .string ⟨#[]⟩, .string ⟨#[]⟩] 117)
 have j2 := JAt.new w1 ⟨#[]⟩ ⟨#[]⟩ ⟨#[]⟩
 have r2 := r1.ret al
 have q2 := q1.trans (al.mono q1.size)
 have m2 := m1.ret al
 have hlt1 := r1.lt
 have hne : w1.heap.size ≠ w.heap.size := Nat.ne_of_gt hlt1
 clear al r1 q1 m1
 go_wp2_with fail
 refine (HW.out _ m2).mono ?_
 rintro e w3 ⟨rfl, hb⟩
 have j3 := j2.ret hb
 have r3 := r2.ret hb
 have q3 := q2.trans (hb.mono q2.size)
 clear hb j2 r2 q2 m2
 go_wp2_with fail
 have j4 := j3.ret (Below.drew (Below.refl _ _))
 have r4 := r3.ret (Below.drew (Below.refl _ _))
 have q4 := q3.drew
 clear j3 r3 q3
 refine wp_region_held_drew (S := fun w' => w'.cell? ⟨w1.heap.size, 0, none⟩ = some (.string ⟨#[]⟩) ∧ w'.cell? ⟨w1.heap.size, 1, none⟩ = some (.string ⟨#[]⟩) ∧ w'.cell? ⟨w1.heap.size, 2, none⟩ = some (.string ⟨#[]⟩)) (by kernel_rfl) ⟨j4.c0, j4.c1, j4.c2⟩ (fun hHeld => ?_)
 generalize w3.drew = V at j4 r4 q4 hHeld ⊢
 refine tk_start [(0, some 18), (1, some 19), (2, some 20), (3, some 21)] ?_
 iterate 4
  refine tk_step (v := ?_) (by kernel_rfl) (by kernel_rfl) (fun _ _ _ h => h) (by assumption) (fun o ho w' hSw => ?_) ?_
  rotate_left
  ·simp only [List.getElem?_toArray, List.getElem?_cons_succ, List.getElem?_cons_zero, Option.some.injEq] at ho; subst ho; (try dsimp only at hSw); go_simp; try with_reducible rfl
  simp only [Act.put, List.setIfInBounds_toArray, List.set_cons_zero, List.set_cons_succ]
 refine tk_end ?_
 refine tk_off (i := 4) (some 22) (by kernel_rfl) (by kernel_rfl) (by kernel_rfl) (by kernel_rfl) (fun _ _ _ h => h) (by assumption) ?_
 simp only [Act.put, List.setIfInBounds_toArray, List.set_cons_zero, List.set_cons_succ]
 refine tk_off (i := 5) (some 23) (by kernel_rfl) (by kernel_rfl) (by kernel_rfl) (by kernel_rfl) (fun _ _ _ h => h) (by assumption) ?_
 simp only [Act.put, List.setIfInBounds_toArray, List.set_cons_zero, List.set_cons_succ]
 refine tk_start [(6, some 24), (7, some 25)] ?_
 iterate 2
  refine tk_step (v := ?_) (by kernel_rfl) (by kernel_rfl) (fun _ _ _ h => h) (by assumption) (fun o ho w' hSw => ?_) ?_
  rotate_left
  ·simp only [List.getElem?_toArray, List.getElem?_cons_succ, List.getElem?_cons_zero, Option.some.injEq] at ho; subst ho; (try dsimp only at hSw); go_simp; try with_reducible rfl
  simp only [Act.put, List.setIfInBounds_toArray, List.set_cons_zero, List.set_cons_succ]
 refine tk_end ?_
 refine tk_off (i := 8) (some 26) (by kernel_rfl) (by kernel_rfl) (by kernel_rfl) (by kernel_rfl) (fun _ _ _ h => h) (by assumption) ?_
 simp only [Act.put, List.setIfInBounds_toArray, List.set_cons_zero, List.set_cons_succ]
 refine tk_off (i := 9) (some 27) (by kernel_rfl) (by kernel_rfl) (by kernel_rfl) (by kernel_rfl) (fun _ _ _ h => h) (by assumption) ?_
 simp only [Act.put, List.setIfInBounds_toArray, List.set_cons_zero, List.set_cons_succ]
 refine tk_off (i := 10) (some 28) (by kernel_rfl) (by kernel_rfl) (by kernel_rfl) (by kernel_rfl) (fun _ _ _ h => h) (by assumption) ?_
 simp only [Act.put, List.setIfInBounds_toArray, List.set_cons_zero, List.set_cons_succ]
 refine tk_start [(11, some 29), (12, some 30)] ?_
 iterate 2
  refine tk_step (v := ?_) (by kernel_rfl) (by kernel_rfl) (fun _ _ _ h => h) (by assumption) (fun o ho w' hSw => ?_) ?_
  rotate_left
  ·simp only [List.getElem?_toArray, List.getElem?_cons_succ, List.getElem?_cons_zero, Option.some.injEq] at ho; subst ho; (try dsimp only at hSw); go_simp; try with_reducible rfl
  simp only [Act.put, List.setIfInBounds_toArray, List.set_cons_zero, List.set_cons_succ]
 refine tk_end ?_
 refine tk_off (i := 13) (some 31) (by kernel_rfl) (by kernel_rfl) (by kernel_rfl) (by kernel_rfl) (fun _ _ _ h => h) (by assumption) ?_
 simp only [Act.put, List.setIfInBounds_toArray, List.set_cons_zero, List.set_cons_succ]
 refine tk_off (i := 14) (some 32) (by kernel_rfl) (by kernel_rfl) (by kernel_rfl) (by kernel_rfl) (fun _ _ _ h => h) (by assumption) ?_
 simp only [Act.put, List.setIfInBounds_toArray, List.set_cons_zero, List.set_cons_succ]
 refine tk_off (i := 15) (some 33) (by kernel_rfl) (by kernel_rfl) (by kernel_rfl) (by kernel_rfl) (fun _ _ _ h => h) (by assumption) ?_
 simp only [Act.put, List.setIfInBounds_toArray, List.set_cons_zero, List.set_cons_succ]
 refine tk_on (i := 16) (some 34) (v := ?_) (by kernel_rfl) (by kernel_rfl) (by kernel_rfl) (by kernel_rfl) (fun _ _ _ h => h) (by assumption) (fun o ho w' hSw => ?_) ?_
 rotate_left
 ·(simp only [List.getElem?_toArray, List.getElem?_cons_succ, List.getElem?_cons_zero, Option.some.injEq] at ho; subst ho; (try dsimp only at hSw); go_simp; try with_reducible rfl)
 simp only [Act.put, List.setIfInBounds_toArray, List.set_cons_zero, List.set_cons_succ]
 refine tk_call (i := 17) (by kernel_rfl) (by kernel_rfl) (fun o ho K hK => ?_)
 simp only [List.getElem?_toArray, List.getElem?_cons_succ, List.getElem?_cons_zero, Option.some.injEq] at ho
 subst ho
 have f0 := r4.f0
 have f1 := r4.f1
 have f2 := r4.f2
 have g0 := r4.c0
 have g1 := r4.c1
 have g2 := r4.c2
 go_simp
 have j5 := ((j4.other (M := w.heap.size) (o := 0) hne (.string ⟨#[]⟩)).other (M := w.heap.size) (o := 1) hne (.string ⟨#[]⟩)).other (M := w.heap.size) (o := 2) hne (.string ⟨#[]⟩)
 have r5 := r4.set3 ⟨#[]⟩ ⟨#[]⟩ ⟨#[]⟩
 have q5 := jset_below q4 (Nat.le_refl _) (.string ⟨#[]⟩) (.string ⟨#[]⟩) (.string ⟨#[]⟩)
 refine hK.out _ _ ⟨j5.c0, j5.c1, j5.c2⟩ (fun hHeld => ?_)
 clear hK K
 refine tk_on (i := 18) (some 3) (v := ?_) (by kernel_rfl) (by kernel_rfl) (by kernel_rfl) (by kernel_rfl) (fun _ _ _ h => h) (by assumption) (fun o ho w' hSw => ?_) ?_
 rotate_left
 ·(simp only [List.getElem?_toArray, List.getElem?_cons_succ, List.getElem?_cons_zero, Option.some.injEq] at ho; subst ho; (try dsimp only at hSw); go_simp; try with_reducible rfl)
 simp only [Act.put, List.setIfInBounds_toArray, List.set_cons_zero, List.set_cons_succ]
 refine wpAnyH_done (by kernel_rfl) ?_ _
 go_wp2_with fail
 refine bodyPost_ret (ret_jid rfl rfl rfl r5) rfl ⟨rfl, q5⟩
set_option maxHeartbeats 4000000 in
set_option maxRecDepth 100000 in
theorem ro_address_TN (s X Y Z T : ByteArray) (w : World) (hm : ML w)
  (CP : ∀ w : World, ML w → Calls Tryz.prog 126 #[.string s] w (Ret w (.tuple #[jV X Y Z, .int .i64 0])))
  (CW : ∀ w : World, ML w → Calls Tryz.prog 137 #[jV X Y Z] w (Ret w (.tuple #[.string T, .int .i64 0])))
  (hT : (T.toList == s.toList) = false) :
  Calls Tryz.prog 210 #[.string s] w (Ret w (.tuple #[jV X Y Z, .bool false])) := by
 have r0 := JAt.new w ⟨#[]⟩ ⟨#[]⟩ ⟨#[]⟩
 have q0 := (Below.refl w.heap.size w).alloc (Nat.le_refl _) (.cells #[.string ⟨#[]⟩, .string ⟨#[]⟩, .string ⟨#[]⟩] 117)
 have m0 := hm.ret q0
 have HP := Lib.hid CP
 have HW := Lib.hid CW
 clear CP CW
 go_enter Tryz.func210, Tryz.ntmps210
 go_wp2_with fail
 refine (HP.out _ m0).mono ?_
 rintro e w1 ⟨rfl, hb⟩
 have r1 := r0.ret hb
 have q1 := q0.trans (hb.mono q0.size)
 have m1 := m0.ret hb
 clear hb r0 q0 m0
 have al := (Below.refl w1.heap.size w1).alloc (Nat.le_refl _) (.cells #[.string X, .string Y, .string Z] 117)
 have j2 := JAt.new w1 X Y Z
 have r2 := r1.ret al
 have q2 := q1.trans (al.mono q1.size)
 have m2 := m1.ret al
 have hlt1 := r1.lt
 have hne : w1.heap.size ≠ w.heap.size := Nat.ne_of_gt hlt1
 clear al r1 q1 m1
 go_wp2_with fail
 refine (HW.out _ m2).mono ?_
 rintro e w3 ⟨rfl, hb⟩
 have j3 := j2.ret hb
 have r3 := r2.ret hb
 have q3 := q2.trans (hb.mono q2.size)
 clear hb j2 r2 q2 m2
 go_wp2_with fail
 have j4 := j3.ret (Below.drew (Below.refl _ _))
 have r4 := r3.ret (Below.drew (Below.refl _ _))
 have q4 := q3.drew
 clear j3 r3 q3
 refine wp_region_held_drew (S := fun w' => w'.cell? ⟨w1.heap.size, 0, none⟩ = some (.string X) ∧ w'.cell? ⟨w1.heap.size, 1, none⟩ = some (.string Y) ∧ w'.cell? ⟨w1.heap.size, 2, none⟩ = some (.string Z)) (by kernel_rfl) ⟨j4.c0, j4.c1, j4.c2⟩ (fun hHeld => ?_)
 generalize w3.drew = V at j4 r4 q4 hHeld ⊢
 refine tk_start [(0, some 18), (1, some 19), (2, some 20), (3, some 21), (4, some 22), (5, some 23), (6, some 24), (7, some 25), (8, some 26), (9, some 27), (10, some 28), (11, some 29), (12, some 30)] ?_
 iterate 13
  refine tk_step (v := ?_) (by kernel_rfl) (by kernel_rfl) (fun _ _ _ h => h) (by assumption) (fun o ho w' hSw => ?_) ?_
  rotate_left
  ·simp only [List.getElem?_toArray, List.getElem?_cons_succ, List.getElem?_cons_zero, Option.some.injEq] at ho; subst ho; (try dsimp only at hSw); go_simp; try with_reducible rfl
  simp only [Act.put, List.setIfInBounds_toArray, List.set_cons_zero, List.set_cons_succ]
 refine tk_end ?_
 refine tk_off (i := 13) (some 31) (by kernel_rfl) (by kernel_rfl) (by kernel_rfl) (by kernel_rfl) (fun _ _ _ h => h) (by assumption) ?_
 simp only [Act.put, List.setIfInBounds_toArray, List.set_cons_zero, List.set_cons_succ]
 refine tk_off (i := 14) (some 32) (by kernel_rfl) (by kernel_rfl) (by kernel_rfl) (by kernel_rfl) (fun _ _ _ h => h) (by assumption) ?_
 simp only [Act.put, List.setIfInBounds_toArray, List.set_cons_zero, List.set_cons_succ]
 refine tk_off (i := 15) (some 33) (by kernel_rfl) (by kernel_rfl) (by kernel_rfl) (by kernel_rfl) (fun _ _ _ h => h) (by assumption) ?_
 simp only [Act.put, List.setIfInBounds_toArray, List.set_cons_zero, List.set_cons_succ]
 refine tk_on (i := 16) (some 34) (v := ?_) (by kernel_rfl) (by kernel_rfl) (by kernel_rfl) (by kernel_rfl) (fun _ _ _ h => h) (by assumption) (fun o ho w' hSw => ?_) ?_
 rotate_left
 ·(simp only [List.getElem?_toArray, List.getElem?_cons_succ, List.getElem?_cons_zero, Option.some.injEq] at ho; subst ho; (try dsimp only at hSw); go_simp; try with_reducible rfl)
 simp only [Act.put, List.setIfInBounds_toArray, List.set_cons_zero, List.set_cons_succ]
 refine tk_call (i := 17) (by kernel_rfl) (by kernel_rfl) (fun o ho K hK => ?_)
 simp only [List.getElem?_toArray, List.getElem?_cons_succ, List.getElem?_cons_zero, Option.some.injEq] at ho
 subst ho
 have f0 := r4.f0
 have f1 := r4.f1
 have f2 := r4.f2
 have g0 := r4.c0
 have g1 := r4.c1
 have g2 := r4.c2
 go_simp
 have j5 := ((j4.other (M := w.heap.size) (o := 0) hne (.string X)).other (M := w.heap.size) (o := 1) hne (.string Y)).other (M := w.heap.size) (o := 2) hne (.string Z)
 have r5 := r4.set3 X Y Z
 have q5 := jset_below q4 (Nat.le_refl _) (.string X) (.string Y) (.string Z)
 refine hK.out _ _ ⟨j5.c0, j5.c1, j5.c2⟩ (fun hHeld => ?_)
 clear hK K
 refine tk_on (i := 18) (some 3) (v := ?_) (by kernel_rfl) (by kernel_rfl) (by kernel_rfl) (by kernel_rfl) (fun _ _ _ h => h) (by assumption) (fun o ho w' hSw => ?_) ?_
 rotate_left
 ·(simp only [List.getElem?_toArray, List.getElem?_cons_succ, List.getElem?_cons_zero, Option.some.injEq] at ho; subst ho; (try dsimp only at hSw); go_simp; try with_reducible rfl)
 simp only [Act.put, List.setIfInBounds_toArray, List.set_cons_zero, List.set_cons_succ]
 refine wpAnyH_done (by kernel_rfl) ?_ _
 go_wp2_with fail
 refine bodyPost_ret (ret_jid rfl rfl rfl r5) rfl ⟨rfl, q5⟩
set_option maxHeartbeats 4000000 in
set_option maxRecDepth 100000 in
theorem ro_address_TSR (s X Y Z T : ByteArray) (w : World) (hm : ML w)
  (CP : ∀ w : World, ML w → Calls Tryz.prog 126 #[.string s] w (Ret w (.tuple #[jV X Y Z, .int .i64 0])))
  (CW : ∀ w : World, ML w → Calls Tryz.prog 137 #[jV X Y Z] w (Ret w (.tuple #[.string T, .int .i64 0])))
  (hT : (T.toList == s.toList) = true) (hZ : (Z.toList == []) = false) :
  Calls Tryz.prog 210 #[.string s] w (Ret w (.tuple #[jV X Y Z, .bool false])) := by
 have r0 := JAt.new w ⟨#[]⟩ ⟨#[]⟩ ⟨#[]⟩
 have q0 := (Below.refl w.heap.size w).alloc (Nat.le_refl _) (.cells #[.string ⟨#[]⟩, .string ⟨#[]⟩, .string ⟨#[]⟩] 117)
 have m0 := hm.ret q0
 have HP := Lib.hid CP
 have HW := Lib.hid CW
 clear CP CW
 go_enter Tryz.func210, Tryz.ntmps210
 go_wp2_with fail
 refine (HP.out _ m0).mono ?_
 rintro e w1 ⟨rfl, hb⟩
 have r1 := r0.ret hb
 have q1 := q0.trans (hb.mono q0.size)
 have m1 := m0.ret hb
 clear hb r0 q0 m0
 have al := (Below.refl w1.heap.size w1).alloc (Nat.le_refl _) (.cells #[.string X, .string Y, .string Z] 117)
 have j2 := JAt.new w1 X Y Z
 have r2 := r1.ret al
 have q2 := q1.trans (al.mono q1.size)
 have m2 := m1.ret al
 have hlt1 := r1.lt
 have hne : w1.heap.size ≠ w.heap.size := Nat.ne_of_gt hlt1
 clear al r1 q1 m1
 go_wp2_with fail
 refine (HW.out _ m2).mono ?_
 rintro e w3 ⟨rfl, hb⟩
 have j3 := j2.ret hb
 have r3 := r2.ret hb
 have q3 := q2.trans (hb.mono q2.size)
 clear hb j2 r2 q2 m2
 go_wp2_with fail
 have j4 := j3.ret (Below.drew (Below.refl _ _))
 have r4 := r3.ret (Below.drew (Below.refl _ _))
 have q4 := q3.drew
 clear j3 r3 q3
 refine wp_region_held_drew (S := fun w' => w'.cell? ⟨w1.heap.size, 0, none⟩ = some (.string X) ∧ w'.cell? ⟨w1.heap.size, 1, none⟩ = some (.string Y) ∧ w'.cell? ⟨w1.heap.size, 2, none⟩ = some (.string Z)) (by kernel_rfl) ⟨j4.c0, j4.c1, j4.c2⟩ (fun hHeld => ?_)
 generalize w3.drew = V at j4 r4 q4 hHeld ⊢
 refine tk_start [(0, some 18), (1, some 19), (2, some 20), (3, some 21), (4, some 22), (5, some 23), (6, some 24), (7, some 25), (8, some 26), (9, some 27), (10, some 28), (11, some 29), (12, some 30), (13, some 31), (14, some 32), (15, some 33), (16, some 34)] ?_
 iterate 17
  refine tk_step (v := ?_) (by kernel_rfl) (by kernel_rfl) (fun _ _ _ h => h) (by assumption) (fun o ho w' hSw => ?_) ?_
  rotate_left
  ·simp only [List.getElem?_toArray, List.getElem?_cons_succ, List.getElem?_cons_zero, Option.some.injEq] at ho; subst ho; (try dsimp only at hSw); go_simp; try with_reducible rfl
  simp only [Act.put, List.setIfInBounds_toArray, List.set_cons_zero, List.set_cons_succ]
 refine tk_end ?_
 refine tk_call (i := 17) (by kernel_rfl) (by kernel_rfl) (fun o ho K hK => ?_)
 simp only [List.getElem?_toArray, List.getElem?_cons_succ, List.getElem?_cons_zero, Option.some.injEq] at ho
 subst ho
 have f0 := r4.f0
 have f1 := r4.f1
 have f2 := r4.f2
 have g0 := r4.c0
 have g1 := r4.c1
 have g2 := r4.c2
 go_simp
 have j5 := ((j4.other (M := w.heap.size) (o := 0) hne (.string X)).other (M := w.heap.size) (o := 1) hne (.string Y)).other (M := w.heap.size) (o := 2) hne (.string Z)
 have r5 := r4.set3 X Y Z
 have q5 := jset_below q4 (Nat.le_refl _) (.string X) (.string Y) (.string Z)
 refine hK.out _ _ ⟨j5.c0, j5.c1, j5.c2⟩ (fun hHeld => ?_)
 clear hK K
 refine tk_on (i := 18) (some 3) (v := ?_) (by kernel_rfl) (by kernel_rfl) (by kernel_rfl) (by kernel_rfl) (fun _ _ _ h => h) (by assumption) (fun o ho w' hSw => ?_) ?_
 rotate_left
 ·(simp only [List.getElem?_toArray, List.getElem?_cons_succ, List.getElem?_cons_zero, Option.some.injEq] at ho; subst ho; (try dsimp only at hSw); go_simp; try with_reducible rfl)
 simp only [Act.put, List.setIfInBounds_toArray, List.set_cons_zero, List.set_cons_succ]
 refine wpAnyH_done (by kernel_rfl) ?_ _
 go_wp2_with fail
 refine bodyPost_ret (ret_jid rfl rfl rfl r5) rfl ⟨rfl, q5⟩
set_option maxHeartbeats 4000000 in
set_option maxRecDepth 100000 in
theorem ro_address_TSE (s X Y Z T : ByteArray) (w : World) (hm : ML w)
  (CP : ∀ w : World, ML w → Calls Tryz.prog 126 #[.string s] w (Ret w (.tuple #[jV X Y Z, .int .i64 0])))
  (CW : ∀ w : World, ML w → Calls Tryz.prog 137 #[jV X Y Z] w (Ret w (.tuple #[.string T, .int .i64 0])))
  (hT : (T.toList == s.toList) = true) (hZ : (Z.toList == []) = true) :
  Calls Tryz.prog 210 #[.string s] w (Ret w (.tuple #[jV X Y Z, .bool true])) := by
 have r0 := JAt.new w ⟨#[]⟩ ⟨#[]⟩ ⟨#[]⟩
 have q0 := (Below.refl w.heap.size w).alloc (Nat.le_refl _) (.cells #[.string ⟨#[]⟩, .string ⟨#[]⟩, .string ⟨#[]⟩] 117)
 have m0 := hm.ret q0
 have HP := Lib.hid CP
 have HW := Lib.hid CW
 clear CP CW
 go_enter Tryz.func210, Tryz.ntmps210
 go_wp2_with fail
 refine (HP.out _ m0).mono ?_
 rintro e w1 ⟨rfl, hb⟩
 have r1 := r0.ret hb
 have q1 := q0.trans (hb.mono q0.size)
 have m1 := m0.ret hb
 clear hb r0 q0 m0
 have al := (Below.refl w1.heap.size w1).alloc (Nat.le_refl _) (.cells #[.string X, .string Y, .string Z] 117)
 have j2 := JAt.new w1 X Y Z
 have r2 := r1.ret al
 have q2 := q1.trans (al.mono q1.size)
 have m2 := m1.ret al
 have hlt1 := r1.lt
 have hne : w1.heap.size ≠ w.heap.size := Nat.ne_of_gt hlt1
 clear al r1 q1 m1
 go_wp2_with fail
 refine (HW.out _ m2).mono ?_
 rintro e w3 ⟨rfl, hb⟩
 have j3 := j2.ret hb
 have r3 := r2.ret hb
 have q3 := q2.trans (hb.mono q2.size)
 clear hb j2 r2 q2 m2
 go_wp2_with fail
 have j4 := j3.ret (Below.drew (Below.refl _ _))
 have r4 := r3.ret (Below.drew (Below.refl _ _))
 have q4 := q3.drew
 clear j3 r3 q3
 refine wp_region_held_drew (S := fun w' => w'.cell? ⟨w1.heap.size, 0, none⟩ = some (.string X) ∧ w'.cell? ⟨w1.heap.size, 1, none⟩ = some (.string Y) ∧ w'.cell? ⟨w1.heap.size, 2, none⟩ = some (.string Z)) (by kernel_rfl) ⟨j4.c0, j4.c1, j4.c2⟩ (fun hHeld => ?_)
 generalize w3.drew = V at j4 r4 q4 hHeld ⊢
 refine tk_start [(0, some 18), (1, some 19), (2, some 20), (3, some 21), (4, some 22), (5, some 23), (6, some 24), (7, some 25), (8, some 26), (9, some 27), (10, some 28), (11, some 29), (12, some 30), (13, some 31), (14, some 32), (15, some 33), (16, some 34)] ?_
 iterate 17
  refine tk_step (v := ?_) (by kernel_rfl) (by kernel_rfl) (fun _ _ _ h => h) (by assumption) (fun o ho w' hSw => ?_) ?_
  rotate_left
  ·simp only [List.getElem?_toArray, List.getElem?_cons_succ, List.getElem?_cons_zero, Option.some.injEq] at ho; subst ho; (try dsimp only at hSw); go_simp; try with_reducible rfl
  simp only [Act.put, List.setIfInBounds_toArray, List.set_cons_zero, List.set_cons_succ]
 refine tk_end ?_
 refine tk_call (i := 17) (by kernel_rfl) (by kernel_rfl) (fun o ho K hK => ?_)
 simp only [List.getElem?_toArray, List.getElem?_cons_succ, List.getElem?_cons_zero, Option.some.injEq] at ho
 subst ho
 have f0 := r4.f0
 have f1 := r4.f1
 have f2 := r4.f2
 have g0 := r4.c0
 have g1 := r4.c1
 have g2 := r4.c2
 go_simp
 have j5 := ((j4.other (M := w.heap.size) (o := 0) hne (.string X)).other (M := w.heap.size) (o := 1) hne (.string Y)).other (M := w.heap.size) (o := 2) hne (.string Z)
 have r5 := r4.set3 X Y Z
 have q5 := jset_below q4 (Nat.le_refl _) (.string X) (.string Y) (.string Z)
 refine hK.out _ _ ⟨j5.c0, j5.c1, j5.c2⟩ (fun hHeld => ?_)
 clear hK K
 refine tk_on (i := 18) (some 3) (v := ?_) (by kernel_rfl) (by kernel_rfl) (by kernel_rfl) (by kernel_rfl) (fun _ _ _ h => h) (by assumption) (fun o ho w' hSw => ?_) ?_
 rotate_left
 ·(simp only [List.getElem?_toArray, List.getElem?_cons_succ, List.getElem?_cons_zero, Option.some.injEq] at ho; subst ho; (try dsimp only at hSw); go_simp; try with_reducible rfl)
 simp only [Act.put, List.setIfInBounds_toArray, List.set_cons_zero, List.set_cons_succ]
 refine wpAnyH_done (by kernel_rfl) ?_ _
 go_wp2_with fail
 refine bodyPost_ret (ret_jid rfl rfl rfl r5) rfl ⟨rfl, q5⟩
theorem ro_address (s : ByteArray) (w : World) (hs : s.size ≤ 10000) (hm : ML w) : Calls Tryz.prog 210 #[.string s] w (Ret w (adrV s.data.toList)) := by
 have CP := fun w m => jd_Parse s w hs m
 have hz := size_toList s
 unfold prsV at CP
 unfold adrV adr adrOk
 obtain ⟨z1, z2, z3⟩ := len_prs s.data.toList
 cases hp : prsP s.data.toList with
 | false =>
  rw [hp, if_neg (by decide)] at CP
  simp only [Bool.false_eq_true, if_false, Bool.false_and]
  have CW := fun w m => jd_Write ⟨#[]⟩ ⟨#[]⟩ ⟨#[]⟩ w (by decide) (by decide) (by decide) m
  exact ro_address_F s w hm CP CW
 | true =>
  rw [hp, if_pos rfl] at CP
  simp only [if_true, Bool.true_and]
  have hk := prs_chk hp
  have CW := fun w m => jd_Write (jB (jLoc s.data.toList)) (jB (jDom s.data.toList)) (jB (jRes s.data.toList)) w (by rw [jB_size]; omega) (by rw [jB_size]; omega) (by rw [jB_size]; omega) m
  unfold wrtB wrtE at CW
  rw [jB_list, jB_list, jB_list, hk, if_pos rfl, if_pos rfl] at CW
  by_cases hT : txtP (jLoc s.data.toList) (jDom s.data.toList) (jRes s.data.toList) = s.data.toList
  ·have e1 : ((jB (txtP (jLoc s.data.toList) (jDom s.data.toList) (jRes s.data.toList))).toList == s.toList) = true := by
    rw [Lib.toList_data, Lib.toList_data, jB_list, hT]; simp
   rw [decide_eq_true hT, Bool.true_and]
   cases hr : (jRes s.data.toList).isEmpty with
   | true => exact ro_address_TSE s _ _ _ _ w hm CP CW e1 (by rw [Lib.toList_data, jB_list, List.isEmpty_iff.1 hr]; rfl)
   | false => exact ro_address_TSR s _ _ _ _ w hm CP CW e1 (jB_ne hr)
  ·have e1 : ((jB (txtP (jLoc s.data.toList) (jDom s.data.toList) (jRes s.data.toList))).toList == s.toList) = false := by
    rw [Lib.toList_data, Lib.toList_data, jB_list]; simpa using hT
   rw [decide_eq_false hT, Bool.false_and]
   exact ro_address_TN s _ _ _ _ w hm CP CW e1
set_option maxHeartbeats 4000000 in
theorem ro_order_v (a b X Y Z X' Y' Z' : ByteArray) (u v p q : Bool) (w : World) (hm : ML w)
  (CA : ∀ w : World, ML w → Calls Tryz.prog 210 #[.string a] w (Ret w (.tuple #[jV X Y Z, .bool p]))) (CB : ∀ w : World, ML w → Calls Tryz.prog 210 #[.string b] w (Ret w (.tuple #[jV X' Y' Z', .bool q])))
  (CL : ∀ w : World, Calls Tryz.prog 165 #[jV X Y Z, jV X' Y' Z'] w (Ret w (.bool u))) (CM : ∀ w : World, Calls Tryz.prog 165 #[jV X' Y' Z', jV X Y Z] w (Ret w (.bool v))) :
  Calls Tryz.prog 175 #[.string a, .string b] w (Ret w (.int .i64 (if u then -1 else if v then 1 else 0))) := by
 have HA := Lib.hid CA
 have HB := Lib.hid CB
 have HL := Lib.hid CL
 have HM := Lib.hid CM
 have q0 := Below.refl w.heap.size w
 clear CA CB CL CM
 cases u with
 | true =>
  go_enter Tryz.func175, Tryz.ntmps175
  go_wp2_with fail
  refine (HA.out _ hm).mono ?_
  rintro e w1 ⟨rfl, hb⟩
  have q1 := q0.trans (hb.mono q0.size)
  have m1 := hm.ret hb
  have al := (Below.refl w1.heap.size w1).alloc (Nat.le_refl _) (.cells #[.string X, .string Y, .string Z] 117)
  have x2 := JAt.new w1 X Y Z
  have q2 := q1.trans (al.mono q1.size)
  have m2 := m1.ret al
  clear hb al q1 m1
  go_wp2_with fail
  refine (HB.out _ m2).mono ?_
  rintro e w3 ⟨rfl, hb⟩
  have x3 := x2.ret hb
  have q3 := q2.trans (hb.mono q2.size)
  have al := (Below.refl w3.heap.size w3).alloc (Nat.le_refl _) (.cells #[.string X', .string Y', .string Z'] 117)
  have y4 := JAt.new w3 X' Y' Z'
  have x4 := x3.ret al
  have q4 := q3.trans (al.mono q3.size)
  clear hb al q2 m2 x2 x3 q3
  obtain ⟨x0, a1, a2, a3, a4⟩ := id x4
  obtain ⟨y0, b1, b2, b3, b4⟩ := id y4
  go_wp2_with fail
  refine (HL.out _).mono ?_
  rintro e w5 ⟨rfl, hb⟩
  have x5 := x4.ret hb
  have y5 := y4.ret hb
  have q5 := q4.trans (hb.mono q4.size)
  clear hb q4 x0 a1 a2 a3 a4 y0 b1 b2 b3 b4 x4 y4
  go_wp2_with fail
  go_ret
  exact ⟨rfl, q5⟩
 | false =>
  cases v with
  | true =>
   go_enter Tryz.func175, Tryz.ntmps175
   go_wp2_with fail
   refine (HA.out _ hm).mono ?_
   rintro e w1 ⟨rfl, hb⟩
   have q1 := q0.trans (hb.mono q0.size)
   have m1 := hm.ret hb
   have al := (Below.refl w1.heap.size w1).alloc (Nat.le_refl _) (.cells #[.string X, .string Y, .string Z] 117)
   have x2 := JAt.new w1 X Y Z
   have q2 := q1.trans (al.mono q1.size)
   have m2 := m1.ret al
   clear hb al q1 m1
   go_wp2_with fail
   refine (HB.out _ m2).mono ?_
   rintro e w3 ⟨rfl, hb⟩
   have x3 := x2.ret hb
   have q3 := q2.trans (hb.mono q2.size)
   have al := (Below.refl w3.heap.size w3).alloc (Nat.le_refl _) (.cells #[.string X', .string Y', .string Z'] 117)
   have y4 := JAt.new w3 X' Y' Z'
   have x4 := x3.ret al
   have q4 := q3.trans (al.mono q3.size)
   clear hb al q2 m2 x2 x3 q3
   obtain ⟨x0, a1, a2, a3, a4⟩ := id x4
   obtain ⟨y0, b1, b2, b3, b4⟩ := id y4
   go_wp2_with fail
   refine (HL.out _).mono ?_
   rintro e w5 ⟨rfl, hb⟩
   have x5 := x4.ret hb
   have y5 := y4.ret hb
   have q5 := q4.trans (hb.mono q4.size)
   clear hb q4 x0 a1 a2 a3 a4 y0 b1 b2 b3 b4 x4 y4
   obtain ⟨x0, a1, a2, a3, a4⟩ := x5
   obtain ⟨y0, b1, b2, b3, b4⟩ := y5
   go_wp2_with fail
   refine (HM.out _).mono ?_
   rintro e w6 ⟨rfl, hb⟩
   have q6 := q5.trans (hb.mono q5.size)
   clear hb x0 a1 a2 a3 a4 y0 b1 b2 b3 b4
   go_wp2_with fail
   go_ret
   exact ⟨rfl, q6⟩
  | false =>
   go_enter Tryz.func175, Tryz.ntmps175
   go_wp2_with fail
   refine (HA.out _ hm).mono ?_
   rintro e w1 ⟨rfl, hb⟩
   have q1 := q0.trans (hb.mono q0.size)
   have m1 := hm.ret hb
   have al := (Below.refl w1.heap.size w1).alloc (Nat.le_refl _) (.cells #[.string X, .string Y, .string Z] 117)
   have x2 := JAt.new w1 X Y Z
   have q2 := q1.trans (al.mono q1.size)
   have m2 := m1.ret al
   clear hb al q1 m1
   go_wp2_with fail
   refine (HB.out _ m2).mono ?_
   rintro e w3 ⟨rfl, hb⟩
   have x3 := x2.ret hb
   have q3 := q2.trans (hb.mono q2.size)
   have al := (Below.refl w3.heap.size w3).alloc (Nat.le_refl _) (.cells #[.string X', .string Y', .string Z'] 117)
   have y4 := JAt.new w3 X' Y' Z'
   have x4 := x3.ret al
   have q4 := q3.trans (al.mono q3.size)
   clear hb al q2 m2 x2 x3 q3
   obtain ⟨x0, a1, a2, a3, a4⟩ := id x4
   obtain ⟨y0, b1, b2, b3, b4⟩ := id y4
   go_wp2_with fail
   refine (HL.out _).mono ?_
   rintro e w5 ⟨rfl, hb⟩
   have x5 := x4.ret hb
   have y5 := y4.ret hb
   have q5 := q4.trans (hb.mono q4.size)
   clear hb q4 x0 a1 a2 a3 a4 y0 b1 b2 b3 b4 x4 y4
   obtain ⟨x0, a1, a2, a3, a4⟩ := x5
   obtain ⟨y0, b1, b2, b3, b4⟩ := y5
   go_wp2_with fail
   refine (HM.out _).mono ?_
   rintro e w6 ⟨rfl, hb⟩
   have q6 := q5.trans (hb.mono q5.size)
   clear hb x0 a1 a2 a3 a4 y0 b1 b2 b3 b4
   go_wp2_with fail
   go_ret
   exact ⟨rfl, q6⟩
theorem ro_order (a b : ByteArray) (w : World) (ha : a.size ≤ 10000) (hb : b.size ≤ 10000) (hm : ML w) : Calls Tryz.prog 175 #[.string a, .string b] w (Ret w (.int .i64 (ordT a.data.toList b.data.toList))) := by
 have CA := fun w m => ro_address a w ha m
 have CB := fun w m => ro_address b w hb m
 have CL := fun w => jd_Less (jB (adr a.data.toList).1) (jB (adr a.data.toList).2.1) (jB (adr a.data.toList).2.2) (jB (adr b.data.toList).1) (jB (adr b.data.toList).2.1) (jB (adr b.data.toList).2.2) w
 have CM := fun w => jd_Less (jB (adr b.data.toList).1) (jB (adr b.data.toList).2.1) (jB (adr b.data.toList).2.2) (jB (adr a.data.toList).1) (jB (adr a.data.toList).2.1) (jB (adr a.data.toList).2.2) w
 exact ro_order_v a b _ _ _ _ _ _ (lessT a.data.toList b.data.toList) (lessT b.data.toList a.data.toList) _ _ w hm CA CB CL CM
theorem ro_within (s : ByteArray) (lo hi : Nat) (w : World) (hs : s.size ≤ 10000) : Calls Tryz.prog 245 #[.string s, .int .i64 lo, .int .i64 hi] w (Ret w (.bool (withinP lo hi s.data.toList))) := by
 have T0 := tx_Check s w hs
 have hq : withinP lo hi s.data.toList = (decide (lo ≤ s.size) && (decide (s.size ≤ hi) && txP s.data.toList)) := by unfold withinP; rw [size_toList]
 rw [hq]
 obtain ⟨t, ht⟩ : ∃ t, txP s.data.toList = t := ⟨_, rfl⟩
 rw [ht] at T0 ⊢
 have TH := Lib.hid T0
 clear T0 ht hq
 by_cases h1 : lo ≤ s.size
 ·rw [decide_eq_true h1, Bool.true_and]
  by_cases h2 : s.size ≤ hi
  ·rw [decide_eq_true h2, Bool.true_and]
   cases t with
   | true =>
    go_enter Tryz.func245, Tryz.ntmps245
    go_wp2_with fail
    refine TH.out.mono ?_
    rintro e w1 ⟨rfl, hb⟩
    go_wp2_with fail
    go_ret
    exact ⟨rfl, hb⟩
   | false =>
    go_enter Tryz.func245, Tryz.ntmps245
    go_wp2_with fail
    refine TH.out.mono ?_
    rintro e w1 ⟨rfl, hb⟩
    go_wp2_with fail
    go_ret
    exact ⟨rfl, hb⟩
  ·rw [decide_eq_false h2, Bool.false_and]
   have g2 : decide (s.size ≤ hi) = false := decide_eq_false h2
   clear h2
   go_enter Tryz.func245, Tryz.ntmps245
   go_wp2_with fail
   go_ret
   exact ⟨rfl, Below.refl _ _⟩
 ·rw [decide_eq_false h1, Bool.false_and]
  have g2 : decide (lo ≤ s.size) = false := decide_eq_false h1
  clear h1
  go_enter Tryz.func245, Tryz.ntmps245
  go_wp2_with fail
  go_ret
  exact ⟨rfl, Below.refl _ _⟩
end Go.Proofs.YtjgeiieiinmdnaaGreatDoor
namespace Go.Proofs.YtjgeiieiinmdnaaGreatDoor
open Go.RowKit Go.Lib

theorem IsVals.take {v : Value} {vs : List Value} {w : World} (h : IsVals v vs w) (k : Nat) (hk : k ≤ vs.length) (a : Option Addr) (n cap : Nat) (hv : v = .slice a n cap) : IsVals (.slice a k cap) (vs.take k) w := by
 obtain ⟨a', cap', h1, h0, h2⟩ := h
 rw [hv] at h1
 simp only [Value.slice.injEq] at h1
 obtain ⟨rfl, rfl, rfl⟩ := h1
 refine ⟨a, cap, by rw [List.length_take, Nat.min_eq_left hk], h0, ?_⟩
 rcases h2 with h2 | ⟨b, off, h2, h3, h4⟩
 ·exact .inl (by rw [h2]; simp)
 ·refine .inr ⟨b, off, h2, h3, fun j hj => ?_⟩
  rw [List.length_take] at hj
  rw [h4 j (by omega), List.getElem_take]
theorem strV_take (g : List (List UInt8)) (k : Nat) : (strV g).take k = strV (g.take k) := by simp [strV]
theorem once_snoc (l : List (List UInt8)) (a : List UInt8) : onceP (l ++ [a]) = (onceP l && !l.contains a) := by
 induction l with
 | nil => rfl
 | cons b l ih =>
  rw [List.cons_append]
  unfold onceP
  rw [ih]
  have e1 : (l ++ [a]).contains b = (l.contains b || a == b) := by
   rw [Bool.eq_iff_iff]; simp
   constructor <;> (rintro (h | h) <;> simp [h])
  have e2 : (b :: l).contains a = (a == b || l.contains a) := by
   rw [List.contains_cons]
  rw [e1, e2]
  cases l.contains b <;> cases (a == b) <;> cases onceP l <;> cases l.contains a <;> rfl
theorem once_left {l r : List (List UInt8)} (h : onceP l = false) : onceP (l ++ r) = false := by
 induction r generalizing l with
 | nil => rwa [List.append_nil]
 | cons a r ih =>
  rw [List.append_cons]
  exact ih (by rw [once_snoc, h]; rfl)
set_option maxHeartbeats 4000000 in
theorem ro_words (n : ByteArray) (v : Value) (g : List (List UInt8)) (w : World) (hn : n.size ≤ 10000) (hg0 : IsGrp v g w) (hg : g.length ≤ 1000) (hz : ∀ x ∈ g, x.length ≤ 10000) :
  Calls Tryz.prog 211 #[.string n, v] w (Ret w (.bool (wordsP n.data.toList g))) := by
 have HN := Lib.hid fun w => ro_within n 0 64 w hn
 have HW := Lib.hid fun (k : Nat) (hk : k < g.length) w => ro_within ⟨(g[k]).toArray⟩ 1 32 w (by rw [← size_toList]; exact hz _ (List.getElem_mem hk))
 obtain ⟨hv, a, cap, hv1, hcap⟩ := hg0
 obtain ⟨O, hO⟩ : ∃ O, wordsP n.data.toList g = O := ⟨_, rfl⟩
 rw [hO]
 have HO := Lib.hid hO
 have HV := Lib.hid hv
 obtain ⟨L, hL⟩ : ∃ L, g.length = L := ⟨_, rfl⟩
 rw [hL] at hv1 hg hcap
 have HL := Lib.hid hL
 subst hv1
 clear hv hO hL hz
 go_enter Tryz.func211, Tryz.ntmps211
 go_wp2_with fail
 go_loopw [9] (fun i wx => ∃ k : Nat, k ≤ L ∧ i = .int .i64 k ∧ (g.take k).all (withinP 1 32) = true ∧ onceP (g.take k) = true ∧ Below w.heap.size w wx) (fun i _ => L - (intOf i).toNat)
 case atStart => exact ⟨0, Nat.zero_le _, rfl, rfl, rfl, Below.refl _ _⟩
 case round =>
  obtain ⟨k, hk, rfl, hall, honce, hbw⟩ := hrel
  have hsz := hbw.size
  by_cases hlt : k < L
  ·have hkg : k < g.length := by rw [HL.out]; exact hlt
   have hkc : k ≤ cap := by omega
   have hV := HV.out.ret hbw
   obtain ⟨b, off, cp, hf, hb0, hc⟩ := vals_cell' hV (k := k) (by rw [strV_len]; exact hkg)
   rw [strV_len, HL.out] at hf
   simp only [Value.slice.injEq, true_and] at hf
   obtain ⟨rfl, rfl⟩ := hf
   have hck := hc k (by rw [strV_len]; exact hkg)
   have hT := hV.take k (by rw [strV_len]; omega) (some ⟨b, off, none⟩) L cap rfl
   rw [strV_take] at hT
   have e1 : (strV g)[k]'(by rw [strV_len]; exact hkg) = .string ⟨(g[k]).toArray⟩ := by simp [strV]
   rw [e1] at hck
   have hW := fun w => HW.out k hkg w
   have hC := fun (w' : World) (hb : Below wr.heap.size wr w') => vals_contains (.slice (some ⟨b, off, none⟩) k cap) (g.take k) g[k] w' (hT.ret hb) (by rw [List.length_take]; omega)
   have hsn : (g.take (k + 1)) = g.take k ++ [g[k]] := List.take_succ_eq_append_getElem hkg
   have hl1 : withinP 1 32 g[k] = false → O = false := fun h => by
    rw [← HO.out]
    unfold wordsP
    have : g.all (withinP 1 32) = false := by
     rw [← List.take_append_drop (k + 1) g, List.all_append, hsn, List.all_append]
     simp [h]
    rw [this]; rfl
   have hl2 : (g.take k).contains g[k] = true → O = false := fun h => by
    rw [← HO.out]
    unfold wordsP
    have : onceP g = false := by
     rw [← List.take_append_drop (k + 1) g]
     exact once_left (by rw [hsn, once_snoc, h]; simp)
    rw [this]; simp
   have hs1 : withinP 1 32 g[k] = true → (g.take (k + 1)).all (withinP 1 32) = true := fun h => by
    rw [hsn, List.all_append, hall]
    simp [h]
   have hs2 : (g.take k).contains g[k] = false → onceP (g.take (k + 1)) = true := fun h => by
    rw [hsn, once_snoc, h, honce]; rfl
   have hm : decide (g[k] ∈ g.take k) = (g.take k).contains g[k] := by simp
   rw [hm] at hC
   obtain ⟨x, hx⟩ : ∃ x : ByteArray, ⟨(g[k]).toArray⟩ = x := ⟨_, rfl⟩
   rw [hx] at hck hW
   have hC' : ∀ (w' : World), Below wr.heap.size wr w' → Calls Tryz.prog 57 #[.slice (some ⟨b, off, none⟩) k cap, .string x] w' (Ret w' (.bool ((g.take k).contains g[k]))) := fun w' hb => by rw [← hx]; exact hC w' hb
   have hi1 : x.data.toList = g[k] := by rw [← hx]
   have hW' : ∀ w, Calls Tryz.prog 245 #[.string x, .int .i64 (1 : Nat), .int .i64 (32 : Nat)] w (Ret w (.bool (withinP 1 32 g[k]))) := fun w => by
    have := hW w
    first | exact this | (rw [hi1] at this; exact this)
   obtain ⟨P1, hP1⟩ : ∃ P1, withinP 1 32 g[k] = P1 := ⟨_, rfl⟩
   obtain ⟨P2, hP2⟩ : ∃ P2, (g.take k).contains g[k] = P2 := ⟨_, rfl⟩
   rw [hP1] at hl1 hs1 hW'
   rw [hP2] at hl2 hs2 hC'
   have WH := Lib.hid hW'
   have CH := Lib.hid hC'
   have L1 := Lib.hid hl1
   have L2 := Lib.hid hl2
   have S1 := Lib.hid hs1
   have S2 := Lib.hid hs2
   clear hW hW' hC hC' hl1 hl2 hs1 hs2 hx hi1 hP1 hP2 hsn hm hT hV hc e1 hall honce
   cases P1 with
   | false =>
    have := L1.out (by first | exact rfl | exact trivial)
    subst this
    go_wp2_with fail
    refine (WH.out _).mono ?_
    rintro e w1 ⟨rfl, hb⟩
    go_wp2_with fail
    go_ret
    exact ⟨rfl, hbw.trans (hb.mono hsz)⟩
   | true =>
    go_wp2_with fail
    refine (WH.out _).mono ?_
    rintro e w1 ⟨rfl, hb⟩
    have b1 := hbw.trans (hb.mono hsz)
    have C1 := Lib.hid (CH.out _ hb)
    clear hb
    cases P2 with
    | true =>
     have := L2.out (by first | exact rfl | exact trivial)
     subst this
     go_wp2_with fail
     refine (C1.out).mono ?_
     rintro e w2 ⟨rfl, hb⟩
     go_wp2_with fail
     go_ret
     exact ⟨rfl, b1.trans (hb.mono b1.size)⟩
    | false =>
     go_wp2_with fail
     refine (C1.out).mono ?_
     rintro e w2 ⟨rfl, hb⟩
     have b2 := b1.trans (hb.mono b1.size)
     clear hb
     go_wp2_with fail
     go_roundw
     case rel => exact ⟨k + 1, by omega, by go_num, S1.out (by first | exact rfl | exact trivial), S2.out (by first | exact rfl | exact trivial), b2⟩
     case measure => simp [intOf]; omega
  ·have hO := HO.out
   have e : g.take k = g := List.take_of_length_le (by rw [HL.out]; omega)
   rw [e] at hall honce
   unfold wordsP at hO
   rw [hall, honce, HL.out, Bool.true_and, Bool.true_and] at hO
   have NH := HN.out
   obtain ⟨Q, hQ⟩ : ∃ Q, withinP 0 64 n.data.toList = Q := ⟨_, rfl⟩
   rw [hQ] at NH hO
   have N1 := Lib.hid NH
   clear NH hQ hall honce e HO HN HW HV
   cases Q with
   | false =>
    have : O = false := by rw [← hO]; rfl
    subst this
    clear hO
    go_wp2_with fail
    refine (N1.out _).mono ?_
    rintro e w1 ⟨rfl, hb⟩
    go_wp2_with fail
    go_ret
    exact ⟨rfl, hbw.trans (hb.mono hsz)⟩
   | true =>
    rw [Bool.true_and] at hO
    have hq : decide ((L : Int) ≤ 4) = O := by rw [← hO]; exact decide_eq_decide.2 (by omega)
    clear hO
    go_wp2_with fail
    refine (N1.out _).mono ?_
    rintro e w1 ⟨rfl, hb⟩
    go_wp2_with fail
    go_ret
    exact ⟨by first | rfl | simp [hq], hbw.trans (hb.mono hsz)⟩
set_option maxHeartbeats 1000000 in
theorem eq_sub (a b c d x y z u : Bool) (w : World) : (Op.equalIn 10000 97 (.agg #[.bool a, .bool b, .bool c, .bool d]) (.agg #[.bool x, .bool y, .bool z, .bool u])).run Tryz.prog w = .ok (decide ((a, b, c, d) = (x, y, z, u))) w := by
 have u3 := Tryz.underlying4
 have hS : Tryz.prog.underlying 97 = some (.struct (Tryz.prog.fieldsOf 97)) := by kernel_rfl
 have hp : Tryz.prog.stoodInHeld 97 = false := by kernel_rfl
 rw [show (10000 : Nat) = 9999 + 1 from rfl, run_equalIn_agg w 9999 97 _ _ hS hp]
 simp only [Program.fieldsOf, Tryz.underlying97]
 go_simp
 clear u3 hS hp
 cases a <;> cases b <;> cases c <;> cases d <;> cases x <;> cases y <;> cases z <;> cases u <;> rfl
theorem eg_sub : Tryz.prog.eqGuardType Tryz.prog.depth 97 = false := by kernel_rfl
theorem eql_sub (a b c d x y z u : Bool) (w : World) : (binOp .eql 97 (.agg #[.bool a, .bool b, .bool c, .bool d]) (.agg #[.bool x, .bool y, .bool z, .bool u])).run Tryz.prog w = .ok (.bool (decide ((a, b, c, d) = (x, y, z, u)))) w := by
 rw [run_eql_struct, eq_sub]
 rfl
set_option maxHeartbeats 4000000 in
theorem ro_item_N (j n X Y Z : ByteArray) (ga : Option Addr) (L cap : Nat) (a b c d k ok W S : Bool) (w : World) (hm : ML w) (hn : (n.toList == []) = false)
  (CA : ∀ w : World, ML w → Calls Tryz.prog 210 #[.string j] w (Ret w (.tuple #[jV X Y Z, .bool ok])))
  (CW : ∀ w' : World, Below w.heap.size w w' → Calls Tryz.prog 211 #[.string n, .slice ga L cap] w' (Ret w' (.bool W)))
  (CS : ∀ w : World, Calls Tryz.prog 212 #[.agg #[.bool a, .bool b, .bool c, .bool d]] w (Ret w (.int .i64 (if S then 0 else 8)))) :
  Calls Tryz.prog 174 #[.agg #[.string j, .string n, .slice ga L cap, .bool a, .bool b, .bool c, .bool d, .bool k]] w (Ret w (.bool (ok && (W && (S && (k || false)))))) := by
 have x0 := It8.new w (.string j) (.string n) (.slice ga L cap) (.bool a) (.bool b) (.bool c) (.bool d) (.bool k) 99
 have q0 := (Below.refl w.heap.size w).alloc (Nat.le_refl _) (.cells #[.string j, .string n, .slice ga L cap, .bool a, .bool b, .bool c, .bool d, .bool k] 99)
 have m0 := hm.ret q0
 have HA := Lib.hid CA
 have HW := Lib.hid CW
 have HS := Lib.hid CS
 have EQ := eql_sub
 have EG := eg_sub
 clear CA CW CS
 cases ok with
 | false =>
  go_enter Tryz.func174, Tryz.ntmps174
  go_wp2_with fail
  refine (HA.out _ m0).mono ?_
  rintro e w1 ⟨rfl, hb⟩
  have al := (Below.refl w1.heap.size w1).alloc (Nat.le_refl _) (.cells #[.string X, .string Y, .string Z] 117)
  have x2 := (x0.ret hb).ret al
  have q1 := q0.trans (hb.mono q0.size)
  have q2 := q1.trans (al.mono q1.size)
  clear hb al q1 x0
  obtain ⟨l, c0, c1, c2, c3, c4, c5, c6, c7, -, -, -, -, -, -, -, -⟩ := id x2
  go_wp2_with fail
  go_ret
  exact ⟨by first | rfl | simp, q2⟩
 | true =>
  cases W with
  | false =>
   go_enter Tryz.func174, Tryz.ntmps174
   go_wp2_with fail
   refine (HA.out _ m0).mono ?_
   rintro e w1 ⟨rfl, hb⟩
   have al := (Below.refl w1.heap.size w1).alloc (Nat.le_refl _) (.cells #[.string X, .string Y, .string Z] 117)
   have x2 := (x0.ret hb).ret al
   have q1 := q0.trans (hb.mono q0.size)
   have q2 := q1.trans (al.mono q1.size)
   clear hb al q1 x0
   obtain ⟨l, c0, c1, c2, c3, c4, c5, c6, c7, -, -, -, -, -, -, -, -⟩ := id x2
   go_wp2_with fail
   refine (HW.out _ q2).mono ?_
   rintro e w3 ⟨rfl, hb⟩
   have x3 := x2.ret hb
   have q3 := q2.trans (hb.mono q2.size)
   clear l c0 c1 c2 c3 c4 c5 c6 c7
   clear hb x2
   obtain ⟨l, c0, c1, c2, c3, c4, c5, c6, c7, -, -, -, -, -, -, -, -⟩ := id x3
   go_wp2_with fail
   go_ret
   exact ⟨by first | rfl | simp, q3⟩
  | true =>
   cases S with
   | false =>
    go_enter Tryz.func174, Tryz.ntmps174
    go_wp2_with fail
    refine (HA.out _ m0).mono ?_
    rintro e w1 ⟨rfl, hb⟩
    have al := (Below.refl w1.heap.size w1).alloc (Nat.le_refl _) (.cells #[.string X, .string Y, .string Z] 117)
    have x2 := (x0.ret hb).ret al
    have q1 := q0.trans (hb.mono q0.size)
    have q2 := q1.trans (al.mono q1.size)
    clear hb al q1 x0
    obtain ⟨l, c0, c1, c2, c3, c4, c5, c6, c7, -, -, -, -, -, -, -, -⟩ := id x2
    go_wp2_with fail
    refine (HW.out _ q2).mono ?_
    rintro e w3 ⟨rfl, hb⟩
    have x3 := x2.ret hb
    have q3 := q2.trans (hb.mono q2.size)
    clear l c0 c1 c2 c3 c4 c5 c6 c7
    clear hb x2
    obtain ⟨l, c0, c1, c2, c3, c4, c5, c6, c7, -, -, -, -, -, -, -, -⟩ := id x3
    go_wp2_with fail
    refine (HS.out _).mono ?_
    rintro e w4 ⟨rfl, hb⟩
    have x4 := x3.ret hb
    have q4 := q3.trans (hb.mono q3.size)
    clear l c0 c1 c2 c3 c4 c5 c6 c7
    clear hb x3
    obtain ⟨l, c0, c1, c2, c3, c4, c5, c6, c7, -, -, -, -, -, -, -, -⟩ := id x4
    go_wp2_with fail
    go_ret
    exact ⟨by first | rfl | simp, q4⟩
   | true =>
    cases k with
    | true =>
     go_enter Tryz.func174, Tryz.ntmps174
     go_wp2_with fail
     refine (HA.out _ m0).mono ?_
     rintro e w1 ⟨rfl, hb⟩
     have al := (Below.refl w1.heap.size w1).alloc (Nat.le_refl _) (.cells #[.string X, .string Y, .string Z] 117)
     have x2 := (x0.ret hb).ret al
     have q1 := q0.trans (hb.mono q0.size)
     have q2 := q1.trans (al.mono q1.size)
     clear hb al q1 x0
     obtain ⟨l, c0, c1, c2, c3, c4, c5, c6, c7, -, -, -, -, -, -, -, -⟩ := id x2
     go_wp2_with fail
     refine (HW.out _ q2).mono ?_
     rintro e w3 ⟨rfl, hb⟩
     have x3 := x2.ret hb
     have q3 := q2.trans (hb.mono q2.size)
     clear l c0 c1 c2 c3 c4 c5 c6 c7
     clear hb x2
     obtain ⟨l, c0, c1, c2, c3, c4, c5, c6, c7, -, -, -, -, -, -, -, -⟩ := id x3
     go_wp2_with fail
     refine (HS.out _).mono ?_
     rintro e w4 ⟨rfl, hb⟩
     have x4 := x3.ret hb
     have q4 := q3.trans (hb.mono q3.size)
     clear l c0 c1 c2 c3 c4 c5 c6 c7
     clear hb x3
     obtain ⟨l, c0, c1, c2, c3, c4, c5, c6, c7, -, -, -, -, -, -, -, -⟩ := id x4
     go_wp2_with fail
     go_ret
     exact ⟨by first | rfl | simp, q4⟩
    | false =>
     go_enter Tryz.func174, Tryz.ntmps174
     go_wp2_with fail
     refine (HA.out _ m0).mono ?_
     rintro e w1 ⟨rfl, hb⟩
     have al := (Below.refl w1.heap.size w1).alloc (Nat.le_refl _) (.cells #[.string X, .string Y, .string Z] 117)
     have x2 := (x0.ret hb).ret al
     have q1 := q0.trans (hb.mono q0.size)
     have q2 := q1.trans (al.mono q1.size)
     clear hb al q1 x0
     obtain ⟨l, c0, c1, c2, c3, c4, c5, c6, c7, -, -, -, -, -, -, -, -⟩ := id x2
     go_wp2_with fail
     refine (HW.out _ q2).mono ?_
     rintro e w3 ⟨rfl, hb⟩
     have x3 := x2.ret hb
     have q3 := q2.trans (hb.mono q2.size)
     clear l c0 c1 c2 c3 c4 c5 c6 c7
     clear hb x2
     obtain ⟨l, c0, c1, c2, c3, c4, c5, c6, c7, -, -, -, -, -, -, -, -⟩ := id x3
     go_wp2_with fail
     refine (HS.out _).mono ?_
     rintro e w4 ⟨rfl, hb⟩
     have x4 := x3.ret hb
     have q4 := q3.trans (hb.mono q3.size)
     clear l c0 c1 c2 c3 c4 c5 c6 c7
     clear hb x3
     obtain ⟨l, c0, c1, c2, c3, c4, c5, c6, c7, -, -, -, -, -, -, -, -⟩ := id x4
     go_wp2_with fail
     go_ret
     exact ⟨by first | rfl | simp, q4⟩
set_option maxHeartbeats 4000000 in
theorem ro_item_G (j n X Y Z : ByteArray) (ga : Option Addr) (L cap : Nat) (a b c d k ok W S : Bool) (w : World) (hm : ML w) (hn : (n.toList == []) = true) (hg : ((L : Int) == 0) = false)
  (CA : ∀ w : World, ML w → Calls Tryz.prog 210 #[.string j] w (Ret w (.tuple #[jV X Y Z, .bool ok])))
  (CW : ∀ w' : World, Below w.heap.size w w' → Calls Tryz.prog 211 #[.string n, .slice ga L cap] w' (Ret w' (.bool W)))
  (CS : ∀ w : World, Calls Tryz.prog 212 #[.agg #[.bool a, .bool b, .bool c, .bool d]] w (Ret w (.int .i64 (if S then 0 else 8)))) :
  Calls Tryz.prog 174 #[.agg #[.string j, .string n, .slice ga L cap, .bool a, .bool b, .bool c, .bool d, .bool k]] w (Ret w (.bool (ok && (W && (S && (k || false)))))) := by
 have x0 := It8.new w (.string j) (.string n) (.slice ga L cap) (.bool a) (.bool b) (.bool c) (.bool d) (.bool k) 99
 have q0 := (Below.refl w.heap.size w).alloc (Nat.le_refl _) (.cells #[.string j, .string n, .slice ga L cap, .bool a, .bool b, .bool c, .bool d, .bool k] 99)
 have m0 := hm.ret q0
 have HA := Lib.hid CA
 have HW := Lib.hid CW
 have HS := Lib.hid CS
 have EQ := eql_sub
 have EG := eg_sub
 clear CA CW CS
 cases ok with
 | false =>
  go_enter Tryz.func174, Tryz.ntmps174
  go_wp2_with fail
  refine (HA.out _ m0).mono ?_
  rintro e w1 ⟨rfl, hb⟩
  have al := (Below.refl w1.heap.size w1).alloc (Nat.le_refl _) (.cells #[.string X, .string Y, .string Z] 117)
  have x2 := (x0.ret hb).ret al
  have q1 := q0.trans (hb.mono q0.size)
  have q2 := q1.trans (al.mono q1.size)
  clear hb al q1 x0
  obtain ⟨l, c0, c1, c2, c3, c4, c5, c6, c7, -, -, -, -, -, -, -, -⟩ := id x2
  go_wp2_with fail
  go_ret
  exact ⟨by first | rfl | simp, q2⟩
 | true =>
  cases W with
  | false =>
   go_enter Tryz.func174, Tryz.ntmps174
   go_wp2_with fail
   refine (HA.out _ m0).mono ?_
   rintro e w1 ⟨rfl, hb⟩
   have al := (Below.refl w1.heap.size w1).alloc (Nat.le_refl _) (.cells #[.string X, .string Y, .string Z] 117)
   have x2 := (x0.ret hb).ret al
   have q1 := q0.trans (hb.mono q0.size)
   have q2 := q1.trans (al.mono q1.size)
   clear hb al q1 x0
   obtain ⟨l, c0, c1, c2, c3, c4, c5, c6, c7, -, -, -, -, -, -, -, -⟩ := id x2
   go_wp2_with fail
   refine (HW.out _ q2).mono ?_
   rintro e w3 ⟨rfl, hb⟩
   have x3 := x2.ret hb
   have q3 := q2.trans (hb.mono q2.size)
   clear l c0 c1 c2 c3 c4 c5 c6 c7
   clear hb x2
   obtain ⟨l, c0, c1, c2, c3, c4, c5, c6, c7, -, -, -, -, -, -, -, -⟩ := id x3
   go_wp2_with fail
   go_ret
   exact ⟨by first | rfl | simp, q3⟩
  | true =>
   cases S with
   | false =>
    go_enter Tryz.func174, Tryz.ntmps174
    go_wp2_with fail
    refine (HA.out _ m0).mono ?_
    rintro e w1 ⟨rfl, hb⟩
    have al := (Below.refl w1.heap.size w1).alloc (Nat.le_refl _) (.cells #[.string X, .string Y, .string Z] 117)
    have x2 := (x0.ret hb).ret al
    have q1 := q0.trans (hb.mono q0.size)
    have q2 := q1.trans (al.mono q1.size)
    clear hb al q1 x0
    obtain ⟨l, c0, c1, c2, c3, c4, c5, c6, c7, -, -, -, -, -, -, -, -⟩ := id x2
    go_wp2_with fail
    refine (HW.out _ q2).mono ?_
    rintro e w3 ⟨rfl, hb⟩
    have x3 := x2.ret hb
    have q3 := q2.trans (hb.mono q2.size)
    clear l c0 c1 c2 c3 c4 c5 c6 c7
    clear hb x2
    obtain ⟨l, c0, c1, c2, c3, c4, c5, c6, c7, -, -, -, -, -, -, -, -⟩ := id x3
    go_wp2_with fail
    refine (HS.out _).mono ?_
    rintro e w4 ⟨rfl, hb⟩
    have x4 := x3.ret hb
    have q4 := q3.trans (hb.mono q3.size)
    clear l c0 c1 c2 c3 c4 c5 c6 c7
    clear hb x3
    obtain ⟨l, c0, c1, c2, c3, c4, c5, c6, c7, -, -, -, -, -, -, -, -⟩ := id x4
    go_wp2_with fail
    go_ret
    exact ⟨by first | rfl | simp, q4⟩
   | true =>
    cases k with
    | true =>
     go_enter Tryz.func174, Tryz.ntmps174
     go_wp2_with fail
     refine (HA.out _ m0).mono ?_
     rintro e w1 ⟨rfl, hb⟩
     have al := (Below.refl w1.heap.size w1).alloc (Nat.le_refl _) (.cells #[.string X, .string Y, .string Z] 117)
     have x2 := (x0.ret hb).ret al
     have q1 := q0.trans (hb.mono q0.size)
     have q2 := q1.trans (al.mono q1.size)
     clear hb al q1 x0
     obtain ⟨l, c0, c1, c2, c3, c4, c5, c6, c7, -, -, -, -, -, -, -, -⟩ := id x2
     go_wp2_with fail
     refine (HW.out _ q2).mono ?_
     rintro e w3 ⟨rfl, hb⟩
     have x3 := x2.ret hb
     have q3 := q2.trans (hb.mono q2.size)
     clear l c0 c1 c2 c3 c4 c5 c6 c7
     clear hb x2
     obtain ⟨l, c0, c1, c2, c3, c4, c5, c6, c7, -, -, -, -, -, -, -, -⟩ := id x3
     go_wp2_with fail
     refine (HS.out _).mono ?_
     rintro e w4 ⟨rfl, hb⟩
     have x4 := x3.ret hb
     have q4 := q3.trans (hb.mono q3.size)
     clear l c0 c1 c2 c3 c4 c5 c6 c7
     clear hb x3
     obtain ⟨l, c0, c1, c2, c3, c4, c5, c6, c7, -, -, -, -, -, -, -, -⟩ := id x4
     go_wp2_with fail
     go_ret
     exact ⟨by first | rfl | simp, q4⟩
    | false =>
     go_enter Tryz.func174, Tryz.ntmps174
     go_wp2_with fail
     refine (HA.out _ m0).mono ?_
     rintro e w1 ⟨rfl, hb⟩
     have al := (Below.refl w1.heap.size w1).alloc (Nat.le_refl _) (.cells #[.string X, .string Y, .string Z] 117)
     have x2 := (x0.ret hb).ret al
     have q1 := q0.trans (hb.mono q0.size)
     have q2 := q1.trans (al.mono q1.size)
     clear hb al q1 x0
     obtain ⟨l, c0, c1, c2, c3, c4, c5, c6, c7, -, -, -, -, -, -, -, -⟩ := id x2
     go_wp2_with fail
     refine (HW.out _ q2).mono ?_
     rintro e w3 ⟨rfl, hb⟩
     have x3 := x2.ret hb
     have q3 := q2.trans (hb.mono q2.size)
     clear l c0 c1 c2 c3 c4 c5 c6 c7
     clear hb x2
     obtain ⟨l, c0, c1, c2, c3, c4, c5, c6, c7, -, -, -, -, -, -, -, -⟩ := id x3
     go_wp2_with fail
     refine (HS.out _).mono ?_
     rintro e w4 ⟨rfl, hb⟩
     have x4 := x3.ret hb
     have q4 := q3.trans (hb.mono q3.size)
     clear l c0 c1 c2 c3 c4 c5 c6 c7
     clear hb x3
     obtain ⟨l, c0, c1, c2, c3, c4, c5, c6, c7, -, -, -, -, -, -, -, -⟩ := id x4
     go_wp2_with fail
     go_ret
     exact ⟨by first | rfl | simp, q4⟩
set_option maxHeartbeats 4000000 in
theorem ro_item_S (j n X Y Z : ByteArray) (ga : Option Addr) (L cap : Nat) (a b c d k ok W S sE : Bool) (w : World) (hm : ML w) (hn : (n.toList == []) = true) (hg : ((L : Int) == 0) = true) (hs : decide ((a, b, c, d) = (false, false, false, true)) = sE)
  (CA : ∀ w : World, ML w → Calls Tryz.prog 210 #[.string j] w (Ret w (.tuple #[jV X Y Z, .bool ok])))
  (CW : ∀ w' : World, Below w.heap.size w w' → Calls Tryz.prog 211 #[.string n, .slice ga L cap] w' (Ret w' (.bool W)))
  (CS : ∀ w : World, Calls Tryz.prog 212 #[.agg #[.bool a, .bool b, .bool c, .bool d]] w (Ret w (.int .i64 (if S then 0 else 8)))) :
  Calls Tryz.prog 174 #[.agg #[.string j, .string n, .slice ga L cap, .bool a, .bool b, .bool c, .bool d, .bool k]] w (Ret w (.bool (ok && (W && (S && (k || sE)))))) := by
 have x0 := It8.new w (.string j) (.string n) (.slice ga L cap) (.bool a) (.bool b) (.bool c) (.bool d) (.bool k) 99
 have q0 := (Below.refl w.heap.size w).alloc (Nat.le_refl _) (.cells #[.string j, .string n, .slice ga L cap, .bool a, .bool b, .bool c, .bool d, .bool k] 99)
 have m0 := hm.ret q0
 have HA := Lib.hid CA
 have HW := Lib.hid CW
 have HS := Lib.hid CS
 have EQ := eql_sub
 have EG := eg_sub
 clear CA CW CS
 subst hs
 cases ok with
 | false =>
  go_enter Tryz.func174, Tryz.ntmps174
  go_wp2_with fail
  refine (HA.out _ m0).mono ?_
  rintro e w1 ⟨rfl, hb⟩
  have al := (Below.refl w1.heap.size w1).alloc (Nat.le_refl _) (.cells #[.string X, .string Y, .string Z] 117)
  have x2 := (x0.ret hb).ret al
  have q1 := q0.trans (hb.mono q0.size)
  have q2 := q1.trans (al.mono q1.size)
  clear hb al q1 x0
  obtain ⟨l, c0, c1, c2, c3, c4, c5, c6, c7, -, -, -, -, -, -, -, -⟩ := id x2
  go_wp2_with fail
  go_ret
  exact ⟨by first | rfl | simp, q2⟩
 | true =>
  cases W with
  | false =>
   go_enter Tryz.func174, Tryz.ntmps174
   go_wp2_with fail
   refine (HA.out _ m0).mono ?_
   rintro e w1 ⟨rfl, hb⟩
   have al := (Below.refl w1.heap.size w1).alloc (Nat.le_refl _) (.cells #[.string X, .string Y, .string Z] 117)
   have x2 := (x0.ret hb).ret al
   have q1 := q0.trans (hb.mono q0.size)
   have q2 := q1.trans (al.mono q1.size)
   clear hb al q1 x0
   obtain ⟨l, c0, c1, c2, c3, c4, c5, c6, c7, -, -, -, -, -, -, -, -⟩ := id x2
   go_wp2_with fail
   refine (HW.out _ q2).mono ?_
   rintro e w3 ⟨rfl, hb⟩
   have x3 := x2.ret hb
   have q3 := q2.trans (hb.mono q2.size)
   clear l c0 c1 c2 c3 c4 c5 c6 c7
   clear hb x2
   obtain ⟨l, c0, c1, c2, c3, c4, c5, c6, c7, -, -, -, -, -, -, -, -⟩ := id x3
   go_wp2_with fail
   go_ret
   exact ⟨by first | rfl | simp, q3⟩
  | true =>
   cases S with
   | false =>
    go_enter Tryz.func174, Tryz.ntmps174
    go_wp2_with fail
    refine (HA.out _ m0).mono ?_
    rintro e w1 ⟨rfl, hb⟩
    have al := (Below.refl w1.heap.size w1).alloc (Nat.le_refl _) (.cells #[.string X, .string Y, .string Z] 117)
    have x2 := (x0.ret hb).ret al
    have q1 := q0.trans (hb.mono q0.size)
    have q2 := q1.trans (al.mono q1.size)
    clear hb al q1 x0
    obtain ⟨l, c0, c1, c2, c3, c4, c5, c6, c7, -, -, -, -, -, -, -, -⟩ := id x2
    go_wp2_with fail
    refine (HW.out _ q2).mono ?_
    rintro e w3 ⟨rfl, hb⟩
    have x3 := x2.ret hb
    have q3 := q2.trans (hb.mono q2.size)
    clear l c0 c1 c2 c3 c4 c5 c6 c7
    clear hb x2
    obtain ⟨l, c0, c1, c2, c3, c4, c5, c6, c7, -, -, -, -, -, -, -, -⟩ := id x3
    go_wp2_with fail
    refine (HS.out _).mono ?_
    rintro e w4 ⟨rfl, hb⟩
    have x4 := x3.ret hb
    have q4 := q3.trans (hb.mono q3.size)
    clear l c0 c1 c2 c3 c4 c5 c6 c7
    clear hb x3
    obtain ⟨l, c0, c1, c2, c3, c4, c5, c6, c7, -, -, -, -, -, -, -, -⟩ := id x4
    go_wp2_with fail
    go_ret
    exact ⟨by first | rfl | simp, q4⟩
   | true =>
    cases k with
    | true =>
     go_enter Tryz.func174, Tryz.ntmps174
     go_wp2_with fail
     refine (HA.out _ m0).mono ?_
     rintro e w1 ⟨rfl, hb⟩
     have al := (Below.refl w1.heap.size w1).alloc (Nat.le_refl _) (.cells #[.string X, .string Y, .string Z] 117)
     have x2 := (x0.ret hb).ret al
     have q1 := q0.trans (hb.mono q0.size)
     have q2 := q1.trans (al.mono q1.size)
     clear hb al q1 x0
     obtain ⟨l, c0, c1, c2, c3, c4, c5, c6, c7, -, -, -, -, -, -, -, -⟩ := id x2
     go_wp2_with fail
     refine (HW.out _ q2).mono ?_
     rintro e w3 ⟨rfl, hb⟩
     have x3 := x2.ret hb
     have q3 := q2.trans (hb.mono q2.size)
     clear l c0 c1 c2 c3 c4 c5 c6 c7
     clear hb x2
     obtain ⟨l, c0, c1, c2, c3, c4, c5, c6, c7, -, -, -, -, -, -, -, -⟩ := id x3
     go_wp2_with fail
     refine (HS.out _).mono ?_
     rintro e w4 ⟨rfl, hb⟩
     have x4 := x3.ret hb
     have q4 := q3.trans (hb.mono q3.size)
     clear l c0 c1 c2 c3 c4 c5 c6 c7
     clear hb x3
     obtain ⟨l, c0, c1, c2, c3, c4, c5, c6, c7, -, -, -, -, -, -, -, -⟩ := id x4
     go_wp2_with fail
     go_ret
     exact ⟨by first | rfl | simp, q4⟩
    | false =>
     go_enter Tryz.func174, Tryz.ntmps174
     go_wp2_with fail
     refine (HA.out _ m0).mono ?_
     rintro e w1 ⟨rfl, hb⟩
     have al := (Below.refl w1.heap.size w1).alloc (Nat.le_refl _) (.cells #[.string X, .string Y, .string Z] 117)
     have x2 := (x0.ret hb).ret al
     have q1 := q0.trans (hb.mono q0.size)
     have q2 := q1.trans (al.mono q1.size)
     clear hb al q1 x0
     obtain ⟨l, c0, c1, c2, c3, c4, c5, c6, c7, -, -, -, -, -, -, -, -⟩ := id x2
     go_wp2_with fail
     refine (HW.out _ q2).mono ?_
     rintro e w3 ⟨rfl, hb⟩
     have x3 := x2.ret hb
     have q3 := q2.trans (hb.mono q2.size)
     clear l c0 c1 c2 c3 c4 c5 c6 c7
     clear hb x2
     obtain ⟨l, c0, c1, c2, c3, c4, c5, c6, c7, -, -, -, -, -, -, -, -⟩ := id x3
     go_wp2_with fail
     refine (HS.out _).mono ?_
     rintro e w4 ⟨rfl, hb⟩
     have x4 := x3.ret hb
     have q4 := q3.trans (hb.mono q3.size)
     clear l c0 c1 c2 c3 c4 c5 c6 c7
     clear hb x3
     obtain ⟨l, c0, c1, c2, c3, c4, c5, c6, c7, -, -, -, -, -, -, -, -⟩ := id x4
     go_wp2_with fail
     go_ret
     exact ⟨by first | rfl | simp, q4⟩
theorem sub_may (a b c d : Bool) (w : World) : Calls Tryz.prog 212 #[.agg #[.bool a, .bool b, .bool c, .bool d]] w (Ret w (.int .i64 (if subMay (a, b, c, d) then 0 else 8))) := by
 have := sub_Check a b c d w
 have e : (if a && b || c && d then (8 : Int) else 0) = if subMay (a, b, c, d) then 0 else 8 := by
  cases a <;> cases b <;> cases c <;> cases d <;> rfl
 rwa [e] at this
theorem ro_item (p : Im) (w : World) (hv : IsGrp (gvI p) p.1.g w) (zj : p.1.j.length ≤ 10000) (zn : p.1.n.length ≤ 10000) (zg : p.1.g.length ≤ 1000) (zx : ∀ x ∈ p.1.g, x.length ≤ 10000) (hm : ML w) :
  Calls Tryz.prog 174 #[itA p] w (Ret w (.bool (itemP p.1))) := by
 obtain ⟨⟨j, n, g, ⟨a, b, c, d⟩, k⟩, ga, cap⟩ := p
 simp only at hv zj zn zg zx ⊢
 have CA := fun w m => ro_address ⟨j.toArray⟩ w (by rw [← size_toList]; exact zj) m
 have CW := fun (w' : World) (hb : Below w.heap.size w w') => ro_words ⟨n.toArray⟩ (.slice ga g.length cap) g w' (by rw [← size_toList]; exact zn) (hv.ret hb) zg zx
 have CS := sub_may a b c d
 have hI : itemP (j, n, g, (a, b, c, d), k) = (adrOk j && (wordsP n g && (subMay (a, b, c, d) && (k || (n.isEmpty && (g.isEmpty && decide ((a, b, c, d) = (false, false, false, true)))))))) := rfl
 rw [hI]
 unfold adrV at CA
 by_cases h1 : n = []
 ·subst h1
  by_cases h2 : g = []
  ·subst h2
   exact ro_item_S ⟨j.toArray⟩ (jB []) _ _ _ ga 0 cap a b c d k _ _ _ _ w hm (by rw [Lib.toList_data]; rfl) rfl rfl CA CW CS
  ·have e : g.isEmpty = false := by cases g with
    | nil => exact absurd rfl h2
    | cons => rfl
   rw [e, Bool.false_and, Bool.and_false]
   have hl : g.length ≠ 0 := fun h => h2 (List.eq_nil_of_length_eq_zero h)
   exact ro_item_G ⟨j.toArray⟩ (jB []) _ _ _ ga g.length cap a b c d k _ _ _ w hm (by rw [Lib.toList_data]; rfl) (beq_eq_false_iff_ne.2 (by omega)) CA CW CS
 ·have e : n.isEmpty = false := by cases n with
   | nil => exact absurd rfl h1
   | cons => rfl
  rw [e, Bool.false_and]
  exact ro_item_N _ _ _ _ _ ga _ cap a b c d k _ _ _ w hm (jB_ne e) CA CW CS
end Go.Proofs.YtjgeiieiinmdnaaGreatDoor
