/- RoV, RoW, RoX: put together by mergetpl.py. -/
import Derived.Test.YtfonkblbgadhmaaGreatDoorKn
import Derived.BigQuiet
import Derived.Test.YtfonkblbgadhmaaGreatDoorKi
namespace Go.Proofs.YtfonkblbgadhmaaGreatDoor
open Go.RowKit Go.Lib

set_option maxHeartbeats 4000000 in
set_option maxRecDepth 100000 in
theorem r21_Address_F (s : ByteArray) (w : World)
  (CP : ∀ w : World, Calls Tryz.prog 110 #[.string s] w (Ret w (.tuple #[jV ⟨#[]⟩ ⟨#[]⟩ ⟨#[]⟩, .int .i64 190]))) :
  Calls Tryz.prog 83 #[.string s] w (Ret w (.tuple #[jV ⟨#[]⟩ ⟨#[]⟩ ⟨#[]⟩, .bool false])) := by
 have r0 := JAt.new w ⟨#[]⟩ ⟨#[]⟩ ⟨#[]⟩
 have q0 := (Below.refl w.heap.size w).alloc (Nat.le_refl _) (.cells #[.string ⟨#[]⟩, .string ⟨#[]⟩, .string ⟨#[]⟩] 85)
 have HP := Lib.hid CP
 clear CP
 go_enter Tryz.func83, Tryz.ntmps83
 go_wp2_with fail
 refine (HP.out _).mono ?_
 rintro e w1 ⟨rfl, hb⟩
 have r1 := r0.ret hb
 have q1 := q0.trans (hb.mono q0.size)
 clear hb r0 q0
 have al := ((Below.refl w1.heap.size w1).alloc (Nat.le_refl _) (.cells #[.string ⟨#[]⟩, .string ⟨#[]⟩, .string ⟨#[]⟩] 85)).drew
 have j4 := (JAt.new w1 ⟨#[]⟩ ⟨#[]⟩ ⟨#[]⟩).ret (Below.drew (Below.refl _ _))
 have r4 := r1.ret al
 have q4 := q1.trans (al.mono q1.size)
 have hlt1 := r1.lt
 have hne : w1.heap.size ≠ w.heap.size := Nat.ne_of_gt hlt1
 clear al r1 q1
 go_wp2_with fail
 refine wp_region_held_drew (S := fun w' => w'.cell? ⟨w1.heap.size, 0, none⟩ = some (.string ⟨#[]⟩) ∧ w'.cell? ⟨w1.heap.size, 1, none⟩ = some (.string ⟨#[]⟩) ∧ w'.cell? ⟨w1.heap.size, 2, none⟩ = some (.string ⟨#[]⟩)) (by kernel_rfl) ⟨j4.c0, j4.c1, j4.c2⟩ (fun hHeld => ?_)
 generalize (w1.alloc (.cells #[.string ⟨#[]⟩, .string ⟨#[]⟩, .string ⟨#[]⟩] 85)).drew = V at j4 r4 q4 hHeld ⊢
 refine tk_start [(0, some 11), (1, some 12), (2, some 13), (3, some 14)] ?_
 iterate 4
  refine tk_step (v := ?_) (by kernel_rfl) (by kernel_rfl) (fun _ _ _ h => h) (by assumption) (fun o ho w' hSw => ?_) ?_
  rotate_left
  ·simp only [List.getElem?_toArray, List.getElem?_cons_succ, List.getElem?_cons_zero, Option.some.injEq] at ho; subst ho; (try dsimp only at hSw); go_simp; try with_reducible rfl
  simp only [Act.put, List.setIfInBounds_toArray, List.set_cons_zero, List.set_cons_succ]
 refine tk_end ?_
 refine tk_off (i := 4) (some 15) (by kernel_rfl) (by kernel_rfl) (by kernel_rfl) (by kernel_rfl) (fun _ _ _ h => h) (by assumption) ?_
 simp only [Act.put, List.setIfInBounds_toArray, List.set_cons_zero, List.set_cons_succ]
 refine tk_off (i := 5) (some 16) (by kernel_rfl) (by kernel_rfl) (by kernel_rfl) (by kernel_rfl) (fun _ _ _ h => h) (by assumption) ?_
 simp only [Act.put, List.setIfInBounds_toArray, List.set_cons_zero, List.set_cons_succ]
 refine tk_off (i := 6) (some 17) (by kernel_rfl) (by kernel_rfl) (by kernel_rfl) (by kernel_rfl) (fun _ _ _ h => h) (by assumption) ?_
 simp only [Act.put, List.setIfInBounds_toArray, List.set_cons_zero, List.set_cons_succ]
 refine tk_start [(7, some 18), (8, some 19)] ?_
 iterate 2
  refine tk_step (v := ?_) (by kernel_rfl) (by kernel_rfl) (fun _ _ _ h => h) (by assumption) (fun o ho w' hSw => ?_) ?_
  rotate_left
  ·simp only [List.getElem?_toArray, List.getElem?_cons_succ, List.getElem?_cons_zero, Option.some.injEq] at ho; subst ho; (try dsimp only at hSw); go_simp; try with_reducible rfl
  simp only [Act.put, List.setIfInBounds_toArray, List.set_cons_zero, List.set_cons_succ]
 refine tk_end ?_
 refine tk_off (i := 9) (some 20) (by kernel_rfl) (by kernel_rfl) (by kernel_rfl) (by kernel_rfl) (fun _ _ _ h => h) (by assumption) ?_
 simp only [Act.put, List.setIfInBounds_toArray, List.set_cons_zero, List.set_cons_succ]
 refine tk_off (i := 10) (some 21) (by kernel_rfl) (by kernel_rfl) (by kernel_rfl) (by kernel_rfl) (fun _ _ _ h => h) (by assumption) ?_
 simp only [Act.put, List.setIfInBounds_toArray, List.set_cons_zero, List.set_cons_succ]
 refine tk_off (i := 11) (some 22) (by kernel_rfl) (by kernel_rfl) (by kernel_rfl) (by kernel_rfl) (fun _ _ _ h => h) (by assumption) ?_
 simp only [Act.put, List.setIfInBounds_toArray, List.set_cons_zero, List.set_cons_succ]
 refine tk_off (i := 12) (some 23) (by kernel_rfl) (by kernel_rfl) (by kernel_rfl) (by kernel_rfl) (fun _ _ _ h => h) (by assumption) ?_
 simp only [Act.put, List.setIfInBounds_toArray, List.set_cons_zero, List.set_cons_succ]
 refine tk_on (i := 13) (some 24) (v := ?_) (by kernel_rfl) (by kernel_rfl) (by kernel_rfl) (by kernel_rfl) (fun _ _ _ h => h) (by assumption) (fun o ho w' hSw => ?_) ?_
 rotate_left
 ·(simp only [List.getElem?_toArray, List.getElem?_cons_succ, List.getElem?_cons_zero, Option.some.injEq] at ho; subst ho; (try dsimp only at hSw); go_simp; try with_reducible rfl)
 simp only [Act.put, List.setIfInBounds_toArray, List.set_cons_zero, List.set_cons_succ]
 refine tk_call (i := 14) (by kernel_rfl) (by kernel_rfl) (fun o ho K hK => ?_)
 simp only [List.getElem?_toArray, List.getElem?_cons_succ, List.getElem?_cons_zero, Option.some.injEq] at ho
 subst ho
 have f0 := r4.f0
 have f1 := r4.f1
 have f2 := r4.f2
 have g0 := r4.c0
 have g1 := r4.c1
 have g2 := r4.c2
 go_simp
 have j5 := ((j4.other (M := w.heap.size) (o := 0) hne (.string ⟨#[]⟩)).other (M := w.heap.size) (o := 1) hne (.string ⟨#[]⟩)).other (M := w.heap.size) (o := 2) hne (.string ⟨#[]⟩)
 have r5 := r4.set3 ⟨#[]⟩ ⟨#[]⟩ ⟨#[]⟩
 have q5 := jset_below q4 (Nat.le_refl _) (.string ⟨#[]⟩) (.string ⟨#[]⟩) (.string ⟨#[]⟩)
 clear hHeld f0 f1 f2 g0 g1 g2
 refine hK.out _ _ ⟨j5.c0, j5.c1, j5.c2⟩ (fun hHeld => ?_)
 clear hK K
 refine tk_on (i := 15) (some 3) (v := ?_) (by kernel_rfl) (by kernel_rfl) (by kernel_rfl) (by kernel_rfl) (fun _ _ _ h => h) (by assumption) (fun o ho w' hSw => ?_) ?_
 rotate_left
 ·(simp only [List.getElem?_toArray, List.getElem?_cons_succ, List.getElem?_cons_zero, Option.some.injEq] at ho; subst ho; (try dsimp only at hSw); go_simp; try with_reducible rfl)
 simp only [Act.put, List.setIfInBounds_toArray, List.set_cons_zero, List.set_cons_succ]
 refine wpAnyH_done (by kernel_rfl) ?_ _
 go_wp2_with fail
 refine bodyPost_ret (ret_jidb rfl rfl rfl r5) rfl ⟨rfl, q5⟩
set_option maxHeartbeats 4000000 in
set_option maxRecDepth 100000 in
theorem r21_Address_TR (s X Y Z : ByteArray) (w : World)
  (CP : ∀ w : World, Calls Tryz.prog 110 #[.string s] w (Ret w (.tuple #[jV X Y Z, .int .i64 0])))
  (hZ : (Z.toList == []) = false) :
  Calls Tryz.prog 83 #[.string s] w (Ret w (.tuple #[jV X Y Z, .bool false])) := by
 have r0 := JAt.new w ⟨#[]⟩ ⟨#[]⟩ ⟨#[]⟩
 have q0 := (Below.refl w.heap.size w).alloc (Nat.le_refl _) (.cells #[.string ⟨#[]⟩, .string ⟨#[]⟩, .string ⟨#[]⟩] 85)
 have HP := Lib.hid CP
 clear CP
 go_enter Tryz.func83, Tryz.ntmps83
 go_wp2_with fail
 refine (HP.out _).mono ?_
 rintro e w1 ⟨rfl, hb⟩
 have r1 := r0.ret hb
 have q1 := q0.trans (hb.mono q0.size)
 clear hb r0 q0
 have al := ((Below.refl w1.heap.size w1).alloc (Nat.le_refl _) (.cells #[.string X, .string Y, .string Z] 85)).drew
 have j4 := (JAt.new w1 X Y Z).ret (Below.drew (Below.refl _ _))
 have r4 := r1.ret al
 have q4 := q1.trans (al.mono q1.size)
 have hlt1 := r1.lt
 have hne : w1.heap.size ≠ w.heap.size := Nat.ne_of_gt hlt1
 clear al r1 q1
 go_wp2_with fail
 refine wp_region_held_drew (S := fun w' => w'.cell? ⟨w1.heap.size, 0, none⟩ = some (.string X) ∧ w'.cell? ⟨w1.heap.size, 1, none⟩ = some (.string Y) ∧ w'.cell? ⟨w1.heap.size, 2, none⟩ = some (.string Z)) (by kernel_rfl) ⟨j4.c0, j4.c1, j4.c2⟩ (fun hHeld => ?_)
 generalize (w1.alloc (.cells #[.string X, .string Y, .string Z] 85)).drew = V at j4 r4 q4 hHeld ⊢
 refine tk_start [(0, some 11), (1, some 12), (2, some 13), (3, some 14), (4, some 15), (5, some 16), (6, some 17), (7, some 18), (8, some 19)] ?_
 iterate 9
  refine tk_step (v := ?_) (by kernel_rfl) (by kernel_rfl) (fun _ _ _ h => h) (by assumption) (fun o ho w' hSw => ?_) ?_
  rotate_left
  ·simp only [List.getElem?_toArray, List.getElem?_cons_succ, List.getElem?_cons_zero, Option.some.injEq] at ho; subst ho; (try dsimp only at hSw); go_simp; try with_reducible rfl
  simp only [Act.put, List.setIfInBounds_toArray, List.set_cons_zero, List.set_cons_succ]
 refine tk_end ?_
 refine tk_off (i := 9) (some 20) (by kernel_rfl) (by kernel_rfl) (by kernel_rfl) (by kernel_rfl) (fun _ _ _ h => h) (by assumption) ?_
 simp only [Act.put, List.setIfInBounds_toArray, List.set_cons_zero, List.set_cons_succ]
 refine tk_off (i := 10) (some 21) (by kernel_rfl) (by kernel_rfl) (by kernel_rfl) (by kernel_rfl) (fun _ _ _ h => h) (by assumption) ?_
 simp only [Act.put, List.setIfInBounds_toArray, List.set_cons_zero, List.set_cons_succ]
 refine tk_off (i := 11) (some 22) (by kernel_rfl) (by kernel_rfl) (by kernel_rfl) (by kernel_rfl) (fun _ _ _ h => h) (by assumption) ?_
 simp only [Act.put, List.setIfInBounds_toArray, List.set_cons_zero, List.set_cons_succ]
 refine tk_off (i := 12) (some 23) (by kernel_rfl) (by kernel_rfl) (by kernel_rfl) (by kernel_rfl) (fun _ _ _ h => h) (by assumption) ?_
 simp only [Act.put, List.setIfInBounds_toArray, List.set_cons_zero, List.set_cons_succ]
 refine tk_on (i := 13) (some 24) (v := ?_) (by kernel_rfl) (by kernel_rfl) (by kernel_rfl) (by kernel_rfl) (fun _ _ _ h => h) (by assumption) (fun o ho w' hSw => ?_) ?_
 rotate_left
 ·(simp only [List.getElem?_toArray, List.getElem?_cons_succ, List.getElem?_cons_zero, Option.some.injEq] at ho; subst ho; (try dsimp only at hSw); go_simp; try with_reducible rfl)
 simp only [Act.put, List.setIfInBounds_toArray, List.set_cons_zero, List.set_cons_succ]
 refine tk_call (i := 14) (by kernel_rfl) (by kernel_rfl) (fun o ho K hK => ?_)
 simp only [List.getElem?_toArray, List.getElem?_cons_succ, List.getElem?_cons_zero, Option.some.injEq] at ho
 subst ho
 have f0 := r4.f0
 have f1 := r4.f1
 have f2 := r4.f2
 have g0 := r4.c0
 have g1 := r4.c1
 have g2 := r4.c2
 go_simp
 have j5 := ((j4.other (M := w.heap.size) (o := 0) hne (.string X)).other (M := w.heap.size) (o := 1) hne (.string Y)).other (M := w.heap.size) (o := 2) hne (.string Z)
 have r5 := r4.set3 X Y Z
 have q5 := jset_below q4 (Nat.le_refl _) (.string X) (.string Y) (.string Z)
 clear hHeld f0 f1 f2 g0 g1 g2
 refine hK.out _ _ ⟨j5.c0, j5.c1, j5.c2⟩ (fun hHeld => ?_)
 clear hK K
 refine tk_on (i := 15) (some 3) (v := ?_) (by kernel_rfl) (by kernel_rfl) (by kernel_rfl) (by kernel_rfl) (fun _ _ _ h => h) (by assumption) (fun o ho w' hSw => ?_) ?_
 rotate_left
 ·(simp only [List.getElem?_toArray, List.getElem?_cons_succ, List.getElem?_cons_zero, Option.some.injEq] at ho; subst ho; (try dsimp only at hSw); go_simp; try with_reducible rfl)
 simp only [Act.put, List.setIfInBounds_toArray, List.set_cons_zero, List.set_cons_succ]
 refine wpAnyH_done (by kernel_rfl) ?_ _
 go_wp2_with fail
 refine bodyPost_ret (ret_jidb rfl rfl rfl r5) rfl ⟨rfl, q5⟩
set_option maxHeartbeats 4000000 in
set_option maxRecDepth 100000 in
theorem r21_Address_TN (s X Y Z T : ByteArray) (w : World)
  (CP : ∀ w : World, Calls Tryz.prog 110 #[.string s] w (Ret w (.tuple #[jV X Y Z, .int .i64 0])))
  (hZ : (Z.toList == []) = true)
  (CT : ∀ w : World, Calls Tryz.prog 111 #[jV X Y Z] w (Ret w (.string T))) (hT : (T.toList == s.toList) = false) :
  Calls Tryz.prog 83 #[.string s] w (Ret w (.tuple #[jV X Y Z, .bool false])) := by
 have r0 := JAt.new w ⟨#[]⟩ ⟨#[]⟩ ⟨#[]⟩
 have q0 := (Below.refl w.heap.size w).alloc (Nat.le_refl _) (.cells #[.string ⟨#[]⟩, .string ⟨#[]⟩, .string ⟨#[]⟩] 85)
 have HP := Lib.hid CP
 have HT := Lib.hid CT
 clear CT
 clear CP
 go_enter Tryz.func83, Tryz.ntmps83
 go_wp2_with fail
 refine (HP.out _).mono ?_
 rintro e w1 ⟨rfl, hb⟩
 have r1 := r0.ret hb
 have q1 := q0.trans (hb.mono q0.size)
 clear hb r0 q0
 have al := ((Below.refl w1.heap.size w1).alloc (Nat.le_refl _) (.cells #[.string X, .string Y, .string Z] 85)).drew
 have j4 := (JAt.new w1 X Y Z).ret (Below.drew (Below.refl _ _))
 have r4 := r1.ret al
 have q4 := q1.trans (al.mono q1.size)
 have hlt1 := r1.lt
 have hne : w1.heap.size ≠ w.heap.size := Nat.ne_of_gt hlt1
 clear al r1 q1
 go_wp2_with fail
 refine wp_region_held_drew (S := fun w' => w'.cell? ⟨w1.heap.size, 0, none⟩ = some (.string X) ∧ w'.cell? ⟨w1.heap.size, 1, none⟩ = some (.string Y) ∧ w'.cell? ⟨w1.heap.size, 2, none⟩ = some (.string Z)) (by kernel_rfl) ⟨j4.c0, j4.c1, j4.c2⟩ (fun hHeld => ?_)
 generalize (w1.alloc (.cells #[.string X, .string Y, .string Z] 85)).drew = V at j4 r4 q4 hHeld ⊢
 refine tk_start [(0, some 11), (1, some 12), (2, some 13), (3, some 14), (4, some 15), (5, some 16), (6, some 17), (7, some 18), (8, some 19), (9, some 20), (11, some 22)] ?_
 iterate 11
  refine tk_step (v := ?_) (by kernel_rfl) (by kernel_rfl) (fun _ _ _ h => h) (by assumption) (fun o ho w' hSw => ?_) ?_
  rotate_left
  ·simp only [List.getElem?_toArray, List.getElem?_cons_succ, List.getElem?_cons_zero, Option.some.injEq] at ho; subst ho; (try dsimp only at hSw); go_simp; try with_reducible rfl
  simp only [Act.put, List.setIfInBounds_toArray, List.set_cons_zero, List.set_cons_succ]
 refine tk_end ?_
 refine tk_call (i := 10) (by kernel_rfl) (by kernel_rfl) (fun o ho K hK => ?_)
 simp only [List.getElem?_toArray, List.getElem?_cons_succ, List.getElem?_cons_zero, Option.some.injEq] at ho
 subst ho
 go_simp
 refine (HT.out _).mono ?_
 rintro e w5 ⟨rfl, hb⟩
 have j5 := j4.ret hb
 have r5 := r4.ret hb
 have q5 := q4.trans (hb.mono q4.size)
 clear hb
 go_simp
 clear hHeld
 refine hK.out _ _ ⟨j5.c0, j5.c1, j5.c2⟩ (fun hHeld => ?_)
 clear hK K
 refine tk_start [(12, some 23), (13, some 24)] ?_
 iterate 2
  refine tk_step (v := ?_) (by kernel_rfl) (by kernel_rfl) (fun _ _ _ h => h) (by assumption) (fun o ho w' hSw => ?_) ?_
  rotate_left
  ·simp only [List.getElem?_toArray, List.getElem?_cons_succ, List.getElem?_cons_zero, Option.some.injEq] at ho; subst ho; (try dsimp only at hSw); go_simp; try with_reducible rfl
  simp only [Act.put, List.setIfInBounds_toArray, List.set_cons_zero, List.set_cons_succ]
 refine tk_end ?_
 refine tk_call (i := 14) (by kernel_rfl) (by kernel_rfl) (fun o ho K hK => ?_)
 simp only [List.getElem?_toArray, List.getElem?_cons_succ, List.getElem?_cons_zero, Option.some.injEq] at ho
 subst ho
 have f0 := r5.f0
 have f1 := r5.f1
 have f2 := r5.f2
 have g0 := r5.c0
 have g1 := r5.c1
 have g2 := r5.c2
 go_simp
 have j6 := ((j5.other (M := w.heap.size) (o := 0) hne (.string X)).other (M := w.heap.size) (o := 1) hne (.string Y)).other (M := w.heap.size) (o := 2) hne (.string Z)
 have r6 := r5.set3 X Y Z
 have q6 := jset_below q5 (Nat.le_refl _) (.string X) (.string Y) (.string Z)
 clear hHeld f0 f1 f2 g0 g1 g2
 refine hK.out _ _ ⟨j6.c0, j6.c1, j6.c2⟩ (fun hHeld => ?_)
 clear hK K
 refine tk_on (i := 15) (some 3) (v := ?_) (by kernel_rfl) (by kernel_rfl) (by kernel_rfl) (by kernel_rfl) (fun _ _ _ h => h) (by assumption) (fun o ho w' hSw => ?_) ?_
 rotate_left
 ·(simp only [List.getElem?_toArray, List.getElem?_cons_succ, List.getElem?_cons_zero, Option.some.injEq] at ho; subst ho; (try dsimp only at hSw); go_simp; try with_reducible rfl)
 simp only [Act.put, List.setIfInBounds_toArray, List.set_cons_zero, List.set_cons_succ]
 refine wpAnyH_done (by kernel_rfl) ?_ _
 go_wp2_with fail
 refine bodyPost_ret (ret_jidb rfl rfl rfl r6) rfl ⟨rfl, q6⟩
set_option maxHeartbeats 4000000 in
set_option maxRecDepth 100000 in
theorem r21_Address_TS (s X Y Z T : ByteArray) (w : World)
  (CP : ∀ w : World, Calls Tryz.prog 110 #[.string s] w (Ret w (.tuple #[jV X Y Z, .int .i64 0])))
  (hZ : (Z.toList == []) = true)
  (CT : ∀ w : World, Calls Tryz.prog 111 #[jV X Y Z] w (Ret w (.string T))) (hT : (T.toList == s.toList) = true) :
  Calls Tryz.prog 83 #[.string s] w (Ret w (.tuple #[jV X Y Z, .bool true])) := by
 have r0 := JAt.new w ⟨#[]⟩ ⟨#[]⟩ ⟨#[]⟩
 have q0 := (Below.refl w.heap.size w).alloc (Nat.le_refl _) (.cells #[.string ⟨#[]⟩, .string ⟨#[]⟩, .string ⟨#[]⟩] 85)
 have HP := Lib.hid CP
 have HT := Lib.hid CT
 clear CT
 clear CP
 go_enter Tryz.func83, Tryz.ntmps83
 go_wp2_with fail
 refine (HP.out _).mono ?_
 rintro e w1 ⟨rfl, hb⟩
 have r1 := r0.ret hb
 have q1 := q0.trans (hb.mono q0.size)
 clear hb r0 q0
 have al := ((Below.refl w1.heap.size w1).alloc (Nat.le_refl _) (.cells #[.string X, .string Y, .string Z] 85)).drew
 have j4 := (JAt.new w1 X Y Z).ret (Below.drew (Below.refl _ _))
 have r4 := r1.ret al
 have q4 := q1.trans (al.mono q1.size)
 have hlt1 := r1.lt
 have hne : w1.heap.size ≠ w.heap.size := Nat.ne_of_gt hlt1
 clear al r1 q1
 go_wp2_with fail
 refine wp_region_held_drew (S := fun w' => w'.cell? ⟨w1.heap.size, 0, none⟩ = some (.string X) ∧ w'.cell? ⟨w1.heap.size, 1, none⟩ = some (.string Y) ∧ w'.cell? ⟨w1.heap.size, 2, none⟩ = some (.string Z)) (by kernel_rfl) ⟨j4.c0, j4.c1, j4.c2⟩ (fun hHeld => ?_)
 generalize (w1.alloc (.cells #[.string X, .string Y, .string Z] 85)).drew = V at j4 r4 q4 hHeld ⊢
 refine tk_start [(0, some 11), (1, some 12), (2, some 13), (3, some 14), (4, some 15), (5, some 16), (6, some 17), (7, some 18), (8, some 19), (9, some 20), (11, some 22)] ?_
 iterate 11
  refine tk_step (v := ?_) (by kernel_rfl) (by kernel_rfl) (fun _ _ _ h => h) (by assumption) (fun o ho w' hSw => ?_) ?_
  rotate_left
  ·simp only [List.getElem?_toArray, List.getElem?_cons_succ, List.getElem?_cons_zero, Option.some.injEq] at ho; subst ho; (try dsimp only at hSw); go_simp; try with_reducible rfl
  simp only [Act.put, List.setIfInBounds_toArray, List.set_cons_zero, List.set_cons_succ]
 refine tk_end ?_
 refine tk_call (i := 10) (by kernel_rfl) (by kernel_rfl) (fun o ho K hK => ?_)
 simp only [List.getElem?_toArray, List.getElem?_cons_succ, List.getElem?_cons_zero, Option.some.injEq] at ho
 subst ho
 go_simp
 refine (HT.out _).mono ?_
 rintro e w5 ⟨rfl, hb⟩
 have j5 := j4.ret hb
 have r5 := r4.ret hb
 have q5 := q4.trans (hb.mono q4.size)
 clear hb
 go_simp
 clear hHeld
 refine hK.out _ _ ⟨j5.c0, j5.c1, j5.c2⟩ (fun hHeld => ?_)
 clear hK K
 refine tk_start [(12, some 23), (13, some 24)] ?_
 iterate 2
  refine tk_step (v := ?_) (by kernel_rfl) (by kernel_rfl) (fun _ _ _ h => h) (by assumption) (fun o ho w' hSw => ?_) ?_
  rotate_left
  ·simp only [List.getElem?_toArray, List.getElem?_cons_succ, List.getElem?_cons_zero, Option.some.injEq] at ho; subst ho; (try dsimp only at hSw); go_simp; try with_reducible rfl
  simp only [Act.put, List.setIfInBounds_toArray, List.set_cons_zero, List.set_cons_succ]
 refine tk_end ?_
 refine tk_call (i := 14) (by kernel_rfl) (by kernel_rfl) (fun o ho K hK => ?_)
 simp only [List.getElem?_toArray, List.getElem?_cons_succ, List.getElem?_cons_zero, Option.some.injEq] at ho
 subst ho
 have f0 := r5.f0
 have f1 := r5.f1
 have f2 := r5.f2
 have g0 := r5.c0
 have g1 := r5.c1
 have g2 := r5.c2
 go_simp
 have j6 := ((j5.other (M := w.heap.size) (o := 0) hne (.string X)).other (M := w.heap.size) (o := 1) hne (.string Y)).other (M := w.heap.size) (o := 2) hne (.string Z)
 have r6 := r5.set3 X Y Z
 have q6 := jset_below q5 (Nat.le_refl _) (.string X) (.string Y) (.string Z)
 clear hHeld f0 f1 f2 g0 g1 g2
 refine hK.out _ _ ⟨j6.c0, j6.c1, j6.c2⟩ (fun hHeld => ?_)
 clear hK K
 refine tk_on (i := 15) (some 3) (v := ?_) (by kernel_rfl) (by kernel_rfl) (by kernel_rfl) (by kernel_rfl) (fun _ _ _ h => h) (by assumption) (fun o ho w' hSw => ?_) ?_
 rotate_left
 ·(simp only [List.getElem?_toArray, List.getElem?_cons_succ, List.getElem?_cons_zero, Option.some.injEq] at ho; subst ho; (try dsimp only at hSw); go_simp; try with_reducible rfl)
 simp only [Act.put, List.setIfInBounds_toArray, List.set_cons_zero, List.set_cons_succ]
 refine wpAnyH_done (by kernel_rfl) ?_ _
 go_wp2_with fail
 refine bodyPost_ret (ret_jidb rfl rfl rfl r6) rfl ⟨rfl, q6⟩
theorem r21_Address (s : ByteArray) (w : World) (hs : s.size ≤ 10000) : Calls Tryz.prog 83 #[.string s] w (Ret w (adrV s.data.toList)) := by
 have CP := fun w => r19_Parse s w hs
 have hz := size_toList s
 unfold prsV at CP
 unfold adrV adr adrOk
 obtain ⟨z1, z2, z3⟩ := len_prs s.data.toList
 cases hp : prsP s.data.toList with
 | false =>
  rw [hp, if_neg (by decide)] at CP
  simp only [Bool.false_eq_true, if_false, Bool.false_and]
  exact r21_Address_F s w CP
 | true =>
  rw [hp, if_pos rfl] at CP
  simp only [if_true, Bool.true_and]
  have CT := fun w => r19_Text (jB (jLoc s.data.toList)) (jB (jDom s.data.toList)) (jB (jRes s.data.toList)) w (by rw [jB_size]; omega) (by rw [jB_size]; omega) (by rw [jB_size]; omega)
  rw [jB_list, jB_list, jB_list] at CT
  cases hr : (jRes s.data.toList).isEmpty with
  | false =>
   rw [Bool.and_false]
   exact r21_Address_TR s _ _ _ w CP (jB_ne hr)
  | true =>
   have hZ : ((jB (jRes s.data.toList)).toList == []) = true := by rw [Lib.toList_data, jB_list, List.isEmpty_iff.1 hr]; rfl
   rw [Bool.and_true]
   by_cases hT : txtP (jLoc s.data.toList) (jDom s.data.toList) (jRes s.data.toList) = s.data.toList
   ·have e1 : ((jB (txtP (jLoc s.data.toList) (jDom s.data.toList) (jRes s.data.toList))).toList == s.toList) = true := by
     rw [Lib.toList_data, Lib.toList_data, jB_list, hT]; simp
    rw [decide_eq_true hT]
    exact r21_Address_TS s _ _ _ _ w CP hZ CT e1
   ·have e1 : ((jB (txtP (jLoc s.data.toList) (jDom s.data.toList) (jRes s.data.toList))).toList == s.toList) = false := by
     rw [Lib.toList_data, Lib.toList_data, jB_list]; simpa using hT
    rw [decide_eq_false hT]
    exact r21_Address_TN s _ _ _ _ w CP hZ CT e1
set_option maxHeartbeats 1000000 in
theorem r21_less_v (a b X Y Z X' Y' Z' : ByteArray) (p q u : Bool) (w : World)
  (CA : ∀ w : World, Calls Tryz.prog 83 #[.string a] w (Ret w (.tuple #[jV X Y Z, .bool p]))) (CB : ∀ w : World, Calls Tryz.prog 83 #[.string b] w (Ret w (.tuple #[jV X' Y' Z', .bool q])))
  (CL : ∀ w : World, Calls Tryz.prog 101 #[jV X Y Z, jV X' Y' Z'] w (Ret w (.bool u))) :
  Calls Tryz.prog 70 #[.string a, .string b] w (Ret w (.bool u)) := by
 have HA := Lib.hid CA
 have HB := Lib.hid CB
 have HL := Lib.hid CL
 have q0 := Below.refl w.heap.size w
 clear CA CB CL
 go_enter Tryz.func70, Tryz.ntmps70
 go_wp2_with fail
 refine (HA.out _).mono ?_
 rintro e w1 ⟨rfl, hb⟩
 have q1 := q0.trans (hb.mono q0.size)
 have al := (Below.refl w1.heap.size w1).alloc (Nat.le_refl _) (.cells #[.string X, .string Y, .string Z] 85)
 have x2 := JAt.new w1 X Y Z
 have q2 := q1.trans (al.mono q1.size)
 clear hb al q1
 go_wp2_with fail
 refine (HB.out _).mono ?_
 rintro e w3 ⟨rfl, hb⟩
 have x3 := x2.ret hb
 have q3 := q2.trans (hb.mono q2.size)
 have al := (Below.refl w3.heap.size w3).alloc (Nat.le_refl _) (.cells #[.string X', .string Y', .string Z'] 85)
 have y4 := JAt.new w3 X' Y' Z'
 have x4 := x3.ret al
 have q4 := q3.trans (al.mono q3.size)
 clear hb al q3 q2 x2 x3 q0
 obtain ⟨m, d0, d1, d2, e0, e1, e2⟩ := x4
 obtain ⟨n, i0, i1, i2, j0, j1, j2⟩ := y4
 go_wp2_with fail
 refine (HL.out _).mono ?_
 rintro e w5 ⟨rfl, hb⟩
 have q5 := q4.trans (hb.mono q4.size)
 clear hb q4 m d0 d1 d2 e0 e1 e2 n i0 i1 i2 j0 j1 j2
 go_wp2_with fail
 go_ret
 exact ⟨rfl, q5⟩
theorem r21_less (a b : ByteArray) (w : World) (ha : a.size ≤ 10000) (hb : b.size ≤ 10000) : Calls Tryz.prog 70 #[.string a, .string b] w (Ret w (.bool (lessT a.data.toList b.data.toList))) := by
 have CL := fun w => r19_Less (jB (adr a.data.toList).1) (jB (adr a.data.toList).2.1) (jB (adr a.data.toList).2.2) (jB (adr b.data.toList).1) (jB (adr b.data.toList).2.1) (jB (adr b.data.toList).2.2) w
 simp only at CL
 exact r21_less_v a b _ _ _ _ _ _ _ _ _ w (fun w => r21_Address a w ha) (fun w => r21_Address b w hb) CL
end Go.Proofs.YtfonkblbgadhmaaGreatDoor
namespace Go.Proofs.YtfonkblbgadhmaaGreatDoor
open Go.RowKit Go.Lib

theorem below_dN {B : Nat} {a w : World} (h : Below B a w) (q : Nat) : Below B a (w.drewN q) := ⟨h.os, h.tape, h.output, h.size, h.block⟩
theorem is_size (s : List UInt8) : (⟨s.toArray⟩ : ByteArray).size = s.length := sz_mk s
set_option maxHeartbeats 4000000 in
set_option maxRecDepth 100000 in
theorem r21_words (n : ByteArray) (v : Value) (g : List (List UInt8)) (w : World) (hn : n.size ≤ 10000) (hg0 : IsGrp v g w) (hg : g.length ≤ 1000) (hz : ∀ x ∈ g, x.length ≤ 10000) :
  Calls Tryz.prog 84 #[.string n, v] w (Ret w (.bool (wordsP n.data.toList g))) := by
 have HN := Lib.hid fun w => r5_Is n w hn
 have HW := Lib.hid fun (k : Nat) (hk : k < g.length) w => r5_Is ⟨(g[k]).toArray⟩ w (by rw [← size_toList]; exact hz _ (List.getElem_mem hk))
 obtain ⟨hv, a, cap, hv1, hcap⟩ := hg0
 obtain ⟨O, hO⟩ : ∃ O, wordsP n.data.toList g = O := ⟨_, rfl⟩
 rw [hO]
 have HO := Lib.hid hO
 have HV := Lib.hid hv
 obtain ⟨L, hL⟩ : ∃ L, g.length = L := ⟨_, rfl⟩
 rw [hL] at hv1 hg hcap
 have HL := Lib.hid hL
 have ZN := Lib.hid (size_toList n)
 subst hv1
 clear hv hO hL hz
 go_enter Tryz.func84, Tryz.ntmps84
 go_wp2_with fail
 go_loopw [5] (fun i wx => ∃ k : Nat, k ≤ L ∧ i = .int .i64 k ∧ (g.take k).all (withinP 1 32) = true ∧ onceP (g.take k) = true ∧ Below w.heap.size w wx) (fun i _ => L - (intOf i).toNat)
 case atStart => exact ⟨0, Nat.zero_le _, rfl, rfl, rfl, Below.refl _ _⟩
 case round =>
  obtain ⟨k, hk, rfl, hall, honce, hbw⟩ := hrel
  have hsz := hbw.size
  by_cases hlt : k < L
  ·have hkg : k < g.length := by rw [HL.out]; exact hlt
   have hkc : k ≤ cap := by omega
   have hV := HV.out.ret hbw
   obtain ⟨b, off, cp, hf, hb0, hc⟩ := vals_cell' hV (k := k) (by rw [strV_len]; exact hkg)
   rw [strV_len, HL.out] at hf
   simp only [Value.slice.injEq, true_and] at hf
   obtain ⟨rfl, rfl⟩ := hf
   have cell : ∀ (e : Nat) (he : e < g.length), wr.cell? ⟨b, off + e, none⟩ = some (.string ⟨(g[e]).toArray⟩) := fun e he => by
    have := hc e (by rw [strV_len]; exact he)
    have e1 : (strV g)[e]'(by rw [strV_len]; exact he) = .string ⟨(g[e]).toArray⟩ := by simp [strV]
    rwa [e1] at this
   have hck := cell k hkg
   have hW := fun w => HW.out k hkg w
   have hsn : (g.take (k + 1)) = g.take k ++ [g[k]] := List.take_succ_eq_append_getElem hkg
   have hl1 : withinP 1 32 g[k] = false → O = false := fun h => by
    rw [← HO.out]
    unfold wordsP
    have : g.all (withinP 1 32) = false := by
     rw [← List.take_append_drop (k + 1) g, List.all_append, hsn, List.all_append]
     simp [h]
    rw [this]; rfl
   have hl2 : (g.take k).contains g[k] = true → O = false := fun h => by
    rw [← HO.out]
    unfold wordsP
    have : onceP g = false := by
     rw [← List.take_append_drop (k + 1) g]
     exact once_left (by rw [hsn, once_snoc, h]; simp)
    rw [this]; simp
   have hs1 : withinP 1 32 g[k] = true → (g.take (k + 1)).all (withinP 1 32) = true := fun h => by
    rw [hsn, List.all_append, hall]
    simp [h]
   have hs2 : (g.take k).contains g[k] = false → onceP (g.take (k + 1)) = true := fun h => by
    rw [hsn, once_snoc, h, honce]; rfl
   have hel : ∀ (e : Nat) (he : e < g.length), e < k → (g[e] == g[k]) = true → (g.take k).contains g[k] = true := fun e he hek h => by
    rw [← beq_iff_eq.1 h]
    simp only [List.contains_iff_mem, List.mem_iff_getElem]
    exact ⟨e, by rw [List.length_take]; omega, by rw [List.getElem_take]⟩
   obtain ⟨y, hy⟩ : ∃ y, g[k] = y := ⟨_, rfl⟩
   rw [hy] at hck hW hl1 hl2 hs1 hs2 hel
   have zy := is_size y
   have hwi : withinP 1 32 y = (decide (1 ≤ y.length) && (decide (y.length ≤ 32) && txP y)) := rfl
   have L2 := Lib.hid hl2
   have S1 := Lib.hid hs1
   have S2 := Lib.hid hs2
   have CE := Lib.hid cell
   have EL := Lib.hid hel
   have WH : Hid (∀ w, Calls Tryz.prog 112 #[.string ⟨y.toArray⟩] w (Ret w (.bool (txP y)))) := Lib.hid hW
   clear hl2 hs1 hs2 hW hsn hy hall honce hc hV cell hel
   by_cases hsz1 : y.length < 1
   ·have := hl1 (by rw [hwi, decide_eq_false (by omega)]; rfl)
    subst this
    have hi : (y.length : Int) < 1 := by omega
    clear hl1 hwi
    go_wp2_with fail
    go_ret
    exact ⟨rfl, hbw⟩
   ·have hi : ¬((y.length : Int) < 1) := by omega
    by_cases hsz2 : 32 < y.length
    ·have := hl1 (by rw [hwi, decide_eq_true (by omega), decide_eq_false (p := y.length ≤ 32) (by omega)]; rfl)
     subst this
     have hi2 : (32 : Int) < (y.length : Int) := by omega
     clear hl1 hwi
     go_wp2_with fail
     go_ret
     exact ⟨rfl, hbw⟩
    ·have hi2 : ¬((32 : Int) < (y.length : Int)) := by omega
     rw [decide_eq_true (p := 1 ≤ y.length) (by omega), decide_eq_true (p := y.length ≤ 32) (by omega), Bool.true_and, Bool.true_and] at hwi
     rw [hwi] at hl1 S1
     obtain ⟨P1, hP1⟩ : ∃ P1, txP y = P1 := ⟨_, rfl⟩
     rw [hP1] at hl1 S1 WH
     clear hwi hP1
     cases P1 with
     | false =>
      have := hl1 (by first | exact rfl | exact trivial)
      subst this
      clear hl1
      go_wp2_with fail
      refine (WH.out _).mono ?_
      rintro e w1 ⟨rfl, hb⟩
      go_wp2_with fail
      go_ret
      exact ⟨rfl, hbw.trans (hb.mono hsz)⟩
     | true =>
      clear hl1
      go_wp2_with fail
      refine (WH.out _).mono ?_
      rintro e w1 ⟨rfl, hb⟩
      have b1 := hbw.trans (hb.mono hsz)
      have hck1 := ((bcell hb).1 _ _ hb0).trans hck
      have CE1 := Lib.hid fun (e : Nat) (he : e < g.length) => ((bcell hb).1 b (off + e) hb0).trans (CE.out e he)
      have hs1 := hb.size
      clear hb hck hbw CE
      go_wp2_with fail
      go_loopw [6] (fun i wx => ∃ e : Nat, e ≤ k ∧ i = .int .i64 e ∧ (∀ j (hj : j < g.length), j < e → (g[j] == y) = false) ∧ Below w1.heap.size w1 wx) (fun i _ => k - (intOf i).toNat)
      case atStart => exact ⟨0, Nat.zero_le _, rfl, (fun j hj h => by omega), Below.refl _ _⟩
      case round =>
       obtain ⟨e, he, rfl, hno, hbx⟩ := hrel
       have hx1 := ((bcell hbx).1 _ _ (Nat.lt_of_lt_of_le hb0 hs1)).trans hck1
       have bx := b1.trans (hbx.mono b1.size)
       by_cases hek : e < k
       ·have hce := ((bcell hbx).1 b (off + e) (Nat.lt_of_lt_of_le hb0 hs1)).trans (CE1.out e (by omega))
        have hhit := EL.out e (by omega) hek
        have heL : e < L := by omega
        obtain ⟨z, hzz⟩ : ∃ z, g[e]'(by omega) = z := ⟨_, rfl⟩
        rw [hzz] at hce hhit
        obtain ⟨x, hx⟩ : ∃ x, (z == y) = x := ⟨_, rfl⟩
        rw [hx] at hhit
        have HH := Lib.hid hhit
        have HZ := Lib.hid hzz
        have HX := Lib.hid hx
        have HNO := Lib.hid hno
        clear hhit hzz hno
        cases x with
        | true =>
         have := L2.out (HH.out (by first | exact rfl | exact trivial))
         subst this
         go_wp2_with fail
         go_quiet (fail)
         all_goals go_wp2_with fail
         go_ret
         exact ⟨rfl, below_dN bx _⟩
        | false =>
         go_wp2_with fail
         go_quiet (fail)
         all_goals go_wp2_with fail
         go_roundw
         case rel =>
          refine ⟨e + 1, by omega, by go_num, fun j hj hje => ?_, below_dN hbx _⟩
          by_cases hje2 : j < e
          ·exact HNO.out j hj hje2
          ·obtain rfl : j = e := by omega
           rw [HZ.out]; exact HX.out
         case measure => simp [intOf]; omega
       ·obtain rfl : e = k := by omega
        have hcn : (g.take e).contains y = false := by
         cases hq : (g.take e).contains y with
         | false => rfl
         | true =>
          simp only [List.contains_iff_mem, List.mem_iff_getElem] at hq
          obtain ⟨j, hj, hjy⟩ := hq
          rw [List.length_take] at hj
          rw [List.getElem_take] at hjy
          have := hno j (by omega) (by omega)
          rw [hjy] at this
          simp at this
        have HC := Lib.hid hcn
        clear hno hcn
        go_wp2_with fail
        go_roundw
        case rel => exact ⟨e + 1, by omega, by go_num, S1.out (by first | exact rfl | exact trivial), S2.out HC.out, bx⟩
        case measure => simp [intOf]; omega
  ·have hO := HO.out
   have e : g.take k = g := List.take_of_length_le (by rw [HL.out]; omega)
   rw [e] at hall honce
   unfold wordsP at hO
   rw [hall, honce, HL.out, Bool.true_and, Bool.true_and] at hO
   have hwi : withinP 0 64 n.data.toList = (decide (0 ≤ n.data.toList.length) && (decide (n.data.toList.length ≤ 64) && txP n.data.toList)) := rfl
   rw [hwi, ZN.out, decide_eq_true (Nat.zero_le _), Bool.true_and] at hO
   have NH := HN.out
   clear hwi
   by_cases h64 : n.size ≤ 64
   ·rw [decide_eq_true h64, Bool.true_and] at hO
    have h64i : (n.size : Int) ≤ 64 := by omega
    obtain ⟨Q, hQ⟩ : ∃ Q, txP n.data.toList = Q := ⟨_, rfl⟩
    rw [hQ] at NH hO
    have N1 := Lib.hid NH
    clear NH hQ hall honce e HO HN HW HV
    cases Q with
    | false =>
     have : O = false := by rw [← hO]; rfl
     subst this
     clear hO
     go_wp2_with fail
     refine (N1.out _).mono ?_
     rintro e w1 ⟨rfl, hb⟩
     go_wp2_with fail
     go_ret
     exact ⟨rfl, hbw.trans (hb.mono hsz)⟩
    | true =>
     rw [Bool.true_and] at hO
     have hq : decide ((L : Int) ≤ 4) = O := by rw [← hO]; exact decide_eq_decide.2 (by omega)
     clear hO
     go_wp2_with fail
     refine (N1.out _).mono ?_
     rintro e w1 ⟨rfl, hb⟩
     go_wp2_with fail
     go_ret
     exact ⟨by first | rfl | simp [hq], hbw.trans (hb.mono hsz)⟩
   ·rw [decide_eq_false h64] at hO
    have : O = false := by rw [← hO]; rfl
    subst this
    have h64i : ¬((n.size : Int) ≤ 64) := by omega
    clear hO NH hall honce e HO HN HW HV
    go_wp2_with fail
    go_ret
    exact ⟨rfl, hbw⟩
end Go.Proofs.YtfonkblbgadhmaaGreatDoor
namespace Go.Proofs.YtfonkblbgadhmaaGreatDoor
open Go.RowKit Go.Lib

set_option maxHeartbeats 4000000 in
theorem r21_mayItem_N (j n X Y Z : ByteArray) (ga : Option Addr) (L cap : Nat) (a b c d k ok W S : Bool) (w : World) (hn : (n.toList == []) = false)
  (CA : ∀ w : World, Calls Tryz.prog 83 #[.string j] w (Ret w (.tuple #[jV X Y Z, .bool ok])))
  (CW : ∀ w' : World, Below w.heap.size w w' → Calls Tryz.prog 84 #[.string n, .slice ga L cap] w' (Ret w' (.bool W)))
  (CS : ∀ w : World, Calls Tryz.prog 100 #[.agg #[.bool a, .bool b, .bool c, .bool d]] w (Ret w (.bool S))) :
  Calls Tryz.prog 69 #[.agg #[.string j, .string n, .slice ga L cap, .bool a, .bool b, .bool c, .bool d, .bool k]] w (Ret w (.bool (ok && (W && (S && (k || false)))))) := by
 have x0 := It8.new w (.string j) (.string n) (.slice ga L cap) (.bool a) (.bool b) (.bool c) (.bool d) (.bool k) 31
 have q0 := (Below.refl w.heap.size w).alloc (Nat.le_refl _) (.cells #[.string j, .string n, .slice ga L cap, .bool a, .bool b, .bool c, .bool d, .bool k] 31)
 have HA := Lib.hid CA
 have HW := Lib.hid CW
 have HS := Lib.hid CS
 have EQ := eql_sub
 have EG := eg_sub
 clear CA CW CS
 cases ok with
 | false =>
  go_enter Tryz.func69, Tryz.ntmps69
  go_wp2_with fail
  refine (HA.out _).mono ?_
  rintro e w1 ⟨rfl, hb⟩
  have al := (Below.refl w1.heap.size w1).alloc (Nat.le_refl _) (.cells #[.string X, .string Y, .string Z] 85)
  have x2 := (x0.ret hb).ret al
  have q1 := q0.trans (hb.mono q0.size)
  have q2 := q1.trans (al.mono q1.size)
  clear hb al q1 x0
  obtain ⟨l, c0, c1, c2, c3, c4, c5, c6, c7, -, -, -, -, -, -, -, -⟩ := id x2
  go_wp2_with fail
  go_ret
  exact ⟨by first | rfl | simp, q2⟩
 | true =>
  cases W with
  | false =>
   go_enter Tryz.func69, Tryz.ntmps69
   go_wp2_with fail
   refine (HA.out _).mono ?_
   rintro e w1 ⟨rfl, hb⟩
   have al := (Below.refl w1.heap.size w1).alloc (Nat.le_refl _) (.cells #[.string X, .string Y, .string Z] 85)
   have x2 := (x0.ret hb).ret al
   have q1 := q0.trans (hb.mono q0.size)
   have q2 := q1.trans (al.mono q1.size)
   clear hb al q1 x0
   obtain ⟨l, c0, c1, c2, c3, c4, c5, c6, c7, -, -, -, -, -, -, -, -⟩ := id x2
   go_wp2_with fail
   refine (HW.out _ q2).mono ?_
   rintro e w3 ⟨rfl, hb⟩
   have x3 := x2.ret hb
   have q3 := q2.trans (hb.mono q2.size)
   clear l c0 c1 c2 c3 c4 c5 c6 c7
   clear hb x2
   obtain ⟨l, c0, c1, c2, c3, c4, c5, c6, c7, -, -, -, -, -, -, -, -⟩ := id x3
   go_wp2_with fail
   go_ret
   exact ⟨by first | rfl | simp, q3⟩
  | true =>
   cases S with
   | false =>
    go_enter Tryz.func69, Tryz.ntmps69
    go_wp2_with fail
    refine (HA.out _).mono ?_
    rintro e w1 ⟨rfl, hb⟩
    have al := (Below.refl w1.heap.size w1).alloc (Nat.le_refl _) (.cells #[.string X, .string Y, .string Z] 85)
    have x2 := (x0.ret hb).ret al
    have q1 := q0.trans (hb.mono q0.size)
    have q2 := q1.trans (al.mono q1.size)
    clear hb al q1 x0
    obtain ⟨l, c0, c1, c2, c3, c4, c5, c6, c7, -, -, -, -, -, -, -, -⟩ := id x2
    go_wp2_with fail
    refine (HW.out _ q2).mono ?_
    rintro e w3 ⟨rfl, hb⟩
    have x3 := x2.ret hb
    have q3 := q2.trans (hb.mono q2.size)
    clear l c0 c1 c2 c3 c4 c5 c6 c7
    clear hb x2
    obtain ⟨l, c0, c1, c2, c3, c4, c5, c6, c7, -, -, -, -, -, -, -, -⟩ := id x3
    go_wp2_with fail
    refine (HS.out _).mono ?_
    rintro e w4 ⟨rfl, hb⟩
    have x4 := x3.ret hb
    have q4 := q3.trans (hb.mono q3.size)
    clear l c0 c1 c2 c3 c4 c5 c6 c7
    clear hb x3
    obtain ⟨l, c0, c1, c2, c3, c4, c5, c6, c7, -, -, -, -, -, -, -, -⟩ := id x4
    go_wp2_with fail
    go_ret
    exact ⟨by first | rfl | simp, q4⟩
   | true =>
    cases k with
    | true =>
     go_enter Tryz.func69, Tryz.ntmps69
     go_wp2_with fail
     refine (HA.out _).mono ?_
     rintro e w1 ⟨rfl, hb⟩
     have al := (Below.refl w1.heap.size w1).alloc (Nat.le_refl _) (.cells #[.string X, .string Y, .string Z] 85)
     have x2 := (x0.ret hb).ret al
     have q1 := q0.trans (hb.mono q0.size)
     have q2 := q1.trans (al.mono q1.size)
     clear hb al q1 x0
     obtain ⟨l, c0, c1, c2, c3, c4, c5, c6, c7, -, -, -, -, -, -, -, -⟩ := id x2
     go_wp2_with fail
     refine (HW.out _ q2).mono ?_
     rintro e w3 ⟨rfl, hb⟩
     have x3 := x2.ret hb
     have q3 := q2.trans (hb.mono q2.size)
     clear l c0 c1 c2 c3 c4 c5 c6 c7
     clear hb x2
     obtain ⟨l, c0, c1, c2, c3, c4, c5, c6, c7, -, -, -, -, -, -, -, -⟩ := id x3
     go_wp2_with fail
     refine (HS.out _).mono ?_
     rintro e w4 ⟨rfl, hb⟩
     have x4 := x3.ret hb
     have q4 := q3.trans (hb.mono q3.size)
     clear l c0 c1 c2 c3 c4 c5 c6 c7
     clear hb x3
     obtain ⟨l, c0, c1, c2, c3, c4, c5, c6, c7, -, -, -, -, -, -, -, -⟩ := id x4
     go_wp2_with fail
     go_ret
     exact ⟨by first | rfl | simp, q4⟩
    | false =>
     go_enter Tryz.func69, Tryz.ntmps69
     go_wp2_with fail
     refine (HA.out _).mono ?_
     rintro e w1 ⟨rfl, hb⟩
     have al := (Below.refl w1.heap.size w1).alloc (Nat.le_refl _) (.cells #[.string X, .string Y, .string Z] 85)
     have x2 := (x0.ret hb).ret al
     have q1 := q0.trans (hb.mono q0.size)
     have q2 := q1.trans (al.mono q1.size)
     clear hb al q1 x0
     obtain ⟨l, c0, c1, c2, c3, c4, c5, c6, c7, -, -, -, -, -, -, -, -⟩ := id x2
     go_wp2_with fail
     refine (HW.out _ q2).mono ?_
     rintro e w3 ⟨rfl, hb⟩
     have x3 := x2.ret hb
     have q3 := q2.trans (hb.mono q2.size)
     clear l c0 c1 c2 c3 c4 c5 c6 c7
     clear hb x2
     obtain ⟨l, c0, c1, c2, c3, c4, c5, c6, c7, -, -, -, -, -, -, -, -⟩ := id x3
     go_wp2_with fail
     refine (HS.out _).mono ?_
     rintro e w4 ⟨rfl, hb⟩
     have x4 := x3.ret hb
     have q4 := q3.trans (hb.mono q3.size)
     clear l c0 c1 c2 c3 c4 c5 c6 c7
     clear hb x3
     obtain ⟨l, c0, c1, c2, c3, c4, c5, c6, c7, -, -, -, -, -, -, -, -⟩ := id x4
     go_wp2_with fail
     go_ret
     exact ⟨by first | rfl | simp, q4⟩
set_option maxHeartbeats 4000000 in
theorem r21_mayItem_G (j n X Y Z : ByteArray) (ga : Option Addr) (L cap : Nat) (a b c d k ok W S : Bool) (w : World) (hn : (n.toList == []) = true) (hg : ((L : Int) == 0) = false)
  (CA : ∀ w : World, Calls Tryz.prog 83 #[.string j] w (Ret w (.tuple #[jV X Y Z, .bool ok])))
  (CW : ∀ w' : World, Below w.heap.size w w' → Calls Tryz.prog 84 #[.string n, .slice ga L cap] w' (Ret w' (.bool W)))
  (CS : ∀ w : World, Calls Tryz.prog 100 #[.agg #[.bool a, .bool b, .bool c, .bool d]] w (Ret w (.bool S))) :
  Calls Tryz.prog 69 #[.agg #[.string j, .string n, .slice ga L cap, .bool a, .bool b, .bool c, .bool d, .bool k]] w (Ret w (.bool (ok && (W && (S && (k || false)))))) := by
 have x0 := It8.new w (.string j) (.string n) (.slice ga L cap) (.bool a) (.bool b) (.bool c) (.bool d) (.bool k) 31
 have q0 := (Below.refl w.heap.size w).alloc (Nat.le_refl _) (.cells #[.string j, .string n, .slice ga L cap, .bool a, .bool b, .bool c, .bool d, .bool k] 31)
 have HA := Lib.hid CA
 have HW := Lib.hid CW
 have HS := Lib.hid CS
 have EQ := eql_sub
 have EG := eg_sub
 clear CA CW CS
 cases ok with
 | false =>
  go_enter Tryz.func69, Tryz.ntmps69
  go_wp2_with fail
  refine (HA.out _).mono ?_
  rintro e w1 ⟨rfl, hb⟩
  have al := (Below.refl w1.heap.size w1).alloc (Nat.le_refl _) (.cells #[.string X, .string Y, .string Z] 85)
  have x2 := (x0.ret hb).ret al
  have q1 := q0.trans (hb.mono q0.size)
  have q2 := q1.trans (al.mono q1.size)
  clear hb al q1 x0
  obtain ⟨l, c0, c1, c2, c3, c4, c5, c6, c7, -, -, -, -, -, -, -, -⟩ := id x2
  go_wp2_with fail
  go_ret
  exact ⟨by first | rfl | simp, q2⟩
 | true =>
  cases W with
  | false =>
   go_enter Tryz.func69, Tryz.ntmps69
   go_wp2_with fail
   refine (HA.out _).mono ?_
   rintro e w1 ⟨rfl, hb⟩
   have al := (Below.refl w1.heap.size w1).alloc (Nat.le_refl _) (.cells #[.string X, .string Y, .string Z] 85)
   have x2 := (x0.ret hb).ret al
   have q1 := q0.trans (hb.mono q0.size)
   have q2 := q1.trans (al.mono q1.size)
   clear hb al q1 x0
   obtain ⟨l, c0, c1, c2, c3, c4, c5, c6, c7, -, -, -, -, -, -, -, -⟩ := id x2
   go_wp2_with fail
   refine (HW.out _ q2).mono ?_
   rintro e w3 ⟨rfl, hb⟩
   have x3 := x2.ret hb
   have q3 := q2.trans (hb.mono q2.size)
   clear l c0 c1 c2 c3 c4 c5 c6 c7
   clear hb x2
   obtain ⟨l, c0, c1, c2, c3, c4, c5, c6, c7, -, -, -, -, -, -, -, -⟩ := id x3
   go_wp2_with fail
   go_ret
   exact ⟨by first | rfl | simp, q3⟩
  | true =>
   cases S with
   | false =>
    go_enter Tryz.func69, Tryz.ntmps69
    go_wp2_with fail
    refine (HA.out _).mono ?_
    rintro e w1 ⟨rfl, hb⟩
    have al := (Below.refl w1.heap.size w1).alloc (Nat.le_refl _) (.cells #[.string X, .string Y, .string Z] 85)
    have x2 := (x0.ret hb).ret al
    have q1 := q0.trans (hb.mono q0.size)
    have q2 := q1.trans (al.mono q1.size)
    clear hb al q1 x0
    obtain ⟨l, c0, c1, c2, c3, c4, c5, c6, c7, -, -, -, -, -, -, -, -⟩ := id x2
    go_wp2_with fail
    refine (HW.out _ q2).mono ?_
    rintro e w3 ⟨rfl, hb⟩
    have x3 := x2.ret hb
    have q3 := q2.trans (hb.mono q2.size)
    clear l c0 c1 c2 c3 c4 c5 c6 c7
    clear hb x2
    obtain ⟨l, c0, c1, c2, c3, c4, c5, c6, c7, -, -, -, -, -, -, -, -⟩ := id x3
    go_wp2_with fail
    refine (HS.out _).mono ?_
    rintro e w4 ⟨rfl, hb⟩
    have x4 := x3.ret hb
    have q4 := q3.trans (hb.mono q3.size)
    clear l c0 c1 c2 c3 c4 c5 c6 c7
    clear hb x3
    obtain ⟨l, c0, c1, c2, c3, c4, c5, c6, c7, -, -, -, -, -, -, -, -⟩ := id x4
    go_wp2_with fail
    go_ret
    exact ⟨by first | rfl | simp, q4⟩
   | true =>
    cases k with
    | true =>
     go_enter Tryz.func69, Tryz.ntmps69
     go_wp2_with fail
     refine (HA.out _).mono ?_
     rintro e w1 ⟨rfl, hb⟩
     have al := (Below.refl w1.heap.size w1).alloc (Nat.le_refl _) (.cells #[.string X, .string Y, .string Z] 85)
     have x2 := (x0.ret hb).ret al
     have q1 := q0.trans (hb.mono q0.size)
     have q2 := q1.trans (al.mono q1.size)
     clear hb al q1 x0
     obtain ⟨l, c0, c1, c2, c3, c4, c5, c6, c7, -, -, -, -, -, -, -, -⟩ := id x2
     go_wp2_with fail
     refine (HW.out _ q2).mono ?_
     rintro e w3 ⟨rfl, hb⟩
     have x3 := x2.ret hb
     have q3 := q2.trans (hb.mono q2.size)
     clear l c0 c1 c2 c3 c4 c5 c6 c7
     clear hb x2
     obtain ⟨l, c0, c1, c2, c3, c4, c5, c6, c7, -, -, -, -, -, -, -, -⟩ := id x3
     go_wp2_with fail
     refine (HS.out _).mono ?_
     rintro e w4 ⟨rfl, hb⟩
     have x4 := x3.ret hb
     have q4 := q3.trans (hb.mono q3.size)
     clear l c0 c1 c2 c3 c4 c5 c6 c7
     clear hb x3
     obtain ⟨l, c0, c1, c2, c3, c4, c5, c6, c7, -, -, -, -, -, -, -, -⟩ := id x4
     go_wp2_with fail
     go_ret
     exact ⟨by first | rfl | simp, q4⟩
    | false =>
     go_enter Tryz.func69, Tryz.ntmps69
     go_wp2_with fail
     refine (HA.out _).mono ?_
     rintro e w1 ⟨rfl, hb⟩
     have al := (Below.refl w1.heap.size w1).alloc (Nat.le_refl _) (.cells #[.string X, .string Y, .string Z] 85)
     have x2 := (x0.ret hb).ret al
     have q1 := q0.trans (hb.mono q0.size)
     have q2 := q1.trans (al.mono q1.size)
     clear hb al q1 x0
     obtain ⟨l, c0, c1, c2, c3, c4, c5, c6, c7, -, -, -, -, -, -, -, -⟩ := id x2
     go_wp2_with fail
     refine (HW.out _ q2).mono ?_
     rintro e w3 ⟨rfl, hb⟩
     have x3 := x2.ret hb
     have q3 := q2.trans (hb.mono q2.size)
     clear l c0 c1 c2 c3 c4 c5 c6 c7
     clear hb x2
     obtain ⟨l, c0, c1, c2, c3, c4, c5, c6, c7, -, -, -, -, -, -, -, -⟩ := id x3
     go_wp2_with fail
     refine (HS.out _).mono ?_
     rintro e w4 ⟨rfl, hb⟩
     have x4 := x3.ret hb
     have q4 := q3.trans (hb.mono q3.size)
     clear l c0 c1 c2 c3 c4 c5 c6 c7
     clear hb x3
     obtain ⟨l, c0, c1, c2, c3, c4, c5, c6, c7, -, -, -, -, -, -, -, -⟩ := id x4
     go_wp2_with fail
     go_ret
     exact ⟨by first | rfl | simp, q4⟩
set_option maxHeartbeats 4000000 in
theorem r21_mayItem_S (j n X Y Z : ByteArray) (ga : Option Addr) (L cap : Nat) (a b c d k ok W S sE : Bool) (w : World) (hn : (n.toList == []) = true) (hg : ((L : Int) == 0) = true) (hs : decide ((a, b, c, d) = (false, false, false, true)) = sE)
  (CA : ∀ w : World, Calls Tryz.prog 83 #[.string j] w (Ret w (.tuple #[jV X Y Z, .bool ok])))
  (CW : ∀ w' : World, Below w.heap.size w w' → Calls Tryz.prog 84 #[.string n, .slice ga L cap] w' (Ret w' (.bool W)))
  (CS : ∀ w : World, Calls Tryz.prog 100 #[.agg #[.bool a, .bool b, .bool c, .bool d]] w (Ret w (.bool S))) :
  Calls Tryz.prog 69 #[.agg #[.string j, .string n, .slice ga L cap, .bool a, .bool b, .bool c, .bool d, .bool k]] w (Ret w (.bool (ok && (W && (S && (k || sE)))))) := by
 have x0 := It8.new w (.string j) (.string n) (.slice ga L cap) (.bool a) (.bool b) (.bool c) (.bool d) (.bool k) 31
 have q0 := (Below.refl w.heap.size w).alloc (Nat.le_refl _) (.cells #[.string j, .string n, .slice ga L cap, .bool a, .bool b, .bool c, .bool d, .bool k] 31)
 have HA := Lib.hid CA
 have HW := Lib.hid CW
 have HS := Lib.hid CS
 have EQ := eql_sub
 have EG := eg_sub
 clear CA CW CS
 subst hs
 cases ok with
 | false =>
  go_enter Tryz.func69, Tryz.ntmps69
  go_wp2_with fail
  refine (HA.out _).mono ?_
  rintro e w1 ⟨rfl, hb⟩
  have al := (Below.refl w1.heap.size w1).alloc (Nat.le_refl _) (.cells #[.string X, .string Y, .string Z] 85)
  have x2 := (x0.ret hb).ret al
  have q1 := q0.trans (hb.mono q0.size)
  have q2 := q1.trans (al.mono q1.size)
  clear hb al q1 x0
  obtain ⟨l, c0, c1, c2, c3, c4, c5, c6, c7, -, -, -, -, -, -, -, -⟩ := id x2
  go_wp2_with fail
  go_ret
  exact ⟨by first | rfl | simp, q2⟩
 | true =>
  cases W with
  | false =>
   go_enter Tryz.func69, Tryz.ntmps69
   go_wp2_with fail
   refine (HA.out _).mono ?_
   rintro e w1 ⟨rfl, hb⟩
   have al := (Below.refl w1.heap.size w1).alloc (Nat.le_refl _) (.cells #[.string X, .string Y, .string Z] 85)
   have x2 := (x0.ret hb).ret al
   have q1 := q0.trans (hb.mono q0.size)
   have q2 := q1.trans (al.mono q1.size)
   clear hb al q1 x0
   obtain ⟨l, c0, c1, c2, c3, c4, c5, c6, c7, -, -, -, -, -, -, -, -⟩ := id x2
   go_wp2_with fail
   refine (HW.out _ q2).mono ?_
   rintro e w3 ⟨rfl, hb⟩
   have x3 := x2.ret hb
   have q3 := q2.trans (hb.mono q2.size)
   clear l c0 c1 c2 c3 c4 c5 c6 c7
   clear hb x2
   obtain ⟨l, c0, c1, c2, c3, c4, c5, c6, c7, -, -, -, -, -, -, -, -⟩ := id x3
   go_wp2_with fail
   go_ret
   exact ⟨by first | rfl | simp, q3⟩
  | true =>
   cases S with
   | false =>
    go_enter Tryz.func69, Tryz.ntmps69
    go_wp2_with fail
    refine (HA.out _).mono ?_
    rintro e w1 ⟨rfl, hb⟩
    have al := (Below.refl w1.heap.size w1).alloc (Nat.le_refl _) (.cells #[.string X, .string Y, .string Z] 85)
    have x2 := (x0.ret hb).ret al
    have q1 := q0.trans (hb.mono q0.size)
    have q2 := q1.trans (al.mono q1.size)
    clear hb al q1 x0
    obtain ⟨l, c0, c1, c2, c3, c4, c5, c6, c7, -, -, -, -, -, -, -, -⟩ := id x2
    go_wp2_with fail
    refine (HW.out _ q2).mono ?_
    rintro e w3 ⟨rfl, hb⟩
    have x3 := x2.ret hb
    have q3 := q2.trans (hb.mono q2.size)
    clear l c0 c1 c2 c3 c4 c5 c6 c7
    clear hb x2
    obtain ⟨l, c0, c1, c2, c3, c4, c5, c6, c7, -, -, -, -, -, -, -, -⟩ := id x3
    go_wp2_with fail
    refine (HS.out _).mono ?_
    rintro e w4 ⟨rfl, hb⟩
    have x4 := x3.ret hb
    have q4 := q3.trans (hb.mono q3.size)
    clear l c0 c1 c2 c3 c4 c5 c6 c7
    clear hb x3
    obtain ⟨l, c0, c1, c2, c3, c4, c5, c6, c7, -, -, -, -, -, -, -, -⟩ := id x4
    go_wp2_with fail
    go_ret
    exact ⟨by first | rfl | simp, q4⟩
   | true =>
    cases k with
    | true =>
     go_enter Tryz.func69, Tryz.ntmps69
     go_wp2_with fail
     refine (HA.out _).mono ?_
     rintro e w1 ⟨rfl, hb⟩
     have al := (Below.refl w1.heap.size w1).alloc (Nat.le_refl _) (.cells #[.string X, .string Y, .string Z] 85)
     have x2 := (x0.ret hb).ret al
     have q1 := q0.trans (hb.mono q0.size)
     have q2 := q1.trans (al.mono q1.size)
     clear hb al q1 x0
     obtain ⟨l, c0, c1, c2, c3, c4, c5, c6, c7, -, -, -, -, -, -, -, -⟩ := id x2
     go_wp2_with fail
     refine (HW.out _ q2).mono ?_
     rintro e w3 ⟨rfl, hb⟩
     have x3 := x2.ret hb
     have q3 := q2.trans (hb.mono q2.size)
     clear l c0 c1 c2 c3 c4 c5 c6 c7
     clear hb x2
     obtain ⟨l, c0, c1, c2, c3, c4, c5, c6, c7, -, -, -, -, -, -, -, -⟩ := id x3
     go_wp2_with fail
     refine (HS.out _).mono ?_
     rintro e w4 ⟨rfl, hb⟩
     have x4 := x3.ret hb
     have q4 := q3.trans (hb.mono q3.size)
     clear l c0 c1 c2 c3 c4 c5 c6 c7
     clear hb x3
     obtain ⟨l, c0, c1, c2, c3, c4, c5, c6, c7, -, -, -, -, -, -, -, -⟩ := id x4
     go_wp2_with fail
     go_ret
     exact ⟨by first | rfl | simp, q4⟩
    | false =>
     go_enter Tryz.func69, Tryz.ntmps69
     go_wp2_with fail
     refine (HA.out _).mono ?_
     rintro e w1 ⟨rfl, hb⟩
     have al := (Below.refl w1.heap.size w1).alloc (Nat.le_refl _) (.cells #[.string X, .string Y, .string Z] 85)
     have x2 := (x0.ret hb).ret al
     have q1 := q0.trans (hb.mono q0.size)
     have q2 := q1.trans (al.mono q1.size)
     clear hb al q1 x0
     obtain ⟨l, c0, c1, c2, c3, c4, c5, c6, c7, -, -, -, -, -, -, -, -⟩ := id x2
     go_wp2_with fail
     refine (HW.out _ q2).mono ?_
     rintro e w3 ⟨rfl, hb⟩
     have x3 := x2.ret hb
     have q3 := q2.trans (hb.mono q2.size)
     clear l c0 c1 c2 c3 c4 c5 c6 c7
     clear hb x2
     obtain ⟨l, c0, c1, c2, c3, c4, c5, c6, c7, -, -, -, -, -, -, -, -⟩ := id x3
     go_wp2_with fail
     refine (HS.out _).mono ?_
     rintro e w4 ⟨rfl, hb⟩
     have x4 := x3.ret hb
     have q4 := q3.trans (hb.mono q3.size)
     clear l c0 c1 c2 c3 c4 c5 c6 c7
     clear hb x3
     obtain ⟨l, c0, c1, c2, c3, c4, c5, c6, c7, -, -, -, -, -, -, -, -⟩ := id x4
     go_wp2_with fail
     go_ret
     exact ⟨by first | rfl | simp, q4⟩
theorem sub_may21 (a b c d : Bool) (w : World) : Calls Tryz.prog 100 #[.agg #[.bool a, .bool b, .bool c, .bool d]] w (Ret w (.bool (subMay (a, b, c, d)))) := by
 have := ref20_May a b c d w
 have e : (!(a && b || c && d)) = subMay (a, b, c, d) := by
  cases a <;> cases b <;> cases c <;> cases d <;> rfl
 rwa [e] at this
theorem r21_mayItem (p : Im) (w : World) (hv : IsGrp (gvI p) p.1.g w) (zj : p.1.j.length ≤ 10000) (zn : p.1.n.length ≤ 10000) (zg : p.1.g.length ≤ 1000) (zx : ∀ x ∈ p.1.g, x.length ≤ 10000) :
  Calls Tryz.prog 69 #[itA p] w (Ret w (.bool (itemP p.1))) := by
 obtain ⟨⟨j, n, g, ⟨a, b, c, d⟩, k⟩, ga, cap⟩ := p
 simp only at hv zj zn zg zx ⊢
 have CA := fun w => r21_Address ⟨j.toArray⟩ w (by rw [← size_toList]; exact zj)
 have CW := fun (w' : World) (hb : Below w.heap.size w w') => r21_words ⟨n.toArray⟩ (.slice ga g.length cap) g w' (by rw [← size_toList]; exact zn) (hv.ret hb) zg zx
 have CS := sub_may21 a b c d
 have hI : itemP (j, n, g, (a, b, c, d), k) = (adrOk j && (wordsP n g && (subMay (a, b, c, d) && (k || (n.isEmpty && (g.isEmpty && decide ((a, b, c, d) = (false, false, false, true)))))))) := rfl
 rw [hI]
 unfold adrV at CA
 by_cases h1 : n = []
 ·subst h1
  by_cases h2 : g = []
  ·subst h2
   exact r21_mayItem_S ⟨j.toArray⟩ (jB []) _ _ _ ga 0 cap a b c d k _ _ _ _ w (by rw [Lib.toList_data]; rfl) rfl rfl CA CW CS
  ·have e : g.isEmpty = false := by cases g with
    | nil => exact absurd rfl h2
    | cons => rfl
   rw [e, Bool.false_and, Bool.and_false]
   have hl : g.length ≠ 0 := fun h => h2 (List.eq_nil_of_length_eq_zero h)
   exact r21_mayItem_G ⟨j.toArray⟩ (jB []) _ _ _ ga g.length cap a b c d k _ _ _ w (by rw [Lib.toList_data]; rfl) (beq_eq_false_iff_ne.2 (by omega)) CA CW CS
 ·have e : n.isEmpty = false := by cases n with
   | nil => exact absurd rfl h1
   | cons => rfl
  rw [e, Bool.false_and]
  exact r21_mayItem_N _ _ _ _ _ ga _ cap a b c d k _ _ _ w (jB_ne e) CA CW CS
end Go.Proofs.YtfonkblbgadhmaaGreatDoor
