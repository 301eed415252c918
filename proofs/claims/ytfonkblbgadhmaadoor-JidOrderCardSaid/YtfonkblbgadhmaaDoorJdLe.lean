/- law19: JidOrder. PRINTED BY PROGRAM (gen_jle.py). -/
import Derived.Test.YtfonkblbgadhmaaDoorJdLb
import Derived.Test.YtfonkblbgadhmaaDoorGh
namespace Go.Proofs.YtfonkblbgadhmaaDoor
open Go.RowKit Go.Lib

/-- what is known: the three addresses in their cells; nothing that was there has turned. -/
structure Or3 (w : World) (a b c x y z u v r : ByteArray) (W : World) : Prop where
  A : JAt w.heap.size a b c W
  B : JAt (w.heap.size + 1) x y z W
  C : JAt (w.heap.size + 1 + 1) u v r W
  q : Below w.heap.size w W
  m : ML W
theorem Or3.ret {w : World} {a b c x y z u v r : ByteArray} {W W' : World} (h : Or3 w a b c x y z u v r W) (hb : Below W.heap.size W W') : Or3 w a b c x y z u v r W' :=
  ⟨h.A.ret hb, h.B.ret hb, h.C.ret hb, h.q.trans (hb.mono h.q.size), h.m.ret hb⟩
theorem Or3.new (w : World) (a b c x y z u v r : ByteArray) (m : ML w) : Or3 w a b c x y z u v r (((w.alloc (.cells #[.string a, .string b, .string c] 23)).alloc (.cells #[.string x, .string y, .string z] 23)).alloc (.cells #[.string u, .string v, .string r] 23)) := by
  have a1 := JAt.new w a b c
  have b1 := (Below.refl w.heap.size w).alloc (Nat.le_refl _) (.cells #[.string a, .string b, .string c] 23)
  have m1 := m.ret b1
  obtain ⟨W1, h1⟩ : ∃ W, w.alloc (.cells #[.string a, .string b, .string c] 23) = W := ⟨_, rfl⟩
  have s1 : W1.heap.size = w.heap.size + 1 := by rw [← h1]; simp
  rw [h1] at a1 b1 m1 ⊢
  have a2 := JAt.new W1 x y z
  have b2 := (Below.refl W1.heap.size W1).alloc (Nat.le_refl _) (.cells #[.string x, .string y, .string z] 23)
  have a1 := a1.ret b2
  have m1 := m1.ret b2
  have b1 := b1.trans (b2.mono b1.size)
  obtain ⟨W2, h2⟩ : ∃ W, W1.alloc (.cells #[.string x, .string y, .string z] 23) = W := ⟨_, rfl⟩
  have s2 : W2.heap.size = w.heap.size + 1 + 1 := by rw [← h2]; simp; omega
  rw [h2] at a1 a2 b1 m1 ⊢
  have a3 := JAt.new W2 u v r
  have b3 := (Below.refl W2.heap.size W2).alloc (Nat.le_refl _) (.cells #[.string u, .string v, .string r] 23)
  rw [s1] at a2
  rw [s2] at a3
  exact ⟨a1.ret b3, a2.ret b3, a3, b1.trans (b3.mono b1.size), m1.ret b3⟩
theorem order19_big (a b c x y z u v r : ByteArray) (w : World) (ha : a.size ≤ 140737488351232) (hb : b.size ≤ 140737488351232) (hc : c.size ≤ 140737488351232) (hx : x.size ≤ 140737488351232) (hy : y.size ≤ 140737488351232) (hz : z.size ≤ 140737488351232) (hu : u.size ≤ 140737488351232) (hv : v.size ≤ 140737488351232) (hr : r.size ≤ 140737488351232) (hm : ML w) (hbig : 1000 < a.size + b.size + c.size ∨ 1000 < x.size + y.size + z.size ∨ 1000 < u.size + v.size + r.size) :
    Calls Tryd.prog 5 #[jV a b c, jV x y z, jV u v r] w (Ret w (.bool true)) := by
  have k0 := Or3.new w a b c x y z u v r hm
  by_cases h1 : 1000 < a.size + b.size + c.size
  · have g1 : ((1000 : Int) < (a.size : Int) + b.size + c.size) := by omega
    clear hbig h1
    go_enter Tryd.func5, Tryd.ntmps5
    go_wp2_with fail
    refine (alive19 _ k0.m).mono ?_
    rintro e w1 ⟨rfl, hb⟩
    have k1 := k0.ret hb
    clear hb k0
    obtain ⟨x0, x1, x2, x3, x4⟩ := k1.A
    obtain ⟨y0, y1, y2, y3, y4⟩ := k1.B
    obtain ⟨z0, z1, z2, z3, z4⟩ := k1.C
    go_wp2_with fail
    go_ret
    exact ⟨rfl, k1.q⟩
  · have g1 : (¬ (1000 : Int) < (a.size : Int) + b.size + c.size) := by omega
    by_cases h2 : 1000 < x.size + y.size + z.size
    · have g2 : ((1000 : Int) < (x.size : Int) + y.size + z.size) := by omega
      clear hbig h1 h2
      go_enter Tryd.func5, Tryd.ntmps5
      go_wp2_with fail
      refine (alive19 _ k0.m).mono ?_
      rintro e w1 ⟨rfl, hb⟩
      have k1 := k0.ret hb
      clear hb k0
      obtain ⟨x0, x1, x2, x3, x4⟩ := k1.A
      obtain ⟨y0, y1, y2, y3, y4⟩ := k1.B
      obtain ⟨z0, z1, z2, z3, z4⟩ := k1.C
      go_wp2_with fail
      go_ret
      exact ⟨rfl, k1.q⟩
    · have g2 : (¬ (1000 : Int) < (x.size : Int) + y.size + z.size) := by omega
      have g3 : ((1000 : Int) < (u.size : Int) + v.size + r.size) := by omega
      clear hbig h1 h2
      go_enter Tryd.func5, Tryd.ntmps5
      go_wp2_with fail
      refine (alive19 _ k0.m).mono ?_
      rintro e w1 ⟨rfl, hb⟩
      have k1 := k0.ret hb
      clear hb k0
      obtain ⟨x0, x1, x2, x3, x4⟩ := k1.A
      obtain ⟨y0, y1, y2, y3, y4⟩ := k1.B
      obtain ⟨z0, z1, z2, z3, z4⟩ := k1.C
      go_wp2_with fail
      go_ret
      exact ⟨rfl, k1.q⟩
set_option maxHeartbeats 8000000 in
set_option maxRecDepth 100000 in
theorem order19_TFTE (a b x y z u v r : ByteArray) (w : World) (hm : ML w) (ha : a.size ≤ 1000) (hb : b.size ≤ 1000) (hx : x.size ≤ 1000) (hy : y.size ≤ 1000) (hz : z.size ≤ 1000) (hu : u.size ≤ 1000) (hv : v.size ≤ 1000) (hr : r.size ≤ 1000) (g1 : ¬ (1000 : Int) < (a.size : Int) + b.size + ((⟨#[]⟩ : ByteArray)).size) (g2 : ¬ (1000 : Int) < (x.size : Int) + y.size + z.size) (g3 : ¬ (1000 : Int) < (u.size : Int) + v.size + r.size)
    (CX : ∀ w, Calls Tryd.prog 17 #[jV a b ⟨#[]⟩, jV x y z] w (Ret w (.bool true))) (CY : ∀ w, Calls Tryd.prog 17 #[jV x y z, jV a b ⟨#[]⟩] w (Ret w (.bool false))) (hE : jE a b ⟨#[]⟩ x y z = false) (CU : ∀ w, Calls Tryd.prog 17 #[jV x y z, jV u v r] w (Ret w (.bool true))) (CV : ∀ w, Calls Tryd.prog 17 #[jV a b ⟨#[]⟩, jV u v r] w (Ret w (.bool true))) :
    Calls Tryd.prog 5 #[jV a b ⟨#[]⟩, jV x y z, jV u v r] w (Ret w (.bool true)) := by
  have k0 := Or3.new w a b ⟨#[]⟩ x y z u v r hm
  have EQ := eql_jid
  have NE := neq_jid
  have EG := eg_jid
  have ES := jE_self a b ⟨#[]⟩
  have ES0 := jE_self a b ⟨#[]⟩
  have HX := Lib.hid CX
  have HY := Lib.hid CY
  have HU := Lib.hid CU
  have HV := Lib.hid CV
  clear CX CY CU CV 
  go_enter Tryd.func5, Tryd.ntmps5
  go_wp2_with fail
  refine (alive19 _ k0.m).mono ?_
  rintro e w1 ⟨rfl, hb⟩
  have k1 := k0.ret hb
  clear hb k0
  obtain ⟨x0, x1, x2, x3, x4⟩ := k1.A
  obtain ⟨y0, y1, y2, y3, y4⟩ := k1.B
  obtain ⟨z0, z1, z2, z3, z4⟩ := k1.C
  go_wp2_with fail
  have k2 := k1.ret (Below.drew (Below.refl _ _))
  clear x0 x1 x2 x3 x4 y0 y1 y2 y3 y4 z0 z1 z2 z3 z4
  refine wp_region_held_drew (S := fun w' => w'.cell? ⟨w.heap.size, 0, none⟩ = some (.string a) ∧ w'.cell? ⟨w.heap.size, 1, none⟩ = some (.string b) ∧ w'.cell? ⟨w.heap.size, 2, none⟩ = some (.string ⟨#[]⟩) ∧ w'.cell? ⟨w.heap.size + 1, 0, none⟩ = some (.string x) ∧ w'.cell? ⟨w.heap.size + 1, 1, none⟩ = some (.string y) ∧ w'.cell? ⟨w.heap.size + 1, 2, none⟩ = some (.string z)) (by kernel_rfl) ⟨k2.A.c0, k2.A.c1, k2.A.c2, k2.B.c0, k2.B.c1, k2.B.c2⟩ (fun hHeld => ?_)
  refine tk_on (i := 0) (some 56) (v := ?_) (by kernel_rfl) (by kernel_rfl) (by kernel_rfl) (by kernel_rfl) (fun _ _ _ h => h) (by assumption) (fun o ho w' hSw => ?_) ?_
  rotate_left
  · (simp only [List.getElem?_toArray, List.getElem?_cons_zero, Option.some.injEq] at ho; subst ho; (try dsimp only at hSw); go_simp; try with_reducible rfl)
  simp only [Act.put, List.setIfInBounds_toArray, List.set_cons_zero, List.set_cons_succ]
  refine tk_on (i := 1) (some 57) (v := ?_) (by kernel_rfl) (by kernel_rfl) (by kernel_rfl) (by kernel_rfl) (fun _ _ _ h => h) (by assumption) (fun o ho w' hSw => ?_) ?_
  rotate_left
  · (simp only [List.getElem?_toArray, List.getElem?_cons_succ, List.getElem?_cons_zero, Option.some.injEq] at ho; subst ho; (try dsimp only at hSw); go_simp; try with_reducible rfl)
  simp only [Act.put, List.setIfInBounds_toArray, List.set_cons_zero, List.set_cons_succ]
  refine tk_on (i := 3) (some 59) (v := ?_) (by kernel_rfl) (by kernel_rfl) (by kernel_rfl) (by kernel_rfl) (fun _ _ _ h => h) (by assumption) (fun o ho w' hSw => ?_) ?_
  rotate_left
  · (simp only [List.getElem?_toArray, List.getElem?_cons_succ, List.getElem?_cons_zero, Option.some.injEq] at ho; subst ho; (try dsimp only at hSw); go_simp; try with_reducible rfl)
  simp only [Act.put, List.setIfInBounds_toArray, List.set_cons_zero, List.set_cons_succ]
  refine tk_on (i := 4) (some 60) (v := ?_) (by kernel_rfl) (by kernel_rfl) (by kernel_rfl) (by kernel_rfl) (fun _ _ _ h => h) (by assumption) (fun o ho w' hSw => ?_) ?_
  rotate_left
  · (simp only [List.getElem?_toArray, List.getElem?_cons_succ, List.getElem?_cons_zero, Option.some.injEq] at ho; subst ho; (try dsimp only at hSw); go_simp; try with_reducible rfl)
  simp only [Act.put, List.setIfInBounds_toArray, List.set_cons_zero, List.set_cons_succ]
  refine tk_call (i := 2) (by kernel_rfl) (by kernel_rfl) (fun o ho K hK => ?_)
  simp only [List.getElem?_toArray, List.getElem?_cons_succ, List.getElem?_cons_zero, Option.some.injEq] at ho
  subst ho
  go_simp
  refine (HX.out _).mono ?_
  rintro e w3 ⟨rfl, hb⟩
  have k3 := k2.ret hb
  clear hb k2
  go_simp
  clear hHeld
  refine hK.out _ _ ⟨k3.A.c0, k3.A.c1, k3.A.c2, k3.B.c0, k3.B.c1, k3.B.c2⟩ (fun hHeld => ?_)
  clear hK K
  refine tk_call (i := 5) (by kernel_rfl) (by kernel_rfl) (fun o ho K hK => ?_)
  simp only [List.getElem?_toArray, List.getElem?_cons_succ, List.getElem?_cons_zero, Option.some.injEq] at ho
  subst ho
  go_simp
  refine (HY.out _).mono ?_
  rintro e w4 ⟨rfl, hb⟩
  have k4 := k3.ret hb
  clear hb k3
  go_simp
  clear hHeld
  refine hK.out _ _ ⟨k4.A.c0, k4.A.c1, k4.A.c2, k4.B.c0, k4.B.c1, k4.B.c2⟩ (fun hHeld => ?_)
  clear hK K
  refine tk_on (i := 6) (some 8) (v := ?_) (by kernel_rfl) (by kernel_rfl) (by kernel_rfl) (by kernel_rfl) (fun _ _ _ h => h) (by assumption) (fun o ho w' hSw => ?_) ?_
  rotate_left
  · (simp only [List.getElem?_toArray, List.getElem?_cons_succ, List.getElem?_cons_zero, Option.some.injEq] at ho; subst ho; (try dsimp only at hSw); go_simp; try with_reducible rfl)
  simp only [Act.put, List.setIfInBounds_toArray, List.set_cons_zero, List.set_cons_succ]
  refine tk_on (i := 7) (some 9) (v := ?_) (by kernel_rfl) (by kernel_rfl) (by kernel_rfl) (by kernel_rfl) (fun _ _ _ h => h) (by assumption) (fun o ho w' hSw => ?_) ?_
  rotate_left
  · (simp only [List.getElem?_toArray, List.getElem?_cons_succ, List.getElem?_cons_zero, Option.some.injEq] at ho; subst ho; (try dsimp only at hSw); go_simp; try with_reducible rfl)
  simp only [Act.put, List.setIfInBounds_toArray, List.set_cons_zero, List.set_cons_succ]
  refine wpAnyH_done (by kernel_rfl) ?_ _
  obtain ⟨x0, x1, x2, x3, x4⟩ := k4.A
  obtain ⟨y0, y1, y2, y3, y4⟩ := k4.B
  obtain ⟨z0, z1, z2, z3, z4⟩ := k4.C
  go_wp2_with fail
  refine (HU.out _).mono ?_
  rintro e w5 ⟨rfl, hb⟩
  have k5 := k4.ret hb
  clear hb k4
  clear x0 x1 x2 x3 x4 y0 y1 y2 y3 y4 z0 z1 z2 z3 z4
  obtain ⟨x0, x1, x2, x3, x4⟩ := k5.A
  obtain ⟨y0, y1, y2, y3, y4⟩ := k5.B
  obtain ⟨z0, z1, z2, z3, z4⟩ := k5.C
  go_wp2_with fail
  refine (HV.out _).mono ?_
  rintro e w6 ⟨rfl, hb⟩
  have k6 := k5.ret hb
  clear hb k5
  clear x0 x1 x2 x3 x4 y0 y1 y2 y3 y4 z0 z1 z2 z3 z4
  obtain ⟨x0, x1, x2, x3, x4⟩ := k6.A
  obtain ⟨y0, y1, y2, y3, y4⟩ := k6.B
  obtain ⟨z0, z1, z2, z3, z4⟩ := k6.C
  go_wp2_with fail
  clear x0 x1 x2 x3 x4 y0 y1 y2 y3 y4 z0 z1 z2 z3 z4
  have k7 := k6.ret (Below.drew (Below.refl _ _))
  refine wp_region_held_drew (S := fun w' => w'.cell? ⟨w.heap.size, 0, none⟩ = some (.string a) ∧ w'.cell? ⟨w.heap.size, 1, none⟩ = some (.string b) ∧ w'.cell? ⟨w.heap.size, 2, none⟩ = some (.string ⟨#[]⟩)) (by kernel_rfl) ⟨k7.A.c0, k7.A.c1, k7.A.c2⟩ (fun hHeld => ?_)
  refine tk_on (i := 0) (some 90) (v := ?_) (by kernel_rfl) (by kernel_rfl) (by kernel_rfl) (by kernel_rfl) (fun _ _ _ h => h) (by assumption) (fun o ho w' hSw => ?_) ?_
  rotate_left
  · (simp only [List.getElem?_toArray, List.getElem?_cons_zero, Option.some.injEq] at ho; subst ho; (try dsimp only at hSw); go_simp; try with_reducible rfl)
  simp only [Act.put, List.setIfInBounds_toArray, List.set_cons_zero, List.set_cons_succ]
  refine tk_on (i := 1) (some 91) (v := ?_) (by kernel_rfl) (by kernel_rfl) (by kernel_rfl) (by kernel_rfl) (fun _ _ _ h => h) (by assumption) (fun o ho w' hSw => ?_) ?_
  rotate_left
  · (simp only [List.getElem?_toArray, List.getElem?_cons_succ, List.getElem?_cons_zero, Option.some.injEq] at ho; subst ho; (try dsimp only at hSw); go_simp; try with_reducible rfl)
  simp only [Act.put, List.setIfInBounds_toArray, List.set_cons_zero, List.set_cons_succ]
  refine tk_on (i := 2) (some 92) (v := ?_) (by kernel_rfl) (by kernel_rfl) (by kernel_rfl) (by kernel_rfl) (fun _ _ _ h => h) (by assumption) (fun o ho w' hSw => ?_) ?_
  rotate_left
  · (simp only [List.getElem?_toArray, List.getElem?_cons_succ, List.getElem?_cons_zero, Option.some.injEq] at ho; subst ho; (try dsimp only at hSw); go_simp; try with_reducible rfl)
  simp only [Act.put, List.setIfInBounds_toArray, List.set_cons_zero, List.set_cons_succ]
  refine tk_on (i := 4) (some 94) (v := ?_) (by kernel_rfl) (by kernel_rfl) (by kernel_rfl) (by kernel_rfl) (fun _ _ _ h => h) (by assumption) (fun o ho w' hSw => ?_) ?_
  rotate_left
  · (simp only [List.getElem?_toArray, List.getElem?_cons_succ, List.getElem?_cons_zero, Option.some.injEq] at ho; subst ho; (try dsimp only at hSw); go_simp; try with_reducible rfl)
  simp only [Act.put, List.setIfInBounds_toArray, List.set_cons_zero, List.set_cons_succ]
  refine tk_call (i := 3) (by kernel_rfl) (by kernel_rfl) (fun o ho K hK => ?_)
  simp only [List.getElem?_toArray, List.getElem?_cons_succ, List.getElem?_cons_zero, Option.some.injEq] at ho
  subst ho
  go_simp
  refine (jd_Bare a b ⟨#[]⟩ _).mono ?_
  rintro e w8 ⟨rfl, hb⟩
  have k8 := k7.ret hb
  clear hb k7
  go_simp
  clear hHeld
  refine hK.out _ _ ⟨k8.A.c0, k8.A.c1, k8.A.c2⟩ (fun hHeld => ?_)
  clear hK K
  refine tk_on (i := 5) (some 95) (v := ?_) (by kernel_rfl) (by kernel_rfl) (by kernel_rfl) (by kernel_rfl) (fun _ _ _ h => h) (by assumption) (fun o ho w' hSw => ?_) ?_
  rotate_left
  · (simp only [List.getElem?_toArray, List.getElem?_cons_succ, List.getElem?_cons_zero, Option.some.injEq] at ho; subst ho; (try dsimp only at hSw); go_simp; try with_reducible rfl)
  simp only [Act.put, List.setIfInBounds_toArray, List.set_cons_zero, List.set_cons_succ]
  refine tk_on (i := 6) (some 96) (v := ?_) (by kernel_rfl) (by kernel_rfl) (by kernel_rfl) (by kernel_rfl) (fun _ _ _ h => h) (by assumption) (fun o ho w' hSw => ?_) ?_
  rotate_left
  · (simp only [List.getElem?_toArray, List.getElem?_cons_succ, List.getElem?_cons_zero, Option.some.injEq] at ho; subst ho; (try dsimp only at hSw); go_simp; try with_reducible rfl)
  simp only [Act.put, List.setIfInBounds_toArray, List.set_cons_zero, List.set_cons_succ]
  refine tk_off (i := 7) (some 97) (by kernel_rfl) (by kernel_rfl) (by kernel_rfl) (by kernel_rfl) (fun _ _ _ h => h) (by assumption) ?_
  simp only [Act.put, List.setIfInBounds_toArray, List.set_cons_zero, List.set_cons_succ]
  refine tk_off (i := 8) (some 98) (by kernel_rfl) (by kernel_rfl) (by kernel_rfl) (by kernel_rfl) (fun _ _ _ h => h) (by assumption) ?_
  simp only [Act.put, List.setIfInBounds_toArray, List.set_cons_zero, List.set_cons_succ]
  refine tk_off (i := 9) (some 99) (by kernel_rfl) (by kernel_rfl) (by kernel_rfl) (by kernel_rfl) (fun _ _ _ h => h) (by assumption) ?_
  simp only [Act.put, List.setIfInBounds_toArray, List.set_cons_zero, List.set_cons_succ]
  refine tk_off (i := 10) (some 100) (by kernel_rfl) (by kernel_rfl) (by kernel_rfl) (by kernel_rfl) (fun _ _ _ h => h) (by assumption) ?_
  simp only [Act.put, List.setIfInBounds_toArray, List.set_cons_zero, List.set_cons_succ]
  refine tk_on (i := 11) (some 101) (v := ?_) (by kernel_rfl) (by kernel_rfl) (by kernel_rfl) (by kernel_rfl) (fun _ _ _ h => h) (by assumption) (fun o ho w' hSw => ?_) ?_
  rotate_left
  · (simp only [List.getElem?_toArray, List.getElem?_cons_succ, List.getElem?_cons_zero, Option.some.injEq] at ho; subst ho; (try dsimp only at hSw); go_simp; try with_reducible rfl)
  simp only [Act.put, List.setIfInBounds_toArray, List.set_cons_zero, List.set_cons_succ]
  refine tk_on (i := 12) (some 102) (v := ?_) (by kernel_rfl) (by kernel_rfl) (by kernel_rfl) (by kernel_rfl) (fun _ _ _ h => h) (by assumption) (fun o ho w' hSw => ?_) ?_
  rotate_left
  · (simp only [List.getElem?_toArray, List.getElem?_cons_succ, List.getElem?_cons_zero, Option.some.injEq] at ho; subst ho; (try dsimp only at hSw); go_simp; try with_reducible rfl)
  simp only [Act.put, List.setIfInBounds_toArray, List.set_cons_zero, List.set_cons_succ]
  refine tk_on (i := 13) (some 103) (v := ?_) (by kernel_rfl) (by kernel_rfl) (by kernel_rfl) (by kernel_rfl) (fun _ _ _ h => h) (by assumption) (fun o ho w' hSw => ?_) ?_
  rotate_left
  · (simp only [List.getElem?_toArray, List.getElem?_cons_succ, List.getElem?_cons_zero, Option.some.injEq] at ho; subst ho; (try dsimp only at hSw); go_simp; try with_reducible rfl)
  simp only [Act.put, List.setIfInBounds_toArray, List.set_cons_zero, List.set_cons_succ]
  refine tk_on (i := 14) (some 104) (v := ?_) (by kernel_rfl) (by kernel_rfl) (by kernel_rfl) (by kernel_rfl) (fun _ _ _ h => h) (by assumption) (fun o ho w' hSw => ?_) ?_
  rotate_left
  · (simp only [List.getElem?_toArray, List.getElem?_cons_succ, List.getElem?_cons_zero, Option.some.injEq] at ho; subst ho; (try dsimp only at hSw); go_simp; try with_reducible rfl)
  simp only [Act.put, List.setIfInBounds_toArray, List.set_cons_zero, List.set_cons_succ]
  refine tk_on (i := 17) (some 107) (v := ?_) (by kernel_rfl) (by kernel_rfl) (by kernel_rfl) (by kernel_rfl) (fun _ _ _ h => h) (by assumption) (fun o ho w' hSw => ?_) ?_
  rotate_left
  · (simp only [List.getElem?_toArray, List.getElem?_cons_succ, List.getElem?_cons_zero, Option.some.injEq] at ho; subst ho; (try dsimp only at hSw); go_simp; try with_reducible rfl)
  simp only [Act.put, List.setIfInBounds_toArray, List.set_cons_zero, List.set_cons_succ]
  refine tk_call (i := 15) (by kernel_rfl) (by kernel_rfl) (fun o ho K hK => ?_)
  simp only [List.getElem?_toArray, List.getElem?_cons_succ, List.getElem?_cons_zero, Option.some.injEq] at ho
  subst ho
  go_simp
  refine (jd_Bare a b ⟨#[]⟩ _).mono ?_
  rintro e w9 ⟨rfl, hb⟩
  have k9 := k8.ret hb
  clear hb k8
  go_simp
  clear hHeld
  refine hK.out _ _ ⟨k9.A.c0, k9.A.c1, k9.A.c2⟩ (fun hHeld => ?_)
  clear hK K
  refine tk_call (i := 16) (by kernel_rfl) (by kernel_rfl) (fun o ho K hK => ?_)
  simp only [List.getElem?_toArray, List.getElem?_cons_succ, List.getElem?_cons_zero, Option.some.injEq] at ho
  subst ho
  go_simp
  refine (jd_Bare a b ⟨#[]⟩ _).mono ?_
  rintro e w10 ⟨rfl, hb⟩
  have k10 := k9.ret hb
  clear hb k9
  go_simp
  clear hHeld
  refine hK.out _ _ ⟨k10.A.c0, k10.A.c1, k10.A.c2⟩ (fun hHeld => ?_)
  clear hK K
  refine tk_call (i := 18) (by kernel_rfl) (by kernel_rfl) (fun o ho K hK => ?_)
  simp only [List.getElem?_toArray, List.getElem?_cons_succ, List.getElem?_cons_zero, Option.some.injEq] at ho
  subst ho
  go_simp
  refine (jd_Bare a b ⟨#[]⟩ _).mono ?_
  rintro e w11 ⟨rfl, hb⟩
  have k11 := k10.ret hb
  clear hb k10
  go_simp
  clear hHeld
  refine hK.out _ _ ⟨k11.A.c0, k11.A.c1, k11.A.c2⟩ (fun hHeld => ?_)
  clear hK K
  refine tk_on (i := 19) (some 109) (v := ?_) (by kernel_rfl) (by kernel_rfl) (by kernel_rfl) (by kernel_rfl) (fun _ _ _ h => h) (by assumption) (fun o ho w' hSw => ?_) ?_
  rotate_left
  · (simp only [List.getElem?_toArray, List.getElem?_cons_succ, List.getElem?_cons_zero, Option.some.injEq] at ho; subst ho; (try dsimp only at hSw); go_simp; try with_reducible rfl)
  simp only [Act.put, List.setIfInBounds_toArray, List.set_cons_zero, List.set_cons_succ]
  refine tk_on (i := 20) (some 110) (v := ?_) (by kernel_rfl) (by kernel_rfl) (by kernel_rfl) (by kernel_rfl) (fun _ _ _ h => h) (by assumption) (fun o ho w' hSw => ?_) ?_
  rotate_left
  · (simp only [List.getElem?_toArray, List.getElem?_cons_succ, List.getElem?_cons_zero, Option.some.injEq] at ho; subst ho; (try dsimp only at hSw); go_simp; try with_reducible rfl)
  simp only [Act.put, List.setIfInBounds_toArray, List.set_cons_zero, List.set_cons_succ]
  refine tk_on (i := 21) (some 6) (v := ?_) (by kernel_rfl) (by kernel_rfl) (by kernel_rfl) (by kernel_rfl) (fun _ _ _ h => h) (by assumption) (fun o ho w' hSw => ?_) ?_
  rotate_left
  · (simp only [List.getElem?_toArray, List.getElem?_cons_succ, List.getElem?_cons_zero, Option.some.injEq] at ho; subst ho; (try dsimp only at hSw); go_simp; try with_reducible rfl)
  simp only [Act.put, List.setIfInBounds_toArray, List.set_cons_zero, List.set_cons_succ]
  refine wpAnyH_done (by kernel_rfl) ?_ _
  go_wp2_with fail
  go_ret
  exact ⟨rfl, k11.q⟩
set_option maxHeartbeats 8000000 in
set_option maxRecDepth 100000 in
theorem order19_TFTN (a b c x y z u v r : ByteArray) (w : World) (hm : ML w) (ha : a.size ≤ 1000) (hb : b.size ≤ 1000) (hc : c.size ≤ 1000) (hx : x.size ≤ 1000) (hy : y.size ≤ 1000) (hz : z.size ≤ 1000) (hu : u.size ≤ 1000) (hv : v.size ≤ 1000) (hr : r.size ≤ 1000) (g1 : ¬ (1000 : Int) < (a.size : Int) + b.size + (c).size) (g2 : ¬ (1000 : Int) < (x.size : Int) + y.size + z.size) (g3 : ¬ (1000 : Int) < (u.size : Int) + v.size + r.size)
    (CX : ∀ w, Calls Tryd.prog 17 #[jV a b c, jV x y z] w (Ret w (.bool true))) (CY : ∀ w, Calls Tryd.prog 17 #[jV x y z, jV a b c] w (Ret w (.bool false))) (hE : jE a b c x y z = false) (CU : ∀ w, Calls Tryd.prog 17 #[jV x y z, jV u v r] w (Ret w (.bool true))) (CV : ∀ w, Calls Tryd.prog 17 #[jV a b c, jV u v r] w (Ret w (.bool true))) (hB : jE a b ⟨#[]⟩ a b c = false) (CL : ∀ w, Calls Tryd.prog 17 #[jV a b ⟨#[]⟩, jV a b c] w (Ret w (.bool true))) :
    Calls Tryd.prog 5 #[jV a b c, jV x y z, jV u v r] w (Ret w (.bool true)) := by
  have k0 := Or3.new w a b c x y z u v r hm
  have EQ := eql_jid
  have NE := neq_jid
  have EG := eg_jid
  have ES := jE_self a b c
  have ES0 := jE_self a b ⟨#[]⟩
  have HX := Lib.hid CX
  have HY := Lib.hid CY
  have HU := Lib.hid CU
  have HV := Lib.hid CV
  have HL := Lib.hid CL
  clear CX CY CU CV CL
  go_enter Tryd.func5, Tryd.ntmps5
  go_wp2_with fail
  refine (alive19 _ k0.m).mono ?_
  rintro e w1 ⟨rfl, hb⟩
  have k1 := k0.ret hb
  clear hb k0
  obtain ⟨x0, x1, x2, x3, x4⟩ := k1.A
  obtain ⟨y0, y1, y2, y3, y4⟩ := k1.B
  obtain ⟨z0, z1, z2, z3, z4⟩ := k1.C
  go_wp2_with fail
  have k2 := k1.ret (Below.drew (Below.refl _ _))
  clear x0 x1 x2 x3 x4 y0 y1 y2 y3 y4 z0 z1 z2 z3 z4
  refine wp_region_held_drew (S := fun w' => w'.cell? ⟨w.heap.size, 0, none⟩ = some (.string a) ∧ w'.cell? ⟨w.heap.size, 1, none⟩ = some (.string b) ∧ w'.cell? ⟨w.heap.size, 2, none⟩ = some (.string c) ∧ w'.cell? ⟨w.heap.size + 1, 0, none⟩ = some (.string x) ∧ w'.cell? ⟨w.heap.size + 1, 1, none⟩ = some (.string y) ∧ w'.cell? ⟨w.heap.size + 1, 2, none⟩ = some (.string z)) (by kernel_rfl) ⟨k2.A.c0, k2.A.c1, k2.A.c2, k2.B.c0, k2.B.c1, k2.B.c2⟩ (fun hHeld => ?_)
  refine tk_on (i := 0) (some 56) (v := ?_) (by kernel_rfl) (by kernel_rfl) (by kernel_rfl) (by kernel_rfl) (fun _ _ _ h => h) (by assumption) (fun o ho w' hSw => ?_) ?_
  rotate_left
  · (simp only [List.getElem?_toArray, List.getElem?_cons_zero, Option.some.injEq] at ho; subst ho; (try dsimp only at hSw); go_simp; try with_reducible rfl)
  simp only [Act.put, List.setIfInBounds_toArray, List.set_cons_zero, List.set_cons_succ]
  refine tk_on (i := 1) (some 57) (v := ?_) (by kernel_rfl) (by kernel_rfl) (by kernel_rfl) (by kernel_rfl) (fun _ _ _ h => h) (by assumption) (fun o ho w' hSw => ?_) ?_
  rotate_left
  · (simp only [List.getElem?_toArray, List.getElem?_cons_succ, List.getElem?_cons_zero, Option.some.injEq] at ho; subst ho; (try dsimp only at hSw); go_simp; try with_reducible rfl)
  simp only [Act.put, List.setIfInBounds_toArray, List.set_cons_zero, List.set_cons_succ]
  refine tk_on (i := 3) (some 59) (v := ?_) (by kernel_rfl) (by kernel_rfl) (by kernel_rfl) (by kernel_rfl) (fun _ _ _ h => h) (by assumption) (fun o ho w' hSw => ?_) ?_
  rotate_left
  · (simp only [List.getElem?_toArray, List.getElem?_cons_succ, List.getElem?_cons_zero, Option.some.injEq] at ho; subst ho; (try dsimp only at hSw); go_simp; try with_reducible rfl)
  simp only [Act.put, List.setIfInBounds_toArray, List.set_cons_zero, List.set_cons_succ]
  refine tk_on (i := 4) (some 60) (v := ?_) (by kernel_rfl) (by kernel_rfl) (by kernel_rfl) (by kernel_rfl) (fun _ _ _ h => h) (by assumption) (fun o ho w' hSw => ?_) ?_
  rotate_left
  · (simp only [List.getElem?_toArray, List.getElem?_cons_succ, List.getElem?_cons_zero, Option.some.injEq] at ho; subst ho; (try dsimp only at hSw); go_simp; try with_reducible rfl)
  simp only [Act.put, List.setIfInBounds_toArray, List.set_cons_zero, List.set_cons_succ]
  refine tk_call (i := 2) (by kernel_rfl) (by kernel_rfl) (fun o ho K hK => ?_)
  simp only [List.getElem?_toArray, List.getElem?_cons_succ, List.getElem?_cons_zero, Option.some.injEq] at ho
  subst ho
  go_simp
  refine (HX.out _).mono ?_
  rintro e w3 ⟨rfl, hb⟩
  have k3 := k2.ret hb
  clear hb k2
  go_simp
  clear hHeld
  refine hK.out _ _ ⟨k3.A.c0, k3.A.c1, k3.A.c2, k3.B.c0, k3.B.c1, k3.B.c2⟩ (fun hHeld => ?_)
  clear hK K
  refine tk_call (i := 5) (by kernel_rfl) (by kernel_rfl) (fun o ho K hK => ?_)
  simp only [List.getElem?_toArray, List.getElem?_cons_succ, List.getElem?_cons_zero, Option.some.injEq] at ho
  subst ho
  go_simp
  refine (HY.out _).mono ?_
  rintro e w4 ⟨rfl, hb⟩
  have k4 := k3.ret hb
  clear hb k3
  go_simp
  clear hHeld
  refine hK.out _ _ ⟨k4.A.c0, k4.A.c1, k4.A.c2, k4.B.c0, k4.B.c1, k4.B.c2⟩ (fun hHeld => ?_)
  clear hK K
  refine tk_on (i := 6) (some 8) (v := ?_) (by kernel_rfl) (by kernel_rfl) (by kernel_rfl) (by kernel_rfl) (fun _ _ _ h => h) (by assumption) (fun o ho w' hSw => ?_) ?_
  rotate_left
  · (simp only [List.getElem?_toArray, List.getElem?_cons_succ, List.getElem?_cons_zero, Option.some.injEq] at ho; subst ho; (try dsimp only at hSw); go_simp; try with_reducible rfl)
  simp only [Act.put, List.setIfInBounds_toArray, List.set_cons_zero, List.set_cons_succ]
  refine tk_on (i := 7) (some 9) (v := ?_) (by kernel_rfl) (by kernel_rfl) (by kernel_rfl) (by kernel_rfl) (fun _ _ _ h => h) (by assumption) (fun o ho w' hSw => ?_) ?_
  rotate_left
  · (simp only [List.getElem?_toArray, List.getElem?_cons_succ, List.getElem?_cons_zero, Option.some.injEq] at ho; subst ho; (try dsimp only at hSw); go_simp; try with_reducible rfl)
  simp only [Act.put, List.setIfInBounds_toArray, List.set_cons_zero, List.set_cons_succ]
  refine wpAnyH_done (by kernel_rfl) ?_ _
  obtain ⟨x0, x1, x2, x3, x4⟩ := k4.A
  obtain ⟨y0, y1, y2, y3, y4⟩ := k4.B
  obtain ⟨z0, z1, z2, z3, z4⟩ := k4.C
  go_wp2_with fail
  refine (HU.out _).mono ?_
  rintro e w5 ⟨rfl, hb⟩
  have k5 := k4.ret hb
  clear hb k4
  clear x0 x1 x2 x3 x4 y0 y1 y2 y3 y4 z0 z1 z2 z3 z4
  obtain ⟨x0, x1, x2, x3, x4⟩ := k5.A
  obtain ⟨y0, y1, y2, y3, y4⟩ := k5.B
  obtain ⟨z0, z1, z2, z3, z4⟩ := k5.C
  go_wp2_with fail
  refine (HV.out _).mono ?_
  rintro e w6 ⟨rfl, hb⟩
  have k6 := k5.ret hb
  clear hb k5
  clear x0 x1 x2 x3 x4 y0 y1 y2 y3 y4 z0 z1 z2 z3 z4
  obtain ⟨x0, x1, x2, x3, x4⟩ := k6.A
  obtain ⟨y0, y1, y2, y3, y4⟩ := k6.B
  obtain ⟨z0, z1, z2, z3, z4⟩ := k6.C
  go_wp2_with fail
  clear x0 x1 x2 x3 x4 y0 y1 y2 y3 y4 z0 z1 z2 z3 z4
  have k7 := k6.ret (Below.drew (Below.refl _ _))
  refine wp_region_held_drew (S := fun w' => w'.cell? ⟨w.heap.size, 0, none⟩ = some (.string a) ∧ w'.cell? ⟨w.heap.size, 1, none⟩ = some (.string b) ∧ w'.cell? ⟨w.heap.size, 2, none⟩ = some (.string c)) (by kernel_rfl) ⟨k7.A.c0, k7.A.c1, k7.A.c2⟩ (fun hHeld => ?_)
  refine tk_on (i := 0) (some 90) (v := ?_) (by kernel_rfl) (by kernel_rfl) (by kernel_rfl) (by kernel_rfl) (fun _ _ _ h => h) (by assumption) (fun o ho w' hSw => ?_) ?_
  rotate_left
  · (simp only [List.getElem?_toArray, List.getElem?_cons_zero, Option.some.injEq] at ho; subst ho; (try dsimp only at hSw); go_simp; try with_reducible rfl)
  simp only [Act.put, List.setIfInBounds_toArray, List.set_cons_zero, List.set_cons_succ]
  refine tk_on (i := 1) (some 91) (v := ?_) (by kernel_rfl) (by kernel_rfl) (by kernel_rfl) (by kernel_rfl) (fun _ _ _ h => h) (by assumption) (fun o ho w' hSw => ?_) ?_
  rotate_left
  · (simp only [List.getElem?_toArray, List.getElem?_cons_succ, List.getElem?_cons_zero, Option.some.injEq] at ho; subst ho; (try dsimp only at hSw); go_simp; try with_reducible rfl)
  simp only [Act.put, List.setIfInBounds_toArray, List.set_cons_zero, List.set_cons_succ]
  refine tk_on (i := 2) (some 92) (v := ?_) (by kernel_rfl) (by kernel_rfl) (by kernel_rfl) (by kernel_rfl) (fun _ _ _ h => h) (by assumption) (fun o ho w' hSw => ?_) ?_
  rotate_left
  · (simp only [List.getElem?_toArray, List.getElem?_cons_succ, List.getElem?_cons_zero, Option.some.injEq] at ho; subst ho; (try dsimp only at hSw); go_simp; try with_reducible rfl)
  simp only [Act.put, List.setIfInBounds_toArray, List.set_cons_zero, List.set_cons_succ]
  refine tk_on (i := 4) (some 94) (v := ?_) (by kernel_rfl) (by kernel_rfl) (by kernel_rfl) (by kernel_rfl) (fun _ _ _ h => h) (by assumption) (fun o ho w' hSw => ?_) ?_
  rotate_left
  · (simp only [List.getElem?_toArray, List.getElem?_cons_succ, List.getElem?_cons_zero, Option.some.injEq] at ho; subst ho; (try dsimp only at hSw); go_simp; try with_reducible rfl)
  simp only [Act.put, List.setIfInBounds_toArray, List.set_cons_zero, List.set_cons_succ]
  refine tk_call (i := 3) (by kernel_rfl) (by kernel_rfl) (fun o ho K hK => ?_)
  simp only [List.getElem?_toArray, List.getElem?_cons_succ, List.getElem?_cons_zero, Option.some.injEq] at ho
  subst ho
  go_simp
  refine (jd_Bare a b c _).mono ?_
  rintro e w8 ⟨rfl, hb⟩
  have k8 := k7.ret hb
  clear hb k7
  go_simp
  clear hHeld
  refine hK.out _ _ ⟨k8.A.c0, k8.A.c1, k8.A.c2⟩ (fun hHeld => ?_)
  clear hK K
  refine tk_on (i := 5) (some 95) (v := ?_) (by kernel_rfl) (by kernel_rfl) (by kernel_rfl) (by kernel_rfl) (fun _ _ _ h => h) (by assumption) (fun o ho w' hSw => ?_) ?_
  rotate_left
  · (simp only [List.getElem?_toArray, List.getElem?_cons_succ, List.getElem?_cons_zero, Option.some.injEq] at ho; subst ho; (try dsimp only at hSw); go_simp; try with_reducible rfl)
  simp only [Act.put, List.setIfInBounds_toArray, List.set_cons_zero, List.set_cons_succ]
  refine tk_on (i := 6) (some 96) (v := ?_) (by kernel_rfl) (by kernel_rfl) (by kernel_rfl) (by kernel_rfl) (fun _ _ _ h => h) (by assumption) (fun o ho w' hSw => ?_) ?_
  rotate_left
  · (simp only [List.getElem?_toArray, List.getElem?_cons_succ, List.getElem?_cons_zero, Option.some.injEq] at ho; subst ho; (try dsimp only at hSw); go_simp; try with_reducible rfl)
  simp only [Act.put, List.setIfInBounds_toArray, List.set_cons_zero, List.set_cons_succ]
  refine tk_on (i := 7) (some 97) (v := ?_) (by kernel_rfl) (by kernel_rfl) (by kernel_rfl) (by kernel_rfl) (fun _ _ _ h => h) (by assumption) (fun o ho w' hSw => ?_) ?_
  rotate_left
  · (simp only [List.getElem?_toArray, List.getElem?_cons_succ, List.getElem?_cons_zero, Option.some.injEq] at ho; subst ho; (try dsimp only at hSw); go_simp; try with_reducible rfl)
  simp only [Act.put, List.setIfInBounds_toArray, List.set_cons_zero, List.set_cons_succ]
  refine tk_on (i := 9) (some 99) (v := ?_) (by kernel_rfl) (by kernel_rfl) (by kernel_rfl) (by kernel_rfl) (fun _ _ _ h => h) (by assumption) (fun o ho w' hSw => ?_) ?_
  rotate_left
  · (simp only [List.getElem?_toArray, List.getElem?_cons_succ, List.getElem?_cons_zero, Option.some.injEq] at ho; subst ho; (try dsimp only at hSw); go_simp; try with_reducible rfl)
  simp only [Act.put, List.setIfInBounds_toArray, List.set_cons_zero, List.set_cons_succ]
  refine tk_call (i := 8) (by kernel_rfl) (by kernel_rfl) (fun o ho K hK => ?_)
  simp only [List.getElem?_toArray, List.getElem?_cons_succ, List.getElem?_cons_zero, Option.some.injEq] at ho
  subst ho
  go_simp
  refine (jd_Bare a b c _).mono ?_
  rintro e w9 ⟨rfl, hb⟩
  have k9 := k8.ret hb
  clear hb k8
  go_simp
  clear hHeld
  refine hK.out _ _ ⟨k9.A.c0, k9.A.c1, k9.A.c2⟩ (fun hHeld => ?_)
  clear hK K
  refine tk_call (i := 10) (by kernel_rfl) (by kernel_rfl) (fun o ho K hK => ?_)
  simp only [List.getElem?_toArray, List.getElem?_cons_succ, List.getElem?_cons_zero, Option.some.injEq] at ho
  subst ho
  go_simp
  refine (HL.out _).mono ?_
  rintro e w10 ⟨rfl, hb⟩
  have k10 := k9.ret hb
  clear hb k9
  go_simp
  clear hHeld
  refine hK.out _ _ ⟨k10.A.c0, k10.A.c1, k10.A.c2⟩ (fun hHeld => ?_)
  clear hK K
  refine tk_on (i := 11) (some 101) (v := ?_) (by kernel_rfl) (by kernel_rfl) (by kernel_rfl) (by kernel_rfl) (fun _ _ _ h => h) (by assumption) (fun o ho w' hSw => ?_) ?_
  rotate_left
  · (simp only [List.getElem?_toArray, List.getElem?_cons_succ, List.getElem?_cons_zero, Option.some.injEq] at ho; subst ho; (try dsimp only at hSw); go_simp; try with_reducible rfl)
  simp only [Act.put, List.setIfInBounds_toArray, List.set_cons_zero, List.set_cons_succ]
  refine tk_on (i := 12) (some 102) (v := ?_) (by kernel_rfl) (by kernel_rfl) (by kernel_rfl) (by kernel_rfl) (fun _ _ _ h => h) (by assumption) (fun o ho w' hSw => ?_) ?_
  rotate_left
  · (simp only [List.getElem?_toArray, List.getElem?_cons_succ, List.getElem?_cons_zero, Option.some.injEq] at ho; subst ho; (try dsimp only at hSw); go_simp; try with_reducible rfl)
  simp only [Act.put, List.setIfInBounds_toArray, List.set_cons_zero, List.set_cons_succ]
  refine tk_on (i := 13) (some 103) (v := ?_) (by kernel_rfl) (by kernel_rfl) (by kernel_rfl) (by kernel_rfl) (fun _ _ _ h => h) (by assumption) (fun o ho w' hSw => ?_) ?_
  rotate_left
  · (simp only [List.getElem?_toArray, List.getElem?_cons_succ, List.getElem?_cons_zero, Option.some.injEq] at ho; subst ho; (try dsimp only at hSw); go_simp; try with_reducible rfl)
  simp only [Act.put, List.setIfInBounds_toArray, List.set_cons_zero, List.set_cons_succ]
  refine tk_on (i := 14) (some 104) (v := ?_) (by kernel_rfl) (by kernel_rfl) (by kernel_rfl) (by kernel_rfl) (fun _ _ _ h => h) (by assumption) (fun o ho w' hSw => ?_) ?_
  rotate_left
  · (simp only [List.getElem?_toArray, List.getElem?_cons_succ, List.getElem?_cons_zero, Option.some.injEq] at ho; subst ho; (try dsimp only at hSw); go_simp; try with_reducible rfl)
  simp only [Act.put, List.setIfInBounds_toArray, List.set_cons_zero, List.set_cons_succ]
  refine tk_on (i := 17) (some 107) (v := ?_) (by kernel_rfl) (by kernel_rfl) (by kernel_rfl) (by kernel_rfl) (fun _ _ _ h => h) (by assumption) (fun o ho w' hSw => ?_) ?_
  rotate_left
  · (simp only [List.getElem?_toArray, List.getElem?_cons_succ, List.getElem?_cons_zero, Option.some.injEq] at ho; subst ho; (try dsimp only at hSw); go_simp; try with_reducible rfl)
  simp only [Act.put, List.setIfInBounds_toArray, List.set_cons_zero, List.set_cons_succ]
  refine tk_call (i := 15) (by kernel_rfl) (by kernel_rfl) (fun o ho K hK => ?_)
  simp only [List.getElem?_toArray, List.getElem?_cons_succ, List.getElem?_cons_zero, Option.some.injEq] at ho
  subst ho
  go_simp
  refine (jd_Bare a b c _).mono ?_
  rintro e w11 ⟨rfl, hb⟩
  have k11 := k10.ret hb
  clear hb k10
  go_simp
  clear hHeld
  refine hK.out _ _ ⟨k11.A.c0, k11.A.c1, k11.A.c2⟩ (fun hHeld => ?_)
  clear hK K
  refine tk_call (i := 16) (by kernel_rfl) (by kernel_rfl) (fun o ho K hK => ?_)
  simp only [List.getElem?_toArray, List.getElem?_cons_succ, List.getElem?_cons_zero, Option.some.injEq] at ho
  subst ho
  go_simp
  refine (jd_Bare a b ⟨#[]⟩ _).mono ?_
  rintro e w12 ⟨rfl, hb⟩
  have k12 := k11.ret hb
  clear hb k11
  go_simp
  clear hHeld
  refine hK.out _ _ ⟨k12.A.c0, k12.A.c1, k12.A.c2⟩ (fun hHeld => ?_)
  clear hK K
  refine tk_call (i := 18) (by kernel_rfl) (by kernel_rfl) (fun o ho K hK => ?_)
  simp only [List.getElem?_toArray, List.getElem?_cons_succ, List.getElem?_cons_zero, Option.some.injEq] at ho
  subst ho
  go_simp
  refine (jd_Bare a b c _).mono ?_
  rintro e w13 ⟨rfl, hb⟩
  have k13 := k12.ret hb
  clear hb k12
  go_simp
  clear hHeld
  refine hK.out _ _ ⟨k13.A.c0, k13.A.c1, k13.A.c2⟩ (fun hHeld => ?_)
  clear hK K
  refine tk_on (i := 19) (some 109) (v := ?_) (by kernel_rfl) (by kernel_rfl) (by kernel_rfl) (by kernel_rfl) (fun _ _ _ h => h) (by assumption) (fun o ho w' hSw => ?_) ?_
  rotate_left
  · (simp only [List.getElem?_toArray, List.getElem?_cons_succ, List.getElem?_cons_zero, Option.some.injEq] at ho; subst ho; (try dsimp only at hSw); go_simp; try with_reducible rfl)
  simp only [Act.put, List.setIfInBounds_toArray, List.set_cons_zero, List.set_cons_succ]
  refine tk_on (i := 20) (some 110) (v := ?_) (by kernel_rfl) (by kernel_rfl) (by kernel_rfl) (by kernel_rfl) (fun _ _ _ h => h) (by assumption) (fun o ho w' hSw => ?_) ?_
  rotate_left
  · (simp only [List.getElem?_toArray, List.getElem?_cons_succ, List.getElem?_cons_zero, Option.some.injEq] at ho; subst ho; (try dsimp only at hSw); go_simp; try with_reducible rfl)
  simp only [Act.put, List.setIfInBounds_toArray, List.set_cons_zero, List.set_cons_succ]
  refine tk_on (i := 21) (some 6) (v := ?_) (by kernel_rfl) (by kernel_rfl) (by kernel_rfl) (by kernel_rfl) (fun _ _ _ h => h) (by assumption) (fun o ho w' hSw => ?_) ?_
  rotate_left
  · (simp only [List.getElem?_toArray, List.getElem?_cons_succ, List.getElem?_cons_zero, Option.some.injEq] at ho; subst ho; (try dsimp only at hSw); go_simp; try with_reducible rfl)
  simp only [Act.put, List.setIfInBounds_toArray, List.set_cons_zero, List.set_cons_succ]
  refine wpAnyH_done (by kernel_rfl) ?_ _
  go_wp2_with fail
  go_ret
  exact ⟨rfl, k13.q⟩
set_option maxHeartbeats 8000000 in
set_option maxRecDepth 100000 in
theorem order19_TFFE (a b x y z u v r : ByteArray) (w : World) (hm : ML w) (ha : a.size ≤ 1000) (hb : b.size ≤ 1000) (hx : x.size ≤ 1000) (hy : y.size ≤ 1000) (hz : z.size ≤ 1000) (hu : u.size ≤ 1000) (hv : v.size ≤ 1000) (hr : r.size ≤ 1000) (g1 : ¬ (1000 : Int) < (a.size : Int) + b.size + ((⟨#[]⟩ : ByteArray)).size) (g2 : ¬ (1000 : Int) < (x.size : Int) + y.size + z.size) (g3 : ¬ (1000 : Int) < (u.size : Int) + v.size + r.size)
    (CX : ∀ w, Calls Tryd.prog 17 #[jV a b ⟨#[]⟩, jV x y z] w (Ret w (.bool true))) (CY : ∀ w, Calls Tryd.prog 17 #[jV x y z, jV a b ⟨#[]⟩] w (Ret w (.bool false))) (hE : jE a b ⟨#[]⟩ x y z = false) (CU : ∀ w, Calls Tryd.prog 17 #[jV x y z, jV u v r] w (Ret w (.bool false))) :
    Calls Tryd.prog 5 #[jV a b ⟨#[]⟩, jV x y z, jV u v r] w (Ret w (.bool true)) := by
  have k0 := Or3.new w a b ⟨#[]⟩ x y z u v r hm
  have EQ := eql_jid
  have NE := neq_jid
  have EG := eg_jid
  have ES := jE_self a b ⟨#[]⟩
  have ES0 := jE_self a b ⟨#[]⟩
  have HX := Lib.hid CX
  have HY := Lib.hid CY
  have HU := Lib.hid CU
  clear CX CY CU  
  go_enter Tryd.func5, Tryd.ntmps5
  go_wp2_with fail
  refine (alive19 _ k0.m).mono ?_
  rintro e w1 ⟨rfl, hb⟩
  have k1 := k0.ret hb
  clear hb k0
  obtain ⟨x0, x1, x2, x3, x4⟩ := k1.A
  obtain ⟨y0, y1, y2, y3, y4⟩ := k1.B
  obtain ⟨z0, z1, z2, z3, z4⟩ := k1.C
  go_wp2_with fail
  have k2 := k1.ret (Below.drew (Below.refl _ _))
  clear x0 x1 x2 x3 x4 y0 y1 y2 y3 y4 z0 z1 z2 z3 z4
  refine wp_region_held_drew (S := fun w' => w'.cell? ⟨w.heap.size, 0, none⟩ = some (.string a) ∧ w'.cell? ⟨w.heap.size, 1, none⟩ = some (.string b) ∧ w'.cell? ⟨w.heap.size, 2, none⟩ = some (.string ⟨#[]⟩) ∧ w'.cell? ⟨w.heap.size + 1, 0, none⟩ = some (.string x) ∧ w'.cell? ⟨w.heap.size + 1, 1, none⟩ = some (.string y) ∧ w'.cell? ⟨w.heap.size + 1, 2, none⟩ = some (.string z)) (by kernel_rfl) ⟨k2.A.c0, k2.A.c1, k2.A.c2, k2.B.c0, k2.B.c1, k2.B.c2⟩ (fun hHeld => ?_)
  refine tk_on (i := 0) (some 56) (v := ?_) (by kernel_rfl) (by kernel_rfl) (by kernel_rfl) (by kernel_rfl) (fun _ _ _ h => h) (by assumption) (fun o ho w' hSw => ?_) ?_
  rotate_left
  · (simp only [List.getElem?_toArray, List.getElem?_cons_zero, Option.some.injEq] at ho; subst ho; (try dsimp only at hSw); go_simp; try with_reducible rfl)
  simp only [Act.put, List.setIfInBounds_toArray, List.set_cons_zero, List.set_cons_succ]
  refine tk_on (i := 1) (some 57) (v := ?_) (by kernel_rfl) (by kernel_rfl) (by kernel_rfl) (by kernel_rfl) (fun _ _ _ h => h) (by assumption) (fun o ho w' hSw => ?_) ?_
  rotate_left
  · (simp only [List.getElem?_toArray, List.getElem?_cons_succ, List.getElem?_cons_zero, Option.some.injEq] at ho; subst ho; (try dsimp only at hSw); go_simp; try with_reducible rfl)
  simp only [Act.put, List.setIfInBounds_toArray, List.set_cons_zero, List.set_cons_succ]
  refine tk_on (i := 3) (some 59) (v := ?_) (by kernel_rfl) (by kernel_rfl) (by kernel_rfl) (by kernel_rfl) (fun _ _ _ h => h) (by assumption) (fun o ho w' hSw => ?_) ?_
  rotate_left
  · (simp only [List.getElem?_toArray, List.getElem?_cons_succ, List.getElem?_cons_zero, Option.some.injEq] at ho; subst ho; (try dsimp only at hSw); go_simp; try with_reducible rfl)
  simp only [Act.put, List.setIfInBounds_toArray, List.set_cons_zero, List.set_cons_succ]
  refine tk_on (i := 4) (some 60) (v := ?_) (by kernel_rfl) (by kernel_rfl) (by kernel_rfl) (by kernel_rfl) (fun _ _ _ h => h) (by assumption) (fun o ho w' hSw => ?_) ?_
  rotate_left
  · (simp only [List.getElem?_toArray, List.getElem?_cons_succ, List.getElem?_cons_zero, Option.some.injEq] at ho; subst ho; (try dsimp only at hSw); go_simp; try with_reducible rfl)
  simp only [Act.put, List.setIfInBounds_toArray, List.set_cons_zero, List.set_cons_succ]
  refine tk_call (i := 2) (by kernel_rfl) (by kernel_rfl) (fun o ho K hK => ?_)
  simp only [List.getElem?_toArray, List.getElem?_cons_succ, List.getElem?_cons_zero, Option.some.injEq] at ho
  subst ho
  go_simp
  refine (HX.out _).mono ?_
  rintro e w3 ⟨rfl, hb⟩
  have k3 := k2.ret hb
  clear hb k2
  go_simp
  clear hHeld
  refine hK.out _ _ ⟨k3.A.c0, k3.A.c1, k3.A.c2, k3.B.c0, k3.B.c1, k3.B.c2⟩ (fun hHeld => ?_)
  clear hK K
  refine tk_call (i := 5) (by kernel_rfl) (by kernel_rfl) (fun o ho K hK => ?_)
  simp only [List.getElem?_toArray, List.getElem?_cons_succ, List.getElem?_cons_zero, Option.some.injEq] at ho
  subst ho
  go_simp
  refine (HY.out _).mono ?_
  rintro e w4 ⟨rfl, hb⟩
  have k4 := k3.ret hb
  clear hb k3
  go_simp
  clear hHeld
  refine hK.out _ _ ⟨k4.A.c0, k4.A.c1, k4.A.c2, k4.B.c0, k4.B.c1, k4.B.c2⟩ (fun hHeld => ?_)
  clear hK K
  refine tk_on (i := 6) (some 8) (v := ?_) (by kernel_rfl) (by kernel_rfl) (by kernel_rfl) (by kernel_rfl) (fun _ _ _ h => h) (by assumption) (fun o ho w' hSw => ?_) ?_
  rotate_left
  · (simp only [List.getElem?_toArray, List.getElem?_cons_succ, List.getElem?_cons_zero, Option.some.injEq] at ho; subst ho; (try dsimp only at hSw); go_simp; try with_reducible rfl)
  simp only [Act.put, List.setIfInBounds_toArray, List.set_cons_zero, List.set_cons_succ]
  refine tk_on (i := 7) (some 9) (v := ?_) (by kernel_rfl) (by kernel_rfl) (by kernel_rfl) (by kernel_rfl) (fun _ _ _ h => h) (by assumption) (fun o ho w' hSw => ?_) ?_
  rotate_left
  · (simp only [List.getElem?_toArray, List.getElem?_cons_succ, List.getElem?_cons_zero, Option.some.injEq] at ho; subst ho; (try dsimp only at hSw); go_simp; try with_reducible rfl)
  simp only [Act.put, List.setIfInBounds_toArray, List.set_cons_zero, List.set_cons_succ]
  refine wpAnyH_done (by kernel_rfl) ?_ _
  obtain ⟨x0, x1, x2, x3, x4⟩ := k4.A
  obtain ⟨y0, y1, y2, y3, y4⟩ := k4.B
  obtain ⟨z0, z1, z2, z3, z4⟩ := k4.C
  go_wp2_with fail
  refine (HU.out _).mono ?_
  rintro e w5 ⟨rfl, hb⟩
  have k5 := k4.ret hb
  clear hb k4
  clear x0 x1 x2 x3 x4 y0 y1 y2 y3 y4 z0 z1 z2 z3 z4
  obtain ⟨x0, x1, x2, x3, x4⟩ := k5.A
  obtain ⟨y0, y1, y2, y3, y4⟩ := k5.B
  obtain ⟨z0, z1, z2, z3, z4⟩ := k5.C
  go_wp2_with fail
  clear x0 x1 x2 x3 x4 y0 y1 y2 y3 y4 z0 z1 z2 z3 z4
  have k6 := k5.ret (Below.drew (Below.refl _ _))
  refine wp_region_held_drew (S := fun w' => w'.cell? ⟨w.heap.size, 0, none⟩ = some (.string a) ∧ w'.cell? ⟨w.heap.size, 1, none⟩ = some (.string b) ∧ w'.cell? ⟨w.heap.size, 2, none⟩ = some (.string ⟨#[]⟩)) (by kernel_rfl) ⟨k6.A.c0, k6.A.c1, k6.A.c2⟩ (fun hHeld => ?_)
  refine tk_on (i := 0) (some 90) (v := ?_) (by kernel_rfl) (by kernel_rfl) (by kernel_rfl) (by kernel_rfl) (fun _ _ _ h => h) (by assumption) (fun o ho w' hSw => ?_) ?_
  rotate_left
  · (simp only [List.getElem?_toArray, List.getElem?_cons_zero, Option.some.injEq] at ho; subst ho; (try dsimp only at hSw); go_simp; try with_reducible rfl)
  simp only [Act.put, List.setIfInBounds_toArray, List.set_cons_zero, List.set_cons_succ]
  refine tk_on (i := 1) (some 91) (v := ?_) (by kernel_rfl) (by kernel_rfl) (by kernel_rfl) (by kernel_rfl) (fun _ _ _ h => h) (by assumption) (fun o ho w' hSw => ?_) ?_
  rotate_left
  · (simp only [List.getElem?_toArray, List.getElem?_cons_succ, List.getElem?_cons_zero, Option.some.injEq] at ho; subst ho; (try dsimp only at hSw); go_simp; try with_reducible rfl)
  simp only [Act.put, List.setIfInBounds_toArray, List.set_cons_zero, List.set_cons_succ]
  refine tk_on (i := 2) (some 92) (v := ?_) (by kernel_rfl) (by kernel_rfl) (by kernel_rfl) (by kernel_rfl) (fun _ _ _ h => h) (by assumption) (fun o ho w' hSw => ?_) ?_
  rotate_left
  · (simp only [List.getElem?_toArray, List.getElem?_cons_succ, List.getElem?_cons_zero, Option.some.injEq] at ho; subst ho; (try dsimp only at hSw); go_simp; try with_reducible rfl)
  simp only [Act.put, List.setIfInBounds_toArray, List.set_cons_zero, List.set_cons_succ]
  refine tk_on (i := 4) (some 94) (v := ?_) (by kernel_rfl) (by kernel_rfl) (by kernel_rfl) (by kernel_rfl) (fun _ _ _ h => h) (by assumption) (fun o ho w' hSw => ?_) ?_
  rotate_left
  · (simp only [List.getElem?_toArray, List.getElem?_cons_succ, List.getElem?_cons_zero, Option.some.injEq] at ho; subst ho; (try dsimp only at hSw); go_simp; try with_reducible rfl)
  simp only [Act.put, List.setIfInBounds_toArray, List.set_cons_zero, List.set_cons_succ]
  refine tk_call (i := 3) (by kernel_rfl) (by kernel_rfl) (fun o ho K hK => ?_)
  simp only [List.getElem?_toArray, List.getElem?_cons_succ, List.getElem?_cons_zero, Option.some.injEq] at ho
  subst ho
  go_simp
  refine (jd_Bare a b ⟨#[]⟩ _).mono ?_
  rintro e w7 ⟨rfl, hb⟩
  have k7 := k6.ret hb
  clear hb k6
  go_simp
  clear hHeld
  refine hK.out _ _ ⟨k7.A.c0, k7.A.c1, k7.A.c2⟩ (fun hHeld => ?_)
  clear hK K
  refine tk_on (i := 5) (some 95) (v := ?_) (by kernel_rfl) (by kernel_rfl) (by kernel_rfl) (by kernel_rfl) (fun _ _ _ h => h) (by assumption) (fun o ho w' hSw => ?_) ?_
  rotate_left
  · (simp only [List.getElem?_toArray, List.getElem?_cons_succ, List.getElem?_cons_zero, Option.some.injEq] at ho; subst ho; (try dsimp only at hSw); go_simp; try with_reducible rfl)
  simp only [Act.put, List.setIfInBounds_toArray, List.set_cons_zero, List.set_cons_succ]
  refine tk_on (i := 6) (some 96) (v := ?_) (by kernel_rfl) (by kernel_rfl) (by kernel_rfl) (by kernel_rfl) (fun _ _ _ h => h) (by assumption) (fun o ho w' hSw => ?_) ?_
  rotate_left
  · (simp only [List.getElem?_toArray, List.getElem?_cons_succ, List.getElem?_cons_zero, Option.some.injEq] at ho; subst ho; (try dsimp only at hSw); go_simp; try with_reducible rfl)
  simp only [Act.put, List.setIfInBounds_toArray, List.set_cons_zero, List.set_cons_succ]
  refine tk_off (i := 7) (some 97) (by kernel_rfl) (by kernel_rfl) (by kernel_rfl) (by kernel_rfl) (fun _ _ _ h => h) (by assumption) ?_
  simp only [Act.put, List.setIfInBounds_toArray, List.set_cons_zero, List.set_cons_succ]
  refine tk_off (i := 8) (some 98) (by kernel_rfl) (by kernel_rfl) (by kernel_rfl) (by kernel_rfl) (fun _ _ _ h => h) (by assumption) ?_
  simp only [Act.put, List.setIfInBounds_toArray, List.set_cons_zero, List.set_cons_succ]
  refine tk_off (i := 9) (some 99) (by kernel_rfl) (by kernel_rfl) (by kernel_rfl) (by kernel_rfl) (fun _ _ _ h => h) (by assumption) ?_
  simp only [Act.put, List.setIfInBounds_toArray, List.set_cons_zero, List.set_cons_succ]
  refine tk_off (i := 10) (some 100) (by kernel_rfl) (by kernel_rfl) (by kernel_rfl) (by kernel_rfl) (fun _ _ _ h => h) (by assumption) ?_
  simp only [Act.put, List.setIfInBounds_toArray, List.set_cons_zero, List.set_cons_succ]
  refine tk_on (i := 11) (some 101) (v := ?_) (by kernel_rfl) (by kernel_rfl) (by kernel_rfl) (by kernel_rfl) (fun _ _ _ h => h) (by assumption) (fun o ho w' hSw => ?_) ?_
  rotate_left
  · (simp only [List.getElem?_toArray, List.getElem?_cons_succ, List.getElem?_cons_zero, Option.some.injEq] at ho; subst ho; (try dsimp only at hSw); go_simp; try with_reducible rfl)
  simp only [Act.put, List.setIfInBounds_toArray, List.set_cons_zero, List.set_cons_succ]
  refine tk_on (i := 12) (some 102) (v := ?_) (by kernel_rfl) (by kernel_rfl) (by kernel_rfl) (by kernel_rfl) (fun _ _ _ h => h) (by assumption) (fun o ho w' hSw => ?_) ?_
  rotate_left
  · (simp only [List.getElem?_toArray, List.getElem?_cons_succ, List.getElem?_cons_zero, Option.some.injEq] at ho; subst ho; (try dsimp only at hSw); go_simp; try with_reducible rfl)
  simp only [Act.put, List.setIfInBounds_toArray, List.set_cons_zero, List.set_cons_succ]
  refine tk_on (i := 13) (some 103) (v := ?_) (by kernel_rfl) (by kernel_rfl) (by kernel_rfl) (by kernel_rfl) (fun _ _ _ h => h) (by assumption) (fun o ho w' hSw => ?_) ?_
  rotate_left
  · (simp only [List.getElem?_toArray, List.getElem?_cons_succ, List.getElem?_cons_zero, Option.some.injEq] at ho; subst ho; (try dsimp only at hSw); go_simp; try with_reducible rfl)
  simp only [Act.put, List.setIfInBounds_toArray, List.set_cons_zero, List.set_cons_succ]
  refine tk_on (i := 14) (some 104) (v := ?_) (by kernel_rfl) (by kernel_rfl) (by kernel_rfl) (by kernel_rfl) (fun _ _ _ h => h) (by assumption) (fun o ho w' hSw => ?_) ?_
  rotate_left
  · (simp only [List.getElem?_toArray, List.getElem?_cons_succ, List.getElem?_cons_zero, Option.some.injEq] at ho; subst ho; (try dsimp only at hSw); go_simp; try with_reducible rfl)
  simp only [Act.put, List.setIfInBounds_toArray, List.set_cons_zero, List.set_cons_succ]
  refine tk_on (i := 17) (some 107) (v := ?_) (by kernel_rfl) (by kernel_rfl) (by kernel_rfl) (by kernel_rfl) (fun _ _ _ h => h) (by assumption) (fun o ho w' hSw => ?_) ?_
  rotate_left
  · (simp only [List.getElem?_toArray, List.getElem?_cons_succ, List.getElem?_cons_zero, Option.some.injEq] at ho; subst ho; (try dsimp only at hSw); go_simp; try with_reducible rfl)
  simp only [Act.put, List.setIfInBounds_toArray, List.set_cons_zero, List.set_cons_succ]
  refine tk_call (i := 15) (by kernel_rfl) (by kernel_rfl) (fun o ho K hK => ?_)
  simp only [List.getElem?_toArray, List.getElem?_cons_succ, List.getElem?_cons_zero, Option.some.injEq] at ho
  subst ho
  go_simp
  refine (jd_Bare a b ⟨#[]⟩ _).mono ?_
  rintro e w8 ⟨rfl, hb⟩
  have k8 := k7.ret hb
  clear hb k7
  go_simp
  clear hHeld
  refine hK.out _ _ ⟨k8.A.c0, k8.A.c1, k8.A.c2⟩ (fun hHeld => ?_)
  clear hK K
  refine tk_call (i := 16) (by kernel_rfl) (by kernel_rfl) (fun o ho K hK => ?_)
  simp only [List.getElem?_toArray, List.getElem?_cons_succ, List.getElem?_cons_zero, Option.some.injEq] at ho
  subst ho
  go_simp
  refine (jd_Bare a b ⟨#[]⟩ _).mono ?_
  rintro e w9 ⟨rfl, hb⟩
  have k9 := k8.ret hb
  clear hb k8
  go_simp
  clear hHeld
  refine hK.out _ _ ⟨k9.A.c0, k9.A.c1, k9.A.c2⟩ (fun hHeld => ?_)
  clear hK K
  refine tk_call (i := 18) (by kernel_rfl) (by kernel_rfl) (fun o ho K hK => ?_)
  simp only [List.getElem?_toArray, List.getElem?_cons_succ, List.getElem?_cons_zero, Option.some.injEq] at ho
  subst ho
  go_simp
  refine (jd_Bare a b ⟨#[]⟩ _).mono ?_
  rintro e w10 ⟨rfl, hb⟩
  have k10 := k9.ret hb
  clear hb k9
  go_simp
  clear hHeld
  refine hK.out _ _ ⟨k10.A.c0, k10.A.c1, k10.A.c2⟩ (fun hHeld => ?_)
  clear hK K
  refine tk_on (i := 19) (some 109) (v := ?_) (by kernel_rfl) (by kernel_rfl) (by kernel_rfl) (by kernel_rfl) (fun _ _ _ h => h) (by assumption) (fun o ho w' hSw => ?_) ?_
  rotate_left
  · (simp only [List.getElem?_toArray, List.getElem?_cons_succ, List.getElem?_cons_zero, Option.some.injEq] at ho; subst ho; (try dsimp only at hSw); go_simp; try with_reducible rfl)
  simp only [Act.put, List.setIfInBounds_toArray, List.set_cons_zero, List.set_cons_succ]
  refine tk_on (i := 20) (some 110) (v := ?_) (by kernel_rfl) (by kernel_rfl) (by kernel_rfl) (by kernel_rfl) (fun _ _ _ h => h) (by assumption) (fun o ho w' hSw => ?_) ?_
  rotate_left
  · (simp only [List.getElem?_toArray, List.getElem?_cons_succ, List.getElem?_cons_zero, Option.some.injEq] at ho; subst ho; (try dsimp only at hSw); go_simp; try with_reducible rfl)
  simp only [Act.put, List.setIfInBounds_toArray, List.set_cons_zero, List.set_cons_succ]
  refine tk_on (i := 21) (some 6) (v := ?_) (by kernel_rfl) (by kernel_rfl) (by kernel_rfl) (by kernel_rfl) (fun _ _ _ h => h) (by assumption) (fun o ho w' hSw => ?_) ?_
  rotate_left
  · (simp only [List.getElem?_toArray, List.getElem?_cons_succ, List.getElem?_cons_zero, Option.some.injEq] at ho; subst ho; (try dsimp only at hSw); go_simp; try with_reducible rfl)
  simp only [Act.put, List.setIfInBounds_toArray, List.set_cons_zero, List.set_cons_succ]
  refine wpAnyH_done (by kernel_rfl) ?_ _
  go_wp2_with fail
  go_ret
  exact ⟨rfl, k10.q⟩
set_option maxHeartbeats 8000000 in
set_option maxRecDepth 100000 in
theorem order19_TFFN (a b c x y z u v r : ByteArray) (w : World) (hm : ML w) (ha : a.size ≤ 1000) (hb : b.size ≤ 1000) (hc : c.size ≤ 1000) (hx : x.size ≤ 1000) (hy : y.size ≤ 1000) (hz : z.size ≤ 1000) (hu : u.size ≤ 1000) (hv : v.size ≤ 1000) (hr : r.size ≤ 1000) (g1 : ¬ (1000 : Int) < (a.size : Int) + b.size + (c).size) (g2 : ¬ (1000 : Int) < (x.size : Int) + y.size + z.size) (g3 : ¬ (1000 : Int) < (u.size : Int) + v.size + r.size)
    (CX : ∀ w, Calls Tryd.prog 17 #[jV a b c, jV x y z] w (Ret w (.bool true))) (CY : ∀ w, Calls Tryd.prog 17 #[jV x y z, jV a b c] w (Ret w (.bool false))) (hE : jE a b c x y z = false) (CU : ∀ w, Calls Tryd.prog 17 #[jV x y z, jV u v r] w (Ret w (.bool false))) (hB : jE a b ⟨#[]⟩ a b c = false) (CL : ∀ w, Calls Tryd.prog 17 #[jV a b ⟨#[]⟩, jV a b c] w (Ret w (.bool true))) :
    Calls Tryd.prog 5 #[jV a b c, jV x y z, jV u v r] w (Ret w (.bool true)) := by
  have k0 := Or3.new w a b c x y z u v r hm
  have EQ := eql_jid
  have NE := neq_jid
  have EG := eg_jid
  have ES := jE_self a b c
  have ES0 := jE_self a b ⟨#[]⟩
  have HX := Lib.hid CX
  have HY := Lib.hid CY
  have HU := Lib.hid CU
  have HL := Lib.hid CL
  clear CX CY CU  CL
  go_enter Tryd.func5, Tryd.ntmps5
  go_wp2_with fail
  refine (alive19 _ k0.m).mono ?_
  rintro e w1 ⟨rfl, hb⟩
  have k1 := k0.ret hb
  clear hb k0
  obtain ⟨x0, x1, x2, x3, x4⟩ := k1.A
  obtain ⟨y0, y1, y2, y3, y4⟩ := k1.B
  obtain ⟨z0, z1, z2, z3, z4⟩ := k1.C
  go_wp2_with fail
  have k2 := k1.ret (Below.drew (Below.refl _ _))
  clear x0 x1 x2 x3 x4 y0 y1 y2 y3 y4 z0 z1 z2 z3 z4
  refine wp_region_held_drew (S := fun w' => w'.cell? ⟨w.heap.size, 0, none⟩ = some (.string a) ∧ w'.cell? ⟨w.heap.size, 1, none⟩ = some (.string b) ∧ w'.cell? ⟨w.heap.size, 2, none⟩ = some (.string c) ∧ w'.cell? ⟨w.heap.size + 1, 0, none⟩ = some (.string x) ∧ w'.cell? ⟨w.heap.size + 1, 1, none⟩ = some (.string y) ∧ w'.cell? ⟨w.heap.size + 1, 2, none⟩ = some (.string z)) (by kernel_rfl) ⟨k2.A.c0, k2.A.c1, k2.A.c2, k2.B.c0, k2.B.c1, k2.B.c2⟩ (fun hHeld => ?_)
  refine tk_on (i := 0) (some 56) (v := ?_) (by kernel_rfl) (by kernel_rfl) (by kernel_rfl) (by kernel_rfl) (fun _ _ _ h => h) (by assumption) (fun o ho w' hSw => ?_) ?_
  rotate_left
  · (simp only [List.getElem?_toArray, List.getElem?_cons_zero, Option.some.injEq] at ho; subst ho; (try dsimp only at hSw); go_simp; try with_reducible rfl)
  simp only [Act.put, List.setIfInBounds_toArray, List.set_cons_zero, List.set_cons_succ]
  refine tk_on (i := 1) (some 57) (v := ?_) (by kernel_rfl) (by kernel_rfl) (by kernel_rfl) (by kernel_rfl) (fun _ _ _ h => h) (by assumption) (fun o ho w' hSw => ?_) ?_
  rotate_left
  · (simp only [List.getElem?_toArray, List.getElem?_cons_succ, List.getElem?_cons_zero, Option.some.injEq] at ho; subst ho; (try dsimp only at hSw); go_simp; try with_reducible rfl)
  simp only [Act.put, List.setIfInBounds_toArray, List.set_cons_zero, List.set_cons_succ]
  refine tk_on (i := 3) (some 59) (v := ?_) (by kernel_rfl) (by kernel_rfl) (by kernel_rfl) (by kernel_rfl) (fun _ _ _ h => h) (by assumption) (fun o ho w' hSw => ?_) ?_
  rotate_left
  · (simp only [List.getElem?_toArray, List.getElem?_cons_succ, List.getElem?_cons_zero, Option.some.injEq] at ho; subst ho; (try dsimp only at hSw); go_simp; try with_reducible rfl)
  simp only [Act.put, List.setIfInBounds_toArray, List.set_cons_zero, List.set_cons_succ]
  refine tk_on (i := 4) (some 60) (v := ?_) (by kernel_rfl) (by kernel_rfl) (by kernel_rfl) (by kernel_rfl) (fun _ _ _ h => h) (by assumption) (fun o ho w' hSw => ?_) ?_
  rotate_left
  · (simp only [List.getElem?_toArray, List.getElem?_cons_succ, List.getElem?_cons_zero, Option.some.injEq] at ho; subst ho; (try dsimp only at hSw); go_simp; try with_reducible rfl)
  simp only [Act.put, List.setIfInBounds_toArray, List.set_cons_zero, List.set_cons_succ]
  refine tk_call (i := 2) (by kernel_rfl) (by kernel_rfl) (fun o ho K hK => ?_)
  simp only [List.getElem?_toArray, List.getElem?_cons_succ, List.getElem?_cons_zero, Option.some.injEq] at ho
  subst ho
  go_simp
  refine (HX.out _).mono ?_
  rintro e w3 ⟨rfl, hb⟩
  have k3 := k2.ret hb
  clear hb k2
  go_simp
  clear hHeld
  refine hK.out _ _ ⟨k3.A.c0, k3.A.c1, k3.A.c2, k3.B.c0, k3.B.c1, k3.B.c2⟩ (fun hHeld => ?_)
  clear hK K
  refine tk_call (i := 5) (by kernel_rfl) (by kernel_rfl) (fun o ho K hK => ?_)
  simp only [List.getElem?_toArray, List.getElem?_cons_succ, List.getElem?_cons_zero, Option.some.injEq] at ho
  subst ho
  go_simp
  refine (HY.out _).mono ?_
  rintro e w4 ⟨rfl, hb⟩
  have k4 := k3.ret hb
  clear hb k3
  go_simp
  clear hHeld
  refine hK.out _ _ ⟨k4.A.c0, k4.A.c1, k4.A.c2, k4.B.c0, k4.B.c1, k4.B.c2⟩ (fun hHeld => ?_)
  clear hK K
  refine tk_on (i := 6) (some 8) (v := ?_) (by kernel_rfl) (by kernel_rfl) (by kernel_rfl) (by kernel_rfl) (fun _ _ _ h => h) (by assumption) (fun o ho w' hSw => ?_) ?_
  rotate_left
  · (simp only [List.getElem?_toArray, List.getElem?_cons_succ, List.getElem?_cons_zero, Option.some.injEq] at ho; subst ho; (try dsimp only at hSw); go_simp; try with_reducible rfl)
  simp only [Act.put, List.setIfInBounds_toArray, List.set_cons_zero, List.set_cons_succ]
  refine tk_on (i := 7) (some 9) (v := ?_) (by kernel_rfl) (by kernel_rfl) (by kernel_rfl) (by kernel_rfl) (fun _ _ _ h => h) (by assumption) (fun o ho w' hSw => ?_) ?_
  rotate_left
  · (simp only [List.getElem?_toArray, List.getElem?_cons_succ, List.getElem?_cons_zero, Option.some.injEq] at ho; subst ho; (try dsimp only at hSw); go_simp; try with_reducible rfl)
  simp only [Act.put, List.setIfInBounds_toArray, List.set_cons_zero, List.set_cons_succ]
  refine wpAnyH_done (by kernel_rfl) ?_ _
  obtain ⟨x0, x1, x2, x3, x4⟩ := k4.A
  obtain ⟨y0, y1, y2, y3, y4⟩ := k4.B
  obtain ⟨z0, z1, z2, z3, z4⟩ := k4.C
  go_wp2_with fail
  refine (HU.out _).mono ?_
  rintro e w5 ⟨rfl, hb⟩
  have k5 := k4.ret hb
  clear hb k4
  clear x0 x1 x2 x3 x4 y0 y1 y2 y3 y4 z0 z1 z2 z3 z4
  obtain ⟨x0, x1, x2, x3, x4⟩ := k5.A
  obtain ⟨y0, y1, y2, y3, y4⟩ := k5.B
  obtain ⟨z0, z1, z2, z3, z4⟩ := k5.C
  go_wp2_with fail
  clear x0 x1 x2 x3 x4 y0 y1 y2 y3 y4 z0 z1 z2 z3 z4
  have k6 := k5.ret (Below.drew (Below.refl _ _))
  refine wp_region_held_drew (S := fun w' => w'.cell? ⟨w.heap.size, 0, none⟩ = some (.string a) ∧ w'.cell? ⟨w.heap.size, 1, none⟩ = some (.string b) ∧ w'.cell? ⟨w.heap.size, 2, none⟩ = some (.string c)) (by kernel_rfl) ⟨k6.A.c0, k6.A.c1, k6.A.c2⟩ (fun hHeld => ?_)
  refine tk_on (i := 0) (some 90) (v := ?_) (by kernel_rfl) (by kernel_rfl) (by kernel_rfl) (by kernel_rfl) (fun _ _ _ h => h) (by assumption) (fun o ho w' hSw => ?_) ?_
  rotate_left
  · (simp only [List.getElem?_toArray, List.getElem?_cons_zero, Option.some.injEq] at ho; subst ho; (try dsimp only at hSw); go_simp; try with_reducible rfl)
  simp only [Act.put, List.setIfInBounds_toArray, List.set_cons_zero, List.set_cons_succ]
  refine tk_on (i := 1) (some 91) (v := ?_) (by kernel_rfl) (by kernel_rfl) (by kernel_rfl) (by kernel_rfl) (fun _ _ _ h => h) (by assumption) (fun o ho w' hSw => ?_) ?_
  rotate_left
  · (simp only [List.getElem?_toArray, List.getElem?_cons_succ, List.getElem?_cons_zero, Option.some.injEq] at ho; subst ho; (try dsimp only at hSw); go_simp; try with_reducible rfl)
  simp only [Act.put, List.setIfInBounds_toArray, List.set_cons_zero, List.set_cons_succ]
  refine tk_on (i := 2) (some 92) (v := ?_) (by kernel_rfl) (by kernel_rfl) (by kernel_rfl) (by kernel_rfl) (fun _ _ _ h => h) (by assumption) (fun o ho w' hSw => ?_) ?_
  rotate_left
  · (simp only [List.getElem?_toArray, List.getElem?_cons_succ, List.getElem?_cons_zero, Option.some.injEq] at ho; subst ho; (try dsimp only at hSw); go_simp; try with_reducible rfl)
  simp only [Act.put, List.setIfInBounds_toArray, List.set_cons_zero, List.set_cons_succ]
  refine tk_on (i := 4) (some 94) (v := ?_) (by kernel_rfl) (by kernel_rfl) (by kernel_rfl) (by kernel_rfl) (fun _ _ _ h => h) (by assumption) (fun o ho w' hSw => ?_) ?_
  rotate_left
  · (simp only [List.getElem?_toArray, List.getElem?_cons_succ, List.getElem?_cons_zero, Option.some.injEq] at ho; subst ho; (try dsimp only at hSw); go_simp; try with_reducible rfl)
  simp only [Act.put, List.setIfInBounds_toArray, List.set_cons_zero, List.set_cons_succ]
  refine tk_call (i := 3) (by kernel_rfl) (by kernel_rfl) (fun o ho K hK => ?_)
  simp only [List.getElem?_toArray, List.getElem?_cons_succ, List.getElem?_cons_zero, Option.some.injEq] at ho
  subst ho
  go_simp
  refine (jd_Bare a b c _).mono ?_
  rintro e w7 ⟨rfl, hb⟩
  have k7 := k6.ret hb
  clear hb k6
  go_simp
  clear hHeld
  refine hK.out _ _ ⟨k7.A.c0, k7.A.c1, k7.A.c2⟩ (fun hHeld => ?_)
  clear hK K
  refine tk_on (i := 5) (some 95) (v := ?_) (by kernel_rfl) (by kernel_rfl) (by kernel_rfl) (by kernel_rfl) (fun _ _ _ h => h) (by assumption) (fun o ho w' hSw => ?_) ?_
  rotate_left
  · (simp only [List.getElem?_toArray, List.getElem?_cons_succ, List.getElem?_cons_zero, Option.some.injEq] at ho; subst ho; (try dsimp only at hSw); go_simp; try with_reducible rfl)
  simp only [Act.put, List.setIfInBounds_toArray, List.set_cons_zero, List.set_cons_succ]
  refine tk_on (i := 6) (some 96) (v := ?_) (by kernel_rfl) (by kernel_rfl) (by kernel_rfl) (by kernel_rfl) (fun _ _ _ h => h) (by assumption) (fun o ho w' hSw => ?_) ?_
  rotate_left
  · (simp only [List.getElem?_toArray, List.getElem?_cons_succ, List.getElem?_cons_zero, Option.some.injEq] at ho; subst ho; (try dsimp only at hSw); go_simp; try with_reducible rfl)
  simp only [Act.put, List.setIfInBounds_toArray, List.set_cons_zero, List.set_cons_succ]
  refine tk_on (i := 7) (some 97) (v := ?_) (by kernel_rfl) (by kernel_rfl) (by kernel_rfl) (by kernel_rfl) (fun _ _ _ h => h) (by assumption) (fun o ho w' hSw => ?_) ?_
  rotate_left
  · (simp only [List.getElem?_toArray, List.getElem?_cons_succ, List.getElem?_cons_zero, Option.some.injEq] at ho; subst ho; (try dsimp only at hSw); go_simp; try with_reducible rfl)
  simp only [Act.put, List.setIfInBounds_toArray, List.set_cons_zero, List.set_cons_succ]
  refine tk_on (i := 9) (some 99) (v := ?_) (by kernel_rfl) (by kernel_rfl) (by kernel_rfl) (by kernel_rfl) (fun _ _ _ h => h) (by assumption) (fun o ho w' hSw => ?_) ?_
  rotate_left
  · (simp only [List.getElem?_toArray, List.getElem?_cons_succ, List.getElem?_cons_zero, Option.some.injEq] at ho; subst ho; (try dsimp only at hSw); go_simp; try with_reducible rfl)
  simp only [Act.put, List.setIfInBounds_toArray, List.set_cons_zero, List.set_cons_succ]
  refine tk_call (i := 8) (by kernel_rfl) (by kernel_rfl) (fun o ho K hK => ?_)
  simp only [List.getElem?_toArray, List.getElem?_cons_succ, List.getElem?_cons_zero, Option.some.injEq] at ho
  subst ho
  go_simp
  refine (jd_Bare a b c _).mono ?_
  rintro e w8 ⟨rfl, hb⟩
  have k8 := k7.ret hb
  clear hb k7
  go_simp
  clear hHeld
  refine hK.out _ _ ⟨k8.A.c0, k8.A.c1, k8.A.c2⟩ (fun hHeld => ?_)
  clear hK K
  refine tk_call (i := 10) (by kernel_rfl) (by kernel_rfl) (fun o ho K hK => ?_)
  simp only [List.getElem?_toArray, List.getElem?_cons_succ, List.getElem?_cons_zero, Option.some.injEq] at ho
  subst ho
  go_simp
  refine (HL.out _).mono ?_
  rintro e w9 ⟨rfl, hb⟩
  have k9 := k8.ret hb
  clear hb k8
  go_simp
  clear hHeld
  refine hK.out _ _ ⟨k9.A.c0, k9.A.c1, k9.A.c2⟩ (fun hHeld => ?_)
  clear hK K
  refine tk_on (i := 11) (some 101) (v := ?_) (by kernel_rfl) (by kernel_rfl) (by kernel_rfl) (by kernel_rfl) (fun _ _ _ h => h) (by assumption) (fun o ho w' hSw => ?_) ?_
  rotate_left
  · (simp only [List.getElem?_toArray, List.getElem?_cons_succ, List.getElem?_cons_zero, Option.some.injEq] at ho; subst ho; (try dsimp only at hSw); go_simp; try with_reducible rfl)
  simp only [Act.put, List.setIfInBounds_toArray, List.set_cons_zero, List.set_cons_succ]
  refine tk_on (i := 12) (some 102) (v := ?_) (by kernel_rfl) (by kernel_rfl) (by kernel_rfl) (by kernel_rfl) (fun _ _ _ h => h) (by assumption) (fun o ho w' hSw => ?_) ?_
  rotate_left
  · (simp only [List.getElem?_toArray, List.getElem?_cons_succ, List.getElem?_cons_zero, Option.some.injEq] at ho; subst ho; (try dsimp only at hSw); go_simp; try with_reducible rfl)
  simp only [Act.put, List.setIfInBounds_toArray, List.set_cons_zero, List.set_cons_succ]
  refine tk_on (i := 13) (some 103) (v := ?_) (by kernel_rfl) (by kernel_rfl) (by kernel_rfl) (by kernel_rfl) (fun _ _ _ h => h) (by assumption) (fun o ho w' hSw => ?_) ?_
  rotate_left
  · (simp only [List.getElem?_toArray, List.getElem?_cons_succ, List.getElem?_cons_zero, Option.some.injEq] at ho; subst ho; (try dsimp only at hSw); go_simp; try with_reducible rfl)
  simp only [Act.put, List.setIfInBounds_toArray, List.set_cons_zero, List.set_cons_succ]
  refine tk_on (i := 14) (some 104) (v := ?_) (by kernel_rfl) (by kernel_rfl) (by kernel_rfl) (by kernel_rfl) (fun _ _ _ h => h) (by assumption) (fun o ho w' hSw => ?_) ?_
  rotate_left
  · (simp only [List.getElem?_toArray, List.getElem?_cons_succ, List.getElem?_cons_zero, Option.some.injEq] at ho; subst ho; (try dsimp only at hSw); go_simp; try with_reducible rfl)
  simp only [Act.put, List.setIfInBounds_toArray, List.set_cons_zero, List.set_cons_succ]
  refine tk_on (i := 17) (some 107) (v := ?_) (by kernel_rfl) (by kernel_rfl) (by kernel_rfl) (by kernel_rfl) (fun _ _ _ h => h) (by assumption) (fun o ho w' hSw => ?_) ?_
  rotate_left
  · (simp only [List.getElem?_toArray, List.getElem?_cons_succ, List.getElem?_cons_zero, Option.some.injEq] at ho; subst ho; (try dsimp only at hSw); go_simp; try with_reducible rfl)
  simp only [Act.put, List.setIfInBounds_toArray, List.set_cons_zero, List.set_cons_succ]
  refine tk_call (i := 15) (by kernel_rfl) (by kernel_rfl) (fun o ho K hK => ?_)
  simp only [List.getElem?_toArray, List.getElem?_cons_succ, List.getElem?_cons_zero, Option.some.injEq] at ho
  subst ho
  go_simp
  refine (jd_Bare a b c _).mono ?_
  rintro e w10 ⟨rfl, hb⟩
  have k10 := k9.ret hb
  clear hb k9
  go_simp
  clear hHeld
  refine hK.out _ _ ⟨k10.A.c0, k10.A.c1, k10.A.c2⟩ (fun hHeld => ?_)
  clear hK K
  refine tk_call (i := 16) (by kernel_rfl) (by kernel_rfl) (fun o ho K hK => ?_)
  simp only [List.getElem?_toArray, List.getElem?_cons_succ, List.getElem?_cons_zero, Option.some.injEq] at ho
  subst ho
  go_simp
  refine (jd_Bare a b ⟨#[]⟩ _).mono ?_
  rintro e w11 ⟨rfl, hb⟩
  have k11 := k10.ret hb
  clear hb k10
  go_simp
  clear hHeld
  refine hK.out _ _ ⟨k11.A.c0, k11.A.c1, k11.A.c2⟩ (fun hHeld => ?_)
  clear hK K
  refine tk_call (i := 18) (by kernel_rfl) (by kernel_rfl) (fun o ho K hK => ?_)
  simp only [List.getElem?_toArray, List.getElem?_cons_succ, List.getElem?_cons_zero, Option.some.injEq] at ho
  subst ho
  go_simp
  refine (jd_Bare a b c _).mono ?_
  rintro e w12 ⟨rfl, hb⟩
  have k12 := k11.ret hb
  clear hb k11
  go_simp
  clear hHeld
  refine hK.out _ _ ⟨k12.A.c0, k12.A.c1, k12.A.c2⟩ (fun hHeld => ?_)
  clear hK K
  refine tk_on (i := 19) (some 109) (v := ?_) (by kernel_rfl) (by kernel_rfl) (by kernel_rfl) (by kernel_rfl) (fun _ _ _ h => h) (by assumption) (fun o ho w' hSw => ?_) ?_
  rotate_left
  · (simp only [List.getElem?_toArray, List.getElem?_cons_succ, List.getElem?_cons_zero, Option.some.injEq] at ho; subst ho; (try dsimp only at hSw); go_simp; try with_reducible rfl)
  simp only [Act.put, List.setIfInBounds_toArray, List.set_cons_zero, List.set_cons_succ]
  refine tk_on (i := 20) (some 110) (v := ?_) (by kernel_rfl) (by kernel_rfl) (by kernel_rfl) (by kernel_rfl) (fun _ _ _ h => h) (by assumption) (fun o ho w' hSw => ?_) ?_
  rotate_left
  · (simp only [List.getElem?_toArray, List.getElem?_cons_succ, List.getElem?_cons_zero, Option.some.injEq] at ho; subst ho; (try dsimp only at hSw); go_simp; try with_reducible rfl)
  simp only [Act.put, List.setIfInBounds_toArray, List.set_cons_zero, List.set_cons_succ]
  refine tk_on (i := 21) (some 6) (v := ?_) (by kernel_rfl) (by kernel_rfl) (by kernel_rfl) (by kernel_rfl) (fun _ _ _ h => h) (by assumption) (fun o ho w' hSw => ?_) ?_
  rotate_left
  · (simp only [List.getElem?_toArray, List.getElem?_cons_succ, List.getElem?_cons_zero, Option.some.injEq] at ho; subst ho; (try dsimp only at hSw); go_simp; try with_reducible rfl)
  simp only [Act.put, List.setIfInBounds_toArray, List.set_cons_zero, List.set_cons_succ]
  refine wpAnyH_done (by kernel_rfl) ?_ _
  go_wp2_with fail
  go_ret
  exact ⟨rfl, k12.q⟩
set_option maxHeartbeats 8000000 in
set_option maxRecDepth 100000 in
theorem order19_FTE (a b x y z u v r : ByteArray) (w : World) (hm : ML w) (ha : a.size ≤ 1000) (hb : b.size ≤ 1000) (hx : x.size ≤ 1000) (hy : y.size ≤ 1000) (hz : z.size ≤ 1000) (hu : u.size ≤ 1000) (hv : v.size ≤ 1000) (hr : r.size ≤ 1000) (g1 : ¬ (1000 : Int) < (a.size : Int) + b.size + ((⟨#[]⟩ : ByteArray)).size) (g2 : ¬ (1000 : Int) < (x.size : Int) + y.size + z.size) (g3 : ¬ (1000 : Int) < (u.size : Int) + v.size + r.size)
    (CX : ∀ w, Calls Tryd.prog 17 #[jV a b ⟨#[]⟩, jV x y z] w (Ret w (.bool false))) (CY : ∀ w, Calls Tryd.prog 17 #[jV x y z, jV a b ⟨#[]⟩] w (Ret w (.bool true))) (hE : jE a b ⟨#[]⟩ x y z = false) :
    Calls Tryd.prog 5 #[jV a b ⟨#[]⟩, jV x y z, jV u v r] w (Ret w (.bool true)) := by
  have k0 := Or3.new w a b ⟨#[]⟩ x y z u v r hm
  have EQ := eql_jid
  have NE := neq_jid
  have EG := eg_jid
  have ES := jE_self a b ⟨#[]⟩
  have ES0 := jE_self a b ⟨#[]⟩
  have HX := Lib.hid CX
  have HY := Lib.hid CY
  clear CX CY   
  go_enter Tryd.func5, Tryd.ntmps5
  go_wp2_with fail
  refine (alive19 _ k0.m).mono ?_
  rintro e w1 ⟨rfl, hb⟩
  have k1 := k0.ret hb
  clear hb k0
  obtain ⟨x0, x1, x2, x3, x4⟩ := k1.A
  obtain ⟨y0, y1, y2, y3, y4⟩ := k1.B
  obtain ⟨z0, z1, z2, z3, z4⟩ := k1.C
  go_wp2_with fail
  have k2 := k1.ret (Below.drew (Below.refl _ _))
  clear x0 x1 x2 x3 x4 y0 y1 y2 y3 y4 z0 z1 z2 z3 z4
  refine wp_region_held_drew (S := fun w' => w'.cell? ⟨w.heap.size, 0, none⟩ = some (.string a) ∧ w'.cell? ⟨w.heap.size, 1, none⟩ = some (.string b) ∧ w'.cell? ⟨w.heap.size, 2, none⟩ = some (.string ⟨#[]⟩) ∧ w'.cell? ⟨w.heap.size + 1, 0, none⟩ = some (.string x) ∧ w'.cell? ⟨w.heap.size + 1, 1, none⟩ = some (.string y) ∧ w'.cell? ⟨w.heap.size + 1, 2, none⟩ = some (.string z)) (by kernel_rfl) ⟨k2.A.c0, k2.A.c1, k2.A.c2, k2.B.c0, k2.B.c1, k2.B.c2⟩ (fun hHeld => ?_)
  refine tk_on (i := 0) (some 56) (v := ?_) (by kernel_rfl) (by kernel_rfl) (by kernel_rfl) (by kernel_rfl) (fun _ _ _ h => h) (by assumption) (fun o ho w' hSw => ?_) ?_
  rotate_left
  · (simp only [List.getElem?_toArray, List.getElem?_cons_zero, Option.some.injEq] at ho; subst ho; (try dsimp only at hSw); go_simp; try with_reducible rfl)
  simp only [Act.put, List.setIfInBounds_toArray, List.set_cons_zero, List.set_cons_succ]
  refine tk_on (i := 1) (some 57) (v := ?_) (by kernel_rfl) (by kernel_rfl) (by kernel_rfl) (by kernel_rfl) (fun _ _ _ h => h) (by assumption) (fun o ho w' hSw => ?_) ?_
  rotate_left
  · (simp only [List.getElem?_toArray, List.getElem?_cons_succ, List.getElem?_cons_zero, Option.some.injEq] at ho; subst ho; (try dsimp only at hSw); go_simp; try with_reducible rfl)
  simp only [Act.put, List.setIfInBounds_toArray, List.set_cons_zero, List.set_cons_succ]
  refine tk_on (i := 3) (some 59) (v := ?_) (by kernel_rfl) (by kernel_rfl) (by kernel_rfl) (by kernel_rfl) (fun _ _ _ h => h) (by assumption) (fun o ho w' hSw => ?_) ?_
  rotate_left
  · (simp only [List.getElem?_toArray, List.getElem?_cons_succ, List.getElem?_cons_zero, Option.some.injEq] at ho; subst ho; (try dsimp only at hSw); go_simp; try with_reducible rfl)
  simp only [Act.put, List.setIfInBounds_toArray, List.set_cons_zero, List.set_cons_succ]
  refine tk_on (i := 4) (some 60) (v := ?_) (by kernel_rfl) (by kernel_rfl) (by kernel_rfl) (by kernel_rfl) (fun _ _ _ h => h) (by assumption) (fun o ho w' hSw => ?_) ?_
  rotate_left
  · (simp only [List.getElem?_toArray, List.getElem?_cons_succ, List.getElem?_cons_zero, Option.some.injEq] at ho; subst ho; (try dsimp only at hSw); go_simp; try with_reducible rfl)
  simp only [Act.put, List.setIfInBounds_toArray, List.set_cons_zero, List.set_cons_succ]
  refine tk_call (i := 2) (by kernel_rfl) (by kernel_rfl) (fun o ho K hK => ?_)
  simp only [List.getElem?_toArray, List.getElem?_cons_succ, List.getElem?_cons_zero, Option.some.injEq] at ho
  subst ho
  go_simp
  refine (HX.out _).mono ?_
  rintro e w3 ⟨rfl, hb⟩
  have k3 := k2.ret hb
  clear hb k2
  go_simp
  clear hHeld
  refine hK.out _ _ ⟨k3.A.c0, k3.A.c1, k3.A.c2, k3.B.c0, k3.B.c1, k3.B.c2⟩ (fun hHeld => ?_)
  clear hK K
  refine tk_call (i := 5) (by kernel_rfl) (by kernel_rfl) (fun o ho K hK => ?_)
  simp only [List.getElem?_toArray, List.getElem?_cons_succ, List.getElem?_cons_zero, Option.some.injEq] at ho
  subst ho
  go_simp
  refine (HY.out _).mono ?_
  rintro e w4 ⟨rfl, hb⟩
  have k4 := k3.ret hb
  clear hb k3
  go_simp
  clear hHeld
  refine hK.out _ _ ⟨k4.A.c0, k4.A.c1, k4.A.c2, k4.B.c0, k4.B.c1, k4.B.c2⟩ (fun hHeld => ?_)
  clear hK K
  refine tk_on (i := 6) (some 8) (v := ?_) (by kernel_rfl) (by kernel_rfl) (by kernel_rfl) (by kernel_rfl) (fun _ _ _ h => h) (by assumption) (fun o ho w' hSw => ?_) ?_
  rotate_left
  · (simp only [List.getElem?_toArray, List.getElem?_cons_succ, List.getElem?_cons_zero, Option.some.injEq] at ho; subst ho; (try dsimp only at hSw); go_simp; try with_reducible rfl)
  simp only [Act.put, List.setIfInBounds_toArray, List.set_cons_zero, List.set_cons_succ]
  refine tk_on (i := 7) (some 9) (v := ?_) (by kernel_rfl) (by kernel_rfl) (by kernel_rfl) (by kernel_rfl) (fun _ _ _ h => h) (by assumption) (fun o ho w' hSw => ?_) ?_
  rotate_left
  · (simp only [List.getElem?_toArray, List.getElem?_cons_succ, List.getElem?_cons_zero, Option.some.injEq] at ho; subst ho; (try dsimp only at hSw); go_simp; try with_reducible rfl)
  simp only [Act.put, List.setIfInBounds_toArray, List.set_cons_zero, List.set_cons_succ]
  refine wpAnyH_done (by kernel_rfl) ?_ _
  obtain ⟨x0, x1, x2, x3, x4⟩ := k4.A
  obtain ⟨y0, y1, y2, y3, y4⟩ := k4.B
  obtain ⟨z0, z1, z2, z3, z4⟩ := k4.C
  go_wp2_with fail
  clear x0 x1 x2 x3 x4 y0 y1 y2 y3 y4 z0 z1 z2 z3 z4
  have k5 := k4.ret (Below.drew (Below.refl _ _))
  refine wp_region_held_drew (S := fun w' => w'.cell? ⟨w.heap.size, 0, none⟩ = some (.string a) ∧ w'.cell? ⟨w.heap.size, 1, none⟩ = some (.string b) ∧ w'.cell? ⟨w.heap.size, 2, none⟩ = some (.string ⟨#[]⟩)) (by kernel_rfl) ⟨k5.A.c0, k5.A.c1, k5.A.c2⟩ (fun hHeld => ?_)
  refine tk_on (i := 0) (some 90) (v := ?_) (by kernel_rfl) (by kernel_rfl) (by kernel_rfl) (by kernel_rfl) (fun _ _ _ h => h) (by assumption) (fun o ho w' hSw => ?_) ?_
  rotate_left
  · (simp only [List.getElem?_toArray, List.getElem?_cons_zero, Option.some.injEq] at ho; subst ho; (try dsimp only at hSw); go_simp; try with_reducible rfl)
  simp only [Act.put, List.setIfInBounds_toArray, List.set_cons_zero, List.set_cons_succ]
  refine tk_on (i := 1) (some 91) (v := ?_) (by kernel_rfl) (by kernel_rfl) (by kernel_rfl) (by kernel_rfl) (fun _ _ _ h => h) (by assumption) (fun o ho w' hSw => ?_) ?_
  rotate_left
  · (simp only [List.getElem?_toArray, List.getElem?_cons_succ, List.getElem?_cons_zero, Option.some.injEq] at ho; subst ho; (try dsimp only at hSw); go_simp; try with_reducible rfl)
  simp only [Act.put, List.setIfInBounds_toArray, List.set_cons_zero, List.set_cons_succ]
  refine tk_on (i := 2) (some 92) (v := ?_) (by kernel_rfl) (by kernel_rfl) (by kernel_rfl) (by kernel_rfl) (fun _ _ _ h => h) (by assumption) (fun o ho w' hSw => ?_) ?_
  rotate_left
  · (simp only [List.getElem?_toArray, List.getElem?_cons_succ, List.getElem?_cons_zero, Option.some.injEq] at ho; subst ho; (try dsimp only at hSw); go_simp; try with_reducible rfl)
  simp only [Act.put, List.setIfInBounds_toArray, List.set_cons_zero, List.set_cons_succ]
  refine tk_on (i := 4) (some 94) (v := ?_) (by kernel_rfl) (by kernel_rfl) (by kernel_rfl) (by kernel_rfl) (fun _ _ _ h => h) (by assumption) (fun o ho w' hSw => ?_) ?_
  rotate_left
  · (simp only [List.getElem?_toArray, List.getElem?_cons_succ, List.getElem?_cons_zero, Option.some.injEq] at ho; subst ho; (try dsimp only at hSw); go_simp; try with_reducible rfl)
  simp only [Act.put, List.setIfInBounds_toArray, List.set_cons_zero, List.set_cons_succ]
  refine tk_call (i := 3) (by kernel_rfl) (by kernel_rfl) (fun o ho K hK => ?_)
  simp only [List.getElem?_toArray, List.getElem?_cons_succ, List.getElem?_cons_zero, Option.some.injEq] at ho
  subst ho
  go_simp
  refine (jd_Bare a b ⟨#[]⟩ _).mono ?_
  rintro e w6 ⟨rfl, hb⟩
  have k6 := k5.ret hb
  clear hb k5
  go_simp
  clear hHeld
  refine hK.out _ _ ⟨k6.A.c0, k6.A.c1, k6.A.c2⟩ (fun hHeld => ?_)
  clear hK K
  refine tk_on (i := 5) (some 95) (v := ?_) (by kernel_rfl) (by kernel_rfl) (by kernel_rfl) (by kernel_rfl) (fun _ _ _ h => h) (by assumption) (fun o ho w' hSw => ?_) ?_
  rotate_left
  · (simp only [List.getElem?_toArray, List.getElem?_cons_succ, List.getElem?_cons_zero, Option.some.injEq] at ho; subst ho; (try dsimp only at hSw); go_simp; try with_reducible rfl)
  simp only [Act.put, List.setIfInBounds_toArray, List.set_cons_zero, List.set_cons_succ]
  refine tk_on (i := 6) (some 96) (v := ?_) (by kernel_rfl) (by kernel_rfl) (by kernel_rfl) (by kernel_rfl) (fun _ _ _ h => h) (by assumption) (fun o ho w' hSw => ?_) ?_
  rotate_left
  · (simp only [List.getElem?_toArray, List.getElem?_cons_succ, List.getElem?_cons_zero, Option.some.injEq] at ho; subst ho; (try dsimp only at hSw); go_simp; try with_reducible rfl)
  simp only [Act.put, List.setIfInBounds_toArray, List.set_cons_zero, List.set_cons_succ]
  refine tk_off (i := 7) (some 97) (by kernel_rfl) (by kernel_rfl) (by kernel_rfl) (by kernel_rfl) (fun _ _ _ h => h) (by assumption) ?_
  simp only [Act.put, List.setIfInBounds_toArray, List.set_cons_zero, List.set_cons_succ]
  refine tk_off (i := 8) (some 98) (by kernel_rfl) (by kernel_rfl) (by kernel_rfl) (by kernel_rfl) (fun _ _ _ h => h) (by assumption) ?_
  simp only [Act.put, List.setIfInBounds_toArray, List.set_cons_zero, List.set_cons_succ]
  refine tk_off (i := 9) (some 99) (by kernel_rfl) (by kernel_rfl) (by kernel_rfl) (by kernel_rfl) (fun _ _ _ h => h) (by assumption) ?_
  simp only [Act.put, List.setIfInBounds_toArray, List.set_cons_zero, List.set_cons_succ]
  refine tk_off (i := 10) (some 100) (by kernel_rfl) (by kernel_rfl) (by kernel_rfl) (by kernel_rfl) (fun _ _ _ h => h) (by assumption) ?_
  simp only [Act.put, List.setIfInBounds_toArray, List.set_cons_zero, List.set_cons_succ]
  refine tk_on (i := 11) (some 101) (v := ?_) (by kernel_rfl) (by kernel_rfl) (by kernel_rfl) (by kernel_rfl) (fun _ _ _ h => h) (by assumption) (fun o ho w' hSw => ?_) ?_
  rotate_left
  · (simp only [List.getElem?_toArray, List.getElem?_cons_succ, List.getElem?_cons_zero, Option.some.injEq] at ho; subst ho; (try dsimp only at hSw); go_simp; try with_reducible rfl)
  simp only [Act.put, List.setIfInBounds_toArray, List.set_cons_zero, List.set_cons_succ]
  refine tk_on (i := 12) (some 102) (v := ?_) (by kernel_rfl) (by kernel_rfl) (by kernel_rfl) (by kernel_rfl) (fun _ _ _ h => h) (by assumption) (fun o ho w' hSw => ?_) ?_
  rotate_left
  · (simp only [List.getElem?_toArray, List.getElem?_cons_succ, List.getElem?_cons_zero, Option.some.injEq] at ho; subst ho; (try dsimp only at hSw); go_simp; try with_reducible rfl)
  simp only [Act.put, List.setIfInBounds_toArray, List.set_cons_zero, List.set_cons_succ]
  refine tk_on (i := 13) (some 103) (v := ?_) (by kernel_rfl) (by kernel_rfl) (by kernel_rfl) (by kernel_rfl) (fun _ _ _ h => h) (by assumption) (fun o ho w' hSw => ?_) ?_
  rotate_left
  · (simp only [List.getElem?_toArray, List.getElem?_cons_succ, List.getElem?_cons_zero, Option.some.injEq] at ho; subst ho; (try dsimp only at hSw); go_simp; try with_reducible rfl)
  simp only [Act.put, List.setIfInBounds_toArray, List.set_cons_zero, List.set_cons_succ]
  refine tk_on (i := 14) (some 104) (v := ?_) (by kernel_rfl) (by kernel_rfl) (by kernel_rfl) (by kernel_rfl) (fun _ _ _ h => h) (by assumption) (fun o ho w' hSw => ?_) ?_
  rotate_left
  · (simp only [List.getElem?_toArray, List.getElem?_cons_succ, List.getElem?_cons_zero, Option.some.injEq] at ho; subst ho; (try dsimp only at hSw); go_simp; try with_reducible rfl)
  simp only [Act.put, List.setIfInBounds_toArray, List.set_cons_zero, List.set_cons_succ]
  refine tk_on (i := 17) (some 107) (v := ?_) (by kernel_rfl) (by kernel_rfl) (by kernel_rfl) (by kernel_rfl) (fun _ _ _ h => h) (by assumption) (fun o ho w' hSw => ?_) ?_
  rotate_left
  · (simp only [List.getElem?_toArray, List.getElem?_cons_succ, List.getElem?_cons_zero, Option.some.injEq] at ho; subst ho; (try dsimp only at hSw); go_simp; try with_reducible rfl)
  simp only [Act.put, List.setIfInBounds_toArray, List.set_cons_zero, List.set_cons_succ]
  refine tk_call (i := 15) (by kernel_rfl) (by kernel_rfl) (fun o ho K hK => ?_)
  simp only [List.getElem?_toArray, List.getElem?_cons_succ, List.getElem?_cons_zero, Option.some.injEq] at ho
  subst ho
  go_simp
  refine (jd_Bare a b ⟨#[]⟩ _).mono ?_
  rintro e w7 ⟨rfl, hb⟩
  have k7 := k6.ret hb
  clear hb k6
  go_simp
  clear hHeld
  refine hK.out _ _ ⟨k7.A.c0, k7.A.c1, k7.A.c2⟩ (fun hHeld => ?_)
  clear hK K
  refine tk_call (i := 16) (by kernel_rfl) (by kernel_rfl) (fun o ho K hK => ?_)
  simp only [List.getElem?_toArray, List.getElem?_cons_succ, List.getElem?_cons_zero, Option.some.injEq] at ho
  subst ho
  go_simp
  refine (jd_Bare a b ⟨#[]⟩ _).mono ?_
  rintro e w8 ⟨rfl, hb⟩
  have k8 := k7.ret hb
  clear hb k7
  go_simp
  clear hHeld
  refine hK.out _ _ ⟨k8.A.c0, k8.A.c1, k8.A.c2⟩ (fun hHeld => ?_)
  clear hK K
  refine tk_call (i := 18) (by kernel_rfl) (by kernel_rfl) (fun o ho K hK => ?_)
  simp only [List.getElem?_toArray, List.getElem?_cons_succ, List.getElem?_cons_zero, Option.some.injEq] at ho
  subst ho
  go_simp
  refine (jd_Bare a b ⟨#[]⟩ _).mono ?_
  rintro e w9 ⟨rfl, hb⟩
  have k9 := k8.ret hb
  clear hb k8
  go_simp
  clear hHeld
  refine hK.out _ _ ⟨k9.A.c0, k9.A.c1, k9.A.c2⟩ (fun hHeld => ?_)
  clear hK K
  refine tk_on (i := 19) (some 109) (v := ?_) (by kernel_rfl) (by kernel_rfl) (by kernel_rfl) (by kernel_rfl) (fun _ _ _ h => h) (by assumption) (fun o ho w' hSw => ?_) ?_
  rotate_left
  · (simp only [List.getElem?_toArray, List.getElem?_cons_succ, List.getElem?_cons_zero, Option.some.injEq] at ho; subst ho; (try dsimp only at hSw); go_simp; try with_reducible rfl)
  simp only [Act.put, List.setIfInBounds_toArray, List.set_cons_zero, List.set_cons_succ]
  refine tk_on (i := 20) (some 110) (v := ?_) (by kernel_rfl) (by kernel_rfl) (by kernel_rfl) (by kernel_rfl) (fun _ _ _ h => h) (by assumption) (fun o ho w' hSw => ?_) ?_
  rotate_left
  · (simp only [List.getElem?_toArray, List.getElem?_cons_succ, List.getElem?_cons_zero, Option.some.injEq] at ho; subst ho; (try dsimp only at hSw); go_simp; try with_reducible rfl)
  simp only [Act.put, List.setIfInBounds_toArray, List.set_cons_zero, List.set_cons_succ]
  refine tk_on (i := 21) (some 6) (v := ?_) (by kernel_rfl) (by kernel_rfl) (by kernel_rfl) (by kernel_rfl) (fun _ _ _ h => h) (by assumption) (fun o ho w' hSw => ?_) ?_
  rotate_left
  · (simp only [List.getElem?_toArray, List.getElem?_cons_succ, List.getElem?_cons_zero, Option.some.injEq] at ho; subst ho; (try dsimp only at hSw); go_simp; try with_reducible rfl)
  simp only [Act.put, List.setIfInBounds_toArray, List.set_cons_zero, List.set_cons_succ]
  refine wpAnyH_done (by kernel_rfl) ?_ _
  go_wp2_with fail
  go_ret
  exact ⟨rfl, k9.q⟩
set_option maxHeartbeats 8000000 in
set_option maxRecDepth 100000 in
theorem order19_FTN (a b c x y z u v r : ByteArray) (w : World) (hm : ML w) (ha : a.size ≤ 1000) (hb : b.size ≤ 1000) (hc : c.size ≤ 1000) (hx : x.size ≤ 1000) (hy : y.size ≤ 1000) (hz : z.size ≤ 1000) (hu : u.size ≤ 1000) (hv : v.size ≤ 1000) (hr : r.size ≤ 1000) (g1 : ¬ (1000 : Int) < (a.size : Int) + b.size + (c).size) (g2 : ¬ (1000 : Int) < (x.size : Int) + y.size + z.size) (g3 : ¬ (1000 : Int) < (u.size : Int) + v.size + r.size)
    (CX : ∀ w, Calls Tryd.prog 17 #[jV a b c, jV x y z] w (Ret w (.bool false))) (CY : ∀ w, Calls Tryd.prog 17 #[jV x y z, jV a b c] w (Ret w (.bool true))) (hE : jE a b c x y z = false) (hB : jE a b ⟨#[]⟩ a b c = false) (CL : ∀ w, Calls Tryd.prog 17 #[jV a b ⟨#[]⟩, jV a b c] w (Ret w (.bool true))) :
    Calls Tryd.prog 5 #[jV a b c, jV x y z, jV u v r] w (Ret w (.bool true)) := by
  have k0 := Or3.new w a b c x y z u v r hm
  have EQ := eql_jid
  have NE := neq_jid
  have EG := eg_jid
  have ES := jE_self a b c
  have ES0 := jE_self a b ⟨#[]⟩
  have HX := Lib.hid CX
  have HY := Lib.hid CY
  have HL := Lib.hid CL
  clear CX CY   CL
  go_enter Tryd.func5, Tryd.ntmps5
  go_wp2_with fail
  refine (alive19 _ k0.m).mono ?_
  rintro e w1 ⟨rfl, hb⟩
  have k1 := k0.ret hb
  clear hb k0
  obtain ⟨x0, x1, x2, x3, x4⟩ := k1.A
  obtain ⟨y0, y1, y2, y3, y4⟩ := k1.B
  obtain ⟨z0, z1, z2, z3, z4⟩ := k1.C
  go_wp2_with fail
  have k2 := k1.ret (Below.drew (Below.refl _ _))
  clear x0 x1 x2 x3 x4 y0 y1 y2 y3 y4 z0 z1 z2 z3 z4
  refine wp_region_held_drew (S := fun w' => w'.cell? ⟨w.heap.size, 0, none⟩ = some (.string a) ∧ w'.cell? ⟨w.heap.size, 1, none⟩ = some (.string b) ∧ w'.cell? ⟨w.heap.size, 2, none⟩ = some (.string c) ∧ w'.cell? ⟨w.heap.size + 1, 0, none⟩ = some (.string x) ∧ w'.cell? ⟨w.heap.size + 1, 1, none⟩ = some (.string y) ∧ w'.cell? ⟨w.heap.size + 1, 2, none⟩ = some (.string z)) (by kernel_rfl) ⟨k2.A.c0, k2.A.c1, k2.A.c2, k2.B.c0, k2.B.c1, k2.B.c2⟩ (fun hHeld => ?_)
  refine tk_on (i := 0) (some 56) (v := ?_) (by kernel_rfl) (by kernel_rfl) (by kernel_rfl) (by kernel_rfl) (fun _ _ _ h => h) (by assumption) (fun o ho w' hSw => ?_) ?_
  rotate_left
  · (simp only [List.getElem?_toArray, List.getElem?_cons_zero, Option.some.injEq] at ho; subst ho; (try dsimp only at hSw); go_simp; try with_reducible rfl)
  simp only [Act.put, List.setIfInBounds_toArray, List.set_cons_zero, List.set_cons_succ]
  refine tk_on (i := 1) (some 57) (v := ?_) (by kernel_rfl) (by kernel_rfl) (by kernel_rfl) (by kernel_rfl) (fun _ _ _ h => h) (by assumption) (fun o ho w' hSw => ?_) ?_
  rotate_left
  · (simp only [List.getElem?_toArray, List.getElem?_cons_succ, List.getElem?_cons_zero, Option.some.injEq] at ho; subst ho; (try dsimp only at hSw); go_simp; try with_reducible rfl)
  simp only [Act.put, List.setIfInBounds_toArray, List.set_cons_zero, List.set_cons_succ]
  refine tk_on (i := 3) (some 59) (v := ?_) (by kernel_rfl) (by kernel_rfl) (by kernel_rfl) (by kernel_rfl) (fun _ _ _ h => h) (by assumption) (fun o ho w' hSw => ?_) ?_
  rotate_left
  · (simp only [List.getElem?_toArray, List.getElem?_cons_succ, List.getElem?_cons_zero, Option.some.injEq] at ho; subst ho; (try dsimp only at hSw); go_simp; try with_reducible rfl)
  simp only [Act.put, List.setIfInBounds_toArray, List.set_cons_zero, List.set_cons_succ]
  refine tk_on (i := 4) (some 60) (v := ?_) (by kernel_rfl) (by kernel_rfl) (by kernel_rfl) (by kernel_rfl) (fun _ _ _ h => h) (by assumption) (fun o ho w' hSw => ?_) ?_
  rotate_left
  · (simp only [List.getElem?_toArray, List.getElem?_cons_succ, List.getElem?_cons_zero, Option.some.injEq] at ho; subst ho; (try dsimp only at hSw); go_simp; try with_reducible rfl)
  simp only [Act.put, List.setIfInBounds_toArray, List.set_cons_zero, List.set_cons_succ]
  refine tk_call (i := 2) (by kernel_rfl) (by kernel_rfl) (fun o ho K hK => ?_)
  simp only [List.getElem?_toArray, List.getElem?_cons_succ, List.getElem?_cons_zero, Option.some.injEq] at ho
  subst ho
  go_simp
  refine (HX.out _).mono ?_
  rintro e w3 ⟨rfl, hb⟩
  have k3 := k2.ret hb
  clear hb k2
  go_simp
  clear hHeld
  refine hK.out _ _ ⟨k3.A.c0, k3.A.c1, k3.A.c2, k3.B.c0, k3.B.c1, k3.B.c2⟩ (fun hHeld => ?_)
  clear hK K
  refine tk_call (i := 5) (by kernel_rfl) (by kernel_rfl) (fun o ho K hK => ?_)
  simp only [List.getElem?_toArray, List.getElem?_cons_succ, List.getElem?_cons_zero, Option.some.injEq] at ho
  subst ho
  go_simp
  refine (HY.out _).mono ?_
  rintro e w4 ⟨rfl, hb⟩
  have k4 := k3.ret hb
  clear hb k3
  go_simp
  clear hHeld
  refine hK.out _ _ ⟨k4.A.c0, k4.A.c1, k4.A.c2, k4.B.c0, k4.B.c1, k4.B.c2⟩ (fun hHeld => ?_)
  clear hK K
  refine tk_on (i := 6) (some 8) (v := ?_) (by kernel_rfl) (by kernel_rfl) (by kernel_rfl) (by kernel_rfl) (fun _ _ _ h => h) (by assumption) (fun o ho w' hSw => ?_) ?_
  rotate_left
  · (simp only [List.getElem?_toArray, List.getElem?_cons_succ, List.getElem?_cons_zero, Option.some.injEq] at ho; subst ho; (try dsimp only at hSw); go_simp; try with_reducible rfl)
  simp only [Act.put, List.setIfInBounds_toArray, List.set_cons_zero, List.set_cons_succ]
  refine tk_on (i := 7) (some 9) (v := ?_) (by kernel_rfl) (by kernel_rfl) (by kernel_rfl) (by kernel_rfl) (fun _ _ _ h => h) (by assumption) (fun o ho w' hSw => ?_) ?_
  rotate_left
  · (simp only [List.getElem?_toArray, List.getElem?_cons_succ, List.getElem?_cons_zero, Option.some.injEq] at ho; subst ho; (try dsimp only at hSw); go_simp; try with_reducible rfl)
  simp only [Act.put, List.setIfInBounds_toArray, List.set_cons_zero, List.set_cons_succ]
  refine wpAnyH_done (by kernel_rfl) ?_ _
  obtain ⟨x0, x1, x2, x3, x4⟩ := k4.A
  obtain ⟨y0, y1, y2, y3, y4⟩ := k4.B
  obtain ⟨z0, z1, z2, z3, z4⟩ := k4.C
  go_wp2_with fail
  clear x0 x1 x2 x3 x4 y0 y1 y2 y3 y4 z0 z1 z2 z3 z4
  have k5 := k4.ret (Below.drew (Below.refl _ _))
  refine wp_region_held_drew (S := fun w' => w'.cell? ⟨w.heap.size, 0, none⟩ = some (.string a) ∧ w'.cell? ⟨w.heap.size, 1, none⟩ = some (.string b) ∧ w'.cell? ⟨w.heap.size, 2, none⟩ = some (.string c)) (by kernel_rfl) ⟨k5.A.c0, k5.A.c1, k5.A.c2⟩ (fun hHeld => ?_)
  refine tk_on (i := 0) (some 90) (v := ?_) (by kernel_rfl) (by kernel_rfl) (by kernel_rfl) (by kernel_rfl) (fun _ _ _ h => h) (by assumption) (fun o ho w' hSw => ?_) ?_
  rotate_left
  · (simp only [List.getElem?_toArray, List.getElem?_cons_zero, Option.some.injEq] at ho; subst ho; (try dsimp only at hSw); go_simp; try with_reducible rfl)
  simp only [Act.put, List.setIfInBounds_toArray, List.set_cons_zero, List.set_cons_succ]
  refine tk_on (i := 1) (some 91) (v := ?_) (by kernel_rfl) (by kernel_rfl) (by kernel_rfl) (by kernel_rfl) (fun _ _ _ h => h) (by assumption) (fun o ho w' hSw => ?_) ?_
  rotate_left
  · (simp only [List.getElem?_toArray, List.getElem?_cons_succ, List.getElem?_cons_zero, Option.some.injEq] at ho; subst ho; (try dsimp only at hSw); go_simp; try with_reducible rfl)
  simp only [Act.put, List.setIfInBounds_toArray, List.set_cons_zero, List.set_cons_succ]
  refine tk_on (i := 2) (some 92) (v := ?_) (by kernel_rfl) (by kernel_rfl) (by kernel_rfl) (by kernel_rfl) (fun _ _ _ h => h) (by assumption) (fun o ho w' hSw => ?_) ?_
  rotate_left
  · (simp only [List.getElem?_toArray, List.getElem?_cons_succ, List.getElem?_cons_zero, Option.some.injEq] at ho; subst ho; (try dsimp only at hSw); go_simp; try with_reducible rfl)
  simp only [Act.put, List.setIfInBounds_toArray, List.set_cons_zero, List.set_cons_succ]
  refine tk_on (i := 4) (some 94) (v := ?_) (by kernel_rfl) (by kernel_rfl) (by kernel_rfl) (by kernel_rfl) (fun _ _ _ h => h) (by assumption) (fun o ho w' hSw => ?_) ?_
  rotate_left
  · (simp only [List.getElem?_toArray, List.getElem?_cons_succ, List.getElem?_cons_zero, Option.some.injEq] at ho; subst ho; (try dsimp only at hSw); go_simp; try with_reducible rfl)
  simp only [Act.put, List.setIfInBounds_toArray, List.set_cons_zero, List.set_cons_succ]
  refine tk_call (i := 3) (by kernel_rfl) (by kernel_rfl) (fun o ho K hK => ?_)
  simp only [List.getElem?_toArray, List.getElem?_cons_succ, List.getElem?_cons_zero, Option.some.injEq] at ho
  subst ho
  go_simp
  refine (jd_Bare a b c _).mono ?_
  rintro e w6 ⟨rfl, hb⟩
  have k6 := k5.ret hb
  clear hb k5
  go_simp
  clear hHeld
  refine hK.out _ _ ⟨k6.A.c0, k6.A.c1, k6.A.c2⟩ (fun hHeld => ?_)
  clear hK K
  refine tk_on (i := 5) (some 95) (v := ?_) (by kernel_rfl) (by kernel_rfl) (by kernel_rfl) (by kernel_rfl) (fun _ _ _ h => h) (by assumption) (fun o ho w' hSw => ?_) ?_
  rotate_left
  · (simp only [List.getElem?_toArray, List.getElem?_cons_succ, List.getElem?_cons_zero, Option.some.injEq] at ho; subst ho; (try dsimp only at hSw); go_simp; try with_reducible rfl)
  simp only [Act.put, List.setIfInBounds_toArray, List.set_cons_zero, List.set_cons_succ]
  refine tk_on (i := 6) (some 96) (v := ?_) (by kernel_rfl) (by kernel_rfl) (by kernel_rfl) (by kernel_rfl) (fun _ _ _ h => h) (by assumption) (fun o ho w' hSw => ?_) ?_
  rotate_left
  · (simp only [List.getElem?_toArray, List.getElem?_cons_succ, List.getElem?_cons_zero, Option.some.injEq] at ho; subst ho; (try dsimp only at hSw); go_simp; try with_reducible rfl)
  simp only [Act.put, List.setIfInBounds_toArray, List.set_cons_zero, List.set_cons_succ]
  refine tk_on (i := 7) (some 97) (v := ?_) (by kernel_rfl) (by kernel_rfl) (by kernel_rfl) (by kernel_rfl) (fun _ _ _ h => h) (by assumption) (fun o ho w' hSw => ?_) ?_
  rotate_left
  · (simp only [List.getElem?_toArray, List.getElem?_cons_succ, List.getElem?_cons_zero, Option.some.injEq] at ho; subst ho; (try dsimp only at hSw); go_simp; try with_reducible rfl)
  simp only [Act.put, List.setIfInBounds_toArray, List.set_cons_zero, List.set_cons_succ]
  refine tk_on (i := 9) (some 99) (v := ?_) (by kernel_rfl) (by kernel_rfl) (by kernel_rfl) (by kernel_rfl) (fun _ _ _ h => h) (by assumption) (fun o ho w' hSw => ?_) ?_
  rotate_left
  · (simp only [List.getElem?_toArray, List.getElem?_cons_succ, List.getElem?_cons_zero, Option.some.injEq] at ho; subst ho; (try dsimp only at hSw); go_simp; try with_reducible rfl)
  simp only [Act.put, List.setIfInBounds_toArray, List.set_cons_zero, List.set_cons_succ]
  refine tk_call (i := 8) (by kernel_rfl) (by kernel_rfl) (fun o ho K hK => ?_)
  simp only [List.getElem?_toArray, List.getElem?_cons_succ, List.getElem?_cons_zero, Option.some.injEq] at ho
  subst ho
  go_simp
  refine (jd_Bare a b c _).mono ?_
  rintro e w7 ⟨rfl, hb⟩
  have k7 := k6.ret hb
  clear hb k6
  go_simp
  clear hHeld
  refine hK.out _ _ ⟨k7.A.c0, k7.A.c1, k7.A.c2⟩ (fun hHeld => ?_)
  clear hK K
  refine tk_call (i := 10) (by kernel_rfl) (by kernel_rfl) (fun o ho K hK => ?_)
  simp only [List.getElem?_toArray, List.getElem?_cons_succ, List.getElem?_cons_zero, Option.some.injEq] at ho
  subst ho
  go_simp
  refine (HL.out _).mono ?_
  rintro e w8 ⟨rfl, hb⟩
  have k8 := k7.ret hb
  clear hb k7
  go_simp
  clear hHeld
  refine hK.out _ _ ⟨k8.A.c0, k8.A.c1, k8.A.c2⟩ (fun hHeld => ?_)
  clear hK K
  refine tk_on (i := 11) (some 101) (v := ?_) (by kernel_rfl) (by kernel_rfl) (by kernel_rfl) (by kernel_rfl) (fun _ _ _ h => h) (by assumption) (fun o ho w' hSw => ?_) ?_
  rotate_left
  · (simp only [List.getElem?_toArray, List.getElem?_cons_succ, List.getElem?_cons_zero, Option.some.injEq] at ho; subst ho; (try dsimp only at hSw); go_simp; try with_reducible rfl)
  simp only [Act.put, List.setIfInBounds_toArray, List.set_cons_zero, List.set_cons_succ]
  refine tk_on (i := 12) (some 102) (v := ?_) (by kernel_rfl) (by kernel_rfl) (by kernel_rfl) (by kernel_rfl) (fun _ _ _ h => h) (by assumption) (fun o ho w' hSw => ?_) ?_
  rotate_left
  · (simp only [List.getElem?_toArray, List.getElem?_cons_succ, List.getElem?_cons_zero, Option.some.injEq] at ho; subst ho; (try dsimp only at hSw); go_simp; try with_reducible rfl)
  simp only [Act.put, List.setIfInBounds_toArray, List.set_cons_zero, List.set_cons_succ]
  refine tk_on (i := 13) (some 103) (v := ?_) (by kernel_rfl) (by kernel_rfl) (by kernel_rfl) (by kernel_rfl) (fun _ _ _ h => h) (by assumption) (fun o ho w' hSw => ?_) ?_
  rotate_left
  · (simp only [List.getElem?_toArray, List.getElem?_cons_succ, List.getElem?_cons_zero, Option.some.injEq] at ho; subst ho; (try dsimp only at hSw); go_simp; try with_reducible rfl)
  simp only [Act.put, List.setIfInBounds_toArray, List.set_cons_zero, List.set_cons_succ]
  refine tk_on (i := 14) (some 104) (v := ?_) (by kernel_rfl) (by kernel_rfl) (by kernel_rfl) (by kernel_rfl) (fun _ _ _ h => h) (by assumption) (fun o ho w' hSw => ?_) ?_
  rotate_left
  · (simp only [List.getElem?_toArray, List.getElem?_cons_succ, List.getElem?_cons_zero, Option.some.injEq] at ho; subst ho; (try dsimp only at hSw); go_simp; try with_reducible rfl)
  simp only [Act.put, List.setIfInBounds_toArray, List.set_cons_zero, List.set_cons_succ]
  refine tk_on (i := 17) (some 107) (v := ?_) (by kernel_rfl) (by kernel_rfl) (by kernel_rfl) (by kernel_rfl) (fun _ _ _ h => h) (by assumption) (fun o ho w' hSw => ?_) ?_
  rotate_left
  · (simp only [List.getElem?_toArray, List.getElem?_cons_succ, List.getElem?_cons_zero, Option.some.injEq] at ho; subst ho; (try dsimp only at hSw); go_simp; try with_reducible rfl)
  simp only [Act.put, List.setIfInBounds_toArray, List.set_cons_zero, List.set_cons_succ]
  refine tk_call (i := 15) (by kernel_rfl) (by kernel_rfl) (fun o ho K hK => ?_)
  simp only [List.getElem?_toArray, List.getElem?_cons_succ, List.getElem?_cons_zero, Option.some.injEq] at ho
  subst ho
  go_simp
  refine (jd_Bare a b c _).mono ?_
  rintro e w9 ⟨rfl, hb⟩
  have k9 := k8.ret hb
  clear hb k8
  go_simp
  clear hHeld
  refine hK.out _ _ ⟨k9.A.c0, k9.A.c1, k9.A.c2⟩ (fun hHeld => ?_)
  clear hK K
  refine tk_call (i := 16) (by kernel_rfl) (by kernel_rfl) (fun o ho K hK => ?_)
  simp only [List.getElem?_toArray, List.getElem?_cons_succ, List.getElem?_cons_zero, Option.some.injEq] at ho
  subst ho
  go_simp
  refine (jd_Bare a b ⟨#[]⟩ _).mono ?_
  rintro e w10 ⟨rfl, hb⟩
  have k10 := k9.ret hb
  clear hb k9
  go_simp
  clear hHeld
  refine hK.out _ _ ⟨k10.A.c0, k10.A.c1, k10.A.c2⟩ (fun hHeld => ?_)
  clear hK K
  refine tk_call (i := 18) (by kernel_rfl) (by kernel_rfl) (fun o ho K hK => ?_)
  simp only [List.getElem?_toArray, List.getElem?_cons_succ, List.getElem?_cons_zero, Option.some.injEq] at ho
  subst ho
  go_simp
  refine (jd_Bare a b c _).mono ?_
  rintro e w11 ⟨rfl, hb⟩
  have k11 := k10.ret hb
  clear hb k10
  go_simp
  clear hHeld
  refine hK.out _ _ ⟨k11.A.c0, k11.A.c1, k11.A.c2⟩ (fun hHeld => ?_)
  clear hK K
  refine tk_on (i := 19) (some 109) (v := ?_) (by kernel_rfl) (by kernel_rfl) (by kernel_rfl) (by kernel_rfl) (fun _ _ _ h => h) (by assumption) (fun o ho w' hSw => ?_) ?_
  rotate_left
  · (simp only [List.getElem?_toArray, List.getElem?_cons_succ, List.getElem?_cons_zero, Option.some.injEq] at ho; subst ho; (try dsimp only at hSw); go_simp; try with_reducible rfl)
  simp only [Act.put, List.setIfInBounds_toArray, List.set_cons_zero, List.set_cons_succ]
  refine tk_on (i := 20) (some 110) (v := ?_) (by kernel_rfl) (by kernel_rfl) (by kernel_rfl) (by kernel_rfl) (fun _ _ _ h => h) (by assumption) (fun o ho w' hSw => ?_) ?_
  rotate_left
  · (simp only [List.getElem?_toArray, List.getElem?_cons_succ, List.getElem?_cons_zero, Option.some.injEq] at ho; subst ho; (try dsimp only at hSw); go_simp; try with_reducible rfl)
  simp only [Act.put, List.setIfInBounds_toArray, List.set_cons_zero, List.set_cons_succ]
  refine tk_on (i := 21) (some 6) (v := ?_) (by kernel_rfl) (by kernel_rfl) (by kernel_rfl) (by kernel_rfl) (fun _ _ _ h => h) (by assumption) (fun o ho w' hSw => ?_) ?_
  rotate_left
  · (simp only [List.getElem?_toArray, List.getElem?_cons_succ, List.getElem?_cons_zero, Option.some.injEq] at ho; subst ho; (try dsimp only at hSw); go_simp; try with_reducible rfl)
  simp only [Act.put, List.setIfInBounds_toArray, List.set_cons_zero, List.set_cons_succ]
  refine wpAnyH_done (by kernel_rfl) ?_ _
  go_wp2_with fail
  go_ret
  exact ⟨rfl, k11.q⟩
set_option maxHeartbeats 8000000 in
set_option maxRecDepth 100000 in
theorem order19_FFE (a b u v r : ByteArray) (w : World) (hm : ML w) (ha : a.size ≤ 1000) (hb : b.size ≤ 1000) (hu : u.size ≤ 1000) (hv : v.size ≤ 1000) (hr : r.size ≤ 1000) (g1 : ¬ (1000 : Int) < (a.size : Int) + b.size + ((⟨#[]⟩ : ByteArray)).size) (g3 : ¬ (1000 : Int) < (u.size : Int) + v.size + r.size)
    (CX : ∀ w, Calls Tryd.prog 17 #[jV a b ⟨#[]⟩, jV a b ⟨#[]⟩] w (Ret w (.bool false))) :
    Calls Tryd.prog 5 #[jV a b ⟨#[]⟩, jV a b ⟨#[]⟩, jV u v r] w (Ret w (.bool true)) := by
  have k0 := Or3.new w a b ⟨#[]⟩ a b ⟨#[]⟩ u v r hm
  have EQ := eql_jid
  have NE := neq_jid
  have EG := eg_jid
  have ES := jE_self a b ⟨#[]⟩
  have ES0 := jE_self a b ⟨#[]⟩
  have HX := Lib.hid CX
  have HY := HX
  clear CX    
  go_enter Tryd.func5, Tryd.ntmps5
  go_wp2_with fail
  refine (alive19 _ k0.m).mono ?_
  rintro e w1 ⟨rfl, hb⟩
  have k1 := k0.ret hb
  clear hb k0
  obtain ⟨x0, x1, x2, x3, x4⟩ := k1.A
  obtain ⟨y0, y1, y2, y3, y4⟩ := k1.B
  obtain ⟨z0, z1, z2, z3, z4⟩ := k1.C
  go_wp2_with fail
  have k2 := k1.ret (Below.drew (Below.refl _ _))
  clear x0 x1 x2 x3 x4 y0 y1 y2 y3 y4 z0 z1 z2 z3 z4
  refine wp_region_held_drew (S := fun w' => w'.cell? ⟨w.heap.size, 0, none⟩ = some (.string a) ∧ w'.cell? ⟨w.heap.size, 1, none⟩ = some (.string b) ∧ w'.cell? ⟨w.heap.size, 2, none⟩ = some (.string ⟨#[]⟩) ∧ w'.cell? ⟨w.heap.size + 1, 0, none⟩ = some (.string a) ∧ w'.cell? ⟨w.heap.size + 1, 1, none⟩ = some (.string b) ∧ w'.cell? ⟨w.heap.size + 1, 2, none⟩ = some (.string ⟨#[]⟩)) (by kernel_rfl) ⟨k2.A.c0, k2.A.c1, k2.A.c2, k2.B.c0, k2.B.c1, k2.B.c2⟩ (fun hHeld => ?_)
  refine tk_on (i := 0) (some 56) (v := ?_) (by kernel_rfl) (by kernel_rfl) (by kernel_rfl) (by kernel_rfl) (fun _ _ _ h => h) (by assumption) (fun o ho w' hSw => ?_) ?_
  rotate_left
  · (simp only [List.getElem?_toArray, List.getElem?_cons_zero, Option.some.injEq] at ho; subst ho; (try dsimp only at hSw); go_simp; try with_reducible rfl)
  simp only [Act.put, List.setIfInBounds_toArray, List.set_cons_zero, List.set_cons_succ]
  refine tk_on (i := 1) (some 57) (v := ?_) (by kernel_rfl) (by kernel_rfl) (by kernel_rfl) (by kernel_rfl) (fun _ _ _ h => h) (by assumption) (fun o ho w' hSw => ?_) ?_
  rotate_left
  · (simp only [List.getElem?_toArray, List.getElem?_cons_succ, List.getElem?_cons_zero, Option.some.injEq] at ho; subst ho; (try dsimp only at hSw); go_simp; try with_reducible rfl)
  simp only [Act.put, List.setIfInBounds_toArray, List.set_cons_zero, List.set_cons_succ]
  refine tk_on (i := 3) (some 59) (v := ?_) (by kernel_rfl) (by kernel_rfl) (by kernel_rfl) (by kernel_rfl) (fun _ _ _ h => h) (by assumption) (fun o ho w' hSw => ?_) ?_
  rotate_left
  · (simp only [List.getElem?_toArray, List.getElem?_cons_succ, List.getElem?_cons_zero, Option.some.injEq] at ho; subst ho; (try dsimp only at hSw); go_simp; try with_reducible rfl)
  simp only [Act.put, List.setIfInBounds_toArray, List.set_cons_zero, List.set_cons_succ]
  refine tk_on (i := 4) (some 60) (v := ?_) (by kernel_rfl) (by kernel_rfl) (by kernel_rfl) (by kernel_rfl) (fun _ _ _ h => h) (by assumption) (fun o ho w' hSw => ?_) ?_
  rotate_left
  · (simp only [List.getElem?_toArray, List.getElem?_cons_succ, List.getElem?_cons_zero, Option.some.injEq] at ho; subst ho; (try dsimp only at hSw); go_simp; try with_reducible rfl)
  simp only [Act.put, List.setIfInBounds_toArray, List.set_cons_zero, List.set_cons_succ]
  refine tk_call (i := 2) (by kernel_rfl) (by kernel_rfl) (fun o ho K hK => ?_)
  simp only [List.getElem?_toArray, List.getElem?_cons_succ, List.getElem?_cons_zero, Option.some.injEq] at ho
  subst ho
  go_simp
  refine (HX.out _).mono ?_
  rintro e w3 ⟨rfl, hb⟩
  have k3 := k2.ret hb
  clear hb k2
  go_simp
  clear hHeld
  refine hK.out _ _ ⟨k3.A.c0, k3.A.c1, k3.A.c2, k3.B.c0, k3.B.c1, k3.B.c2⟩ (fun hHeld => ?_)
  clear hK K
  refine tk_call (i := 5) (by kernel_rfl) (by kernel_rfl) (fun o ho K hK => ?_)
  simp only [List.getElem?_toArray, List.getElem?_cons_succ, List.getElem?_cons_zero, Option.some.injEq] at ho
  subst ho
  go_simp
  refine (HY.out _).mono ?_
  rintro e w4 ⟨rfl, hb⟩
  have k4 := k3.ret hb
  clear hb k3
  go_simp
  clear hHeld
  refine hK.out _ _ ⟨k4.A.c0, k4.A.c1, k4.A.c2, k4.B.c0, k4.B.c1, k4.B.c2⟩ (fun hHeld => ?_)
  clear hK K
  refine tk_on (i := 6) (some 8) (v := ?_) (by kernel_rfl) (by kernel_rfl) (by kernel_rfl) (by kernel_rfl) (fun _ _ _ h => h) (by assumption) (fun o ho w' hSw => ?_) ?_
  rotate_left
  · (simp only [List.getElem?_toArray, List.getElem?_cons_succ, List.getElem?_cons_zero, Option.some.injEq] at ho; subst ho; (try dsimp only at hSw); go_simp; try with_reducible rfl)
  simp only [Act.put, List.setIfInBounds_toArray, List.set_cons_zero, List.set_cons_succ]
  refine tk_on (i := 7) (some 9) (v := ?_) (by kernel_rfl) (by kernel_rfl) (by kernel_rfl) (by kernel_rfl) (fun _ _ _ h => h) (by assumption) (fun o ho w' hSw => ?_) ?_
  rotate_left
  · (simp only [List.getElem?_toArray, List.getElem?_cons_succ, List.getElem?_cons_zero, Option.some.injEq] at ho; subst ho; (try dsimp only at hSw); go_simp; try with_reducible rfl)
  simp only [Act.put, List.setIfInBounds_toArray, List.set_cons_zero, List.set_cons_succ]
  refine wpAnyH_done (by kernel_rfl) ?_ _
  obtain ⟨x0, x1, x2, x3, x4⟩ := k4.A
  obtain ⟨y0, y1, y2, y3, y4⟩ := k4.B
  obtain ⟨z0, z1, z2, z3, z4⟩ := k4.C
  go_wp2_with fail
  clear x0 x1 x2 x3 x4 y0 y1 y2 y3 y4 z0 z1 z2 z3 z4
  have k5 := k4.ret (Below.drew (Below.refl _ _))
  refine wp_region_held_drew (S := fun w' => w'.cell? ⟨w.heap.size, 0, none⟩ = some (.string a) ∧ w'.cell? ⟨w.heap.size, 1, none⟩ = some (.string b) ∧ w'.cell? ⟨w.heap.size, 2, none⟩ = some (.string ⟨#[]⟩)) (by kernel_rfl) ⟨k5.A.c0, k5.A.c1, k5.A.c2⟩ (fun hHeld => ?_)
  refine tk_on (i := 0) (some 90) (v := ?_) (by kernel_rfl) (by kernel_rfl) (by kernel_rfl) (by kernel_rfl) (fun _ _ _ h => h) (by assumption) (fun o ho w' hSw => ?_) ?_
  rotate_left
  · (simp only [List.getElem?_toArray, List.getElem?_cons_zero, Option.some.injEq] at ho; subst ho; (try dsimp only at hSw); go_simp; try with_reducible rfl)
  simp only [Act.put, List.setIfInBounds_toArray, List.set_cons_zero, List.set_cons_succ]
  refine tk_on (i := 1) (some 91) (v := ?_) (by kernel_rfl) (by kernel_rfl) (by kernel_rfl) (by kernel_rfl) (fun _ _ _ h => h) (by assumption) (fun o ho w' hSw => ?_) ?_
  rotate_left
  · (simp only [List.getElem?_toArray, List.getElem?_cons_succ, List.getElem?_cons_zero, Option.some.injEq] at ho; subst ho; (try dsimp only at hSw); go_simp; try with_reducible rfl)
  simp only [Act.put, List.setIfInBounds_toArray, List.set_cons_zero, List.set_cons_succ]
  refine tk_on (i := 2) (some 92) (v := ?_) (by kernel_rfl) (by kernel_rfl) (by kernel_rfl) (by kernel_rfl) (fun _ _ _ h => h) (by assumption) (fun o ho w' hSw => ?_) ?_
  rotate_left
  · (simp only [List.getElem?_toArray, List.getElem?_cons_succ, List.getElem?_cons_zero, Option.some.injEq] at ho; subst ho; (try dsimp only at hSw); go_simp; try with_reducible rfl)
  simp only [Act.put, List.setIfInBounds_toArray, List.set_cons_zero, List.set_cons_succ]
  refine tk_on (i := 4) (some 94) (v := ?_) (by kernel_rfl) (by kernel_rfl) (by kernel_rfl) (by kernel_rfl) (fun _ _ _ h => h) (by assumption) (fun o ho w' hSw => ?_) ?_
  rotate_left
  · (simp only [List.getElem?_toArray, List.getElem?_cons_succ, List.getElem?_cons_zero, Option.some.injEq] at ho; subst ho; (try dsimp only at hSw); go_simp; try with_reducible rfl)
  simp only [Act.put, List.setIfInBounds_toArray, List.set_cons_zero, List.set_cons_succ]
  refine tk_call (i := 3) (by kernel_rfl) (by kernel_rfl) (fun o ho K hK => ?_)
  simp only [List.getElem?_toArray, List.getElem?_cons_succ, List.getElem?_cons_zero, Option.some.injEq] at ho
  subst ho
  go_simp
  refine (jd_Bare a b ⟨#[]⟩ _).mono ?_
  rintro e w6 ⟨rfl, hb⟩
  have k6 := k5.ret hb
  clear hb k5
  go_simp
  clear hHeld
  refine hK.out _ _ ⟨k6.A.c0, k6.A.c1, k6.A.c2⟩ (fun hHeld => ?_)
  clear hK K
  refine tk_on (i := 5) (some 95) (v := ?_) (by kernel_rfl) (by kernel_rfl) (by kernel_rfl) (by kernel_rfl) (fun _ _ _ h => h) (by assumption) (fun o ho w' hSw => ?_) ?_
  rotate_left
  · (simp only [List.getElem?_toArray, List.getElem?_cons_succ, List.getElem?_cons_zero, Option.some.injEq] at ho; subst ho; (try dsimp only at hSw); go_simp; try with_reducible rfl)
  simp only [Act.put, List.setIfInBounds_toArray, List.set_cons_zero, List.set_cons_succ]
  refine tk_on (i := 6) (some 96) (v := ?_) (by kernel_rfl) (by kernel_rfl) (by kernel_rfl) (by kernel_rfl) (fun _ _ _ h => h) (by assumption) (fun o ho w' hSw => ?_) ?_
  rotate_left
  · (simp only [List.getElem?_toArray, List.getElem?_cons_succ, List.getElem?_cons_zero, Option.some.injEq] at ho; subst ho; (try dsimp only at hSw); go_simp; try with_reducible rfl)
  simp only [Act.put, List.setIfInBounds_toArray, List.set_cons_zero, List.set_cons_succ]
  refine tk_off (i := 7) (some 97) (by kernel_rfl) (by kernel_rfl) (by kernel_rfl) (by kernel_rfl) (fun _ _ _ h => h) (by assumption) ?_
  simp only [Act.put, List.setIfInBounds_toArray, List.set_cons_zero, List.set_cons_succ]
  refine tk_off (i := 8) (some 98) (by kernel_rfl) (by kernel_rfl) (by kernel_rfl) (by kernel_rfl) (fun _ _ _ h => h) (by assumption) ?_
  simp only [Act.put, List.setIfInBounds_toArray, List.set_cons_zero, List.set_cons_succ]
  refine tk_off (i := 9) (some 99) (by kernel_rfl) (by kernel_rfl) (by kernel_rfl) (by kernel_rfl) (fun _ _ _ h => h) (by assumption) ?_
  simp only [Act.put, List.setIfInBounds_toArray, List.set_cons_zero, List.set_cons_succ]
  refine tk_off (i := 10) (some 100) (by kernel_rfl) (by kernel_rfl) (by kernel_rfl) (by kernel_rfl) (fun _ _ _ h => h) (by assumption) ?_
  simp only [Act.put, List.setIfInBounds_toArray, List.set_cons_zero, List.set_cons_succ]
  refine tk_on (i := 11) (some 101) (v := ?_) (by kernel_rfl) (by kernel_rfl) (by kernel_rfl) (by kernel_rfl) (fun _ _ _ h => h) (by assumption) (fun o ho w' hSw => ?_) ?_
  rotate_left
  · (simp only [List.getElem?_toArray, List.getElem?_cons_succ, List.getElem?_cons_zero, Option.some.injEq] at ho; subst ho; (try dsimp only at hSw); go_simp; try with_reducible rfl)
  simp only [Act.put, List.setIfInBounds_toArray, List.set_cons_zero, List.set_cons_succ]
  refine tk_on (i := 12) (some 102) (v := ?_) (by kernel_rfl) (by kernel_rfl) (by kernel_rfl) (by kernel_rfl) (fun _ _ _ h => h) (by assumption) (fun o ho w' hSw => ?_) ?_
  rotate_left
  · (simp only [List.getElem?_toArray, List.getElem?_cons_succ, List.getElem?_cons_zero, Option.some.injEq] at ho; subst ho; (try dsimp only at hSw); go_simp; try with_reducible rfl)
  simp only [Act.put, List.setIfInBounds_toArray, List.set_cons_zero, List.set_cons_succ]
  refine tk_on (i := 13) (some 103) (v := ?_) (by kernel_rfl) (by kernel_rfl) (by kernel_rfl) (by kernel_rfl) (fun _ _ _ h => h) (by assumption) (fun o ho w' hSw => ?_) ?_
  rotate_left
  · (simp only [List.getElem?_toArray, List.getElem?_cons_succ, List.getElem?_cons_zero, Option.some.injEq] at ho; subst ho; (try dsimp only at hSw); go_simp; try with_reducible rfl)
  simp only [Act.put, List.setIfInBounds_toArray, List.set_cons_zero, List.set_cons_succ]
  refine tk_on (i := 14) (some 104) (v := ?_) (by kernel_rfl) (by kernel_rfl) (by kernel_rfl) (by kernel_rfl) (fun _ _ _ h => h) (by assumption) (fun o ho w' hSw => ?_) ?_
  rotate_left
  · (simp only [List.getElem?_toArray, List.getElem?_cons_succ, List.getElem?_cons_zero, Option.some.injEq] at ho; subst ho; (try dsimp only at hSw); go_simp; try with_reducible rfl)
  simp only [Act.put, List.setIfInBounds_toArray, List.set_cons_zero, List.set_cons_succ]
  refine tk_on (i := 17) (some 107) (v := ?_) (by kernel_rfl) (by kernel_rfl) (by kernel_rfl) (by kernel_rfl) (fun _ _ _ h => h) (by assumption) (fun o ho w' hSw => ?_) ?_
  rotate_left
  · (simp only [List.getElem?_toArray, List.getElem?_cons_succ, List.getElem?_cons_zero, Option.some.injEq] at ho; subst ho; (try dsimp only at hSw); go_simp; try with_reducible rfl)
  simp only [Act.put, List.setIfInBounds_toArray, List.set_cons_zero, List.set_cons_succ]
  refine tk_call (i := 15) (by kernel_rfl) (by kernel_rfl) (fun o ho K hK => ?_)
  simp only [List.getElem?_toArray, List.getElem?_cons_succ, List.getElem?_cons_zero, Option.some.injEq] at ho
  subst ho
  go_simp
  refine (jd_Bare a b ⟨#[]⟩ _).mono ?_
  rintro e w7 ⟨rfl, hb⟩
  have k7 := k6.ret hb
  clear hb k6
  go_simp
  clear hHeld
  refine hK.out _ _ ⟨k7.A.c0, k7.A.c1, k7.A.c2⟩ (fun hHeld => ?_)
  clear hK K
  refine tk_call (i := 16) (by kernel_rfl) (by kernel_rfl) (fun o ho K hK => ?_)
  simp only [List.getElem?_toArray, List.getElem?_cons_succ, List.getElem?_cons_zero, Option.some.injEq] at ho
  subst ho
  go_simp
  refine (jd_Bare a b ⟨#[]⟩ _).mono ?_
  rintro e w8 ⟨rfl, hb⟩
  have k8 := k7.ret hb
  clear hb k7
  go_simp
  clear hHeld
  refine hK.out _ _ ⟨k8.A.c0, k8.A.c1, k8.A.c2⟩ (fun hHeld => ?_)
  clear hK K
  refine tk_call (i := 18) (by kernel_rfl) (by kernel_rfl) (fun o ho K hK => ?_)
  simp only [List.getElem?_toArray, List.getElem?_cons_succ, List.getElem?_cons_zero, Option.some.injEq] at ho
  subst ho
  go_simp
  refine (jd_Bare a b ⟨#[]⟩ _).mono ?_
  rintro e w9 ⟨rfl, hb⟩
  have k9 := k8.ret hb
  clear hb k8
  go_simp
  clear hHeld
  refine hK.out _ _ ⟨k9.A.c0, k9.A.c1, k9.A.c2⟩ (fun hHeld => ?_)
  clear hK K
  refine tk_on (i := 19) (some 109) (v := ?_) (by kernel_rfl) (by kernel_rfl) (by kernel_rfl) (by kernel_rfl) (fun _ _ _ h => h) (by assumption) (fun o ho w' hSw => ?_) ?_
  rotate_left
  · (simp only [List.getElem?_toArray, List.getElem?_cons_succ, List.getElem?_cons_zero, Option.some.injEq] at ho; subst ho; (try dsimp only at hSw); go_simp; try with_reducible rfl)
  simp only [Act.put, List.setIfInBounds_toArray, List.set_cons_zero, List.set_cons_succ]
  refine tk_on (i := 20) (some 110) (v := ?_) (by kernel_rfl) (by kernel_rfl) (by kernel_rfl) (by kernel_rfl) (fun _ _ _ h => h) (by assumption) (fun o ho w' hSw => ?_) ?_
  rotate_left
  · (simp only [List.getElem?_toArray, List.getElem?_cons_succ, List.getElem?_cons_zero, Option.some.injEq] at ho; subst ho; (try dsimp only at hSw); go_simp; try with_reducible rfl)
  simp only [Act.put, List.setIfInBounds_toArray, List.set_cons_zero, List.set_cons_succ]
  refine tk_on (i := 21) (some 6) (v := ?_) (by kernel_rfl) (by kernel_rfl) (by kernel_rfl) (by kernel_rfl) (fun _ _ _ h => h) (by assumption) (fun o ho w' hSw => ?_) ?_
  rotate_left
  · (simp only [List.getElem?_toArray, List.getElem?_cons_succ, List.getElem?_cons_zero, Option.some.injEq] at ho; subst ho; (try dsimp only at hSw); go_simp; try with_reducible rfl)
  simp only [Act.put, List.setIfInBounds_toArray, List.set_cons_zero, List.set_cons_succ]
  refine wpAnyH_done (by kernel_rfl) ?_ _
  go_wp2_with fail
  go_ret
  exact ⟨rfl, k9.q⟩
set_option maxHeartbeats 8000000 in
set_option maxRecDepth 100000 in
theorem order19_FFN (a b c u v r : ByteArray) (w : World) (hm : ML w) (ha : a.size ≤ 1000) (hb : b.size ≤ 1000) (hc : c.size ≤ 1000) (hu : u.size ≤ 1000) (hv : v.size ≤ 1000) (hr : r.size ≤ 1000) (g1 : ¬ (1000 : Int) < (a.size : Int) + b.size + (c).size) (g3 : ¬ (1000 : Int) < (u.size : Int) + v.size + r.size)
    (CX : ∀ w, Calls Tryd.prog 17 #[jV a b c, jV a b c] w (Ret w (.bool false))) (hB : jE a b ⟨#[]⟩ a b c = false) (CL : ∀ w, Calls Tryd.prog 17 #[jV a b ⟨#[]⟩, jV a b c] w (Ret w (.bool true))) :
    Calls Tryd.prog 5 #[jV a b c, jV a b c, jV u v r] w (Ret w (.bool true)) := by
  have k0 := Or3.new w a b c a b c u v r hm
  have EQ := eql_jid
  have NE := neq_jid
  have EG := eg_jid
  have ES := jE_self a b c
  have ES0 := jE_self a b ⟨#[]⟩
  have HX := Lib.hid CX
  have HY := HX
  have HL := Lib.hid CL
  clear CX    CL
  go_enter Tryd.func5, Tryd.ntmps5
  go_wp2_with fail
  refine (alive19 _ k0.m).mono ?_
  rintro e w1 ⟨rfl, hb⟩
  have k1 := k0.ret hb
  clear hb k0
  obtain ⟨x0, x1, x2, x3, x4⟩ := k1.A
  obtain ⟨y0, y1, y2, y3, y4⟩ := k1.B
  obtain ⟨z0, z1, z2, z3, z4⟩ := k1.C
  go_wp2_with fail
  have k2 := k1.ret (Below.drew (Below.refl _ _))
  clear x0 x1 x2 x3 x4 y0 y1 y2 y3 y4 z0 z1 z2 z3 z4
  refine wp_region_held_drew (S := fun w' => w'.cell? ⟨w.heap.size, 0, none⟩ = some (.string a) ∧ w'.cell? ⟨w.heap.size, 1, none⟩ = some (.string b) ∧ w'.cell? ⟨w.heap.size, 2, none⟩ = some (.string c) ∧ w'.cell? ⟨w.heap.size + 1, 0, none⟩ = some (.string a) ∧ w'.cell? ⟨w.heap.size + 1, 1, none⟩ = some (.string b) ∧ w'.cell? ⟨w.heap.size + 1, 2, none⟩ = some (.string c)) (by kernel_rfl) ⟨k2.A.c0, k2.A.c1, k2.A.c2, k2.B.c0, k2.B.c1, k2.B.c2⟩ (fun hHeld => ?_)
  refine tk_on (i := 0) (some 56) (v := ?_) (by kernel_rfl) (by kernel_rfl) (by kernel_rfl) (by kernel_rfl) (fun _ _ _ h => h) (by assumption) (fun o ho w' hSw => ?_) ?_
  rotate_left
  · (simp only [List.getElem?_toArray, List.getElem?_cons_zero, Option.some.injEq] at ho; subst ho; (try dsimp only at hSw); go_simp; try with_reducible rfl)
  simp only [Act.put, List.setIfInBounds_toArray, List.set_cons_zero, List.set_cons_succ]
  refine tk_on (i := 1) (some 57) (v := ?_) (by kernel_rfl) (by kernel_rfl) (by kernel_rfl) (by kernel_rfl) (fun _ _ _ h => h) (by assumption) (fun o ho w' hSw => ?_) ?_
  rotate_left
  · (simp only [List.getElem?_toArray, List.getElem?_cons_succ, List.getElem?_cons_zero, Option.some.injEq] at ho; subst ho; (try dsimp only at hSw); go_simp; try with_reducible rfl)
  simp only [Act.put, List.setIfInBounds_toArray, List.set_cons_zero, List.set_cons_succ]
  refine tk_on (i := 3) (some 59) (v := ?_) (by kernel_rfl) (by kernel_rfl) (by kernel_rfl) (by kernel_rfl) (fun _ _ _ h => h) (by assumption) (fun o ho w' hSw => ?_) ?_
  rotate_left
  · (simp only [List.getElem?_toArray, List.getElem?_cons_succ, List.getElem?_cons_zero, Option.some.injEq] at ho; subst ho; (try dsimp only at hSw); go_simp; try with_reducible rfl)
  simp only [Act.put, List.setIfInBounds_toArray, List.set_cons_zero, List.set_cons_succ]
  refine tk_on (i := 4) (some 60) (v := ?_) (by kernel_rfl) (by kernel_rfl) (by kernel_rfl) (by kernel_rfl) (fun _ _ _ h => h) (by assumption) (fun o ho w' hSw => ?_) ?_
  rotate_left
  · (simp only [List.getElem?_toArray, List.getElem?_cons_succ, List.getElem?_cons_zero, Option.some.injEq] at ho; subst ho; (try dsimp only at hSw); go_simp; try with_reducible rfl)
  simp only [Act.put, List.setIfInBounds_toArray, List.set_cons_zero, List.set_cons_succ]
  refine tk_call (i := 2) (by kernel_rfl) (by kernel_rfl) (fun o ho K hK => ?_)
  simp only [List.getElem?_toArray, List.getElem?_cons_succ, List.getElem?_cons_zero, Option.some.injEq] at ho
  subst ho
  go_simp
  refine (HX.out _).mono ?_
  rintro e w3 ⟨rfl, hb⟩
  have k3 := k2.ret hb
  clear hb k2
  go_simp
  clear hHeld
  refine hK.out _ _ ⟨k3.A.c0, k3.A.c1, k3.A.c2, k3.B.c0, k3.B.c1, k3.B.c2⟩ (fun hHeld => ?_)
  clear hK K
  refine tk_call (i := 5) (by kernel_rfl) (by kernel_rfl) (fun o ho K hK => ?_)
  simp only [List.getElem?_toArray, List.getElem?_cons_succ, List.getElem?_cons_zero, Option.some.injEq] at ho
  subst ho
  go_simp
  refine (HY.out _).mono ?_
  rintro e w4 ⟨rfl, hb⟩
  have k4 := k3.ret hb
  clear hb k3
  go_simp
  clear hHeld
  refine hK.out _ _ ⟨k4.A.c0, k4.A.c1, k4.A.c2, k4.B.c0, k4.B.c1, k4.B.c2⟩ (fun hHeld => ?_)
  clear hK K
  refine tk_on (i := 6) (some 8) (v := ?_) (by kernel_rfl) (by kernel_rfl) (by kernel_rfl) (by kernel_rfl) (fun _ _ _ h => h) (by assumption) (fun o ho w' hSw => ?_) ?_
  rotate_left
  · (simp only [List.getElem?_toArray, List.getElem?_cons_succ, List.getElem?_cons_zero, Option.some.injEq] at ho; subst ho; (try dsimp only at hSw); go_simp; try with_reducible rfl)
  simp only [Act.put, List.setIfInBounds_toArray, List.set_cons_zero, List.set_cons_succ]
  refine tk_on (i := 7) (some 9) (v := ?_) (by kernel_rfl) (by kernel_rfl) (by kernel_rfl) (by kernel_rfl) (fun _ _ _ h => h) (by assumption) (fun o ho w' hSw => ?_) ?_
  rotate_left
  · (simp only [List.getElem?_toArray, List.getElem?_cons_succ, List.getElem?_cons_zero, Option.some.injEq] at ho; subst ho; (try dsimp only at hSw); go_simp; try with_reducible rfl)
  simp only [Act.put, List.setIfInBounds_toArray, List.set_cons_zero, List.set_cons_succ]
  refine wpAnyH_done (by kernel_rfl) ?_ _
  obtain ⟨x0, x1, x2, x3, x4⟩ := k4.A
  obtain ⟨y0, y1, y2, y3, y4⟩ := k4.B
  obtain ⟨z0, z1, z2, z3, z4⟩ := k4.C
  go_wp2_with fail
  clear x0 x1 x2 x3 x4 y0 y1 y2 y3 y4 z0 z1 z2 z3 z4
  have k5 := k4.ret (Below.drew (Below.refl _ _))
  refine wp_region_held_drew (S := fun w' => w'.cell? ⟨w.heap.size, 0, none⟩ = some (.string a) ∧ w'.cell? ⟨w.heap.size, 1, none⟩ = some (.string b) ∧ w'.cell? ⟨w.heap.size, 2, none⟩ = some (.string c)) (by kernel_rfl) ⟨k5.A.c0, k5.A.c1, k5.A.c2⟩ (fun hHeld => ?_)
  refine tk_on (i := 0) (some 90) (v := ?_) (by kernel_rfl) (by kernel_rfl) (by kernel_rfl) (by kernel_rfl) (fun _ _ _ h => h) (by assumption) (fun o ho w' hSw => ?_) ?_
  rotate_left
  · (simp only [List.getElem?_toArray, List.getElem?_cons_zero, Option.some.injEq] at ho; subst ho; (try dsimp only at hSw); go_simp; try with_reducible rfl)
  simp only [Act.put, List.setIfInBounds_toArray, List.set_cons_zero, List.set_cons_succ]
  refine tk_on (i := 1) (some 91) (v := ?_) (by kernel_rfl) (by kernel_rfl) (by kernel_rfl) (by kernel_rfl) (fun _ _ _ h => h) (by assumption) (fun o ho w' hSw => ?_) ?_
  rotate_left
  · (simp only [List.getElem?_toArray, List.getElem?_cons_succ, List.getElem?_cons_zero, Option.some.injEq] at ho; subst ho; (try dsimp only at hSw); go_simp; try with_reducible rfl)
  simp only [Act.put, List.setIfInBounds_toArray, List.set_cons_zero, List.set_cons_succ]
  refine tk_on (i := 2) (some 92) (v := ?_) (by kernel_rfl) (by kernel_rfl) (by kernel_rfl) (by kernel_rfl) (fun _ _ _ h => h) (by assumption) (fun o ho w' hSw => ?_) ?_
  rotate_left
  · (simp only [List.getElem?_toArray, List.getElem?_cons_succ, List.getElem?_cons_zero, Option.some.injEq] at ho; subst ho; (try dsimp only at hSw); go_simp; try with_reducible rfl)
  simp only [Act.put, List.setIfInBounds_toArray, List.set_cons_zero, List.set_cons_succ]
  refine tk_on (i := 4) (some 94) (v := ?_) (by kernel_rfl) (by kernel_rfl) (by kernel_rfl) (by kernel_rfl) (fun _ _ _ h => h) (by assumption) (fun o ho w' hSw => ?_) ?_
  rotate_left
  · (simp only [List.getElem?_toArray, List.getElem?_cons_succ, List.getElem?_cons_zero, Option.some.injEq] at ho; subst ho; (try dsimp only at hSw); go_simp; try with_reducible rfl)
  simp only [Act.put, List.setIfInBounds_toArray, List.set_cons_zero, List.set_cons_succ]
  refine tk_call (i := 3) (by kernel_rfl) (by kernel_rfl) (fun o ho K hK => ?_)
  simp only [List.getElem?_toArray, List.getElem?_cons_succ, List.getElem?_cons_zero, Option.some.injEq] at ho
  subst ho
  go_simp
  refine (jd_Bare a b c _).mono ?_
  rintro e w6 ⟨rfl, hb⟩
  have k6 := k5.ret hb
  clear hb k5
  go_simp
  clear hHeld
  refine hK.out _ _ ⟨k6.A.c0, k6.A.c1, k6.A.c2⟩ (fun hHeld => ?_)
  clear hK K
  refine tk_on (i := 5) (some 95) (v := ?_) (by kernel_rfl) (by kernel_rfl) (by kernel_rfl) (by kernel_rfl) (fun _ _ _ h => h) (by assumption) (fun o ho w' hSw => ?_) ?_
  rotate_left
  · (simp only [List.getElem?_toArray, List.getElem?_cons_succ, List.getElem?_cons_zero, Option.some.injEq] at ho; subst ho; (try dsimp only at hSw); go_simp; try with_reducible rfl)
  simp only [Act.put, List.setIfInBounds_toArray, List.set_cons_zero, List.set_cons_succ]
  refine tk_on (i := 6) (some 96) (v := ?_) (by kernel_rfl) (by kernel_rfl) (by kernel_rfl) (by kernel_rfl) (fun _ _ _ h => h) (by assumption) (fun o ho w' hSw => ?_) ?_
  rotate_left
  · (simp only [List.getElem?_toArray, List.getElem?_cons_succ, List.getElem?_cons_zero, Option.some.injEq] at ho; subst ho; (try dsimp only at hSw); go_simp; try with_reducible rfl)
  simp only [Act.put, List.setIfInBounds_toArray, List.set_cons_zero, List.set_cons_succ]
  refine tk_on (i := 7) (some 97) (v := ?_) (by kernel_rfl) (by kernel_rfl) (by kernel_rfl) (by kernel_rfl) (fun _ _ _ h => h) (by assumption) (fun o ho w' hSw => ?_) ?_
  rotate_left
  · (simp only [List.getElem?_toArray, List.getElem?_cons_succ, List.getElem?_cons_zero, Option.some.injEq] at ho; subst ho; (try dsimp only at hSw); go_simp; try with_reducible rfl)
  simp only [Act.put, List.setIfInBounds_toArray, List.set_cons_zero, List.set_cons_succ]
  refine tk_on (i := 9) (some 99) (v := ?_) (by kernel_rfl) (by kernel_rfl) (by kernel_rfl) (by kernel_rfl) (fun _ _ _ h => h) (by assumption) (fun o ho w' hSw => ?_) ?_
  rotate_left
  · (simp only [List.getElem?_toArray, List.getElem?_cons_succ, List.getElem?_cons_zero, Option.some.injEq] at ho; subst ho; (try dsimp only at hSw); go_simp; try with_reducible rfl)
  simp only [Act.put, List.setIfInBounds_toArray, List.set_cons_zero, List.set_cons_succ]
  refine tk_call (i := 8) (by kernel_rfl) (by kernel_rfl) (fun o ho K hK => ?_)
  simp only [List.getElem?_toArray, List.getElem?_cons_succ, List.getElem?_cons_zero, Option.some.injEq] at ho
  subst ho
  go_simp
  refine (jd_Bare a b c _).mono ?_
  rintro e w7 ⟨rfl, hb⟩
  have k7 := k6.ret hb
  clear hb k6
  go_simp
  clear hHeld
  refine hK.out _ _ ⟨k7.A.c0, k7.A.c1, k7.A.c2⟩ (fun hHeld => ?_)
  clear hK K
  refine tk_call (i := 10) (by kernel_rfl) (by kernel_rfl) (fun o ho K hK => ?_)
  simp only [List.getElem?_toArray, List.getElem?_cons_succ, List.getElem?_cons_zero, Option.some.injEq] at ho
  subst ho
  go_simp
  refine (HL.out _).mono ?_
  rintro e w8 ⟨rfl, hb⟩
  have k8 := k7.ret hb
  clear hb k7
  go_simp
  clear hHeld
  refine hK.out _ _ ⟨k8.A.c0, k8.A.c1, k8.A.c2⟩ (fun hHeld => ?_)
  clear hK K
  refine tk_on (i := 11) (some 101) (v := ?_) (by kernel_rfl) (by kernel_rfl) (by kernel_rfl) (by kernel_rfl) (fun _ _ _ h => h) (by assumption) (fun o ho w' hSw => ?_) ?_
  rotate_left
  · (simp only [List.getElem?_toArray, List.getElem?_cons_succ, List.getElem?_cons_zero, Option.some.injEq] at ho; subst ho; (try dsimp only at hSw); go_simp; try with_reducible rfl)
  simp only [Act.put, List.setIfInBounds_toArray, List.set_cons_zero, List.set_cons_succ]
  refine tk_on (i := 12) (some 102) (v := ?_) (by kernel_rfl) (by kernel_rfl) (by kernel_rfl) (by kernel_rfl) (fun _ _ _ h => h) (by assumption) (fun o ho w' hSw => ?_) ?_
  rotate_left
  · (simp only [List.getElem?_toArray, List.getElem?_cons_succ, List.getElem?_cons_zero, Option.some.injEq] at ho; subst ho; (try dsimp only at hSw); go_simp; try with_reducible rfl)
  simp only [Act.put, List.setIfInBounds_toArray, List.set_cons_zero, List.set_cons_succ]
  refine tk_on (i := 13) (some 103) (v := ?_) (by kernel_rfl) (by kernel_rfl) (by kernel_rfl) (by kernel_rfl) (fun _ _ _ h => h) (by assumption) (fun o ho w' hSw => ?_) ?_
  rotate_left
  · (simp only [List.getElem?_toArray, List.getElem?_cons_succ, List.getElem?_cons_zero, Option.some.injEq] at ho; subst ho; (try dsimp only at hSw); go_simp; try with_reducible rfl)
  simp only [Act.put, List.setIfInBounds_toArray, List.set_cons_zero, List.set_cons_succ]
  refine tk_on (i := 14) (some 104) (v := ?_) (by kernel_rfl) (by kernel_rfl) (by kernel_rfl) (by kernel_rfl) (fun _ _ _ h => h) (by assumption) (fun o ho w' hSw => ?_) ?_
  rotate_left
  · (simp only [List.getElem?_toArray, List.getElem?_cons_succ, List.getElem?_cons_zero, Option.some.injEq] at ho; subst ho; (try dsimp only at hSw); go_simp; try with_reducible rfl)
  simp only [Act.put, List.setIfInBounds_toArray, List.set_cons_zero, List.set_cons_succ]
  refine tk_on (i := 17) (some 107) (v := ?_) (by kernel_rfl) (by kernel_rfl) (by kernel_rfl) (by kernel_rfl) (fun _ _ _ h => h) (by assumption) (fun o ho w' hSw => ?_) ?_
  rotate_left
  · (simp only [List.getElem?_toArray, List.getElem?_cons_succ, List.getElem?_cons_zero, Option.some.injEq] at ho; subst ho; (try dsimp only at hSw); go_simp; try with_reducible rfl)
  simp only [Act.put, List.setIfInBounds_toArray, List.set_cons_zero, List.set_cons_succ]
  refine tk_call (i := 15) (by kernel_rfl) (by kernel_rfl) (fun o ho K hK => ?_)
  simp only [List.getElem?_toArray, List.getElem?_cons_succ, List.getElem?_cons_zero, Option.some.injEq] at ho
  subst ho
  go_simp
  refine (jd_Bare a b c _).mono ?_
  rintro e w9 ⟨rfl, hb⟩
  have k9 := k8.ret hb
  clear hb k8
  go_simp
  clear hHeld
  refine hK.out _ _ ⟨k9.A.c0, k9.A.c1, k9.A.c2⟩ (fun hHeld => ?_)
  clear hK K
  refine tk_call (i := 16) (by kernel_rfl) (by kernel_rfl) (fun o ho K hK => ?_)
  simp only [List.getElem?_toArray, List.getElem?_cons_succ, List.getElem?_cons_zero, Option.some.injEq] at ho
  subst ho
  go_simp
  refine (jd_Bare a b ⟨#[]⟩ _).mono ?_
  rintro e w10 ⟨rfl, hb⟩
  have k10 := k9.ret hb
  clear hb k9
  go_simp
  clear hHeld
  refine hK.out _ _ ⟨k10.A.c0, k10.A.c1, k10.A.c2⟩ (fun hHeld => ?_)
  clear hK K
  refine tk_call (i := 18) (by kernel_rfl) (by kernel_rfl) (fun o ho K hK => ?_)
  simp only [List.getElem?_toArray, List.getElem?_cons_succ, List.getElem?_cons_zero, Option.some.injEq] at ho
  subst ho
  go_simp
  refine (jd_Bare a b c _).mono ?_
  rintro e w11 ⟨rfl, hb⟩
  have k11 := k10.ret hb
  clear hb k10
  go_simp
  clear hHeld
  refine hK.out _ _ ⟨k11.A.c0, k11.A.c1, k11.A.c2⟩ (fun hHeld => ?_)
  clear hK K
  refine tk_on (i := 19) (some 109) (v := ?_) (by kernel_rfl) (by kernel_rfl) (by kernel_rfl) (by kernel_rfl) (fun _ _ _ h => h) (by assumption) (fun o ho w' hSw => ?_) ?_
  rotate_left
  · (simp only [List.getElem?_toArray, List.getElem?_cons_succ, List.getElem?_cons_zero, Option.some.injEq] at ho; subst ho; (try dsimp only at hSw); go_simp; try with_reducible rfl)
  simp only [Act.put, List.setIfInBounds_toArray, List.set_cons_zero, List.set_cons_succ]
  refine tk_on (i := 20) (some 110) (v := ?_) (by kernel_rfl) (by kernel_rfl) (by kernel_rfl) (by kernel_rfl) (fun _ _ _ h => h) (by assumption) (fun o ho w' hSw => ?_) ?_
  rotate_left
  · (simp only [List.getElem?_toArray, List.getElem?_cons_succ, List.getElem?_cons_zero, Option.some.injEq] at ho; subst ho; (try dsimp only at hSw); go_simp; try with_reducible rfl)
  simp only [Act.put, List.setIfInBounds_toArray, List.set_cons_zero, List.set_cons_succ]
  refine tk_on (i := 21) (some 6) (v := ?_) (by kernel_rfl) (by kernel_rfl) (by kernel_rfl) (by kernel_rfl) (fun _ _ _ h => h) (by assumption) (fun o ho w' hSw => ?_) ?_
  rotate_left
  · (simp only [List.getElem?_toArray, List.getElem?_cons_succ, List.getElem?_cons_zero, Option.some.injEq] at ho; subst ho; (try dsimp only at hSw); go_simp; try with_reducible rfl)
  simp only [Act.put, List.setIfInBounds_toArray, List.set_cons_zero, List.set_cons_succ]
  refine wpAnyH_done (by kernel_rfl) ?_ _
  go_wp2_with fail
  go_ret
  exact ⟨rfl, k11.q⟩
theorem ne_list (a x : ByteArray) (h : a ≠ x) : a.data.toList ≠ x.data.toList := fun e => h (str_ext e)
theorem order19 (a b c x y z u v r : ByteArray) (w : World) (ha : a.size ≤ 140737488351232) (hb : b.size ≤ 140737488351232) (hc : c.size ≤ 140737488351232) (hx : x.size ≤ 140737488351232) (hy : y.size ≤ 140737488351232) (hz : z.size ≤ 140737488351232) (hu : u.size ≤ 140737488351232) (hv : v.size ≤ 140737488351232) (hr : r.size ≤ 140737488351232) (hm : ML w) :
    Calls Tryd.prog 5 #[jV a b c, jV x y z, jV u v r] w (Ret w (.bool true)) := by
  by_cases hbig : 1000 < a.size + b.size + c.size ∨ 1000 < x.size + y.size + z.size ∨ 1000 < u.size + v.size + r.size
  · exact order19_big a b c x y z u v r w ha hb hc hx hy hz hu hv hr hm hbig
  · have g1 : ¬ (1000 : Int) < (a.size : Int) + b.size + c.size := by omega
    have g2 : ¬ (1000 : Int) < (x.size : Int) + y.size + z.size := by omega
    have g3 : ¬ (1000 : Int) < (u.size : Int) + v.size + r.size := by omega
    have za : a.size ≤ 1000 := by omega
    have zb : b.size ≤ 1000 := by omega
    have zc : c.size ≤ 1000 := by omega
    have zx : x.size ≤ 1000 := by omega
    have zy : y.size ≤ 1000 := by omega
    have zz : z.size ≤ 1000 := by omega
    have zu : u.size ≤ 1000 := by omega
    have zv : v.size ≤ 1000 := by omega
    have zr : r.size ≤ 1000 := by omega
    have CX := fun w => jd_Less a b c x y z w
    have CY := fun w => jd_Less x y z a b c w
    have CU := fun w => jd_Less x y z u v r w
    have CV := fun w => jd_Less a b c u v r w
    obtain ⟨t1, t2⟩ := ls_tri (a.data.toList, b.data.toList, c.data.toList) (x.data.toList, y.data.toList, z.data.toList)
    by_cases hE : a = x ∧ b = y ∧ c = z
    · obtain ⟨rfl, rfl, rfl⟩ := hE
      rw [ls_irr] at CX
      clear CY CU CV t1 t2
      cases hr : c.data.toList.isEmpty with
      | true =>
        obtain rfl := nil_facts hr
        exact order19_FFE a b u v r w hm za zb zu zv zr g1 g3 CX
      | false =>
        have hne : c ≠ ⟨#[]⟩ := fun e => by rw [e] at hr; cases hr
        have hB : jE a b ⟨#[]⟩ a b c = false := by rw [jE_iff]; exact decide_eq_false fun h => hne h.2.2.symm
        have CL := fun w => jless_at a b ⟨#[]⟩ a b c true w ((ls_bare _ _ _).2 (ne_list _ _ hne))
        exact order19_FFN a b c u v r w hm za zb zc zu zv zr g1 g3 CX hB CL
    · have hq : jE a b c x y z = false := by rw [jE_iff]; exact decide_eq_false hE
      have hne : (a.data.toList, b.data.toList, c.data.toList) ≠ (x.data.toList, y.data.toList, z.data.toList) := fun e => by
        obtain ⟨e1, e2⟩ := Prod.mk.inj e
        obtain ⟨e2, e3⟩ := Prod.mk.inj e2
        exact hE ⟨str_ext e1, str_ext e2, str_ext e3⟩
      rw [decide_eq_false hne] at t2
      cases hx : lsP (a.data.toList, b.data.toList, c.data.toList) (x.data.toList, y.data.toList, z.data.toList) with
      | true =>
        rw [hx, Bool.true_and] at t1
        rw [hx] at CX
        rw [t1] at CY
        cases hu : lsP (x.data.toList, y.data.toList, z.data.toList) (u.data.toList, v.data.toList, r.data.toList) with
        | true =>
          rw [hu] at CU
          rw [ls_trans _ _ _ hx hu] at CV
          cases hr : c.data.toList.isEmpty with
          | true =>
            obtain rfl := nil_facts hr
            exact order19_TFTE a b x y z u v r w hm za zb zx zy zz zu zv zr g1 g2 g3 CX CY hq CU CV
          | false =>
            have hne : c ≠ ⟨#[]⟩ := fun e => by rw [e] at hr; cases hr
            have hB : jE a b ⟨#[]⟩ a b c = false := by rw [jE_iff]; exact decide_eq_false fun h => hne h.2.2.symm
            have CL := fun w => jless_at a b ⟨#[]⟩ a b c true w ((ls_bare _ _ _).2 (ne_list _ _ hne))
            exact order19_TFTN a b c x y z u v r w hm za zb zc zx zy zz zu zv zr g1 g2 g3 CX CY hq CU CV hB CL
        | false =>
          rw [hu] at CU
          cases hr : c.data.toList.isEmpty with
          | true =>
            obtain rfl := nil_facts hr
            exact order19_TFFE a b x y z u v r w hm za zb zx zy zz zu zv zr g1 g2 g3 CX CY hq CU
          | false =>
            have hne : c ≠ ⟨#[]⟩ := fun e => by rw [e] at hr; cases hr
            have hB : jE a b ⟨#[]⟩ a b c = false := by rw [jE_iff]; exact decide_eq_false fun h => hne h.2.2.symm
            have CL := fun w => jless_at a b ⟨#[]⟩ a b c true w ((ls_bare _ _ _).2 (ne_list _ _ hne))
            exact order19_TFFN a b c x y z u v r w hm za zb zc zx zy zz zu zv zr g1 g2 g3 CX CY hq CU hB CL
      | false =>
        rw [hx, Bool.false_or] at t2
        rw [hx] at CX
        rw [t2] at CY
        cases hr : c.data.toList.isEmpty with
        | true =>
          obtain rfl := nil_facts hr
          exact order19_FTE a b x y z u v r w hm za zb zx zy zz zu zv zr g1 g2 g3 CX CY hq
        | false =>
          have hne : c ≠ ⟨#[]⟩ := fun e => by rw [e] at hr; cases hr
          have hB : jE a b ⟨#[]⟩ a b c = false := by rw [jE_iff]; exact decide_eq_false fun h => hne h.2.2.symm
          have CL := fun w => jless_at a b ⟨#[]⟩ a b c true w ((ls_bare _ _ _).2 (ne_list _ _ hne))
          exact order19_FTN a b c x y z u v r w hm za zb zc zx zy zz zu zv zr g1 g2 g3 CX CY hq hB CL
end Go.Proofs.YtfonkblbgadhmaaDoor
