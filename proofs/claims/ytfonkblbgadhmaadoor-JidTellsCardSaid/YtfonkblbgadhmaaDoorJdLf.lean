/- law19: JidTells. PRINTED BY PROGRAM (gen_jlf.py). -/
import Derived.Test.YtfonkblbgadhmaaDoorJdLb
import Derived.Test.YtfonkblbgadhmaaDoorJdZ
import Derived.Test.YtfonkblbgadhmaaDoorGh
namespace Go.Proofs.YtfonkblbgadhmaaDoor
open Go.RowKit Go.Lib

/-- what is known: the two addresses in their cells; nothing that was there has turned. -/
structure Or2 (w : World) (a b c x y z : ByteArray) (W : World) : Prop where
  A : JAt w.heap.size a b c W
  B : JAt (w.heap.size + 1) x y z W
  q : Below w.heap.size w W
  m : ML W
theorem Or2.ret {w : World} {a b c x y z : ByteArray} {W W' : World} (h : Or2 w a b c x y z W) (hb : Below W.heap.size W W') : Or2 w a b c x y z W' :=
  ⟨h.A.ret hb, h.B.ret hb, h.q.trans (hb.mono h.q.size), h.m.ret hb⟩
theorem Or2.new (w : World) (a b c x y z : ByteArray) (m : ML w) : Or2 w a b c x y z ((w.alloc (.cells #[.string a, .string b, .string c] 23)).alloc (.cells #[.string x, .string y, .string z] 23)) := by
  have a1 := JAt.new w a b c
  have b1 := (Below.refl w.heap.size w).alloc (Nat.le_refl _) (.cells #[.string a, .string b, .string c] 23)
  have m1 := m.ret b1
  obtain ⟨W1, h1⟩ : ∃ W, w.alloc (.cells #[.string a, .string b, .string c] 23) = W := ⟨_, rfl⟩
  have s1 : W1.heap.size = w.heap.size + 1 := by rw [← h1]; simp
  rw [h1] at a1 b1 m1 ⊢
  have a2 := JAt.new W1 x y z
  have b2 := (Below.refl W1.heap.size W1).alloc (Nat.le_refl _) (.cells #[.string x, .string y, .string z] 23)
  rw [s1] at a2
  exact ⟨a1.ret b2, a2, b1.trans (b2.mono b1.size), m1.ret b2⟩
theorem tells19_big (s a b c x y z : ByteArray) (w : World) (zs : s.size ≤ 9223372036854775807) (ha : a.size ≤ 140737488351232) (hb : b.size ≤ 140737488351232) (hc : c.size ≤ 140737488351232) (hx : x.size ≤ 140737488351232) (hy : y.size ≤ 140737488351232) (hz : z.size ≤ 140737488351232) (hm : ML w) (hbig : 1000 < s.size ∨ 1000 < a.size + b.size + c.size ∨ 1000 < x.size + y.size + z.size) :
    Calls Tryd.prog 7 #[.string s, jV a b c, jV x y z] w (Ret w (.bool true)) := by
  have k0 := Or2.new w a b c x y z hm
  by_cases h0 : 1000 < s.size
  · have g0 : (1000 : Int) < s.size := by omega
    clear hbig h0
    obtain ⟨x0, x1, x2, x3, x4⟩ := k0.A
    obtain ⟨y0, y1, y2, y3, y4⟩ := k0.B
    go_enter Tryd.func7, Tryd.ntmps7
    go_wp2_with fail
    go_ret
    exact ⟨rfl, k0.q⟩
  · have g0 : ¬ (1000 : Int) < s.size := by omega
    by_cases h1 : 1000 < a.size + b.size + c.size
    · have g1 : ((1000 : Int) < (a.size : Int) + b.size + c.size) := by omega
      clear hbig h1 h0
      obtain ⟨x0, x1, x2, x3, x4⟩ := k0.A
      obtain ⟨y0, y1, y2, y3, y4⟩ := k0.B
      go_enter Tryd.func7, Tryd.ntmps7
      go_wp2_with fail
      go_ret
      exact ⟨rfl, k0.q⟩
    · have g1 : (¬ (1000 : Int) < (a.size : Int) + b.size + c.size) := by omega
      have g2 : ((1000 : Int) < (x.size : Int) + y.size + z.size) := by omega
      clear hbig h1 h0
      obtain ⟨x0, x1, x2, x3, x4⟩ := k0.A
      obtain ⟨y0, y1, y2, y3, y4⟩ := k0.B
      go_enter Tryd.func7, Tryd.ntmps7
      go_wp2_with fail
      go_ret
      exact ⟨rfl, k0.q⟩
set_option maxHeartbeats 8000000 in
set_option maxRecDepth 100000 in
theorem tells19_small (s a b c x y z X Y Z U : ByteArray) (e1 e2 e3 : Int) (b1 b2 b3 : Bool) (w : World) (hm : ML w) (_zs : s.size ≤ 1000) (ha : a.size ≤ 1000) (hb : b.size ≤ 1000) (hc : c.size ≤ 1000) (hx : x.size ≤ 1000) (hy : y.size ≤ 1000) (hz : z.size ≤ 1000)
    (g0 : ¬ (1000 : Int) < s.size) (g1 : ¬ (1000 : Int) < (a.size : Int) + b.size + c.size) (g2 : ¬ (1000 : Int) < (x.size : Int) + y.size + z.size)
    (Cp : ∀ w, ML w → Calls Tryd.prog 11 #[.string s] w (Ret w (.tuple #[jV X Y Z, .int .i64 e1])))
    (Cq : ∀ w, ML w → Calls Tryd.prog 19 #[.string s] w (Ret w (.tuple #[jV X Y Z, .int .i64 e1])))
    (Cw : ∀ w, ML w → Calls Tryd.prog 9 #[jV a b c] w (Ret w (.tuple #[.string U, .int .i64 e2])))
    (Cv : ∀ w, ML w → Calls Tryd.prog 20 #[jV a b c] w (Ret w (.tuple #[.string U, .int .i64 e2])))
    (Cc : ∀ w, ML w → Calls Tryd.prog 13 #[jV a b c] w (Ret w (.int .i64 e3)))
    (Cd : ∀ w, ML w → Calls Tryd.prog 21 #[jV a b c] w (Ret w (.int .i64 e3)))
    (Cf : ∀ w, ML w → Calls Tryd.prog 14 #[jV a b c] w (Ret w (.bool b1)))
    (Cg : ∀ w, ML w → Calls Tryd.prog 23 #[jV a b c] w (Ret w (.bool b1)))
    (Cm : ∀ w, ML w → Calls Tryd.prog 15 #[jV a b c] w (Ret w (.bool b2)))
    (Cn : ∀ w, ML w → Calls Tryd.prog 24 #[jV a b c] w (Ret w (.bool b2)))
    (Cl : ∀ w, ML w → Calls Tryd.prog 17 #[jV a b c, jV x y z] w (Ret w (.bool b3)))
    (Ck : ∀ w, ML w → Calls Tryd.prog 25 #[jV a b c, jV x y z] w (Ret w (.bool b3))) :
    Calls Tryd.prog 7 #[.string s, jV a b c, jV x y z] w (Ret w (.bool true)) := by
  have k0 := Or2.new w a b c x y z hm
  have Hp := Lib.hid Cp
  have Hq := Lib.hid Cq
  have Hw := Lib.hid Cw
  have Hv := Lib.hid Cv
  have Hc := Lib.hid Cc
  have Hd := Lib.hid Cd
  have Hf := Lib.hid Cf
  have Hg := Lib.hid Cg
  have Hm := Lib.hid Cm
  have Hn := Lib.hid Cn
  have Hl := Lib.hid Cl
  have Hk := Lib.hid Ck
  clear Cp Cq Cw Cv Cc Cd Cf Cg Cm Cn Cl Ck
  have EQ := eql_jid
  have EG := eg_jid
  have ES := jE_self X Y Z
  have ES0 := jE_self a b ⟨#[]⟩
  obtain ⟨x0, x1, x2, x3, x4⟩ := k0.A
  obtain ⟨y0, y1, y2, y3, y4⟩ := k0.B
  go_enter Tryd.func7, Tryd.ntmps7
  go_wp2_with fail
  refine (Hp.out _ k0.m).mono ?_
  rintro e w1 ⟨rfl, hb⟩
  have k1 := k0.ret hb
  clear hb k0
  clear x0 x1 x2 x3 x4 y0 y1 y2 y3 y4
  have al := (Below.refl w1.heap.size w1).alloc (Nat.le_refl _) (.cells #[.string X, .string Y, .string Z] 23)
  have kx2 := JAt.new w1 X Y Z
  have k2 := k1.ret al
  clear al k1
  go_wp2_with fail
  refine (Hq.out _ k2.m).mono ?_
  rintro e w3 ⟨rfl, hb⟩
  have k3 := k2.ret hb
  have kx3 := kx2.ret hb
  clear hb k2 kx2
  have al := (Below.refl w3.heap.size w3).alloc (Nat.le_refl _) (.cells #[.string X, .string Y, .string Z] 23)
  have ky4 := JAt.new w3 X Y Z
  have k4 := k3.ret al
  have kx4 := kx3.ret al
  clear al k3 kx3
  obtain ⟨x0, x1, x2, x3, x4⟩ := k4.A
  obtain ⟨y0, y1, y2, y3, y4⟩ := k4.B
  go_wp2_with fail
  refine (Hw.out _ k4.m).mono ?_
  rintro e w5 ⟨rfl, hb⟩
  have k5 := k4.ret hb
  have kx5 := kx4.ret hb
  have ky5 := ky4.ret hb
  clear hb k4 kx4 ky4
  clear x0 x1 x2 x3 x4 y0 y1 y2 y3 y4
  obtain ⟨x0, x1, x2, x3, x4⟩ := k5.A
  obtain ⟨y0, y1, y2, y3, y4⟩ := k5.B
  go_wp2_with fail
  refine (Hv.out _ k5.m).mono ?_
  rintro e w6 ⟨rfl, hb⟩
  have k6 := k5.ret hb
  have kx6 := kx5.ret hb
  have ky6 := ky5.ret hb
  clear hb k5 kx5 ky5
  clear x0 x1 x2 x3 x4 y0 y1 y2 y3 y4
  go_wp2_with fail
  have k7 := k6.ret (Below.drew (Below.refl _ _))
  have kx7 := kx6.ret (Below.drew (Below.refl _ _))
  have ky7 := ky6.ret (Below.drew (Below.refl _ _))
  clear k6 kx6 ky6
  refine wp_region_held_drew (S := fun w' => w'.cell? ⟨w.heap.size, 0, none⟩ = some (.string a) ∧ w'.cell? ⟨w.heap.size, 1, none⟩ = some (.string b) ∧ w'.cell? ⟨w.heap.size, 2, none⟩ = some (.string c) ∧ w'.cell? ⟨w1.heap.size, 0, none⟩ = some (.string X) ∧ w'.cell? ⟨w1.heap.size, 1, none⟩ = some (.string Y) ∧ w'.cell? ⟨w1.heap.size, 2, none⟩ = some (.string Z) ∧ w'.cell? ⟨w3.heap.size, 0, none⟩ = some (.string X) ∧ w'.cell? ⟨w3.heap.size, 1, none⟩ = some (.string Y) ∧ w'.cell? ⟨w3.heap.size, 2, none⟩ = some (.string Z)) (by kernel_rfl) ⟨k7.A.c0, k7.A.c1, k7.A.c2, kx7.c0, kx7.c1, kx7.c2, ky7.c0, ky7.c1, ky7.c2⟩ (fun hHeld => ?_)
  refine tk_on (i := 0) (some 67) (v := ?_) (by kernel_rfl) (by kernel_rfl) (by kernel_rfl) (by kernel_rfl) (fun _ _ _ h => h) (by assumption) (fun o ho w' hSw => ?_) ?_
  rotate_left
  · (simp only [List.getElem?_toArray, List.getElem?_cons_zero, Option.some.injEq] at ho; subst ho; (try dsimp only at hSw); go_simp; try with_reducible rfl)
  simp only [Act.put, List.setIfInBounds_toArray, List.set_cons_zero, List.set_cons_succ]
  refine tk_on (i := 1) (some 68) (v := ?_) (by kernel_rfl) (by kernel_rfl) (by kernel_rfl) (by kernel_rfl) (fun _ _ _ h => h) (by assumption) (fun o ho w' hSw => ?_) ?_
  rotate_left
  · (simp only [List.getElem?_toArray, List.getElem?_cons_succ, List.getElem?_cons_zero, Option.some.injEq] at ho; subst ho; (try dsimp only at hSw); go_simp; try with_reducible rfl)
  simp only [Act.put, List.setIfInBounds_toArray, List.set_cons_zero, List.set_cons_succ]
  refine tk_on (i := 2) (some 69) (v := ?_) (by kernel_rfl) (by kernel_rfl) (by kernel_rfl) (by kernel_rfl) (fun _ _ _ h => h) (by assumption) (fun o ho w' hSw => ?_) ?_
  rotate_left
  · (simp only [List.getElem?_toArray, List.getElem?_cons_succ, List.getElem?_cons_zero, Option.some.injEq] at ho; subst ho; (try dsimp only at hSw); go_simp; try with_reducible rfl)
  simp only [Act.put, List.setIfInBounds_toArray, List.set_cons_zero, List.set_cons_succ]
  refine tk_on (i := 3) (some 70) (v := ?_) (by kernel_rfl) (by kernel_rfl) (by kernel_rfl) (by kernel_rfl) (fun _ _ _ h => h) (by assumption) (fun o ho w' hSw => ?_) ?_
  rotate_left
  · (simp only [List.getElem?_toArray, List.getElem?_cons_succ, List.getElem?_cons_zero, Option.some.injEq] at ho; subst ho; (try dsimp only at hSw); go_simp; try with_reducible rfl)
  simp only [Act.put, List.setIfInBounds_toArray, List.set_cons_zero, List.set_cons_succ]
  refine tk_on (i := 4) (some 71) (v := ?_) (by kernel_rfl) (by kernel_rfl) (by kernel_rfl) (by kernel_rfl) (fun _ _ _ h => h) (by assumption) (fun o ho w' hSw => ?_) ?_
  rotate_left
  · (simp only [List.getElem?_toArray, List.getElem?_cons_succ, List.getElem?_cons_zero, Option.some.injEq] at ho; subst ho; (try dsimp only at hSw); go_simp; try with_reducible rfl)
  simp only [Act.put, List.setIfInBounds_toArray, List.set_cons_zero, List.set_cons_succ]
  refine tk_on (i := 5) (some 72) (v := ?_) (by kernel_rfl) (by kernel_rfl) (by kernel_rfl) (by kernel_rfl) (fun _ _ _ h => h) (by assumption) (fun o ho w' hSw => ?_) ?_
  rotate_left
  · (simp only [List.getElem?_toArray, List.getElem?_cons_succ, List.getElem?_cons_zero, Option.some.injEq] at ho; subst ho; (try dsimp only at hSw); go_simp; try with_reducible rfl)
  simp only [Act.put, List.setIfInBounds_toArray, List.set_cons_zero, List.set_cons_succ]
  refine tk_on (i := 6) (some 73) (v := ?_) (by kernel_rfl) (by kernel_rfl) (by kernel_rfl) (by kernel_rfl) (fun _ _ _ h => h) (by assumption) (fun o ho w' hSw => ?_) ?_
  rotate_left
  · (simp only [List.getElem?_toArray, List.getElem?_cons_succ, List.getElem?_cons_zero, Option.some.injEq] at ho; subst ho; (try dsimp only at hSw); go_simp; try with_reducible rfl)
  simp only [Act.put, List.setIfInBounds_toArray, List.set_cons_zero, List.set_cons_succ]
  refine tk_on (i := 7) (some 74) (v := ?_) (by kernel_rfl) (by kernel_rfl) (by kernel_rfl) (by kernel_rfl) (fun _ _ _ h => h) (by assumption) (fun o ho w' hSw => ?_) ?_
  rotate_left
  · (simp only [List.getElem?_toArray, List.getElem?_cons_succ, List.getElem?_cons_zero, Option.some.injEq] at ho; subst ho; (try dsimp only at hSw); go_simp; try with_reducible rfl)
  simp only [Act.put, List.setIfInBounds_toArray, List.set_cons_zero, List.set_cons_succ]
  refine tk_on (i := 8) (some 75) (v := ?_) (by kernel_rfl) (by kernel_rfl) (by kernel_rfl) (by kernel_rfl) (fun _ _ _ h => h) (by assumption) (fun o ho w' hSw => ?_) ?_
  rotate_left
  · (simp only [List.getElem?_toArray, List.getElem?_cons_succ, List.getElem?_cons_zero, Option.some.injEq] at ho; subst ho; (try dsimp only at hSw); go_simp; try with_reducible rfl)
  simp only [Act.put, List.setIfInBounds_toArray, List.set_cons_zero, List.set_cons_succ]
  refine tk_on (i := 9) (some 76) (v := ?_) (by kernel_rfl) (by kernel_rfl) (by kernel_rfl) (by kernel_rfl) (fun _ _ _ h => h) (by assumption) (fun o ho w' hSw => ?_) ?_
  rotate_left
  · (simp only [List.getElem?_toArray, List.getElem?_cons_succ, List.getElem?_cons_zero, Option.some.injEq] at ho; subst ho; (try dsimp only at hSw); go_simp; try with_reducible rfl)
  simp only [Act.put, List.setIfInBounds_toArray, List.set_cons_zero, List.set_cons_succ]
  refine tk_on (i := 10) (some 77) (v := ?_) (by kernel_rfl) (by kernel_rfl) (by kernel_rfl) (by kernel_rfl) (fun _ _ _ h => h) (by assumption) (fun o ho w' hSw => ?_) ?_
  rotate_left
  · (simp only [List.getElem?_toArray, List.getElem?_cons_succ, List.getElem?_cons_zero, Option.some.injEq] at ho; subst ho; (try dsimp only at hSw); go_simp; try with_reducible rfl)
  simp only [Act.put, List.setIfInBounds_toArray, List.set_cons_zero, List.set_cons_succ]
  refine tk_on (i := 11) (some 78) (v := ?_) (by kernel_rfl) (by kernel_rfl) (by kernel_rfl) (by kernel_rfl) (fun _ _ _ h => h) (by assumption) (fun o ho w' hSw => ?_) ?_
  rotate_left
  · (simp only [List.getElem?_toArray, List.getElem?_cons_succ, List.getElem?_cons_zero, Option.some.injEq] at ho; subst ho; (try dsimp only at hSw); go_simp; try with_reducible rfl)
  simp only [Act.put, List.setIfInBounds_toArray, List.set_cons_zero, List.set_cons_succ]
  refine tk_on (i := 12) (some 79) (v := ?_) (by kernel_rfl) (by kernel_rfl) (by kernel_rfl) (by kernel_rfl) (fun _ _ _ h => h) (by assumption) (fun o ho w' hSw => ?_) ?_
  rotate_left
  · (simp only [List.getElem?_toArray, List.getElem?_cons_succ, List.getElem?_cons_zero, Option.some.injEq] at ho; subst ho; (try dsimp only at hSw); go_simp; try with_reducible rfl)
  simp only [Act.put, List.setIfInBounds_toArray, List.set_cons_zero, List.set_cons_succ]
  refine tk_on (i := 13) (some 80) (v := ?_) (by kernel_rfl) (by kernel_rfl) (by kernel_rfl) (by kernel_rfl) (fun _ _ _ h => h) (by assumption) (fun o ho w' hSw => ?_) ?_
  rotate_left
  · (simp only [List.getElem?_toArray, List.getElem?_cons_succ, List.getElem?_cons_zero, Option.some.injEq] at ho; subst ho; (try dsimp only at hSw); go_simp; try with_reducible rfl)
  simp only [Act.put, List.setIfInBounds_toArray, List.set_cons_zero, List.set_cons_succ]
  refine tk_on (i := 14) (some 81) (v := ?_) (by kernel_rfl) (by kernel_rfl) (by kernel_rfl) (by kernel_rfl) (fun _ _ _ h => h) (by assumption) (fun o ho w' hSw => ?_) ?_
  rotate_left
  · (simp only [List.getElem?_toArray, List.getElem?_cons_succ, List.getElem?_cons_zero, Option.some.injEq] at ho; subst ho; (try dsimp only at hSw); go_simp; try with_reducible rfl)
  simp only [Act.put, List.setIfInBounds_toArray, List.set_cons_zero, List.set_cons_succ]
  refine tk_on (i := 15) (some 82) (v := ?_) (by kernel_rfl) (by kernel_rfl) (by kernel_rfl) (by kernel_rfl) (fun _ _ _ h => h) (by assumption) (fun o ho w' hSw => ?_) ?_
  rotate_left
  · (simp only [List.getElem?_toArray, List.getElem?_cons_succ, List.getElem?_cons_zero, Option.some.injEq] at ho; subst ho; (try dsimp only at hSw); go_simp; try with_reducible rfl)
  simp only [Act.put, List.setIfInBounds_toArray, List.set_cons_zero, List.set_cons_succ]
  refine tk_on (i := 16) (some 83) (v := ?_) (by kernel_rfl) (by kernel_rfl) (by kernel_rfl) (by kernel_rfl) (fun _ _ _ h => h) (by assumption) (fun o ho w' hSw => ?_) ?_
  rotate_left
  · (simp only [List.getElem?_toArray, List.getElem?_cons_succ, List.getElem?_cons_zero, Option.some.injEq] at ho; subst ho; (try dsimp only at hSw); go_simp; try with_reducible rfl)
  simp only [Act.put, List.setIfInBounds_toArray, List.set_cons_zero, List.set_cons_succ]
  refine tk_on (i := 17) (some 84) (v := ?_) (by kernel_rfl) (by kernel_rfl) (by kernel_rfl) (by kernel_rfl) (fun _ _ _ h => h) (by assumption) (fun o ho w' hSw => ?_) ?_
  rotate_left
  · (simp only [List.getElem?_toArray, List.getElem?_cons_succ, List.getElem?_cons_zero, Option.some.injEq] at ho; subst ho; (try dsimp only at hSw); go_simp; try with_reducible rfl)
  simp only [Act.put, List.setIfInBounds_toArray, List.set_cons_zero, List.set_cons_succ]
  refine tk_on (i := 18) (some 85) (v := ?_) (by kernel_rfl) (by kernel_rfl) (by kernel_rfl) (by kernel_rfl) (fun _ _ _ h => h) (by assumption) (fun o ho w' hSw => ?_) ?_
  rotate_left
  · (simp only [List.getElem?_toArray, List.getElem?_cons_succ, List.getElem?_cons_zero, Option.some.injEq] at ho; subst ho; (try dsimp only at hSw); go_simp; try with_reducible rfl)
  simp only [Act.put, List.setIfInBounds_toArray, List.set_cons_zero, List.set_cons_succ]
  refine tk_on (i := 19) (some 86) (v := ?_) (by kernel_rfl) (by kernel_rfl) (by kernel_rfl) (by kernel_rfl) (fun _ _ _ h => h) (by assumption) (fun o ho w' hSw => ?_) ?_
  rotate_left
  · (simp only [List.getElem?_toArray, List.getElem?_cons_succ, List.getElem?_cons_zero, Option.some.injEq] at ho; subst ho; (try dsimp only at hSw); go_simp; try with_reducible rfl)
  simp only [Act.put, List.setIfInBounds_toArray, List.set_cons_zero, List.set_cons_succ]
  refine tk_on (i := 21) (some 88) (v := ?_) (by kernel_rfl) (by kernel_rfl) (by kernel_rfl) (by kernel_rfl) (fun _ _ _ h => h) (by assumption) (fun o ho w' hSw => ?_) ?_
  rotate_left
  · (simp only [List.getElem?_toArray, List.getElem?_cons_succ, List.getElem?_cons_zero, Option.some.injEq] at ho; subst ho; (try dsimp only at hSw); go_simp; try with_reducible rfl)
  simp only [Act.put, List.setIfInBounds_toArray, List.set_cons_zero, List.set_cons_succ]
  refine tk_call (i := 20) (by kernel_rfl) (by kernel_rfl) (fun o ho K hK => ?_)
  simp only [List.getElem?_toArray, List.getElem?_cons_succ, List.getElem?_cons_zero, Option.some.injEq] at ho
  subst ho
  go_simp
  refine (Hc.out _ k7.m).mono ?_
  rintro e w8 ⟨rfl, hb⟩
  have k8 := k7.ret hb
  have kx8 := kx7.ret hb
  have ky8 := ky7.ret hb
  clear hb k7 kx7 ky7
  go_simp
  clear hHeld
  refine hK.out _ _ ⟨k8.A.c0, k8.A.c1, k8.A.c2, kx8.c0, kx8.c1, kx8.c2, ky8.c0, ky8.c1, ky8.c2⟩ (fun hHeld => ?_)
  clear hK K
  refine tk_call (i := 22) (by kernel_rfl) (by kernel_rfl) (fun o ho K hK => ?_)
  simp only [List.getElem?_toArray, List.getElem?_cons_succ, List.getElem?_cons_zero, Option.some.injEq] at ho
  subst ho
  go_simp
  refine (Hd.out _ k8.m).mono ?_
  rintro e w9 ⟨rfl, hb⟩
  have k9 := k8.ret hb
  have kx9 := kx8.ret hb
  have ky9 := ky8.ret hb
  clear hb k8 kx8 ky8
  go_simp
  clear hHeld
  refine hK.out _ _ ⟨k9.A.c0, k9.A.c1, k9.A.c2, kx9.c0, kx9.c1, kx9.c2, ky9.c0, ky9.c1, ky9.c2⟩ (fun hHeld => ?_)
  clear hK K
  refine tk_on (i := 23) (some 90) (v := ?_) (by kernel_rfl) (by kernel_rfl) (by kernel_rfl) (by kernel_rfl) (fun _ _ _ h => h) (by assumption) (fun o ho w' hSw => ?_) ?_
  rotate_left
  · (simp only [List.getElem?_toArray, List.getElem?_cons_succ, List.getElem?_cons_zero, Option.some.injEq] at ho; subst ho; (try dsimp only at hSw); go_simp; try with_reducible rfl)
  simp only [Act.put, List.setIfInBounds_toArray, List.set_cons_zero, List.set_cons_succ]
  refine tk_on (i := 24) (some 91) (v := ?_) (by kernel_rfl) (by kernel_rfl) (by kernel_rfl) (by kernel_rfl) (fun _ _ _ h => h) (by assumption) (fun o ho w' hSw => ?_) ?_
  rotate_left
  · (simp only [List.getElem?_toArray, List.getElem?_cons_succ, List.getElem?_cons_zero, Option.some.injEq] at ho; subst ho; (try dsimp only at hSw); go_simp; try with_reducible rfl)
  simp only [Act.put, List.setIfInBounds_toArray, List.set_cons_zero, List.set_cons_succ]
  refine tk_on (i := 25) (some 15) (v := ?_) (by kernel_rfl) (by kernel_rfl) (by kernel_rfl) (by kernel_rfl) (fun _ _ _ h => h) (by assumption) (fun o ho w' hSw => ?_) ?_
  rotate_left
  · (simp only [List.getElem?_toArray, List.getElem?_cons_succ, List.getElem?_cons_zero, Option.some.injEq] at ho; subst ho; (try dsimp only at hSw); go_simp; try with_reducible rfl)
  simp only [Act.put, List.setIfInBounds_toArray, List.set_cons_zero, List.set_cons_succ]
  refine wpAnyH_done (by kernel_rfl) ?_ _
  clear kx9 ky9
  go_wp2_with fail
  have k10 := k9.ret (Below.drew (Below.refl _ _))
  clear k9
  refine wp_region_held_drew (S := fun w' => w'.cell? ⟨w.heap.size, 0, none⟩ = some (.string a) ∧ w'.cell? ⟨w.heap.size, 1, none⟩ = some (.string b) ∧ w'.cell? ⟨w.heap.size, 2, none⟩ = some (.string c) ∧ w'.cell? ⟨w.heap.size + 1, 0, none⟩ = some (.string x) ∧ w'.cell? ⟨w.heap.size + 1, 1, none⟩ = some (.string y) ∧ w'.cell? ⟨w.heap.size + 1, 2, none⟩ = some (.string z)) (by kernel_rfl) ⟨k10.A.c0, k10.A.c1, k10.A.c2, k10.B.c0, k10.B.c1, k10.B.c2⟩ (fun hHeld => ?_)
  refine tk_on (i := 0) (some 92) (v := ?_) (by kernel_rfl) (by kernel_rfl) (by kernel_rfl) (by kernel_rfl) (fun _ _ _ h => h) (by assumption) (fun o ho w' hSw => ?_) ?_
  rotate_left
  · (simp only [List.getElem?_toArray, List.getElem?_cons_zero, Option.some.injEq] at ho; subst ho; (try dsimp only at hSw); go_simp; try with_reducible rfl)
  simp only [Act.put, List.setIfInBounds_toArray, List.set_cons_zero, List.set_cons_succ]
  refine tk_on (i := 1) (some 93) (v := ?_) (by kernel_rfl) (by kernel_rfl) (by kernel_rfl) (by kernel_rfl) (fun _ _ _ h => h) (by assumption) (fun o ho w' hSw => ?_) ?_
  rotate_left
  · (simp only [List.getElem?_toArray, List.getElem?_cons_succ, List.getElem?_cons_zero, Option.some.injEq] at ho; subst ho; (try dsimp only at hSw); go_simp; try with_reducible rfl)
  simp only [Act.put, List.setIfInBounds_toArray, List.set_cons_zero, List.set_cons_succ]
  refine tk_on (i := 2) (some 94) (v := ?_) (by kernel_rfl) (by kernel_rfl) (by kernel_rfl) (by kernel_rfl) (fun _ _ _ h => h) (by assumption) (fun o ho w' hSw => ?_) ?_
  rotate_left
  · (simp only [List.getElem?_toArray, List.getElem?_cons_succ, List.getElem?_cons_zero, Option.some.injEq] at ho; subst ho; (try dsimp only at hSw); go_simp; try with_reducible rfl)
  simp only [Act.put, List.setIfInBounds_toArray, List.set_cons_zero, List.set_cons_succ]
  refine tk_on (i := 4) (some 96) (v := ?_) (by kernel_rfl) (by kernel_rfl) (by kernel_rfl) (by kernel_rfl) (fun _ _ _ h => h) (by assumption) (fun o ho w' hSw => ?_) ?_
  rotate_left
  · (simp only [List.getElem?_toArray, List.getElem?_cons_succ, List.getElem?_cons_zero, Option.some.injEq] at ho; subst ho; (try dsimp only at hSw); go_simp; try with_reducible rfl)
  simp only [Act.put, List.setIfInBounds_toArray, List.set_cons_zero, List.set_cons_succ]
  refine tk_call (i := 3) (by kernel_rfl) (by kernel_rfl) (fun o ho K hK => ?_)
  simp only [List.getElem?_toArray, List.getElem?_cons_succ, List.getElem?_cons_zero, Option.some.injEq] at ho
  subst ho
  go_simp
  refine (jd_Bare a b c _).mono ?_
  rintro e w11 ⟨rfl, hb⟩
  have k11 := k10.ret hb
  clear hb k10
  go_simp
  clear hHeld
  refine hK.out _ _ ⟨k11.A.c0, k11.A.c1, k11.A.c2, k11.B.c0, k11.B.c1, k11.B.c2⟩ (fun hHeld => ?_)
  clear hK K
  refine tk_call (i := 5) (by kernel_rfl) (by kernel_rfl) (fun o ho K hK => ?_)
  simp only [List.getElem?_toArray, List.getElem?_cons_succ, List.getElem?_cons_zero, Option.some.injEq] at ho
  subst ho
  go_simp
  refine (r19_Bare a b c _).mono ?_
  rintro e w12 ⟨rfl, hb⟩
  have k12 := k11.ret hb
  clear hb k11
  go_simp
  clear hHeld
  refine hK.out _ _ ⟨k12.A.c0, k12.A.c1, k12.A.c2, k12.B.c0, k12.B.c1, k12.B.c2⟩ (fun hHeld => ?_)
  clear hK K
  refine tk_on (i := 6) (some 98) (v := ?_) (by kernel_rfl) (by kernel_rfl) (by kernel_rfl) (by kernel_rfl) (fun _ _ _ h => h) (by assumption) (fun o ho w' hSw => ?_) ?_
  rotate_left
  · (simp only [List.getElem?_toArray, List.getElem?_cons_succ, List.getElem?_cons_zero, Option.some.injEq] at ho; subst ho; (try dsimp only at hSw); go_simp; try with_reducible rfl)
  simp only [Act.put, List.setIfInBounds_toArray, List.set_cons_zero, List.set_cons_succ]
  refine tk_on (i := 7) (some 99) (v := ?_) (by kernel_rfl) (by kernel_rfl) (by kernel_rfl) (by kernel_rfl) (fun _ _ _ h => h) (by assumption) (fun o ho w' hSw => ?_) ?_
  rotate_left
  · (simp only [List.getElem?_toArray, List.getElem?_cons_succ, List.getElem?_cons_zero, Option.some.injEq] at ho; subst ho; (try dsimp only at hSw); go_simp; try with_reducible rfl)
  simp only [Act.put, List.setIfInBounds_toArray, List.set_cons_zero, List.set_cons_succ]
  refine tk_on (i := 8) (some 100) (v := ?_) (by kernel_rfl) (by kernel_rfl) (by kernel_rfl) (by kernel_rfl) (fun _ _ _ h => h) (by assumption) (fun o ho w' hSw => ?_) ?_
  rotate_left
  · (simp only [List.getElem?_toArray, List.getElem?_cons_succ, List.getElem?_cons_zero, Option.some.injEq] at ho; subst ho; (try dsimp only at hSw); go_simp; try with_reducible rfl)
  simp only [Act.put, List.setIfInBounds_toArray, List.set_cons_zero, List.set_cons_succ]
  refine tk_on (i := 9) (some 101) (v := ?_) (by kernel_rfl) (by kernel_rfl) (by kernel_rfl) (by kernel_rfl) (fun _ _ _ h => h) (by assumption) (fun o ho w' hSw => ?_) ?_
  rotate_left
  · (simp only [List.getElem?_toArray, List.getElem?_cons_succ, List.getElem?_cons_zero, Option.some.injEq] at ho; subst ho; (try dsimp only at hSw); go_simp; try with_reducible rfl)
  simp only [Act.put, List.setIfInBounds_toArray, List.set_cons_zero, List.set_cons_succ]
  refine tk_on (i := 11) (some 103) (v := ?_) (by kernel_rfl) (by kernel_rfl) (by kernel_rfl) (by kernel_rfl) (fun _ _ _ h => h) (by assumption) (fun o ho w' hSw => ?_) ?_
  rotate_left
  · (simp only [List.getElem?_toArray, List.getElem?_cons_succ, List.getElem?_cons_zero, Option.some.injEq] at ho; subst ho; (try dsimp only at hSw); go_simp; try with_reducible rfl)
  simp only [Act.put, List.setIfInBounds_toArray, List.set_cons_zero, List.set_cons_succ]
  refine tk_call (i := 10) (by kernel_rfl) (by kernel_rfl) (fun o ho K hK => ?_)
  simp only [List.getElem?_toArray, List.getElem?_cons_succ, List.getElem?_cons_zero, Option.some.injEq] at ho
  subst ho
  go_simp
  refine (Hf.out _ k12.m).mono ?_
  rintro e w13 ⟨rfl, hb⟩
  have k13 := k12.ret hb
  clear hb k12
  go_simp
  clear hHeld
  refine hK.out _ _ ⟨k13.A.c0, k13.A.c1, k13.A.c2, k13.B.c0, k13.B.c1, k13.B.c2⟩ (fun hHeld => ?_)
  clear hK K
  refine tk_call (i := 12) (by kernel_rfl) (by kernel_rfl) (fun o ho K hK => ?_)
  simp only [List.getElem?_toArray, List.getElem?_cons_succ, List.getElem?_cons_zero, Option.some.injEq] at ho
  subst ho
  go_simp
  refine (Hg.out _ k13.m).mono ?_
  rintro e w14 ⟨rfl, hb⟩
  have k14 := k13.ret hb
  clear hb k13
  go_simp
  clear hHeld
  refine hK.out _ _ ⟨k14.A.c0, k14.A.c1, k14.A.c2, k14.B.c0, k14.B.c1, k14.B.c2⟩ (fun hHeld => ?_)
  clear hK K
  refine tk_on (i := 13) (some 105) (v := ?_) (by kernel_rfl) (by kernel_rfl) (by kernel_rfl) (by kernel_rfl) (fun _ _ _ h => h) (by assumption) (fun o ho w' hSw => ?_) ?_
  rotate_left
  · (simp only [List.getElem?_toArray, List.getElem?_cons_succ, List.getElem?_cons_zero, Option.some.injEq] at ho; subst ho; (try dsimp only at hSw); go_simp; try with_reducible rfl)
  simp only [Act.put, List.setIfInBounds_toArray, List.set_cons_zero, List.set_cons_succ]
  refine tk_on (i := 14) (some 106) (v := ?_) (by kernel_rfl) (by kernel_rfl) (by kernel_rfl) (by kernel_rfl) (fun _ _ _ h => h) (by assumption) (fun o ho w' hSw => ?_) ?_
  rotate_left
  · (simp only [List.getElem?_toArray, List.getElem?_cons_succ, List.getElem?_cons_zero, Option.some.injEq] at ho; subst ho; (try dsimp only at hSw); go_simp; try with_reducible rfl)
  simp only [Act.put, List.setIfInBounds_toArray, List.set_cons_zero, List.set_cons_succ]
  refine tk_on (i := 15) (some 107) (v := ?_) (by kernel_rfl) (by kernel_rfl) (by kernel_rfl) (by kernel_rfl) (fun _ _ _ h => h) (by assumption) (fun o ho w' hSw => ?_) ?_
  rotate_left
  · (simp only [List.getElem?_toArray, List.getElem?_cons_succ, List.getElem?_cons_zero, Option.some.injEq] at ho; subst ho; (try dsimp only at hSw); go_simp; try with_reducible rfl)
  simp only [Act.put, List.setIfInBounds_toArray, List.set_cons_zero, List.set_cons_succ]
  refine tk_on (i := 16) (some 108) (v := ?_) (by kernel_rfl) (by kernel_rfl) (by kernel_rfl) (by kernel_rfl) (fun _ _ _ h => h) (by assumption) (fun o ho w' hSw => ?_) ?_
  rotate_left
  · (simp only [List.getElem?_toArray, List.getElem?_cons_succ, List.getElem?_cons_zero, Option.some.injEq] at ho; subst ho; (try dsimp only at hSw); go_simp; try with_reducible rfl)
  simp only [Act.put, List.setIfInBounds_toArray, List.set_cons_zero, List.set_cons_succ]
  refine tk_on (i := 18) (some 110) (v := ?_) (by kernel_rfl) (by kernel_rfl) (by kernel_rfl) (by kernel_rfl) (fun _ _ _ h => h) (by assumption) (fun o ho w' hSw => ?_) ?_
  rotate_left
  · (simp only [List.getElem?_toArray, List.getElem?_cons_succ, List.getElem?_cons_zero, Option.some.injEq] at ho; subst ho; (try dsimp only at hSw); go_simp; try with_reducible rfl)
  simp only [Act.put, List.setIfInBounds_toArray, List.set_cons_zero, List.set_cons_succ]
  refine tk_call (i := 17) (by kernel_rfl) (by kernel_rfl) (fun o ho K hK => ?_)
  simp only [List.getElem?_toArray, List.getElem?_cons_succ, List.getElem?_cons_zero, Option.some.injEq] at ho
  subst ho
  go_simp
  refine (Hm.out _ k14.m).mono ?_
  rintro e w15 ⟨rfl, hb⟩
  have k15 := k14.ret hb
  clear hb k14
  go_simp
  clear hHeld
  refine hK.out _ _ ⟨k15.A.c0, k15.A.c1, k15.A.c2, k15.B.c0, k15.B.c1, k15.B.c2⟩ (fun hHeld => ?_)
  clear hK K
  refine tk_call (i := 19) (by kernel_rfl) (by kernel_rfl) (fun o ho K hK => ?_)
  simp only [List.getElem?_toArray, List.getElem?_cons_succ, List.getElem?_cons_zero, Option.some.injEq] at ho
  subst ho
  go_simp
  refine (Hn.out _ k15.m).mono ?_
  rintro e w16 ⟨rfl, hb⟩
  have k16 := k15.ret hb
  clear hb k15
  go_simp
  clear hHeld
  refine hK.out _ _ ⟨k16.A.c0, k16.A.c1, k16.A.c2, k16.B.c0, k16.B.c1, k16.B.c2⟩ (fun hHeld => ?_)
  clear hK K
  refine tk_on (i := 20) (some 112) (v := ?_) (by kernel_rfl) (by kernel_rfl) (by kernel_rfl) (by kernel_rfl) (fun _ _ _ h => h) (by assumption) (fun o ho w' hSw => ?_) ?_
  rotate_left
  · (simp only [List.getElem?_toArray, List.getElem?_cons_succ, List.getElem?_cons_zero, Option.some.injEq] at ho; subst ho; (try dsimp only at hSw); go_simp; try with_reducible rfl)
  simp only [Act.put, List.setIfInBounds_toArray, List.set_cons_zero, List.set_cons_succ]
  refine tk_on (i := 21) (some 113) (v := ?_) (by kernel_rfl) (by kernel_rfl) (by kernel_rfl) (by kernel_rfl) (fun _ _ _ h => h) (by assumption) (fun o ho w' hSw => ?_) ?_
  rotate_left
  · (simp only [List.getElem?_toArray, List.getElem?_cons_succ, List.getElem?_cons_zero, Option.some.injEq] at ho; subst ho; (try dsimp only at hSw); go_simp; try with_reducible rfl)
  simp only [Act.put, List.setIfInBounds_toArray, List.set_cons_zero, List.set_cons_succ]
  refine tk_on (i := 22) (some 114) (v := ?_) (by kernel_rfl) (by kernel_rfl) (by kernel_rfl) (by kernel_rfl) (fun _ _ _ h => h) (by assumption) (fun o ho w' hSw => ?_) ?_
  rotate_left
  · (simp only [List.getElem?_toArray, List.getElem?_cons_succ, List.getElem?_cons_zero, Option.some.injEq] at ho; subst ho; (try dsimp only at hSw); go_simp; try with_reducible rfl)
  simp only [Act.put, List.setIfInBounds_toArray, List.set_cons_zero, List.set_cons_succ]
  refine tk_on (i := 23) (some 115) (v := ?_) (by kernel_rfl) (by kernel_rfl) (by kernel_rfl) (by kernel_rfl) (fun _ _ _ h => h) (by assumption) (fun o ho w' hSw => ?_) ?_
  rotate_left
  · (simp only [List.getElem?_toArray, List.getElem?_cons_succ, List.getElem?_cons_zero, Option.some.injEq] at ho; subst ho; (try dsimp only at hSw); go_simp; try with_reducible rfl)
  simp only [Act.put, List.setIfInBounds_toArray, List.set_cons_zero, List.set_cons_succ]
  refine tk_on (i := 24) (some 116) (v := ?_) (by kernel_rfl) (by kernel_rfl) (by kernel_rfl) (by kernel_rfl) (fun _ _ _ h => h) (by assumption) (fun o ho w' hSw => ?_) ?_
  rotate_left
  · (simp only [List.getElem?_toArray, List.getElem?_cons_succ, List.getElem?_cons_zero, Option.some.injEq] at ho; subst ho; (try dsimp only at hSw); go_simp; try with_reducible rfl)
  simp only [Act.put, List.setIfInBounds_toArray, List.set_cons_zero, List.set_cons_succ]
  refine tk_on (i := 26) (some 118) (v := ?_) (by kernel_rfl) (by kernel_rfl) (by kernel_rfl) (by kernel_rfl) (fun _ _ _ h => h) (by assumption) (fun o ho w' hSw => ?_) ?_
  rotate_left
  · (simp only [List.getElem?_toArray, List.getElem?_cons_succ, List.getElem?_cons_zero, Option.some.injEq] at ho; subst ho; (try dsimp only at hSw); go_simp; try with_reducible rfl)
  simp only [Act.put, List.setIfInBounds_toArray, List.set_cons_zero, List.set_cons_succ]
  refine tk_on (i := 27) (some 119) (v := ?_) (by kernel_rfl) (by kernel_rfl) (by kernel_rfl) (by kernel_rfl) (fun _ _ _ h => h) (by assumption) (fun o ho w' hSw => ?_) ?_
  rotate_left
  · (simp only [List.getElem?_toArray, List.getElem?_cons_succ, List.getElem?_cons_zero, Option.some.injEq] at ho; subst ho; (try dsimp only at hSw); go_simp; try with_reducible rfl)
  simp only [Act.put, List.setIfInBounds_toArray, List.set_cons_zero, List.set_cons_succ]
  refine tk_call (i := 25) (by kernel_rfl) (by kernel_rfl) (fun o ho K hK => ?_)
  simp only [List.getElem?_toArray, List.getElem?_cons_succ, List.getElem?_cons_zero, Option.some.injEq] at ho
  subst ho
  go_simp
  refine (Hl.out _ k16.m).mono ?_
  rintro e w17 ⟨rfl, hb⟩
  have k17 := k16.ret hb
  clear hb k16
  go_simp
  clear hHeld
  refine hK.out _ _ ⟨k17.A.c0, k17.A.c1, k17.A.c2, k17.B.c0, k17.B.c1, k17.B.c2⟩ (fun hHeld => ?_)
  clear hK K
  refine tk_call (i := 28) (by kernel_rfl) (by kernel_rfl) (fun o ho K hK => ?_)
  simp only [List.getElem?_toArray, List.getElem?_cons_succ, List.getElem?_cons_zero, Option.some.injEq] at ho
  subst ho
  go_simp
  refine (Hk.out _ k17.m).mono ?_
  rintro e w18 ⟨rfl, hb⟩
  have k18 := k17.ret hb
  clear hb k17
  go_simp
  clear hHeld
  refine hK.out _ _ ⟨k18.A.c0, k18.A.c1, k18.A.c2, k18.B.c0, k18.B.c1, k18.B.c2⟩ (fun hHeld => ?_)
  clear hK K
  refine tk_on (i := 29) (some 121) (v := ?_) (by kernel_rfl) (by kernel_rfl) (by kernel_rfl) (by kernel_rfl) (fun _ _ _ h => h) (by assumption) (fun o ho w' hSw => ?_) ?_
  rotate_left
  · (simp only [List.getElem?_toArray, List.getElem?_cons_succ, List.getElem?_cons_zero, Option.some.injEq] at ho; subst ho; (try dsimp only at hSw); go_simp; try with_reducible rfl)
  simp only [Act.put, List.setIfInBounds_toArray, List.set_cons_zero, List.set_cons_succ]
  refine tk_on (i := 30) (some 122) (v := ?_) (by kernel_rfl) (by kernel_rfl) (by kernel_rfl) (by kernel_rfl) (fun _ _ _ h => h) (by assumption) (fun o ho w' hSw => ?_) ?_
  rotate_left
  · (simp only [List.getElem?_toArray, List.getElem?_cons_succ, List.getElem?_cons_zero, Option.some.injEq] at ho; subst ho; (try dsimp only at hSw); go_simp; try with_reducible rfl)
  simp only [Act.put, List.setIfInBounds_toArray, List.set_cons_zero, List.set_cons_succ]
  refine tk_on (i := 31) (some 6) (v := ?_) (by kernel_rfl) (by kernel_rfl) (by kernel_rfl) (by kernel_rfl) (fun _ _ _ h => h) (by assumption) (fun o ho w' hSw => ?_) ?_
  rotate_left
  · (simp only [List.getElem?_toArray, List.getElem?_cons_succ, List.getElem?_cons_zero, Option.some.injEq] at ho; subst ho; (try dsimp only at hSw); go_simp; try with_reducible rfl)
  simp only [Act.put, List.setIfInBounds_toArray, List.set_cons_zero, List.set_cons_succ]
  refine wpAnyH_done (by kernel_rfl) ?_ _
  go_wp2_with fail
  go_ret
  exact ⟨rfl, k18.q⟩
theorem tells19 (s a b c x y z : ByteArray) (w : World) (zs : s.size ≤ 9223372036854775807) (ha : a.size ≤ 140737488351232) (hb : b.size ≤ 140737488351232) (hc : c.size ≤ 140737488351232) (hx : x.size ≤ 140737488351232) (hy : y.size ≤ 140737488351232) (hz : z.size ≤ 140737488351232) (hm : ML w) :
    Calls Tryd.prog 7 #[.string s, jV a b c, jV x y z] w (Ret w (.bool true)) := by
  by_cases hbig : 1000 < s.size ∨ 1000 < a.size + b.size + c.size ∨ 1000 < x.size + y.size + z.size
  · exact tells19_big s a b c x y z w zs ha hb hc hx hy hz hm hbig
  · have z0 : s.size ≤ 1000 := by omega
    have za : a.size ≤ 1000 := by omega
    have zb : b.size ≤ 1000 := by omega
    have zc : c.size ≤ 1000 := by omega
    have zx : x.size ≤ 1000 := by omega
    have zy : y.size ≤ 1000 := by omega
    have zz : z.size ≤ 1000 := by omega
    have P1 := fun w m => jd_Parse s w (by omega) m
    have P2 := fun w (_ : ML w) => r19_Parse s w (by omega)
    have hp : ∃ (X Y Z : ByteArray) (e : Int), prsV s.data.toList = .tuple #[jV X Y Z, .int .i64 e] := by
      unfold prsV
      split
      · exact ⟨_, _, _, _, rfl⟩
      · exact ⟨_, _, _, _, rfl⟩
    obtain ⟨X, Y, Z, e, he⟩ := hp
    rw [he] at P1 P2
    exact tells19_small s a b c x y z X Y Z _ _ _ _ _ _ _ w hm z0 za zb zc zx zy zz (by omega) (by omega) (by omega) P1 P2
      (fun w m => jd_Write a b c w (by omega) (by omega) (by omega) m) (fun w _ => r19_Write a b c w (by omega) (by omega) (by omega))
      (fun w m => jd_Check a b c w (by omega) (by omega) (by omega) m) (fun w _ => r19_Check a b c w (by omega) (by omega) (by omega))
      (fun w m => jd_Full a b c w (by omega) (by omega) (by omega) m) (fun w _ => r19_Full a b c w (by omega) (by omega) (by omega))
      (fun w m => jd_Mine a b c w (by omega) (by omega) (by omega) m) (fun w _ => r19_Mine a b c w (by omega) (by omega) (by omega))
      (fun w _ => jd_Less a b c x y z w) (fun w _ => r19_Less a b c x y z w)
end Go.Proofs.YtfonkblbgadhmaaDoor
