/- HaA, HaB, HaC: put together by mergetpl.py. -/
import Derived.Test.YtjgeiieiinmdnaaGreatDoorLb
import Derived.Test.YtjgeiieiinmdnaaGreatDoorLa
import Derived.Test.YtjgeiieiinmdnaaGreatDoorRoSx
import Derived.Test.YtjgeiieiinmdnaaGreatDoorKk
namespace Go.Proofs.YtjgeiieiinmdnaaGreatDoor
open Go.RowKit Go.Lib

set_option maxHeartbeats 4000000 in
theorem ha_order_v (a b X Y Z X' Y' Z' : ByteArray) (u v : Bool) (p q : Int) (w : World) (hm : ML w)
  (CA : ∀ w : World, ML w → Calls Tryz.prog 126 #[.string a] w (Ret w (.tuple #[jV X Y Z, .int .i64 p]))) (CB : ∀ w : World, ML w → Calls Tryz.prog 126 #[.string b] w (Ret w (.tuple #[jV X' Y' Z', .int .i64 q])))
  (CL : ∀ w : World, Calls Tryz.prog 165 #[jV X Y Z, jV X' Y' Z'] w (Ret w (.bool u))) (CM : ∀ w : World, Calls Tryz.prog 165 #[jV X' Y' Z', jV X Y Z] w (Ret w (.bool v))) :
  Calls Tryz.prog 119 #[.string a, .string b] w (Ret w (.int .i64 (if u then -1 else if v then 1 else 0))) := by
 have HA := Lib.hid CA
 have HB := Lib.hid CB
 have HL := Lib.hid CL
 have HM := Lib.hid CM
 have q0 := Below.refl w.heap.size w
 clear CA CB CL CM
 cases u with
 | true =>
  go_enter Tryz.func119, Tryz.ntmps119
  go_wp2_with fail
  refine (HA.out _ hm).mono ?_
  rintro e w1 ⟨rfl, hb⟩
  have q1 := q0.trans (hb.mono q0.size)
  have m1 := hm.ret hb
  have al := (Below.refl w1.heap.size w1).alloc (Nat.le_refl _) (.cells #[.string X, .string Y, .string Z] 117)
  have x2 := JAt.new w1 X Y Z
  have q2 := q1.trans (al.mono q1.size)
  have m2 := m1.ret al
  clear hb al q1 m1
  go_wp2_with fail
  refine (HB.out _ m2).mono ?_
  rintro e w3 ⟨rfl, hb⟩
  have x3 := x2.ret hb
  have q3 := q2.trans (hb.mono q2.size)
  have al := (Below.refl w3.heap.size w3).alloc (Nat.le_refl _) (.cells #[.string X', .string Y', .string Z'] 117)
  have y4 := JAt.new w3 X' Y' Z'
  have x4 := x3.ret al
  have q4 := q3.trans (al.mono q3.size)
  clear hb al q2 m2 x2 x3 q3
  obtain ⟨x0, a1, a2, a3, a4⟩ := id x4
  obtain ⟨y0, b1, b2, b3, b4⟩ := id y4
  go_wp2_with fail
  refine (HL.out _).mono ?_
  rintro e w5 ⟨rfl, hb⟩
  have x5 := x4.ret hb
  have y5 := y4.ret hb
  have q5 := q4.trans (hb.mono q4.size)
  clear hb q4 x0 a1 a2 a3 a4 y0 b1 b2 b3 b4 x4 y4
  go_wp2_with fail
  go_ret
  exact ⟨rfl, q5⟩
 | false =>
  cases v with
  | true =>
   go_enter Tryz.func119, Tryz.ntmps119
   go_wp2_with fail
   refine (HA.out _ hm).mono ?_
   rintro e w1 ⟨rfl, hb⟩
   have q1 := q0.trans (hb.mono q0.size)
   have m1 := hm.ret hb
   have al := (Below.refl w1.heap.size w1).alloc (Nat.le_refl _) (.cells #[.string X, .string Y, .string Z] 117)
   have x2 := JAt.new w1 X Y Z
   have q2 := q1.trans (al.mono q1.size)
   have m2 := m1.ret al
   clear hb al q1 m1
   go_wp2_with fail
   refine (HB.out _ m2).mono ?_
   rintro e w3 ⟨rfl, hb⟩
   have x3 := x2.ret hb
   have q3 := q2.trans (hb.mono q2.size)
   have al := (Below.refl w3.heap.size w3).alloc (Nat.le_refl _) (.cells #[.string X', .string Y', .string Z'] 117)
   have y4 := JAt.new w3 X' Y' Z'
   have x4 := x3.ret al
   have q4 := q3.trans (al.mono q3.size)
   clear hb al q2 m2 x2 x3 q3
   obtain ⟨x0, a1, a2, a3, a4⟩ := id x4
   obtain ⟨y0, b1, b2, b3, b4⟩ := id y4
   go_wp2_with fail
   refine (HL.out _).mono ?_
   rintro e w5 ⟨rfl, hb⟩
   have x5 := x4.ret hb
   have y5 := y4.ret hb
   have q5 := q4.trans (hb.mono q4.size)
   clear hb q4 x0 a1 a2 a3 a4 y0 b1 b2 b3 b4 x4 y4
   obtain ⟨x0, a1, a2, a3, a4⟩ := x5
   obtain ⟨y0, b1, b2, b3, b4⟩ := y5
   go_wp2_with fail
   refine (HM.out _).mono ?_
   rintro e w6 ⟨rfl, hb⟩
   have q6 := q5.trans (hb.mono q5.size)
   clear hb x0 a1 a2 a3 a4 y0 b1 b2 b3 b4
   go_wp2_with fail
   go_ret
   exact ⟨rfl, q6⟩
  | false =>
   go_enter Tryz.func119, Tryz.ntmps119
   go_wp2_with fail
   refine (HA.out _ hm).mono ?_
   rintro e w1 ⟨rfl, hb⟩
   have q1 := q0.trans (hb.mono q0.size)
   have m1 := hm.ret hb
   have al := (Below.refl w1.heap.size w1).alloc (Nat.le_refl _) (.cells #[.string X, .string Y, .string Z] 117)
   have x2 := JAt.new w1 X Y Z
   have q2 := q1.trans (al.mono q1.size)
   have m2 := m1.ret al
   clear hb al q1 m1
   go_wp2_with fail
   refine (HB.out _ m2).mono ?_
   rintro e w3 ⟨rfl, hb⟩
   have x3 := x2.ret hb
   have q3 := q2.trans (hb.mono q2.size)
   have al := (Below.refl w3.heap.size w3).alloc (Nat.le_refl _) (.cells #[.string X', .string Y', .string Z'] 117)
   have y4 := JAt.new w3 X' Y' Z'
   have x4 := x3.ret al
   have q4 := q3.trans (al.mono q3.size)
   clear hb al q2 m2 x2 x3 q3
   obtain ⟨x0, a1, a2, a3, a4⟩ := id x4
   obtain ⟨y0, b1, b2, b3, b4⟩ := id y4
   go_wp2_with fail
   refine (HL.out _).mono ?_
   rintro e w5 ⟨rfl, hb⟩
   have x5 := x4.ret hb
   have y5 := y4.ret hb
   have q5 := q4.trans (hb.mono q4.size)
   clear hb q4 x0 a1 a2 a3 a4 y0 b1 b2 b3 b4 x4 y4
   obtain ⟨x0, a1, a2, a3, a4⟩ := x5
   obtain ⟨y0, b1, b2, b3, b4⟩ := y5
   go_wp2_with fail
   refine (HM.out _).mono ?_
   rintro e w6 ⟨rfl, hb⟩
   have q6 := q5.trans (hb.mono q5.size)
   clear hb x0 a1 a2 a3 a4 y0 b1 b2 b3 b4
   go_wp2_with fail
   go_ret
   exact ⟨rfl, q6⟩
theorem prsV_adr (l : List UInt8) : prsV l = .tuple #[jV (jB (adr l).1) (jB (adr l).2.1) (jB (adr l).2.2), .int .i64 (if prsP l then 0 else 190)] := by
 unfold prsV adr
 cases prsP l <;> rfl
theorem ha_order (a b : ByteArray) (w : World) (ha : a.size ≤ 10000) (hb : b.size ≤ 10000) (hm : ML w) : Calls Tryz.prog 119 #[.string a, .string b] w (Ret w (.int .i64 (ordT a.data.toList b.data.toList))) := by
 have CA := fun w m => jd_Parse a w ha m
 have CB := fun w m => jd_Parse b w hb m
 simp only [prsV_adr] at CA CB
 have CL := fun w => jd_Less (jB (adr a.data.toList).1) (jB (adr a.data.toList).2.1) (jB (adr a.data.toList).2.2) (jB (adr b.data.toList).1) (jB (adr b.data.toList).2.1) (jB (adr b.data.toList).2.2) w
 have CM := fun w => jd_Less (jB (adr b.data.toList).1) (jB (adr b.data.toList).2.1) (jB (adr b.data.toList).2.2) (jB (adr a.data.toList).1) (jB (adr a.data.toList).2.1) (jB (adr a.data.toList).2.2) w
 simp only at CL CM
 exact ha_order_v a b _ _ _ _ _ _ (lessT a.data.toList b.data.toList) (lessT b.data.toList a.data.toList) _ _ w hm CA CB CL CM
theorem ret_ac {fn : Func} {tmps : Array Value} {W : World} {R p : Nat} {v0 v1 : Value} (h : fn.results = #[.cell p 79]) (h2 : tmps.getD p undef = .pointer (some ⟨R, 0, none⟩)) (k : Bx R [v0, v1] W) :
  (results fn tmps).run Tryz.prog W = .ok (.agg #[v0, v1]) W := by
 have c0 := k.at 0 rfl
 have c1 := k.at 1 rfl
 rw [results_cell1 h, h2]
 simp [go_sem, Result.andThen, c0, c1]
abbrev nm_ac : Value := .func (.func 104) #[] #[]
theorem e_ac : ∀ args w, (callFunc 104 args).run Tryz.prog w = .ok (.enter 104 args) w := enters_of Tryz.func104 (by kernel_rfl) rfl
set_option maxRecDepth 100000 in
theorem ha_accounts (aa ra : Option Addr) (an ac rn rc : Nat) (m : Int) (w : World) : Calls Tryz.prog 50 #[.agg #[.slice aa an ac, .slice ra rn rc, .int .i64 m]] w (Ret w (.agg #[.slice aa an ac, nm_ac])) := by
 obtain ⟨W0, hW, y0, bs⟩ := Sx.start2 w [.slice aa an ac, .slice ra rn rc, .int .i64 m] 25 [.slice aa an ac, .func (.func 104) #[] #[]] 79
 have HW := Lib.hid hW
 clear hW
 have q := bs.q
 go_enter Tryz.func50, Tryz.ntmps50
 go_wp2_with fail
 rw [HW.out]
 refine bodyPost_ret (ret_ac rfl rfl (bs.box 1 rfl)) rfl (⟨rfl, q⟩)
set_option maxRecDepth 100000 in
theorem ha_nm_ac (x : AcI) (w : World) : Calls Tryz.prog 104 #[x.v] w (Ret w (.string ⟨x.j.toArray⟩)) := by
 obtain ⟨W0, hW, y0, bs⟩ := Sx.start1 w [.string ⟨x.j.toArray⟩, x.iv, .int .i64 x.ver] 33
 have HW := Lib.hid hW
 clear hW
 have q := bs.q
 go_enter Tryz.func104, Tryz.ntmps104
 have c_x0 := bs.at 0 0 rfl rfl
 have c_x1 := bs.at 0 1 rfl rfl
 have c_x2 := bs.at 0 2 rfl rfl
 go_wp2_with fail
 rw [HW.out]
 go_ret
 exact ⟨rfl, q⟩
set_option maxHeartbeats 1000000 in
set_option maxRecDepth 100000 in
theorem ha_find1_ac (x : AcI) (Ls Ln : Nat) (t : List UInt8) (w : World) (hs : Ls < w.heap.size) (hn : Ln < w.heap.size) (cs : w.cell? ⟨Ls, 1, none⟩ = some nm_ac) (cn : w.cell? ⟨Ln, 0, none⟩ = some (.string ⟨t.toArray⟩)) :
  Calls Tryz.prog 106 #[x.v, .pointer (some ⟨Ls, 0, none⟩), .pointer (some ⟨Ln, 0, none⟩)] w (Ret w (.bool (x.j == t))) := by
 have HC := Lib.hid fun (w' : World) (hb : Below w.heap.size w w') => show w'.cell? ⟨Ls, 1, none⟩ = some nm_ac ∧ w'.cell? ⟨Ln, 0, none⟩ = some (.string ⟨t.toArray⟩) from ⟨((bcell hb).1 _ _ hs).trans cs, ((bcell hb).1 _ _ hn).trans cn⟩
 have en := e_ac
 clear cs cn
 obtain ⟨W0, hW, y0, bs⟩ := Sx.start1 w [.string ⟨x.j.toArray⟩, x.iv, .int .i64 x.ver] 33
 have HW := Lib.hid hW
 clear hW
 have q := bs.q
 go_enter Tryz.func106, Tryz.ntmps106
 go_wp2_with fail
 rw [HW.out]
 replace bs := bs.ret (Below.drew (Below.refl _ _))
 replace q := bs.q
 have y1 : W0.drew.heap.size = W0.heap.size := rfl
 refine wp_region_held_drew (S := fun w' => w'.cell? ⟨Ls, 1, none⟩ = some (nm_ac) ∧ w'.cell? ⟨Ln, 0, none⟩ = some (.string ⟨t.toArray⟩) ∧ w'.cell? ⟨w.heap.size, 0, none⟩ = some (.string ⟨x.j.toArray⟩) ∧ w'.cell? ⟨w.heap.size, 1, none⟩ = some (x.iv) ∧ w'.cell? ⟨w.heap.size, 2, none⟩ = some (.int .i64 x.ver)) (by kernel_rfl) ⟨(HC.out _ q).1, (HC.out _ q).2, bs.at 0 0 rfl rfl, bs.at 0 1 rfl rfl, bs.at 0 2 rfl rfl⟩ (fun hHeld => ?_)
 generalize W0.drew = w1 at bs q y1 hHeld ⊢
 refine tk_start [(0, some 5), (1, some 6), (2, some 7), (4, some 9)] ?_
 iterate 4
  refine tk_step (v := ?_) (by kernel_rfl) (by kernel_rfl) (fun _ _ _ h => h) (by assumption) (fun o ho w' hSw => ?_) ?_
  rotate_left
  ·simp only [List.getElem?_toArray, List.getElem?_cons_succ, List.getElem?_cons_zero, Option.some.injEq] at ho; subst ho; (try dsimp only at hSw); go_simp; try with_reducible rfl
  simp only [Act.put, List.setIfInBounds_toArray, List.set_cons_zero, List.set_cons_succ]
 refine tk_end ?_
 refine tk_call (i := 3) (by kernel_rfl) (by kernel_rfl) (fun o ho K hK => ?_)
 simp only [List.getElem?_toArray, List.getElem?_cons_succ, List.getElem?_cons_zero, Option.some.injEq] at ho
 subst ho
 go_simp
 refine (ha_nm_ac x w1).mono ?_
 rintro e w2 ⟨rfl, hb⟩
 replace bs := bs.ret hb
 replace q := bs.q
 clear hb
 go_simp
 clear hHeld
 refine hK.out _ _ ⟨(HC.out _ q).1, (HC.out _ q).2, bs.at 0 0 rfl rfl, bs.at 0 1 rfl rfl, bs.at 0 2 rfl rfl⟩ (fun hHeld => ?_)
 clear hK K
 refine tk_start [(5, some 10), (6, some 4)] ?_
 iterate 2
  refine tk_step (v := ?_) (by kernel_rfl) (by kernel_rfl) (fun _ _ _ h => h) (by assumption) (fun o ho w' hSw => ?_) ?_
  rotate_left
  ·simp only [List.getElem?_toArray, List.getElem?_cons_succ, List.getElem?_cons_zero, Option.some.injEq] at ho; subst ho; (try dsimp only at hSw); go_simp; try with_reducible rfl
  simp only [Act.put, List.setIfInBounds_toArray, List.set_cons_zero, List.set_cons_succ]
 refine tk_end ?_
 refine wpAnyH_done (by kernel_rfl) ?_ _
 clear hHeld
 go_wp2_with fail
 go_ret
 exact ⟨by simp, q⟩
theorem e_find_ac : ∀ args w, (callFunc 106 args).run Tryz.prog w = .ok (.enter 106 args) w := enters_of Tryz.func106 (by kernel_rfl) rfl
set_option maxRecDepth 100000 in
theorem ha_find_ac (a : Option Addr) (n c : Nat) (M : List AcI) (t : List UInt8) (w : World) (hv : IsL acY (.slice a n c) M w) (hM : M.length ≤ 100000) :
  Calls Tryz.prog 51 #[.agg #[.slice a n c, nm_ac], .string ⟨t.toArray⟩] w (Ret w (.int .i64 (idxG (fun x : AcI => x.j == t) M))) := by
 have CI := Lib.hid fun (w' : World) (hb : Below w.heap.size w w') (Ls Ln : Nat) (hs : Ls < w'.heap.size) (hn : Ln < w'.heap.size) (cs : w'.cell? ⟨Ls, 1, none⟩ = some nm_ac) (cn : w'.cell? ⟨Ln, 0, none⟩ = some (.string ⟨t.toArray⟩)) =>
  sl_Index_ac (.slice a n c) (.func (.func 106) #[] #[.pointer (some ⟨Ls, 0, none⟩), .pointer (some ⟨Ln, 0, none⟩)]) (fun x : AcI => x.j == t) M w' (hv.ret hb) hM ⟨_, _, rfl, e_find_ac, fun p _ W hW => ha_find1_ac p Ls Ln t W (Nat.lt_of_lt_of_le hs hW.size) (Nat.lt_of_lt_of_le hn hW.size) (((bcell hW).1 _ _ hs).trans cs) (((bcell hW).1 _ _ hn).trans cn)⟩
 clear hv hM
 obtain ⟨W0, hW, y0, bs⟩ := Sx.start2 w [.slice a n c, nm_ac] 79 [.string ⟨t.toArray⟩] 9
 have HW := Lib.hid hW
 clear hW
 have q := bs.q
 go_enter Tryz.func51, Tryz.ntmps51
 have c_s0 := bs.at 0 0 rfl rfl
 have c_s1 := bs.at 0 1 rfl rfl
 go_wp2_with fail
 rw [HW.out]
 clear c_s0 c_s1
 refine (CI.out W0 q w.heap.size (w.heap.size + 1) (bs.lt _ (List.mem_of_getElem? (i := 0) rfl)) (bs.lt _ (List.mem_of_getElem? (i := 1) rfl)) (bs.at 0 1 rfl rfl) (bs.at 1 0 rfl rfl)).mono ?_
 rintro e w1 ⟨rfl, hb⟩
 replace bs := bs.ret hb
 replace q := bs.q
 clear hb
 go_wp2_with fail
 go_ret
 exact ⟨rfl, q⟩
theorem ret_rs {fn : Func} {tmps : Array Value} {W : World} {R p : Nat} {v0 v1 : Value} (h : fn.results = #[.cell p 84]) (h2 : tmps.getD p undef = .pointer (some ⟨R, 0, none⟩)) (k : Bx R [v0, v1] W) :
  (results fn tmps).run Tryz.prog W = .ok (.agg #[v0, v1]) W := by
 have c0 := k.at 0 rfl
 have c1 := k.at 1 rfl
 rw [results_cell1 h, h2]
 simp [go_sem, Result.andThen, c0, c1]
abbrev nm_rs : Value := .func (.func 109) #[] #[]
theorem e_rs : ∀ args w, (callFunc 109 args).run Tryz.prog w = .ok (.enter 109 args) w := enters_of Tryz.func109 (by kernel_rfl) rfl
set_option maxRecDepth 100000 in
theorem ha_bound (aa ra : Option Addr) (an ac rn rc : Nat) (m : Int) (w : World) : Calls Tryz.prog 53 #[.agg #[.slice aa an ac, .slice ra rn rc, .int .i64 m]] w (Ret w (.agg #[.slice ra rn rc, nm_rs])) := by
 obtain ⟨W0, hW, y0, bs⟩ := Sx.start2 w [.slice aa an ac, .slice ra rn rc, .int .i64 m] 25 [.slice ra rn rc, .func (.func 109) #[] #[]] 84
 have HW := Lib.hid hW
 clear hW
 have q := bs.q
 go_enter Tryz.func53, Tryz.ntmps53
 go_wp2_with fail
 rw [HW.out]
 refine bodyPost_ret (ret_rs rfl rfl (bs.box 1 rfl)) rfl (⟨rfl, q⟩)
set_option maxRecDepth 100000 in
theorem ha_nm_rs (x : RsI) (w : World) : Calls Tryz.prog 109 #[x.v] w (Ret w (.string ⟨x.j.toArray⟩)) := by
 obtain ⟨W0, hW, y0, bs⟩ := Sx.start1 w [.string ⟨x.j.toArray⟩, .bool x.on, .int .i64 x.pr, x.lv, .bool x.ask, x.sv] 38
 have HW := Lib.hid hW
 clear hW
 have q := bs.q
 go_enter Tryz.func109, Tryz.ntmps109
 have c_x0 := bs.at 0 0 rfl rfl
 have c_x1 := bs.at 0 1 rfl rfl
 have c_x2 := bs.at 0 2 rfl rfl
 have c_x3 := bs.at 0 3 rfl rfl
 have c_x4 := bs.at 0 4 rfl rfl
 have c_x5 := bs.at 0 5 rfl rfl
 go_wp2_with fail
 rw [HW.out]
 go_ret
 exact ⟨rfl, q⟩
set_option maxHeartbeats 1000000 in
set_option maxRecDepth 100000 in
theorem ha_find1_rs (x : RsI) (Ls Ln : Nat) (t : List UInt8) (w : World) (hs : Ls < w.heap.size) (hn : Ln < w.heap.size) (cs : w.cell? ⟨Ls, 1, none⟩ = some nm_rs) (cn : w.cell? ⟨Ln, 0, none⟩ = some (.string ⟨t.toArray⟩)) :
  Calls Tryz.prog 111 #[x.v, .pointer (some ⟨Ls, 0, none⟩), .pointer (some ⟨Ln, 0, none⟩)] w (Ret w (.bool (x.j == t))) := by
 have HC := Lib.hid fun (w' : World) (hb : Below w.heap.size w w') => show w'.cell? ⟨Ls, 1, none⟩ = some nm_rs ∧ w'.cell? ⟨Ln, 0, none⟩ = some (.string ⟨t.toArray⟩) from ⟨((bcell hb).1 _ _ hs).trans cs, ((bcell hb).1 _ _ hn).trans cn⟩
 have en := e_rs
 clear cs cn
 obtain ⟨W0, hW, y0, bs⟩ := Sx.start1 w [.string ⟨x.j.toArray⟩, .bool x.on, .int .i64 x.pr, x.lv, .bool x.ask, x.sv] 38
 have HW := Lib.hid hW
 clear hW
 have q := bs.q
 go_enter Tryz.func111, Tryz.ntmps111
 go_wp2_with fail
 rw [HW.out]
 replace bs := bs.ret (Below.drew (Below.refl _ _))
 replace q := bs.q
 have y1 : W0.drew.heap.size = W0.heap.size := rfl
 refine wp_region_held_drew (S := fun w' => w'.cell? ⟨Ls, 1, none⟩ = some (nm_rs) ∧ w'.cell? ⟨Ln, 0, none⟩ = some (.string ⟨t.toArray⟩) ∧ w'.cell? ⟨w.heap.size, 0, none⟩ = some (.string ⟨x.j.toArray⟩) ∧ w'.cell? ⟨w.heap.size, 1, none⟩ = some (.bool x.on) ∧ w'.cell? ⟨w.heap.size, 2, none⟩ = some (.int .i64 x.pr) ∧ w'.cell? ⟨w.heap.size, 3, none⟩ = some (x.lv) ∧ w'.cell? ⟨w.heap.size, 4, none⟩ = some (.bool x.ask) ∧ w'.cell? ⟨w.heap.size, 5, none⟩ = some (x.sv)) (by kernel_rfl) ⟨(HC.out _ q).1, (HC.out _ q).2, bs.at 0 0 rfl rfl, bs.at 0 1 rfl rfl, bs.at 0 2 rfl rfl, bs.at 0 3 rfl rfl, bs.at 0 4 rfl rfl, bs.at 0 5 rfl rfl⟩ (fun hHeld => ?_)
 generalize W0.drew = w1 at bs q y1 hHeld ⊢
 refine tk_start [(0, some 5), (1, some 6), (2, some 7), (4, some 9)] ?_
 iterate 4
  refine tk_step (v := ?_) (by kernel_rfl) (by kernel_rfl) (fun _ _ _ h => h) (by assumption) (fun o ho w' hSw => ?_) ?_
  rotate_left
  ·simp only [List.getElem?_toArray, List.getElem?_cons_succ, List.getElem?_cons_zero, Option.some.injEq] at ho; subst ho; (try dsimp only at hSw); go_simp; try with_reducible rfl
  simp only [Act.put, List.setIfInBounds_toArray, List.set_cons_zero, List.set_cons_succ]
 refine tk_end ?_
 refine tk_call (i := 3) (by kernel_rfl) (by kernel_rfl) (fun o ho K hK => ?_)
 simp only [List.getElem?_toArray, List.getElem?_cons_succ, List.getElem?_cons_zero, Option.some.injEq] at ho
 subst ho
 go_simp
 refine (ha_nm_rs x w1).mono ?_
 rintro e w2 ⟨rfl, hb⟩
 replace bs := bs.ret hb
 replace q := bs.q
 clear hb
 go_simp
 clear hHeld
 refine hK.out _ _ ⟨(HC.out _ q).1, (HC.out _ q).2, bs.at 0 0 rfl rfl, bs.at 0 1 rfl rfl, bs.at 0 2 rfl rfl, bs.at 0 3 rfl rfl, bs.at 0 4 rfl rfl, bs.at 0 5 rfl rfl⟩ (fun hHeld => ?_)
 clear hK K
 refine tk_start [(5, some 10), (6, some 4)] ?_
 iterate 2
  refine tk_step (v := ?_) (by kernel_rfl) (by kernel_rfl) (fun _ _ _ h => h) (by assumption) (fun o ho w' hSw => ?_) ?_
  rotate_left
  ·simp only [List.getElem?_toArray, List.getElem?_cons_succ, List.getElem?_cons_zero, Option.some.injEq] at ho; subst ho; (try dsimp only at hSw); go_simp; try with_reducible rfl
  simp only [Act.put, List.setIfInBounds_toArray, List.set_cons_zero, List.set_cons_succ]
 refine tk_end ?_
 refine wpAnyH_done (by kernel_rfl) ?_ _
 clear hHeld
 go_wp2_with fail
 go_ret
 exact ⟨by simp, q⟩
theorem e_find_rs : ∀ args w, (callFunc 111 args).run Tryz.prog w = .ok (.enter 111 args) w := enters_of Tryz.func111 (by kernel_rfl) rfl
set_option maxRecDepth 100000 in
theorem ha_find_rs (a : Option Addr) (n c : Nat) (M : List RsI) (t : List UInt8) (w : World) (hv : IsL rsY (.slice a n c) M w) (hM : M.length ≤ 100000) :
  Calls Tryz.prog 54 #[.agg #[.slice a n c, nm_rs], .string ⟨t.toArray⟩] w (Ret w (.int .i64 (idxG (fun x : RsI => x.j == t) M))) := by
 have CI := Lib.hid fun (w' : World) (hb : Below w.heap.size w w') (Ls Ln : Nat) (hs : Ls < w'.heap.size) (hn : Ln < w'.heap.size) (cs : w'.cell? ⟨Ls, 1, none⟩ = some nm_rs) (cn : w'.cell? ⟨Ln, 0, none⟩ = some (.string ⟨t.toArray⟩)) =>
  sl_Index_rs (.slice a n c) (.func (.func 111) #[] #[.pointer (some ⟨Ls, 0, none⟩), .pointer (some ⟨Ln, 0, none⟩)]) (fun x : RsI => x.j == t) M w' (hv.ret hb) hM ⟨_, _, rfl, e_find_rs, fun p _ W hW => ha_find1_rs p Ls Ln t W (Nat.lt_of_lt_of_le hs hW.size) (Nat.lt_of_lt_of_le hn hW.size) (((bcell hW).1 _ _ hs).trans cs) (((bcell hW).1 _ _ hn).trans cn)⟩
 clear hv hM
 obtain ⟨W0, hW, y0, bs⟩ := Sx.start2 w [.slice a n c, nm_rs] 84 [.string ⟨t.toArray⟩] 9
 have HW := Lib.hid hW
 clear hW
 have q := bs.q
 go_enter Tryz.func54, Tryz.ntmps54
 have c_s0 := bs.at 0 0 rfl rfl
 have c_s1 := bs.at 0 1 rfl rfl
 go_wp2_with fail
 rw [HW.out]
 clear c_s0 c_s1
 refine (CI.out W0 q w.heap.size (w.heap.size + 1) (bs.lt _ (List.mem_of_getElem? (i := 0) rfl)) (bs.lt _ (List.mem_of_getElem? (i := 1) rfl)) (bs.at 0 1 rfl rfl) (bs.at 1 0 rfl rfl)).mono ?_
 rintro e w1 ⟨rfl, hb⟩
 replace bs := bs.ret hb
 replace q := bs.q
 clear hb
 go_wp2_with fail
 go_ret
 exact ⟨rfl, q⟩
end Go.Proofs.YtjgeiieiinmdnaaGreatDoor
namespace Go.Proofs.YtjgeiieiinmdnaaGreatDoor
open Go.RowKit Go.Lib

theorem ret_j2 {fn : Func} {tmps : Array Value} {W : World} {R p q : Nat} {v0 v1 v2 e : Value} (h : fn.results = #[.cell p 117, .tmp q]) (h2 : tmps.getD p undef = .pointer (some ⟨R, 0, none⟩)) (h3 : tmps.getD q undef = e) (k : Bx R [v0, v1, v2] W) :
  (results fn tmps).run Tryz.prog W = .ok (.tuple #[.agg #[v0, v1, v2], e]) W := by
 have c0 := k.at 0 rfl
 have c1 := k.at 1 rfl
 have c2 := k.at 2 rfl
 rw [results_cell_tmp h, h2, h3]
 simp [go_sem, Result.andThen, c0, c1, c2]
set_option maxHeartbeats 1000000 in
set_option maxRecDepth 100000 in
theorem ha_address_F (s X Y Z T : ByteArray) (w : World) (hm : ML w)
  (CP : ∀ w : World, ML w → Calls Tryz.prog 126 #[.string s] w (Ret w (.tuple #[jV X Y Z, .int .i64 190])))
  (CW : ∀ w : World, ML w → Calls Tryz.prog 137 #[jV X Y Z] w (Ret w (.tuple #[.string T, .int .i64 8]))) :
  Calls Tryz.prog 114 #[.string s] w (Ret w (.tuple #[jV X Y Z, .bool false])) := by
 have CP := Lib.hid CP
 have CW := Lib.hid CW
 have HM := Lib.hid hm
 clear hm
 obtain ⟨W0, hW, y0, bs⟩ := Sx.start1 w [.string ⟨#[]⟩, .string ⟨#[]⟩, .string ⟨#[]⟩] 117
 have HW := Lib.hid hW
 clear hW
 have q := bs.q
 go_enter Tryz.func114, Tryz.ntmps114
 go_wp2_with fail
 rw [HW.out]
 refine (CP.out W0 (HM.out.ret q)).mono ?_
 rintro e w1 ⟨rfl, hb⟩
 replace bs := bs.ret hb
 replace q := bs.q
 clear hb
 have d0 := (bs.lit (w1.heap.size) rfl [.string X, .string Y, .string Z] 117)
 have c0_n00 := d0.at 1 0 rfl rfl
 have c0_n01 := d0.at 1 1 rfl rfl
 have c0_n02 := d0.at 1 2 rfl rfl
 go_wp2_with fail
 clear d0 c0_n00 c0_n01 c0_n02
 obtain ⟨w2, hw2, y2, al, bs⟩ := bs.alloc (w1.heap.size) rfl [.string X, .string Y, .string Z] 117
 clear al
 replace q := bs.q
 rw [hw2]
 refine (CW.out w2 (HM.out.ret q)).mono ?_
 rintro e w3 ⟨rfl, hb⟩
 replace bs := bs.ret hb
 replace q := bs.q
 clear hb
 have c_j0 := bs.at 1 0 rfl rfl
 have c_j1 := bs.at 1 1 rfl rfl
 have c_j2 := bs.at 1 2 rfl rfl
 have c_z0 := bs.at 0 0 rfl rfl
 have f_z0 := bs.fz 0 0 rfl rfl
 have c_z1 := bs.at 0 1 rfl rfl
 have f_z1 := bs.fz 0 1 rfl rfl
 have c_z2 := bs.at 0 2 rfl rfl
 have f_z2 := bs.fz 0 2 rfl rfl
 go_wp2_with fail
 clear c_j0 c_j1 c_j2 c_z0 f_z0 c_z1 f_z1 c_z2 f_z2
 obtain ⟨w4, hw4, y4, bs⟩ := bs.sets 0 0 [.string X, .string Y, .string Z] rfl (Nat.le_of_ble_eq_true rfl)
 replace q := bs.q
 simp only [World.setCells, Nat.reduceAdd] at hw4
 rw [hw4]
 refine bodyPost_ret (ret_j2 rfl rfl rfl (bs.box 0 rfl)) rfl ⟨rfl, q⟩
set_option maxHeartbeats 1000000 in
set_option maxRecDepth 100000 in
theorem ha_address_T (s X Y Z T : ByteArray) (w : World) (hm : ML w) (hT : (T.toList == s.toList) = true)
  (CP : ∀ w : World, ML w → Calls Tryz.prog 126 #[.string s] w (Ret w (.tuple #[jV X Y Z, .int .i64 0])))
  (CW : ∀ w : World, ML w → Calls Tryz.prog 137 #[jV X Y Z] w (Ret w (.tuple #[.string T, .int .i64 0]))) :
  Calls Tryz.prog 114 #[.string s] w (Ret w (.tuple #[jV X Y Z, .bool true])) := by
 have CP := Lib.hid CP
 have CW := Lib.hid CW
 have HM := Lib.hid hm
 clear hm
 obtain ⟨W0, hW, y0, bs⟩ := Sx.start1 w [.string ⟨#[]⟩, .string ⟨#[]⟩, .string ⟨#[]⟩] 117
 have HW := Lib.hid hW
 clear hW
 have q := bs.q
 go_enter Tryz.func114, Tryz.ntmps114
 go_wp2_with fail
 rw [HW.out]
 refine (CP.out W0 (HM.out.ret q)).mono ?_
 rintro e w1 ⟨rfl, hb⟩
 replace bs := bs.ret hb
 replace q := bs.q
 clear hb
 have d0 := (bs.lit (w1.heap.size) rfl [.string X, .string Y, .string Z] 117)
 have c0_n00 := d0.at 1 0 rfl rfl
 have c0_n01 := d0.at 1 1 rfl rfl
 have c0_n02 := d0.at 1 2 rfl rfl
 go_wp2_with fail
 clear d0 c0_n00 c0_n01 c0_n02
 obtain ⟨w2, hw2, y2, al, bs⟩ := bs.alloc (w1.heap.size) rfl [.string X, .string Y, .string Z] 117
 clear al
 replace q := bs.q
 rw [hw2]
 refine (CW.out w2 (HM.out.ret q)).mono ?_
 rintro e w3 ⟨rfl, hb⟩
 replace bs := bs.ret hb
 replace q := bs.q
 clear hb
 have c_j0 := bs.at 1 0 rfl rfl
 have c_j1 := bs.at 1 1 rfl rfl
 have c_j2 := bs.at 1 2 rfl rfl
 have c_z0 := bs.at 0 0 rfl rfl
 have f_z0 := bs.fz 0 0 rfl rfl
 have c_z1 := bs.at 0 1 rfl rfl
 have f_z1 := bs.fz 0 1 rfl rfl
 have c_z2 := bs.at 0 2 rfl rfl
 have f_z2 := bs.fz 0 2 rfl rfl
 go_wp2_with fail
 clear c_j0 c_j1 c_j2 c_z0 f_z0 c_z1 f_z1 c_z2 f_z2
 obtain ⟨w4, hw4, y4, bs⟩ := bs.sets 0 0 [.string X, .string Y, .string Z] rfl (Nat.le_of_ble_eq_true rfl)
 replace q := bs.q
 simp only [World.setCells, Nat.reduceAdd] at hw4
 rw [hw4]
 refine bodyPost_ret (ret_j2 rfl rfl rfl (bs.box 0 rfl)) rfl ⟨rfl, q⟩
set_option maxHeartbeats 1000000 in
set_option maxRecDepth 100000 in
theorem ha_address_N (s X Y Z T : ByteArray) (w : World) (hm : ML w) (hT : (T.toList == s.toList) = false)
  (CP : ∀ w : World, ML w → Calls Tryz.prog 126 #[.string s] w (Ret w (.tuple #[jV X Y Z, .int .i64 0])))
  (CW : ∀ w : World, ML w → Calls Tryz.prog 137 #[jV X Y Z] w (Ret w (.tuple #[.string T, .int .i64 0]))) :
  Calls Tryz.prog 114 #[.string s] w (Ret w (.tuple #[jV X Y Z, .bool false])) := by
 have CP := Lib.hid CP
 have CW := Lib.hid CW
 have HM := Lib.hid hm
 clear hm
 obtain ⟨W0, hW, y0, bs⟩ := Sx.start1 w [.string ⟨#[]⟩, .string ⟨#[]⟩, .string ⟨#[]⟩] 117
 have HW := Lib.hid hW
 clear hW
 have q := bs.q
 go_enter Tryz.func114, Tryz.ntmps114
 go_wp2_with fail
 rw [HW.out]
 refine (CP.out W0 (HM.out.ret q)).mono ?_
 rintro e w1 ⟨rfl, hb⟩
 replace bs := bs.ret hb
 replace q := bs.q
 clear hb
 have d0 := (bs.lit (w1.heap.size) rfl [.string X, .string Y, .string Z] 117)
 have c0_n00 := d0.at 1 0 rfl rfl
 have c0_n01 := d0.at 1 1 rfl rfl
 have c0_n02 := d0.at 1 2 rfl rfl
 go_wp2_with fail
 clear d0 c0_n00 c0_n01 c0_n02
 obtain ⟨w2, hw2, y2, al, bs⟩ := bs.alloc (w1.heap.size) rfl [.string X, .string Y, .string Z] 117
 clear al
 replace q := bs.q
 rw [hw2]
 refine (CW.out w2 (HM.out.ret q)).mono ?_
 rintro e w3 ⟨rfl, hb⟩
 replace bs := bs.ret hb
 replace q := bs.q
 clear hb
 have c_j0 := bs.at 1 0 rfl rfl
 have c_j1 := bs.at 1 1 rfl rfl
 have c_j2 := bs.at 1 2 rfl rfl
 have c_z0 := bs.at 0 0 rfl rfl
 have f_z0 := bs.fz 0 0 rfl rfl
 have c_z1 := bs.at 0 1 rfl rfl
 have f_z1 := bs.fz 0 1 rfl rfl
 have c_z2 := bs.at 0 2 rfl rfl
 have f_z2 := bs.fz 0 2 rfl rfl
 go_wp2_with fail
 clear c_j0 c_j1 c_j2 c_z0 f_z0 c_z1 f_z1 c_z2 f_z2
 obtain ⟨w4, hw4, y4, bs⟩ := bs.sets 0 0 [.string X, .string Y, .string Z] rfl (Nat.le_of_ble_eq_true rfl)
 replace q := bs.q
 simp only [World.setCells, Nat.reduceAdd] at hw4
 rw [hw4]
 refine bodyPost_ret (ret_j2 rfl rfl rfl (bs.box 0 rfl)) rfl ⟨rfl, q⟩
def adrFV (s : List UInt8) : Value := .tuple #[jV (jB (adr s).1) (jB (adr s).2.1) (jB (adr s).2.2), .bool (adrF s)]
theorem ha_address (s : ByteArray) (w : World) (hs : s.size ≤ 10000) (hm : ML w) : Calls Tryz.prog 114 #[.string s] w (Ret w (adrFV s.data.toList)) := by
 have CP := fun w m => jd_Parse s w hs m
 have hz := size_toList s
 unfold prsV at CP
 unfold adrFV adr adrF
 obtain ⟨z1, z2, z3⟩ := len_prs s.data.toList
 cases hp : prsP s.data.toList with
 | false =>
  rw [hp, if_neg (by decide)] at CP
  simp only [Bool.false_eq_true, if_false, Bool.false_and]
  have CW := fun w m => jd_Write ⟨#[]⟩ ⟨#[]⟩ ⟨#[]⟩ w (by decide) (by decide) (by decide) m
  exact ha_address_F s _ _ _ _ w hm CP CW
 | true =>
  rw [hp, if_pos rfl] at CP
  simp only [if_true, Bool.true_and]
  have hk := prs_chk hp
  have CW := fun w m => jd_Write (jB (jLoc s.data.toList)) (jB (jDom s.data.toList)) (jB (jRes s.data.toList)) w (by rw [jB_size]; omega) (by rw [jB_size]; omega) (by rw [jB_size]; omega) m
  unfold wrtB wrtE at CW
  rw [jB_list, jB_list, jB_list, hk, if_pos rfl, if_pos rfl] at CW
  by_cases hT : txtP (jLoc s.data.toList) (jDom s.data.toList) (jRes s.data.toList) = s.data.toList
  ·have e1 : ((jB (txtP (jLoc s.data.toList) (jDom s.data.toList) (jRes s.data.toList))).toList == s.toList) = true := by
    rw [Lib.toList_data, Lib.toList_data, jB_list, hT]; simp
   rw [decide_eq_true hT]
   exact ha_address_T s _ _ _ _ w hm e1 CP CW
  ·have e1 : ((jB (txtP (jLoc s.data.toList) (jDom s.data.toList) (jRes s.data.toList))).toList == s.toList) = false := by
    rw [Lib.toList_data, Lib.toList_data, jB_list]; simpa using hT
   rw [decide_eq_false hT]
   exact ha_address_N s _ _ _ _ w hm e1 CP CW
set_option maxHeartbeats 1000000 in
set_option maxRecDepth 100000 in
theorem ha_mine_false (s X Y Z : ByteArray) (w : World) (hm : ML w)
  (CA : ∀ w : World, ML w → Calls Tryz.prog 114 #[.string s] w (Ret w (.tuple #[jV X Y Z, .bool false]))) :
  Calls Tryz.prog 56 #[.string s] w (Ret w (.bool false)) := by
 have CA := Lib.hid CA
 have HM := Lib.hid hm
 clear hm
 have bs := Sx.start w
 have q := bs.q
 go_enter Tryz.func56, Tryz.ntmps56
 go_wp2_with fail
 refine (CA.out w (HM.out.ret q)).mono ?_
 rintro e w1 ⟨rfl, hb⟩
 replace bs := bs.ret hb
 replace q := bs.q
 clear hb
 have d0 := (bs.lit (w1.heap.size) rfl [.string X, .string Y, .string Z] 117)
 have c0_n00 := d0.at 0 0 rfl rfl
 have c0_n01 := d0.at 0 1 rfl rfl
 have c0_n02 := d0.at 0 2 rfl rfl
 go_wp2_with fail
 clear d0 c0_n00 c0_n01 c0_n02
 obtain ⟨w2, hw2, y2, al, bs⟩ := bs.alloc (w1.heap.size) rfl [.string X, .string Y, .string Z] 117
 clear al
 replace q := bs.q
 rw [hw2]
 go_ret
 exact ⟨rfl, q⟩
set_option maxHeartbeats 1000000 in
set_option maxRecDepth 100000 in
theorem ha_mine_true (s X Y Z : ByteArray) (w : World) (hm : ML w) (c : Bool) (CM : ∀ w : World, ML w → Calls Tryz.prog 115 #[jV X Y Z] w (Ret w (.bool c)))
  (CA : ∀ w : World, ML w → Calls Tryz.prog 114 #[.string s] w (Ret w (.tuple #[jV X Y Z, .bool true]))) :
  Calls Tryz.prog 56 #[.string s] w (Ret w (.bool c)) := by
 have CA := Lib.hid CA
 have HM := Lib.hid hm
 clear hm
 have CM := Lib.hid CM
 have bs := Sx.start w
 have q := bs.q
 go_enter Tryz.func56, Tryz.ntmps56
 go_wp2_with fail
 refine (CA.out w (HM.out.ret q)).mono ?_
 rintro e w1 ⟨rfl, hb⟩
 replace bs := bs.ret hb
 replace q := bs.q
 clear hb
 have d0 := (bs.lit (w1.heap.size) rfl [.string X, .string Y, .string Z] 117)
 have c0_n00 := d0.at 0 0 rfl rfl
 have c0_n01 := d0.at 0 1 rfl rfl
 have c0_n02 := d0.at 0 2 rfl rfl
 go_wp2_with fail
 clear d0 c0_n00 c0_n01 c0_n02
 obtain ⟨w2, hw2, y2, al, bs⟩ := bs.alloc (w1.heap.size) rfl [.string X, .string Y, .string Z] 117
 clear al
 replace q := bs.q
 rw [hw2]
 refine (CM.out w2 (HM.out.ret q)).mono ?_
 rintro e w3 ⟨rfl, hb⟩
 replace bs := bs.ret hb
 replace q := bs.q
 clear hb
 go_wp2_with fail
 go_ret
 exact ⟨rfl, q⟩
theorem adrF_prs {s : List UInt8} (h : adrF s = true) : prsP s = true := by
 unfold adrF at h
 rw [Bool.and_eq_true] at h
 exact h.1
theorem ha_mine (s : ByteArray) (w : World) (hs : s.size ≤ 10000) (hm : ML w) : Calls Tryz.prog 56 #[.string s] w (Ret w (.bool (mineF s.data.toList))) := by
 have CA := fun w m => ha_address s w hs m
 unfold adrFV at CA
 unfold mineF
 have hz := size_toList s
 cases h : adrF s.data.toList with
 | false =>
  rw [h] at CA
  exact ha_mine_false s _ _ _ w hm CA
 | true =>
  rw [h] at CA
  rw [Bool.true_and]
  have hp := adrF_prs h
  obtain ⟨z1, z2, z3⟩ := len_prs s.data.toList
  have hk := prs_chk hp
  unfold adr at CA
  rw [if_pos hp] at CA
  refine ha_mine_true s _ _ _ w hm _ (fun w m => ?_) CA
  have k := jd_Mine (jB (jLoc s.data.toList)) (jB (jDom s.data.toList)) (jB (jRes s.data.toList)) w (by rw [jB_size]; omega) (by rw [jB_size]; omega) (by rw [jB_size]; omega) m
  rw [jB_list, jB_list, jB_list, hk, Bool.true_and] at k
  exact k
set_option maxHeartbeats 1000000 in
set_option maxRecDepth 100000 in
theorem ha_bare_v (s X Y Z T : ByteArray) (e f : Int) (w : World) (hm : ML w)
  (CP : ∀ w : World, ML w → Calls Tryz.prog 126 #[.string s] w (Ret w (.tuple #[jV X Y Z, .int .i64 e])))
  (CW : ∀ w : World, ML w → Calls Tryz.prog 137 #[jV X Y ⟨#[]⟩] w (Ret w (.tuple #[.string T, .int .i64 f]))) :
  Calls Tryz.prog 77 #[.string s] w (Ret w (.string T)) := by
 have CP := Lib.hid CP
 have CW := Lib.hid CW
 have HM := Lib.hid hm
 clear hm
 have bs := Sx.start w
 have q := bs.q
 go_enter Tryz.func77, Tryz.ntmps77
 go_wp2_with fail
 refine (CP.out w (HM.out.ret q)).mono ?_
 rintro e w1 ⟨rfl, hb⟩
 replace bs := bs.ret hb
 replace q := bs.q
 clear hb
 have d0 := (bs.lit (w1.heap.size) rfl [.string X, .string Y, .string Z] 117)
 have c0_n00 := d0.at 0 0 rfl rfl
 have c0_n01 := d0.at 0 1 rfl rfl
 have c0_n02 := d0.at 0 2 rfl rfl
 go_wp2_with fail
 clear d0 c0_n00 c0_n01 c0_n02
 obtain ⟨w2, hw2, y2, al, bs⟩ := bs.alloc (w1.heap.size) rfl [.string X, .string Y, .string Z] 117
 clear al
 replace q := bs.q
 rw [hw2]
 refine (jd_Bare X Y Z w2).mono ?_
 rintro e w3 ⟨rfl, hb⟩
 replace bs := bs.ret hb
 replace q := bs.q
 clear hb
 go_wp2_with fail
 refine (CW.out w3 (HM.out.ret q)).mono ?_
 rintro e w4 ⟨rfl, hb⟩
 replace bs := bs.ret hb
 replace q := bs.q
 clear hb
 go_wp2_with fail
 go_ret
 exact ⟨rfl, q⟩
theorem ha_bare (s : ByteArray) (w : World) (hs : s.size ≤ 10000) (hm : ML w) : Calls Tryz.prog 77 #[.string s] w (Ret w (.string (jB (bareP s.data.toList)))) := by
 have CP := fun w m => jd_Parse s w hs m
 have hz := size_toList s
 unfold prsV at CP
 unfold bareP
 obtain ⟨z1, z2, z3⟩ := len_prs s.data.toList
 cases hp : prsP s.data.toList with
 | false =>
  rw [hp, if_neg (by decide)] at CP
  rw [if_neg (by decide)]
  exact ha_bare_v s _ _ _ _ _ _ w hm CP (fun w m => jd_Write ⟨#[]⟩ ⟨#[]⟩ ⟨#[]⟩ w (by decide) (by decide) (by decide) m)
 | true =>
  rw [hp, if_pos rfl] at CP
  rw [if_pos rfl]
  have hk := prs_chk hp
  have hk2 : chkP (jLoc s.data.toList) (jDom s.data.toList) [] = true := by
   unfold chkP at hk ⊢
   simp only [Bool.and_eq_true] at hk
   rw [hk.1.1, hk.2]
   rfl
  refine ha_bare_v s _ _ _ _ _ 0 w hm CP (fun w m => ?_)
  have k := jd_Write (jB (jLoc s.data.toList)) (jB (jDom s.data.toList)) ⟨#[]⟩ w (by rw [jB_size]; omega) (by rw [jB_size]; omega) (by decide) m
  unfold wrtB wrtE at k
  rw [jB_list, jB_list, show ((⟨#[]⟩ : ByteArray).data.toList) = [] from rfl, hk2, if_pos rfl, if_pos rfl] at k
  exact k
set_option maxHeartbeats 1000000 in
set_option maxRecDepth 100000 in
theorem ha_account_false (x : AcI) (w : World) (_hv : IsItems x.iv x.it w) (_hs : SmallI x.it) (hj : x.j.length ≤ 10000) (hm : ML w) (h : mineF x.j = false) :
  Calls Tryz.prog 74 #[x.v] w (Ret w (.bool false)) := by
 have CM := Lib.hid fun (w' : World) (hb : Below w.heap.size w w') => show Calls Tryz.prog 56 #[.string ⟨x.j.toArray⟩] w' (Ret w' (.bool false)) by
  have k := ha_mine ⟨x.j.toArray⟩ w' (by rw [← size_toList]; exact hj) (hm.ret hb)
  rw [show mineF (⟨x.j.toArray⟩ : ByteArray).data.toList = false from h] at k
  exact k
 clear hj hm h
 obtain ⟨W0, hW, y0, bs⟩ := Sx.start1 w [.string ⟨x.j.toArray⟩, x.iv, .int .i64 x.ver] 33
 have HW := Lib.hid hW
 clear hW
 have q := bs.q
 go_enter Tryz.func74, Tryz.ntmps74
 have c_x0 := bs.at 0 0 rfl rfl
 have c_x1 := bs.at 0 1 rfl rfl
 have c_x2 := bs.at 0 2 rfl rfl
 go_wp2_with fail
 rw [HW.out]
 refine (CM.out W0 q).mono ?_
 rintro e w1 ⟨rfl, hb⟩
 clear c_x0 c_x1 c_x2
 replace bs := bs.ret hb
 replace q := bs.q
 clear hb
 have c_x0 := bs.at 0 0 rfl rfl
 have c_x1 := bs.at 0 1 rfl rfl
 have c_x2 := bs.at 0 2 rfl rfl
 go_wp2_with fail
 clear c_x0 c_x1 c_x2
 go_ret
 exact ⟨rfl, q⟩
set_option maxHeartbeats 1000000 in
set_option maxRecDepth 100000 in
theorem ha_account_true (x : AcI) (w : World) (hv : IsItems x.iv x.it w) (hs : SmallI x.it) (hj : x.j.length ≤ 10000) (hm : ML w) (h : mineF x.j = true) :
  Calls Tryz.prog 74 #[x.v] w (Ret w (.bool (mayR (x.it.map Prod.fst) x.ver))) := by
 have CM := Lib.hid fun (w' : World) (hb : Below w.heap.size w w') => show Calls Tryz.prog 56 #[.string ⟨x.j.toArray⟩] w' (Ret w' (.bool true)) by
  have k := ha_mine ⟨x.j.toArray⟩ w' (by rw [← size_toList]; exact hj) (hm.ret hb)
  rw [show mineF (⟨x.j.toArray⟩ : ByteArray).data.toList = true from h] at k
  exact k
 obtain ⟨O, hO⟩ : ∃ O, mayR (x.it.map Prod.fst) x.ver = O := ⟨_, rfl⟩
 have CC := Lib.hid fun (w' : World) (hb : Below w.heap.size w w') => show Calls Tryz.prog 132 #[.agg #[x.iv, .int .i64 x.ver]] w' (Ret w' (.int .i64 (if O then 0 else 8))) by
  have k := ro_Check x.iv x.ver x.it w' (hv.ret hb) hs (hm.ret hb)
  rw [hO] at k
  exact k
 rw [hO]
 clear hO
 clear hv hs hj hm h
 cases O with
 | false =>
  obtain ⟨W0, hW, y0, bs⟩ := Sx.start1 w [.string ⟨x.j.toArray⟩, x.iv, .int .i64 x.ver] 33
  have HW := Lib.hid hW
  clear hW
  have q := bs.q
  go_enter Tryz.func74, Tryz.ntmps74
  have c_x0 := bs.at 0 0 rfl rfl
  have c_x1 := bs.at 0 1 rfl rfl
  have c_x2 := bs.at 0 2 rfl rfl
  go_wp2_with fail
  rw [HW.out]
  refine (CM.out W0 q).mono ?_
  rintro e w1 ⟨rfl, hb⟩
  clear c_x0 c_x1 c_x2
  replace bs := bs.ret hb
  replace q := bs.q
  clear hb
  have c_x0 := bs.at 0 0 rfl rfl
  have c_x1 := bs.at 0 1 rfl rfl
  have c_x2 := bs.at 0 2 rfl rfl
  go_wp2_with fail
  clear c_x0 c_x1 c_x2
  refine (CC.out w1 q).mono ?_
  rintro e w2 ⟨rfl, hb⟩
  replace bs := bs.ret hb
  replace q := bs.q
  clear hb
  go_wp2_with fail
  go_ret
  exact ⟨rfl, q⟩
 | true =>
  obtain ⟨W0, hW, y0, bs⟩ := Sx.start1 w [.string ⟨x.j.toArray⟩, x.iv, .int .i64 x.ver] 33
  have HW := Lib.hid hW
  clear hW
  have q := bs.q
  go_enter Tryz.func74, Tryz.ntmps74
  have c_x0 := bs.at 0 0 rfl rfl
  have c_x1 := bs.at 0 1 rfl rfl
  have c_x2 := bs.at 0 2 rfl rfl
  go_wp2_with fail
  rw [HW.out]
  refine (CM.out W0 q).mono ?_
  rintro e w1 ⟨rfl, hb⟩
  clear c_x0 c_x1 c_x2
  replace bs := bs.ret hb
  replace q := bs.q
  clear hb
  have c_x0 := bs.at 0 0 rfl rfl
  have c_x1 := bs.at 0 1 rfl rfl
  have c_x2 := bs.at 0 2 rfl rfl
  go_wp2_with fail
  clear c_x0 c_x1 c_x2
  refine (CC.out w1 q).mono ?_
  rintro e w2 ⟨rfl, hb⟩
  replace bs := bs.ret hb
  replace q := bs.q
  clear hb
  go_wp2_with fail
  go_ret
  exact ⟨rfl, q⟩
theorem ha_account (x : AcI) (w : World) (hv : IsItems x.iv x.it w) (hs : SmallI x.it) (hj : x.j.length ≤ 10000) (hm : ML w) :
  Calls Tryz.prog 74 #[x.v] w (Ret w (.bool (accF x.d))) := by
 unfold accF
 cases h : mineF x.j with
 | false => rw [Bool.false_and]; exact ha_account_false x w hv hs hj hm h
 | true => rw [Bool.true_and]; exact ha_account_true x w hv hs hj hm h
end Go.Proofs.YtjgeiieiinmdnaaGreatDoor
namespace Go.Proofs.YtjgeiieiinmdnaaGreatDoor
open Go.RowKit Go.Lib

instance : Inhabited AcI := ⟨⟨[], [], (none, 0), 0⟩⟩
instance : Inhabited RsI := ⟨⟨[], false, 0, [], (none, 0), false, [], (none, 0)⟩⟩
theorem chG_last {α : Type} [Inhabited α] {nm : α → List UInt8} (l : List α) (z : α) (y : List UInt8) : ((l ++ [z]).isEmpty || lessT (nm ((l ++ [z]).getLastD default)) y) = lessT (nm z) y := by
 rw [List.getLastD_concat]
 cases l <;> rfl
theorem chG_take {α : Type} [Inhabited α] {nm : α → List UInt8} {M : List α} {m : Nat} (h : m + 1 < M.length) : chG nm (M.take (m + 2)) = (chG nm (M.take (m + 1)) && lessT (nm M[m]) (nm M[m + 1])) := by
 have e : M.take (m + 1) = M.take m ++ [M[m]] := List.take_succ_eq_append_getElem (by omega)
 have k : ((M.take (m + 1)).isEmpty || lessT (nm ((M.take (m + 1)).getLastD default)) (nm M[m + 1])) = lessT (nm M[m]) (nm M[m + 1]) := by
  rw [e]
  exact chG_last _ _ _
 rw [List.take_succ_eq_append_getElem h, chain_snocG, k]
theorem chG_part {α : Type} {nm : α → List UInt8} {M : List α} (k : Nat) (h : chG nm (M.take k) = false) : chG nm M = false := by
 cases hc : chG nm M with
 | false => rfl
 | true =>
  have e : M.take k ++ M.drop k = M := List.take_append_drop k M
  rw [← e] at hc
  rw [(chain_leftG hc).1] at h
  cases h
set_option maxHeartbeats 2000000 in
set_option maxRecDepth 100000 in
theorem ha_rises_ac (a : Option Addr) (c : Nat) (M : List AcI) (w : World) (hv : IsL acY (.slice a M.length c) M w) (hM : M.length ≤ 100000) (hj : ∀ x ∈ M, x.j.length ≤ 10000) (hm : ML w) :
  Calls Tryz.prog 79 #[.agg #[.slice a M.length c, nm_ac]] w (Ret w (.bool (chG (fun x : AcI => x.j) M))) := by
 obtain ⟨L, hL⟩ : ∃ L, M.length = L := ⟨_, rfl⟩
 obtain ⟨O, hO⟩ : ∃ O, chG (fun x : AcI => x.j) M = O := ⟨_, rfl⟩
 rw [hO]
 rw [hL] at hv hM ⊢
 have HV := Lib.hid hv
 have HL := Lib.hid hL
 have HJ := Lib.hid hj
 have HM := Lib.hid hm
 have HO := Lib.hid hO
 have en := e_ac
 clear hv hL hj hm hO
 obtain ⟨W0, hW, y0, bs⟩ := Sx.start1 w [.slice a L c, nm_ac] 79
 have HW := Lib.hid hW
 clear hW
 have q := bs.q
 go_enter Tryz.func79, Tryz.ntmps79
 go_wp2_with fail
 rw [HW.out]
 go_loopw [3] (fun i wx => ∃ m : Nat, (m + 1 ≤ L ∨ m = 0) ∧ i = .int .i64 ((m : Int) + 1) ∧ chG (fun x : AcI => x.j) (M.take (m + 1)) = true ∧ Sx w [(w.heap.size, [.slice a L c, nm_ac])] wx) (fun i _ => L + 1 - (intOf i).toNat)
 case atStart =>
  refine ⟨0, .inr rfl, rfl, ?_, bs⟩
  cases hM0 : M with
  | nil => rfl
  | cons x l => rfl
 case round =>
  clear bs q
  obtain ⟨m, hml, rfl, hch, bs⟩ := hrel
  have q := bs.q
  by_cases hlt : m + 1 < L
  ·have hkM : m + 1 < M.length := by rw [HL.out]; exact hlt
   obtain ⟨x, hx⟩ : ∃ x, M[m] = x := ⟨_, rfl⟩
   obtain ⟨y, hy⟩ : ∃ y, M[m + 1] = y := ⟨_, rfl⟩
   have hsn := chG_take (nm := fun x : AcI => x.j) hkM
   rw [hch, Bool.true_and, hx, hy] at hsn
   obtain ⟨b, off, cp, hf, -, hc⟩ := HV.out.cells (k := m) (x := x) (by rw [List.getElem?_eq_getElem (by omega), hx])
   rw [HL.out] at hf
   simp only [Value.slice.injEq, true_and] at hf
   obtain ⟨rfl, rfl⟩ := hf
   obtain ⟨b2, off2, cp2, hf, -, hd⟩ := HV.out.cells (k := m + 1) (x := y) (by rw [List.getElem?_eq_getElem hkM, hy])
   simp only [Value.slice.injEq, Option.some.injEq, Addr.mk.injEq, and_true] at hf
   obtain ⟨⟨rfl, rfl⟩, -, -⟩ := hf
   have HC := Lib.hid fun (w' : World) (hb : Below w.heap.size w w') => show w'.cell? ⟨b, off + m * 3, none⟩ = some (.string ⟨x.j.toArray⟩) ∧ w'.cell? ⟨b, off + m * 3 + 1, none⟩ = some (x.iv) ∧ w'.cell? ⟨b, off + m * 3 + 2, none⟩ = some (.int .i64 x.ver) from ⟨hc w' hb 0 _ rfl, hc w' hb 1 _ rfl, hc w' hb 2 _ rfl⟩
   have HD := Lib.hid fun (w' : World) (hb : Below w.heap.size w w') => show w'.cell? ⟨b, off + (m + 1) * 3, none⟩ = some (.string ⟨y.j.toArray⟩) ∧ w'.cell? ⟨b, off + (m + 1) * 3 + 1, none⟩ = some (y.iv) ∧ w'.cell? ⟨b, off + (m + 1) * 3 + 2, none⟩ = some (.int .i64 y.ver) from ⟨hd w' hb 0 _ rfl, hd w' hb 1 _ rfl, hd w' hb 2 _ rfl⟩
   have zx := HJ.out x (by rw [← hx]; exact List.getElem_mem _)
   have zy := HJ.out y (by rw [← hy]; exact List.getElem_mem _)
   have CO := Lib.hid fun (w' : World) (hb : Below w.heap.size w w') => show Calls Tryz.prog 119 #[.string ⟨x.j.toArray⟩, .string ⟨y.j.toArray⟩] w' (Ret w' (.int .i64 (ordT x.j y.j))) from ha_order ⟨x.j.toArray⟩ ⟨y.j.toArray⟩ w' (by rw [← size_toList]; exact zx) (by rw [← size_toList]; exact zy) (HM.out.ret hb)
   have hneg := ordT_neg x.j y.j
   obtain ⟨Q, hQ⟩ : ∃ Q, ordT x.j y.j = Q := ⟨_, rfl⟩
   have co := CO.out
   rw [hQ] at co hneg
   have CO := Lib.hid co
   have HS := Lib.hid hsn
   have wm : ((m : Int) + 1).toNat = m + 1 := by omega
   have wl : (m : Int) + 1 < (L : Int) := by omega
   have wl2 : (m : Int) < (L : Int) := by omega
   have wm1 : (0 : Int) ≤ (m : Int) + 1 := by omega
   have wm0 : IntKind.i64.wrap (m : Int) = (m : Int) := IntWalk.i64_in _ (by omega)
   clear co hQ hsn hc hd hx hy hch hkM zx zy
   have c_s0 := bs.at 0 0 rfl rfl
   have c_s1 := bs.at 0 1 rfl rfl
   go_wp2_with fail
   clear c_s0 c_s1
   replace bs := bs.ret (Below.drew (Below.refl _ _))
   replace q := bs.q
   have y21 : wr.drew.heap.size = wr.heap.size := rfl
   refine wp_region_held_drew (S := fun w' => w'.cell? ⟨w.heap.size, 0, none⟩ = some (.slice (some ⟨b, off, none⟩) L c) ∧ w'.cell? ⟨w.heap.size, 1, none⟩ = some (nm_ac) ∧ w'.cell? ⟨b, off + m * 3, none⟩ = some (.string ⟨x.j.toArray⟩) ∧ w'.cell? ⟨b, off + m * 3 + 1, none⟩ = some (x.iv) ∧ w'.cell? ⟨b, off + m * 3 + 2, none⟩ = some (.int .i64 x.ver) ∧ w'.cell? ⟨b, off + (m + 1) * 3, none⟩ = some (.string ⟨y.j.toArray⟩) ∧ w'.cell? ⟨b, off + (m + 1) * 3 + 1, none⟩ = some (y.iv) ∧ w'.cell? ⟨b, off + (m + 1) * 3 + 2, none⟩ = some (.int .i64 y.ver)) (by kernel_rfl) ⟨bs.at 0 0 rfl rfl, bs.at 0 1 rfl rfl, (HC.out _ q).1, (HC.out _ q).2.1, (HC.out _ q).2.2, (HD.out _ q).1, (HD.out _ q).2.1, (HD.out _ q).2.2⟩ (fun hHeld => ?_)
   generalize wr.drew = w21 at bs q y21 hHeld ⊢
   refine tk_start [(0, some 11), (1, some 12), (2, some 13), (3, some 14), (4, some 15), (5, some 16), (6, some 17), (7, some 18), (9, some 20), (10, some 21), (11, some 22), (12, some 23), (13, some 24), (14, some 25), (15, some 26)] ?_
   iterate 15
    refine tk_step (v := ?_) (by kernel_rfl) (by kernel_rfl) (fun _ _ _ h => h) (by assumption) (fun o ho w' hSw => ?_) ?_
    rotate_left
    ·simp only [List.getElem?_toArray, List.getElem?_cons_succ, List.getElem?_cons_zero, Option.some.injEq] at ho; subst ho; (try dsimp only at hSw); go_simp; try with_reducible rfl
    simp only [Act.put, List.setIfInBounds_toArray, List.set_cons_zero, List.set_cons_succ]
   refine tk_end ?_
   refine tk_call (i := 8) (by kernel_rfl) (by kernel_rfl) (fun o ho K hK => ?_)
   simp only [List.getElem?_toArray, List.getElem?_cons_succ, List.getElem?_cons_zero, Option.some.injEq] at ho
   subst ho
   go_simp
   refine (ha_nm_ac x w21).mono ?_
   rintro e w22 ⟨rfl, hb⟩
   replace bs := bs.ret hb
   replace q := bs.q
   clear hb
   go_simp
   clear hHeld
   refine hK.out _ _ ⟨bs.at 0 0 rfl rfl, bs.at 0 1 rfl rfl, (HC.out _ q).1, (HC.out _ q).2.1, (HC.out _ q).2.2, (HD.out _ q).1, (HD.out _ q).2.1, (HD.out _ q).2.2⟩ (fun hHeld => ?_)
   clear hK K
   refine tk_call (i := 16) (by kernel_rfl) (by kernel_rfl) (fun o ho K hK => ?_)
   simp only [List.getElem?_toArray, List.getElem?_cons_succ, List.getElem?_cons_zero, Option.some.injEq] at ho
   subst ho
   go_simp
   refine (ha_nm_ac y w22).mono ?_
   rintro e w23 ⟨rfl, hb⟩
   replace bs := bs.ret hb
   replace q := bs.q
   clear hb
   go_simp
   clear hHeld
   refine hK.out _ _ ⟨bs.at 0 0 rfl rfl, bs.at 0 1 rfl rfl, (HC.out _ q).1, (HC.out _ q).2.1, (HC.out _ q).2.2, (HD.out _ q).1, (HD.out _ q).2.1, (HD.out _ q).2.2⟩ (fun hHeld => ?_)
   clear hK K
   refine tk_call (i := 17) (by kernel_rfl) (by kernel_rfl) (fun o ho K hK => ?_)
   simp only [List.getElem?_toArray, List.getElem?_cons_succ, List.getElem?_cons_zero, Option.some.injEq] at ho
   subst ho
   go_simp
   refine (CO.out w23 q).mono ?_
   rintro e w24 ⟨rfl, hb⟩
   replace bs := bs.ret hb
   replace q := bs.q
   clear hb
   go_simp
   clear hHeld
   refine hK.out _ _ ⟨bs.at 0 0 rfl rfl, bs.at 0 1 rfl rfl, (HC.out _ q).1, (HC.out _ q).2.1, (HC.out _ q).2.2, (HD.out _ q).1, (HD.out _ q).2.1, (HD.out _ q).2.2⟩ (fun hHeld => ?_)
   clear hK K
   refine tk_on (i := 18) (some 29) (v := ?_) (by kernel_rfl) (by kernel_rfl) (by kernel_rfl) (by kernel_rfl) (fun _ _ _ h => h) (by assumption) (fun o ho w' hSw => ?_) ?_
   rotate_left
   ·(simp only [List.getElem?_toArray, List.getElem?_cons_succ, List.getElem?_cons_zero, Option.some.injEq] at ho; subst ho; (try dsimp only at hSw); go_simp; try with_reducible rfl)
   simp only [Act.put, List.setIfInBounds_toArray, List.set_cons_zero, List.set_cons_succ]
   refine wpAnyH_done (by kernel_rfl) ?_ _
   clear hHeld
   by_cases hl : lessT x.j y.j = true
   ·have hq : Q < 0 := by rw [hl] at hneg; exact of_decide_eq_true hneg
    have hq2 : decide (0 ≤ Q) = false := decide_eq_false (by omega)
    go_wp2_with fail
    go_roundw
    case rel => exact ⟨m + 1, .inl (by omega), by go_num, by rw [HS.out]; exact hl, bs⟩
    case measure => simp [intOf]; omega
   ·have hq : ¬ Q < 0 := fun h => hl (by rw [← hneg]; exact decide_eq_true h)
    have hq2 : decide (0 ≤ Q) = true := decide_eq_true (by omega)
    go_wp2_with fail
    go_ret
    refine ⟨?_, q⟩
    have hf := chG_part (m + 2) (by rw [HS.out]; simpa using hl)
    rw [HO.out] at hf
    rw [hf]
    rfl
  ·have hO : O = true := by
    have e : M.take (m + 1) = M := List.take_of_length_le (by rw [HL.out]; omega)
    rw [e] at hch
    rw [← HO.out]; exact hch
   subst hO
   have wl : ¬ (m : Int) + 1 < (L : Int) := by omega
   have c_s0 := bs.at 0 0 rfl rfl
   have c_s1 := bs.at 0 1 rfl rfl
   go_wp2_with fail
   go_ret
   exact ⟨rfl, q⟩
set_option maxHeartbeats 2000000 in
set_option maxRecDepth 100000 in
theorem ha_rises_rs (a : Option Addr) (c : Nat) (M : List RsI) (w : World) (hv : IsL rsY (.slice a M.length c) M w) (hM : M.length ≤ 100000) (hj : ∀ x ∈ M, x.j.length ≤ 10000) (hm : ML w) :
  Calls Tryz.prog 81 #[.agg #[.slice a M.length c, nm_rs]] w (Ret w (.bool (chG (fun x : RsI => x.j) M))) := by
 obtain ⟨L, hL⟩ : ∃ L, M.length = L := ⟨_, rfl⟩
 obtain ⟨O, hO⟩ : ∃ O, chG (fun x : RsI => x.j) M = O := ⟨_, rfl⟩
 rw [hO]
 rw [hL] at hv hM ⊢
 have HV := Lib.hid hv
 have HL := Lib.hid hL
 have HJ := Lib.hid hj
 have HM := Lib.hid hm
 have HO := Lib.hid hO
 have en := e_rs
 clear hv hL hj hm hO
 obtain ⟨W0, hW, y0, bs⟩ := Sx.start1 w [.slice a L c, nm_rs] 84
 have HW := Lib.hid hW
 clear hW
 have q := bs.q
 go_enter Tryz.func81, Tryz.ntmps81
 go_wp2_with fail
 rw [HW.out]
 go_loopw [3] (fun i wx => ∃ m : Nat, (m + 1 ≤ L ∨ m = 0) ∧ i = .int .i64 ((m : Int) + 1) ∧ chG (fun x : RsI => x.j) (M.take (m + 1)) = true ∧ Sx w [(w.heap.size, [.slice a L c, nm_rs])] wx) (fun i _ => L + 1 - (intOf i).toNat)
 case atStart =>
  refine ⟨0, .inr rfl, rfl, ?_, bs⟩
  cases hM0 : M with
  | nil => rfl
  | cons x l => rfl
 case round =>
  clear bs q
  obtain ⟨m, hml, rfl, hch, bs⟩ := hrel
  have q := bs.q
  by_cases hlt : m + 1 < L
  ·have hkM : m + 1 < M.length := by rw [HL.out]; exact hlt
   obtain ⟨x, hx⟩ : ∃ x, M[m] = x := ⟨_, rfl⟩
   obtain ⟨y, hy⟩ : ∃ y, M[m + 1] = y := ⟨_, rfl⟩
   have hsn := chG_take (nm := fun x : RsI => x.j) hkM
   rw [hch, Bool.true_and, hx, hy] at hsn
   obtain ⟨b, off, cp, hf, -, hc⟩ := HV.out.cells (k := m) (x := x) (by rw [List.getElem?_eq_getElem (by omega), hx])
   rw [HL.out] at hf
   simp only [Value.slice.injEq, true_and] at hf
   obtain ⟨rfl, rfl⟩ := hf
   obtain ⟨b2, off2, cp2, hf, -, hd⟩ := HV.out.cells (k := m + 1) (x := y) (by rw [List.getElem?_eq_getElem hkM, hy])
   simp only [Value.slice.injEq, Option.some.injEq, Addr.mk.injEq, and_true] at hf
   obtain ⟨⟨rfl, rfl⟩, -, -⟩ := hf
   have HC := Lib.hid fun (w' : World) (hb : Below w.heap.size w w') => show w'.cell? ⟨b, off + m * 6, none⟩ = some (.string ⟨x.j.toArray⟩) ∧ w'.cell? ⟨b, off + m * 6 + 1, none⟩ = some (.bool x.on) ∧ w'.cell? ⟨b, off + m * 6 + 2, none⟩ = some (.int .i64 x.pr) ∧ w'.cell? ⟨b, off + m * 6 + 3, none⟩ = some (x.lv) ∧ w'.cell? ⟨b, off + m * 6 + 4, none⟩ = some (.bool x.ask) ∧ w'.cell? ⟨b, off + m * 6 + 5, none⟩ = some (x.sv) from ⟨hc w' hb 0 _ rfl, hc w' hb 1 _ rfl, hc w' hb 2 _ rfl, hc w' hb 3 _ rfl, hc w' hb 4 _ rfl, hc w' hb 5 _ rfl⟩
   have HD := Lib.hid fun (w' : World) (hb : Below w.heap.size w w') => show w'.cell? ⟨b, off + (m + 1) * 6, none⟩ = some (.string ⟨y.j.toArray⟩) ∧ w'.cell? ⟨b, off + (m + 1) * 6 + 1, none⟩ = some (.bool y.on) ∧ w'.cell? ⟨b, off + (m + 1) * 6 + 2, none⟩ = some (.int .i64 y.pr) ∧ w'.cell? ⟨b, off + (m + 1) * 6 + 3, none⟩ = some (y.lv) ∧ w'.cell? ⟨b, off + (m + 1) * 6 + 4, none⟩ = some (.bool y.ask) ∧ w'.cell? ⟨b, off + (m + 1) * 6 + 5, none⟩ = some (y.sv) from ⟨hd w' hb 0 _ rfl, hd w' hb 1 _ rfl, hd w' hb 2 _ rfl, hd w' hb 3 _ rfl, hd w' hb 4 _ rfl, hd w' hb 5 _ rfl⟩
   have zx := HJ.out x (by rw [← hx]; exact List.getElem_mem _)
   have zy := HJ.out y (by rw [← hy]; exact List.getElem_mem _)
   have CO := Lib.hid fun (w' : World) (hb : Below w.heap.size w w') => show Calls Tryz.prog 119 #[.string ⟨x.j.toArray⟩, .string ⟨y.j.toArray⟩] w' (Ret w' (.int .i64 (ordT x.j y.j))) from ha_order ⟨x.j.toArray⟩ ⟨y.j.toArray⟩ w' (by rw [← size_toList]; exact zx) (by rw [← size_toList]; exact zy) (HM.out.ret hb)
   have hneg := ordT_neg x.j y.j
   obtain ⟨Q, hQ⟩ : ∃ Q, ordT x.j y.j = Q := ⟨_, rfl⟩
   have co := CO.out
   rw [hQ] at co hneg
   have CO := Lib.hid co
   have HS := Lib.hid hsn
   have wm : ((m : Int) + 1).toNat = m + 1 := by omega
   have wl : (m : Int) + 1 < (L : Int) := by omega
   have wl2 : (m : Int) < (L : Int) := by omega
   have wm1 : (0 : Int) ≤ (m : Int) + 1 := by omega
   have wm0 : IntKind.i64.wrap (m : Int) = (m : Int) := IntWalk.i64_in _ (by omega)
   clear co hQ hsn hc hd hx hy hch hkM zx zy
   have c_s0 := bs.at 0 0 rfl rfl
   have c_s1 := bs.at 0 1 rfl rfl
   go_wp2_with fail
   clear c_s0 c_s1
   replace bs := bs.ret (Below.drew (Below.refl _ _))
   replace q := bs.q
   have y21 : wr.drew.heap.size = wr.heap.size := rfl
   refine wp_region_held_drew (S := fun w' => w'.cell? ⟨w.heap.size, 0, none⟩ = some (.slice (some ⟨b, off, none⟩) L c) ∧ w'.cell? ⟨w.heap.size, 1, none⟩ = some (nm_rs) ∧ w'.cell? ⟨b, off + m * 6, none⟩ = some (.string ⟨x.j.toArray⟩) ∧ w'.cell? ⟨b, off + m * 6 + 1, none⟩ = some (.bool x.on) ∧ w'.cell? ⟨b, off + m * 6 + 2, none⟩ = some (.int .i64 x.pr) ∧ w'.cell? ⟨b, off + m * 6 + 3, none⟩ = some (x.lv) ∧ w'.cell? ⟨b, off + m * 6 + 4, none⟩ = some (.bool x.ask) ∧ w'.cell? ⟨b, off + m * 6 + 5, none⟩ = some (x.sv) ∧ w'.cell? ⟨b, off + (m + 1) * 6, none⟩ = some (.string ⟨y.j.toArray⟩) ∧ w'.cell? ⟨b, off + (m + 1) * 6 + 1, none⟩ = some (.bool y.on) ∧ w'.cell? ⟨b, off + (m + 1) * 6 + 2, none⟩ = some (.int .i64 y.pr) ∧ w'.cell? ⟨b, off + (m + 1) * 6 + 3, none⟩ = some (y.lv) ∧ w'.cell? ⟨b, off + (m + 1) * 6 + 4, none⟩ = some (.bool y.ask) ∧ w'.cell? ⟨b, off + (m + 1) * 6 + 5, none⟩ = some (y.sv)) (by kernel_rfl) ⟨bs.at 0 0 rfl rfl, bs.at 0 1 rfl rfl, (HC.out _ q).1, (HC.out _ q).2.1, (HC.out _ q).2.2.1, (HC.out _ q).2.2.2.1, (HC.out _ q).2.2.2.2.1, (HC.out _ q).2.2.2.2.2, (HD.out _ q).1, (HD.out _ q).2.1, (HD.out _ q).2.2.1, (HD.out _ q).2.2.2.1, (HD.out _ q).2.2.2.2.1, (HD.out _ q).2.2.2.2.2⟩ (fun hHeld => ?_)
   generalize wr.drew = w21 at bs q y21 hHeld ⊢
   refine tk_start [(0, some 11), (1, some 12), (2, some 13), (3, some 14), (4, some 15), (5, some 16), (6, some 17), (7, some 18), (9, some 20), (10, some 21), (11, some 22), (12, some 23), (13, some 24), (14, some 25), (15, some 26)] ?_
   iterate 15
    refine tk_step (v := ?_) (by kernel_rfl) (by kernel_rfl) (fun _ _ _ h => h) (by assumption) (fun o ho w' hSw => ?_) ?_
    rotate_left
    ·simp only [List.getElem?_toArray, List.getElem?_cons_succ, List.getElem?_cons_zero, Option.some.injEq] at ho; subst ho; (try dsimp only at hSw); go_simp; try with_reducible rfl
    simp only [Act.put, List.setIfInBounds_toArray, List.set_cons_zero, List.set_cons_succ]
   refine tk_end ?_
   refine tk_call (i := 8) (by kernel_rfl) (by kernel_rfl) (fun o ho K hK => ?_)
   simp only [List.getElem?_toArray, List.getElem?_cons_succ, List.getElem?_cons_zero, Option.some.injEq] at ho
   subst ho
   go_simp
   refine (ha_nm_rs x w21).mono ?_
   rintro e w22 ⟨rfl, hb⟩
   replace bs := bs.ret hb
   replace q := bs.q
   clear hb
   go_simp
   clear hHeld
   refine hK.out _ _ ⟨bs.at 0 0 rfl rfl, bs.at 0 1 rfl rfl, (HC.out _ q).1, (HC.out _ q).2.1, (HC.out _ q).2.2.1, (HC.out _ q).2.2.2.1, (HC.out _ q).2.2.2.2.1, (HC.out _ q).2.2.2.2.2, (HD.out _ q).1, (HD.out _ q).2.1, (HD.out _ q).2.2.1, (HD.out _ q).2.2.2.1, (HD.out _ q).2.2.2.2.1, (HD.out _ q).2.2.2.2.2⟩ (fun hHeld => ?_)
   clear hK K
   refine tk_call (i := 16) (by kernel_rfl) (by kernel_rfl) (fun o ho K hK => ?_)
   simp only [List.getElem?_toArray, List.getElem?_cons_succ, List.getElem?_cons_zero, Option.some.injEq] at ho
   subst ho
   go_simp
   refine (ha_nm_rs y w22).mono ?_
   rintro e w23 ⟨rfl, hb⟩
   replace bs := bs.ret hb
   replace q := bs.q
   clear hb
   go_simp
   clear hHeld
   refine hK.out _ _ ⟨bs.at 0 0 rfl rfl, bs.at 0 1 rfl rfl, (HC.out _ q).1, (HC.out _ q).2.1, (HC.out _ q).2.2.1, (HC.out _ q).2.2.2.1, (HC.out _ q).2.2.2.2.1, (HC.out _ q).2.2.2.2.2, (HD.out _ q).1, (HD.out _ q).2.1, (HD.out _ q).2.2.1, (HD.out _ q).2.2.2.1, (HD.out _ q).2.2.2.2.1, (HD.out _ q).2.2.2.2.2⟩ (fun hHeld => ?_)
   clear hK K
   refine tk_call (i := 17) (by kernel_rfl) (by kernel_rfl) (fun o ho K hK => ?_)
   simp only [List.getElem?_toArray, List.getElem?_cons_succ, List.getElem?_cons_zero, Option.some.injEq] at ho
   subst ho
   go_simp
   refine (CO.out w23 q).mono ?_
   rintro e w24 ⟨rfl, hb⟩
   replace bs := bs.ret hb
   replace q := bs.q
   clear hb
   go_simp
   clear hHeld
   refine hK.out _ _ ⟨bs.at 0 0 rfl rfl, bs.at 0 1 rfl rfl, (HC.out _ q).1, (HC.out _ q).2.1, (HC.out _ q).2.2.1, (HC.out _ q).2.2.2.1, (HC.out _ q).2.2.2.2.1, (HC.out _ q).2.2.2.2.2, (HD.out _ q).1, (HD.out _ q).2.1, (HD.out _ q).2.2.1, (HD.out _ q).2.2.2.1, (HD.out _ q).2.2.2.2.1, (HD.out _ q).2.2.2.2.2⟩ (fun hHeld => ?_)
   clear hK K
   refine tk_on (i := 18) (some 29) (v := ?_) (by kernel_rfl) (by kernel_rfl) (by kernel_rfl) (by kernel_rfl) (fun _ _ _ h => h) (by assumption) (fun o ho w' hSw => ?_) ?_
   rotate_left
   ·(simp only [List.getElem?_toArray, List.getElem?_cons_succ, List.getElem?_cons_zero, Option.some.injEq] at ho; subst ho; (try dsimp only at hSw); go_simp; try with_reducible rfl)
   simp only [Act.put, List.setIfInBounds_toArray, List.set_cons_zero, List.set_cons_succ]
   refine wpAnyH_done (by kernel_rfl) ?_ _
   clear hHeld
   by_cases hl : lessT x.j y.j = true
   ·have hq : Q < 0 := by rw [hl] at hneg; exact of_decide_eq_true hneg
    have hq2 : decide (0 ≤ Q) = false := decide_eq_false (by omega)
    go_wp2_with fail
    go_roundw
    case rel => exact ⟨m + 1, .inl (by omega), by go_num, by rw [HS.out]; exact hl, bs⟩
    case measure => simp [intOf]; omega
   ·have hq : ¬ Q < 0 := fun h => hl (by rw [← hneg]; exact decide_eq_true h)
    have hq2 : decide (0 ≤ Q) = true := decide_eq_true (by omega)
    go_wp2_with fail
    go_ret
    refine ⟨?_, q⟩
    have hf := chG_part (m + 2) (by rw [HS.out]; simpa using hl)
    rw [HO.out] at hf
    rw [hf]
    rfl
  ·have hO : O = true := by
    have e : M.take (m + 1) = M := List.take_of_length_le (by rw [HL.out]; omega)
    rw [e] at hch
    rw [← HO.out]; exact hch
   subst hO
   have wl : ¬ (m : Int) + 1 < (L : Int) := by omega
   have c_s0 := bs.at 0 0 rfl rfl
   have c_s1 := bs.at 0 1 rfl rfl
   go_wp2_with fail
   go_ret
   exact ⟨rfl, q⟩
end Go.Proofs.YtjgeiieiinmdnaaGreatDoor
