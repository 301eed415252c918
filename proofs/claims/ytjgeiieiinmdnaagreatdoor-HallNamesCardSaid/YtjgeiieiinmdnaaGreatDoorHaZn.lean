/- law 24's HallNames. PRINTED BY PROGRAM (gen_haz.py). -/
import Derived.Test.YtjgeiieiinmdnaaGreatDoorLl
import Derived.Test.YtjgeiieiinmdnaaGreatDoorLi
namespace Go.Proofs.YtjgeiieiinmdnaaGreatDoor
open Go.RowKit Go.Lib

theorem same24 (v u : Value) (xs ys : List (List UInt8)) (w : World) (hv : IsGrp v xs w) (hu : IsGrp u ys w) (hx : xs.length ≤ 10000) (hy : ys.length ≤ 10000) (e : xs = ys) : Calls Tryz.prog 21 #[v, u] w (Ret w (.bool true)) := by
 have := r4_grp v u xs ys w hv hu hx hy
 rw [decide_eq_true e] at this
 exact this
set_option maxHeartbeats 16000000 in
set_option maxRecDepth 100000 in
theorem l24_names (w : World) (hm : ML w) (ht : Tab w) : Calls Tryz.prog 6 #[] w (Ret w (.bool true)) := by
 have HM := Lib.hid hm
 have HT := Lib.hid ht
 clear hm ht
 have bs := Sx.start w
 have q := bs.q
 go_enter Tryz.func6, Tryz.ntmps6
 have hc := l24_two w (HM.out.ret q)
 have HC := Lib.hid hc
 clear hc
 go_wp2_with fail
 refine HC.out.mono ?_
 rintro e w1 ⟨⟨A1, ⟨a1, b1⟩, R1, ⟨r1, s1⟩, m1⟩, rfl, hd, ho, hb⟩
 have o_c := OwC.mk' bs ho
 clear ho HC
 replace bs := bs.ret hb
 replace q := bs.q
 clear hb
 obtain ⟨LA1, hLA⟩ : ∃ L, A1.length = L := ⟨_, rfl⟩
 obtain ⟨LR1, hLR⟩ : ∃ L, R1.length = L := ⟨_, rfl⟩
 simp only [CoI.v]
 rw [hLA, hLR]
 have HA1 := Lib.hid hLA
 have HR1 := Lib.hid hLR
 have HD1 := Lib.hid hd
 clear hLA hLR hd
 have d0 := (bs.lit (w1.heap.size) rfl [.slice a1 LA1 b1, .slice r1 LR1 s1, .int .i64 m1] 25)
 have c0_n00 := d0.at 0 0 rfl rfl
 have c0_n01 := d0.at 0 1 rfl rfl
 have c0_n02 := d0.at 0 2 rfl rfl
 go_wp2_with fail
 clear d0 c0_n00 c0_n01 c0_n02
 obtain ⟨w2, hw2, y2, al, bs⟩ := bs.alloc (w1.heap.size) rfl [.slice a1 LA1 b1, .slice r1 LR1 s1, .int .i64 m1] 25
 replace o_c := o_c.alloc (w1.heap.size) rfl al
 clear al
 replace q := bs.q
 rw [hw2]
 have hc := l24_binds ⟨A1, (a1, b1), R1, (r1, s1), m1⟩ ⟨#[117, 64, 97]⟩ ⟨#[114, 49]⟩ ⟨#[117, 64, 97, 47, 114, 49]⟩ dB1 w2 o_c.csub (by rw [HD1.out]; exact plain_A0) (by decide) (by decide) (HM.out.ret q) (HT.out.ret q) (by rw [HD1.out]; exact (bindS_eq (by decide +kernel)).trans bind_B1)
 simp only [CoI.v] at hc
 rw [HA1.out, HR1.out] at hc
 have HC := Lib.hid hc
 clear hc
 have c_c0 := bs.at 0 0 rfl rfl
 have c_c1 := bs.at 0 1 rfl rfl
 have c_c2 := bs.at 0 2 rfl rfl
 go_wp2_with fail
 refine HC.out.mono ?_
 rintro e w3 ⟨⟨A2, ⟨a2, b2⟩, R2, ⟨r2, s2⟩, m2⟩, rfl, hd, ho, hb⟩
 clear c_c0 c_c1 c_c2
 have o_n := OwC.mk' bs ho
 clear ho HC
 replace o_c := o_c.ret hb
 replace bs := bs.ret hb
 replace q := bs.q
 clear hb
 obtain ⟨LA2, hLA⟩ : ∃ L, A2.length = L := ⟨_, rfl⟩
 obtain ⟨LR2, hLR⟩ : ∃ L, R2.length = L := ⟨_, rfl⟩
 simp only [CoI.v]
 rw [hLA, hLR]
 have HA2 := Lib.hid hLA
 have HR2 := Lib.hid hLR
 have HD2 := Lib.hid hd
 clear hLA hLR hd
 clear o_c
 have o_c := o_n
 clear o_n
 have c_c0 := bs.at 0 0 rfl rfl
 have f_c0 := bs.fz 0 0 rfl rfl
 have c_c1 := bs.at 0 1 rfl rfl
 have f_c1 := bs.fz 0 1 rfl rfl
 have c_c2 := bs.at 0 2 rfl rfl
 have f_c2 := bs.fz 0 2 rfl rfl
 go_wp2_with fail
 clear c_c0 f_c0 c_c1 f_c1 c_c2 f_c2
 obtain ⟨w4, hw4, y4, bs⟩ := bs.sets 0 0 [.slice a2 LA2 b2, .slice r2 LR2 s2, .int .i64 m2] rfl (Nat.le_of_ble_eq_true rfl)
 replace o_c := o_c.sets 0 rfl hw4
 replace q := bs.q
 simp only [World.setCells, Nat.reduceAdd] at hw4
 rw [hw4]
 have hc := l24_binds ⟨A2, (a2, b2), R2, (r2, s2), m2⟩ ⟨#[117, 64, 97]⟩ ⟨#[]⟩ ⟨#[117, 64, 97, 47, 114, 50]⟩ dB2 w4 o_c.csub (by rw [HD2.out]; exact flat_B1) (by decide) (by decide) (HM.out.ret q) (HT.out.ret q) (by rw [HD2.out]; exact (bindS_eq (by decide +kernel)).trans bind_B2)
 simp only [CoI.v] at hc
 rw [HA2.out, HR2.out] at hc
 have HC := Lib.hid hc
 clear hc
 have c_c0 := bs.at 0 0 rfl rfl
 have c_c1 := bs.at 0 1 rfl rfl
 have c_c2 := bs.at 0 2 rfl rfl
 go_wp2_with fail
 refine HC.out.mono ?_
 rintro e w5 ⟨⟨A3, ⟨a3, b3⟩, R3, ⟨r3, s3⟩, m3⟩, rfl, hd, ho, hb⟩
 clear c_c0 c_c1 c_c2
 have o_n := OwC.mk' bs ho
 clear ho HC
 replace o_c := o_c.ret hb
 replace bs := bs.ret hb
 replace q := bs.q
 clear hb
 obtain ⟨LA3, hLA⟩ : ∃ L, A3.length = L := ⟨_, rfl⟩
 obtain ⟨LR3, hLR⟩ : ∃ L, R3.length = L := ⟨_, rfl⟩
 simp only [CoI.v]
 rw [hLA, hLR]
 have HA3 := Lib.hid hLA
 have HR3 := Lib.hid hLR
 have HD3 := Lib.hid hd
 clear hLA hLR hd
 clear o_c
 have o_c := o_n
 clear o_n
 have c_c0 := bs.at 0 0 rfl rfl
 have f_c0 := bs.fz 0 0 rfl rfl
 have c_c1 := bs.at 0 1 rfl rfl
 have f_c1 := bs.fz 0 1 rfl rfl
 have c_c2 := bs.at 0 2 rfl rfl
 have f_c2 := bs.fz 0 2 rfl rfl
 go_wp2_with fail
 clear c_c0 f_c0 c_c1 f_c1 c_c2 f_c2
 obtain ⟨w6, hw6, y6, bs⟩ := bs.sets 0 0 [.slice a3 LA3 b3, .slice r3 LR3 s3, .int .i64 m3] rfl (Nat.le_of_ble_eq_true rfl)
 replace o_c := o_c.sets 0 rfl hw6
 replace q := bs.q
 simp only [World.setCells, Nat.reduceAdd] at hw6
 rw [hw6]
 have hc := l24_binds ⟨A3, (a3, b3), R3, (r3, s3), m3⟩ ⟨#[118, 64, 97]⟩ ⟨#[]⟩ ⟨#[118, 64, 97, 47, 114, 51]⟩ dB3 w6 o_c.csub (by rw [HD3.out]; exact flat_B2) (by decide) (by decide) (HM.out.ret q) (HT.out.ret q) (by rw [HD3.out]; exact (bindS_eq (by decide +kernel)).trans bind_B3)
 simp only [CoI.v] at hc
 rw [HA3.out, HR3.out] at hc
 have HC := Lib.hid hc
 clear hc
 have c_c0 := bs.at 0 0 rfl rfl
 have c_c1 := bs.at 0 1 rfl rfl
 have c_c2 := bs.at 0 2 rfl rfl
 go_wp2_with fail
 refine HC.out.mono ?_
 rintro e w7 ⟨⟨A4, ⟨a4, b4⟩, R4, ⟨r4, s4⟩, m4⟩, rfl, hd, ho, hb⟩
 clear c_c0 c_c1 c_c2
 have o_n := OwC.mk' bs ho
 clear ho HC
 replace o_c := o_c.ret hb
 replace bs := bs.ret hb
 replace q := bs.q
 clear hb
 obtain ⟨LA4, hLA⟩ : ∃ L, A4.length = L := ⟨_, rfl⟩
 obtain ⟨LR4, hLR⟩ : ∃ L, R4.length = L := ⟨_, rfl⟩
 simp only [CoI.v]
 rw [hLA, hLR]
 have HA4 := Lib.hid hLA
 have HR4 := Lib.hid hLR
 have HD4 := Lib.hid hd
 clear hLA hLR hd
 clear o_c
 have o_c := o_n
 clear o_n
 have c_c0 := bs.at 0 0 rfl rfl
 have f_c0 := bs.fz 0 0 rfl rfl
 have c_c1 := bs.at 0 1 rfl rfl
 have f_c1 := bs.fz 0 1 rfl rfl
 have c_c2 := bs.at 0 2 rfl rfl
 have f_c2 := bs.fz 0 2 rfl rfl
 go_wp2_with fail
 clear c_c0 f_c0 c_c1 f_c1 c_c2 f_c2
 obtain ⟨w8, hw8, y8, bs⟩ := bs.sets 0 0 [.slice a4 LA4 b4, .slice r4 LR4 s4, .int .i64 m4] rfl (Nat.le_of_ble_eq_true rfl)
 replace o_c := o_c.sets 0 rfl hw8
 replace q := bs.q
 simp only [World.setCells, Nat.reduceAdd] at hw8
 rw [hw8]
 have hc : Calls Tryz.prog 41 #[CoI.v ⟨A4, (a4, b4), R4, (r4, s4), m4⟩, .agg #[.string ⟨#[117, 64, 97, 47, 114, 49]⟩, .bool true, .int .i64 5, .slice none 0 0, .bool false, .slice none 0 0]] w8 (TurnIs w8 (dX1, 0)) := by
  have h := ha_With pT ⟨A4, (a4, b4), R4, (r4, s4), m4⟩ ⟨[117, 64, 97, 47, 114, 49], true, 5, [], (none, 0), false, [], (none, 0)⟩ w8 (fit_plain pT (by rw [HD4.out]; exact flat_B3) o_c.csub) ⟨⟨IsL.nil _ _, IsGrp.nil _⟩, by decide, by decide, (fun _ h => by cases h), by decide, (fun _ h => by cases h)⟩ ⟨by decide, by decide, (fun _ h => by cases h)⟩ (HM.out.ret q)
  have e : withF pT (CoI.d ⟨A4, (a4, b4), R4, (r4, s4), m4⟩) (RsI.d ⟨[117, 64, 97, 47, 114, 49], true, 5, [], (none, 0), false, [], (none, 0)⟩) = (dX1, 0) := by rw [HD4.out]; exact with_X1
  rw [e] at h
  exact h
 simp only [CoI.v] at hc
 rw [HA4.out, HR4.out] at hc
 have HC := Lib.hid hc
 clear hc
 have c_c0 := bs.at 0 0 rfl rfl
 have c_c1 := bs.at 0 1 rfl rfl
 have c_c2 := bs.at 0 2 rfl rfl
 go_wp2_with fail
 refine HC.out.mono ?_
 rintro e w9 ⟨⟨A5, ⟨a5, b5⟩, R5, ⟨r5, s5⟩, m5⟩, rfl, hd, ho, hb⟩
 clear c_c0 c_c1 c_c2
 have o_n := OwC.mk' bs ho
 clear ho HC
 replace o_c := o_c.ret hb
 replace bs := bs.ret hb
 replace q := bs.q
 clear hb
 obtain ⟨LA5, hLA⟩ : ∃ L, A5.length = L := ⟨_, rfl⟩
 obtain ⟨LR5, hLR⟩ : ∃ L, R5.length = L := ⟨_, rfl⟩
 simp only [CoI.v]
 rw [hLA, hLR]
 have HA5 := Lib.hid hLA
 have HR5 := Lib.hid hLR
 have HD5 := Lib.hid hd
 clear hLA hLR hd
 have o_x := o_n
 clear o_n
 have c_c0 := bs.at 0 0 rfl rfl
 have c_c1 := bs.at 0 1 rfl rfl
 have c_c2 := bs.at 0 2 rfl rfl
 have d0 := (bs.lit (w9.heap.size) rfl [.slice a5 LA5 b5, .slice r5 LR5 s5, .int .i64 m5] 25)
 have c0_n00 := d0.at 1 0 rfl rfl
 have c0_n01 := d0.at 1 1 rfl rfl
 have c0_n02 := d0.at 1 2 rfl rfl
 have c0_c0 := d0.at 0 0 rfl rfl
 have c0_c1 := d0.at 0 1 rfl rfl
 have c0_c2 := d0.at 0 2 rfl rfl
 go_wp2_with fail
 clear c_c0 c_c1 c_c2 d0 c0_n00 c0_n01 c0_n02 c0_c0 c0_c1 c0_c2
 obtain ⟨w10, hw10, y10, al, bs⟩ := bs.alloc (w9.heap.size) rfl [.slice a5 LA5 b5, .slice r5 LR5 s5, .int .i64 m5] 25
 replace o_c := o_c.alloc (w9.heap.size) rfl al
 replace o_x := o_x.alloc (w9.heap.size) rfl al
 clear al
 replace q := bs.q
 rw [hw10]
 have hc : Calls Tryz.prog 41 #[CoI.v ⟨A5, (a5, b5), R5, (r5, s5), m5⟩, .agg #[.string ⟨#[117, 64, 97, 47, 114, 50]⟩, .bool true, .int .i64 (-1), .slice none 0 0, .bool true, .slice none 0 0]] w10 (TurnIs w10 (dX2, 0)) := by
  have h := ha_With pT ⟨A5, (a5, b5), R5, (r5, s5), m5⟩ ⟨[117, 64, 97, 47, 114, 50], true, (-1), [], (none, 0), true, [], (none, 0)⟩ w10 (fit_plain pT (by rw [HD5.out]; exact flat_X1) o_x.csub) ⟨⟨IsL.nil _ _, IsGrp.nil _⟩, by decide, by decide, (fun _ h => by cases h), by decide, (fun _ h => by cases h)⟩ ⟨by decide, by decide, (fun _ h => by cases h)⟩ (HM.out.ret q)
  have e : withF pT (CoI.d ⟨A5, (a5, b5), R5, (r5, s5), m5⟩) (RsI.d ⟨[117, 64, 97, 47, 114, 50], true, (-1), [], (none, 0), true, [], (none, 0)⟩) = (dX2, 0) := by rw [HD5.out]; exact with_X2
  rw [e] at h
  exact h
 simp only [CoI.v] at hc
 rw [HA5.out, HR5.out] at hc
 have HC := Lib.hid hc
 clear hc
 have c_x0 := bs.at 1 0 rfl rfl
 have c_x1 := bs.at 1 1 rfl rfl
 have c_x2 := bs.at 1 2 rfl rfl
 go_wp2_with fail
 refine HC.out.mono ?_
 rintro e w11 ⟨⟨A6, ⟨a6, b6⟩, R6, ⟨r6, s6⟩, m6⟩, rfl, hd, ho, hb⟩
 clear c_x0 c_x1 c_x2
 have o_n := OwC.mk' bs ho
 clear ho HC
 replace o_c := o_c.ret hb
 replace o_x := o_x.ret hb
 replace bs := bs.ret hb
 replace q := bs.q
 clear hb
 obtain ⟨LA6, hLA⟩ : ∃ L, A6.length = L := ⟨_, rfl⟩
 obtain ⟨LR6, hLR⟩ : ∃ L, R6.length = L := ⟨_, rfl⟩
 simp only [CoI.v]
 rw [hLA, hLR]
 have HA6 := Lib.hid hLA
 have HR6 := Lib.hid hLR
 have HD6 := Lib.hid hd
 clear hLA hLR hd
 clear o_x
 have o_x := o_n
 clear o_n
 have c_x0 := bs.at 1 0 rfl rfl
 have f_x0 := bs.fz 1 0 rfl rfl
 have c_x1 := bs.at 1 1 rfl rfl
 have f_x1 := bs.fz 1 1 rfl rfl
 have c_x2 := bs.at 1 2 rfl rfl
 have f_x2 := bs.fz 1 2 rfl rfl
 go_wp2_with fail
 clear c_x0 f_x0 c_x1 f_x1 c_x2 f_x2
 obtain ⟨w12, hw12, y12, bs⟩ := bs.sets 1 0 [.slice a6 LA6 b6, .slice r6 LR6 s6, .int .i64 m6] rfl (Nat.le_of_ble_eq_true rfl)
 replace o_c := o_c.sets 1 rfl hw12
 replace o_x := o_x.sets 1 rfl hw12
 replace q := bs.q
 simp only [World.setCells, Nat.reduceAdd] at hw12
 rw [hw12]
 have hc : Calls Tryz.prog 22 #[CoI.v ⟨A6, (a6, b6), R6, (r6, s6), m6⟩, .string ⟨#[117, 64, 97]⟩] w12 (TxtIs w12 [[117, 64, 97, 47, 114, 49], [117, 64, 97, 47, 114, 50]]) := by
  have h := ha_On ⟨A6, (a6, b6), R6, (r6, s6), m6⟩ [117, 64, 97] w12 o_x.csub.2 (fit_plain pT (by rw [HD6.out]; exact flat_X2) o_x.csub).zR (fun r hr => ((fit_plain pT (by rw [HD6.out]; exact flat_X2) o_x.csub).rs r hr).1.j) (HM.out.ret q)
  have e : onF (R6.map RsI.d) [117, 64, 97] = [[117, 64, 97, 47, 114, 49], [117, 64, 97, 47, 114, 50]] := by rw [show R6.map RsI.d = dX2.2.1 from congrArg (fun d : Co => d.2.1) HD6.out]; exact on_X2
  rw [e] at h
  exact h
 simp only [CoI.v] at hc
 rw [HA6.out, HR6.out] at hc
 have HC := Lib.hid hc
 clear hc
 have c_x0 := bs.at 1 0 rfl rfl
 have c_x1 := bs.at 1 1 rfl rfl
 have c_x2 := bs.at 1 2 rfl rfl
 go_wp2_with fail
 refine HC.out.mono ?_
 rintro e w13 ⟨v1, rfl, hown, hb⟩
 clear HC
 clear c_x0 c_x1 c_x2
 have o_v1 : OwX w _ 9 1 v1 2 (strV [[117, 64, 97, 47, 114, 49], [117, 64, 97, 47, 114, 50]]) w13 := OwX.mk' bs (OwS.owns hown (fun _ h => h))
 clear hown
 replace o_c := o_c.ret hb
 replace o_x := o_x.ret hb
 replace bs := bs.ret hb
 replace q := bs.q
 clear hb
 obtain ⟨va1, vc1, rfl, -⟩ := row_form o_v1.1
 have c_x0 := bs.at 1 0 rfl rfl
 have c_x1 := bs.at 1 1 rfl rfl
 have c_x2 := bs.at 1 2 rfl rfl
 have d0 := (bs.lit (w13.heap.size) rfl [.string ⟨#[117, 64, 97, 47, 114, 49]⟩, .string ⟨#[117, 64, 97, 47, 114, 50]⟩] 9)
 have c0_n00 := d0.at 2 0 rfl rfl
 have c0_n01 := d0.at 2 1 rfl rfl
 have c0_x0 := d0.at 1 0 rfl rfl
 have c0_x1 := d0.at 1 1 rfl rfl
 have c0_x2 := d0.at 1 2 rfl rfl
 go_wp2_with fail
 clear c_x0 c_x1 c_x2 d0 c0_n00 c0_n01 c0_x0 c0_x1 c0_x2
 obtain ⟨w14, hw14, y14, al, bs⟩ := bs.alloc (w13.heap.size) rfl [.string ⟨#[117, 64, 97, 47, 114, 49]⟩, .string ⟨#[117, 64, 97, 47, 114, 50]⟩] 9
 replace o_c := o_c.alloc (w13.heap.size) rfl al
 replace o_x := o_x.alloc (w13.heap.size) rfl al
 replace o_v1 := o_v1.alloc (w13.heap.size) rfl al
 clear al
 replace q := bs.q
 rw [hw14]
 have hc := same24 (.slice va1 2 vc1) (.slice (some ⟨w13.heap.size, 0, none⟩) 2 2) [[117, 64, 97, 47, 114, 49], [117, 64, 97, 47, 114, 50]] [[117, 64, 97, 47, 114, 49], [117, 64, 97, 47, 114, 50]] w14 (IsGrp.own o_v1.1) (Bx.grp (g := [[117, 64, 97, 47, 114, 49], [117, 64, 97, 47, 114, 50]]) (bs.box 2 rfl)) (by decide) (by decide) rfl
 refine (hc).mono ?_
 rintro e w15 ⟨rfl, hb⟩
 replace o_c := o_c.ret hb
 replace o_x := o_x.ret hb
 replace o_v1 := o_v1.ret hb
 replace bs := bs.ret hb
 replace q := bs.q
 clear hb
 clear hc
 clear o_v1
 have hc : Calls Tryz.prog 24 #[CoI.v ⟨A6, (a6, b6), R6, (r6, s6), m6⟩, .string ⟨#[117, 64, 97]⟩] w15 (TxtIs w15 [[117, 64, 97, 47, 114, 49]]) := by
  have h := ha_Best ⟨A6, (a6, b6), R6, (r6, s6), m6⟩ [117, 64, 97] w15 o_x.csub.2 (fit_plain pT (by rw [HD6.out]; exact flat_X2) o_x.csub).zR (fun r hr => ((fit_plain pT (by rw [HD6.out]; exact flat_X2) o_x.csub).rs r hr).1.j) (HM.out.ret q)
  have e : bestF (R6.map RsI.d) [117, 64, 97] = [[117, 64, 97, 47, 114, 49]] := by rw [show R6.map RsI.d = dX2.2.1 from congrArg (fun d : Co => d.2.1) HD6.out]; exact best_X2
  rw [e] at h
  exact h
 simp only [CoI.v] at hc
 rw [HA6.out, HR6.out] at hc
 have HC := Lib.hid hc
 clear hc
 have c_x0 := bs.at 1 0 rfl rfl
 have c_x1 := bs.at 1 1 rfl rfl
 have c_x2 := bs.at 1 2 rfl rfl
 go_wp2_with fail
 refine HC.out.mono ?_
 rintro e w16 ⟨v2, rfl, hown, hb⟩
 clear HC
 clear c_x0 c_x1 c_x2
 have o_v2 : OwX w _ 9 1 v2 1 (strV [[117, 64, 97, 47, 114, 49]]) w16 := OwX.mk' bs (OwS.owns hown (fun _ h => h))
 clear hown
 replace o_c := o_c.ret hb
 replace o_x := o_x.ret hb
 replace bs := bs.ret hb
 replace q := bs.q
 clear hb
 obtain ⟨va2, vc2, rfl, -⟩ := row_form o_v2.1
 have c_x0 := bs.at 1 0 rfl rfl
 have c_x1 := bs.at 1 1 rfl rfl
 have c_x2 := bs.at 1 2 rfl rfl
 have d0 := (bs.lit (w16.heap.size) rfl [.string ⟨#[117, 64, 97, 47, 114, 49]⟩] 9)
 have c0_n00 := d0.at 3 0 rfl rfl
 have c0_x0 := d0.at 1 0 rfl rfl
 have c0_x1 := d0.at 1 1 rfl rfl
 have c0_x2 := d0.at 1 2 rfl rfl
 go_wp2_with fail
 clear c_x0 c_x1 c_x2 d0 c0_n00 c0_x0 c0_x1 c0_x2
 obtain ⟨w17, hw17, y17, al, bs⟩ := bs.alloc (w16.heap.size) rfl [.string ⟨#[117, 64, 97, 47, 114, 49]⟩] 9
 replace o_c := o_c.alloc (w16.heap.size) rfl al
 replace o_x := o_x.alloc (w16.heap.size) rfl al
 replace o_v2 := o_v2.alloc (w16.heap.size) rfl al
 clear al
 replace q := bs.q
 rw [hw17]
 have hc := same24 (.slice va2 1 vc2) (.slice (some ⟨w16.heap.size, 0, none⟩) 1 1) [[117, 64, 97, 47, 114, 49]] [[117, 64, 97, 47, 114, 49]] w17 (IsGrp.own o_v2.1) (Bx.grp (g := [[117, 64, 97, 47, 114, 49]]) (bs.box 3 rfl)) (by decide) (by decide) rfl
 refine (hc).mono ?_
 rintro e w18 ⟨rfl, hb⟩
 replace o_c := o_c.ret hb
 replace o_x := o_x.ret hb
 replace o_v2 := o_v2.ret hb
 replace bs := bs.ret hb
 replace q := bs.q
 clear hb
 clear hc
 clear o_v2
 have hc : Calls Tryz.prog 26 #[CoI.v ⟨A6, (a6, b6), R6, (r6, s6), m6⟩, .string ⟨#[117, 64, 97]⟩] w18 (TxtIs w18 [[117, 64, 97, 47, 114, 50]]) := by
  have h := ha_Asked ⟨A6, (a6, b6), R6, (r6, s6), m6⟩ [117, 64, 97] w18 o_x.csub.2 (fit_plain pT (by rw [HD6.out]; exact flat_X2) o_x.csub).zR (fun r hr => ((fit_plain pT (by rw [HD6.out]; exact flat_X2) o_x.csub).rs r hr).1.j) (HM.out.ret q)
  have e : askedF (R6.map RsI.d) [117, 64, 97] = [[117, 64, 97, 47, 114, 50]] := by rw [show R6.map RsI.d = dX2.2.1 from congrArg (fun d : Co => d.2.1) HD6.out]; exact asked_X2
  rw [e] at h
  exact h
 simp only [CoI.v] at hc
 rw [HA6.out, HR6.out] at hc
 have HC := Lib.hid hc
 clear hc
 have c_x0 := bs.at 1 0 rfl rfl
 have c_x1 := bs.at 1 1 rfl rfl
 have c_x2 := bs.at 1 2 rfl rfl
 go_wp2_with fail
 refine HC.out.mono ?_
 rintro e w19 ⟨v3, rfl, hown, hb⟩
 clear HC
 clear c_x0 c_x1 c_x2
 have o_v3 : OwX w _ 9 1 v3 1 (strV [[117, 64, 97, 47, 114, 50]]) w19 := OwX.mk' bs (OwS.owns hown (fun _ h => h))
 clear hown
 replace o_c := o_c.ret hb
 replace o_x := o_x.ret hb
 replace bs := bs.ret hb
 replace q := bs.q
 clear hb
 obtain ⟨va3, vc3, rfl, -⟩ := row_form o_v3.1
 have c_x0 := bs.at 1 0 rfl rfl
 have c_x1 := bs.at 1 1 rfl rfl
 have c_x2 := bs.at 1 2 rfl rfl
 have d0 := (bs.lit (w19.heap.size) rfl [.string ⟨#[117, 64, 97, 47, 114, 50]⟩] 9)
 have c0_n00 := d0.at 4 0 rfl rfl
 have c0_x0 := d0.at 1 0 rfl rfl
 have c0_x1 := d0.at 1 1 rfl rfl
 have c0_x2 := d0.at 1 2 rfl rfl
 go_wp2_with fail
 clear c_x0 c_x1 c_x2 d0 c0_n00 c0_x0 c0_x1 c0_x2
 obtain ⟨w20, hw20, y20, al, bs⟩ := bs.alloc (w19.heap.size) rfl [.string ⟨#[117, 64, 97, 47, 114, 50]⟩] 9
 replace o_c := o_c.alloc (w19.heap.size) rfl al
 replace o_x := o_x.alloc (w19.heap.size) rfl al
 replace o_v3 := o_v3.alloc (w19.heap.size) rfl al
 clear al
 replace q := bs.q
 rw [hw20]
 have hc := same24 (.slice va3 1 vc3) (.slice (some ⟨w19.heap.size, 0, none⟩) 1 1) [[117, 64, 97, 47, 114, 50]] [[117, 64, 97, 47, 114, 50]] w20 (IsGrp.own o_v3.1) (Bx.grp (g := [[117, 64, 97, 47, 114, 50]]) (bs.box 4 rfl)) (by decide) (by decide) rfl
 refine (hc).mono ?_
 rintro e w21 ⟨rfl, hb⟩
 replace o_c := o_c.ret hb
 replace o_x := o_x.ret hb
 replace o_v3 := o_v3.ret hb
 replace bs := bs.ret hb
 replace q := bs.q
 clear hb
 clear hc
 clear o_v3
 have hc : Calls Tryz.prog 22 #[CoI.v ⟨A6, (a6, b6), R6, (r6, s6), m6⟩, .string ⟨#[118, 64, 97]⟩] w21 (TxtIs w21 []) := by
  have h := ha_On ⟨A6, (a6, b6), R6, (r6, s6), m6⟩ [118, 64, 97] w21 o_x.csub.2 (fit_plain pT (by rw [HD6.out]; exact flat_X2) o_x.csub).zR (fun r hr => ((fit_plain pT (by rw [HD6.out]; exact flat_X2) o_x.csub).rs r hr).1.j) (HM.out.ret q)
  have e : onF (R6.map RsI.d) [118, 64, 97] = [] := by rw [show R6.map RsI.d = dX2.2.1 from congrArg (fun d : Co => d.2.1) HD6.out]; exact on_X2V
  rw [e] at h
  exact h
 simp only [CoI.v] at hc
 rw [HA6.out, HR6.out] at hc
 have HC := Lib.hid hc
 clear hc
 have c_x0 := bs.at 1 0 rfl rfl
 have c_x1 := bs.at 1 1 rfl rfl
 have c_x2 := bs.at 1 2 rfl rfl
 go_wp2_with fail
 refine HC.out.mono ?_
 rintro e w22 ⟨v4, rfl, hown, hb⟩
 clear HC
 clear c_x0 c_x1 c_x2
 have o_v4 : OwX w _ 9 1 v4 0 (strV []) w22 := OwX.mk' bs (OwS.owns hown (fun _ h => h))
 clear hown
 replace o_c := o_c.ret hb
 replace o_x := o_x.ret hb
 replace bs := bs.ret hb
 replace q := bs.q
 clear hb
 obtain ⟨va4, vc4, rfl, -⟩ := row_form o_v4.1
 clear o_v4
 have hc := ha_Bind pT ⟨A4, (a4, b4), R4, (r4, s4), m4⟩ ⟨#[117, 64, 97]⟩ ⟨#[9]⟩ w22 (fit_plain pT (by rw [HD4.out]; exact flat_B3) o_c.csub) (by decide) (by decide) (HM.out.ret q) (HT.out.ret q)
 have he : bindF pT (CoI.d ⟨A4, (a4, b4), R4, (r4, s4), m4⟩) (⟨#[117, 64, 97]⟩ : ByteArray).data.toList (⟨#[9]⟩ : ByteArray).data.toList = (co0, [], 2) := by rw [HD4.out]; exact (bindS_eq (by decide +kernel)).trans no_g
 rw [he] at hc
 clear he
 simp only [CoI.v] at hc
 rw [HA4.out, HR4.out] at hc
 have HC := Lib.hid hc
 clear hc
 have c_c0 := bs.at 0 0 rfl rfl
 have c_c1 := bs.at 0 1 rfl rfl
 have c_c2 := bs.at 0 2 rfl rfl
 go_wp2_with fail
 refine HC.out.mono ?_
 rintro e w23 ⟨⟨A7, ⟨a7, b7⟩, R7, ⟨r7, s7⟩, m7⟩, rfl, hd, ho, hb⟩
 clear c_c0 c_c1 c_c2
 clear ho HC
 replace o_c := o_c.ret hb
 replace o_x := o_x.ret hb
 replace bs := bs.ret hb
 replace q := bs.q
 clear hb
 obtain ⟨LA7, hLA⟩ : ∃ L, A7.length = L := ⟨_, rfl⟩
 obtain ⟨LR7, hLR⟩ : ∃ L, R7.length = L := ⟨_, rfl⟩
 simp only [CoI.v]
 rw [hLA, hLR]
 have HA7 := Lib.hid hLA
 have HR7 := Lib.hid hLR
 have HD7 := Lib.hid hd
 clear hLA hLR hd
 have c_c0 := bs.at 0 0 rfl rfl
 have c_c1 := bs.at 0 1 rfl rfl
 have c_c2 := bs.at 0 2 rfl rfl
 have d0 := (bs.lit (w23.heap.size) rfl [.slice a7 LA7 b7, .slice r7 LR7 s7, .int .i64 m7] 25)
 have c0_n00 := d0.at 5 0 rfl rfl
 have c0_n01 := d0.at 5 1 rfl rfl
 have c0_n02 := d0.at 5 2 rfl rfl
 have c0_c0 := d0.at 0 0 rfl rfl
 have c0_c1 := d0.at 0 1 rfl rfl
 have c0_c2 := d0.at 0 2 rfl rfl
 go_wp2_with fail
 clear c_c0 c_c1 c_c2 d0 c0_n00 c0_n01 c0_n02 c0_c0 c0_c1 c0_c2
 obtain ⟨w24, hw24, y24, al, bs⟩ := bs.alloc (w23.heap.size) rfl [.slice a7 LA7 b7, .slice r7 LR7 s7, .int .i64 m7] 25
 replace o_c := o_c.alloc (w23.heap.size) rfl al
 replace o_x := o_x.alloc (w23.heap.size) rfl al
 clear al
 replace q := bs.q
 rw [hw24]
 have hc : Calls Tryz.prog 41 #[CoI.v ⟨A4, (a4, b4), R4, (r4, s4), m4⟩, .agg #[.string ⟨#[117, 64, 97, 47, 114, 49]⟩, .bool false, .int .i64 5, .slice none 0 0, .bool false, .slice none 0 0]] w24 (TurnIs w24 (co0, 2)) := by
  have h := ha_With pT ⟨A4, (a4, b4), R4, (r4, s4), m4⟩ ⟨[117, 64, 97, 47, 114, 49], false, 5, [], (none, 0), false, [], (none, 0)⟩ w24 (fit_plain pT (by rw [HD4.out]; exact flat_B3) o_c.csub) ⟨⟨IsL.nil _ _, IsGrp.nil _⟩, by decide, by decide, (fun _ h => by cases h), by decide, (fun _ h => by cases h)⟩ ⟨by decide, by decide, (fun _ h => by cases h)⟩ (HM.out.ret q)
  have e : withF pT (CoI.d ⟨A4, (a4, b4), R4, (r4, s4), m4⟩) (RsI.d ⟨[117, 64, 97, 47, 114, 49], false, 5, [], (none, 0), false, [], (none, 0)⟩) = (co0, 2) := by rw [HD4.out]; exact no_h
  rw [e] at h
  exact h
 simp only [CoI.v] at hc
 rw [HA4.out, HR4.out] at hc
 have HC := Lib.hid hc
 clear hc
 have c_c0 := bs.at 0 0 rfl rfl
 have c_c1 := bs.at 0 1 rfl rfl
 have c_c2 := bs.at 0 2 rfl rfl
 go_wp2_with fail
 refine HC.out.mono ?_
 rintro e w25 ⟨⟨A8, ⟨a8, b8⟩, R8, ⟨r8, s8⟩, m8⟩, rfl, hd, ho, hb⟩
 clear c_c0 c_c1 c_c2
 clear ho HC
 replace o_c := o_c.ret hb
 replace o_x := o_x.ret hb
 replace bs := bs.ret hb
 replace q := bs.q
 clear hb
 obtain ⟨LA8, hLA⟩ : ∃ L, A8.length = L := ⟨_, rfl⟩
 obtain ⟨LR8, hLR⟩ : ∃ L, R8.length = L := ⟨_, rfl⟩
 simp only [CoI.v]
 rw [hLA, hLR]
 have HA8 := Lib.hid hLA
 have HR8 := Lib.hid hLR
 have HD8 := Lib.hid hd
 clear hLA hLR hd
 have c_c0 := bs.at 0 0 rfl rfl
 have c_c1 := bs.at 0 1 rfl rfl
 have c_c2 := bs.at 0 2 rfl rfl
 have d0 := (bs.lit (w25.heap.size) rfl [.slice a8 LA8 b8, .slice r8 LR8 s8, .int .i64 m8] 25)
 have c0_n00 := d0.at 6 0 rfl rfl
 have c0_n01 := d0.at 6 1 rfl rfl
 have c0_n02 := d0.at 6 2 rfl rfl
 have c0_c0 := d0.at 0 0 rfl rfl
 have c0_c1 := d0.at 0 1 rfl rfl
 have c0_c2 := d0.at 0 2 rfl rfl
 go_wp2_with fail
 clear c_c0 c_c1 c_c2 d0 c0_n00 c0_n01 c0_n02 c0_c0 c0_c1 c0_c2
 obtain ⟨w26, hw26, y26, al, bs⟩ := bs.alloc (w25.heap.size) rfl [.slice a8 LA8 b8, .slice r8 LR8 s8, .int .i64 m8] 25
 replace o_c := o_c.alloc (w25.heap.size) rfl al
 replace o_x := o_x.alloc (w25.heap.size) rfl al
 clear al
 replace q := bs.q
 rw [hw26]
 have hc : Calls Tryz.prog 41 #[CoI.v ⟨A4, (a4, b4), R4, (r4, s4), m4⟩, .agg #[.string ⟨#[117, 64, 97, 47, 120]⟩, .bool false, .int .i64 0, .slice none 0 0, .bool false, .slice none 0 0]] w26 (TurnIs w26 (co0, 6)) := by
  have h := ha_With pT ⟨A4, (a4, b4), R4, (r4, s4), m4⟩ ⟨[117, 64, 97, 47, 120], false, 0, [], (none, 0), false, [], (none, 0)⟩ w26 (fit_plain pT (by rw [HD4.out]; exact flat_B3) o_c.csub) ⟨⟨IsL.nil _ _, IsGrp.nil _⟩, by decide, by decide, (fun _ h => by cases h), by decide, (fun _ h => by cases h)⟩ ⟨by decide, by decide, (fun _ h => by cases h)⟩ (HM.out.ret q)
  have e : withF pT (CoI.d ⟨A4, (a4, b4), R4, (r4, s4), m4⟩) (RsI.d ⟨[117, 64, 97, 47, 120], false, 0, [], (none, 0), false, [], (none, 0)⟩) = (co0, 6) := by rw [HD4.out]; exact no_i
  rw [e] at h
  exact h
 simp only [CoI.v] at hc
 rw [HA4.out, HR4.out] at hc
 have HC := Lib.hid hc
 clear hc
 have c_c0 := bs.at 0 0 rfl rfl
 have c_c1 := bs.at 0 1 rfl rfl
 have c_c2 := bs.at 0 2 rfl rfl
 go_wp2_with fail
 refine HC.out.mono ?_
 rintro e w27 ⟨⟨A9, ⟨a9, b9⟩, R9, ⟨r9, s9⟩, m9⟩, rfl, hd, ho, hb⟩
 clear c_c0 c_c1 c_c2
 clear ho HC
 replace o_c := o_c.ret hb
 replace o_x := o_x.ret hb
 replace bs := bs.ret hb
 replace q := bs.q
 clear hb
 obtain ⟨LA9, hLA⟩ : ∃ L, A9.length = L := ⟨_, rfl⟩
 obtain ⟨LR9, hLR⟩ : ∃ L, R9.length = L := ⟨_, rfl⟩
 simp only [CoI.v]
 rw [hLA, hLR]
 have HA9 := Lib.hid hLA
 have HR9 := Lib.hid hLR
 have HD9 := Lib.hid hd
 clear hLA hLR hd
 have c_c0 := bs.at 0 0 rfl rfl
 have c_c1 := bs.at 0 1 rfl rfl
 have c_c2 := bs.at 0 2 rfl rfl
 have d0 := (bs.lit (w27.heap.size) rfl [.slice a9 LA9 b9, .slice r9 LR9 s9, .int .i64 m9] 25)
 have c0_n00 := d0.at 7 0 rfl rfl
 have c0_n01 := d0.at 7 1 rfl rfl
 have c0_n02 := d0.at 7 2 rfl rfl
 have c0_c0 := d0.at 0 0 rfl rfl
 have c0_c1 := d0.at 0 1 rfl rfl
 have c0_c2 := d0.at 0 2 rfl rfl
 go_wp2_with fail
 clear c_c0 c_c1 c_c2 d0 c0_n00 c0_n01 c0_n02 c0_c0 c0_c1 c0_c2
 obtain ⟨w28, hw28, y28, al, bs⟩ := bs.alloc (w27.heap.size) rfl [.slice a9 LA9 b9, .slice r9 LR9 s9, .int .i64 m9] 25
 replace o_c := o_c.alloc (w27.heap.size) rfl al
 replace o_x := o_x.alloc (w27.heap.size) rfl al
 clear al
 replace q := bs.q
 rw [hw28]
 have hc : Calls Tryz.prog 39 #[CoI.v ⟨A4, (a4, b4), R4, (r4, s4), m4⟩, .string ⟨#[117, 64, 97, 47, 120]⟩] w28 (TurnIs w28 (co0, 6)) := by
  have h := ha_Free pT ⟨A4, (a4, b4), R4, (r4, s4), m4⟩ [117, 64, 97, 47, 120] w28 (fit_plain pT (by rw [HD4.out]; exact flat_B3) o_c.csub) (HM.out.ret q)
  have e : freeF pT (CoI.d ⟨A4, (a4, b4), R4, (r4, s4), m4⟩) [117, 64, 97, 47, 120] = (co0, 6) := by rw [HD4.out]; exact no_j
  rw [e] at h
  exact h
 simp only [CoI.v] at hc
 rw [HA4.out, HR4.out] at hc
 have HC := Lib.hid hc
 clear hc
 have c_c0 := bs.at 0 0 rfl rfl
 have c_c1 := bs.at 0 1 rfl rfl
 have c_c2 := bs.at 0 2 rfl rfl
 go_wp2_with fail
 refine HC.out.mono ?_
 rintro e w29 ⟨⟨A10, ⟨a10, b10⟩, R10, ⟨r10, s10⟩, m10⟩, rfl, hd, ho, hb⟩
 clear c_c0 c_c1 c_c2
 clear ho HC
 replace o_c := o_c.ret hb
 replace o_x := o_x.ret hb
 replace bs := bs.ret hb
 replace q := bs.q
 clear hb
 obtain ⟨LA10, hLA⟩ : ∃ L, A10.length = L := ⟨_, rfl⟩
 obtain ⟨LR10, hLR⟩ : ∃ L, R10.length = L := ⟨_, rfl⟩
 simp only [CoI.v]
 rw [hLA, hLR]
 have HA10 := Lib.hid hLA
 have HR10 := Lib.hid hLR
 have HD10 := Lib.hid hd
 clear hLA hLR hd
 have c_c0 := bs.at 0 0 rfl rfl
 have c_c1 := bs.at 0 1 rfl rfl
 have c_c2 := bs.at 0 2 rfl rfl
 have d0 := (bs.lit (w29.heap.size) rfl [.slice a10 LA10 b10, .slice r10 LR10 s10, .int .i64 m10] 25)
 have c0_n00 := d0.at 8 0 rfl rfl
 have c0_n01 := d0.at 8 1 rfl rfl
 have c0_n02 := d0.at 8 2 rfl rfl
 have c0_c0 := d0.at 0 0 rfl rfl
 have c0_c1 := d0.at 0 1 rfl rfl
 have c0_c2 := d0.at 0 2 rfl rfl
 go_wp2_with fail
 clear c_c0 c_c1 c_c2 d0 c0_n00 c0_n01 c0_n02 c0_c0 c0_c1 c0_c2
 obtain ⟨w30, hw30, y30, al, bs⟩ := bs.alloc (w29.heap.size) rfl [.slice a10 LA10 b10, .slice r10 LR10 s10, .int .i64 m10] 25
 replace o_c := o_c.alloc (w29.heap.size) rfl al
 replace o_x := o_x.alloc (w29.heap.size) rfl al
 clear al
 replace q := bs.q
 rw [hw30]
 obtain ⟨w31, hw31, y31, al, bs⟩ := bs.alloc (w29.heap.size + 1) (by omega) [.string ⟨#[117, 64, 97]⟩, .string ⟨#[117, 64, 97]⟩] 9
 replace o_c := o_c.alloc (w29.heap.size + 1) (by omega) al
 replace o_x := o_x.alloc (w29.heap.size + 1) (by omega) al
 clear al
 replace q := bs.q
 rw [hw31]
 have hc : Calls Tryz.prog 15 #[.slice (some ⟨w29.heap.size + 1, 0, none⟩) 2 2] w31 (TurnIs w31 (co0, 2)) := by
  have h := ha_New (.slice (some ⟨w29.heap.size + 1, 0, none⟩) 2 2) [[117, 64, 97], [117, 64, 97]] w31 (Bx.grp (g := [[117, 64, 97], [117, 64, 97]]) (bs.box 9 rfl)) (by decide) (by decide) (HM.out.ret q)
  rw [show newF [[117, 64, 97], [117, 64, 97]] = (co0, 2) from no_k] at h
  exact h
 have HC := Lib.hid hc
 clear hc
 refine HC.out.mono ?_
 rintro e w32 ⟨⟨A11, ⟨a11, b11⟩, R11, ⟨r11, s11⟩, m11⟩, rfl, hd, ho, hb⟩
 clear ho hd HC
 replace o_c := o_c.ret hb
 replace o_x := o_x.ret hb
 replace bs := bs.ret hb
 replace q := bs.q
 clear hb
 obtain ⟨LA11, hLA⟩ : ∃ L, A11.length = L := ⟨_, rfl⟩
 obtain ⟨LR11, hLR⟩ : ∃ L, R11.length = L := ⟨_, rfl⟩
 simp only [CoI.v]
 rw [hLA, hLR]
 clear hLA hLR
 have c_c0 := bs.at 0 0 rfl rfl
 have c_c1 := bs.at 0 1 rfl rfl
 have c_c2 := bs.at 0 2 rfl rfl
 have d0 := (bs.lit (w32.heap.size) rfl [.slice a11 LA11 b11, .slice r11 LR11 s11, .int .i64 m11] 25)
 have c0_n00 := d0.at 10 0 rfl rfl
 have c0_n01 := d0.at 10 1 rfl rfl
 have c0_n02 := d0.at 10 2 rfl rfl
 have c0_c0 := d0.at 0 0 rfl rfl
 have c0_c1 := d0.at 0 1 rfl rfl
 have c0_c2 := d0.at 0 2 rfl rfl
 go_wp2_with fail
 clear c_c0 c_c1 c_c2 d0 c0_n00 c0_n01 c0_n02 c0_c0 c0_c1 c0_c2
 obtain ⟨w33, hw33, y33, al, bs⟩ := bs.alloc (w32.heap.size) rfl [.slice a11 LA11 b11, .slice r11 LR11 s11, .int .i64 m11] 25
 replace o_c := o_c.alloc (w32.heap.size) rfl al
 replace o_x := o_x.alloc (w32.heap.size) rfl al
 clear al
 replace q := bs.q
 rw [hw33]
 obtain ⟨w34, hw34, y34, al, bs⟩ := bs.alloc (w32.heap.size + 1) (by omega) [.string ⟨#[97]⟩] 9
 replace o_c := o_c.alloc (w32.heap.size + 1) (by omega) al
 replace o_x := o_x.alloc (w32.heap.size + 1) (by omega) al
 clear al
 replace q := bs.q
 rw [hw34]
 have hc : Calls Tryz.prog 15 #[.slice (some ⟨w32.heap.size + 1, 0, none⟩) 1 1] w34 (TurnIs w34 (co0, 2)) := by
  have h := ha_New (.slice (some ⟨w32.heap.size + 1, 0, none⟩) 1 1) [[97]] w34 (Bx.grp (g := [[97]]) (bs.box 11 rfl)) (by decide) (by decide) (HM.out.ret q)
  rw [show newF [[97]] = (co0, 2) from no_l] at h
  exact h
 have HC := Lib.hid hc
 clear hc
 refine HC.out.mono ?_
 rintro e w35 ⟨⟨A12, ⟨a12, b12⟩, R12, ⟨r12, s12⟩, m12⟩, rfl, hd, ho, hb⟩
 clear ho hd HC
 replace o_c := o_c.ret hb
 replace o_x := o_x.ret hb
 replace bs := bs.ret hb
 replace q := bs.q
 clear hb
 obtain ⟨LA12, hLA⟩ : ∃ L, A12.length = L := ⟨_, rfl⟩
 obtain ⟨LR12, hLR⟩ : ∃ L, R12.length = L := ⟨_, rfl⟩
 simp only [CoI.v]
 rw [hLA, hLR]
 clear hLA hLR
 have c_c0 := bs.at 0 0 rfl rfl
 have c_c1 := bs.at 0 1 rfl rfl
 have c_c2 := bs.at 0 2 rfl rfl
 have d0 := (bs.lit (w35.heap.size) rfl [.slice a12 LA12 b12, .slice r12 LR12 s12, .int .i64 m12] 25)
 have c0_n00 := d0.at 12 0 rfl rfl
 have c0_n01 := d0.at 12 1 rfl rfl
 have c0_n02 := d0.at 12 2 rfl rfl
 have c0_c0 := d0.at 0 0 rfl rfl
 have c0_c1 := d0.at 0 1 rfl rfl
 have c0_c2 := d0.at 0 2 rfl rfl
 go_wp2_with fail
 clear c_c0 c_c1 c_c2 d0 c0_n00 c0_n01 c0_n02 c0_c0 c0_c1 c0_c2
 obtain ⟨w36, hw36, y36, al, bs⟩ := bs.alloc (w35.heap.size) rfl [.slice a12 LA12 b12, .slice r12 LR12 s12, .int .i64 m12] 25
 replace o_c := o_c.alloc (w35.heap.size) rfl al
 replace o_x := o_x.alloc (w35.heap.size) rfl al
 clear al
 replace q := bs.q
 rw [hw36]
 go_loopw [23] (fun i wx => ∃ (n : Nat) (A0 : List AcI) (a0 : Option Addr) (b0 : Nat) (R0 : List RsI) (r0 : Option Addr) (s0 : Nat) (m0 : Int) (LA0 LR0 : Nat), n ≤ 13 ∧ i = .int .i64 n ∧ A0.length = LA0 ∧ R0.length = LR0 ∧ CoI.d ⟨A0, (a0, b0), R0, (r0, s0), m0⟩ = dN n ∧ OwC w [w1.heap.size, w9.heap.size, w13.heap.size, w16.heap.size, w19.heap.size, w23.heap.size, w25.heap.size, w27.heap.size, w29.heap.size, w29.heap.size + 1, w32.heap.size, w32.heap.size + 1, w35.heap.size] ⟨A0, (a0, b0), R0, (r0, s0), m0⟩ wx ∧ Sx w [(w1.heap.size, [.slice a0 LA0 b0, .slice r0 LR0 s0, .int .i64 m0]), (w9.heap.size, [.slice a6 LA6 b6, .slice r6 LR6 s6, .int .i64 m6]), (w13.heap.size, [.string ⟨#[117, 64, 97, 47, 114, 49]⟩, .string ⟨#[117, 64, 97, 47, 114, 50]⟩]), (w16.heap.size, [.string ⟨#[117, 64, 97, 47, 114, 49]⟩]), (w19.heap.size, [.string ⟨#[117, 64, 97, 47, 114, 50]⟩]), (w23.heap.size, [.slice a7 LA7 b7, .slice r7 LR7 s7, .int .i64 m7]), (w25.heap.size, [.slice a8 LA8 b8, .slice r8 LR8 s8, .int .i64 m8]), (w27.heap.size, [.slice a9 LA9 b9, .slice r9 LR9 s9, .int .i64 m9]), (w29.heap.size, [.slice a10 LA10 b10, .slice r10 LR10 s10, .int .i64 m10]), (w29.heap.size + 1, [.string ⟨#[117, 64, 97]⟩, .string ⟨#[117, 64, 97]⟩]), (w32.heap.size, [.slice a11 LA11 b11, .slice r11 LR11 s11, .int .i64 m11]), (w32.heap.size + 1, [.string ⟨#[97]⟩]), (w35.heap.size, [.slice a12 LA12 b12, .slice r12 LR12 s12, .int .i64 m12])] wx) (fun i _ => 13 - (intOf i).toNat)
 case atStart => exact ⟨0, A4, a4, b4, R4, r4, s4, m4, LA4, LR4, Nat.zero_le _, rfl, HA4.out, HR4.out, HD4.out, o_c, bs⟩
 case round =>
  clear bs q o_c o_x
  obtain ⟨n, A0, a0, b0, R0, r0, s0, m0, LA0, LR0, hn, rfl, hA0, hR0, hD0, o_c, bs⟩ := hrel
  have q := bs.q
  have HA0 := Lib.hid hA0
  have HR0 := Lib.hid hR0
  have HD0 := Lib.hid hD0
  clear hA0 hR0 hD0
  by_cases hlt : n < 13
  ·have hok := dN_at (n := n) (by omega)
   have HOK := Lib.hid hok
   clear hok
   have hw1 : (n : Int) < 13 := by omega
   have hw2 : IntKind.i64.wrap ((n : Int) + 1) = (n : Int) + 1 := IntWalk.i64_in _ (by omega)
   have hc := ha_Bind pT ⟨A0, (a0, b0), R0, (r0, s0), m0⟩ ⟨#[117, 64, 97]⟩ ⟨#[]⟩ wr (fit_plain pT (by rw [HD0.out]; exact HOK.out.2) o_c.csub) (by decide) (by decide) (HM.out.ret q) (HT.out.ret q)
   have he : bindF pT (CoI.d ⟨A0, (a0, b0), R0, (r0, s0), m0⟩) (⟨#[117, 64, 97]⟩ : ByteArray).data.toList (⟨#[]⟩ : ByteArray).data.toList = bindS pT (dN n) tU [] := by rw [HD0.out]; exact bindS_eq HOK.out.1
   rw [he] at hc
   clear he
   obtain ⟨X, hX⟩ : ∃ X, bindS pT (dN n) tU [] = X := ⟨_, rfl⟩
   have hX2 : dN (n + 1) = X.1 := by rw [← hX]; rfl
   rw [hX] at hc
   have HX2 := Lib.hid hX2
   clear hX hX2
   simp only [CoI.v] at hc
   rw [HA0.out, HR0.out] at hc
   have HC := Lib.hid hc
   clear hc
   have c_c0 := bs.at 0 0 rfl rfl
   have c_c1 := bs.at 0 1 rfl rfl
   have c_c2 := bs.at 0 2 rfl rfl
   go_wp2_with fail
   refine HC.out.mono ?_
   rintro e w201 ⟨⟨A20, ⟨a20, b20⟩, R20, ⟨r20, s20⟩, m20⟩, rfl, hd, ho, hb⟩
   clear c_c0 c_c1 c_c2
   have o_n := OwC.mk' bs ho
   clear ho HC
   replace o_c := o_c.ret hb
   replace bs := bs.ret hb
   replace q := bs.q
   clear hb
   obtain ⟨LA20, hLA⟩ : ∃ L, A20.length = L := ⟨_, rfl⟩
   obtain ⟨LR20, hLR⟩ : ∃ L, R20.length = L := ⟨_, rfl⟩
   simp only [CoI.v]
   rw [hLA, hLR]
   have HA20 := Lib.hid hLA
   have HR20 := Lib.hid hLR
   have HD20 := Lib.hid hd
   clear hLA hLR hd
   clear o_c
   have o_c := o_n
   clear o_n
   have c_c0 := bs.at 0 0 rfl rfl
   have f_c0 := bs.fz 0 0 rfl rfl
   have c_c1 := bs.at 0 1 rfl rfl
   have f_c1 := bs.fz 0 1 rfl rfl
   have c_c2 := bs.at 0 2 rfl rfl
   have f_c2 := bs.fz 0 2 rfl rfl
   go_wp2_with fail
   clear c_c0 f_c0 c_c1 f_c1 c_c2 f_c2
   obtain ⟨w202, hw202, y202, bs⟩ := bs.sets 0 0 [.slice a20 LA20 b20, .slice r20 LR20 s20, .int .i64 m20] rfl (Nat.le_of_ble_eq_true rfl)
   replace o_c := o_c.sets 0 rfl hw202
   replace q := bs.q
   simp only [World.setCells, Nat.reduceAdd] at hw202
   rw [hw202]
   go_roundw
   case rel => exact ⟨n + 1, A20, a20, b20, R20, r20, s20, m20, LA20, LR20, by omega, by go_num, HA20.out, HR20.out, HD20.out.trans HX2.out.symm, o_c, bs⟩
   case measure => simp [intOf]; omega
  ·obtain rfl : n = 13 := by omega
   have hl : LR0 = 16 := by rw [← HR0.out]; have := congrArg (fun d : Co => d.2.1.length) HD0.out; rw [← dN_len]; simpa using this
   subst hl
   have hc := ha_Bind pT ⟨A0, (a0, b0), R0, (r0, s0), m0⟩ ⟨#[117, 64, 97]⟩ ⟨#[]⟩ wr (fit_plain pT (by rw [HD0.out]; exact (dN_at (by decide)).2) o_c.csub) (by decide) (by decide) (HM.out.ret q) (HT.out.ret q)
   have he : bindF pT (CoI.d ⟨A0, (a0, b0), R0, (r0, s0), m0⟩) (⟨#[117, 64, 97]⟩ : ByteArray).data.toList (⟨#[]⟩ : ByteArray).data.toList = (co0, [], 9) := by rw [HD0.out]; exact (bindS_eq (dN_at (by decide)).1).trans no_m
   rw [he] at hc
   clear he
   simp only [CoI.v] at hc
   rw [HA0.out, HR0.out] at hc
   have HC := Lib.hid hc
   clear hc
   have c_c0 := bs.at 0 0 rfl rfl
   have c_c1 := bs.at 0 1 rfl rfl
   have c_c2 := bs.at 0 2 rfl rfl
   go_wp2_with fail
   refine HC.out.mono ?_
   rintro e w301 ⟨⟨A21, ⟨a21, b21⟩, R21, ⟨r21, s21⟩, m21⟩, rfl, hd, ho, hb⟩
   clear c_c0 c_c1 c_c2
   clear ho HC
   replace o_c := o_c.ret hb
   replace bs := bs.ret hb
   replace q := bs.q
   clear hb
   obtain ⟨LA21, hLA⟩ : ∃ L, A21.length = L := ⟨_, rfl⟩
   obtain ⟨LR21, hLR⟩ : ∃ L, R21.length = L := ⟨_, rfl⟩
   simp only [CoI.v]
   rw [hLA, hLR]
   have HA21 := Lib.hid hLA
   have HR21 := Lib.hid hLR
   have HD21 := Lib.hid hd
   clear hLA hLR hd
   have c_c0 := bs.at 0 0 rfl rfl
   have c_c1 := bs.at 0 1 rfl rfl
   have c_c2 := bs.at 0 2 rfl rfl
   have d0 := (bs.lit (w301.heap.size) rfl [.slice a21 LA21 b21, .slice r21 LR21 s21, .int .i64 m21] 25)
   have c0_n00 := d0.at 13 0 rfl rfl
   have c0_n01 := d0.at 13 1 rfl rfl
   have c0_n02 := d0.at 13 2 rfl rfl
   have c0_c0 := d0.at 0 0 rfl rfl
   have c0_c1 := d0.at 0 1 rfl rfl
   have c0_c2 := d0.at 0 2 rfl rfl
   go_wp2_with fail
   clear c_c0 c_c1 c_c2 d0 c0_n00 c0_n01 c0_n02 c0_c0 c0_c1 c0_c2
   obtain ⟨w302, hw302, y302, al, bs⟩ := bs.alloc (w301.heap.size) rfl [.slice a21 LA21 b21, .slice r21 LR21 s21, .int .i64 m21] 25
   replace o_c := o_c.alloc (w301.heap.size) rfl al
   clear al
   replace q := bs.q
   rw [hw302]
   have HC := Lib.hid (l24_alive w302 (HM.out.ret q) (HT.out.ret q))
   have c_c0 := bs.at 0 0 rfl rfl
   have c_c1 := bs.at 0 1 rfl rfl
   have c_c2 := bs.at 0 2 rfl rfl
   go_wp2_with fail
   refine (HC.out).mono ?_
   rintro e w303 ⟨rfl, hb⟩
   clear c_c0 c_c1 c_c2
   replace o_c := o_c.ret hb
   replace bs := bs.ret hb
   replace q := bs.q
   clear hb
   have c_c0 := bs.at 0 0 rfl rfl
   have c_c1 := bs.at 0 1 rfl rfl
   have c_c2 := bs.at 0 2 rfl rfl
   go_wp2_with fail
   go_ret
   exact ⟨rfl, q⟩
end Go.Proofs.YtjgeiieiinmdnaaGreatDoor
