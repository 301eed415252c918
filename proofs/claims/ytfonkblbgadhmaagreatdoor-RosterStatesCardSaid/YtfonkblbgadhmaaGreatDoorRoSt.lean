/- law21: RosterStates. PRINTED BY PROGRAM (gen_rost.py). -/
import Derived.Test.YtfonkblbgadhmaaGreatDoorRoPu
namespace Go.Proofs.YtfonkblbgadhmaaGreatDoor
open Go.RowKit Go.Lib

theorem neq_sub (a b c d x y z u : Bool) (w : World) : (binOp .neq 29 (.agg #[.bool a, .bool b, .bool c, .bool d]) (.agg #[.bool x, .bool y, .bool z, .bool u])).run Tryz.prog w = .ok (.bool (!decide ((a, b, c, d) = (x, y, z, u)))) w := by
 rw [run_neq_struct, eq_sub]
 rfl
/-- what stands behind a stanza that went. -/
structure StOk (L : List It) (S : List It) (t : List UInt8) (s : Sb) : Prop where
 sub : (wasL S t).s = s
 is : (findL S t).isSome = (((findL L t).isSome && (wasL L t).k) || !decide (s = sb0))
 sm : Sm S
theorem send_st {L : List It} {ver : Int} {t : List UInt8} {k : Int} (hgr : greatP L = false) (zt : t.length ≤ 500) (hk0 : 0 ≤ k) (hk1 : k ≤ 255) (h : sendC L ver t k = 0) :
  ∃ S V b, StOk L S t (subSend (wasL L t).s k).1 ∧ (subMay (wasL L t).s = true ∧ 1 ≤ k ∧ k ≤ 4) ∧
   (∀ v K W, K.map Prod.fst = L → IsItems v K W → ML W → Calls Tryz.prog 23 #[.agg #[v, .int .i64 ver], .string ⟨t.toArray⟩, .int .u8 k] W (SendC W S V (subSend (wasL L t).s k).2 b 0)) := by
 have hg := sm_great hgr
 obtain ⟨h1, h2⟩ := sendC_facts h
 obtain ⟨m, a, k1, k2⟩ := askC_facts h1
 have hm := (was_may (t := t) m).1
 have hs := states_turn m a (send_may hm k1 k2)
 refine ⟨_, turnV L ver t (subSend (wasL L t).s k).1, turnPush L t (subSend (wasL L t).s k).1, ⟨hs.1, hs.2, sm_turn hg zt⟩, ⟨hm, k1, k2⟩, fun v K W hK p1 p2 => ?_⟩
 ·subst hK
  have c := ro_Send v ver K t k W p1 (Sm.im ⟨by omega, hg.2⟩ rfl) p2 (by omega) hk0 hk1
  have e : sendP (K.map Prod.fst) ver t k = (turnL (K.map Prod.fst) t (subSend (wasL (K.map Prod.fst) t).s k).1, turnV (K.map Prod.fst) ver t (subSend (wasL (K.map Prod.fst) t).s k).1, (subSend (wasL (K.map Prod.fst) t).s k).2, turnPush (K.map Prod.fst) t (subSend (wasL (K.map Prod.fst) t).s k).1) := by unfold sendP; rw [if_pos h]
  rw [h, e] at c
  exact c
theorem send_no {L : List It} {ver : Int} {t : List UInt8} {k : Int} (hgr : greatP L = false) (zt : t.length ≤ 500) (hk0 : 0 ≤ k) (hk1 : k ≤ 255) (h : sendC L ver t k ≠ 0) (v : Value) (K : List Im) (W : World) (hK : K.map Prod.fst = L) (p1 : IsItems v K W) (p2 : ML W) :
  Calls Tryz.prog 23 #[.agg #[v, .int .i64 ver], .string ⟨t.toArray⟩, .int .u8 k] W (SendC W [] 0 false false (sendC L ver t k)) := by
 have hg := sm_great hgr
 subst hK
 have c := ro_Send v ver K t k W p1 (Sm.im ⟨by omega, hg.2⟩ rfl) p2 (by omega) hk0 hk1
 have e : sendP (K.map Prod.fst) ver t k = ([], 0, false, false) := by unfold sendP; rw [if_neg h]
 rw [e] at c
 exact c
theorem take_st {L : List It} {ver : Int} {t : List UInt8} {k : Int} (hgr : greatP L = false) (zt : t.length ≤ 500) (hk0 : 0 ≤ k) (hk1 : k ≤ 255) (h : takeC L ver t k = 0) :
  ∃ S V b, StOk L S t (subTake (wasL L t).s k).1 ∧ (subMay (wasL L t).s = true ∧ 1 ≤ k ∧ k ≤ 4) ∧
   (∀ v K W, K.map Prod.fst = L → IsItems v K W → ML W → Calls Tryz.prog 25 #[.agg #[v, .int .i64 ver], .string ⟨t.toArray⟩, .int .u8 k] W (TakeC W S V (subTake (wasL L t).s k).2.1 (subTake (wasL L t).s k).2.2 b 0)) := by
 have hg := sm_great hgr
 obtain ⟨h1, h2⟩ := takeC_facts h
 obtain ⟨m, a, k1, k2⟩ := askC_facts h1
 have hm := (was_may (t := t) m).1
 have hs := states_turn m a (take_may hm k1 k2)
 refine ⟨_, turnV L ver t (subTake (wasL L t).s k).1, turnPush L t (subTake (wasL L t).s k).1, ⟨hs.1, hs.2, sm_turn hg zt⟩, ⟨hm, k1, k2⟩, fun v K W hK p1 p2 => ?_⟩
 ·subst hK
  have c := ro_Take v ver K t k W p1 (Sm.im ⟨by omega, hg.2⟩ rfl) p2 (by omega) hk0 hk1
  have e : takeP (K.map Prod.fst) ver t k = (turnL (K.map Prod.fst) t (subTake (wasL (K.map Prod.fst) t).s k).1, turnV (K.map Prod.fst) ver t (subTake (wasL (K.map Prod.fst) t).s k).1, (subTake (wasL (K.map Prod.fst) t).s k).2.1, (subTake (wasL (K.map Prod.fst) t).s k).2.2, turnPush (K.map Prod.fst) t (subTake (wasL (K.map Prod.fst) t).s k).1) := by unfold takeP; rw [if_pos h]
  rw [h, e] at c
  exact c
theorem take_no {L : List It} {ver : Int} {t : List UInt8} {k : Int} (hgr : greatP L = false) (zt : t.length ≤ 500) (hk0 : 0 ≤ k) (hk1 : k ≤ 255) (h : takeC L ver t k ≠ 0) (v : Value) (K : List Im) (W : World) (hK : K.map Prod.fst = L) (p1 : IsItems v K W) (p2 : ML W) :
  Calls Tryz.prog 25 #[.agg #[v, .int .i64 ver], .string ⟨t.toArray⟩, .int .u8 k] W (TakeC W [] 0 false 0 false (takeC L ver t k)) := by
 have hg := sm_great hgr
 subst hK
 have c := ro_Take v ver K t k W p1 (Sm.im ⟨by omega, hg.2⟩ rfl) p2 (by omega) hk0 hk1
 have e : takeP (K.map Prod.fst) ver t k = ([], 0, false, 0, false) := by unfold takeP; rw [if_neg h]
 rw [e] at c
 exact c
set_option maxHeartbeats 8000000 in
set_option maxRecDepth 100000 in
theorem states21_nn (v : Value) (ver : Int) (M : List Im) (t : List UInt8) (kd : Int) (w : World) (hv : IsItems v M w) (hm : ML w) (hgr : greatP (M.map Prod.fst) = false) (zt : t.length ≤ 500) (hk0 : 0 ≤ kd) (hk1 : kd ≤ 255) (e3 : sendC (M.map Prod.fst) ver t kd ≠ 0) (e4 : takeC (M.map Prod.fst) ver t kd ≠ 0) :
  Calls Tryz.prog 7 #[.agg #[v, .int .i64 ver], .string ⟨t.toArray⟩, .int .u8 kd] w (Ret w (.bool true)) := by
 obtain ⟨a0, cap0, hf, -⟩ := hv.form
 obtain ⟨L0, hL⟩ : ∃ L, M.length = L := ⟨_, rfl⟩
 rw [hL] at hf
 subst hf
 have zt2 : (⟨t.toArray⟩ : ByteArray).size = t.length := by rw [← size_toList]
 have HV := Lib.hid hv
 have HM := Lib.hid hm
 have CG := fun (w' : World) (hb : Below w.heap.size w w') => r21_Great (.slice a0 L0 cap0) ver M w' (hv.ret hb)
 rw [hgr] at CG
 have CG := Lib.hid CG
 have h1' : ¬ (500 : Int) < (t.length : Int) := by omega
 have hsg := sm_great hgr
 have CF := fun (w' : World) (hb : Below w.heap.size w w') => ro_Find (.slice a0 L0 cap0) ver M ⟨t.toArray⟩ w' (hv.ret hb) (by have := (Sm.im ⟨by omega, hsg.2⟩ rfl : SmallI M).1; omega) (fun p hp => ((Sm.im ⟨by omega, hsg.2⟩ rfl : SmallI M).2 p hp).2.2.1)
 unfold Fnd21 at CF
 simp only at CF
 have P3 := send_no hgr zt hk0 hk1 e3
 obtain ⟨E3, hE3⟩ : ∃ E, sendC (M.map Prod.fst) ver t kd = E := ⟨_, rfl⟩
 rw [hE3] at P3 e3
 have f3 : (E3 == 0) = false := by simp [e3]
 have P4 := take_no hgr zt hk0 hk1 e4
 obtain ⟨E4, hE4⟩ : ∃ E, takeC (M.map Prod.fst) ver t kd = E := ⟨_, rfl⟩
 rw [hE4] at P4 e4
 have f4 : (E4 == 0) = false := by simp [e4]
 have hW : (findL (M.map Prod.fst) t).getD it0 = wasL (M.map Prod.fst) t := rfl
 rw [hW] at CF
 obtain ⟨X, hX⟩ : ∃ X, wasL (M.map Prod.fst) t = X := ⟨_, rfl⟩
 obtain ⟨B, hB⟩ : ∃ B, (findL (M.map Prod.fst) t).isSome = B := ⟨_, rfl⟩
 rw [hX, hB] at CF
 obtain ⟨xj, xn, xg, ⟨x1, x2, x3, x4⟩, xk⟩ := X
 simp only [itA, gvI, It.j, It.n, It.g, It.k] at CF
 have CF := Lib.hid CF
 have P3 := Lib.hid P3
 have P4 := Lib.hid P4
 have NE := neq_sub
 have EQ := eql_sub
 have EG := eg_sub
 clear hv hm hL hgr hW hX hB hsg zt hE3 e3 hE4 e4
 obtain ⟨W0, hW, y0, bs⟩ := Sx.start1 w [.slice a0 L0 cap0, .int .i64 ver] 24
 have HW := Lib.hid hW
 clear hW
 have q := bs.q
 go_enter Tryz.func7, Tryz.ntmps7
 go_wp2_with fail
 rw [HW.out]
 refine (alive21 W0 (HM.out.ret q)).mono ?_
 rintro e w1 ⟨rfl, hb⟩
 replace bs := bs.ret hb
 replace q := bs.q
 clear hb
 have c_r0 := bs.at 0 0 rfl rfl
 have c_r1 := bs.at 0 1 rfl rfl
 go_wp2_with fail
 refine (CG.out w1 q).mono ?_
 rintro e w2 ⟨rfl, hb⟩
 clear c_r0 c_r1
 replace bs := bs.ret hb
 replace q := bs.q
 clear hb
 have c_r0 := bs.at 0 0 rfl rfl
 have c_r1 := bs.at 0 1 rfl rfl
 go_wp2_with fail
 refine (CF.out w2 q).mono ?_
 rintro e w3 ⟨ga, gc, rfl, hrow, hb⟩
 clear c_r0 c_r1
 replace bs := bs.ret hb
 replace q := bs.q
 clear hb
 clear hrow
 have d0 := (bs.lit (w3.heap.size) rfl [.string ⟨xj.toArray⟩, .string ⟨xn.toArray⟩, .slice ga xg.length gc, .bool x1, .bool x2, .bool x3, .bool x4, .bool xk] 31)
 have c0_r0 := d0.at 0 0 rfl rfl
 have c0_r1 := d0.at 0 1 rfl rfl
 go_wp2_with fail
 clear d0 c0_r0 c0_r1
 obtain ⟨w4, hw4, y4, al, bs⟩ := bs.alloc (w3.heap.size) rfl [.string ⟨xj.toArray⟩, .string ⟨xn.toArray⟩, .slice ga xg.length gc, .bool x1, .bool x2, .bool x3, .bool x4, .bool xk] 31
 clear al
 replace q := bs.q
 rw [hw4]
 refine (P3.out (.slice a0 L0 cap0) M w4 rfl (HV.out.ret q) (HM.out.ret q)).mono ?_
 rintro e w5 ⟨a3, c3, rfl, K3, hK3, hown, hb⟩
 have o_n := OwnX.mk' bs hown
 replace bs := bs.ret hb
 replace q := bs.q
 clear hb
 clear hown
 have d0 := (bs.lit (w5.heap.size) rfl [.slice a3 0 c3, .int .i64 0] 24)
 have c0_r0 := d0.at 0 0 rfl rfl
 have c0_r1 := d0.at 0 1 rfl rfl
 go_wp2_with fail
 clear d0 c0_r0 c0_r1
 obtain ⟨w6, hw6, y6, al, bs⟩ := bs.alloc (w5.heap.size) rfl [.slice a3 0 c3, .int .i64 0] 24
 replace o_n := o_n.alloc (w5.heap.size) rfl al
 clear al
 replace q := bs.q
 rw [hw6]
 refine (P4.out (.slice a0 L0 cap0) M w6 rfl (HV.out.ret q) (HM.out.ret q)).mono ?_
 rintro e w7 ⟨a4, c4, rfl, K4, hK4, hown, hb⟩
 have o_m := OwnX.mk' bs hown
 replace o_n := o_n.ret hb
 replace bs := bs.ret hb
 replace q := bs.q
 clear hb
 clear hown
 have c_x0 := bs.at 1 0 rfl rfl
 have c_x1 := bs.at 1 1 rfl rfl
 have c_x2 := bs.at 1 2 rfl rfl
 have c_x3 := bs.at 1 3 rfl rfl
 have c_x4 := bs.at 1 4 rfl rfl
 have c_x5 := bs.at 1 5 rfl rfl
 have c_x6 := bs.at 1 6 rfl rfl
 have c_x7 := bs.at 1 7 rfl rfl
 have d0 := (bs.lit (w7.heap.size) rfl [.slice a4 0 c4, .int .i64 0] 24)
 have c0_x0 := d0.at 1 0 rfl rfl
 have c0_x1 := d0.at 1 1 rfl rfl
 have c0_x2 := d0.at 1 2 rfl rfl
 have c0_x3 := d0.at 1 3 rfl rfl
 have c0_x4 := d0.at 1 4 rfl rfl
 have c0_x5 := d0.at 1 5 rfl rfl
 have c0_x6 := d0.at 1 6 rfl rfl
 have c0_x7 := d0.at 1 7 rfl rfl
 have c0_a0 := d0.at 2 0 rfl rfl
 have c0_a1 := d0.at 2 1 rfl rfl
 have c0_n00 := d0.at 3 0 rfl rfl
 have c0_n01 := d0.at 3 1 rfl rfl
 go_wp2_with fail
 clear c_x0 c_x1 c_x2 c_x3 c_x4 c_x5 c_x6 c_x7 d0 c0_x0 c0_x1 c0_x2 c0_x3 c0_x4 c0_x5 c0_x6 c0_x7 c0_a0 c0_a1 c0_n00 c0_n01
 obtain ⟨w8, hw8, y8, al, bs⟩ := bs.alloc (w7.heap.size) rfl [.slice a4 0 c4, .int .i64 0] 24
 replace o_n := o_n.alloc (w7.heap.size) rfl al
 replace o_m := o_m.alloc (w7.heap.size) rfl al
 clear al
 replace q := bs.q
 rw [hw8]
 go_ret
 exact ⟨rfl, q⟩
set_option maxHeartbeats 8000000 in
set_option maxRecDepth 100000 in
theorem states21_nz (v : Value) (ver : Int) (M : List Im) (t : List UInt8) (kd : Int) (w : World) (hv : IsItems v M w) (hm : ML w) (hgr : greatP (M.map Prod.fst) = false) (zt : t.length ≤ 500) (hk0 : 0 ≤ kd) (hk1 : kd ≤ 255) (e3 : sendC (M.map Prod.fst) ver t kd ≠ 0) (e4 : takeC (M.map Prod.fst) ver t kd = 0) :
  Calls Tryz.prog 7 #[.agg #[v, .int .i64 ver], .string ⟨t.toArray⟩, .int .u8 kd] w (Ret w (.bool true)) := by
 obtain ⟨a0, cap0, hf, -⟩ := hv.form
 obtain ⟨L0, hL⟩ : ∃ L, M.length = L := ⟨_, rfl⟩
 rw [hL] at hf
 subst hf
 have zt2 : (⟨t.toArray⟩ : ByteArray).size = t.length := by rw [← size_toList]
 have HV := Lib.hid hv
 have HM := Lib.hid hm
 have CG := fun (w' : World) (hb : Below w.heap.size w w') => r21_Great (.slice a0 L0 cap0) ver M w' (hv.ret hb)
 rw [hgr] at CG
 have CG := Lib.hid CG
 have h1' : ¬ (500 : Int) < (t.length : Int) := by omega
 have hsg := sm_great hgr
 have CF := fun (w' : World) (hb : Below w.heap.size w w') => ro_Find (.slice a0 L0 cap0) ver M ⟨t.toArray⟩ w' (hv.ret hb) (by have := (Sm.im ⟨by omega, hsg.2⟩ rfl : SmallI M).1; omega) (fun p hp => ((Sm.im ⟨by omega, hsg.2⟩ rfl : SmallI M).2 p hp).2.2.1)
 unfold Fnd21 at CF
 simp only at CF
 have P3 := send_no hgr zt hk0 hk1 e3
 obtain ⟨E3, hE3⟩ : ∃ E, sendC (M.map Prod.fst) ver t kd = E := ⟨_, rfl⟩
 rw [hE3] at P3 e3
 have f3 : (E3 == 0) = false := by simp [e3]
 obtain ⟨S4, V4, b4, st4, ⟨may4, kl1, kl2⟩, P4⟩ := take_st hgr zt hk0 hk1 e4
 have hW : (findL (M.map Prod.fst) t).getD it0 = wasL (M.map Prod.fst) t := rfl
 rw [hW] at CF
 obtain ⟨X, hX⟩ : ∃ X, wasL (M.map Prod.fst) t = X := ⟨_, rfl⟩
 obtain ⟨B, hB⟩ : ∃ B, (findL (M.map Prod.fst) t).isSome = B := ⟨_, rfl⟩
 rw [hX, hB] at CF
 obtain ⟨p4, i4, m4⟩ := st4
 rw [hX] at p4 P4 i4 may4
 rw [hB] at i4
 have G4 := fun w' => sub_Take_G X.s kd w' may4 kl1 kl2
 obtain ⟨Y4, hY4⟩ : ∃ Y, wasL S4 t = Y := ⟨_, rfl⟩
 have F4 := fun (u : Value) (K : List Im) (w' : World) (hu : IsItems u K w') (hK : K.map Prod.fst = S4) => ro_Find u V4 K ⟨t.toArray⟩ w' hu (by have := (Sm.im m4 hK).1; omega) (fun p hp => ((Sm.im m4 hK).2 p hp).2.2.1)
 have F4 := fun (u : Value) (K : List Im) (w' : World) (hu : IsItems u K w') (hK : K.map Prod.fst = S4) => show Calls Tryz.prog 10 #[.agg #[u, .int .i64 V4], .string ⟨t.toArray⟩] w' (fun e w2 => ∃ a c, e = .returned (.tuple #[itA (Y4, (a, c)), .bool (findL S4 t).isSome]) ∧ w2.ownsRow w'.heap.size 9 1 (.slice a Y4.g.length c) Y4.g.length (strV Y4.g) ∧ Below w'.heap.size w' w2) by
  have h := F4 u K w' hu hK
  unfold Fnd21 at h
  simp only at h
  rw [hK] at h
  rw [← hY4]
  exact h
 rw [i4] at F4
 rw [hY4] at p4
 obtain ⟨xj, xn, xg, ⟨x1, x2, x3, x4⟩, xk⟩ := X
 simp only at p4 P4 F4 G4
 generalize hs4 : subTake (x1, x2, x3, x4) kd = sf4 at p4 P4 F4 G4
 obtain ⟨⟨z1, z2, z3, z4⟩, go4, bk4⟩ := sf4
 obtain ⟨y4j, y4n, y4g, y4s, y4k⟩ := Y4
 simp only at p4
 subst p4
 have hQ4 : (!decide ((z1, z2, z3, z4) = sb0)) = (z1 || (z2 || (z3 || z4))) := by cases z1 <;> cases z2 <;> cases z3 <;> cases z4 <;> rfl
 rw [hQ4] at F4
 simp only [itA, gvI, It.j, It.n, It.g, It.k] at F4
 have F4 := Lib.hid F4
 have G4 := Lib.hid G4
 clear hs4 i4 m4 hY4 hQ4 may4
 simp only [itA, gvI, It.j, It.n, It.g, It.k] at CF
 have CF := Lib.hid CF
 have P3 := Lib.hid P3
 have P4 := Lib.hid P4
 have NE := neq_sub
 have EQ := eql_sub
 have EG := eg_sub
 clear hv hm hL hgr hW hX hB hsg zt hE3 e3 e4
 cases B with
 | false =>
  obtain ⟨W0, hW, y0, bs⟩ := Sx.start1 w [.slice a0 L0 cap0, .int .i64 ver] 24
  have HW := Lib.hid hW
  clear hW
  have q := bs.q
  go_enter Tryz.func7, Tryz.ntmps7
  go_wp2_with fail
  rw [HW.out]
  refine (alive21 W0 (HM.out.ret q)).mono ?_
  rintro e w1 ⟨rfl, hb⟩
  replace bs := bs.ret hb
  replace q := bs.q
  clear hb
  have c_r0 := bs.at 0 0 rfl rfl
  have c_r1 := bs.at 0 1 rfl rfl
  go_wp2_with fail
  refine (CG.out w1 q).mono ?_
  rintro e w2 ⟨rfl, hb⟩
  clear c_r0 c_r1
  replace bs := bs.ret hb
  replace q := bs.q
  clear hb
  have c_r0 := bs.at 0 0 rfl rfl
  have c_r1 := bs.at 0 1 rfl rfl
  go_wp2_with fail
  refine (CF.out w2 q).mono ?_
  rintro e w3 ⟨ga, gc, rfl, hrow, hb⟩
  clear c_r0 c_r1
  replace bs := bs.ret hb
  replace q := bs.q
  clear hb
  clear hrow
  have d0 := (bs.lit (w3.heap.size) rfl [.string ⟨xj.toArray⟩, .string ⟨xn.toArray⟩, .slice ga xg.length gc, .bool x1, .bool x2, .bool x3, .bool x4, .bool xk] 31)
  have c0_r0 := d0.at 0 0 rfl rfl
  have c0_r1 := d0.at 0 1 rfl rfl
  go_wp2_with fail
  clear d0 c0_r0 c0_r1
  obtain ⟨w4, hw4, y4, al, bs⟩ := bs.alloc (w3.heap.size) rfl [.string ⟨xj.toArray⟩, .string ⟨xn.toArray⟩, .slice ga xg.length gc, .bool x1, .bool x2, .bool x3, .bool x4, .bool xk] 31
  clear al
  replace q := bs.q
  rw [hw4]
  refine (P3.out (.slice a0 L0 cap0) M w4 rfl (HV.out.ret q) (HM.out.ret q)).mono ?_
  rintro e w5 ⟨a3, c3, rfl, K3, hK3, hown, hb⟩
  have o_n := OwnX.mk' bs hown
  replace bs := bs.ret hb
  replace q := bs.q
  clear hb
  clear hown
  have d0 := (bs.lit (w5.heap.size) rfl [.slice a3 0 c3, .int .i64 0] 24)
  have c0_r0 := d0.at 0 0 rfl rfl
  have c0_r1 := d0.at 0 1 rfl rfl
  go_wp2_with fail
  clear d0 c0_r0 c0_r1
  obtain ⟨w6, hw6, y6, al, bs⟩ := bs.alloc (w5.heap.size) rfl [.slice a3 0 c3, .int .i64 0] 24
  replace o_n := o_n.alloc (w5.heap.size) rfl al
  clear al
  replace q := bs.q
  rw [hw6]
  refine (P4.out (.slice a0 L0 cap0) M w6 rfl (HV.out.ret q) (HM.out.ret q)).mono ?_
  rintro e w7 ⟨a4, c4, rfl, K4, hK4, hown, hb⟩
  have o_m := OwnX.mk' bs hown
  replace o_n := o_n.ret hb
  replace bs := bs.ret hb
  replace q := bs.q
  clear hb
  clear hown
  have c_x0 := bs.at 1 0 rfl rfl
  have c_x1 := bs.at 1 1 rfl rfl
  have c_x2 := bs.at 1 2 rfl rfl
  have c_x3 := bs.at 1 3 rfl rfl
  have c_x4 := bs.at 1 4 rfl rfl
  have c_x5 := bs.at 1 5 rfl rfl
  have c_x6 := bs.at 1 6 rfl rfl
  have c_x7 := bs.at 1 7 rfl rfl
  have d0 := (bs.lit (w7.heap.size) rfl [.slice a4 S4.length c4, .int .i64 V4] 24)
  have c0_x0 := d0.at 1 0 rfl rfl
  have c0_x1 := d0.at 1 1 rfl rfl
  have c0_x2 := d0.at 1 2 rfl rfl
  have c0_x3 := d0.at 1 3 rfl rfl
  have c0_x4 := d0.at 1 4 rfl rfl
  have c0_x5 := d0.at 1 5 rfl rfl
  have c0_x6 := d0.at 1 6 rfl rfl
  have c0_x7 := d0.at 1 7 rfl rfl
  have c0_a0 := d0.at 2 0 rfl rfl
  have c0_a1 := d0.at 2 1 rfl rfl
  have c0_n00 := d0.at 3 0 rfl rfl
  have c0_n01 := d0.at 3 1 rfl rfl
  go_wp2_with fail
  clear c_x0 c_x1 c_x2 c_x3 c_x4 c_x5 c_x6 c_x7 d0 c0_x0 c0_x1 c0_x2 c0_x3 c0_x4 c0_x5 c0_x6 c0_x7 c0_a0 c0_a1 c0_n00 c0_n01
  obtain ⟨w8, hw8, y8, al, bs⟩ := bs.alloc (w7.heap.size) rfl [.slice a4 S4.length c4, .int .i64 V4] 24
  replace o_n := o_n.alloc (w7.heap.size) rfl al
  replace o_m := o_m.alloc (w7.heap.size) rfl al
  clear al
  replace q := bs.q
  rw [hw8]
  refine (G4.out w8).mono ?_
  rintro e w9 ⟨rfl, hb⟩
  replace o_n := o_n.ret hb
  replace o_m := o_m.ret hb
  replace bs := bs.ret hb
  replace q := bs.q
  clear hb
  have d0 := (bs.lit (w9.heap.size) rfl [.bool z1, .bool z2, .bool z3, .bool z4] 29)
  have c0_x0 := d0.at 1 0 rfl rfl
  have c0_x1 := d0.at 1 1 rfl rfl
  have c0_x2 := d0.at 1 2 rfl rfl
  have c0_x3 := d0.at 1 3 rfl rfl
  have c0_x4 := d0.at 1 4 rfl rfl
  have c0_x5 := d0.at 1 5 rfl rfl
  have c0_x6 := d0.at 1 6 rfl rfl
  have c0_x7 := d0.at 1 7 rfl rfl
  have c0_a0 := d0.at 2 0 rfl rfl
  have c0_a1 := d0.at 2 1 rfl rfl
  have c0_b0 := d0.at 3 0 rfl rfl
  have c0_b1 := d0.at 3 1 rfl rfl
  have c0_n00 := d0.at 4 0 rfl rfl
  have c0_n01 := d0.at 4 1 rfl rfl
  have c0_n02 := d0.at 4 2 rfl rfl
  have c0_n03 := d0.at 4 3 rfl rfl
  go_wp2_with fail
  clear d0 c0_x0 c0_x1 c0_x2 c0_x3 c0_x4 c0_x5 c0_x6 c0_x7 c0_a0 c0_a1 c0_b0 c0_b1 c0_n00 c0_n01 c0_n02 c0_n03
  obtain ⟨w10, hw10, y10, al, bs⟩ := bs.alloc (w9.heap.size) rfl [.bool z1, .bool z2, .bool z3, .bool z4] 29
  replace o_n := o_n.alloc (w9.heap.size) rfl al
  replace o_m := o_m.alloc (w9.heap.size) rfl al
  clear al
  replace q := bs.q
  rw [hw10]
  refine (F4.out _ K4 w10 o_m.own.items hK4).mono ?_
  rintro e w11 ⟨gy, gz, rfl, hrow, hb⟩
  replace o_n := o_n.ret hb
  replace o_m := o_m.ret hb
  replace bs := bs.ret hb
  replace q := bs.q
  clear hb
  clear hrow
  have d0 := (bs.lit (w11.heap.size) rfl [.string ⟨y4j.toArray⟩, .string ⟨y4n.toArray⟩, .slice gy y4g.length gz, .bool z1, .bool z2, .bool z3, .bool z4, .bool y4k] 31)
  have c0_x0 := d0.at 1 0 rfl rfl
  have c0_x1 := d0.at 1 1 rfl rfl
  have c0_x2 := d0.at 1 2 rfl rfl
  have c0_x3 := d0.at 1 3 rfl rfl
  have c0_x4 := d0.at 1 4 rfl rfl
  have c0_x5 := d0.at 1 5 rfl rfl
  have c0_x6 := d0.at 1 6 rfl rfl
  have c0_x7 := d0.at 1 7 rfl rfl
  have c0_a0 := d0.at 2 0 rfl rfl
  have c0_a1 := d0.at 2 1 rfl rfl
  have c0_b0 := d0.at 3 0 rfl rfl
  have c0_b1 := d0.at 3 1 rfl rfl
  have c0_s40 := d0.at 4 0 rfl rfl
  have c0_s41 := d0.at 4 1 rfl rfl
  have c0_s42 := d0.at 4 2 rfl rfl
  have c0_s43 := d0.at 4 3 rfl rfl
  have c0_n00 := d0.at 5 0 rfl rfl
  have c0_n01 := d0.at 5 1 rfl rfl
  have c0_n02 := d0.at 5 2 rfl rfl
  have c0_n03 := d0.at 5 3 rfl rfl
  have c0_n04 := d0.at 5 4 rfl rfl
  have c0_n05 := d0.at 5 5 rfl rfl
  have c0_n06 := d0.at 5 6 rfl rfl
  have c0_n07 := d0.at 5 7 rfl rfl
  go_wp2_with fail
  clear d0 c0_x0 c0_x1 c0_x2 c0_x3 c0_x4 c0_x5 c0_x6 c0_x7 c0_a0 c0_a1 c0_b0 c0_b1 c0_s40 c0_s41 c0_s42 c0_s43 c0_n00 c0_n01 c0_n02 c0_n03 c0_n04 c0_n05 c0_n06 c0_n07
  go_ret
  exact ⟨rfl, (bs.lit _ rfl [.string ⟨y4j.toArray⟩, .string ⟨y4n.toArray⟩, .slice gy y4g.length gz, .bool z1, .bool z2, .bool z3, .bool z4, .bool y4k] 31).q⟩
 | true =>
  cases xk with
  | false =>
   obtain ⟨W0, hW, y0, bs⟩ := Sx.start1 w [.slice a0 L0 cap0, .int .i64 ver] 24
   have HW := Lib.hid hW
   clear hW
   have q := bs.q
   go_enter Tryz.func7, Tryz.ntmps7
   go_wp2_with fail
   rw [HW.out]
   refine (alive21 W0 (HM.out.ret q)).mono ?_
   rintro e w1 ⟨rfl, hb⟩
   replace bs := bs.ret hb
   replace q := bs.q
   clear hb
   have c_r0 := bs.at 0 0 rfl rfl
   have c_r1 := bs.at 0 1 rfl rfl
   go_wp2_with fail
   refine (CG.out w1 q).mono ?_
   rintro e w2 ⟨rfl, hb⟩
   clear c_r0 c_r1
   replace bs := bs.ret hb
   replace q := bs.q
   clear hb
   have c_r0 := bs.at 0 0 rfl rfl
   have c_r1 := bs.at 0 1 rfl rfl
   go_wp2_with fail
   refine (CF.out w2 q).mono ?_
   rintro e w3 ⟨ga, gc, rfl, hrow, hb⟩
   clear c_r0 c_r1
   replace bs := bs.ret hb
   replace q := bs.q
   clear hb
   clear hrow
   have d0 := (bs.lit (w3.heap.size) rfl [.string ⟨xj.toArray⟩, .string ⟨xn.toArray⟩, .slice ga xg.length gc, .bool x1, .bool x2, .bool x3, .bool x4, .bool false] 31)
   have c0_r0 := d0.at 0 0 rfl rfl
   have c0_r1 := d0.at 0 1 rfl rfl
   go_wp2_with fail
   clear d0 c0_r0 c0_r1
   obtain ⟨w4, hw4, y4, al, bs⟩ := bs.alloc (w3.heap.size) rfl [.string ⟨xj.toArray⟩, .string ⟨xn.toArray⟩, .slice ga xg.length gc, .bool x1, .bool x2, .bool x3, .bool x4, .bool false] 31
   clear al
   replace q := bs.q
   rw [hw4]
   refine (P3.out (.slice a0 L0 cap0) M w4 rfl (HV.out.ret q) (HM.out.ret q)).mono ?_
   rintro e w5 ⟨a3, c3, rfl, K3, hK3, hown, hb⟩
   have o_n := OwnX.mk' bs hown
   replace bs := bs.ret hb
   replace q := bs.q
   clear hb
   clear hown
   have d0 := (bs.lit (w5.heap.size) rfl [.slice a3 0 c3, .int .i64 0] 24)
   have c0_r0 := d0.at 0 0 rfl rfl
   have c0_r1 := d0.at 0 1 rfl rfl
   go_wp2_with fail
   clear d0 c0_r0 c0_r1
   obtain ⟨w6, hw6, y6, al, bs⟩ := bs.alloc (w5.heap.size) rfl [.slice a3 0 c3, .int .i64 0] 24
   replace o_n := o_n.alloc (w5.heap.size) rfl al
   clear al
   replace q := bs.q
   rw [hw6]
   refine (P4.out (.slice a0 L0 cap0) M w6 rfl (HV.out.ret q) (HM.out.ret q)).mono ?_
   rintro e w7 ⟨a4, c4, rfl, K4, hK4, hown, hb⟩
   have o_m := OwnX.mk' bs hown
   replace o_n := o_n.ret hb
   replace bs := bs.ret hb
   replace q := bs.q
   clear hb
   clear hown
   have c_x0 := bs.at 1 0 rfl rfl
   have c_x1 := bs.at 1 1 rfl rfl
   have c_x2 := bs.at 1 2 rfl rfl
   have c_x3 := bs.at 1 3 rfl rfl
   have c_x4 := bs.at 1 4 rfl rfl
   have c_x5 := bs.at 1 5 rfl rfl
   have c_x6 := bs.at 1 6 rfl rfl
   have c_x7 := bs.at 1 7 rfl rfl
   have d0 := (bs.lit (w7.heap.size) rfl [.slice a4 S4.length c4, .int .i64 V4] 24)
   have c0_x0 := d0.at 1 0 rfl rfl
   have c0_x1 := d0.at 1 1 rfl rfl
   have c0_x2 := d0.at 1 2 rfl rfl
   have c0_x3 := d0.at 1 3 rfl rfl
   have c0_x4 := d0.at 1 4 rfl rfl
   have c0_x5 := d0.at 1 5 rfl rfl
   have c0_x6 := d0.at 1 6 rfl rfl
   have c0_x7 := d0.at 1 7 rfl rfl
   have c0_a0 := d0.at 2 0 rfl rfl
   have c0_a1 := d0.at 2 1 rfl rfl
   have c0_n00 := d0.at 3 0 rfl rfl
   have c0_n01 := d0.at 3 1 rfl rfl
   go_wp2_with fail
   clear c_x0 c_x1 c_x2 c_x3 c_x4 c_x5 c_x6 c_x7 d0 c0_x0 c0_x1 c0_x2 c0_x3 c0_x4 c0_x5 c0_x6 c0_x7 c0_a0 c0_a1 c0_n00 c0_n01
   obtain ⟨w8, hw8, y8, al, bs⟩ := bs.alloc (w7.heap.size) rfl [.slice a4 S4.length c4, .int .i64 V4] 24
   replace o_n := o_n.alloc (w7.heap.size) rfl al
   replace o_m := o_m.alloc (w7.heap.size) rfl al
   clear al
   replace q := bs.q
   rw [hw8]
   refine (G4.out w8).mono ?_
   rintro e w9 ⟨rfl, hb⟩
   replace o_n := o_n.ret hb
   replace o_m := o_m.ret hb
   replace bs := bs.ret hb
   replace q := bs.q
   clear hb
   have d0 := (bs.lit (w9.heap.size) rfl [.bool z1, .bool z2, .bool z3, .bool z4] 29)
   have c0_x0 := d0.at 1 0 rfl rfl
   have c0_x1 := d0.at 1 1 rfl rfl
   have c0_x2 := d0.at 1 2 rfl rfl
   have c0_x3 := d0.at 1 3 rfl rfl
   have c0_x4 := d0.at 1 4 rfl rfl
   have c0_x5 := d0.at 1 5 rfl rfl
   have c0_x6 := d0.at 1 6 rfl rfl
   have c0_x7 := d0.at 1 7 rfl rfl
   have c0_a0 := d0.at 2 0 rfl rfl
   have c0_a1 := d0.at 2 1 rfl rfl
   have c0_b0 := d0.at 3 0 rfl rfl
   have c0_b1 := d0.at 3 1 rfl rfl
   have c0_n00 := d0.at 4 0 rfl rfl
   have c0_n01 := d0.at 4 1 rfl rfl
   have c0_n02 := d0.at 4 2 rfl rfl
   have c0_n03 := d0.at 4 3 rfl rfl
   go_wp2_with fail
   clear d0 c0_x0 c0_x1 c0_x2 c0_x3 c0_x4 c0_x5 c0_x6 c0_x7 c0_a0 c0_a1 c0_b0 c0_b1 c0_n00 c0_n01 c0_n02 c0_n03
   obtain ⟨w10, hw10, y10, al, bs⟩ := bs.alloc (w9.heap.size) rfl [.bool z1, .bool z2, .bool z3, .bool z4] 29
   replace o_n := o_n.alloc (w9.heap.size) rfl al
   replace o_m := o_m.alloc (w9.heap.size) rfl al
   clear al
   replace q := bs.q
   rw [hw10]
   refine (F4.out _ K4 w10 o_m.own.items hK4).mono ?_
   rintro e w11 ⟨gy, gz, rfl, hrow, hb⟩
   replace o_n := o_n.ret hb
   replace o_m := o_m.ret hb
   replace bs := bs.ret hb
   replace q := bs.q
   clear hb
   clear hrow
   have d0 := (bs.lit (w11.heap.size) rfl [.string ⟨y4j.toArray⟩, .string ⟨y4n.toArray⟩, .slice gy y4g.length gz, .bool z1, .bool z2, .bool z3, .bool z4, .bool y4k] 31)
   have c0_x0 := d0.at 1 0 rfl rfl
   have c0_x1 := d0.at 1 1 rfl rfl
   have c0_x2 := d0.at 1 2 rfl rfl
   have c0_x3 := d0.at 1 3 rfl rfl
   have c0_x4 := d0.at 1 4 rfl rfl
   have c0_x5 := d0.at 1 5 rfl rfl
   have c0_x6 := d0.at 1 6 rfl rfl
   have c0_x7 := d0.at 1 7 rfl rfl
   have c0_a0 := d0.at 2 0 rfl rfl
   have c0_a1 := d0.at 2 1 rfl rfl
   have c0_b0 := d0.at 3 0 rfl rfl
   have c0_b1 := d0.at 3 1 rfl rfl
   have c0_s40 := d0.at 4 0 rfl rfl
   have c0_s41 := d0.at 4 1 rfl rfl
   have c0_s42 := d0.at 4 2 rfl rfl
   have c0_s43 := d0.at 4 3 rfl rfl
   have c0_n00 := d0.at 5 0 rfl rfl
   have c0_n01 := d0.at 5 1 rfl rfl
   have c0_n02 := d0.at 5 2 rfl rfl
   have c0_n03 := d0.at 5 3 rfl rfl
   have c0_n04 := d0.at 5 4 rfl rfl
   have c0_n05 := d0.at 5 5 rfl rfl
   have c0_n06 := d0.at 5 6 rfl rfl
   have c0_n07 := d0.at 5 7 rfl rfl
   go_wp2_with fail
   clear d0 c0_x0 c0_x1 c0_x2 c0_x3 c0_x4 c0_x5 c0_x6 c0_x7 c0_a0 c0_a1 c0_b0 c0_b1 c0_s40 c0_s41 c0_s42 c0_s43 c0_n00 c0_n01 c0_n02 c0_n03 c0_n04 c0_n05 c0_n06 c0_n07
   go_ret
   exact ⟨rfl, (bs.lit _ rfl [.string ⟨y4j.toArray⟩, .string ⟨y4n.toArray⟩, .slice gy y4g.length gz, .bool z1, .bool z2, .bool z3, .bool z4, .bool y4k] 31).q⟩
  | true =>
   obtain ⟨W0, hW, y0, bs⟩ := Sx.start1 w [.slice a0 L0 cap0, .int .i64 ver] 24
   have HW := Lib.hid hW
   clear hW
   have q := bs.q
   go_enter Tryz.func7, Tryz.ntmps7
   go_wp2_with fail
   rw [HW.out]
   refine (alive21 W0 (HM.out.ret q)).mono ?_
   rintro e w1 ⟨rfl, hb⟩
   replace bs := bs.ret hb
   replace q := bs.q
   clear hb
   have c_r0 := bs.at 0 0 rfl rfl
   have c_r1 := bs.at 0 1 rfl rfl
   go_wp2_with fail
   refine (CG.out w1 q).mono ?_
   rintro e w2 ⟨rfl, hb⟩
   clear c_r0 c_r1
   replace bs := bs.ret hb
   replace q := bs.q
   clear hb
   have c_r0 := bs.at 0 0 rfl rfl
   have c_r1 := bs.at 0 1 rfl rfl
   go_wp2_with fail
   refine (CF.out w2 q).mono ?_
   rintro e w3 ⟨ga, gc, rfl, hrow, hb⟩
   clear c_r0 c_r1
   replace bs := bs.ret hb
   replace q := bs.q
   clear hb
   clear hrow
   have d0 := (bs.lit (w3.heap.size) rfl [.string ⟨xj.toArray⟩, .string ⟨xn.toArray⟩, .slice ga xg.length gc, .bool x1, .bool x2, .bool x3, .bool x4, .bool true] 31)
   have c0_r0 := d0.at 0 0 rfl rfl
   have c0_r1 := d0.at 0 1 rfl rfl
   go_wp2_with fail
   clear d0 c0_r0 c0_r1
   obtain ⟨w4, hw4, y4, al, bs⟩ := bs.alloc (w3.heap.size) rfl [.string ⟨xj.toArray⟩, .string ⟨xn.toArray⟩, .slice ga xg.length gc, .bool x1, .bool x2, .bool x3, .bool x4, .bool true] 31
   clear al
   replace q := bs.q
   rw [hw4]
   refine (P3.out (.slice a0 L0 cap0) M w4 rfl (HV.out.ret q) (HM.out.ret q)).mono ?_
   rintro e w5 ⟨a3, c3, rfl, K3, hK3, hown, hb⟩
   have o_n := OwnX.mk' bs hown
   replace bs := bs.ret hb
   replace q := bs.q
   clear hb
   clear hown
   have d0 := (bs.lit (w5.heap.size) rfl [.slice a3 0 c3, .int .i64 0] 24)
   have c0_r0 := d0.at 0 0 rfl rfl
   have c0_r1 := d0.at 0 1 rfl rfl
   go_wp2_with fail
   clear d0 c0_r0 c0_r1
   obtain ⟨w6, hw6, y6, al, bs⟩ := bs.alloc (w5.heap.size) rfl [.slice a3 0 c3, .int .i64 0] 24
   replace o_n := o_n.alloc (w5.heap.size) rfl al
   clear al
   replace q := bs.q
   rw [hw6]
   refine (P4.out (.slice a0 L0 cap0) M w6 rfl (HV.out.ret q) (HM.out.ret q)).mono ?_
   rintro e w7 ⟨a4, c4, rfl, K4, hK4, hown, hb⟩
   have o_m := OwnX.mk' bs hown
   replace o_n := o_n.ret hb
   replace bs := bs.ret hb
   replace q := bs.q
   clear hb
   clear hown
   have c_x0 := bs.at 1 0 rfl rfl
   have c_x1 := bs.at 1 1 rfl rfl
   have c_x2 := bs.at 1 2 rfl rfl
   have c_x3 := bs.at 1 3 rfl rfl
   have c_x4 := bs.at 1 4 rfl rfl
   have c_x5 := bs.at 1 5 rfl rfl
   have c_x6 := bs.at 1 6 rfl rfl
   have c_x7 := bs.at 1 7 rfl rfl
   have d0 := (bs.lit (w7.heap.size) rfl [.slice a4 S4.length c4, .int .i64 V4] 24)
   have c0_x0 := d0.at 1 0 rfl rfl
   have c0_x1 := d0.at 1 1 rfl rfl
   have c0_x2 := d0.at 1 2 rfl rfl
   have c0_x3 := d0.at 1 3 rfl rfl
   have c0_x4 := d0.at 1 4 rfl rfl
   have c0_x5 := d0.at 1 5 rfl rfl
   have c0_x6 := d0.at 1 6 rfl rfl
   have c0_x7 := d0.at 1 7 rfl rfl
   have c0_a0 := d0.at 2 0 rfl rfl
   have c0_a1 := d0.at 2 1 rfl rfl
   have c0_n00 := d0.at 3 0 rfl rfl
   have c0_n01 := d0.at 3 1 rfl rfl
   go_wp2_with fail
   clear c_x0 c_x1 c_x2 c_x3 c_x4 c_x5 c_x6 c_x7 d0 c0_x0 c0_x1 c0_x2 c0_x3 c0_x4 c0_x5 c0_x6 c0_x7 c0_a0 c0_a1 c0_n00 c0_n01
   obtain ⟨w8, hw8, y8, al, bs⟩ := bs.alloc (w7.heap.size) rfl [.slice a4 S4.length c4, .int .i64 V4] 24
   replace o_n := o_n.alloc (w7.heap.size) rfl al
   replace o_m := o_m.alloc (w7.heap.size) rfl al
   clear al
   replace q := bs.q
   rw [hw8]
   refine (G4.out w8).mono ?_
   rintro e w9 ⟨rfl, hb⟩
   replace o_n := o_n.ret hb
   replace o_m := o_m.ret hb
   replace bs := bs.ret hb
   replace q := bs.q
   clear hb
   have d0 := (bs.lit (w9.heap.size) rfl [.bool z1, .bool z2, .bool z3, .bool z4] 29)
   have c0_x0 := d0.at 1 0 rfl rfl
   have c0_x1 := d0.at 1 1 rfl rfl
   have c0_x2 := d0.at 1 2 rfl rfl
   have c0_x3 := d0.at 1 3 rfl rfl
   have c0_x4 := d0.at 1 4 rfl rfl
   have c0_x5 := d0.at 1 5 rfl rfl
   have c0_x6 := d0.at 1 6 rfl rfl
   have c0_x7 := d0.at 1 7 rfl rfl
   have c0_a0 := d0.at 2 0 rfl rfl
   have c0_a1 := d0.at 2 1 rfl rfl
   have c0_b0 := d0.at 3 0 rfl rfl
   have c0_b1 := d0.at 3 1 rfl rfl
   have c0_n00 := d0.at 4 0 rfl rfl
   have c0_n01 := d0.at 4 1 rfl rfl
   have c0_n02 := d0.at 4 2 rfl rfl
   have c0_n03 := d0.at 4 3 rfl rfl
   go_wp2_with fail
   clear d0 c0_x0 c0_x1 c0_x2 c0_x3 c0_x4 c0_x5 c0_x6 c0_x7 c0_a0 c0_a1 c0_b0 c0_b1 c0_n00 c0_n01 c0_n02 c0_n03
   obtain ⟨w10, hw10, y10, al, bs⟩ := bs.alloc (w9.heap.size) rfl [.bool z1, .bool z2, .bool z3, .bool z4] 29
   replace o_n := o_n.alloc (w9.heap.size) rfl al
   replace o_m := o_m.alloc (w9.heap.size) rfl al
   clear al
   replace q := bs.q
   rw [hw10]
   refine (F4.out _ K4 w10 o_m.own.items hK4).mono ?_
   rintro e w11 ⟨gy, gz, rfl, hrow, hb⟩
   replace o_n := o_n.ret hb
   replace o_m := o_m.ret hb
   replace bs := bs.ret hb
   replace q := bs.q
   clear hb
   clear hrow
   have d0 := (bs.lit (w11.heap.size) rfl [.string ⟨y4j.toArray⟩, .string ⟨y4n.toArray⟩, .slice gy y4g.length gz, .bool z1, .bool z2, .bool z3, .bool z4, .bool y4k] 31)
   have c0_x0 := d0.at 1 0 rfl rfl
   have c0_x1 := d0.at 1 1 rfl rfl
   have c0_x2 := d0.at 1 2 rfl rfl
   have c0_x3 := d0.at 1 3 rfl rfl
   have c0_x4 := d0.at 1 4 rfl rfl
   have c0_x5 := d0.at 1 5 rfl rfl
   have c0_x6 := d0.at 1 6 rfl rfl
   have c0_x7 := d0.at 1 7 rfl rfl
   have c0_a0 := d0.at 2 0 rfl rfl
   have c0_a1 := d0.at 2 1 rfl rfl
   have c0_b0 := d0.at 3 0 rfl rfl
   have c0_b1 := d0.at 3 1 rfl rfl
   have c0_s40 := d0.at 4 0 rfl rfl
   have c0_s41 := d0.at 4 1 rfl rfl
   have c0_s42 := d0.at 4 2 rfl rfl
   have c0_s43 := d0.at 4 3 rfl rfl
   have c0_n00 := d0.at 5 0 rfl rfl
   have c0_n01 := d0.at 5 1 rfl rfl
   have c0_n02 := d0.at 5 2 rfl rfl
   have c0_n03 := d0.at 5 3 rfl rfl
   have c0_n04 := d0.at 5 4 rfl rfl
   have c0_n05 := d0.at 5 5 rfl rfl
   have c0_n06 := d0.at 5 6 rfl rfl
   have c0_n07 := d0.at 5 7 rfl rfl
   go_wp2_with fail
   clear d0 c0_x0 c0_x1 c0_x2 c0_x3 c0_x4 c0_x5 c0_x6 c0_x7 c0_a0 c0_a1 c0_b0 c0_b1 c0_s40 c0_s41 c0_s42 c0_s43 c0_n00 c0_n01 c0_n02 c0_n03 c0_n04 c0_n05 c0_n06 c0_n07
   go_ret
   exact ⟨rfl, (bs.lit _ rfl [.string ⟨y4j.toArray⟩, .string ⟨y4n.toArray⟩, .slice gy y4g.length gz, .bool z1, .bool z2, .bool z3, .bool z4, .bool y4k] 31).q⟩
set_option maxHeartbeats 8000000 in
set_option maxRecDepth 100000 in
theorem states21_zn (v : Value) (ver : Int) (M : List Im) (t : List UInt8) (kd : Int) (w : World) (hv : IsItems v M w) (hm : ML w) (hgr : greatP (M.map Prod.fst) = false) (zt : t.length ≤ 500) (hk0 : 0 ≤ kd) (hk1 : kd ≤ 255) (e3 : sendC (M.map Prod.fst) ver t kd = 0) (e4 : takeC (M.map Prod.fst) ver t kd ≠ 0) :
  Calls Tryz.prog 7 #[.agg #[v, .int .i64 ver], .string ⟨t.toArray⟩, .int .u8 kd] w (Ret w (.bool true)) := by
 obtain ⟨a0, cap0, hf, -⟩ := hv.form
 obtain ⟨L0, hL⟩ : ∃ L, M.length = L := ⟨_, rfl⟩
 rw [hL] at hf
 subst hf
 have zt2 : (⟨t.toArray⟩ : ByteArray).size = t.length := by rw [← size_toList]
 have HV := Lib.hid hv
 have HM := Lib.hid hm
 have CG := fun (w' : World) (hb : Below w.heap.size w w') => r21_Great (.slice a0 L0 cap0) ver M w' (hv.ret hb)
 rw [hgr] at CG
 have CG := Lib.hid CG
 have h1' : ¬ (500 : Int) < (t.length : Int) := by omega
 have hsg := sm_great hgr
 have CF := fun (w' : World) (hb : Below w.heap.size w w') => ro_Find (.slice a0 L0 cap0) ver M ⟨t.toArray⟩ w' (hv.ret hb) (by have := (Sm.im ⟨by omega, hsg.2⟩ rfl : SmallI M).1; omega) (fun p hp => ((Sm.im ⟨by omega, hsg.2⟩ rfl : SmallI M).2 p hp).2.2.1)
 unfold Fnd21 at CF
 simp only at CF
 obtain ⟨S3, V3, b3, st3, ⟨may3, kk1, kk2⟩, P3⟩ := send_st hgr zt hk0 hk1 e3
 have P4 := take_no hgr zt hk0 hk1 e4
 obtain ⟨E4, hE4⟩ : ∃ E, takeC (M.map Prod.fst) ver t kd = E := ⟨_, rfl⟩
 rw [hE4] at P4 e4
 have f4 : (E4 == 0) = false := by simp [e4]
 have hW : (findL (M.map Prod.fst) t).getD it0 = wasL (M.map Prod.fst) t := rfl
 rw [hW] at CF
 obtain ⟨X, hX⟩ : ∃ X, wasL (M.map Prod.fst) t = X := ⟨_, rfl⟩
 obtain ⟨B, hB⟩ : ∃ B, (findL (M.map Prod.fst) t).isSome = B := ⟨_, rfl⟩
 rw [hX, hB] at CF
 obtain ⟨p3, i3, m3⟩ := st3
 rw [hX] at p3 P3 i3 may3
 rw [hB] at i3
 have G3 := fun w' => sub_Send_G X.s kd w' may3 kk1 kk2
 obtain ⟨Y3, hY3⟩ : ∃ Y, wasL S3 t = Y := ⟨_, rfl⟩
 have F3 := fun (u : Value) (K : List Im) (w' : World) (hu : IsItems u K w') (hK : K.map Prod.fst = S3) => ro_Find u V3 K ⟨t.toArray⟩ w' hu (by have := (Sm.im m3 hK).1; omega) (fun p hp => ((Sm.im m3 hK).2 p hp).2.2.1)
 have F3 := fun (u : Value) (K : List Im) (w' : World) (hu : IsItems u K w') (hK : K.map Prod.fst = S3) => show Calls Tryz.prog 10 #[.agg #[u, .int .i64 V3], .string ⟨t.toArray⟩] w' (fun e w2 => ∃ a c, e = .returned (.tuple #[itA (Y3, (a, c)), .bool (findL S3 t).isSome]) ∧ w2.ownsRow w'.heap.size 9 1 (.slice a Y3.g.length c) Y3.g.length (strV Y3.g) ∧ Below w'.heap.size w' w2) by
  have h := F3 u K w' hu hK
  unfold Fnd21 at h
  simp only at h
  rw [hK] at h
  rw [← hY3]
  exact h
 rw [i3] at F3
 rw [hY3] at p3
 obtain ⟨xj, xn, xg, ⟨x1, x2, x3, x4⟩, xk⟩ := X
 simp only at p3 P3 F3 G3
 generalize hs3 : subSend (x1, x2, x3, x4) kd = sf3 at p3 P3 F3 G3
 obtain ⟨⟨u1, u2, u3, u4⟩, go3⟩ := sf3
 obtain ⟨y3j, y3n, y3g, y3s, y3k⟩ := Y3
 simp only at p3
 subst p3
 have hQ3 : (!decide ((u1, u2, u3, u4) = sb0)) = (u1 || (u2 || (u3 || u4))) := by cases u1 <;> cases u2 <;> cases u3 <;> cases u4 <;> rfl
 rw [hQ3] at F3
 simp only [itA, gvI, It.j, It.n, It.g, It.k] at F3
 have F3 := Lib.hid F3
 have G3 := Lib.hid G3
 clear hs3 i3 m3 hY3 hQ3 may3
 simp only [itA, gvI, It.j, It.n, It.g, It.k] at CF
 have CF := Lib.hid CF
 have P3 := Lib.hid P3
 have P4 := Lib.hid P4
 have NE := neq_sub
 have EQ := eql_sub
 have EG := eg_sub
 clear hv hm hL hgr hW hX hB hsg zt e3 hE4 e4
 cases B with
 | false =>
  obtain ⟨W0, hW, y0, bs⟩ := Sx.start1 w [.slice a0 L0 cap0, .int .i64 ver] 24
  have HW := Lib.hid hW
  clear hW
  have q := bs.q
  go_enter Tryz.func7, Tryz.ntmps7
  go_wp2_with fail
  rw [HW.out]
  refine (alive21 W0 (HM.out.ret q)).mono ?_
  rintro e w1 ⟨rfl, hb⟩
  replace bs := bs.ret hb
  replace q := bs.q
  clear hb
  have c_r0 := bs.at 0 0 rfl rfl
  have c_r1 := bs.at 0 1 rfl rfl
  go_wp2_with fail
  refine (CG.out w1 q).mono ?_
  rintro e w2 ⟨rfl, hb⟩
  clear c_r0 c_r1
  replace bs := bs.ret hb
  replace q := bs.q
  clear hb
  have c_r0 := bs.at 0 0 rfl rfl
  have c_r1 := bs.at 0 1 rfl rfl
  go_wp2_with fail
  refine (CF.out w2 q).mono ?_
  rintro e w3 ⟨ga, gc, rfl, hrow, hb⟩
  clear c_r0 c_r1
  replace bs := bs.ret hb
  replace q := bs.q
  clear hb
  clear hrow
  have d0 := (bs.lit (w3.heap.size) rfl [.string ⟨xj.toArray⟩, .string ⟨xn.toArray⟩, .slice ga xg.length gc, .bool x1, .bool x2, .bool x3, .bool x4, .bool xk] 31)
  have c0_r0 := d0.at 0 0 rfl rfl
  have c0_r1 := d0.at 0 1 rfl rfl
  go_wp2_with fail
  clear d0 c0_r0 c0_r1
  obtain ⟨w4, hw4, y4, al, bs⟩ := bs.alloc (w3.heap.size) rfl [.string ⟨xj.toArray⟩, .string ⟨xn.toArray⟩, .slice ga xg.length gc, .bool x1, .bool x2, .bool x3, .bool x4, .bool xk] 31
  clear al
  replace q := bs.q
  rw [hw4]
  refine (P3.out (.slice a0 L0 cap0) M w4 rfl (HV.out.ret q) (HM.out.ret q)).mono ?_
  rintro e w5 ⟨a3, c3, rfl, K3, hK3, hown, hb⟩
  have o_n := OwnX.mk' bs hown
  replace bs := bs.ret hb
  replace q := bs.q
  clear hb
  clear hown
  have d0 := (bs.lit (w5.heap.size) rfl [.slice a3 S3.length c3, .int .i64 V3] 24)
  have c0_r0 := d0.at 0 0 rfl rfl
  have c0_r1 := d0.at 0 1 rfl rfl
  go_wp2_with fail
  clear d0 c0_r0 c0_r1
  obtain ⟨w6, hw6, y6, al, bs⟩ := bs.alloc (w5.heap.size) rfl [.slice a3 S3.length c3, .int .i64 V3] 24
  replace o_n := o_n.alloc (w5.heap.size) rfl al
  clear al
  replace q := bs.q
  rw [hw6]
  refine (P4.out (.slice a0 L0 cap0) M w6 rfl (HV.out.ret q) (HM.out.ret q)).mono ?_
  rintro e w7 ⟨a4, c4, rfl, K4, hK4, hown, hb⟩
  have o_m := OwnX.mk' bs hown
  replace o_n := o_n.ret hb
  replace bs := bs.ret hb
  replace q := bs.q
  clear hb
  clear hown
  have c_x0 := bs.at 1 0 rfl rfl
  have c_x1 := bs.at 1 1 rfl rfl
  have c_x2 := bs.at 1 2 rfl rfl
  have c_x3 := bs.at 1 3 rfl rfl
  have c_x4 := bs.at 1 4 rfl rfl
  have c_x5 := bs.at 1 5 rfl rfl
  have c_x6 := bs.at 1 6 rfl rfl
  have c_x7 := bs.at 1 7 rfl rfl
  have d0 := (bs.lit (w7.heap.size) rfl [.slice a4 0 c4, .int .i64 0] 24)
  have c0_x0 := d0.at 1 0 rfl rfl
  have c0_x1 := d0.at 1 1 rfl rfl
  have c0_x2 := d0.at 1 2 rfl rfl
  have c0_x3 := d0.at 1 3 rfl rfl
  have c0_x4 := d0.at 1 4 rfl rfl
  have c0_x5 := d0.at 1 5 rfl rfl
  have c0_x6 := d0.at 1 6 rfl rfl
  have c0_x7 := d0.at 1 7 rfl rfl
  have c0_a0 := d0.at 2 0 rfl rfl
  have c0_a1 := d0.at 2 1 rfl rfl
  have c0_n00 := d0.at 3 0 rfl rfl
  have c0_n01 := d0.at 3 1 rfl rfl
  go_wp2_with fail
  clear c_x0 c_x1 c_x2 c_x3 c_x4 c_x5 c_x6 c_x7 d0 c0_x0 c0_x1 c0_x2 c0_x3 c0_x4 c0_x5 c0_x6 c0_x7 c0_a0 c0_a1 c0_n00 c0_n01
  obtain ⟨w8, hw8, y8, al, bs⟩ := bs.alloc (w7.heap.size) rfl [.slice a4 0 c4, .int .i64 0] 24
  replace o_n := o_n.alloc (w7.heap.size) rfl al
  replace o_m := o_m.alloc (w7.heap.size) rfl al
  clear al
  replace q := bs.q
  rw [hw8]
  refine (G3.out w8).mono ?_
  rintro e w9 ⟨rfl, hb⟩
  replace o_n := o_n.ret hb
  replace o_m := o_m.ret hb
  replace bs := bs.ret hb
  replace q := bs.q
  clear hb
  have d0 := (bs.lit (w9.heap.size) rfl [.bool u1, .bool u2, .bool u3, .bool u4] 29)
  have c0_x0 := d0.at 1 0 rfl rfl
  have c0_x1 := d0.at 1 1 rfl rfl
  have c0_x2 := d0.at 1 2 rfl rfl
  have c0_x3 := d0.at 1 3 rfl rfl
  have c0_x4 := d0.at 1 4 rfl rfl
  have c0_x5 := d0.at 1 5 rfl rfl
  have c0_x6 := d0.at 1 6 rfl rfl
  have c0_x7 := d0.at 1 7 rfl rfl
  have c0_a0 := d0.at 2 0 rfl rfl
  have c0_a1 := d0.at 2 1 rfl rfl
  have c0_b0 := d0.at 3 0 rfl rfl
  have c0_b1 := d0.at 3 1 rfl rfl
  have c0_n00 := d0.at 4 0 rfl rfl
  have c0_n01 := d0.at 4 1 rfl rfl
  have c0_n02 := d0.at 4 2 rfl rfl
  have c0_n03 := d0.at 4 3 rfl rfl
  go_wp2_with fail
  clear d0 c0_x0 c0_x1 c0_x2 c0_x3 c0_x4 c0_x5 c0_x6 c0_x7 c0_a0 c0_a1 c0_b0 c0_b1 c0_n00 c0_n01 c0_n02 c0_n03
  obtain ⟨w10, hw10, y10, al, bs⟩ := bs.alloc (w9.heap.size) rfl [.bool u1, .bool u2, .bool u3, .bool u4] 29
  replace o_n := o_n.alloc (w9.heap.size) rfl al
  replace o_m := o_m.alloc (w9.heap.size) rfl al
  clear al
  replace q := bs.q
  rw [hw10]
  refine (F3.out _ K3 w10 o_n.own.items hK3).mono ?_
  rintro e w11 ⟨gy, gz, rfl, hrow, hb⟩
  replace o_n := o_n.ret hb
  replace o_m := o_m.ret hb
  replace bs := bs.ret hb
  replace q := bs.q
  clear hb
  clear hrow
  have d0 := (bs.lit (w11.heap.size) rfl [.string ⟨y3j.toArray⟩, .string ⟨y3n.toArray⟩, .slice gy y3g.length gz, .bool u1, .bool u2, .bool u3, .bool u4, .bool y3k] 31)
  have c0_x0 := d0.at 1 0 rfl rfl
  have c0_x1 := d0.at 1 1 rfl rfl
  have c0_x2 := d0.at 1 2 rfl rfl
  have c0_x3 := d0.at 1 3 rfl rfl
  have c0_x4 := d0.at 1 4 rfl rfl
  have c0_x5 := d0.at 1 5 rfl rfl
  have c0_x6 := d0.at 1 6 rfl rfl
  have c0_x7 := d0.at 1 7 rfl rfl
  have c0_a0 := d0.at 2 0 rfl rfl
  have c0_a1 := d0.at 2 1 rfl rfl
  have c0_b0 := d0.at 3 0 rfl rfl
  have c0_b1 := d0.at 3 1 rfl rfl
  have c0_s30 := d0.at 4 0 rfl rfl
  have c0_s31 := d0.at 4 1 rfl rfl
  have c0_s32 := d0.at 4 2 rfl rfl
  have c0_s33 := d0.at 4 3 rfl rfl
  have c0_n00 := d0.at 5 0 rfl rfl
  have c0_n01 := d0.at 5 1 rfl rfl
  have c0_n02 := d0.at 5 2 rfl rfl
  have c0_n03 := d0.at 5 3 rfl rfl
  have c0_n04 := d0.at 5 4 rfl rfl
  have c0_n05 := d0.at 5 5 rfl rfl
  have c0_n06 := d0.at 5 6 rfl rfl
  have c0_n07 := d0.at 5 7 rfl rfl
  go_wp2_with fail
  clear d0 c0_x0 c0_x1 c0_x2 c0_x3 c0_x4 c0_x5 c0_x6 c0_x7 c0_a0 c0_a1 c0_b0 c0_b1 c0_s30 c0_s31 c0_s32 c0_s33 c0_n00 c0_n01 c0_n02 c0_n03 c0_n04 c0_n05 c0_n06 c0_n07
  go_ret
  exact ⟨rfl, (bs.lit _ rfl [.string ⟨y3j.toArray⟩, .string ⟨y3n.toArray⟩, .slice gy y3g.length gz, .bool u1, .bool u2, .bool u3, .bool u4, .bool y3k] 31).q⟩
 | true =>
  cases xk with
  | false =>
   obtain ⟨W0, hW, y0, bs⟩ := Sx.start1 w [.slice a0 L0 cap0, .int .i64 ver] 24
   have HW := Lib.hid hW
   clear hW
   have q := bs.q
   go_enter Tryz.func7, Tryz.ntmps7
   go_wp2_with fail
   rw [HW.out]
   refine (alive21 W0 (HM.out.ret q)).mono ?_
   rintro e w1 ⟨rfl, hb⟩
   replace bs := bs.ret hb
   replace q := bs.q
   clear hb
   have c_r0 := bs.at 0 0 rfl rfl
   have c_r1 := bs.at 0 1 rfl rfl
   go_wp2_with fail
   refine (CG.out w1 q).mono ?_
   rintro e w2 ⟨rfl, hb⟩
   clear c_r0 c_r1
   replace bs := bs.ret hb
   replace q := bs.q
   clear hb
   have c_r0 := bs.at 0 0 rfl rfl
   have c_r1 := bs.at 0 1 rfl rfl
   go_wp2_with fail
   refine (CF.out w2 q).mono ?_
   rintro e w3 ⟨ga, gc, rfl, hrow, hb⟩
   clear c_r0 c_r1
   replace bs := bs.ret hb
   replace q := bs.q
   clear hb
   clear hrow
   have d0 := (bs.lit (w3.heap.size) rfl [.string ⟨xj.toArray⟩, .string ⟨xn.toArray⟩, .slice ga xg.length gc, .bool x1, .bool x2, .bool x3, .bool x4, .bool false] 31)
   have c0_r0 := d0.at 0 0 rfl rfl
   have c0_r1 := d0.at 0 1 rfl rfl
   go_wp2_with fail
   clear d0 c0_r0 c0_r1
   obtain ⟨w4, hw4, y4, al, bs⟩ := bs.alloc (w3.heap.size) rfl [.string ⟨xj.toArray⟩, .string ⟨xn.toArray⟩, .slice ga xg.length gc, .bool x1, .bool x2, .bool x3, .bool x4, .bool false] 31
   clear al
   replace q := bs.q
   rw [hw4]
   refine (P3.out (.slice a0 L0 cap0) M w4 rfl (HV.out.ret q) (HM.out.ret q)).mono ?_
   rintro e w5 ⟨a3, c3, rfl, K3, hK3, hown, hb⟩
   have o_n := OwnX.mk' bs hown
   replace bs := bs.ret hb
   replace q := bs.q
   clear hb
   clear hown
   have d0 := (bs.lit (w5.heap.size) rfl [.slice a3 S3.length c3, .int .i64 V3] 24)
   have c0_r0 := d0.at 0 0 rfl rfl
   have c0_r1 := d0.at 0 1 rfl rfl
   go_wp2_with fail
   clear d0 c0_r0 c0_r1
   obtain ⟨w6, hw6, y6, al, bs⟩ := bs.alloc (w5.heap.size) rfl [.slice a3 S3.length c3, .int .i64 V3] 24
   replace o_n := o_n.alloc (w5.heap.size) rfl al
   clear al
   replace q := bs.q
   rw [hw6]
   refine (P4.out (.slice a0 L0 cap0) M w6 rfl (HV.out.ret q) (HM.out.ret q)).mono ?_
   rintro e w7 ⟨a4, c4, rfl, K4, hK4, hown, hb⟩
   have o_m := OwnX.mk' bs hown
   replace o_n := o_n.ret hb
   replace bs := bs.ret hb
   replace q := bs.q
   clear hb
   clear hown
   have c_x0 := bs.at 1 0 rfl rfl
   have c_x1 := bs.at 1 1 rfl rfl
   have c_x2 := bs.at 1 2 rfl rfl
   have c_x3 := bs.at 1 3 rfl rfl
   have c_x4 := bs.at 1 4 rfl rfl
   have c_x5 := bs.at 1 5 rfl rfl
   have c_x6 := bs.at 1 6 rfl rfl
   have c_x7 := bs.at 1 7 rfl rfl
   have d0 := (bs.lit (w7.heap.size) rfl [.slice a4 0 c4, .int .i64 0] 24)
   have c0_x0 := d0.at 1 0 rfl rfl
   have c0_x1 := d0.at 1 1 rfl rfl
   have c0_x2 := d0.at 1 2 rfl rfl
   have c0_x3 := d0.at 1 3 rfl rfl
   have c0_x4 := d0.at 1 4 rfl rfl
   have c0_x5 := d0.at 1 5 rfl rfl
   have c0_x6 := d0.at 1 6 rfl rfl
   have c0_x7 := d0.at 1 7 rfl rfl
   have c0_a0 := d0.at 2 0 rfl rfl
   have c0_a1 := d0.at 2 1 rfl rfl
   have c0_n00 := d0.at 3 0 rfl rfl
   have c0_n01 := d0.at 3 1 rfl rfl
   go_wp2_with fail
   clear c_x0 c_x1 c_x2 c_x3 c_x4 c_x5 c_x6 c_x7 d0 c0_x0 c0_x1 c0_x2 c0_x3 c0_x4 c0_x5 c0_x6 c0_x7 c0_a0 c0_a1 c0_n00 c0_n01
   obtain ⟨w8, hw8, y8, al, bs⟩ := bs.alloc (w7.heap.size) rfl [.slice a4 0 c4, .int .i64 0] 24
   replace o_n := o_n.alloc (w7.heap.size) rfl al
   replace o_m := o_m.alloc (w7.heap.size) rfl al
   clear al
   replace q := bs.q
   rw [hw8]
   refine (G3.out w8).mono ?_
   rintro e w9 ⟨rfl, hb⟩
   replace o_n := o_n.ret hb
   replace o_m := o_m.ret hb
   replace bs := bs.ret hb
   replace q := bs.q
   clear hb
   have d0 := (bs.lit (w9.heap.size) rfl [.bool u1, .bool u2, .bool u3, .bool u4] 29)
   have c0_x0 := d0.at 1 0 rfl rfl
   have c0_x1 := d0.at 1 1 rfl rfl
   have c0_x2 := d0.at 1 2 rfl rfl
   have c0_x3 := d0.at 1 3 rfl rfl
   have c0_x4 := d0.at 1 4 rfl rfl
   have c0_x5 := d0.at 1 5 rfl rfl
   have c0_x6 := d0.at 1 6 rfl rfl
   have c0_x7 := d0.at 1 7 rfl rfl
   have c0_a0 := d0.at 2 0 rfl rfl
   have c0_a1 := d0.at 2 1 rfl rfl
   have c0_b0 := d0.at 3 0 rfl rfl
   have c0_b1 := d0.at 3 1 rfl rfl
   have c0_n00 := d0.at 4 0 rfl rfl
   have c0_n01 := d0.at 4 1 rfl rfl
   have c0_n02 := d0.at 4 2 rfl rfl
   have c0_n03 := d0.at 4 3 rfl rfl
   go_wp2_with fail
   clear d0 c0_x0 c0_x1 c0_x2 c0_x3 c0_x4 c0_x5 c0_x6 c0_x7 c0_a0 c0_a1 c0_b0 c0_b1 c0_n00 c0_n01 c0_n02 c0_n03
   obtain ⟨w10, hw10, y10, al, bs⟩ := bs.alloc (w9.heap.size) rfl [.bool u1, .bool u2, .bool u3, .bool u4] 29
   replace o_n := o_n.alloc (w9.heap.size) rfl al
   replace o_m := o_m.alloc (w9.heap.size) rfl al
   clear al
   replace q := bs.q
   rw [hw10]
   refine (F3.out _ K3 w10 o_n.own.items hK3).mono ?_
   rintro e w11 ⟨gy, gz, rfl, hrow, hb⟩
   replace o_n := o_n.ret hb
   replace o_m := o_m.ret hb
   replace bs := bs.ret hb
   replace q := bs.q
   clear hb
   clear hrow
   have d0 := (bs.lit (w11.heap.size) rfl [.string ⟨y3j.toArray⟩, .string ⟨y3n.toArray⟩, .slice gy y3g.length gz, .bool u1, .bool u2, .bool u3, .bool u4, .bool y3k] 31)
   have c0_x0 := d0.at 1 0 rfl rfl
   have c0_x1 := d0.at 1 1 rfl rfl
   have c0_x2 := d0.at 1 2 rfl rfl
   have c0_x3 := d0.at 1 3 rfl rfl
   have c0_x4 := d0.at 1 4 rfl rfl
   have c0_x5 := d0.at 1 5 rfl rfl
   have c0_x6 := d0.at 1 6 rfl rfl
   have c0_x7 := d0.at 1 7 rfl rfl
   have c0_a0 := d0.at 2 0 rfl rfl
   have c0_a1 := d0.at 2 1 rfl rfl
   have c0_b0 := d0.at 3 0 rfl rfl
   have c0_b1 := d0.at 3 1 rfl rfl
   have c0_s30 := d0.at 4 0 rfl rfl
   have c0_s31 := d0.at 4 1 rfl rfl
   have c0_s32 := d0.at 4 2 rfl rfl
   have c0_s33 := d0.at 4 3 rfl rfl
   have c0_n00 := d0.at 5 0 rfl rfl
   have c0_n01 := d0.at 5 1 rfl rfl
   have c0_n02 := d0.at 5 2 rfl rfl
   have c0_n03 := d0.at 5 3 rfl rfl
   have c0_n04 := d0.at 5 4 rfl rfl
   have c0_n05 := d0.at 5 5 rfl rfl
   have c0_n06 := d0.at 5 6 rfl rfl
   have c0_n07 := d0.at 5 7 rfl rfl
   go_wp2_with fail
   clear d0 c0_x0 c0_x1 c0_x2 c0_x3 c0_x4 c0_x5 c0_x6 c0_x7 c0_a0 c0_a1 c0_b0 c0_b1 c0_s30 c0_s31 c0_s32 c0_s33 c0_n00 c0_n01 c0_n02 c0_n03 c0_n04 c0_n05 c0_n06 c0_n07
   go_ret
   exact ⟨rfl, (bs.lit _ rfl [.string ⟨y3j.toArray⟩, .string ⟨y3n.toArray⟩, .slice gy y3g.length gz, .bool u1, .bool u2, .bool u3, .bool u4, .bool y3k] 31).q⟩
  | true =>
   obtain ⟨W0, hW, y0, bs⟩ := Sx.start1 w [.slice a0 L0 cap0, .int .i64 ver] 24
   have HW := Lib.hid hW
   clear hW
   have q := bs.q
   go_enter Tryz.func7, Tryz.ntmps7
   go_wp2_with fail
   rw [HW.out]
   refine (alive21 W0 (HM.out.ret q)).mono ?_
   rintro e w1 ⟨rfl, hb⟩
   replace bs := bs.ret hb
   replace q := bs.q
   clear hb
   have c_r0 := bs.at 0 0 rfl rfl
   have c_r1 := bs.at 0 1 rfl rfl
   go_wp2_with fail
   refine (CG.out w1 q).mono ?_
   rintro e w2 ⟨rfl, hb⟩
   clear c_r0 c_r1
   replace bs := bs.ret hb
   replace q := bs.q
   clear hb
   have c_r0 := bs.at 0 0 rfl rfl
   have c_r1 := bs.at 0 1 rfl rfl
   go_wp2_with fail
   refine (CF.out w2 q).mono ?_
   rintro e w3 ⟨ga, gc, rfl, hrow, hb⟩
   clear c_r0 c_r1
   replace bs := bs.ret hb
   replace q := bs.q
   clear hb
   clear hrow
   have d0 := (bs.lit (w3.heap.size) rfl [.string ⟨xj.toArray⟩, .string ⟨xn.toArray⟩, .slice ga xg.length gc, .bool x1, .bool x2, .bool x3, .bool x4, .bool true] 31)
   have c0_r0 := d0.at 0 0 rfl rfl
   have c0_r1 := d0.at 0 1 rfl rfl
   go_wp2_with fail
   clear d0 c0_r0 c0_r1
   obtain ⟨w4, hw4, y4, al, bs⟩ := bs.alloc (w3.heap.size) rfl [.string ⟨xj.toArray⟩, .string ⟨xn.toArray⟩, .slice ga xg.length gc, .bool x1, .bool x2, .bool x3, .bool x4, .bool true] 31
   clear al
   replace q := bs.q
   rw [hw4]
   refine (P3.out (.slice a0 L0 cap0) M w4 rfl (HV.out.ret q) (HM.out.ret q)).mono ?_
   rintro e w5 ⟨a3, c3, rfl, K3, hK3, hown, hb⟩
   have o_n := OwnX.mk' bs hown
   replace bs := bs.ret hb
   replace q := bs.q
   clear hb
   clear hown
   have d0 := (bs.lit (w5.heap.size) rfl [.slice a3 S3.length c3, .int .i64 V3] 24)
   have c0_r0 := d0.at 0 0 rfl rfl
   have c0_r1 := d0.at 0 1 rfl rfl
   go_wp2_with fail
   clear d0 c0_r0 c0_r1
   obtain ⟨w6, hw6, y6, al, bs⟩ := bs.alloc (w5.heap.size) rfl [.slice a3 S3.length c3, .int .i64 V3] 24
   replace o_n := o_n.alloc (w5.heap.size) rfl al
   clear al
   replace q := bs.q
   rw [hw6]
   refine (P4.out (.slice a0 L0 cap0) M w6 rfl (HV.out.ret q) (HM.out.ret q)).mono ?_
   rintro e w7 ⟨a4, c4, rfl, K4, hK4, hown, hb⟩
   have o_m := OwnX.mk' bs hown
   replace o_n := o_n.ret hb
   replace bs := bs.ret hb
   replace q := bs.q
   clear hb
   clear hown
   have c_x0 := bs.at 1 0 rfl rfl
   have c_x1 := bs.at 1 1 rfl rfl
   have c_x2 := bs.at 1 2 rfl rfl
   have c_x3 := bs.at 1 3 rfl rfl
   have c_x4 := bs.at 1 4 rfl rfl
   have c_x5 := bs.at 1 5 rfl rfl
   have c_x6 := bs.at 1 6 rfl rfl
   have c_x7 := bs.at 1 7 rfl rfl
   have d0 := (bs.lit (w7.heap.size) rfl [.slice a4 0 c4, .int .i64 0] 24)
   have c0_x0 := d0.at 1 0 rfl rfl
   have c0_x1 := d0.at 1 1 rfl rfl
   have c0_x2 := d0.at 1 2 rfl rfl
   have c0_x3 := d0.at 1 3 rfl rfl
   have c0_x4 := d0.at 1 4 rfl rfl
   have c0_x5 := d0.at 1 5 rfl rfl
   have c0_x6 := d0.at 1 6 rfl rfl
   have c0_x7 := d0.at 1 7 rfl rfl
   have c0_a0 := d0.at 2 0 rfl rfl
   have c0_a1 := d0.at 2 1 rfl rfl
   have c0_n00 := d0.at 3 0 rfl rfl
   have c0_n01 := d0.at 3 1 rfl rfl
   go_wp2_with fail
   clear c_x0 c_x1 c_x2 c_x3 c_x4 c_x5 c_x6 c_x7 d0 c0_x0 c0_x1 c0_x2 c0_x3 c0_x4 c0_x5 c0_x6 c0_x7 c0_a0 c0_a1 c0_n00 c0_n01
   obtain ⟨w8, hw8, y8, al, bs⟩ := bs.alloc (w7.heap.size) rfl [.slice a4 0 c4, .int .i64 0] 24
   replace o_n := o_n.alloc (w7.heap.size) rfl al
   replace o_m := o_m.alloc (w7.heap.size) rfl al
   clear al
   replace q := bs.q
   rw [hw8]
   refine (G3.out w8).mono ?_
   rintro e w9 ⟨rfl, hb⟩
   replace o_n := o_n.ret hb
   replace o_m := o_m.ret hb
   replace bs := bs.ret hb
   replace q := bs.q
   clear hb
   have d0 := (bs.lit (w9.heap.size) rfl [.bool u1, .bool u2, .bool u3, .bool u4] 29)
   have c0_x0 := d0.at 1 0 rfl rfl
   have c0_x1 := d0.at 1 1 rfl rfl
   have c0_x2 := d0.at 1 2 rfl rfl
   have c0_x3 := d0.at 1 3 rfl rfl
   have c0_x4 := d0.at 1 4 rfl rfl
   have c0_x5 := d0.at 1 5 rfl rfl
   have c0_x6 := d0.at 1 6 rfl rfl
   have c0_x7 := d0.at 1 7 rfl rfl
   have c0_a0 := d0.at 2 0 rfl rfl
   have c0_a1 := d0.at 2 1 rfl rfl
   have c0_b0 := d0.at 3 0 rfl rfl
   have c0_b1 := d0.at 3 1 rfl rfl
   have c0_n00 := d0.at 4 0 rfl rfl
   have c0_n01 := d0.at 4 1 rfl rfl
   have c0_n02 := d0.at 4 2 rfl rfl
   have c0_n03 := d0.at 4 3 rfl rfl
   go_wp2_with fail
   clear d0 c0_x0 c0_x1 c0_x2 c0_x3 c0_x4 c0_x5 c0_x6 c0_x7 c0_a0 c0_a1 c0_b0 c0_b1 c0_n00 c0_n01 c0_n02 c0_n03
   obtain ⟨w10, hw10, y10, al, bs⟩ := bs.alloc (w9.heap.size) rfl [.bool u1, .bool u2, .bool u3, .bool u4] 29
   replace o_n := o_n.alloc (w9.heap.size) rfl al
   replace o_m := o_m.alloc (w9.heap.size) rfl al
   clear al
   replace q := bs.q
   rw [hw10]
   refine (F3.out _ K3 w10 o_n.own.items hK3).mono ?_
   rintro e w11 ⟨gy, gz, rfl, hrow, hb⟩
   replace o_n := o_n.ret hb
   replace o_m := o_m.ret hb
   replace bs := bs.ret hb
   replace q := bs.q
   clear hb
   clear hrow
   have d0 := (bs.lit (w11.heap.size) rfl [.string ⟨y3j.toArray⟩, .string ⟨y3n.toArray⟩, .slice gy y3g.length gz, .bool u1, .bool u2, .bool u3, .bool u4, .bool y3k] 31)
   have c0_x0 := d0.at 1 0 rfl rfl
   have c0_x1 := d0.at 1 1 rfl rfl
   have c0_x2 := d0.at 1 2 rfl rfl
   have c0_x3 := d0.at 1 3 rfl rfl
   have c0_x4 := d0.at 1 4 rfl rfl
   have c0_x5 := d0.at 1 5 rfl rfl
   have c0_x6 := d0.at 1 6 rfl rfl
   have c0_x7 := d0.at 1 7 rfl rfl
   have c0_a0 := d0.at 2 0 rfl rfl
   have c0_a1 := d0.at 2 1 rfl rfl
   have c0_b0 := d0.at 3 0 rfl rfl
   have c0_b1 := d0.at 3 1 rfl rfl
   have c0_s30 := d0.at 4 0 rfl rfl
   have c0_s31 := d0.at 4 1 rfl rfl
   have c0_s32 := d0.at 4 2 rfl rfl
   have c0_s33 := d0.at 4 3 rfl rfl
   have c0_n00 := d0.at 5 0 rfl rfl
   have c0_n01 := d0.at 5 1 rfl rfl
   have c0_n02 := d0.at 5 2 rfl rfl
   have c0_n03 := d0.at 5 3 rfl rfl
   have c0_n04 := d0.at 5 4 rfl rfl
   have c0_n05 := d0.at 5 5 rfl rfl
   have c0_n06 := d0.at 5 6 rfl rfl
   have c0_n07 := d0.at 5 7 rfl rfl
   go_wp2_with fail
   clear d0 c0_x0 c0_x1 c0_x2 c0_x3 c0_x4 c0_x5 c0_x6 c0_x7 c0_a0 c0_a1 c0_b0 c0_b1 c0_s30 c0_s31 c0_s32 c0_s33 c0_n00 c0_n01 c0_n02 c0_n03 c0_n04 c0_n05 c0_n06 c0_n07
   go_ret
   exact ⟨rfl, (bs.lit _ rfl [.string ⟨y3j.toArray⟩, .string ⟨y3n.toArray⟩, .slice gy y3g.length gz, .bool u1, .bool u2, .bool u3, .bool u4, .bool y3k] 31).q⟩
set_option maxHeartbeats 8000000 in
set_option maxRecDepth 100000 in
theorem states21_zz (v : Value) (ver : Int) (M : List Im) (t : List UInt8) (kd : Int) (w : World) (hv : IsItems v M w) (hm : ML w) (hgr : greatP (M.map Prod.fst) = false) (zt : t.length ≤ 500) (hk0 : 0 ≤ kd) (hk1 : kd ≤ 255) (e3 : sendC (M.map Prod.fst) ver t kd = 0) (e4 : takeC (M.map Prod.fst) ver t kd = 0) :
  Calls Tryz.prog 7 #[.agg #[v, .int .i64 ver], .string ⟨t.toArray⟩, .int .u8 kd] w (Ret w (.bool true)) := by
 obtain ⟨a0, cap0, hf, -⟩ := hv.form
 obtain ⟨L0, hL⟩ : ∃ L, M.length = L := ⟨_, rfl⟩
 rw [hL] at hf
 subst hf
 have zt2 : (⟨t.toArray⟩ : ByteArray).size = t.length := by rw [← size_toList]
 have HV := Lib.hid hv
 have HM := Lib.hid hm
 have CG := fun (w' : World) (hb : Below w.heap.size w w') => r21_Great (.slice a0 L0 cap0) ver M w' (hv.ret hb)
 rw [hgr] at CG
 have CG := Lib.hid CG
 have h1' : ¬ (500 : Int) < (t.length : Int) := by omega
 have hsg := sm_great hgr
 have CF := fun (w' : World) (hb : Below w.heap.size w w') => ro_Find (.slice a0 L0 cap0) ver M ⟨t.toArray⟩ w' (hv.ret hb) (by have := (Sm.im ⟨by omega, hsg.2⟩ rfl : SmallI M).1; omega) (fun p hp => ((Sm.im ⟨by omega, hsg.2⟩ rfl : SmallI M).2 p hp).2.2.1)
 unfold Fnd21 at CF
 simp only at CF
 obtain ⟨S3, V3, b3, st3, ⟨may3, kk1, kk2⟩, P3⟩ := send_st hgr zt hk0 hk1 e3
 obtain ⟨S4, V4, b4, st4, ⟨may4, kl1, kl2⟩, P4⟩ := take_st hgr zt hk0 hk1 e4
 have hW : (findL (M.map Prod.fst) t).getD it0 = wasL (M.map Prod.fst) t := rfl
 rw [hW] at CF
 obtain ⟨X, hX⟩ : ∃ X, wasL (M.map Prod.fst) t = X := ⟨_, rfl⟩
 obtain ⟨B, hB⟩ : ∃ B, (findL (M.map Prod.fst) t).isSome = B := ⟨_, rfl⟩
 rw [hX, hB] at CF
 obtain ⟨p3, i3, m3⟩ := st3
 rw [hX] at p3 P3 i3 may3
 rw [hB] at i3
 have G3 := fun w' => sub_Send_G X.s kd w' may3 kk1 kk2
 obtain ⟨Y3, hY3⟩ : ∃ Y, wasL S3 t = Y := ⟨_, rfl⟩
 have F3 := fun (u : Value) (K : List Im) (w' : World) (hu : IsItems u K w') (hK : K.map Prod.fst = S3) => ro_Find u V3 K ⟨t.toArray⟩ w' hu (by have := (Sm.im m3 hK).1; omega) (fun p hp => ((Sm.im m3 hK).2 p hp).2.2.1)
 have F3 := fun (u : Value) (K : List Im) (w' : World) (hu : IsItems u K w') (hK : K.map Prod.fst = S3) => show Calls Tryz.prog 10 #[.agg #[u, .int .i64 V3], .string ⟨t.toArray⟩] w' (fun e w2 => ∃ a c, e = .returned (.tuple #[itA (Y3, (a, c)), .bool (findL S3 t).isSome]) ∧ w2.ownsRow w'.heap.size 9 1 (.slice a Y3.g.length c) Y3.g.length (strV Y3.g) ∧ Below w'.heap.size w' w2) by
  have h := F3 u K w' hu hK
  unfold Fnd21 at h
  simp only at h
  rw [hK] at h
  rw [← hY3]
  exact h
 rw [i3] at F3
 rw [hY3] at p3
 obtain ⟨p4, i4, m4⟩ := st4
 rw [hX] at p4 P4 i4 may4
 rw [hB] at i4
 have G4 := fun w' => sub_Take_G X.s kd w' may4 kl1 kl2
 obtain ⟨Y4, hY4⟩ : ∃ Y, wasL S4 t = Y := ⟨_, rfl⟩
 have F4 := fun (u : Value) (K : List Im) (w' : World) (hu : IsItems u K w') (hK : K.map Prod.fst = S4) => ro_Find u V4 K ⟨t.toArray⟩ w' hu (by have := (Sm.im m4 hK).1; omega) (fun p hp => ((Sm.im m4 hK).2 p hp).2.2.1)
 have F4 := fun (u : Value) (K : List Im) (w' : World) (hu : IsItems u K w') (hK : K.map Prod.fst = S4) => show Calls Tryz.prog 10 #[.agg #[u, .int .i64 V4], .string ⟨t.toArray⟩] w' (fun e w2 => ∃ a c, e = .returned (.tuple #[itA (Y4, (a, c)), .bool (findL S4 t).isSome]) ∧ w2.ownsRow w'.heap.size 9 1 (.slice a Y4.g.length c) Y4.g.length (strV Y4.g) ∧ Below w'.heap.size w' w2) by
  have h := F4 u K w' hu hK
  unfold Fnd21 at h
  simp only at h
  rw [hK] at h
  rw [← hY4]
  exact h
 rw [i4] at F4
 rw [hY4] at p4
 obtain ⟨xj, xn, xg, ⟨x1, x2, x3, x4⟩, xk⟩ := X
 simp only at p3 P3 F3 G3
 generalize hs3 : subSend (x1, x2, x3, x4) kd = sf3 at p3 P3 F3 G3
 obtain ⟨⟨u1, u2, u3, u4⟩, go3⟩ := sf3
 obtain ⟨y3j, y3n, y3g, y3s, y3k⟩ := Y3
 simp only at p3
 subst p3
 have hQ3 : (!decide ((u1, u2, u3, u4) = sb0)) = (u1 || (u2 || (u3 || u4))) := by cases u1 <;> cases u2 <;> cases u3 <;> cases u4 <;> rfl
 rw [hQ3] at F3
 simp only [itA, gvI, It.j, It.n, It.g, It.k] at F3
 have F3 := Lib.hid F3
 have G3 := Lib.hid G3
 clear hs3 i3 m3 hY3 hQ3 may3
 simp only at p4 P4 F4 G4
 generalize hs4 : subTake (x1, x2, x3, x4) kd = sf4 at p4 P4 F4 G4
 obtain ⟨⟨z1, z2, z3, z4⟩, go4, bk4⟩ := sf4
 obtain ⟨y4j, y4n, y4g, y4s, y4k⟩ := Y4
 simp only at p4
 subst p4
 have hQ4 : (!decide ((z1, z2, z3, z4) = sb0)) = (z1 || (z2 || (z3 || z4))) := by cases z1 <;> cases z2 <;> cases z3 <;> cases z4 <;> rfl
 rw [hQ4] at F4
 simp only [itA, gvI, It.j, It.n, It.g, It.k] at F4
 have F4 := Lib.hid F4
 have G4 := Lib.hid G4
 clear hs4 i4 m4 hY4 hQ4 may4
 simp only [itA, gvI, It.j, It.n, It.g, It.k] at CF
 have CF := Lib.hid CF
 have P3 := Lib.hid P3
 have P4 := Lib.hid P4
 have NE := neq_sub
 have EQ := eql_sub
 have EG := eg_sub
 clear hv hm hL hgr hW hX hB hsg zt e3 e4
 cases B with
 | false =>
  obtain ⟨W0, hW, y0, bs⟩ := Sx.start1 w [.slice a0 L0 cap0, .int .i64 ver] 24
  have HW := Lib.hid hW
  clear hW
  have q := bs.q
  go_enter Tryz.func7, Tryz.ntmps7
  go_wp2_with fail
  rw [HW.out]
  refine (alive21 W0 (HM.out.ret q)).mono ?_
  rintro e w1 ⟨rfl, hb⟩
  replace bs := bs.ret hb
  replace q := bs.q
  clear hb
  have c_r0 := bs.at 0 0 rfl rfl
  have c_r1 := bs.at 0 1 rfl rfl
  go_wp2_with fail
  refine (CG.out w1 q).mono ?_
  rintro e w2 ⟨rfl, hb⟩
  clear c_r0 c_r1
  replace bs := bs.ret hb
  replace q := bs.q
  clear hb
  have c_r0 := bs.at 0 0 rfl rfl
  have c_r1 := bs.at 0 1 rfl rfl
  go_wp2_with fail
  refine (CF.out w2 q).mono ?_
  rintro e w3 ⟨ga, gc, rfl, hrow, hb⟩
  clear c_r0 c_r1
  replace bs := bs.ret hb
  replace q := bs.q
  clear hb
  clear hrow
  have d0 := (bs.lit (w3.heap.size) rfl [.string ⟨xj.toArray⟩, .string ⟨xn.toArray⟩, .slice ga xg.length gc, .bool x1, .bool x2, .bool x3, .bool x4, .bool xk] 31)
  have c0_r0 := d0.at 0 0 rfl rfl
  have c0_r1 := d0.at 0 1 rfl rfl
  go_wp2_with fail
  clear d0 c0_r0 c0_r1
  obtain ⟨w4, hw4, y4, al, bs⟩ := bs.alloc (w3.heap.size) rfl [.string ⟨xj.toArray⟩, .string ⟨xn.toArray⟩, .slice ga xg.length gc, .bool x1, .bool x2, .bool x3, .bool x4, .bool xk] 31
  clear al
  replace q := bs.q
  rw [hw4]
  refine (P3.out (.slice a0 L0 cap0) M w4 rfl (HV.out.ret q) (HM.out.ret q)).mono ?_
  rintro e w5 ⟨a3, c3, rfl, K3, hK3, hown, hb⟩
  have o_n := OwnX.mk' bs hown
  replace bs := bs.ret hb
  replace q := bs.q
  clear hb
  clear hown
  have d0 := (bs.lit (w5.heap.size) rfl [.slice a3 S3.length c3, .int .i64 V3] 24)
  have c0_r0 := d0.at 0 0 rfl rfl
  have c0_r1 := d0.at 0 1 rfl rfl
  go_wp2_with fail
  clear d0 c0_r0 c0_r1
  obtain ⟨w6, hw6, y6, al, bs⟩ := bs.alloc (w5.heap.size) rfl [.slice a3 S3.length c3, .int .i64 V3] 24
  replace o_n := o_n.alloc (w5.heap.size) rfl al
  clear al
  replace q := bs.q
  rw [hw6]
  refine (P4.out (.slice a0 L0 cap0) M w6 rfl (HV.out.ret q) (HM.out.ret q)).mono ?_
  rintro e w7 ⟨a4, c4, rfl, K4, hK4, hown, hb⟩
  have o_m := OwnX.mk' bs hown
  replace o_n := o_n.ret hb
  replace bs := bs.ret hb
  replace q := bs.q
  clear hb
  clear hown
  have c_x0 := bs.at 1 0 rfl rfl
  have c_x1 := bs.at 1 1 rfl rfl
  have c_x2 := bs.at 1 2 rfl rfl
  have c_x3 := bs.at 1 3 rfl rfl
  have c_x4 := bs.at 1 4 rfl rfl
  have c_x5 := bs.at 1 5 rfl rfl
  have c_x6 := bs.at 1 6 rfl rfl
  have c_x7 := bs.at 1 7 rfl rfl
  have d0 := (bs.lit (w7.heap.size) rfl [.slice a4 S4.length c4, .int .i64 V4] 24)
  have c0_x0 := d0.at 1 0 rfl rfl
  have c0_x1 := d0.at 1 1 rfl rfl
  have c0_x2 := d0.at 1 2 rfl rfl
  have c0_x3 := d0.at 1 3 rfl rfl
  have c0_x4 := d0.at 1 4 rfl rfl
  have c0_x5 := d0.at 1 5 rfl rfl
  have c0_x6 := d0.at 1 6 rfl rfl
  have c0_x7 := d0.at 1 7 rfl rfl
  have c0_a0 := d0.at 2 0 rfl rfl
  have c0_a1 := d0.at 2 1 rfl rfl
  have c0_n00 := d0.at 3 0 rfl rfl
  have c0_n01 := d0.at 3 1 rfl rfl
  go_wp2_with fail
  clear c_x0 c_x1 c_x2 c_x3 c_x4 c_x5 c_x6 c_x7 d0 c0_x0 c0_x1 c0_x2 c0_x3 c0_x4 c0_x5 c0_x6 c0_x7 c0_a0 c0_a1 c0_n00 c0_n01
  obtain ⟨w8, hw8, y8, al, bs⟩ := bs.alloc (w7.heap.size) rfl [.slice a4 S4.length c4, .int .i64 V4] 24
  replace o_n := o_n.alloc (w7.heap.size) rfl al
  replace o_m := o_m.alloc (w7.heap.size) rfl al
  clear al
  replace q := bs.q
  rw [hw8]
  refine (G3.out w8).mono ?_
  rintro e w9 ⟨rfl, hb⟩
  replace o_n := o_n.ret hb
  replace o_m := o_m.ret hb
  replace bs := bs.ret hb
  replace q := bs.q
  clear hb
  have d0 := (bs.lit (w9.heap.size) rfl [.bool u1, .bool u2, .bool u3, .bool u4] 29)
  have c0_x0 := d0.at 1 0 rfl rfl
  have c0_x1 := d0.at 1 1 rfl rfl
  have c0_x2 := d0.at 1 2 rfl rfl
  have c0_x3 := d0.at 1 3 rfl rfl
  have c0_x4 := d0.at 1 4 rfl rfl
  have c0_x5 := d0.at 1 5 rfl rfl
  have c0_x6 := d0.at 1 6 rfl rfl
  have c0_x7 := d0.at 1 7 rfl rfl
  have c0_a0 := d0.at 2 0 rfl rfl
  have c0_a1 := d0.at 2 1 rfl rfl
  have c0_b0 := d0.at 3 0 rfl rfl
  have c0_b1 := d0.at 3 1 rfl rfl
  have c0_n00 := d0.at 4 0 rfl rfl
  have c0_n01 := d0.at 4 1 rfl rfl
  have c0_n02 := d0.at 4 2 rfl rfl
  have c0_n03 := d0.at 4 3 rfl rfl
  go_wp2_with fail
  clear d0 c0_x0 c0_x1 c0_x2 c0_x3 c0_x4 c0_x5 c0_x6 c0_x7 c0_a0 c0_a1 c0_b0 c0_b1 c0_n00 c0_n01 c0_n02 c0_n03
  obtain ⟨w10, hw10, y10, al, bs⟩ := bs.alloc (w9.heap.size) rfl [.bool u1, .bool u2, .bool u3, .bool u4] 29
  replace o_n := o_n.alloc (w9.heap.size) rfl al
  replace o_m := o_m.alloc (w9.heap.size) rfl al
  clear al
  replace q := bs.q
  rw [hw10]
  refine (F3.out _ K3 w10 o_n.own.items hK3).mono ?_
  rintro e w11 ⟨gy, gz, rfl, hrow, hb⟩
  replace o_n := o_n.ret hb
  replace o_m := o_m.ret hb
  replace bs := bs.ret hb
  replace q := bs.q
  clear hb
  clear hrow
  have d0 := (bs.lit (w11.heap.size) rfl [.string ⟨y3j.toArray⟩, .string ⟨y3n.toArray⟩, .slice gy y3g.length gz, .bool u1, .bool u2, .bool u3, .bool u4, .bool y3k] 31)
  have c0_x0 := d0.at 1 0 rfl rfl
  have c0_x1 := d0.at 1 1 rfl rfl
  have c0_x2 := d0.at 1 2 rfl rfl
  have c0_x3 := d0.at 1 3 rfl rfl
  have c0_x4 := d0.at 1 4 rfl rfl
  have c0_x5 := d0.at 1 5 rfl rfl
  have c0_x6 := d0.at 1 6 rfl rfl
  have c0_x7 := d0.at 1 7 rfl rfl
  have c0_a0 := d0.at 2 0 rfl rfl
  have c0_a1 := d0.at 2 1 rfl rfl
  have c0_b0 := d0.at 3 0 rfl rfl
  have c0_b1 := d0.at 3 1 rfl rfl
  have c0_s30 := d0.at 4 0 rfl rfl
  have c0_s31 := d0.at 4 1 rfl rfl
  have c0_s32 := d0.at 4 2 rfl rfl
  have c0_s33 := d0.at 4 3 rfl rfl
  have c0_n00 := d0.at 5 0 rfl rfl
  have c0_n01 := d0.at 5 1 rfl rfl
  have c0_n02 := d0.at 5 2 rfl rfl
  have c0_n03 := d0.at 5 3 rfl rfl
  have c0_n04 := d0.at 5 4 rfl rfl
  have c0_n05 := d0.at 5 5 rfl rfl
  have c0_n06 := d0.at 5 6 rfl rfl
  have c0_n07 := d0.at 5 7 rfl rfl
  go_wp2_with fail
  clear d0 c0_x0 c0_x1 c0_x2 c0_x3 c0_x4 c0_x5 c0_x6 c0_x7 c0_a0 c0_a1 c0_b0 c0_b1 c0_s30 c0_s31 c0_s32 c0_s33 c0_n00 c0_n01 c0_n02 c0_n03 c0_n04 c0_n05 c0_n06 c0_n07
  obtain ⟨w12, hw12, y12, al, bs⟩ := bs.alloc (w11.heap.size) rfl [.string ⟨y3j.toArray⟩, .string ⟨y3n.toArray⟩, .slice gy y3g.length gz, .bool u1, .bool u2, .bool u3, .bool u4, .bool y3k] 31
  replace o_n := o_n.alloc (w11.heap.size) rfl al
  replace o_m := o_m.alloc (w11.heap.size) rfl al
  clear al
  replace q := bs.q
  rw [hw12]
  refine (G4.out w12).mono ?_
  rintro e w13 ⟨rfl, hb⟩
  replace o_n := o_n.ret hb
  replace o_m := o_m.ret hb
  replace bs := bs.ret hb
  replace q := bs.q
  clear hb
  have d0 := (bs.lit (w13.heap.size) rfl [.bool z1, .bool z2, .bool z3, .bool z4] 29)
  have c0_x0 := d0.at 1 0 rfl rfl
  have c0_x1 := d0.at 1 1 rfl rfl
  have c0_x2 := d0.at 1 2 rfl rfl
  have c0_x3 := d0.at 1 3 rfl rfl
  have c0_x4 := d0.at 1 4 rfl rfl
  have c0_x5 := d0.at 1 5 rfl rfl
  have c0_x6 := d0.at 1 6 rfl rfl
  have c0_x7 := d0.at 1 7 rfl rfl
  have c0_a0 := d0.at 2 0 rfl rfl
  have c0_a1 := d0.at 2 1 rfl rfl
  have c0_b0 := d0.at 3 0 rfl rfl
  have c0_b1 := d0.at 3 1 rfl rfl
  have c0_n00 := d0.at 6 0 rfl rfl
  have c0_n01 := d0.at 6 1 rfl rfl
  have c0_n02 := d0.at 6 2 rfl rfl
  have c0_n03 := d0.at 6 3 rfl rfl
  go_wp2_with fail
  clear d0 c0_x0 c0_x1 c0_x2 c0_x3 c0_x4 c0_x5 c0_x6 c0_x7 c0_a0 c0_a1 c0_b0 c0_b1 c0_n00 c0_n01 c0_n02 c0_n03
  obtain ⟨w14, hw14, y14, al, bs⟩ := bs.alloc (w13.heap.size) rfl [.bool z1, .bool z2, .bool z3, .bool z4] 29
  replace o_n := o_n.alloc (w13.heap.size) rfl al
  replace o_m := o_m.alloc (w13.heap.size) rfl al
  clear al
  replace q := bs.q
  rw [hw14]
  refine (F4.out _ K4 w14 o_m.own.items hK4).mono ?_
  rintro e w15 ⟨gy, gz, rfl, hrow, hb⟩
  replace o_n := o_n.ret hb
  replace o_m := o_m.ret hb
  replace bs := bs.ret hb
  replace q := bs.q
  clear hb
  clear hrow
  have d0 := (bs.lit (w15.heap.size) rfl [.string ⟨y4j.toArray⟩, .string ⟨y4n.toArray⟩, .slice gy y4g.length gz, .bool z1, .bool z2, .bool z3, .bool z4, .bool y4k] 31)
  have c0_x0 := d0.at 1 0 rfl rfl
  have c0_x1 := d0.at 1 1 rfl rfl
  have c0_x2 := d0.at 1 2 rfl rfl
  have c0_x3 := d0.at 1 3 rfl rfl
  have c0_x4 := d0.at 1 4 rfl rfl
  have c0_x5 := d0.at 1 5 rfl rfl
  have c0_x6 := d0.at 1 6 rfl rfl
  have c0_x7 := d0.at 1 7 rfl rfl
  have c0_a0 := d0.at 2 0 rfl rfl
  have c0_a1 := d0.at 2 1 rfl rfl
  have c0_b0 := d0.at 3 0 rfl rfl
  have c0_b1 := d0.at 3 1 rfl rfl
  have c0_s40 := d0.at 6 0 rfl rfl
  have c0_s41 := d0.at 6 1 rfl rfl
  have c0_s42 := d0.at 6 2 rfl rfl
  have c0_s43 := d0.at 6 3 rfl rfl
  have c0_n00 := d0.at 7 0 rfl rfl
  have c0_n01 := d0.at 7 1 rfl rfl
  have c0_n02 := d0.at 7 2 rfl rfl
  have c0_n03 := d0.at 7 3 rfl rfl
  have c0_n04 := d0.at 7 4 rfl rfl
  have c0_n05 := d0.at 7 5 rfl rfl
  have c0_n06 := d0.at 7 6 rfl rfl
  have c0_n07 := d0.at 7 7 rfl rfl
  go_wp2_with fail
  clear d0 c0_x0 c0_x1 c0_x2 c0_x3 c0_x4 c0_x5 c0_x6 c0_x7 c0_a0 c0_a1 c0_b0 c0_b1 c0_s40 c0_s41 c0_s42 c0_s43 c0_n00 c0_n01 c0_n02 c0_n03 c0_n04 c0_n05 c0_n06 c0_n07
  go_ret
  exact ⟨rfl, (bs.lit _ rfl [.string ⟨y4j.toArray⟩, .string ⟨y4n.toArray⟩, .slice gy y4g.length gz, .bool z1, .bool z2, .bool z3, .bool z4, .bool y4k] 31).q⟩
 | true =>
  cases xk with
  | false =>
   obtain ⟨W0, hW, y0, bs⟩ := Sx.start1 w [.slice a0 L0 cap0, .int .i64 ver] 24
   have HW := Lib.hid hW
   clear hW
   have q := bs.q
   go_enter Tryz.func7, Tryz.ntmps7
   go_wp2_with fail
   rw [HW.out]
   refine (alive21 W0 (HM.out.ret q)).mono ?_
   rintro e w1 ⟨rfl, hb⟩
   replace bs := bs.ret hb
   replace q := bs.q
   clear hb
   have c_r0 := bs.at 0 0 rfl rfl
   have c_r1 := bs.at 0 1 rfl rfl
   go_wp2_with fail
   refine (CG.out w1 q).mono ?_
   rintro e w2 ⟨rfl, hb⟩
   clear c_r0 c_r1
   replace bs := bs.ret hb
   replace q := bs.q
   clear hb
   have c_r0 := bs.at 0 0 rfl rfl
   have c_r1 := bs.at 0 1 rfl rfl
   go_wp2_with fail
   refine (CF.out w2 q).mono ?_
   rintro e w3 ⟨ga, gc, rfl, hrow, hb⟩
   clear c_r0 c_r1
   replace bs := bs.ret hb
   replace q := bs.q
   clear hb
   clear hrow
   have d0 := (bs.lit (w3.heap.size) rfl [.string ⟨xj.toArray⟩, .string ⟨xn.toArray⟩, .slice ga xg.length gc, .bool x1, .bool x2, .bool x3, .bool x4, .bool false] 31)
   have c0_r0 := d0.at 0 0 rfl rfl
   have c0_r1 := d0.at 0 1 rfl rfl
   go_wp2_with fail
   clear d0 c0_r0 c0_r1
   obtain ⟨w4, hw4, y4, al, bs⟩ := bs.alloc (w3.heap.size) rfl [.string ⟨xj.toArray⟩, .string ⟨xn.toArray⟩, .slice ga xg.length gc, .bool x1, .bool x2, .bool x3, .bool x4, .bool false] 31
   clear al
   replace q := bs.q
   rw [hw4]
   refine (P3.out (.slice a0 L0 cap0) M w4 rfl (HV.out.ret q) (HM.out.ret q)).mono ?_
   rintro e w5 ⟨a3, c3, rfl, K3, hK3, hown, hb⟩
   have o_n := OwnX.mk' bs hown
   replace bs := bs.ret hb
   replace q := bs.q
   clear hb
   clear hown
   have d0 := (bs.lit (w5.heap.size) rfl [.slice a3 S3.length c3, .int .i64 V3] 24)
   have c0_r0 := d0.at 0 0 rfl rfl
   have c0_r1 := d0.at 0 1 rfl rfl
   go_wp2_with fail
   clear d0 c0_r0 c0_r1
   obtain ⟨w6, hw6, y6, al, bs⟩ := bs.alloc (w5.heap.size) rfl [.slice a3 S3.length c3, .int .i64 V3] 24
   replace o_n := o_n.alloc (w5.heap.size) rfl al
   clear al
   replace q := bs.q
   rw [hw6]
   refine (P4.out (.slice a0 L0 cap0) M w6 rfl (HV.out.ret q) (HM.out.ret q)).mono ?_
   rintro e w7 ⟨a4, c4, rfl, K4, hK4, hown, hb⟩
   have o_m := OwnX.mk' bs hown
   replace o_n := o_n.ret hb
   replace bs := bs.ret hb
   replace q := bs.q
   clear hb
   clear hown
   have c_x0 := bs.at 1 0 rfl rfl
   have c_x1 := bs.at 1 1 rfl rfl
   have c_x2 := bs.at 1 2 rfl rfl
   have c_x3 := bs.at 1 3 rfl rfl
   have c_x4 := bs.at 1 4 rfl rfl
   have c_x5 := bs.at 1 5 rfl rfl
   have c_x6 := bs.at 1 6 rfl rfl
   have c_x7 := bs.at 1 7 rfl rfl
   have d0 := (bs.lit (w7.heap.size) rfl [.slice a4 S4.length c4, .int .i64 V4] 24)
   have c0_x0 := d0.at 1 0 rfl rfl
   have c0_x1 := d0.at 1 1 rfl rfl
   have c0_x2 := d0.at 1 2 rfl rfl
   have c0_x3 := d0.at 1 3 rfl rfl
   have c0_x4 := d0.at 1 4 rfl rfl
   have c0_x5 := d0.at 1 5 rfl rfl
   have c0_x6 := d0.at 1 6 rfl rfl
   have c0_x7 := d0.at 1 7 rfl rfl
   have c0_a0 := d0.at 2 0 rfl rfl
   have c0_a1 := d0.at 2 1 rfl rfl
   have c0_n00 := d0.at 3 0 rfl rfl
   have c0_n01 := d0.at 3 1 rfl rfl
   go_wp2_with fail
   clear c_x0 c_x1 c_x2 c_x3 c_x4 c_x5 c_x6 c_x7 d0 c0_x0 c0_x1 c0_x2 c0_x3 c0_x4 c0_x5 c0_x6 c0_x7 c0_a0 c0_a1 c0_n00 c0_n01
   obtain ⟨w8, hw8, y8, al, bs⟩ := bs.alloc (w7.heap.size) rfl [.slice a4 S4.length c4, .int .i64 V4] 24
   replace o_n := o_n.alloc (w7.heap.size) rfl al
   replace o_m := o_m.alloc (w7.heap.size) rfl al
   clear al
   replace q := bs.q
   rw [hw8]
   refine (G3.out w8).mono ?_
   rintro e w9 ⟨rfl, hb⟩
   replace o_n := o_n.ret hb
   replace o_m := o_m.ret hb
   replace bs := bs.ret hb
   replace q := bs.q
   clear hb
   have d0 := (bs.lit (w9.heap.size) rfl [.bool u1, .bool u2, .bool u3, .bool u4] 29)
   have c0_x0 := d0.at 1 0 rfl rfl
   have c0_x1 := d0.at 1 1 rfl rfl
   have c0_x2 := d0.at 1 2 rfl rfl
   have c0_x3 := d0.at 1 3 rfl rfl
   have c0_x4 := d0.at 1 4 rfl rfl
   have c0_x5 := d0.at 1 5 rfl rfl
   have c0_x6 := d0.at 1 6 rfl rfl
   have c0_x7 := d0.at 1 7 rfl rfl
   have c0_a0 := d0.at 2 0 rfl rfl
   have c0_a1 := d0.at 2 1 rfl rfl
   have c0_b0 := d0.at 3 0 rfl rfl
   have c0_b1 := d0.at 3 1 rfl rfl
   have c0_n00 := d0.at 4 0 rfl rfl
   have c0_n01 := d0.at 4 1 rfl rfl
   have c0_n02 := d0.at 4 2 rfl rfl
   have c0_n03 := d0.at 4 3 rfl rfl
   go_wp2_with fail
   clear d0 c0_x0 c0_x1 c0_x2 c0_x3 c0_x4 c0_x5 c0_x6 c0_x7 c0_a0 c0_a1 c0_b0 c0_b1 c0_n00 c0_n01 c0_n02 c0_n03
   obtain ⟨w10, hw10, y10, al, bs⟩ := bs.alloc (w9.heap.size) rfl [.bool u1, .bool u2, .bool u3, .bool u4] 29
   replace o_n := o_n.alloc (w9.heap.size) rfl al
   replace o_m := o_m.alloc (w9.heap.size) rfl al
   clear al
   replace q := bs.q
   rw [hw10]
   refine (F3.out _ K3 w10 o_n.own.items hK3).mono ?_
   rintro e w11 ⟨gy, gz, rfl, hrow, hb⟩
   replace o_n := o_n.ret hb
   replace o_m := o_m.ret hb
   replace bs := bs.ret hb
   replace q := bs.q
   clear hb
   clear hrow
   have d0 := (bs.lit (w11.heap.size) rfl [.string ⟨y3j.toArray⟩, .string ⟨y3n.toArray⟩, .slice gy y3g.length gz, .bool u1, .bool u2, .bool u3, .bool u4, .bool y3k] 31)
   have c0_x0 := d0.at 1 0 rfl rfl
   have c0_x1 := d0.at 1 1 rfl rfl
   have c0_x2 := d0.at 1 2 rfl rfl
   have c0_x3 := d0.at 1 3 rfl rfl
   have c0_x4 := d0.at 1 4 rfl rfl
   have c0_x5 := d0.at 1 5 rfl rfl
   have c0_x6 := d0.at 1 6 rfl rfl
   have c0_x7 := d0.at 1 7 rfl rfl
   have c0_a0 := d0.at 2 0 rfl rfl
   have c0_a1 := d0.at 2 1 rfl rfl
   have c0_b0 := d0.at 3 0 rfl rfl
   have c0_b1 := d0.at 3 1 rfl rfl
   have c0_s30 := d0.at 4 0 rfl rfl
   have c0_s31 := d0.at 4 1 rfl rfl
   have c0_s32 := d0.at 4 2 rfl rfl
   have c0_s33 := d0.at 4 3 rfl rfl
   have c0_n00 := d0.at 5 0 rfl rfl
   have c0_n01 := d0.at 5 1 rfl rfl
   have c0_n02 := d0.at 5 2 rfl rfl
   have c0_n03 := d0.at 5 3 rfl rfl
   have c0_n04 := d0.at 5 4 rfl rfl
   have c0_n05 := d0.at 5 5 rfl rfl
   have c0_n06 := d0.at 5 6 rfl rfl
   have c0_n07 := d0.at 5 7 rfl rfl
   go_wp2_with fail
   clear d0 c0_x0 c0_x1 c0_x2 c0_x3 c0_x4 c0_x5 c0_x6 c0_x7 c0_a0 c0_a1 c0_b0 c0_b1 c0_s30 c0_s31 c0_s32 c0_s33 c0_n00 c0_n01 c0_n02 c0_n03 c0_n04 c0_n05 c0_n06 c0_n07
   obtain ⟨w12, hw12, y12, al, bs⟩ := bs.alloc (w11.heap.size) rfl [.string ⟨y3j.toArray⟩, .string ⟨y3n.toArray⟩, .slice gy y3g.length gz, .bool u1, .bool u2, .bool u3, .bool u4, .bool y3k] 31
   replace o_n := o_n.alloc (w11.heap.size) rfl al
   replace o_m := o_m.alloc (w11.heap.size) rfl al
   clear al
   replace q := bs.q
   rw [hw12]
   refine (G4.out w12).mono ?_
   rintro e w13 ⟨rfl, hb⟩
   replace o_n := o_n.ret hb
   replace o_m := o_m.ret hb
   replace bs := bs.ret hb
   replace q := bs.q
   clear hb
   have d0 := (bs.lit (w13.heap.size) rfl [.bool z1, .bool z2, .bool z3, .bool z4] 29)
   have c0_x0 := d0.at 1 0 rfl rfl
   have c0_x1 := d0.at 1 1 rfl rfl
   have c0_x2 := d0.at 1 2 rfl rfl
   have c0_x3 := d0.at 1 3 rfl rfl
   have c0_x4 := d0.at 1 4 rfl rfl
   have c0_x5 := d0.at 1 5 rfl rfl
   have c0_x6 := d0.at 1 6 rfl rfl
   have c0_x7 := d0.at 1 7 rfl rfl
   have c0_a0 := d0.at 2 0 rfl rfl
   have c0_a1 := d0.at 2 1 rfl rfl
   have c0_b0 := d0.at 3 0 rfl rfl
   have c0_b1 := d0.at 3 1 rfl rfl
   have c0_n00 := d0.at 6 0 rfl rfl
   have c0_n01 := d0.at 6 1 rfl rfl
   have c0_n02 := d0.at 6 2 rfl rfl
   have c0_n03 := d0.at 6 3 rfl rfl
   go_wp2_with fail
   clear d0 c0_x0 c0_x1 c0_x2 c0_x3 c0_x4 c0_x5 c0_x6 c0_x7 c0_a0 c0_a1 c0_b0 c0_b1 c0_n00 c0_n01 c0_n02 c0_n03
   obtain ⟨w14, hw14, y14, al, bs⟩ := bs.alloc (w13.heap.size) rfl [.bool z1, .bool z2, .bool z3, .bool z4] 29
   replace o_n := o_n.alloc (w13.heap.size) rfl al
   replace o_m := o_m.alloc (w13.heap.size) rfl al
   clear al
   replace q := bs.q
   rw [hw14]
   refine (F4.out _ K4 w14 o_m.own.items hK4).mono ?_
   rintro e w15 ⟨gy, gz, rfl, hrow, hb⟩
   replace o_n := o_n.ret hb
   replace o_m := o_m.ret hb
   replace bs := bs.ret hb
   replace q := bs.q
   clear hb
   clear hrow
   have d0 := (bs.lit (w15.heap.size) rfl [.string ⟨y4j.toArray⟩, .string ⟨y4n.toArray⟩, .slice gy y4g.length gz, .bool z1, .bool z2, .bool z3, .bool z4, .bool y4k] 31)
   have c0_x0 := d0.at 1 0 rfl rfl
   have c0_x1 := d0.at 1 1 rfl rfl
   have c0_x2 := d0.at 1 2 rfl rfl
   have c0_x3 := d0.at 1 3 rfl rfl
   have c0_x4 := d0.at 1 4 rfl rfl
   have c0_x5 := d0.at 1 5 rfl rfl
   have c0_x6 := d0.at 1 6 rfl rfl
   have c0_x7 := d0.at 1 7 rfl rfl
   have c0_a0 := d0.at 2 0 rfl rfl
   have c0_a1 := d0.at 2 1 rfl rfl
   have c0_b0 := d0.at 3 0 rfl rfl
   have c0_b1 := d0.at 3 1 rfl rfl
   have c0_s40 := d0.at 6 0 rfl rfl
   have c0_s41 := d0.at 6 1 rfl rfl
   have c0_s42 := d0.at 6 2 rfl rfl
   have c0_s43 := d0.at 6 3 rfl rfl
   have c0_n00 := d0.at 7 0 rfl rfl
   have c0_n01 := d0.at 7 1 rfl rfl
   have c0_n02 := d0.at 7 2 rfl rfl
   have c0_n03 := d0.at 7 3 rfl rfl
   have c0_n04 := d0.at 7 4 rfl rfl
   have c0_n05 := d0.at 7 5 rfl rfl
   have c0_n06 := d0.at 7 6 rfl rfl
   have c0_n07 := d0.at 7 7 rfl rfl
   go_wp2_with fail
   clear d0 c0_x0 c0_x1 c0_x2 c0_x3 c0_x4 c0_x5 c0_x6 c0_x7 c0_a0 c0_a1 c0_b0 c0_b1 c0_s40 c0_s41 c0_s42 c0_s43 c0_n00 c0_n01 c0_n02 c0_n03 c0_n04 c0_n05 c0_n06 c0_n07
   go_ret
   exact ⟨rfl, (bs.lit _ rfl [.string ⟨y4j.toArray⟩, .string ⟨y4n.toArray⟩, .slice gy y4g.length gz, .bool z1, .bool z2, .bool z3, .bool z4, .bool y4k] 31).q⟩
  | true =>
   obtain ⟨W0, hW, y0, bs⟩ := Sx.start1 w [.slice a0 L0 cap0, .int .i64 ver] 24
   have HW := Lib.hid hW
   clear hW
   have q := bs.q
   go_enter Tryz.func7, Tryz.ntmps7
   go_wp2_with fail
   rw [HW.out]
   refine (alive21 W0 (HM.out.ret q)).mono ?_
   rintro e w1 ⟨rfl, hb⟩
   replace bs := bs.ret hb
   replace q := bs.q
   clear hb
   have c_r0 := bs.at 0 0 rfl rfl
   have c_r1 := bs.at 0 1 rfl rfl
   go_wp2_with fail
   refine (CG.out w1 q).mono ?_
   rintro e w2 ⟨rfl, hb⟩
   clear c_r0 c_r1
   replace bs := bs.ret hb
   replace q := bs.q
   clear hb
   have c_r0 := bs.at 0 0 rfl rfl
   have c_r1 := bs.at 0 1 rfl rfl
   go_wp2_with fail
   refine (CF.out w2 q).mono ?_
   rintro e w3 ⟨ga, gc, rfl, hrow, hb⟩
   clear c_r0 c_r1
   replace bs := bs.ret hb
   replace q := bs.q
   clear hb
   clear hrow
   have d0 := (bs.lit (w3.heap.size) rfl [.string ⟨xj.toArray⟩, .string ⟨xn.toArray⟩, .slice ga xg.length gc, .bool x1, .bool x2, .bool x3, .bool x4, .bool true] 31)
   have c0_r0 := d0.at 0 0 rfl rfl
   have c0_r1 := d0.at 0 1 rfl rfl
   go_wp2_with fail
   clear d0 c0_r0 c0_r1
   obtain ⟨w4, hw4, y4, al, bs⟩ := bs.alloc (w3.heap.size) rfl [.string ⟨xj.toArray⟩, .string ⟨xn.toArray⟩, .slice ga xg.length gc, .bool x1, .bool x2, .bool x3, .bool x4, .bool true] 31
   clear al
   replace q := bs.q
   rw [hw4]
   refine (P3.out (.slice a0 L0 cap0) M w4 rfl (HV.out.ret q) (HM.out.ret q)).mono ?_
   rintro e w5 ⟨a3, c3, rfl, K3, hK3, hown, hb⟩
   have o_n := OwnX.mk' bs hown
   replace bs := bs.ret hb
   replace q := bs.q
   clear hb
   clear hown
   have d0 := (bs.lit (w5.heap.size) rfl [.slice a3 S3.length c3, .int .i64 V3] 24)
   have c0_r0 := d0.at 0 0 rfl rfl
   have c0_r1 := d0.at 0 1 rfl rfl
   go_wp2_with fail
   clear d0 c0_r0 c0_r1
   obtain ⟨w6, hw6, y6, al, bs⟩ := bs.alloc (w5.heap.size) rfl [.slice a3 S3.length c3, .int .i64 V3] 24
   replace o_n := o_n.alloc (w5.heap.size) rfl al
   clear al
   replace q := bs.q
   rw [hw6]
   refine (P4.out (.slice a0 L0 cap0) M w6 rfl (HV.out.ret q) (HM.out.ret q)).mono ?_
   rintro e w7 ⟨a4, c4, rfl, K4, hK4, hown, hb⟩
   have o_m := OwnX.mk' bs hown
   replace o_n := o_n.ret hb
   replace bs := bs.ret hb
   replace q := bs.q
   clear hb
   clear hown
   have c_x0 := bs.at 1 0 rfl rfl
   have c_x1 := bs.at 1 1 rfl rfl
   have c_x2 := bs.at 1 2 rfl rfl
   have c_x3 := bs.at 1 3 rfl rfl
   have c_x4 := bs.at 1 4 rfl rfl
   have c_x5 := bs.at 1 5 rfl rfl
   have c_x6 := bs.at 1 6 rfl rfl
   have c_x7 := bs.at 1 7 rfl rfl
   have d0 := (bs.lit (w7.heap.size) rfl [.slice a4 S4.length c4, .int .i64 V4] 24)
   have c0_x0 := d0.at 1 0 rfl rfl
   have c0_x1 := d0.at 1 1 rfl rfl
   have c0_x2 := d0.at 1 2 rfl rfl
   have c0_x3 := d0.at 1 3 rfl rfl
   have c0_x4 := d0.at 1 4 rfl rfl
   have c0_x5 := d0.at 1 5 rfl rfl
   have c0_x6 := d0.at 1 6 rfl rfl
   have c0_x7 := d0.at 1 7 rfl rfl
   have c0_a0 := d0.at 2 0 rfl rfl
   have c0_a1 := d0.at 2 1 rfl rfl
   have c0_n00 := d0.at 3 0 rfl rfl
   have c0_n01 := d0.at 3 1 rfl rfl
   go_wp2_with fail
   clear c_x0 c_x1 c_x2 c_x3 c_x4 c_x5 c_x6 c_x7 d0 c0_x0 c0_x1 c0_x2 c0_x3 c0_x4 c0_x5 c0_x6 c0_x7 c0_a0 c0_a1 c0_n00 c0_n01
   obtain ⟨w8, hw8, y8, al, bs⟩ := bs.alloc (w7.heap.size) rfl [.slice a4 S4.length c4, .int .i64 V4] 24
   replace o_n := o_n.alloc (w7.heap.size) rfl al
   replace o_m := o_m.alloc (w7.heap.size) rfl al
   clear al
   replace q := bs.q
   rw [hw8]
   refine (G3.out w8).mono ?_
   rintro e w9 ⟨rfl, hb⟩
   replace o_n := o_n.ret hb
   replace o_m := o_m.ret hb
   replace bs := bs.ret hb
   replace q := bs.q
   clear hb
   have d0 := (bs.lit (w9.heap.size) rfl [.bool u1, .bool u2, .bool u3, .bool u4] 29)
   have c0_x0 := d0.at 1 0 rfl rfl
   have c0_x1 := d0.at 1 1 rfl rfl
   have c0_x2 := d0.at 1 2 rfl rfl
   have c0_x3 := d0.at 1 3 rfl rfl
   have c0_x4 := d0.at 1 4 rfl rfl
   have c0_x5 := d0.at 1 5 rfl rfl
   have c0_x6 := d0.at 1 6 rfl rfl
   have c0_x7 := d0.at 1 7 rfl rfl
   have c0_a0 := d0.at 2 0 rfl rfl
   have c0_a1 := d0.at 2 1 rfl rfl
   have c0_b0 := d0.at 3 0 rfl rfl
   have c0_b1 := d0.at 3 1 rfl rfl
   have c0_n00 := d0.at 4 0 rfl rfl
   have c0_n01 := d0.at 4 1 rfl rfl
   have c0_n02 := d0.at 4 2 rfl rfl
   have c0_n03 := d0.at 4 3 rfl rfl
   go_wp2_with fail
   clear d0 c0_x0 c0_x1 c0_x2 c0_x3 c0_x4 c0_x5 c0_x6 c0_x7 c0_a0 c0_a1 c0_b0 c0_b1 c0_n00 c0_n01 c0_n02 c0_n03
   obtain ⟨w10, hw10, y10, al, bs⟩ := bs.alloc (w9.heap.size) rfl [.bool u1, .bool u2, .bool u3, .bool u4] 29
   replace o_n := o_n.alloc (w9.heap.size) rfl al
   replace o_m := o_m.alloc (w9.heap.size) rfl al
   clear al
   replace q := bs.q
   rw [hw10]
   refine (F3.out _ K3 w10 o_n.own.items hK3).mono ?_
   rintro e w11 ⟨gy, gz, rfl, hrow, hb⟩
   replace o_n := o_n.ret hb
   replace o_m := o_m.ret hb
   replace bs := bs.ret hb
   replace q := bs.q
   clear hb
   clear hrow
   have d0 := (bs.lit (w11.heap.size) rfl [.string ⟨y3j.toArray⟩, .string ⟨y3n.toArray⟩, .slice gy y3g.length gz, .bool u1, .bool u2, .bool u3, .bool u4, .bool y3k] 31)
   have c0_x0 := d0.at 1 0 rfl rfl
   have c0_x1 := d0.at 1 1 rfl rfl
   have c0_x2 := d0.at 1 2 rfl rfl
   have c0_x3 := d0.at 1 3 rfl rfl
   have c0_x4 := d0.at 1 4 rfl rfl
   have c0_x5 := d0.at 1 5 rfl rfl
   have c0_x6 := d0.at 1 6 rfl rfl
   have c0_x7 := d0.at 1 7 rfl rfl
   have c0_a0 := d0.at 2 0 rfl rfl
   have c0_a1 := d0.at 2 1 rfl rfl
   have c0_b0 := d0.at 3 0 rfl rfl
   have c0_b1 := d0.at 3 1 rfl rfl
   have c0_s30 := d0.at 4 0 rfl rfl
   have c0_s31 := d0.at 4 1 rfl rfl
   have c0_s32 := d0.at 4 2 rfl rfl
   have c0_s33 := d0.at 4 3 rfl rfl
   have c0_n00 := d0.at 5 0 rfl rfl
   have c0_n01 := d0.at 5 1 rfl rfl
   have c0_n02 := d0.at 5 2 rfl rfl
   have c0_n03 := d0.at 5 3 rfl rfl
   have c0_n04 := d0.at 5 4 rfl rfl
   have c0_n05 := d0.at 5 5 rfl rfl
   have c0_n06 := d0.at 5 6 rfl rfl
   have c0_n07 := d0.at 5 7 rfl rfl
   go_wp2_with fail
   clear d0 c0_x0 c0_x1 c0_x2 c0_x3 c0_x4 c0_x5 c0_x6 c0_x7 c0_a0 c0_a1 c0_b0 c0_b1 c0_s30 c0_s31 c0_s32 c0_s33 c0_n00 c0_n01 c0_n02 c0_n03 c0_n04 c0_n05 c0_n06 c0_n07
   obtain ⟨w12, hw12, y12, al, bs⟩ := bs.alloc (w11.heap.size) rfl [.string ⟨y3j.toArray⟩, .string ⟨y3n.toArray⟩, .slice gy y3g.length gz, .bool u1, .bool u2, .bool u3, .bool u4, .bool y3k] 31
   replace o_n := o_n.alloc (w11.heap.size) rfl al
   replace o_m := o_m.alloc (w11.heap.size) rfl al
   clear al
   replace q := bs.q
   rw [hw12]
   refine (G4.out w12).mono ?_
   rintro e w13 ⟨rfl, hb⟩
   replace o_n := o_n.ret hb
   replace o_m := o_m.ret hb
   replace bs := bs.ret hb
   replace q := bs.q
   clear hb
   have d0 := (bs.lit (w13.heap.size) rfl [.bool z1, .bool z2, .bool z3, .bool z4] 29)
   have c0_x0 := d0.at 1 0 rfl rfl
   have c0_x1 := d0.at 1 1 rfl rfl
   have c0_x2 := d0.at 1 2 rfl rfl
   have c0_x3 := d0.at 1 3 rfl rfl
   have c0_x4 := d0.at 1 4 rfl rfl
   have c0_x5 := d0.at 1 5 rfl rfl
   have c0_x6 := d0.at 1 6 rfl rfl
   have c0_x7 := d0.at 1 7 rfl rfl
   have c0_a0 := d0.at 2 0 rfl rfl
   have c0_a1 := d0.at 2 1 rfl rfl
   have c0_b0 := d0.at 3 0 rfl rfl
   have c0_b1 := d0.at 3 1 rfl rfl
   have c0_n00 := d0.at 6 0 rfl rfl
   have c0_n01 := d0.at 6 1 rfl rfl
   have c0_n02 := d0.at 6 2 rfl rfl
   have c0_n03 := d0.at 6 3 rfl rfl
   go_wp2_with fail
   clear d0 c0_x0 c0_x1 c0_x2 c0_x3 c0_x4 c0_x5 c0_x6 c0_x7 c0_a0 c0_a1 c0_b0 c0_b1 c0_n00 c0_n01 c0_n02 c0_n03
   obtain ⟨w14, hw14, y14, al, bs⟩ := bs.alloc (w13.heap.size) rfl [.bool z1, .bool z2, .bool z3, .bool z4] 29
   replace o_n := o_n.alloc (w13.heap.size) rfl al
   replace o_m := o_m.alloc (w13.heap.size) rfl al
   clear al
   replace q := bs.q
   rw [hw14]
   refine (F4.out _ K4 w14 o_m.own.items hK4).mono ?_
   rintro e w15 ⟨gy, gz, rfl, hrow, hb⟩
   replace o_n := o_n.ret hb
   replace o_m := o_m.ret hb
   replace bs := bs.ret hb
   replace q := bs.q
   clear hb
   clear hrow
   have d0 := (bs.lit (w15.heap.size) rfl [.string ⟨y4j.toArray⟩, .string ⟨y4n.toArray⟩, .slice gy y4g.length gz, .bool z1, .bool z2, .bool z3, .bool z4, .bool y4k] 31)
   have c0_x0 := d0.at 1 0 rfl rfl
   have c0_x1 := d0.at 1 1 rfl rfl
   have c0_x2 := d0.at 1 2 rfl rfl
   have c0_x3 := d0.at 1 3 rfl rfl
   have c0_x4 := d0.at 1 4 rfl rfl
   have c0_x5 := d0.at 1 5 rfl rfl
   have c0_x6 := d0.at 1 6 rfl rfl
   have c0_x7 := d0.at 1 7 rfl rfl
   have c0_a0 := d0.at 2 0 rfl rfl
   have c0_a1 := d0.at 2 1 rfl rfl
   have c0_b0 := d0.at 3 0 rfl rfl
   have c0_b1 := d0.at 3 1 rfl rfl
   have c0_s40 := d0.at 6 0 rfl rfl
   have c0_s41 := d0.at 6 1 rfl rfl
   have c0_s42 := d0.at 6 2 rfl rfl
   have c0_s43 := d0.at 6 3 rfl rfl
   have c0_n00 := d0.at 7 0 rfl rfl
   have c0_n01 := d0.at 7 1 rfl rfl
   have c0_n02 := d0.at 7 2 rfl rfl
   have c0_n03 := d0.at 7 3 rfl rfl
   have c0_n04 := d0.at 7 4 rfl rfl
   have c0_n05 := d0.at 7 5 rfl rfl
   have c0_n06 := d0.at 7 6 rfl rfl
   have c0_n07 := d0.at 7 7 rfl rfl
   go_wp2_with fail
   clear d0 c0_x0 c0_x1 c0_x2 c0_x3 c0_x4 c0_x5 c0_x6 c0_x7 c0_a0 c0_a1 c0_b0 c0_b1 c0_s40 c0_s41 c0_s42 c0_s43 c0_n00 c0_n01 c0_n02 c0_n03 c0_n04 c0_n05 c0_n06 c0_n07
   go_ret
   exact ⟨rfl, (bs.lit _ rfl [.string ⟨y4j.toArray⟩, .string ⟨y4n.toArray⟩, .slice gy y4g.length gz, .bool z1, .bool z2, .bool z3, .bool z4, .bool y4k] 31).q⟩
set_option maxHeartbeats 4000000 in
set_option maxRecDepth 100000 in
theorem states21_early (v : Value) (ver : Int) (M : List Im) (t : List UInt8) (kd : Int) (w : World) (hv : IsItems v M w) (hm : ML w) (zt : t.length ≤ 9223372036854775807) (h : greatP (M.map Prod.fst) = true ∨ 500 < t.length) :
  Calls Tryz.prog 7 #[.agg #[v, .int .i64 ver], .string ⟨t.toArray⟩, .int .u8 kd] w (Ret w (.bool true)) := by
 obtain ⟨a0, cap0, hf, -⟩ := hv.form
 obtain ⟨L0, hL⟩ : ∃ L, M.length = L := ⟨_, rfl⟩
 rw [hL] at hf
 subst hf
 have zt2 : (⟨t.toArray⟩ : ByteArray).size = t.length := by rw [← size_toList]
 have HV := Lib.hid hv
 have HM := Lib.hid hm
 have CG := fun (w' : World) (hb : Below w.heap.size w w') => r21_Great (.slice a0 L0 cap0) ver M w' (hv.ret hb)
 cases hgr : greatP (M.map Prod.fst) with
 | true =>
  rw [hgr] at CG
  have CG := Lib.hid CG
  clear hv hm hL hgr h
  obtain ⟨W0, hW, y0, bs⟩ := Sx.start1 w [.slice a0 L0 cap0, .int .i64 ver] 24
  have HW := Lib.hid hW
  clear hW
  have q := bs.q
  go_enter Tryz.func7, Tryz.ntmps7
  go_wp2_with fail
  rw [HW.out]
  refine (alive21 W0 (HM.out.ret q)).mono ?_
  rintro e w1 ⟨rfl, hb⟩
  replace bs := bs.ret hb
  replace q := bs.q
  clear hb
  have c_r0 := bs.at 0 0 rfl rfl
  have c_r1 := bs.at 0 1 rfl rfl
  go_wp2_with fail
  refine (CG.out w1 q).mono ?_
  rintro e w2 ⟨rfl, hb⟩
  clear c_r0 c_r1
  replace bs := bs.ret hb
  replace q := bs.q
  clear hb
  go_wp2_with fail
  go_ret
  exact ⟨rfl, q⟩
 | false =>
  rw [hgr] at CG
  have CG := Lib.hid CG
  have h1' : (500 : Int) < (t.length : Int) := by
   rcases h with h | h
   ·rw [hgr] at h; cases h
   ·omega
  clear hv hm hL hgr h
  obtain ⟨W0, hW, y0, bs⟩ := Sx.start1 w [.slice a0 L0 cap0, .int .i64 ver] 24
  have HW := Lib.hid hW
  clear hW
  have q := bs.q
  go_enter Tryz.func7, Tryz.ntmps7
  go_wp2_with fail
  rw [HW.out]
  refine (alive21 W0 (HM.out.ret q)).mono ?_
  rintro e w1 ⟨rfl, hb⟩
  replace bs := bs.ret hb
  replace q := bs.q
  clear hb
  have c_r0 := bs.at 0 0 rfl rfl
  have c_r1 := bs.at 0 1 rfl rfl
  go_wp2_with fail
  refine (CG.out w1 q).mono ?_
  rintro e w2 ⟨rfl, hb⟩
  clear c_r0 c_r1
  replace bs := bs.ret hb
  replace q := bs.q
  clear hb
  go_wp2_with fail
  go_ret
  exact ⟨rfl, q⟩
theorem states21 (v : Value) (ver : Int) (M : List Im) (t : List UInt8) (kd : Int) (w : World) (hv : IsItems v M w) (hm : ML w) (zt : t.length ≤ 9223372036854775807) (hk0 : 0 ≤ kd) (hk1 : kd ≤ 255) :
  Calls Tryz.prog 7 #[.agg #[v, .int .i64 ver], .string ⟨t.toArray⟩, .int .u8 kd] w (Ret w (.bool true)) := by
 cases hgr : greatP (M.map Prod.fst) with
 | true => exact states21_early v ver M t kd w hv hm zt (.inl hgr)
 | false =>
  by_cases h1 : 500 < t.length
  ·exact states21_early v ver M t kd w hv hm zt (.inr h1)
  ·by_cases e3 : sendC (M.map Prod.fst) ver t kd = 0
   ·by_cases e4 : takeC (M.map Prod.fst) ver t kd = 0
    ·exact states21_zz v ver M t kd w hv hm hgr (by omega) hk0 hk1 e3 e4
    ·exact states21_zn v ver M t kd w hv hm hgr (by omega) hk0 hk1 e3 e4
   ·by_cases e4 : takeC (M.map Prod.fst) ver t kd = 0
    ·exact states21_nz v ver M t kd w hv hm hgr (by omega) hk0 hk1 e3 e4
    ·exact states21_nn v ver M t kd w hv hm hgr (by omega) hk0 hk1 e3 e4
end Go.Proofs.YtfonkblbgadhmaaGreatDoor
