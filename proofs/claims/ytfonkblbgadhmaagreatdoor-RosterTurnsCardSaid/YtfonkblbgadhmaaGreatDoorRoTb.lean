/- law21: RosterTurns, the walk. PRINTED BY PROGRAM (gen_rot.py). -/
import Derived.Test.YtfonkblbgadhmaaGreatDoorRoTa
namespace Go.Proofs.YtfonkblbgadhmaaGreatDoor
open Go.RowKit Go.Lib

set_option maxHeartbeats 4000000 in
set_option maxRecDepth 100000 in
theorem turns21 (v : Value) (ver : Int) (M : List Im) (t nm : List UInt8) (vg : Value) (g : List (List UInt8)) (kd : Int) (w : World) (hv : IsItems v M w) (hg : IsGrp vg g w) (hm : ML w) (zt : t.length ≤ 9223372036854775807) (zn : nm.length ≤ 9223372036854775807) (hk0 : 0 ≤ kd) (hk1 : kd ≤ 255) :
  Calls Tryz.prog 5 #[.agg #[v, .int .i64 ver], .string ⟨t.toArray⟩, .string ⟨nm.toArray⟩, vg, .int .u8 kd] w (Ret w (.bool true)) := by
 obtain ⟨a0, cap0, hf, -⟩ := hv.form
 obtain ⟨-, ag, cg, hgf, hgc⟩ := id hg
 obtain ⟨L0, hL⟩ : ∃ L, M.length = L := ⟨_, rfl⟩
 obtain ⟨G0, hG⟩ : ∃ G, g.length = G := ⟨_, rfl⟩
 rw [hL] at hf
 rw [hG] at hgf hgc
 subst hf
 subst hgf
 have zt2 : (⟨t.toArray⟩ : ByteArray).size = t.length := by rw [← size_toList]
 have zn2 : (⟨nm.toArray⟩ : ByteArray).size = nm.length := by rw [← size_toList]
 have HV := Lib.hid hv
 have HG := Lib.hid hg
 have HM := Lib.hid hm
 have HL := Lib.hid hL
 have HGL := Lib.hid hG
 have CG := fun (w' : World) (hb : Below w.heap.size w w') => r21_Great (.slice a0 L0 cap0) ver M w' (hv.ret hb)
 cases hgr : greatP (M.map Prod.fst) with
 | true =>
  rw [hgr] at CG
  have CG := Lib.hid CG
  clear hv hg hm hL hG hgr
  obtain ⟨W0, hW, y0, bs⟩ := Sx.start1 w [.slice a0 L0 cap0, .int .i64 ver] 24
  have HW := Lib.hid hW
  clear hW
  have q := bs.q
  go_enter Tryz.func5, Tryz.ntmps5
  go_wp2_with fail
  rw [HW.out]
  refine (CG.out W0 q).mono ?_
  rintro e w1 ⟨rfl, hb⟩
  replace bs := bs.ret hb
  replace q := bs.q
  clear hb
  go_wp2_with fail
  go_ret
  exact ⟨rfl, q⟩
 | false =>
  rw [hgr] at CG
  have CG := Lib.hid CG
  have GD := Lib.hid (Gd.of hgr rfl)
  have HGR := Lib.hid hgr
  clear hv hg hm hL hG hgr
  by_cases h1 : 500 < t.length
  ·have h1' : (500 : Int) < (t.length : Int) := by omega
   obtain ⟨W0, hW, y0, bs⟩ := Sx.start1 w [.slice a0 L0 cap0, .int .i64 ver] 24
   have HW := Lib.hid hW
   clear hW
   have q := bs.q
   go_enter Tryz.func5, Tryz.ntmps5
   go_wp2_with fail
   rw [HW.out]
   refine (CG.out W0 q).mono ?_
   rintro e w1 ⟨rfl, hb⟩
   replace bs := bs.ret hb
   replace q := bs.q
   clear hb
   go_wp2_with fail
   go_ret
   exact ⟨rfl, q⟩
  have h1' : ¬ (500 : Int) < (t.length : Int) := by omega
  by_cases h2 : 500 < nm.length
  ·have h2' : (500 : Int) < (nm.length : Int) := by omega
   obtain ⟨W0, hW, y0, bs⟩ := Sx.start1 w [.slice a0 L0 cap0, .int .i64 ver] 24
   have HW := Lib.hid hW
   clear hW
   have q := bs.q
   go_enter Tryz.func5, Tryz.ntmps5
   go_wp2_with fail
   rw [HW.out]
   refine (CG.out W0 q).mono ?_
   rintro e w1 ⟨rfl, hb⟩
   replace bs := bs.ret hb
   replace q := bs.q
   clear hb
   go_wp2_with fail
   go_ret
   exact ⟨rfl, q⟩
  have h2' : ¬ (500 : Int) < (nm.length : Int) := by omega
  by_cases h3 : 10 < G0
  ·have h3' : (10 : Int) < (G0 : Int) := by omega
   obtain ⟨W0, hW, y0, bs⟩ := Sx.start1 w [.slice a0 L0 cap0, .int .i64 ver] 24
   have HW := Lib.hid hW
   clear hW
   have q := bs.q
   go_enter Tryz.func5, Tryz.ntmps5
   go_wp2_with fail
   rw [HW.out]
   refine (CG.out W0 q).mono ?_
   rintro e w1 ⟨rfl, hb⟩
   replace bs := bs.ret hb
   replace q := bs.q
   clear hb
   go_wp2_with fail
   go_ret
   exact ⟨rfl, q⟩
  have h3' : ¬ (10 : Int) < (G0 : Int) := by omega
  obtain ⟨W0, hW, y0, bs⟩ := Sx.start1 w [.slice a0 L0 cap0, .int .i64 ver] 24
  have HW := Lib.hid hW
  clear hW
  have q := bs.q
  go_enter Tryz.func5, Tryz.ntmps5
  go_wp2_with fail
  rw [HW.out]
  refine (CG.out W0 q).mono ?_
  rintro e w1 ⟨rfl, hb⟩
  replace bs := bs.ret hb
  replace q := bs.q
  clear hb
  go_wp2_with fail
  go_loopw [11] (fun i wx => ∃ k : Nat, k ≤ G0 ∧ i = .int .i64 k ∧ (∀ x ∈ g.take k, x.length ≤ 500) ∧ wx = w1) (fun i _ => G0 - (intOf i).toNat)
  case atStart => exact ⟨0, Nat.zero_le _, rfl, (fun x hx => by simp at hx), rfl⟩
  case round =>
   obtain ⟨k, hk, rfl, hall, rfl⟩ := hrel
   by_cases hlt : k < G0
   ·have hkg : k < g.length := by rw [HGL.out]; exact hlt
    obtain ⟨b, off, cp, hf, hb0, hkc, hck⟩ := grp_cell (HG.out.ret q) hkg
    rw [HGL.out] at hf
    simp only [Value.slice.injEq, true_and] at hf
    obtain ⟨rfl, rfl⟩ := hf
    have hsn : (g.take (k + 1)) = g.take k ++ [g[k]] := List.take_succ_eq_append_getElem hkg
    obtain ⟨y, hy⟩ : ∃ y, g[k] = y := ⟨_, rfl⟩
    rw [hy] at hck hsn
    have zy : (⟨y.toArray⟩ : ByteArray).size = y.length := by rw [← size_toList]
    have HSN := Lib.hid hsn
    have HALL := Lib.hid hall
    clear hy hsn hall hkg
    by_cases h5 : 500 < y.length
    ·have h5i : (500 : Int) < (y.length : Int) := by omega
     go_wp2_with fail
     go_ret
     exact ⟨rfl, q⟩
    ·have h5i : ¬ (500 : Int) < (y.length : Int) := by omega
     go_wp2_with fail
     go_roundw
     case rel => exact ⟨k + 1, by omega, by go_num, (fun x hx => by
      rw [HSN.out] at hx
      rcases List.mem_append.1 hx with h | h
      ·exact HALL.out x h
      ·rw [List.mem_singleton.1 h]; omega), (by first | exact rfl | trivial)⟩
     case measure => simp [intOf]; omega
   ·obtain rfl : G0 = k := by omega
    have hg5 : ∀ x ∈ g, x.length ≤ 500 := by
     rw [List.take_of_length_le (by rw [HGL.out]; exact Nat.le_refl _)] at hall
     exact hall
    have G5 := Lib.hid hg5
    clear hall hg5 hk hlt
    have c_r0 := bs.at 0 0 rfl rfl
    have c_r1 := bs.at 0 1 rfl rfl
    go_wp2_with fail
    clear c_r0 c_r1
    refine ((r21_Twin (.slice a0 L0 cap0) ver M wr (HV.out.ret q) (by have := GD.out.s.1; omega) (fun p hp => (GD.out.s.2 p hp).2.2.1))).mono ?_
    rintro e w11 ⟨an, cn, rfl, Nn, hNn, hown, hb⟩
    replace bs := bs.ret hb
    replace q := bs.q
    clear hb
    have o_n := OwnB.mk' hown
    clear hown
    rw [List.length_map, HL.out] at o_n ⊢
    have HNn := Lib.hid hNn
    have HNn := Lib.hid hNn
    obtain ⟨S1, V1, E1, bS, PS, QS⟩ := set_both (t := t) (nm := nm) (g := g) ver HGR.out (by omega) (by omega) (by rw [HGL.out]; omega) G5.out
    obtain ⟨S2, V2, X2, E2, bD, PD, QD⟩ := drop_both (t := t) ver HGR.out (by omega)
    obtain ⟨S3, V3, g3, p3, E3, bN, PN, QN⟩ := send_both (t := t) (k := kd) ver HGR.out (by omega) hk0 hk1
    obtain ⟨S4, V4, g4, k4, p4, E4, bT, PT, QT⟩ := take_both (t := t) (k := kd) ver HGR.out (by omega) hk0 hk1
    have BSh := Lib.hid bS
    clear bS
    have PSh := Lib.hid PS
    clear PS
    have QSh := Lib.hid QS
    clear QS
    have BDh := Lib.hid bD
    clear bD
    have PDh := Lib.hid PD
    clear PD
    have QDh := Lib.hid QD
    clear QD
    have BNh := Lib.hid bN
    clear bN
    have PNh := Lib.hid PN
    clear PN
    have QNh := Lib.hid QN
    clear QN
    have BTh := Lib.hid bT
    clear bT
    have PTh := Lib.hid PT
    clear PT
    have QTh := Lib.hid QT
    clear QT
    have zq : w.heap.size < w11.heap.size := bs.lt _ List.mem_cons_self
    obtain ⟨w12, hw12, y12, al, bs⟩ := bs.alloc (w11.heap.size) rfl [.slice an L0 cn, .int .i64 ver] 24
    replace o_n := o_n.alloc (w11.heap.size) rfl al
    clear al
    replace q := bs.q
    obtain ⟨ma, mc, wa, ap, hgo, hb⟩ := app_new w12 (.slice ag G0 cg) g (HG.out.ret q) (by rw [HGL.out]; omega)
    rw [y12] at ap
    rw [← hw12] at ap
    rw [HGL.out] at hgo ap
    have o_m := OwB.mk' hgo
    have z0 := hb.size
    replace o_n := o_n.ret hb
    replace bs := bs.ret hb
    replace q := bs.q
    clear hb hgo
    clear hw12
    have AP := Lib.hid ap
    clear ap
    go_wp2_with (at_builtin; refine Hid.out ?_)
    refine Lib.hid ?_
    refine Lib.wpList_append_run _ rfl _ _ _ _ rfl _ _ rfl rfl _ _ (AP.out _) ?_
    clear AP
    have c_o0 := bs.at 1 0 rfl rfl
    have c_o1 := bs.at 1 1 rfl rfl
    go_wp2_with fail
    refine (PSh.out (.slice an L0 cn) Nn (.slice ma G0 mc) wa HNn.out o_n.own.items (HM.out.ret q) (own_grp o_m.1 HGL.out)).mono ?_
    rintro e w13 ⟨a1, c1, rfl, K1, hK1, hown, hb⟩
    clear c_o0 c_o1
    have o_s := OwnB.mk' hown
    have z1 := hb.size
    have HK1 := Lib.hid hK1
    clear hown hK1
    replace o_n := o_n.ret hb
    replace o_m := o_m.ret hb
    replace bs := bs.ret hb
    replace q := bs.q
    clear hb
    have d0 := (bs.lit (w13.heap.size) rfl [.slice a1 S1.length c1, .int .i64 V1] 24)
    have c0_r0 := d0.at 0 0 rfl rfl
    have c0_r1 := d0.at 0 1 rfl rfl
    go_wp2_with fail
    clear d0 c0_r0 c0_r1
    obtain ⟨w14, hw14, y14, al, bs⟩ := bs.alloc (w13.heap.size) rfl [.slice a1 S1.length c1, .int .i64 V1] 24
    replace o_n := o_n.alloc (w13.heap.size) rfl al
    replace o_m := o_m.alloc (w13.heap.size) rfl al
    replace o_s := o_s.alloc (w13.heap.size) rfl al
    clear al
    replace q := bs.q
    rw [hw14]
    refine (QSh.out (.slice a0 L0 cap0) M (.slice ag G0 cg) w14 rfl (HV.out.ret q) (HG.out.ret q)).mono ?_
    rintro e w15 ⟨a2, c2, rfl, K2, hK2, hown, hb⟩
    have o_s2 := OwnB.mk' hown
    have z2 := hb.size
    have HK2 := Lib.hid hK2
    clear hown hK2
    replace o_n := o_n.ret hb
    replace o_m := o_m.ret hb
    replace o_s := o_s.ret hb
    replace bs := bs.ret hb
    replace q := bs.q
    clear hb
    have d0 := (bs.lit (w15.heap.size) rfl [.slice a2 S1.length c2, .int .i64 V1] 24)
    have c0_o0 := d0.at 1 0 rfl rfl
    have c0_o1 := d0.at 1 1 rfl rfl
    go_wp2_with fail
    clear d0 c0_o0 c0_o1
    obtain ⟨w16, hw16, y16, al, bs⟩ := bs.alloc (w15.heap.size) rfl [.slice a2 S1.length c2, .int .i64 V1] 24
    replace o_n := o_n.alloc (w15.heap.size) rfl al
    replace o_m := o_m.alloc (w15.heap.size) rfl al
    replace o_s := o_s.alloc (w15.heap.size) rfl al
    replace o_s2 := o_s2.alloc (w15.heap.size) rfl al
    clear al
    replace q := bs.q
    rw [hw16]
    refine (PDh.out (.slice an L0 cn) Nn w16 HNn.out o_n.own.items (HM.out.ret q)).mono ?_
    rintro e w17 ⟨a3, c3, p3, rfl, hp3, hgo, K3, hK3, hown, hb⟩
    have o_d := OwnB.mk' hown
    have z3 := hb.size
    have HK3 := Lib.hid hK3
    clear hown hK3
    have o_dg := OwB.mk' hgo
    have HP3 := Lib.hid hp3
    clear hgo hp3
    replace o_n := o_n.ret hb
    replace o_m := o_m.ret hb
    replace o_s := o_s.ret hb
    replace o_s2 := o_s2.ret hb
    replace bs := bs.ret hb
    replace q := bs.q
    clear hb
    have d0 := ((bs.lit (w17.heap.size) rfl [.slice a3 S2.length c3, .int .i64 V2] 24).lit (w17.heap.size + 1) (by simp; try omega) [.string ⟨p3.1.j.toArray⟩, .string ⟨p3.1.n.toArray⟩, gvI p3, .bool p3.1.s.1, .bool p3.1.s.2.1, .bool p3.1.s.2.2.1, .bool p3.1.s.2.2.2, .bool p3.1.k] 31)
    have c0_r0 := d0.at 0 0 rfl rfl
    have c0_r1 := d0.at 0 1 rfl rfl
    go_wp2_with fail
    clear d0 c0_r0 c0_r1
    obtain ⟨w18, hw18, y18, al, bs⟩ := bs.alloc (w17.heap.size) rfl [.slice a3 S2.length c3, .int .i64 V2] 24
    replace o_n := o_n.alloc (w17.heap.size) rfl al
    replace o_m := o_m.alloc (w17.heap.size) rfl al
    replace o_s := o_s.alloc (w17.heap.size) rfl al
    replace o_s2 := o_s2.alloc (w17.heap.size) rfl al
    replace o_d := o_d.alloc (w17.heap.size) rfl al
    replace o_dg := o_dg.alloc (w17.heap.size) rfl al
    clear al
    obtain ⟨w19, hw19, y19, al, bs⟩ := bs.alloc (w17.heap.size + 1) (by omega) [.string ⟨p3.1.j.toArray⟩, .string ⟨p3.1.n.toArray⟩, gvI p3, .bool p3.1.s.1, .bool p3.1.s.2.1, .bool p3.1.s.2.2.1, .bool p3.1.s.2.2.2, .bool p3.1.k] 31
    replace o_n := o_n.alloc (w17.heap.size + 1) (by omega) al
    replace o_m := o_m.alloc (w17.heap.size + 1) (by omega) al
    replace o_s := o_s.alloc (w17.heap.size + 1) (by omega) al
    replace o_s2 := o_s2.alloc (w17.heap.size + 1) (by omega) al
    replace o_d := o_d.alloc (w17.heap.size + 1) (by omega) al
    replace o_dg := o_dg.alloc (w17.heap.size + 1) (by omega) al
    clear al
    replace q := bs.q
    rw [hw18]
    rw [hw19]
    refine (QDh.out (.slice a0 L0 cap0) M w19 rfl (HV.out.ret q)).mono ?_
    rintro e w20 ⟨a4, c4, p4, rfl, hp4, hgo, K4, hK4, hown, hb⟩
    have o_d2 := OwnB.mk' hown
    have z4 := hb.size
    have HK4 := Lib.hid hK4
    clear hown hK4
    have o_d2g := OwB.mk' hgo
    have HP4 := Lib.hid hp4
    clear hgo hp4
    replace o_n := o_n.ret hb
    replace o_m := o_m.ret hb
    replace o_s := o_s.ret hb
    replace o_s2 := o_s2.ret hb
    replace o_d := o_d.ret hb
    replace o_dg := o_dg.ret hb
    replace bs := bs.ret hb
    replace q := bs.q
    clear hb
    have d0 := ((bs.lit (w20.heap.size) rfl [.slice a4 S2.length c4, .int .i64 V2] 24).lit (w20.heap.size + 1) (by simp; try omega) [.string ⟨p4.1.j.toArray⟩, .string ⟨p4.1.n.toArray⟩, gvI p4, .bool p4.1.s.1, .bool p4.1.s.2.1, .bool p4.1.s.2.2.1, .bool p4.1.s.2.2.2, .bool p4.1.k] 31)
    have c0_o0 := d0.at 1 0 rfl rfl
    have c0_o1 := d0.at 1 1 rfl rfl
    go_wp2_with fail
    clear d0 c0_o0 c0_o1
    obtain ⟨w21, hw21, y21, al, bs⟩ := bs.alloc (w20.heap.size) rfl [.slice a4 S2.length c4, .int .i64 V2] 24
    replace o_n := o_n.alloc (w20.heap.size) rfl al
    replace o_m := o_m.alloc (w20.heap.size) rfl al
    replace o_s := o_s.alloc (w20.heap.size) rfl al
    replace o_s2 := o_s2.alloc (w20.heap.size) rfl al
    replace o_d := o_d.alloc (w20.heap.size) rfl al
    replace o_dg := o_dg.alloc (w20.heap.size) rfl al
    replace o_d2 := o_d2.alloc (w20.heap.size) rfl al
    replace o_d2g := o_d2g.alloc (w20.heap.size) rfl al
    clear al
    obtain ⟨w22, hw22, y22, al, bs⟩ := bs.alloc (w20.heap.size + 1) (by omega) [.string ⟨p4.1.j.toArray⟩, .string ⟨p4.1.n.toArray⟩, gvI p4, .bool p4.1.s.1, .bool p4.1.s.2.1, .bool p4.1.s.2.2.1, .bool p4.1.s.2.2.2, .bool p4.1.k] 31
    replace o_n := o_n.alloc (w20.heap.size + 1) (by omega) al
    replace o_m := o_m.alloc (w20.heap.size + 1) (by omega) al
    replace o_s := o_s.alloc (w20.heap.size + 1) (by omega) al
    replace o_s2 := o_s2.alloc (w20.heap.size + 1) (by omega) al
    replace o_d := o_d.alloc (w20.heap.size + 1) (by omega) al
    replace o_dg := o_dg.alloc (w20.heap.size + 1) (by omega) al
    replace o_d2 := o_d2.alloc (w20.heap.size + 1) (by omega) al
    replace o_d2g := o_d2g.alloc (w20.heap.size + 1) (by omega) al
    clear al
    replace q := bs.q
    rw [hw21]
    rw [hw22]
    refine (PNh.out (.slice an L0 cn) Nn w22 HNn.out o_n.own.items (HM.out.ret q)).mono ?_
    rintro e w23 ⟨a5, c5, rfl, K5, hK5, hown, hb⟩
    have o_n5 := OwnB.mk' hown
    have z5 := hb.size
    have HK5 := Lib.hid hK5
    clear hown hK5
    replace o_n := o_n.ret hb
    replace o_m := o_m.ret hb
    replace o_s := o_s.ret hb
    replace o_s2 := o_s2.ret hb
    replace o_d := o_d.ret hb
    replace o_dg := o_dg.ret hb
    replace o_d2 := o_d2.ret hb
    replace o_d2g := o_d2g.ret hb
    replace bs := bs.ret hb
    replace q := bs.q
    clear hb
    have d0 := (bs.lit (w23.heap.size) rfl [.slice a5 S3.length c5, .int .i64 V3] 24)
    have c0_r0 := d0.at 0 0 rfl rfl
    have c0_r1 := d0.at 0 1 rfl rfl
    go_wp2_with fail
    clear d0 c0_r0 c0_r1
    obtain ⟨w24, hw24, y24, al, bs⟩ := bs.alloc (w23.heap.size) rfl [.slice a5 S3.length c5, .int .i64 V3] 24
    replace o_n := o_n.alloc (w23.heap.size) rfl al
    replace o_m := o_m.alloc (w23.heap.size) rfl al
    replace o_s := o_s.alloc (w23.heap.size) rfl al
    replace o_s2 := o_s2.alloc (w23.heap.size) rfl al
    replace o_d := o_d.alloc (w23.heap.size) rfl al
    replace o_dg := o_dg.alloc (w23.heap.size) rfl al
    replace o_d2 := o_d2.alloc (w23.heap.size) rfl al
    replace o_d2g := o_d2g.alloc (w23.heap.size) rfl al
    replace o_n5 := o_n5.alloc (w23.heap.size) rfl al
    clear al
    replace q := bs.q
    rw [hw24]
    refine (QNh.out (.slice a0 L0 cap0) M w24 rfl (HV.out.ret q)).mono ?_
    rintro e w25 ⟨a6, c6, rfl, K6, hK6, hown, hb⟩
    have o_n6 := OwnB.mk' hown
    have z6 := hb.size
    have HK6 := Lib.hid hK6
    clear hown hK6
    replace o_n := o_n.ret hb
    replace o_m := o_m.ret hb
    replace o_s := o_s.ret hb
    replace o_s2 := o_s2.ret hb
    replace o_d := o_d.ret hb
    replace o_dg := o_dg.ret hb
    replace o_d2 := o_d2.ret hb
    replace o_d2g := o_d2g.ret hb
    replace o_n5 := o_n5.ret hb
    replace bs := bs.ret hb
    replace q := bs.q
    clear hb
    have d0 := (bs.lit (w25.heap.size) rfl [.slice a6 S3.length c6, .int .i64 V3] 24)
    have c0_o0 := d0.at 1 0 rfl rfl
    have c0_o1 := d0.at 1 1 rfl rfl
    go_wp2_with fail
    clear d0 c0_o0 c0_o1
    obtain ⟨w26, hw26, y26, al, bs⟩ := bs.alloc (w25.heap.size) rfl [.slice a6 S3.length c6, .int .i64 V3] 24
    replace o_n := o_n.alloc (w25.heap.size) rfl al
    replace o_m := o_m.alloc (w25.heap.size) rfl al
    replace o_s := o_s.alloc (w25.heap.size) rfl al
    replace o_s2 := o_s2.alloc (w25.heap.size) rfl al
    replace o_d := o_d.alloc (w25.heap.size) rfl al
    replace o_dg := o_dg.alloc (w25.heap.size) rfl al
    replace o_d2 := o_d2.alloc (w25.heap.size) rfl al
    replace o_d2g := o_d2g.alloc (w25.heap.size) rfl al
    replace o_n5 := o_n5.alloc (w25.heap.size) rfl al
    replace o_n6 := o_n6.alloc (w25.heap.size) rfl al
    clear al
    replace q := bs.q
    rw [hw26]
    refine (PTh.out (.slice an L0 cn) Nn w26 HNn.out o_n.own.items (HM.out.ret q)).mono ?_
    rintro e w27 ⟨a7, c7, rfl, K7, hK7, hown, hb⟩
    have o_t7 := OwnB.mk' hown
    have z7 := hb.size
    have HK7 := Lib.hid hK7
    clear hown hK7
    replace o_n := o_n.ret hb
    replace o_m := o_m.ret hb
    replace o_s := o_s.ret hb
    replace o_s2 := o_s2.ret hb
    replace o_d := o_d.ret hb
    replace o_dg := o_dg.ret hb
    replace o_d2 := o_d2.ret hb
    replace o_d2g := o_d2g.ret hb
    replace o_n5 := o_n5.ret hb
    replace o_n6 := o_n6.ret hb
    replace bs := bs.ret hb
    replace q := bs.q
    clear hb
    have d0 := (bs.lit (w27.heap.size) rfl [.slice a7 S4.length c7, .int .i64 V4] 24)
    have c0_r0 := d0.at 0 0 rfl rfl
    have c0_r1 := d0.at 0 1 rfl rfl
    go_wp2_with fail
    clear d0 c0_r0 c0_r1
    obtain ⟨w28, hw28, y28, al, bs⟩ := bs.alloc (w27.heap.size) rfl [.slice a7 S4.length c7, .int .i64 V4] 24
    replace o_n := o_n.alloc (w27.heap.size) rfl al
    replace o_m := o_m.alloc (w27.heap.size) rfl al
    replace o_s := o_s.alloc (w27.heap.size) rfl al
    replace o_s2 := o_s2.alloc (w27.heap.size) rfl al
    replace o_d := o_d.alloc (w27.heap.size) rfl al
    replace o_dg := o_dg.alloc (w27.heap.size) rfl al
    replace o_d2 := o_d2.alloc (w27.heap.size) rfl al
    replace o_d2g := o_d2g.alloc (w27.heap.size) rfl al
    replace o_n5 := o_n5.alloc (w27.heap.size) rfl al
    replace o_n6 := o_n6.alloc (w27.heap.size) rfl al
    replace o_t7 := o_t7.alloc (w27.heap.size) rfl al
    clear al
    replace q := bs.q
    rw [hw28]
    refine (QTh.out (.slice a0 L0 cap0) M w28 rfl (HV.out.ret q)).mono ?_
    rintro e w29 ⟨a8, c8, rfl, K8, hK8, hown, hb⟩
    have o_t8 := OwnB.mk' hown
    have z8 := hb.size
    have HK8 := Lib.hid hK8
    clear hown hK8
    replace o_n := o_n.ret hb
    replace o_m := o_m.ret hb
    replace o_s := o_s.ret hb
    replace o_s2 := o_s2.ret hb
    replace o_d := o_d.ret hb
    replace o_dg := o_dg.ret hb
    replace o_d2 := o_d2.ret hb
    replace o_d2g := o_d2g.ret hb
    replace o_n5 := o_n5.ret hb
    replace o_n6 := o_n6.ret hb
    replace o_t7 := o_t7.ret hb
    replace bs := bs.ret hb
    replace q := bs.q
    clear hb
    have d0 := (bs.lit (w29.heap.size) rfl [.slice a8 S4.length c8, .int .i64 V4] 24)
    have c0_b10 := d0.at 2 0 rfl rfl
    have c0_b11 := d0.at 2 1 rfl rfl
    have c0_b20 := d0.at 3 0 rfl rfl
    have c0_b21 := d0.at 3 1 rfl rfl
    go_wp2_with fail
    clear d0 c0_b10 c0_b11 c0_b20 c0_b21
    obtain ⟨w30, hw30, y30, al, bs⟩ := bs.alloc (w29.heap.size) rfl [.slice a8 S4.length c8, .int .i64 V4] 24
    replace o_n := o_n.alloc (w29.heap.size) rfl al
    replace o_m := o_m.alloc (w29.heap.size) rfl al
    replace o_s := o_s.alloc (w29.heap.size) rfl al
    replace o_s2 := o_s2.alloc (w29.heap.size) rfl al
    replace o_d := o_d.alloc (w29.heap.size) rfl al
    replace o_dg := o_dg.alloc (w29.heap.size) rfl al
    replace o_d2 := o_d2.alloc (w29.heap.size) rfl al
    replace o_d2g := o_d2g.alloc (w29.heap.size) rfl al
    replace o_n5 := o_n5.alloc (w29.heap.size) rfl al
    replace o_n6 := o_n6.alloc (w29.heap.size) rfl al
    replace o_t7 := o_t7.alloc (w29.heap.size) rfl al
    replace o_t8 := o_t8.alloc (w29.heap.size) rfl al
    clear al
    replace q := bs.q
    rw [hw30]
    refine (same_true o_s.own.items o_s2.own.items HK1.out HK2.out BSh.out V1).mono ?_
    rintro e w31 ⟨rfl, hb⟩
    replace o_n := o_n.ret hb
    replace o_m := o_m.ret hb
    replace o_s := o_s.ret hb
    replace o_s2 := o_s2.ret hb
    replace o_d := o_d.ret hb
    replace o_dg := o_dg.ret hb
    replace o_d2 := o_d2.ret hb
    replace o_d2g := o_d2g.ret hb
    replace o_n5 := o_n5.ret hb
    replace o_n6 := o_n6.ret hb
    replace o_t7 := o_t7.ret hb
    replace o_t8 := o_t8.ret hb
    replace bs := bs.ret hb
    replace q := bs.q
    clear hb
    have c_b30 := bs.at 4 0 rfl rfl
    have c_b31 := bs.at 4 1 rfl rfl
    have c_b40 := bs.at 6 0 rfl rfl
    have c_b41 := bs.at 6 1 rfl rfl
    go_wp2_with fail
    refine (same_true o_d.own.items o_d2.own.items HK3.out HK4.out BDh.out.1 V2).mono ?_
    rintro e w32 ⟨rfl, hb⟩
    clear c_b30 c_b31 c_b40 c_b41
    replace o_n := o_n.ret hb
    replace o_m := o_m.ret hb
    replace o_s := o_s.ret hb
    replace o_s2 := o_s2.ret hb
    replace o_d := o_d.ret hb
    replace o_dg := o_dg.ret hb
    replace o_d2 := o_d2.ret hb
    replace o_d2g := o_d2g.ret hb
    replace o_n5 := o_n5.ret hb
    replace o_n6 := o_n6.ret hb
    replace o_t7 := o_t7.ret hb
    replace o_t8 := o_t8.ret hb
    replace bs := bs.ret hb
    replace q := bs.q
    clear hb
    have c_bi30 := bs.at 5 0 rfl rfl
    have c_bi31 := bs.at 5 1 rfl rfl
    have c_bi32 := bs.at 5 2 rfl rfl
    have c_bi33 := bs.at 5 3 rfl rfl
    have c_bi34 := bs.at 5 4 rfl rfl
    have c_bi35 := bs.at 5 5 rfl rfl
    have c_bi36 := bs.at 5 6 rfl rfl
    have c_bi37 := bs.at 5 7 rfl rfl
    have c_bi40 := bs.at 7 0 rfl rfl
    have c_bi41 := bs.at 7 1 rfl rfl
    have c_bi42 := bs.at 7 2 rfl rfl
    have c_bi43 := bs.at 7 3 rfl rfl
    have c_bi44 := bs.at 7 4 rfl rfl
    have c_bi45 := bs.at 7 5 rfl rfl
    have c_bi46 := bs.at 7 6 rfl rfl
    have c_bi47 := bs.at 7 7 rfl rfl
    go_wp2_with fail
    refine (same_item (own_grp o_dg.1 rfl) (own_grp o_d2g.1 rfl) HP3.out HP4.out BDh.out.2).mono ?_
    rintro e w33 ⟨rfl, hb⟩
    clear c_bi30 c_bi31 c_bi32 c_bi33 c_bi34 c_bi35 c_bi36 c_bi37 c_bi40 c_bi41 c_bi42 c_bi43 c_bi44 c_bi45 c_bi46 c_bi47
    replace o_n := o_n.ret hb
    replace o_m := o_m.ret hb
    replace o_s := o_s.ret hb
    replace o_s2 := o_s2.ret hb
    replace o_d := o_d.ret hb
    replace o_dg := o_dg.ret hb
    replace o_d2 := o_d2.ret hb
    replace o_d2g := o_d2g.ret hb
    replace o_n5 := o_n5.ret hb
    replace o_n6 := o_n6.ret hb
    replace o_t7 := o_t7.ret hb
    replace o_t8 := o_t8.ret hb
    replace bs := bs.ret hb
    replace q := bs.q
    clear hb
    have c_b50 := bs.at 8 0 rfl rfl
    have c_b51 := bs.at 8 1 rfl rfl
    have c_b60 := bs.at 9 0 rfl rfl
    have c_b61 := bs.at 9 1 rfl rfl
    go_wp2_with fail
    refine (same_true o_n5.own.items o_n6.own.items HK5.out HK6.out BNh.out V3).mono ?_
    rintro e w34 ⟨rfl, hb⟩
    clear c_b50 c_b51 c_b60 c_b61
    replace o_n := o_n.ret hb
    replace o_m := o_m.ret hb
    replace o_s := o_s.ret hb
    replace o_s2 := o_s2.ret hb
    replace o_d := o_d.ret hb
    replace o_dg := o_dg.ret hb
    replace o_d2 := o_d2.ret hb
    replace o_d2g := o_d2g.ret hb
    replace o_n5 := o_n5.ret hb
    replace o_n6 := o_n6.ret hb
    replace o_t7 := o_t7.ret hb
    replace o_t8 := o_t8.ret hb
    replace bs := bs.ret hb
    replace q := bs.q
    clear hb
    have c_b70 := bs.at 10 0 rfl rfl
    have c_b71 := bs.at 10 1 rfl rfl
    have c_b80 := bs.at 11 0 rfl rfl
    have c_b81 := bs.at 11 1 rfl rfl
    go_wp2_with fail
    refine (same_true o_t7.own.items o_t8.own.items HK7.out HK8.out BTh.out V4).mono ?_
    rintro e w35 ⟨rfl, hb⟩
    clear c_b70 c_b71 c_b80 c_b81
    replace o_n := o_n.ret hb
    replace o_m := o_m.ret hb
    replace o_s := o_s.ret hb
    replace o_s2 := o_s2.ret hb
    replace o_d := o_d.ret hb
    replace o_dg := o_dg.ret hb
    replace o_d2 := o_d2.ret hb
    replace o_d2g := o_d2g.ret hb
    replace o_n5 := o_n5.ret hb
    replace o_n6 := o_n6.ret hb
    replace o_t7 := o_t7.ret hb
    replace o_t8 := o_t8.ret hb
    replace bs := bs.ret hb
    replace q := bs.q
    clear hb
    clear o_s2
    clear o_d
    clear o_dg
    clear o_d2
    clear o_d2g
    clear o_n6
    clear o_t7
    clear o_t8
    have c_b10 := bs.at 2 0 rfl rfl
    have c_b11 := bs.at 2 1 rfl rfl
    go_wp2_with fail
    have hbn := bnd BSh.out HK1.out
    have hl := (BSh.out).1
    refine (l21_spoil wa.heap.size w13.heap.size a1 S1.length c1 K1 w35 o_s.own.sp (by omega) (fun p hp => by have := hbn.2 p hp; omega) (fun g hg => o_s.1.2 g hg) (fun p hp g hg => (o_s.2 p hp).2 g hg)).mono ?_
    rintro e w36 ⟨rfl, hb, hc⟩
    clear c_b10 c_b11
    clear o_s hbn hl
    replace o_n := o_n.past hb hc (by omega)
    replace o_m := o_m.past hb hc (by omega)
    replace o_n5 := o_n5.past hb hc (by omega)
    replace bs := bs.past hb hc (by omega) (by
     intro b hm
     simp only [List.cons_append, List.nil_append, List.mem_cons, List.not_mem_nil, or_false] at hm
     rcases hm with rfl | rfl | rfl | rfl | rfl | rfl | rfl | rfl | rfl | rfl | rfl | rfl <;> (dsimp only; omega))
    replace q := bs.q
    clear hb hc
    have c_b50 := bs.at 8 0 rfl rfl
    have c_b51 := bs.at 8 1 rfl rfl
    go_wp2_with fail
    have hbn := bnd BNh.out HK5.out
    have hl := (BNh.out).1
    refine (l21_spoil w22.heap.size w23.heap.size a5 S3.length c5 K5 w36 o_n5.own.sp (by omega) (fun p hp => by have := hbn.2 p hp; omega) (fun g hg => o_n5.1.2 g hg) (fun p hp g hg => (o_n5.2 p hp).2 g hg)).mono ?_
    rintro e w37 ⟨rfl, hb, hc⟩
    clear c_b50 c_b51
    clear o_n5 hbn hl
    replace o_n := o_n.past hb hc (by omega)
    replace o_m := o_m.past hb hc (by omega)
    replace bs := bs.past hb hc (by omega) (by
     intro b hm
     simp only [List.cons_append, List.nil_append, List.mem_cons, List.not_mem_nil, or_false] at hm
     rcases hm with rfl | rfl | rfl | rfl | rfl | rfl | rfl | rfl | rfl | rfl | rfl | rfl <;> (dsimp only; omega))
    replace q := bs.q
    clear hb hc
    go_wp2_with fail
    go_loopw [42, 44] (fun b i wx => ∃ k : Nat, k ≤ G0 ∧ i = .int .i64 k ∧ b = .bool true ∧ Below w37.heap.size w37 wx) (fun _ i _ => G0 - (intOf i).toNat)
    case atStart => exact ⟨0, Nat.zero_le _, rfl, rfl, Below.refl _ _⟩
    case round =>
     obtain ⟨k, hk, rfl, rfl, hB⟩ := hrel
     replace o_n := o_n.ret hB
     replace o_m := o_m.ret hB
     replace bs := bs.ret hB
     replace q := bs.q
     by_cases hlt : k < G0
     ·have hkg : k < g.length := by rw [HGL.out]; exact hlt
      obtain ⟨b, off, cp, hf, hb0, hkc, hck⟩ := grp_cell (HG.out.ret q) hkg
      rw [HGL.out] at hf
      simp only [Value.slice.injEq, true_and] at hf
      obtain ⟨rfl, rfl⟩ := hf
      obtain ⟨b2, off2, cp2, hf, hb2, hkc2, hck2⟩ := grp_cell (own_grp o_m.1 HGL.out) hkg
      rw [HGL.out] at hf
      simp only [Value.slice.injEq, true_and] at hf
      obtain ⟨rfl, rfl⟩ := hf
      generalize g[k] = y at hck hck2
      have HBw := Lib.hid hB
      clear hkg hB bs q o_n o_m
      go_wp2_with fail
      go_quiet (fail)
      go_wp2_with fail
      go_roundw
      case rel => exact ⟨k + 1, by omega, by go_num, by first | rfl | (simp; done), HBw.out.trans (⟨rfl, rfl, rfl, Nat.le_refl _, fun _ _ => rfl⟩)⟩
      case measure => simp [intOf]; omega
     ·obtain rfl : G0 = k := by omega
      have c_o0 := bs.at 1 0 rfl rfl
      have c_o1 := bs.at 1 1 rfl rfl
      have c_r0 := bs.at 0 0 rfl rfl
      have c_r1 := bs.at 0 1 rfl rfl
      go_wp2_with fail
      clear c_o0 c_o1 c_r0 c_r1
      refine (same_true o_n.own.items (HV.out.ret q) HNn.out rfl ⟨by have := (gd_of HGR.out).1; omega, (gd_of HGR.out).2⟩ ver).mono ?_
      rintro e w38 ⟨rfl, hb⟩
      replace o_n := o_n.ret hb
      replace o_m := o_m.ret hb
      replace bs := bs.ret hb
      replace q := bs.q
      clear hb
      go_wp2_with fail
      go_ret
      exact ⟨rfl, q⟩
end Go.Proofs.YtfonkblbgadhmaaGreatDoor
