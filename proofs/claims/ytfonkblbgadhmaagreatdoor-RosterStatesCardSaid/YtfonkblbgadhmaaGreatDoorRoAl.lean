/- law21's has, alive. PRINTED BY PROGRAM (gen_roal.py). -/
import Derived.Test.YtfonkblbgadhmaaGreatDoorRoPo
namespace Go.Proofs.YtfonkblbgadhmaaGreatDoor
open Go.RowKit Go.Lib

theorem grp_box {A : Nat} {g : List (List UInt8)} {w : World} (h : Bx A (strV g) w) (cap : Nat) (hc : g.length ≤ cap) : IsGrp (.slice (some ⟨A, 0, none⟩) g.length cap) g w :=
 ⟨⟨some ⟨A, 0, none⟩, cap, by rw [strV_len], (fun e => by cases e), .inr ⟨A, 0, rfl, h.lt, fun j hj => by rw [Nat.zero_add]; exact h.at j (List.getElem?_eq_getElem hj)⟩⟩, some ⟨A, 0, none⟩, cap, rfl, hc⟩
theorem items_box {A : Nat} {p : Im} {w : World} (h : Bx A (itC p) w) (hg : IsGrp (gvI p) p.1.g w) : IsItems (.slice (some ⟨A, 0, none⟩) 1 1) [p] w := by
 have e : itV [p] = itC p := by simp [itV]
 refine ⟨?_, fun q hq => by cases List.mem_singleton.1 hq; exact hg⟩
 rw [e]
 exact ⟨rfl, some ⟨A, 0, none⟩, 1, rfl, (fun e => by cases e), .inr ⟨A, 0, rfl, h.lt, fun j hj => by rw [Nat.zero_add]; exact h.at j (List.getElem?_eq_getElem hj)⟩⟩
def smallB (L : List It) : Bool := decide (L.length ≤ 1000) && L.all fun x => decide (x.j.length ≤ 10000) && (decide (x.n.length ≤ 10000) && (decide (x.g.length ≤ 1000) && x.g.all fun y => decide (y.length ≤ 10000)))
theorem small_map {L : List It} {M : List Im} (h : M.map Prod.fst = L) (hs : smallB L = true) : SmallI M := by
 unfold smallB at hs
 simp only [Bool.and_eq_true, decide_eq_true_eq, List.all_eq_true] at hs
 refine ⟨by rw [← List.length_map (f := Prod.fst), h]; exact hs.1, fun p hp => ?_⟩
 have := hs.2 p.1 (by rw [← h]; exact List.mem_map_of_mem hp)
 exact ⟨this.1, this.2.1, this.2.2.1, this.2.2.2⟩
set_option maxHeartbeats 2000000 in
set_option maxRecDepth 100000 in
theorem l21_has (v u : Value) (ver : Int) (M K : List Im) (w : World) (hv : IsItems v M w) (hu : IsItems u K w) (hm : ML w) (hs : SmallI M) (hs' : SmallI K) (h1 : mayR (M.map Prod.fst) ver = true) (h2 : M.map Prod.fst = K.map Prod.fst) :
  Calls Tryz.prog 27 #[.agg #[v, .int .i64 ver], .int .i64 ver, u] w (Ret w (.bool true)) := by
 obtain ⟨a0, cap0, hf, -⟩ := hv.form
 obtain ⟨L0, hL⟩ : ∃ L, M.length = L := ⟨_, rfl⟩
 rw [hL] at hf
 subst hf
 have C1 := fun (w' : World) (hb : Below w.heap.size w w') => ro_Check (.slice a0 L0 cap0) ver M w' (hv.ret hb) hs (hm.ret hb)
 rw [h1] at C1
 simp only [if_true] at C1
 have C2 := fun (w' : World) (hb : Below w.heap.size w w') => r21_SameItems (.slice a0 L0 cap0) u M K w' (hv.ret hb) (hu.ret hb) (by have := hs.1; omega) (by have := hs'.1; omega) (fun p hp => by have := (hs.2 p hp).2.2.1; omega) (fun p hp => by have := (hs'.2 p hp).2.2.1; omega)
 rw [decide_eq_true h2] at C2
 have C1 := Lib.hid C1
 have C2 := Lib.hid C2
 clear hv hu hm hs hs' h1 h2 hL
 obtain ⟨W0, hW, y0, bs⟩ := Sx.start1 w [.slice a0 L0 cap0, .int .i64 ver] 24
 have HW := Lib.hid hW
 clear hW
 have q := bs.q
 go_enter Tryz.func27, Tryz.ntmps27
 have c_r0 := bs.at 0 0 rfl rfl
 have c_r1 := bs.at 0 1 rfl rfl
 go_wp2_with fail
 rw [HW.out]
 refine (C1.out W0 q).mono ?_
 rintro e w1 ⟨rfl, hb⟩
 clear c_r0 c_r1
 replace bs := bs.ret hb
 replace q := bs.q
 clear hb
 have c_r0 := bs.at 0 0 rfl rfl
 have c_r1 := bs.at 0 1 rfl rfl
 go_wp2_with fail
 refine (C2.out w1 q).mono ?_
 rintro e w2 ⟨rfl, hb⟩
 clear c_r0 c_r1
 replace bs := bs.ret hb
 replace q := bs.q
 clear hb
 have c_r0 := bs.at 0 0 rfl rfl
 have c_r1 := bs.at 0 1 rfl rfl
 go_wp2_with fail
 go_ret
 exact ⟨rfl, q⟩
/-! ### the chapter's examples -/
abbrev uA : List UInt8 := [117, 64, 97]
abbrev vA : List UInt8 := [118, 64, 97]
abbrev itU : It := ([117, 64, 97], [85], [[102, 114, 105, 101, 110, 100, 115]], (false, false, false, false), true)
abbrev itV0 : It := ([118, 64, 97], [], [], (false, false, false, true), false)
abbrev itV1 : It := ([118, 64, 97], [], [], (false, false, true, false), true)
theorem al_1 : setP [] 0 [117, 64, 97] [85] [[102, 114, 105, 101, 110, 100, 115]] = ([itU], 1) ∧ setC [] 0 [117, 64, 97] [85] [[102, 114, 105, 101, 110, 100, 115]] = 0 := by decide +kernel
theorem al_2 : takeP [] 0 [118, 64, 97] 1 = ([itV0], 0, true, 0, false) ∧ takeC [] 0 [118, 64, 97] 1 = 0 := by decide +kernel
theorem al_3 : sendP [itV0] 0 [118, 64, 97] 2 = ([itV1], 1, true, true) ∧ sendC [itV0] 0 [118, 64, 97] 2 = 0 := by decide +kernel
theorem al_4 : dropP [itV1] 1 [118, 64, 97] = ([], 2, itV1) ∧ dropC [itV1] 1 [118, 64, 97] = 0 := by decide +kernel
theorem al_m1 : mayR [itU] 1 = true := by decide +kernel
theorem al_m2 : mayR [itV0] 0 = true := by decide +kernel
theorem al_m3 : mayR [itV1] 1 = true := by decide +kernel
theorem al_m4 : mayR [] 2 = true := by decide +kernel
theorem al_set (vg : Value) (W : World) (hm : ML W) (hg : IsGrp vg [[102, 114, 105, 101, 110, 100, 115]] W) : Calls Tryz.prog 22 #[.agg #[.slice none 0 0, .int .i64 0], .string ⟨#[117, 64, 97]⟩, .string ⟨#[85]⟩, vg] W
  (fun e w' => ∃ a c, e = .returned (.tuple #[.agg #[.slice a 1 c, .int .i64 1], .int .i64 0]) ∧ OwnR W [itU] (.slice a 1 c) w') := by
 have h := ro_Set (.slice none 0 0) 0 [] [117, 64, 97] [85] vg [[102, 114, 105, 101, 110, 100, 115]] W (IsItems.nil W) (small_map rfl (by decide)) hm hg (by decide) (by decide) (by decide) (by decide)
 rw [List.map_nil, al_1.1, al_1.2] at h
 exact h
theorem al_take (W : World) (hm : ML W) : Calls Tryz.prog 25 #[.agg #[.slice none 0 0, .int .i64 0], .string ⟨#[118, 64, 97]⟩, .int .u8 1] W
  (fun e w' => ∃ a c, e = .returned (.tuple #[.agg #[.slice a 1 c, .int .i64 0], .bool true, .int .u8 0, .bool false, .int .i64 0]) ∧ OwnR W [itV0] (.slice a 1 c) w') := by
 have h := ro_Take (.slice none 0 0) 0 [] [118, 64, 97] 1 W (IsItems.nil W) (small_map rfl (by decide)) hm (by decide) (by decide) (by decide)
 rw [List.map_nil, al_2.1, al_2.2] at h
 exact h
theorem al_send (v : Value) (M : List Im) (W : World) (hv : IsItems v M W) (hM : M.map Prod.fst = [itV0]) (hm : ML W) : Calls Tryz.prog 23 #[.agg #[v, .int .i64 0], .string ⟨#[118, 64, 97]⟩, .int .u8 2] W
  (fun e w' => ∃ a c, e = .returned (.tuple #[.agg #[.slice a 1 c, .int .i64 1], .bool true, .bool true, .int .i64 0]) ∧ OwnR W [itV1] (.slice a 1 c) w') := by
 have h := ro_Send v 0 M [118, 64, 97] 2 W hv (small_map hM (by decide)) hm (by decide) (by decide) (by decide)
 rw [hM, al_3.1, al_3.2] at h
 exact h
theorem al_drop (v : Value) (M : List Im) (W : World) (hv : IsItems v M W) (hM : M.map Prod.fst = [itV1]) (hm : ML W) : Calls Tryz.prog 24 #[.agg #[v, .int .i64 1], .string ⟨#[118, 64, 97]⟩] W
  (fun e w' => ∃ a c p, e = .returned (.tuple #[.agg #[.slice a 0 c, .int .i64 2], itA p, .int .i64 0]) ∧ p.1 = itV1 ∧ w'.ownsRow W.heap.size 9 1 (gvI p) p.1.g.length (strV p.1.g) ∧ OwnR W [] (.slice a 0 c) w') := by
 have h := ro_Drop v 1 M [118, 64, 97] W hv (small_map hM (by decide)) hm (by decide)
 rw [hM, al_4.1, al_4.2] at h
 exact h
set_option maxHeartbeats 4000000 in
set_option maxRecDepth 100000 in
theorem alive21 (w : World) (hm : ML w) : Calls Tryz.prog 26 #[] w (Ret w (.bool true)) := by
 have HM := Lib.hid hm
 clear hm
 have bs := Sx.start w
 have q := bs.q
 go_enter Tryz.func26, Tryz.ntmps26
 go_wp2_with fail
 obtain ⟨w1, hw1, y1, al, bs⟩ := bs.alloc (w.heap.size) rfl [.string ⟨#[102, 114, 105, 101, 110, 100, 115]⟩] 9
 clear al
 replace q := bs.q
 rw [hw1]
 refine (al_set _ w1 (HM.out.ret q) (grp_box (bs.box 0 rfl) 1 (by decide))).mono ?_
 rintro e w2 ⟨a1, c1, rfl, K1, hK1, hown, hb⟩
 have o_a := OwnX.mk' bs hown
 replace bs := bs.ret hb
 replace q := bs.q
 clear hb
 clear hown
 go_wp2_with fail
 obtain ⟨w3, hw3, y3, al, bs⟩ := bs.alloc (w2.heap.size) rfl [.slice a1 1 c1, .int .i64 1] 24
 replace o_a := o_a.alloc (w2.heap.size) rfl al
 clear al
 replace q := bs.q
 rw [hw3]
 refine (al_take w3 (HM.out.ret q)).mono ?_
 rintro e w4 ⟨a2, c2, rfl, K2, hK2, hown, hb⟩
 have o_b := OwnX.mk' bs hown
 replace o_a := o_a.ret hb
 replace bs := bs.ret hb
 replace q := bs.q
 clear hb
 clear hown
 have d0 := (bs.lit (w4.heap.size) rfl [.slice a2 1 c2, .int .i64 0] 24)
 have c0_n00 := d0.at 2 0 rfl rfl
 have c0_n01 := d0.at 2 1 rfl rfl
 go_wp2_with fail
 clear d0 c0_n00 c0_n01
 obtain ⟨w5, hw5, y5, al, bs⟩ := bs.alloc (w4.heap.size) rfl [.slice a2 1 c2, .int .i64 0] 24
 replace o_a := o_a.alloc (w4.heap.size) rfl al
 replace o_b := o_b.alloc (w4.heap.size) rfl al
 clear al
 replace q := bs.q
 rw [hw5]
 refine (al_send _ K2 w5 o_b.own.items hK2 (HM.out.ret q)).mono ?_
 rintro e w6 ⟨a3, c3, rfl, K3, hK3, hown, hb⟩
 have o_c := OwnX.mk' bs hown
 replace o_a := o_a.ret hb
 replace o_b := o_b.ret hb
 replace bs := bs.ret hb
 replace q := bs.q
 clear hb
 clear hown
 have d0 := (bs.lit (w6.heap.size) rfl [.slice a3 1 c3, .int .i64 1] 24)
 have c0_n00 := d0.at 3 0 rfl rfl
 have c0_n01 := d0.at 3 1 rfl rfl
 go_wp2_with fail
 clear d0 c0_n00 c0_n01
 obtain ⟨w7, hw7, y7, al, bs⟩ := bs.alloc (w6.heap.size) rfl [.slice a3 1 c3, .int .i64 1] 24
 replace o_a := o_a.alloc (w6.heap.size) rfl al
 replace o_b := o_b.alloc (w6.heap.size) rfl al
 replace o_c := o_c.alloc (w6.heap.size) rfl al
 clear al
 replace q := bs.q
 rw [hw7]
 refine (al_drop _ K3 w7 o_c.own.items hK3 (HM.out.ret q)).mono ?_
 rintro e w8 ⟨a4, c4, p, rfl, hp, hrow, K4, hK4, hown, hb⟩
 have o_d := OwnX.mk' bs hown
 replace o_a := o_a.ret hb
 replace o_b := o_b.ret hb
 replace o_c := o_c.ret hb
 replace bs := bs.ret hb
 replace q := bs.q
 clear hb
 clear hown hrow hp
 have d0 := ((bs.lit (w8.heap.size) rfl [.slice a4 0 c4, .int .i64 2] 24).lit (w8.heap.size + 1) (by simp; try omega) [.string ⟨p.1.j.toArray⟩, .string ⟨p.1.n.toArray⟩, gvI p, .bool p.1.s.1, .bool p.1.s.2.1, .bool p.1.s.2.2.1, .bool p.1.s.2.2.2, .bool p.1.k] 31)
 have c0_a0 := d0.at 1 0 rfl rfl
 have c0_a1 := d0.at 1 1 rfl rfl
 have c0_b0 := d0.at 2 0 rfl rfl
 have c0_b1 := d0.at 2 1 rfl rfl
 have c0_c0 := d0.at 3 0 rfl rfl
 have c0_c1 := d0.at 3 1 rfl rfl
 have c0_n00 := d0.at 4 0 rfl rfl
 have c0_n01 := d0.at 4 1 rfl rfl
 go_wp2_with fail
 clear d0 c0_a0 c0_a1 c0_b0 c0_b1 c0_c0 c0_c1 c0_n00 c0_n01
 obtain ⟨w9, hw9, y9, al, bs⟩ := bs.alloc (w8.heap.size) rfl [.slice a4 0 c4, .int .i64 2] 24
 replace o_a := o_a.alloc (w8.heap.size) rfl al
 replace o_b := o_b.alloc (w8.heap.size) rfl al
 replace o_c := o_c.alloc (w8.heap.size) rfl al
 replace o_d := o_d.alloc (w8.heap.size) rfl al
 clear al
 obtain ⟨w10, hw10, y10, al, bs⟩ := bs.alloc (w8.heap.size + 1) (by omega) [.string ⟨p.1.j.toArray⟩, .string ⟨p.1.n.toArray⟩, gvI p, .bool p.1.s.1, .bool p.1.s.2.1, .bool p.1.s.2.2.1, .bool p.1.s.2.2.2, .bool p.1.k] 31
 replace o_a := o_a.alloc (w8.heap.size + 1) (by omega) al
 replace o_b := o_b.alloc (w8.heap.size + 1) (by omega) al
 replace o_c := o_c.alloc (w8.heap.size + 1) (by omega) al
 replace o_d := o_d.alloc (w8.heap.size + 1) (by omega) al
 clear al
 replace q := bs.q
 obtain ⟨w11, hw11, y11, al, bs⟩ := bs.alloc (w8.heap.size + 2) (by omega) [.string ⟨#[102, 114, 105, 101, 110, 100, 115]⟩] 9
 replace o_a := o_a.alloc (w8.heap.size + 2) (by omega) al
 replace o_b := o_b.alloc (w8.heap.size + 2) (by omega) al
 replace o_c := o_c.alloc (w8.heap.size + 2) (by omega) al
 replace o_d := o_d.alloc (w8.heap.size + 2) (by omega) al
 clear al
 replace q := bs.q
 obtain ⟨w12, hw12, y12, al, bs⟩ := bs.alloc (w8.heap.size + 3) (by omega) [.string ⟨#[117, 64, 97]⟩, .string ⟨#[85]⟩, .slice (some ⟨w8.heap.size + 2, 0, none⟩) 1 1, .bool false, .bool false, .bool false, .bool false, .bool true] 31
 replace o_a := o_a.alloc (w8.heap.size + 3) (by omega) al
 replace o_b := o_b.alloc (w8.heap.size + 3) (by omega) al
 replace o_c := o_c.alloc (w8.heap.size + 3) (by omega) al
 replace o_d := o_d.alloc (w8.heap.size + 3) (by omega) al
 clear al
 replace q := bs.q
 rw [hw9]
 rw [hw10]
 rw [hw11]
 rw [hw12]
 refine (l21_has (.slice a1 1 c1) (.slice (some ⟨w8.heap.size + 3, 0, none⟩) 1 1) 1 K1 [(itU, (some ⟨w8.heap.size + 2, 0, none⟩, 1))] w12 o_a.own.items (items_box (bs.box 7 rfl) (grp_box (bs.box 6 rfl) 1 (Nat.le_refl _))) (HM.out.ret q) (small_map hK1 (by decide)) (small_map (L := [itU]) rfl (by decide)) (by rw [hK1]; exact al_m1) (by rw [hK1]; rfl)).mono ?_
 rintro e w13 ⟨rfl, hb⟩
 replace o_a := o_a.ret hb
 replace o_b := o_b.ret hb
 replace o_c := o_c.ret hb
 replace o_d := o_d.ret hb
 replace bs := bs.ret hb
 replace q := bs.q
 clear hb
 have c_b0 := bs.at 2 0 rfl rfl
 have c_b1 := bs.at 2 1 rfl rfl
 go_wp2_with fail
 clear c_b0 c_b1
 obtain ⟨w14, hw14, y14, al, bs⟩ := bs.alloc (w13.heap.size) rfl [.string ⟨#[118, 64, 97]⟩, .string ⟨#[]⟩, .slice none 0 0, .bool false, .bool false, .bool false, .bool true, .bool false] 31
 replace o_a := o_a.alloc (w13.heap.size) rfl al
 replace o_b := o_b.alloc (w13.heap.size) rfl al
 replace o_c := o_c.alloc (w13.heap.size) rfl al
 replace o_d := o_d.alloc (w13.heap.size) rfl al
 clear al
 replace q := bs.q
 rw [hw14]
 refine (l21_has (.slice a2 1 c2) (.slice (some ⟨w13.heap.size, 0, none⟩) 1 1) 0 K2 [(itV0, (none, 0))] w14 o_b.own.items (items_box (bs.box 8 rfl) (IsGrp.nil _)) (HM.out.ret q) (small_map hK2 (by decide)) (small_map (L := [itV0]) rfl (by decide)) (by rw [hK2]; exact al_m2) (by rw [hK2]; rfl)).mono ?_
 rintro e w15 ⟨rfl, hb⟩
 replace o_a := o_a.ret hb
 replace o_b := o_b.ret hb
 replace o_c := o_c.ret hb
 replace o_d := o_d.ret hb
 replace bs := bs.ret hb
 replace q := bs.q
 clear hb
 have c_c0 := bs.at 3 0 rfl rfl
 have c_c1 := bs.at 3 1 rfl rfl
 go_wp2_with fail
 clear c_c0 c_c1
 obtain ⟨w16, hw16, y16, al, bs⟩ := bs.alloc (w15.heap.size) rfl [.string ⟨#[118, 64, 97]⟩, .string ⟨#[]⟩, .slice none 0 0, .bool false, .bool false, .bool true, .bool false, .bool true] 31
 replace o_a := o_a.alloc (w15.heap.size) rfl al
 replace o_b := o_b.alloc (w15.heap.size) rfl al
 replace o_c := o_c.alloc (w15.heap.size) rfl al
 replace o_d := o_d.alloc (w15.heap.size) rfl al
 clear al
 replace q := bs.q
 rw [hw16]
 refine (l21_has (.slice a3 1 c3) (.slice (some ⟨w15.heap.size, 0, none⟩) 1 1) 1 K3 [(itV1, (none, 0))] w16 o_c.own.items (items_box (bs.box 9 rfl) (IsGrp.nil _)) (HM.out.ret q) (small_map hK3 (by decide)) (small_map (L := [itV1]) rfl (by decide)) (by rw [hK3]; exact al_m3) (by rw [hK3]; rfl)).mono ?_
 rintro e w17 ⟨rfl, hb⟩
 replace o_a := o_a.ret hb
 replace o_b := o_b.ret hb
 replace o_c := o_c.ret hb
 replace o_d := o_d.ret hb
 replace bs := bs.ret hb
 replace q := bs.q
 clear hb
 have c_d0 := bs.at 4 0 rfl rfl
 have c_d1 := bs.at 4 1 rfl rfl
 go_wp2_with fail
 clear c_d0 c_d1
 refine (l21_has (.slice a4 0 c4) (.slice none 0 0) 2 K4 [] w17 o_d.own.items (IsItems.nil _) (HM.out.ret q) (small_map hK4 (by decide)) (small_map rfl (by decide)) (by rw [hK4]; exact al_m4) hK4).mono ?_
 rintro e w18 ⟨rfl, hb⟩
 replace o_a := o_a.ret hb
 replace o_b := o_b.ret hb
 replace o_c := o_c.ret hb
 replace o_d := o_d.ret hb
 replace bs := bs.ret hb
 replace q := bs.q
 clear hb
 go_wp2_with fail
 go_ret
 exact ⟨rfl, q⟩
end Go.Proofs.YtfonkblbgadhmaaGreatDoor
