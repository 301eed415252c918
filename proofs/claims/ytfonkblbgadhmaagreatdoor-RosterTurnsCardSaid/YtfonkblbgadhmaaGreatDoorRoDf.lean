/- the document's turned, further. PRINTED BY PROGRAM (gen_rode.py). -/
import Derived.Test.YtfonkblbgadhmaaGreatDoorRoDe
namespace Go.Proofs.YtfonkblbgadhmaaGreatDoor
open Go.RowKit Go.Lib

set_option maxHeartbeats 4000000 in
set_option maxRecDepth 100000 in
theorem r21_turned2 (v : Value) (ver : Int) (M : List Im) (t : List UInt8) (sb sc sd : Bool) (w : World) (hv : IsItems v M w) (hs : SmallI M) (hmay : mayR (M.map Prod.fst) ver = true) (hA : adrOk t = true) (zt : t.length ≤ 10000) (hK : (wasL (M.map Prod.fst) t).k = false) :
  Calls Tryz.prog 90 #[.agg #[v, .int .i64 ver], .string ⟨t.toArray⟩, .agg #[.bool true, .bool sb, .bool sc, .bool sd]] w (TurC w (tuP (M.map Prod.fst) ver t (true, sb, sc, sd)).1 (tuP (M.map Prod.fst) ver t (true, sb, sc, sd)).2.1 (tuP (M.map Prod.fst) ver t (true, sb, sc, sd)).2.2 (turnC (M.map Prod.fst) t (true, sb, sc, sd))) := by
 obtain ⟨a0, cap0, hf, -⟩ := hv.form
 obtain ⟨L0, hL⟩ : ∃ L, M.length = L := ⟨_, rfl⟩
 rw [hL] at hf
 subst hf
 obtain ⟨hall, hch, hl16, hv0, hv1⟩ := may_facts21 hmay
 rw [List.length_map, hL] at hl16
 have CF := Lib.hid (fun (w' : World) (hb : Below w.heap.size w w') => r21_FindD (.slice a0 L0 cap0) ver M t w hv (by omega) w' hb)
 have hth := find_there (t := t) hch
 have HW0 : Hid (withoutL (M.map Prod.fst) t = goneL (M.map Prod.fst) t) := Lib.hid (without_gone hch)
 have HPUT : Hid (∀ x : It, x.j = t → withL (M.map Prod.fst) x = putL (M.map Prod.fst) x) := Lib.hid (fun x hx => with_put hch (fun y hy => itemP_adr (hall y hy)) (by rw [hx]; exact hA))
 have HV := Lib.hid hv
 have HV0 := Lib.hid hv0
 have HV1 := Lib.hid hv1
 have ZJ := Lib.hid (fun p hp => (hs.2 p hp).1)
 have GZ := Lib.hid (fun p hp => (hs.2 p hp).2.2.1)
 have ZT := Lib.hid zt
 have hwg := was_may (t := t) hmay
 have WG : Hid ((wasL (M.map Prod.fst) t).g.length ≤ 4) := Lib.hid hwg.2.2.1
 have LM : Hid (M.length ≤ 16) := Lib.hid (by omega)
 have hnk : thereL (M.map Prod.fst) t = false → wasL (M.map Prod.fst) t = it0 := was_not hch
 unfold tuP turnC turnV turnPush turnL
 clear hwg
 obtain ⟨th, hT⟩ : ∃ th, thereL (M.map Prod.fst) t = th := ⟨_, rfl⟩
 rw [hT] at hth hnk
 have HTH := Lib.hid hth
 have KP : Hid (∀ p : Im, p.1 = wasL (M.map Prod.fst) t → p.1.k = false) := Lib.hid (fun p h => by rw [h]; exact hK)
 have HLL := Lib.hid hL
 clear hs hv hall hch hmay hv0 hv1 zt hL hA
 have HTI : Hid (∀ p : Im, p.1 = (wasL (M.map Prod.fst) t) → (((t, p.1.n, p.1.g, (true, sb, sc, sd), true), p.2) : Im).1 = turnI (wasL (M.map Prod.fst) t) t (true, sb, sc, sd)) := Lib.hid (fun p h => by rw [h]; unfold turnI; rw [hK]; rfl)
 have hyk : (turnI (wasL (M.map Prod.fst) t) t (true, sb, sc, sd)).k = true := by unfold turnI; rw [hK]; rfl
 have hq : quitP (turnI (wasL (M.map Prod.fst) t) t (true, sb, sc, sd)) (true, sb, sc, sd) = false := by unfold quitP; rw [hyk]; rfl
 rw [hq]
 simp only [Bool.false_or, Bool.not_false, Bool.true_and, Bool.false_eq_true, if_false]
 obtain ⟨XA, hXA⟩ : ∃ XA, (seenP (wasL (M.map Prod.fst) t)).1 = XA := ⟨_, rfl⟩
 obtain ⟨XB, hXB⟩ : ∃ XB, (seenP (wasL (M.map Prod.fst) t)).2 = XB := ⟨_, rfl⟩
 obtain ⟨YA, hYA⟩ : ∃ YA, (seenP (turnI (wasL (M.map Prod.fst) t) t (true, sb, sc, sd))).1 = YA := ⟨_, rfl⟩
 obtain ⟨YB, hYB⟩ : ∃ YB, (seenP (turnI (wasL (M.map Prod.fst) t) t (true, sb, sc, sd))).2 = YB := ⟨_, rfl⟩
 have HSX : Hid (∀ p : Im, p.1 = (wasL (M.map Prod.fst) t) → seenP p.1 = (XA, XB)) := Lib.hid (fun p h => by rw [h, ← hXA, ← hXB])
 have HSY : Hid (∀ p : Im, p.1 = (wasL (M.map Prod.fst) t) → seenP (((t, p.1.n, p.1.g, (true, sb, sc, sd), true), p.2) : Im).1 = (YA, YB)) := Lib.hid (fun p h => by rw [HTI.out p h, ← hYA, ← hYB])
 have hpp : pushP (wasL (M.map Prod.fst) t) (turnI (wasL (M.map Prod.fst) t) t (true, sb, sc, sd)) = !((XA == YA) && (XB == YB)) := by unfold pushP; rw [hXA, hXB, hYA, hYB]
 rw [hpp]
 rw [hT]
 cases th with
 | true =>
  simp only [Bool.true_or, if_true]
  have hx0 := seen_not (x := (wasL (M.map Prod.fst) t)) hK
  rw [hx0] at hXA hXB
  simp only at hXA hXB
  subst hXA
  subst hXB
  have he1 : ([] == YA) = false := by rw [← hYA]; exact (seen_known hyk).2
  rw [he1]
  simp only [Bool.false_and, Bool.not_false, if_true]
  clear hnk hyk hq hT hK hth hpp hYA hYB hx0
  obtain ⟨W0, hW, y0, bs⟩ := Sx.start3 w [.slice a0 L0 cap0, .int .i64 ver] 24 [.bool true, .bool sb, .bool sc, .bool sd] 29 [.slice none 0 0, .int .i64 0] 24
  have HW := Lib.hid hW
  clear hW
  have q := bs.q
  go_enter Tryz.func90, Tryz.ntmps90
  go_wp2_with fail
  rw [HW.out]
  refine (CF.out W0 q).mono ?_
  rintro e w1 ⟨hb, p, rfl, hp, hgp⟩
  replace bs := bs.ret hb
  replace q := bs.q
  clear hb
  rw [HTH.out]
  have HKP := KP.out p hp
  have HP := Lib.hid hp
  have HGP := Lib.hid hgp
  clear hp hgp
  have d0 := ((bs.lit (w1.heap.size) rfl [.string ⟨p.1.j.toArray⟩, .string ⟨p.1.n.toArray⟩, gvI p, .bool p.1.s.1, .bool p.1.s.2.1, .bool p.1.s.2.2.1, .bool p.1.s.2.2.2, .bool false] 31).lit (w1.heap.size + 1) (by simp; try omega) [.string ⟨t.toArray⟩, .string ⟨p.1.n.toArray⟩, gvI p, .bool p.1.s.1, .bool p.1.s.2.1, .bool p.1.s.2.2.1, .bool p.1.s.2.2.2, .bool false] 31)
  have c0_s0 := d0.at 1 0 rfl rfl
  have c0_s1 := d0.at 1 1 rfl rfl
  have c0_s2 := d0.at 1 2 rfl rfl
  have c0_s3 := d0.at 1 3 rfl rfl
  have d1 := ((bs.lit (w1.heap.size) rfl [.string ⟨p.1.j.toArray⟩, .string ⟨p.1.n.toArray⟩, gvI p, .bool p.1.s.1, .bool p.1.s.2.1, .bool p.1.s.2.2.1, .bool p.1.s.2.2.2, .bool false] 31).lit (w1.heap.size + 1) (by simp; try omega) [.string ⟨t.toArray⟩, .string ⟨p.1.n.toArray⟩, gvI p, .bool true, .bool sb, .bool sc, .bool sd, .bool false] 31)
  have c1_s0 := d1.at 1 0 rfl rfl
  have c1_s1 := d1.at 1 1 rfl rfl
  have c1_s2 := d1.at 1 2 rfl rfl
  have c1_s3 := d1.at 1 3 rfl rfl
  have c1_n07 := d1.at 3 7 rfl rfl
  have d2 := ((bs.lit (w1.heap.size) rfl [.string ⟨p.1.j.toArray⟩, .string ⟨p.1.n.toArray⟩, gvI p, .bool p.1.s.1, .bool p.1.s.2.1, .bool p.1.s.2.2.1, .bool p.1.s.2.2.2, .bool false] 31).lit (w1.heap.size + 1) (by simp; try omega) [.string ⟨t.toArray⟩, .string ⟨p.1.n.toArray⟩, gvI p, .bool true, .bool sb, .bool sc, .bool sd, .bool true] 31)
  have c2_r0 := d2.at 0 0 rfl rfl
  have c2_r1 := d2.at 0 1 rfl rfl
  have c2_s0 := d2.at 1 0 rfl rfl
  have c2_s1 := d2.at 1 1 rfl rfl
  have c2_s2 := d2.at 1 2 rfl rfl
  have c2_s3 := d2.at 1 3 rfl rfl
  have c2_n00 := d2.at 3 0 rfl rfl
  have c2_n01 := d2.at 3 1 rfl rfl
  have c2_n02 := d2.at 3 2 rfl rfl
  have c2_n03 := d2.at 3 3 rfl rfl
  have c2_n04 := d2.at 3 4 rfl rfl
  have c2_n05 := d2.at 3 5 rfl rfl
  have c2_n06 := d2.at 3 6 rfl rfl
  have c2_n07 := d2.at 3 7 rfl rfl
  go_wp2_with fail
  clear d0 c0_s0 c0_s1 c0_s2 c0_s3 d1 c1_s0 c1_s1 c1_s2 c1_s3 c1_n07 d2 c2_r0 c2_r1 c2_s0 c2_s1 c2_s2 c2_s3 c2_n00 c2_n01 c2_n02 c2_n03 c2_n04 c2_n05 c2_n06 c2_n07
  obtain ⟨w2, hw2, y2, al, bs⟩ := bs.alloc (w1.heap.size) rfl [.string ⟨p.1.j.toArray⟩, .string ⟨p.1.n.toArray⟩, gvI p, .bool p.1.s.1, .bool p.1.s.2.1, .bool p.1.s.2.2.1, .bool p.1.s.2.2.2, .bool false] 31
  clear al
  obtain ⟨w3, hw3, y3, al, bs⟩ := bs.alloc (w1.heap.size + 1) (by omega) [.string ⟨t.toArray⟩, .string ⟨p.1.n.toArray⟩, gvI p, .bool true, .bool sb, .bool sc, .bool sd, .bool true] 31
  clear al
  replace q := bs.q
  rw [hw2]
  rw [hw3]
  have CSX := r21_seen p w3
  rw [HSX.out p HP.out] at CSX
  simp only [itA, HKP] at CSX
  refine (CSX).mono ?_
  rintro e w4 ⟨rfl, hb⟩
  replace bs := bs.ret hb
  replace q := bs.q
  clear hb
  have c_y0 := bs.at 4 0 rfl rfl
  have c_y1 := bs.at 4 1 rfl rfl
  have c_y2 := bs.at 4 2 rfl rfl
  have c_y3 := bs.at 4 3 rfl rfl
  have c_y4 := bs.at 4 4 rfl rfl
  have c_y5 := bs.at 4 5 rfl rfl
  have c_y6 := bs.at 4 6 rfl rfl
  have c_y7 := bs.at 4 7 rfl rfl
  go_wp2_with fail
  clear c_y0 c_y1 c_y2 c_y3 c_y4 c_y5 c_y6 c_y7
  have CSY := r21_seen (((t, p.1.n, p.1.g, (true, sb, sc, sd), true), p.2) : Im) w4
  rw [HSY.out p HP.out] at CSY
  refine (CSY).mono ?_
  rintro e w5 ⟨rfl, hb⟩
  replace bs := bs.ret hb
  replace q := bs.q
  clear hb
  have c_r0 := bs.at 0 0 rfl rfl
  have c_r1 := bs.at 0 1 rfl rfl
  have c_y0 := bs.at 4 0 rfl rfl
  have c_y1 := bs.at 4 1 rfl rfl
  have c_y2 := bs.at 4 2 rfl rfl
  have c_y3 := bs.at 4 3 rfl rfl
  have c_y4 := bs.at 4 4 rfl rfl
  have c_y5 := bs.at 4 5 rfl rfl
  have c_y6 := bs.at 4 6 rfl rfl
  have c_y7 := bs.at 4 7 rfl rfl
  go_wp2_with fail
  clear c_r0 c_r1 c_y0 c_y1 c_y2 c_y3 c_y4 c_y5 c_y6 c_y7
  obtain ⟨x, hxx⟩ : ∃ x : Im, (((t, p.1.n, p.1.g, (true, sb, sc, sd), true), p.2) : Im) = x := ⟨_, rfl⟩
  have CT := r21_with (.slice a0 L0 cap0) ver M (((t, p.1.n, p.1.g, (true, sb, sc, sd), true), p.2) : Im) w5 (HV.out.ret q) (by have := LM.out; omega) ZJ.out (by exact ZT.out)
  have hxj : wiI M (((t, p.1.n, p.1.g, (true, sb, sc, sd), true), p.2) : Im) = wiI M x := by rw [hxx]
  rw [hxj] at CT
  refine (CT).mono ?_
  rintro e w6 ⟨a1, c1, rfl, hr1, hb⟩
  have o_f := OwX.mk' bs hr1
  replace bs := bs.ret hb
  replace q := bs.q
  clear hb
  clear hr1 hxj CSX CSY
  have hnl := wiI_len M x
  have hm16 := LM.out
  obtain ⟨Kn, hK1⟩ : ∃ Kn, (wiI M x).length = Kn := ⟨_, rfl⟩
  rw [hK1] at hnl o_f ⊢
  have c_r0 := bs.at 0 0 rfl rfl
  have f_r0 := bs.fz 0 0 rfl rfl
  have c_r1 := bs.at 0 1 rfl rfl
  have f_r1 := bs.fz 0 1 rfl rfl
  go_wp2_with fail
  clear c_r0 f_r0 c_r1 f_r1
  obtain ⟨w7, hw7, y7, bs⟩ := bs.sets 0 0 [.slice a1 Kn c1, .int .i64 ver] rfl (Nat.le_of_ble_eq_true rfl)
  replace o_f := o_f.sets 0 rfl hw7
  replace q := bs.q
  simp only [World.setCells, Nat.reduceAdd] at hw7
  rw [hw7]
  refine ((r21_next (.slice a1 Kn c1) ver w7 ⟨_, _, _, rfl⟩ HV0.out HV1.out)).mono ?_
  rintro e w8 ⟨rfl, hb⟩
  replace o_f := o_f.ret hb
  replace bs := bs.ret hb
  replace q := bs.q
  clear hb
  go_wp2_with fail
  have hit : IsItems (.slice a1 (wiI M x).length c1) (wiI M x) w8 := by
   refine ⟨by rw [hK1]; exact own_row o_f.1, fun p' hp' => ?_⟩
   rcases wiI_mem M x p' hp' with rfl | h
   ·rw [← hxx]; exact HGP.out.ret q
   ·exact (HV.out.2 p' h).ret q
  have hgz : ∀ p' ∈ wiI M x, p'.1.g.length ≤ 1000 := fun p' hp' => by
   rcases wiI_mem M x p' hp' with rfl | h
   ·rw [← hxx]; show p.1.g.length ≤ 1000; rw [HP.out]; have := WG.out; omega
   ·exact GZ.out p' h
  rw [hK1] at hit
  have hfin : (wiI M x).map Prod.fst = putL (M.map Prod.fst) (turnI (wasL (M.map Prod.fst) t) t (true, sb, sc, sd)) := by rw [map_wiI, ← hxx, ← HTI.out p HP.out]; exact HPUT.out _ rfl
  refine ((r21_Twin (.slice a1 Kn c1) (nextV ver) (wiI M x) w8 hit (by omega) hgz)).mono ?_
  rintro e w9 ⟨a2, c2, rfl, K2, hK2, hown, hb⟩
  have o_m := OwnX.mk' bs hown
  replace o_f := o_f.ret hb
  replace bs := bs.ret hb
  replace q := bs.q
  clear hb
  clear hit hgz hown
  rw [hfin] at hK2 o_m ⊢
  have c_z0 := bs.at 2 0 rfl rfl
  have f_z0 := bs.fz 2 0 rfl rfl
  have c_z1 := bs.at 2 1 rfl rfl
  have f_z1 := bs.fz 2 1 rfl rfl
  go_wp2_with fail
  clear c_z0 f_z0 c_z1 f_z1
  obtain ⟨w10, hw10, y10, bs⟩ := bs.sets 2 0 [.slice a2 (putL (M.map Prod.fst) (turnI (wasL (M.map Prod.fst) t) t (true, sb, sc, sd))).length c2, .int .i64 (nextV ver)] rfl (Nat.le_of_ble_eq_true rfl)
  replace o_f := o_f.sets 2 rfl hw10
  replace o_m := o_m.sets 2 rfl hw10
  replace q := bs.q
  simp only [World.setCells, Nat.reduceAdd] at hw10
  rw [hw10]
  refine bodyPost_ret (ret_r3b rfl rfl rfl rfl (bs.box 2 rfl)) rfl (⟨a2, c2, rfl, K2, hK2, o_m.own, q⟩)
 | false =>
  by_cases h16 : L0 < 16
  ·rw [List.length_map, HLL.out, decide_eq_true h16]
   simp only [Bool.or_true, if_true]
   have hx0 := seen_not (x := (wasL (M.map Prod.fst) t)) hK
   rw [hx0] at hXA hXB
   simp only at hXA hXB
   subst hXA
   subst hXB
   have he1 : ([] == YA) = false := by rw [← hYA]; exact (seen_known hyk).2
   rw [he1]
   simp only [Bool.false_and, Bool.not_false, if_true]
   clear hnk hyk hq hT hK hth hpp hYA hYB hx0
   obtain ⟨W0, hW, y0, bs⟩ := Sx.start3 w [.slice a0 L0 cap0, .int .i64 ver] 24 [.bool true, .bool sb, .bool sc, .bool sd] 29 [.slice none 0 0, .int .i64 0] 24
   have HW := Lib.hid hW
   clear hW
   have q := bs.q
   go_enter Tryz.func90, Tryz.ntmps90
   go_wp2_with fail
   rw [HW.out]
   refine (CF.out W0 q).mono ?_
   rintro e w1 ⟨hb, p, rfl, hp, hgp⟩
   replace bs := bs.ret hb
   replace q := bs.q
   clear hb
   rw [HTH.out]
   have HKP := KP.out p hp
   have HP := Lib.hid hp
   have HGP := Lib.hid hgp
   clear hp hgp
   have d0 := ((bs.lit (w1.heap.size) rfl [.string ⟨p.1.j.toArray⟩, .string ⟨p.1.n.toArray⟩, gvI p, .bool p.1.s.1, .bool p.1.s.2.1, .bool p.1.s.2.2.1, .bool p.1.s.2.2.2, .bool false] 31).lit (w1.heap.size + 1) (by simp; try omega) [.string ⟨t.toArray⟩, .string ⟨p.1.n.toArray⟩, gvI p, .bool p.1.s.1, .bool p.1.s.2.1, .bool p.1.s.2.2.1, .bool p.1.s.2.2.2, .bool false] 31)
   have c0_s0 := d0.at 1 0 rfl rfl
   have c0_s1 := d0.at 1 1 rfl rfl
   have c0_s2 := d0.at 1 2 rfl rfl
   have c0_s3 := d0.at 1 3 rfl rfl
   have d1 := ((bs.lit (w1.heap.size) rfl [.string ⟨p.1.j.toArray⟩, .string ⟨p.1.n.toArray⟩, gvI p, .bool p.1.s.1, .bool p.1.s.2.1, .bool p.1.s.2.2.1, .bool p.1.s.2.2.2, .bool false] 31).lit (w1.heap.size + 1) (by simp; try omega) [.string ⟨t.toArray⟩, .string ⟨p.1.n.toArray⟩, gvI p, .bool true, .bool sb, .bool sc, .bool sd, .bool false] 31)
   have c1_s0 := d1.at 1 0 rfl rfl
   have c1_s1 := d1.at 1 1 rfl rfl
   have c1_s2 := d1.at 1 2 rfl rfl
   have c1_s3 := d1.at 1 3 rfl rfl
   have c1_n07 := d1.at 3 7 rfl rfl
   have d2 := ((bs.lit (w1.heap.size) rfl [.string ⟨p.1.j.toArray⟩, .string ⟨p.1.n.toArray⟩, gvI p, .bool p.1.s.1, .bool p.1.s.2.1, .bool p.1.s.2.2.1, .bool p.1.s.2.2.2, .bool false] 31).lit (w1.heap.size + 1) (by simp; try omega) [.string ⟨t.toArray⟩, .string ⟨p.1.n.toArray⟩, gvI p, .bool true, .bool sb, .bool sc, .bool sd, .bool true] 31)
   have c2_r0 := d2.at 0 0 rfl rfl
   have c2_r1 := d2.at 0 1 rfl rfl
   have c2_s0 := d2.at 1 0 rfl rfl
   have c2_s1 := d2.at 1 1 rfl rfl
   have c2_s2 := d2.at 1 2 rfl rfl
   have c2_s3 := d2.at 1 3 rfl rfl
   have c2_n00 := d2.at 3 0 rfl rfl
   have c2_n01 := d2.at 3 1 rfl rfl
   have c2_n02 := d2.at 3 2 rfl rfl
   have c2_n03 := d2.at 3 3 rfl rfl
   have c2_n04 := d2.at 3 4 rfl rfl
   have c2_n05 := d2.at 3 5 rfl rfl
   have c2_n06 := d2.at 3 6 rfl rfl
   have c2_n07 := d2.at 3 7 rfl rfl
   go_wp2_with fail
   clear d0 c0_s0 c0_s1 c0_s2 c0_s3 d1 c1_s0 c1_s1 c1_s2 c1_s3 c1_n07 d2 c2_r0 c2_r1 c2_s0 c2_s1 c2_s2 c2_s3 c2_n00 c2_n01 c2_n02 c2_n03 c2_n04 c2_n05 c2_n06 c2_n07
   obtain ⟨w2, hw2, y2, al, bs⟩ := bs.alloc (w1.heap.size) rfl [.string ⟨p.1.j.toArray⟩, .string ⟨p.1.n.toArray⟩, gvI p, .bool p.1.s.1, .bool p.1.s.2.1, .bool p.1.s.2.2.1, .bool p.1.s.2.2.2, .bool false] 31
   clear al
   obtain ⟨w3, hw3, y3, al, bs⟩ := bs.alloc (w1.heap.size + 1) (by omega) [.string ⟨t.toArray⟩, .string ⟨p.1.n.toArray⟩, gvI p, .bool true, .bool sb, .bool sc, .bool sd, .bool true] 31
   clear al
   replace q := bs.q
   rw [hw2]
   rw [hw3]
   have CSX := r21_seen p w3
   rw [HSX.out p HP.out] at CSX
   simp only [itA, HKP] at CSX
   refine (CSX).mono ?_
   rintro e w4 ⟨rfl, hb⟩
   replace bs := bs.ret hb
   replace q := bs.q
   clear hb
   have c_y0 := bs.at 4 0 rfl rfl
   have c_y1 := bs.at 4 1 rfl rfl
   have c_y2 := bs.at 4 2 rfl rfl
   have c_y3 := bs.at 4 3 rfl rfl
   have c_y4 := bs.at 4 4 rfl rfl
   have c_y5 := bs.at 4 5 rfl rfl
   have c_y6 := bs.at 4 6 rfl rfl
   have c_y7 := bs.at 4 7 rfl rfl
   go_wp2_with fail
   clear c_y0 c_y1 c_y2 c_y3 c_y4 c_y5 c_y6 c_y7
   have CSY := r21_seen (((t, p.1.n, p.1.g, (true, sb, sc, sd), true), p.2) : Im) w4
   rw [HSY.out p HP.out] at CSY
   refine (CSY).mono ?_
   rintro e w5 ⟨rfl, hb⟩
   replace bs := bs.ret hb
   replace q := bs.q
   clear hb
   have c_r0 := bs.at 0 0 rfl rfl
   have c_r1 := bs.at 0 1 rfl rfl
   have c_y0 := bs.at 4 0 rfl rfl
   have c_y1 := bs.at 4 1 rfl rfl
   have c_y2 := bs.at 4 2 rfl rfl
   have c_y3 := bs.at 4 3 rfl rfl
   have c_y4 := bs.at 4 4 rfl rfl
   have c_y5 := bs.at 4 5 rfl rfl
   have c_y6 := bs.at 4 6 rfl rfl
   have c_y7 := bs.at 4 7 rfl rfl
   go_wp2_with fail
   clear c_r0 c_r1 c_y0 c_y1 c_y2 c_y3 c_y4 c_y5 c_y6 c_y7
   obtain ⟨x, hxx⟩ : ∃ x : Im, (((t, p.1.n, p.1.g, (true, sb, sc, sd), true), p.2) : Im) = x := ⟨_, rfl⟩
   have CT := r21_with (.slice a0 L0 cap0) ver M (((t, p.1.n, p.1.g, (true, sb, sc, sd), true), p.2) : Im) w5 (HV.out.ret q) (by have := LM.out; omega) ZJ.out (by exact ZT.out)
   have hxj : wiI M (((t, p.1.n, p.1.g, (true, sb, sc, sd), true), p.2) : Im) = wiI M x := by rw [hxx]
   rw [hxj] at CT
   refine (CT).mono ?_
   rintro e w6 ⟨a1, c1, rfl, hr1, hb⟩
   have o_f := OwX.mk' bs hr1
   replace bs := bs.ret hb
   replace q := bs.q
   clear hb
   clear hr1 hxj CSX CSY
   have hnl := wiI_len M x
   have hm16 := LM.out
   obtain ⟨Kn, hK1⟩ : ∃ Kn, (wiI M x).length = Kn := ⟨_, rfl⟩
   rw [hK1] at hnl o_f ⊢
   have c_r0 := bs.at 0 0 rfl rfl
   have f_r0 := bs.fz 0 0 rfl rfl
   have c_r1 := bs.at 0 1 rfl rfl
   have f_r1 := bs.fz 0 1 rfl rfl
   go_wp2_with fail
   clear c_r0 f_r0 c_r1 f_r1
   obtain ⟨w7, hw7, y7, bs⟩ := bs.sets 0 0 [.slice a1 Kn c1, .int .i64 ver] rfl (Nat.le_of_ble_eq_true rfl)
   replace o_f := o_f.sets 0 rfl hw7
   replace q := bs.q
   simp only [World.setCells, Nat.reduceAdd] at hw7
   rw [hw7]
   refine ((r21_next (.slice a1 Kn c1) ver w7 ⟨_, _, _, rfl⟩ HV0.out HV1.out)).mono ?_
   rintro e w8 ⟨rfl, hb⟩
   replace o_f := o_f.ret hb
   replace bs := bs.ret hb
   replace q := bs.q
   clear hb
   go_wp2_with fail
   have hit : IsItems (.slice a1 (wiI M x).length c1) (wiI M x) w8 := by
    refine ⟨by rw [hK1]; exact own_row o_f.1, fun p' hp' => ?_⟩
    rcases wiI_mem M x p' hp' with rfl | h
    ·rw [← hxx]; exact HGP.out.ret q
    ·exact (HV.out.2 p' h).ret q
   have hgz : ∀ p' ∈ wiI M x, p'.1.g.length ≤ 1000 := fun p' hp' => by
    rcases wiI_mem M x p' hp' with rfl | h
    ·rw [← hxx]; show p.1.g.length ≤ 1000; rw [HP.out]; have := WG.out; omega
    ·exact GZ.out p' h
   rw [hK1] at hit
   have hfin : (wiI M x).map Prod.fst = putL (M.map Prod.fst) (turnI (wasL (M.map Prod.fst) t) t (true, sb, sc, sd)) := by rw [map_wiI, ← hxx, ← HTI.out p HP.out]; exact HPUT.out _ rfl
   refine ((r21_Twin (.slice a1 Kn c1) (nextV ver) (wiI M x) w8 hit (by omega) hgz)).mono ?_
   rintro e w9 ⟨a2, c2, rfl, K2, hK2, hown, hb⟩
   have o_m := OwnX.mk' bs hown
   replace o_f := o_f.ret hb
   replace bs := bs.ret hb
   replace q := bs.q
   clear hb
   clear hit hgz hown
   rw [hfin] at hK2 o_m ⊢
   have c_z0 := bs.at 2 0 rfl rfl
   have f_z0 := bs.fz 2 0 rfl rfl
   have c_z1 := bs.at 2 1 rfl rfl
   have f_z1 := bs.fz 2 1 rfl rfl
   go_wp2_with fail
   clear c_z0 f_z0 c_z1 f_z1
   obtain ⟨w10, hw10, y10, bs⟩ := bs.sets 2 0 [.slice a2 (putL (M.map Prod.fst) (turnI (wasL (M.map Prod.fst) t) t (true, sb, sc, sd))).length c2, .int .i64 (nextV ver)] rfl (Nat.le_of_ble_eq_true rfl)
   replace o_f := o_f.sets 2 rfl hw10
   replace o_m := o_m.sets 2 rfl hw10
   replace q := bs.q
   simp only [World.setCells, Nat.reduceAdd] at hw10
   rw [hw10]
   refine bodyPost_ret (ret_r3b rfl rfl rfl rfl (bs.box 2 rfl)) rfl (⟨a2, c2, rfl, K2, hK2, o_m.own, q⟩)
  ·rw [List.length_map, HLL.out, decide_eq_false h16]
   simp only [Bool.or_self, Bool.false_eq_true, if_false, if_neg (show ¬ (9 : Int) = 0 by decide)]
   clear hnk hyk hq hT hK hth hpp hXA hXB hYA hYB
   obtain ⟨W0, hW, y0, bs⟩ := Sx.start3 w [.slice a0 L0 cap0, .int .i64 ver] 24 [.bool true, .bool sb, .bool sc, .bool sd] 29 [.slice none 0 0, .int .i64 0] 24
   have HW := Lib.hid hW
   clear hW
   have q := bs.q
   go_enter Tryz.func90, Tryz.ntmps90
   go_wp2_with fail
   rw [HW.out]
   refine (CF.out W0 q).mono ?_
   rintro e w1 ⟨hb, p, rfl, hp, hgp⟩
   replace bs := bs.ret hb
   replace q := bs.q
   clear hb
   rw [HTH.out]
   have HKP := KP.out p hp
   have HP := Lib.hid hp
   have HGP := Lib.hid hgp
   clear hp hgp
   have d0 := ((bs.lit (w1.heap.size) rfl [.string ⟨p.1.j.toArray⟩, .string ⟨p.1.n.toArray⟩, gvI p, .bool p.1.s.1, .bool p.1.s.2.1, .bool p.1.s.2.2.1, .bool p.1.s.2.2.2, .bool false] 31).lit (w1.heap.size + 1) (by simp; try omega) [.string ⟨t.toArray⟩, .string ⟨p.1.n.toArray⟩, gvI p, .bool p.1.s.1, .bool p.1.s.2.1, .bool p.1.s.2.2.1, .bool p.1.s.2.2.2, .bool false] 31)
   have c0_s0 := d0.at 1 0 rfl rfl
   have c0_s1 := d0.at 1 1 rfl rfl
   have c0_s2 := d0.at 1 2 rfl rfl
   have c0_s3 := d0.at 1 3 rfl rfl
   have d1 := ((bs.lit (w1.heap.size) rfl [.string ⟨p.1.j.toArray⟩, .string ⟨p.1.n.toArray⟩, gvI p, .bool p.1.s.1, .bool p.1.s.2.1, .bool p.1.s.2.2.1, .bool p.1.s.2.2.2, .bool false] 31).lit (w1.heap.size + 1) (by simp; try omega) [.string ⟨t.toArray⟩, .string ⟨p.1.n.toArray⟩, gvI p, .bool true, .bool sb, .bool sc, .bool sd, .bool false] 31)
   have c1_s0 := d1.at 1 0 rfl rfl
   have c1_s1 := d1.at 1 1 rfl rfl
   have c1_s2 := d1.at 1 2 rfl rfl
   have c1_s3 := d1.at 1 3 rfl rfl
   have c1_n07 := d1.at 3 7 rfl rfl
   have d2 := ((bs.lit (w1.heap.size) rfl [.string ⟨p.1.j.toArray⟩, .string ⟨p.1.n.toArray⟩, gvI p, .bool p.1.s.1, .bool p.1.s.2.1, .bool p.1.s.2.2.1, .bool p.1.s.2.2.2, .bool false] 31).lit (w1.heap.size + 1) (by simp; try omega) [.string ⟨t.toArray⟩, .string ⟨p.1.n.toArray⟩, gvI p, .bool true, .bool sb, .bool sc, .bool sd, .bool true] 31)
   have c2_r0 := d2.at 0 0 rfl rfl
   have c2_r1 := d2.at 0 1 rfl rfl
   have c2_s0 := d2.at 1 0 rfl rfl
   have c2_s1 := d2.at 1 1 rfl rfl
   have c2_s2 := d2.at 1 2 rfl rfl
   have c2_s3 := d2.at 1 3 rfl rfl
   have c2_z0 := d2.at 2 0 rfl rfl
   have f2_z0 := d2.fz 2 0 rfl rfl
   have c2_z1 := d2.at 2 1 rfl rfl
   have f2_z1 := d2.fz 2 1 rfl rfl
   go_wp2_with fail
   clear d0 c0_s0 c0_s1 c0_s2 c0_s3 d1 c1_s0 c1_s1 c1_s2 c1_s3 c1_n07 d2 c2_r0 c2_r1 c2_s0 c2_s1 c2_s2 c2_s3 c2_z0 f2_z0 c2_z1 f2_z1
   obtain ⟨w2, hw2, y2, al, bs⟩ := bs.alloc (w1.heap.size) rfl [.string ⟨p.1.j.toArray⟩, .string ⟨p.1.n.toArray⟩, gvI p, .bool p.1.s.1, .bool p.1.s.2.1, .bool p.1.s.2.2.1, .bool p.1.s.2.2.2, .bool false] 31
   clear al
   obtain ⟨w3, hw3, y3, al, bs⟩ := bs.alloc (w1.heap.size + 1) (by omega) [.string ⟨t.toArray⟩, .string ⟨p.1.n.toArray⟩, gvI p, .bool true, .bool sb, .bool sc, .bool sd, .bool true] 31
   clear al
   replace q := bs.q
   obtain ⟨w4, hw4, y4, bs⟩ := bs.sets 2 0 [.slice none 0 0, .int .i64 0] rfl (Nat.le_of_ble_eq_true rfl)
   replace q := bs.q
   rw [hw2]
   rw [hw3]
   simp only [World.setCells, Nat.reduceAdd] at hw4
   rw [hw4]
   refine bodyPost_ret (ret_r3b rfl rfl rfl rfl (bs.box 2 rfl)) rfl (TurC.zero q)
set_option maxHeartbeats 4000000 in
set_option maxRecDepth 100000 in
theorem r21_turned3 (v : Value) (ver : Int) (M : List Im) (t : List UInt8) (sc sd : Bool) (w : World) (hv : IsItems v M w) (hs : SmallI M) (hmay : mayR (M.map Prod.fst) ver = true) (hA : adrOk t = true) (zt : t.length ≤ 10000) (hK : (wasL (M.map Prod.fst) t).k = false) :
  Calls Tryz.prog 90 #[.agg #[v, .int .i64 ver], .string ⟨t.toArray⟩, .agg #[.bool false, .bool true, .bool sc, .bool sd]] w (TurC w (tuP (M.map Prod.fst) ver t (false, true, sc, sd)).1 (tuP (M.map Prod.fst) ver t (false, true, sc, sd)).2.1 (tuP (M.map Prod.fst) ver t (false, true, sc, sd)).2.2 (turnC (M.map Prod.fst) t (false, true, sc, sd))) := by
 obtain ⟨a0, cap0, hf, -⟩ := hv.form
 obtain ⟨L0, hL⟩ : ∃ L, M.length = L := ⟨_, rfl⟩
 rw [hL] at hf
 subst hf
 obtain ⟨hall, hch, hl16, hv0, hv1⟩ := may_facts21 hmay
 rw [List.length_map, hL] at hl16
 have CF := Lib.hid (fun (w' : World) (hb : Below w.heap.size w w') => r21_FindD (.slice a0 L0 cap0) ver M t w hv (by omega) w' hb)
 have hth := find_there (t := t) hch
 have HW0 : Hid (withoutL (M.map Prod.fst) t = goneL (M.map Prod.fst) t) := Lib.hid (without_gone hch)
 have HPUT : Hid (∀ x : It, x.j = t → withL (M.map Prod.fst) x = putL (M.map Prod.fst) x) := Lib.hid (fun x hx => with_put hch (fun y hy => itemP_adr (hall y hy)) (by rw [hx]; exact hA))
 have HV := Lib.hid hv
 have HV0 := Lib.hid hv0
 have HV1 := Lib.hid hv1
 have ZJ := Lib.hid (fun p hp => (hs.2 p hp).1)
 have GZ := Lib.hid (fun p hp => (hs.2 p hp).2.2.1)
 have ZT := Lib.hid zt
 have hwg := was_may (t := t) hmay
 have WG : Hid ((wasL (M.map Prod.fst) t).g.length ≤ 4) := Lib.hid hwg.2.2.1
 have LM : Hid (M.length ≤ 16) := Lib.hid (by omega)
 have hnk : thereL (M.map Prod.fst) t = false → wasL (M.map Prod.fst) t = it0 := was_not hch
 unfold tuP turnC turnV turnPush turnL
 clear hwg
 obtain ⟨th, hT⟩ : ∃ th, thereL (M.map Prod.fst) t = th := ⟨_, rfl⟩
 rw [hT] at hth hnk
 have HTH := Lib.hid hth
 have KP : Hid (∀ p : Im, p.1 = wasL (M.map Prod.fst) t → p.1.k = false) := Lib.hid (fun p h => by rw [h]; exact hK)
 have HLL := Lib.hid hL
 clear hs hv hall hch hmay hv0 hv1 zt hL hA
 have HTI : Hid (∀ p : Im, p.1 = (wasL (M.map Prod.fst) t) → (((t, p.1.n, p.1.g, (false, true, sc, sd), true), p.2) : Im).1 = turnI (wasL (M.map Prod.fst) t) t (false, true, sc, sd)) := Lib.hid (fun p h => by rw [h]; unfold turnI; rw [hK]; rfl)
 have hyk : (turnI (wasL (M.map Prod.fst) t) t (false, true, sc, sd)).k = true := by unfold turnI; rw [hK]; rfl
 have hq : quitP (turnI (wasL (M.map Prod.fst) t) t (false, true, sc, sd)) (false, true, sc, sd) = false := by unfold quitP; rw [hyk]; rfl
 rw [hq]
 simp only [Bool.false_or, Bool.not_false, Bool.true_and, Bool.false_eq_true, if_false]
 obtain ⟨XA, hXA⟩ : ∃ XA, (seenP (wasL (M.map Prod.fst) t)).1 = XA := ⟨_, rfl⟩
 obtain ⟨XB, hXB⟩ : ∃ XB, (seenP (wasL (M.map Prod.fst) t)).2 = XB := ⟨_, rfl⟩
 obtain ⟨YA, hYA⟩ : ∃ YA, (seenP (turnI (wasL (M.map Prod.fst) t) t (false, true, sc, sd))).1 = YA := ⟨_, rfl⟩
 obtain ⟨YB, hYB⟩ : ∃ YB, (seenP (turnI (wasL (M.map Prod.fst) t) t (false, true, sc, sd))).2 = YB := ⟨_, rfl⟩
 have HSX : Hid (∀ p : Im, p.1 = (wasL (M.map Prod.fst) t) → seenP p.1 = (XA, XB)) := Lib.hid (fun p h => by rw [h, ← hXA, ← hXB])
 have HSY : Hid (∀ p : Im, p.1 = (wasL (M.map Prod.fst) t) → seenP (((t, p.1.n, p.1.g, (false, true, sc, sd), true), p.2) : Im).1 = (YA, YB)) := Lib.hid (fun p h => by rw [HTI.out p h, ← hYA, ← hYB])
 have hpp : pushP (wasL (M.map Prod.fst) t) (turnI (wasL (M.map Prod.fst) t) t (false, true, sc, sd)) = !((XA == YA) && (XB == YB)) := by unfold pushP; rw [hXA, hXB, hYA, hYB]
 rw [hpp]
 rw [hT]
 cases th with
 | true =>
  simp only [Bool.true_or, if_true]
  have hx0 := seen_not (x := (wasL (M.map Prod.fst) t)) hK
  rw [hx0] at hXA hXB
  simp only at hXA hXB
  subst hXA
  subst hXB
  have he1 : ([] == YA) = false := by rw [← hYA]; exact (seen_known hyk).2
  rw [he1]
  simp only [Bool.false_and, Bool.not_false, if_true]
  clear hnk hyk hq hT hK hth hpp hYA hYB hx0
  obtain ⟨W0, hW, y0, bs⟩ := Sx.start3 w [.slice a0 L0 cap0, .int .i64 ver] 24 [.bool false, .bool true, .bool sc, .bool sd] 29 [.slice none 0 0, .int .i64 0] 24
  have HW := Lib.hid hW
  clear hW
  have q := bs.q
  go_enter Tryz.func90, Tryz.ntmps90
  go_wp2_with fail
  rw [HW.out]
  refine (CF.out W0 q).mono ?_
  rintro e w1 ⟨hb, p, rfl, hp, hgp⟩
  replace bs := bs.ret hb
  replace q := bs.q
  clear hb
  rw [HTH.out]
  have HKP := KP.out p hp
  have HP := Lib.hid hp
  have HGP := Lib.hid hgp
  clear hp hgp
  have d0 := ((bs.lit (w1.heap.size) rfl [.string ⟨p.1.j.toArray⟩, .string ⟨p.1.n.toArray⟩, gvI p, .bool p.1.s.1, .bool p.1.s.2.1, .bool p.1.s.2.2.1, .bool p.1.s.2.2.2, .bool false] 31).lit (w1.heap.size + 1) (by simp; try omega) [.string ⟨t.toArray⟩, .string ⟨p.1.n.toArray⟩, gvI p, .bool p.1.s.1, .bool p.1.s.2.1, .bool p.1.s.2.2.1, .bool p.1.s.2.2.2, .bool false] 31)
  have c0_s0 := d0.at 1 0 rfl rfl
  have c0_s1 := d0.at 1 1 rfl rfl
  have c0_s2 := d0.at 1 2 rfl rfl
  have c0_s3 := d0.at 1 3 rfl rfl
  have d1 := ((bs.lit (w1.heap.size) rfl [.string ⟨p.1.j.toArray⟩, .string ⟨p.1.n.toArray⟩, gvI p, .bool p.1.s.1, .bool p.1.s.2.1, .bool p.1.s.2.2.1, .bool p.1.s.2.2.2, .bool false] 31).lit (w1.heap.size + 1) (by simp; try omega) [.string ⟨t.toArray⟩, .string ⟨p.1.n.toArray⟩, gvI p, .bool false, .bool true, .bool sc, .bool sd, .bool false] 31)
  have c1_s0 := d1.at 1 0 rfl rfl
  have c1_s1 := d1.at 1 1 rfl rfl
  have c1_s2 := d1.at 1 2 rfl rfl
  have c1_s3 := d1.at 1 3 rfl rfl
  have c1_n07 := d1.at 3 7 rfl rfl
  have d2 := ((bs.lit (w1.heap.size) rfl [.string ⟨p.1.j.toArray⟩, .string ⟨p.1.n.toArray⟩, gvI p, .bool p.1.s.1, .bool p.1.s.2.1, .bool p.1.s.2.2.1, .bool p.1.s.2.2.2, .bool false] 31).lit (w1.heap.size + 1) (by simp; try omega) [.string ⟨t.toArray⟩, .string ⟨p.1.n.toArray⟩, gvI p, .bool false, .bool true, .bool sc, .bool sd, .bool true] 31)
  have c2_r0 := d2.at 0 0 rfl rfl
  have c2_r1 := d2.at 0 1 rfl rfl
  have c2_s0 := d2.at 1 0 rfl rfl
  have c2_s1 := d2.at 1 1 rfl rfl
  have c2_s2 := d2.at 1 2 rfl rfl
  have c2_s3 := d2.at 1 3 rfl rfl
  have c2_n00 := d2.at 3 0 rfl rfl
  have c2_n01 := d2.at 3 1 rfl rfl
  have c2_n02 := d2.at 3 2 rfl rfl
  have c2_n03 := d2.at 3 3 rfl rfl
  have c2_n04 := d2.at 3 4 rfl rfl
  have c2_n05 := d2.at 3 5 rfl rfl
  have c2_n06 := d2.at 3 6 rfl rfl
  have c2_n07 := d2.at 3 7 rfl rfl
  go_wp2_with fail
  clear d0 c0_s0 c0_s1 c0_s2 c0_s3 d1 c1_s0 c1_s1 c1_s2 c1_s3 c1_n07 d2 c2_r0 c2_r1 c2_s0 c2_s1 c2_s2 c2_s3 c2_n00 c2_n01 c2_n02 c2_n03 c2_n04 c2_n05 c2_n06 c2_n07
  obtain ⟨w2, hw2, y2, al, bs⟩ := bs.alloc (w1.heap.size) rfl [.string ⟨p.1.j.toArray⟩, .string ⟨p.1.n.toArray⟩, gvI p, .bool p.1.s.1, .bool p.1.s.2.1, .bool p.1.s.2.2.1, .bool p.1.s.2.2.2, .bool false] 31
  clear al
  obtain ⟨w3, hw3, y3, al, bs⟩ := bs.alloc (w1.heap.size + 1) (by omega) [.string ⟨t.toArray⟩, .string ⟨p.1.n.toArray⟩, gvI p, .bool false, .bool true, .bool sc, .bool sd, .bool true] 31
  clear al
  replace q := bs.q
  rw [hw2]
  rw [hw3]
  have CSX := r21_seen p w3
  rw [HSX.out p HP.out] at CSX
  simp only [itA, HKP] at CSX
  refine (CSX).mono ?_
  rintro e w4 ⟨rfl, hb⟩
  replace bs := bs.ret hb
  replace q := bs.q
  clear hb
  have c_y0 := bs.at 4 0 rfl rfl
  have c_y1 := bs.at 4 1 rfl rfl
  have c_y2 := bs.at 4 2 rfl rfl
  have c_y3 := bs.at 4 3 rfl rfl
  have c_y4 := bs.at 4 4 rfl rfl
  have c_y5 := bs.at 4 5 rfl rfl
  have c_y6 := bs.at 4 6 rfl rfl
  have c_y7 := bs.at 4 7 rfl rfl
  go_wp2_with fail
  clear c_y0 c_y1 c_y2 c_y3 c_y4 c_y5 c_y6 c_y7
  have CSY := r21_seen (((t, p.1.n, p.1.g, (false, true, sc, sd), true), p.2) : Im) w4
  rw [HSY.out p HP.out] at CSY
  refine (CSY).mono ?_
  rintro e w5 ⟨rfl, hb⟩
  replace bs := bs.ret hb
  replace q := bs.q
  clear hb
  have c_r0 := bs.at 0 0 rfl rfl
  have c_r1 := bs.at 0 1 rfl rfl
  have c_y0 := bs.at 4 0 rfl rfl
  have c_y1 := bs.at 4 1 rfl rfl
  have c_y2 := bs.at 4 2 rfl rfl
  have c_y3 := bs.at 4 3 rfl rfl
  have c_y4 := bs.at 4 4 rfl rfl
  have c_y5 := bs.at 4 5 rfl rfl
  have c_y6 := bs.at 4 6 rfl rfl
  have c_y7 := bs.at 4 7 rfl rfl
  go_wp2_with fail
  clear c_r0 c_r1 c_y0 c_y1 c_y2 c_y3 c_y4 c_y5 c_y6 c_y7
  obtain ⟨x, hxx⟩ : ∃ x : Im, (((t, p.1.n, p.1.g, (false, true, sc, sd), true), p.2) : Im) = x := ⟨_, rfl⟩
  have CT := r21_with (.slice a0 L0 cap0) ver M (((t, p.1.n, p.1.g, (false, true, sc, sd), true), p.2) : Im) w5 (HV.out.ret q) (by have := LM.out; omega) ZJ.out (by exact ZT.out)
  have hxj : wiI M (((t, p.1.n, p.1.g, (false, true, sc, sd), true), p.2) : Im) = wiI M x := by rw [hxx]
  rw [hxj] at CT
  refine (CT).mono ?_
  rintro e w6 ⟨a1, c1, rfl, hr1, hb⟩
  have o_f := OwX.mk' bs hr1
  replace bs := bs.ret hb
  replace q := bs.q
  clear hb
  clear hr1 hxj CSX CSY
  have hnl := wiI_len M x
  have hm16 := LM.out
  obtain ⟨Kn, hK1⟩ : ∃ Kn, (wiI M x).length = Kn := ⟨_, rfl⟩
  rw [hK1] at hnl o_f ⊢
  have c_r0 := bs.at 0 0 rfl rfl
  have f_r0 := bs.fz 0 0 rfl rfl
  have c_r1 := bs.at 0 1 rfl rfl
  have f_r1 := bs.fz 0 1 rfl rfl
  go_wp2_with fail
  clear c_r0 f_r0 c_r1 f_r1
  obtain ⟨w7, hw7, y7, bs⟩ := bs.sets 0 0 [.slice a1 Kn c1, .int .i64 ver] rfl (Nat.le_of_ble_eq_true rfl)
  replace o_f := o_f.sets 0 rfl hw7
  replace q := bs.q
  simp only [World.setCells, Nat.reduceAdd] at hw7
  rw [hw7]
  refine ((r21_next (.slice a1 Kn c1) ver w7 ⟨_, _, _, rfl⟩ HV0.out HV1.out)).mono ?_
  rintro e w8 ⟨rfl, hb⟩
  replace o_f := o_f.ret hb
  replace bs := bs.ret hb
  replace q := bs.q
  clear hb
  go_wp2_with fail
  have hit : IsItems (.slice a1 (wiI M x).length c1) (wiI M x) w8 := by
   refine ⟨by rw [hK1]; exact own_row o_f.1, fun p' hp' => ?_⟩
   rcases wiI_mem M x p' hp' with rfl | h
   ·rw [← hxx]; exact HGP.out.ret q
   ·exact (HV.out.2 p' h).ret q
  have hgz : ∀ p' ∈ wiI M x, p'.1.g.length ≤ 1000 := fun p' hp' => by
   rcases wiI_mem M x p' hp' with rfl | h
   ·rw [← hxx]; show p.1.g.length ≤ 1000; rw [HP.out]; have := WG.out; omega
   ·exact GZ.out p' h
  rw [hK1] at hit
  have hfin : (wiI M x).map Prod.fst = putL (M.map Prod.fst) (turnI (wasL (M.map Prod.fst) t) t (false, true, sc, sd)) := by rw [map_wiI, ← hxx, ← HTI.out p HP.out]; exact HPUT.out _ rfl
  refine ((r21_Twin (.slice a1 Kn c1) (nextV ver) (wiI M x) w8 hit (by omega) hgz)).mono ?_
  rintro e w9 ⟨a2, c2, rfl, K2, hK2, hown, hb⟩
  have o_m := OwnX.mk' bs hown
  replace o_f := o_f.ret hb
  replace bs := bs.ret hb
  replace q := bs.q
  clear hb
  clear hit hgz hown
  rw [hfin] at hK2 o_m ⊢
  have c_z0 := bs.at 2 0 rfl rfl
  have f_z0 := bs.fz 2 0 rfl rfl
  have c_z1 := bs.at 2 1 rfl rfl
  have f_z1 := bs.fz 2 1 rfl rfl
  go_wp2_with fail
  clear c_z0 f_z0 c_z1 f_z1
  obtain ⟨w10, hw10, y10, bs⟩ := bs.sets 2 0 [.slice a2 (putL (M.map Prod.fst) (turnI (wasL (M.map Prod.fst) t) t (false, true, sc, sd))).length c2, .int .i64 (nextV ver)] rfl (Nat.le_of_ble_eq_true rfl)
  replace o_f := o_f.sets 2 rfl hw10
  replace o_m := o_m.sets 2 rfl hw10
  replace q := bs.q
  simp only [World.setCells, Nat.reduceAdd] at hw10
  rw [hw10]
  refine bodyPost_ret (ret_r3b rfl rfl rfl rfl (bs.box 2 rfl)) rfl (⟨a2, c2, rfl, K2, hK2, o_m.own, q⟩)
 | false =>
  by_cases h16 : L0 < 16
  ·rw [List.length_map, HLL.out, decide_eq_true h16]
   simp only [Bool.or_true, if_true]
   have hx0 := seen_not (x := (wasL (M.map Prod.fst) t)) hK
   rw [hx0] at hXA hXB
   simp only at hXA hXB
   subst hXA
   subst hXB
   have he1 : ([] == YA) = false := by rw [← hYA]; exact (seen_known hyk).2
   rw [he1]
   simp only [Bool.false_and, Bool.not_false, if_true]
   clear hnk hyk hq hT hK hth hpp hYA hYB hx0
   obtain ⟨W0, hW, y0, bs⟩ := Sx.start3 w [.slice a0 L0 cap0, .int .i64 ver] 24 [.bool false, .bool true, .bool sc, .bool sd] 29 [.slice none 0 0, .int .i64 0] 24
   have HW := Lib.hid hW
   clear hW
   have q := bs.q
   go_enter Tryz.func90, Tryz.ntmps90
   go_wp2_with fail
   rw [HW.out]
   refine (CF.out W0 q).mono ?_
   rintro e w1 ⟨hb, p, rfl, hp, hgp⟩
   replace bs := bs.ret hb
   replace q := bs.q
   clear hb
   rw [HTH.out]
   have HKP := KP.out p hp
   have HP := Lib.hid hp
   have HGP := Lib.hid hgp
   clear hp hgp
   have d0 := ((bs.lit (w1.heap.size) rfl [.string ⟨p.1.j.toArray⟩, .string ⟨p.1.n.toArray⟩, gvI p, .bool p.1.s.1, .bool p.1.s.2.1, .bool p.1.s.2.2.1, .bool p.1.s.2.2.2, .bool false] 31).lit (w1.heap.size + 1) (by simp; try omega) [.string ⟨t.toArray⟩, .string ⟨p.1.n.toArray⟩, gvI p, .bool p.1.s.1, .bool p.1.s.2.1, .bool p.1.s.2.2.1, .bool p.1.s.2.2.2, .bool false] 31)
   have c0_s0 := d0.at 1 0 rfl rfl
   have c0_s1 := d0.at 1 1 rfl rfl
   have c0_s2 := d0.at 1 2 rfl rfl
   have c0_s3 := d0.at 1 3 rfl rfl
   have d1 := ((bs.lit (w1.heap.size) rfl [.string ⟨p.1.j.toArray⟩, .string ⟨p.1.n.toArray⟩, gvI p, .bool p.1.s.1, .bool p.1.s.2.1, .bool p.1.s.2.2.1, .bool p.1.s.2.2.2, .bool false] 31).lit (w1.heap.size + 1) (by simp; try omega) [.string ⟨t.toArray⟩, .string ⟨p.1.n.toArray⟩, gvI p, .bool false, .bool true, .bool sc, .bool sd, .bool false] 31)
   have c1_s0 := d1.at 1 0 rfl rfl
   have c1_s1 := d1.at 1 1 rfl rfl
   have c1_s2 := d1.at 1 2 rfl rfl
   have c1_s3 := d1.at 1 3 rfl rfl
   have c1_n07 := d1.at 3 7 rfl rfl
   have d2 := ((bs.lit (w1.heap.size) rfl [.string ⟨p.1.j.toArray⟩, .string ⟨p.1.n.toArray⟩, gvI p, .bool p.1.s.1, .bool p.1.s.2.1, .bool p.1.s.2.2.1, .bool p.1.s.2.2.2, .bool false] 31).lit (w1.heap.size + 1) (by simp; try omega) [.string ⟨t.toArray⟩, .string ⟨p.1.n.toArray⟩, gvI p, .bool false, .bool true, .bool sc, .bool sd, .bool true] 31)
   have c2_r0 := d2.at 0 0 rfl rfl
   have c2_r1 := d2.at 0 1 rfl rfl
   have c2_s0 := d2.at 1 0 rfl rfl
   have c2_s1 := d2.at 1 1 rfl rfl
   have c2_s2 := d2.at 1 2 rfl rfl
   have c2_s3 := d2.at 1 3 rfl rfl
   have c2_n00 := d2.at 3 0 rfl rfl
   have c2_n01 := d2.at 3 1 rfl rfl
   have c2_n02 := d2.at 3 2 rfl rfl
   have c2_n03 := d2.at 3 3 rfl rfl
   have c2_n04 := d2.at 3 4 rfl rfl
   have c2_n05 := d2.at 3 5 rfl rfl
   have c2_n06 := d2.at 3 6 rfl rfl
   have c2_n07 := d2.at 3 7 rfl rfl
   go_wp2_with fail
   clear d0 c0_s0 c0_s1 c0_s2 c0_s3 d1 c1_s0 c1_s1 c1_s2 c1_s3 c1_n07 d2 c2_r0 c2_r1 c2_s0 c2_s1 c2_s2 c2_s3 c2_n00 c2_n01 c2_n02 c2_n03 c2_n04 c2_n05 c2_n06 c2_n07
   obtain ⟨w2, hw2, y2, al, bs⟩ := bs.alloc (w1.heap.size) rfl [.string ⟨p.1.j.toArray⟩, .string ⟨p.1.n.toArray⟩, gvI p, .bool p.1.s.1, .bool p.1.s.2.1, .bool p.1.s.2.2.1, .bool p.1.s.2.2.2, .bool false] 31
   clear al
   obtain ⟨w3, hw3, y3, al, bs⟩ := bs.alloc (w1.heap.size + 1) (by omega) [.string ⟨t.toArray⟩, .string ⟨p.1.n.toArray⟩, gvI p, .bool false, .bool true, .bool sc, .bool sd, .bool true] 31
   clear al
   replace q := bs.q
   rw [hw2]
   rw [hw3]
   have CSX := r21_seen p w3
   rw [HSX.out p HP.out] at CSX
   simp only [itA, HKP] at CSX
   refine (CSX).mono ?_
   rintro e w4 ⟨rfl, hb⟩
   replace bs := bs.ret hb
   replace q := bs.q
   clear hb
   have c_y0 := bs.at 4 0 rfl rfl
   have c_y1 := bs.at 4 1 rfl rfl
   have c_y2 := bs.at 4 2 rfl rfl
   have c_y3 := bs.at 4 3 rfl rfl
   have c_y4 := bs.at 4 4 rfl rfl
   have c_y5 := bs.at 4 5 rfl rfl
   have c_y6 := bs.at 4 6 rfl rfl
   have c_y7 := bs.at 4 7 rfl rfl
   go_wp2_with fail
   clear c_y0 c_y1 c_y2 c_y3 c_y4 c_y5 c_y6 c_y7
   have CSY := r21_seen (((t, p.1.n, p.1.g, (false, true, sc, sd), true), p.2) : Im) w4
   rw [HSY.out p HP.out] at CSY
   refine (CSY).mono ?_
   rintro e w5 ⟨rfl, hb⟩
   replace bs := bs.ret hb
   replace q := bs.q
   clear hb
   have c_r0 := bs.at 0 0 rfl rfl
   have c_r1 := bs.at 0 1 rfl rfl
   have c_y0 := bs.at 4 0 rfl rfl
   have c_y1 := bs.at 4 1 rfl rfl
   have c_y2 := bs.at 4 2 rfl rfl
   have c_y3 := bs.at 4 3 rfl rfl
   have c_y4 := bs.at 4 4 rfl rfl
   have c_y5 := bs.at 4 5 rfl rfl
   have c_y6 := bs.at 4 6 rfl rfl
   have c_y7 := bs.at 4 7 rfl rfl
   go_wp2_with fail
   clear c_r0 c_r1 c_y0 c_y1 c_y2 c_y3 c_y4 c_y5 c_y6 c_y7
   obtain ⟨x, hxx⟩ : ∃ x : Im, (((t, p.1.n, p.1.g, (false, true, sc, sd), true), p.2) : Im) = x := ⟨_, rfl⟩
   have CT := r21_with (.slice a0 L0 cap0) ver M (((t, p.1.n, p.1.g, (false, true, sc, sd), true), p.2) : Im) w5 (HV.out.ret q) (by have := LM.out; omega) ZJ.out (by exact ZT.out)
   have hxj : wiI M (((t, p.1.n, p.1.g, (false, true, sc, sd), true), p.2) : Im) = wiI M x := by rw [hxx]
   rw [hxj] at CT
   refine (CT).mono ?_
   rintro e w6 ⟨a1, c1, rfl, hr1, hb⟩
   have o_f := OwX.mk' bs hr1
   replace bs := bs.ret hb
   replace q := bs.q
   clear hb
   clear hr1 hxj CSX CSY
   have hnl := wiI_len M x
   have hm16 := LM.out
   obtain ⟨Kn, hK1⟩ : ∃ Kn, (wiI M x).length = Kn := ⟨_, rfl⟩
   rw [hK1] at hnl o_f ⊢
   have c_r0 := bs.at 0 0 rfl rfl
   have f_r0 := bs.fz 0 0 rfl rfl
   have c_r1 := bs.at 0 1 rfl rfl
   have f_r1 := bs.fz 0 1 rfl rfl
   go_wp2_with fail
   clear c_r0 f_r0 c_r1 f_r1
   obtain ⟨w7, hw7, y7, bs⟩ := bs.sets 0 0 [.slice a1 Kn c1, .int .i64 ver] rfl (Nat.le_of_ble_eq_true rfl)
   replace o_f := o_f.sets 0 rfl hw7
   replace q := bs.q
   simp only [World.setCells, Nat.reduceAdd] at hw7
   rw [hw7]
   refine ((r21_next (.slice a1 Kn c1) ver w7 ⟨_, _, _, rfl⟩ HV0.out HV1.out)).mono ?_
   rintro e w8 ⟨rfl, hb⟩
   replace o_f := o_f.ret hb
   replace bs := bs.ret hb
   replace q := bs.q
   clear hb
   go_wp2_with fail
   have hit : IsItems (.slice a1 (wiI M x).length c1) (wiI M x) w8 := by
    refine ⟨by rw [hK1]; exact own_row o_f.1, fun p' hp' => ?_⟩
    rcases wiI_mem M x p' hp' with rfl | h
    ·rw [← hxx]; exact HGP.out.ret q
    ·exact (HV.out.2 p' h).ret q
   have hgz : ∀ p' ∈ wiI M x, p'.1.g.length ≤ 1000 := fun p' hp' => by
    rcases wiI_mem M x p' hp' with rfl | h
    ·rw [← hxx]; show p.1.g.length ≤ 1000; rw [HP.out]; have := WG.out; omega
    ·exact GZ.out p' h
   rw [hK1] at hit
   have hfin : (wiI M x).map Prod.fst = putL (M.map Prod.fst) (turnI (wasL (M.map Prod.fst) t) t (false, true, sc, sd)) := by rw [map_wiI, ← hxx, ← HTI.out p HP.out]; exact HPUT.out _ rfl
   refine ((r21_Twin (.slice a1 Kn c1) (nextV ver) (wiI M x) w8 hit (by omega) hgz)).mono ?_
   rintro e w9 ⟨a2, c2, rfl, K2, hK2, hown, hb⟩
   have o_m := OwnX.mk' bs hown
   replace o_f := o_f.ret hb
   replace bs := bs.ret hb
   replace q := bs.q
   clear hb
   clear hit hgz hown
   rw [hfin] at hK2 o_m ⊢
   have c_z0 := bs.at 2 0 rfl rfl
   have f_z0 := bs.fz 2 0 rfl rfl
   have c_z1 := bs.at 2 1 rfl rfl
   have f_z1 := bs.fz 2 1 rfl rfl
   go_wp2_with fail
   clear c_z0 f_z0 c_z1 f_z1
   obtain ⟨w10, hw10, y10, bs⟩ := bs.sets 2 0 [.slice a2 (putL (M.map Prod.fst) (turnI (wasL (M.map Prod.fst) t) t (false, true, sc, sd))).length c2, .int .i64 (nextV ver)] rfl (Nat.le_of_ble_eq_true rfl)
   replace o_f := o_f.sets 2 rfl hw10
   replace o_m := o_m.sets 2 rfl hw10
   replace q := bs.q
   simp only [World.setCells, Nat.reduceAdd] at hw10
   rw [hw10]
   refine bodyPost_ret (ret_r3b rfl rfl rfl rfl (bs.box 2 rfl)) rfl (⟨a2, c2, rfl, K2, hK2, o_m.own, q⟩)
  ·rw [List.length_map, HLL.out, decide_eq_false h16]
   simp only [Bool.or_self, Bool.false_eq_true, if_false, if_neg (show ¬ (9 : Int) = 0 by decide)]
   clear hnk hyk hq hT hK hth hpp hXA hXB hYA hYB
   obtain ⟨W0, hW, y0, bs⟩ := Sx.start3 w [.slice a0 L0 cap0, .int .i64 ver] 24 [.bool false, .bool true, .bool sc, .bool sd] 29 [.slice none 0 0, .int .i64 0] 24
   have HW := Lib.hid hW
   clear hW
   have q := bs.q
   go_enter Tryz.func90, Tryz.ntmps90
   go_wp2_with fail
   rw [HW.out]
   refine (CF.out W0 q).mono ?_
   rintro e w1 ⟨hb, p, rfl, hp, hgp⟩
   replace bs := bs.ret hb
   replace q := bs.q
   clear hb
   rw [HTH.out]
   have HKP := KP.out p hp
   have HP := Lib.hid hp
   have HGP := Lib.hid hgp
   clear hp hgp
   have d0 := ((bs.lit (w1.heap.size) rfl [.string ⟨p.1.j.toArray⟩, .string ⟨p.1.n.toArray⟩, gvI p, .bool p.1.s.1, .bool p.1.s.2.1, .bool p.1.s.2.2.1, .bool p.1.s.2.2.2, .bool false] 31).lit (w1.heap.size + 1) (by simp; try omega) [.string ⟨t.toArray⟩, .string ⟨p.1.n.toArray⟩, gvI p, .bool p.1.s.1, .bool p.1.s.2.1, .bool p.1.s.2.2.1, .bool p.1.s.2.2.2, .bool false] 31)
   have c0_s0 := d0.at 1 0 rfl rfl
   have c0_s1 := d0.at 1 1 rfl rfl
   have c0_s2 := d0.at 1 2 rfl rfl
   have c0_s3 := d0.at 1 3 rfl rfl
   have d1 := ((bs.lit (w1.heap.size) rfl [.string ⟨p.1.j.toArray⟩, .string ⟨p.1.n.toArray⟩, gvI p, .bool p.1.s.1, .bool p.1.s.2.1, .bool p.1.s.2.2.1, .bool p.1.s.2.2.2, .bool false] 31).lit (w1.heap.size + 1) (by simp; try omega) [.string ⟨t.toArray⟩, .string ⟨p.1.n.toArray⟩, gvI p, .bool false, .bool true, .bool sc, .bool sd, .bool false] 31)
   have c1_s0 := d1.at 1 0 rfl rfl
   have c1_s1 := d1.at 1 1 rfl rfl
   have c1_s2 := d1.at 1 2 rfl rfl
   have c1_s3 := d1.at 1 3 rfl rfl
   have c1_n07 := d1.at 3 7 rfl rfl
   have d2 := ((bs.lit (w1.heap.size) rfl [.string ⟨p.1.j.toArray⟩, .string ⟨p.1.n.toArray⟩, gvI p, .bool p.1.s.1, .bool p.1.s.2.1, .bool p.1.s.2.2.1, .bool p.1.s.2.2.2, .bool false] 31).lit (w1.heap.size + 1) (by simp; try omega) [.string ⟨t.toArray⟩, .string ⟨p.1.n.toArray⟩, gvI p, .bool false, .bool true, .bool sc, .bool sd, .bool true] 31)
   have c2_r0 := d2.at 0 0 rfl rfl
   have c2_r1 := d2.at 0 1 rfl rfl
   have c2_s0 := d2.at 1 0 rfl rfl
   have c2_s1 := d2.at 1 1 rfl rfl
   have c2_s2 := d2.at 1 2 rfl rfl
   have c2_s3 := d2.at 1 3 rfl rfl
   have c2_z0 := d2.at 2 0 rfl rfl
   have f2_z0 := d2.fz 2 0 rfl rfl
   have c2_z1 := d2.at 2 1 rfl rfl
   have f2_z1 := d2.fz 2 1 rfl rfl
   go_wp2_with fail
   clear d0 c0_s0 c0_s1 c0_s2 c0_s3 d1 c1_s0 c1_s1 c1_s2 c1_s3 c1_n07 d2 c2_r0 c2_r1 c2_s0 c2_s1 c2_s2 c2_s3 c2_z0 f2_z0 c2_z1 f2_z1
   obtain ⟨w2, hw2, y2, al, bs⟩ := bs.alloc (w1.heap.size) rfl [.string ⟨p.1.j.toArray⟩, .string ⟨p.1.n.toArray⟩, gvI p, .bool p.1.s.1, .bool p.1.s.2.1, .bool p.1.s.2.2.1, .bool p.1.s.2.2.2, .bool false] 31
   clear al
   obtain ⟨w3, hw3, y3, al, bs⟩ := bs.alloc (w1.heap.size + 1) (by omega) [.string ⟨t.toArray⟩, .string ⟨p.1.n.toArray⟩, gvI p, .bool false, .bool true, .bool sc, .bool sd, .bool true] 31
   clear al
   replace q := bs.q
   obtain ⟨w4, hw4, y4, bs⟩ := bs.sets 2 0 [.slice none 0 0, .int .i64 0] rfl (Nat.le_of_ble_eq_true rfl)
   replace q := bs.q
   rw [hw2]
   rw [hw3]
   simp only [World.setCells, Nat.reduceAdd] at hw4
   rw [hw4]
   refine bodyPost_ret (ret_r3b rfl rfl rfl rfl (bs.box 2 rfl)) rfl (TurC.zero q)
end Go.Proofs.YtfonkblbgadhmaaGreatDoor
