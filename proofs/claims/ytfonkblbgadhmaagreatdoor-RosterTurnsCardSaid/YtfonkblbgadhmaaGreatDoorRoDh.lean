/- the document's Sent, Send, Taken, Take. PRINTED BY PROGRAM (gen_rodh.py). -/
import Derived.Test.YtfonkblbgadhmaaGreatDoorRoPb
namespace Go.Proofs.YtfonkblbgadhmaaGreatDoor
open Go.RowKit Go.Lib

theorem r20_Sent_G (s : Sb) (k : Int) (w : World) (h1 : 1 ≤ k) (h2 : k ≤ 4) :
  Calls Tryz.prog 89 #[.agg #[.bool s.1, .bool s.2.1, .bool s.2.2.1, .bool s.2.2.2], .int .u8 k] w (Ret w (.tuple #[.agg #[.bool (subSend s k).1.1, .bool (subSend s k).1.2.1, .bool (subSend s k).1.2.2.1, .bool (subSend s k).1.2.2.2], .bool (subSend s k).2])) := by
 obtain ⟨a, b, c, d⟩ := s
 obtain rfl | rfl | rfl | rfl : k = 1 ∨ k = 2 ∨ k = 3 ∨ k = 4 := by omega
 ·exact ref20_Sent1 a b c d w
 ·exact ref20_Sent2 a b c d w
 ·exact ref20_Sent3 a b c d w
 ·exact ref20_Sent4 a b c d w
theorem r20_Taken_G (s : Sb) (k : Int) (w : World) (ho : subMay s = true) (h1 : 1 ≤ k) (h2 : k ≤ 4) :
  Calls Tryz.prog 91 #[.agg #[.bool s.1, .bool s.2.1, .bool s.2.2.1, .bool s.2.2.2], .int .u8 k] w (Ret w (.tuple #[.agg #[.bool (subTake s k).1.1, .bool (subTake s k).1.2.1, .bool (subTake s k).1.2.2.1, .bool (subTake s k).1.2.2.2], .bool (subTake s k).2.1, .int .u8 (subTake s k).2.2])) := by
 obtain ⟨a, b, c, d⟩ := s
 have ho := subMay_ho ho
 obtain rfl | rfl | rfl | rfl : k = 1 ∨ k = 2 ∨ k = 3 ∨ k = 4 := by omega
 ·have h := ref20_Taken1 a b c d w
  cases c with
  | false => exact h
  | true =>
   cases d with
   | false => exact h
   | true => simp at ho
 ·exact ref20_Taken2 a b c d w
 ·exact ref20_Taken3 a b c d w
 ·exact ref20_Taken4 a b c d w
set_option maxHeartbeats 3000000 in
set_option maxRecDepth 100000 in
theorem r21_Sent (v : Value) (ver : Int) (M : List Im) (t : List UInt8) (k : Int) (w : World) (hv : IsItems v M w) (hs : SmallI M) (hmay : mayR (M.map Prod.fst) ver = true) (zt : t.length ≤ 10000) :
  Calls Tryz.prog 60 #[.agg #[v, .int .i64 ver], .string ⟨t.toArray⟩, .int .u8 k] w (SendC w (sendP (M.map Prod.fst) ver t k).1 (sendP (M.map Prod.fst) ver t k).2.1 (sendP (M.map Prod.fst) ver t k).2.2.1 (sendP (M.map Prod.fst) ver t k).2.2.2 (sendC (M.map Prod.fst) ver t k)) := by
 obtain ⟨a0, cap0, hf, -⟩ := hv.form
 obtain ⟨L0, hL⟩ : ∃ L, M.length = L := ⟨_, rfl⟩
 rw [hL] at hf
 subst hf
 obtain ⟨hal, hch, hl16, hv0, hv1⟩ := may_facts21 hmay
 rw [List.length_map, hL] at hl16
 have CA := Lib.hid (fun w' => r21_asked t k w' zt)
 unfold sendP sendC askC
 rw [if_pos hmay]
 obtain ⟨A, hA⟩ : ∃ A, (adrOk t && (decide (1 ≤ k) && decide (k ≤ 4))) = A := ⟨_, rfl⟩
 rw [hA] at CA ⊢
 cases A with
 | false =>
  simp only [Bool.false_eq_true, if_false, if_neg (show ¬ (2 : Int) = 0 by decide)]
  clear hv hs hmay zt hL hal hch hl16 hv0 hv1 hA
  obtain ⟨W0, hW, y0, bs⟩ := Sx.start2 w [.slice a0 L0 cap0, .int .i64 ver] 24 [.slice none 0 0, .int .i64 0] 24
  have HW := Lib.hid hW
  clear hW
  have q := bs.q
  go_enter Tryz.func60, Tryz.ntmps60
  go_wp2_with fail
  rw [HW.out]
  refine (CA.out _).mono ?_
  rintro e w1 ⟨rfl, hb⟩
  replace bs := bs.ret hb
  replace q := bs.q
  clear hb
  have c_z0 := bs.at 1 0 rfl rfl
  have f_z0 := bs.fz 1 0 rfl rfl
  have c_z1 := bs.at 1 1 rfl rfl
  have f_z1 := bs.fz 1 1 rfl rfl
  go_wp2_with fail
  clear c_z0 f_z0 c_z1 f_z1
  obtain ⟨w2, hw2, y2, bs⟩ := bs.sets 1 0 [.slice none 0 0, .int .i64 0] rfl (Nat.le_of_ble_eq_true rfl)
  replace q := bs.q
  simp only [World.setCells, Nat.reduceAdd] at hw2
  rw [hw2]
  refine bodyPost_ret (ret_r4 rfl rfl rfl rfl rfl (bs.box 1 rfl)) rfl (SendC.zero q)
 | true =>
  simp only [Bool.and_eq_true, decide_eq_true_eq] at hA
  obtain ⟨hA, hk2, hk3⟩ := hA
  simp only [if_true]
  have CF := Lib.hid (fun (w' : World) (hb : Below w.heap.size w w') => r21_FindD (.slice a0 L0 cap0) ver M t w hv (by omega) w' hb)
  have hwm := (was_may (t := t) hmay).1
  have CS := fun w' => r20_Sent_G (wasL (M.map Prod.fst) t).s k w' hk2 hk3
  have hth := find_there (t := t) hch
  have HTH := Lib.hid hth
  have CTU := fun (sa sb sc sd : Bool) (w' : World) (hb : Below w.heap.size w w') => r21_turned (.slice a0 L0 cap0) ver M t sa sb sc sd w' (hv.ret hb) hs hmay hA zt
  generalize hsf : subSend (wasL (M.map Prod.fst) t).s k = sf at CS ⊢
  obtain ⟨⟨sa, sb, sc, sd⟩, goes⟩ := sf
  simp only at CS ⊢
  have CTU := CTU sa sb sc sd
  unfold tuP at CTU
  have CS := Lib.hid CS
  clear hv hs hmay zt hL hal hch hl16 hv0 hv1 hwm hth hA hsf
  have hcd : turnC (M.map Prod.fst) t (sa, sb, sc, sd) = 0 ∨ turnC (M.map Prod.fst) t (sa, sb, sc, sd) = 9 := by unfold turnC; split <;> simp
  rcases hcd with hc | hc
  ·rw [hc] at CTU ⊢
   simp only [if_true] at CTU ⊢
   have CTU := Lib.hid CTU
   clear hc
   obtain ⟨TL, hTL⟩ : ∃ TL, turnL (M.map Prod.fst) t (sa, sb, sc, sd) = TL := ⟨_, rfl⟩
   obtain ⟨TV, hTV⟩ : ∃ TV, turnV (M.map Prod.fst) ver t (sa, sb, sc, sd) = TV := ⟨_, rfl⟩
   obtain ⟨TP, hTP⟩ : ∃ TP, turnPush (M.map Prod.fst) t (sa, sb, sc, sd) = TP := ⟨_, rfl⟩
   have ctu := CTU.out
   rw [hTL, hTV, hTP] at ctu ⊢
   have CTU := Lib.hid ctu
   clear hTL hTV hTP ctu
   obtain ⟨W0, hW, y0, bs⟩ := Sx.start2 w [.slice a0 L0 cap0, .int .i64 ver] 24 [.slice none 0 0, .int .i64 0] 24
   have HW := Lib.hid hW
   clear hW
   have q := bs.q
   go_enter Tryz.func60, Tryz.ntmps60
   go_wp2_with fail
   rw [HW.out]
   refine (CA.out _).mono ?_
   rintro e w1 ⟨rfl, hb⟩
   replace bs := bs.ret hb
   replace q := bs.q
   clear hb
   have c_r0 := bs.at 0 0 rfl rfl
   have c_r1 := bs.at 0 1 rfl rfl
   go_wp2_with fail
   clear c_r0 c_r1
   refine (CF.out w1 q).mono ?_
   rintro e w2 ⟨hb, p, rfl, hp, -⟩
   replace bs := bs.ret hb
   replace q := bs.q
   clear hb
   rw [HTH.out]
   have CSP := Lib.hid (fun w' => by have h := CS.out w'; rw [← hp] at h; exact h)
   clear hp
   go_wp2_with fail
   obtain ⟨w3, hw3, y3, al, bs⟩ := bs.alloc (w2.heap.size) rfl [.string ⟨p.1.j.toArray⟩, .string ⟨p.1.n.toArray⟩, gvI p, .bool p.1.s.1, .bool p.1.s.2.1, .bool p.1.s.2.2.1, .bool p.1.s.2.2.2, .bool p.1.k] 31
   clear al
   replace q := bs.q
   rw [hw3]
   refine (CSP.out _).mono ?_
   rintro e w4 ⟨rfl, hb⟩
   replace bs := bs.ret hb
   replace q := bs.q
   clear hb
   have d0 := (bs.lit (w4.heap.size) rfl [.bool sa, .bool sb, .bool sc, .bool sd] 29)
   have c0_r0 := d0.at 0 0 rfl rfl
   have c0_r1 := d0.at 0 1 rfl rfl
   go_wp2_with fail
   clear d0 c0_r0 c0_r1
   obtain ⟨w5, hw5, y5, al, bs⟩ := bs.alloc (w4.heap.size) rfl [.bool sa, .bool sb, .bool sc, .bool sd] 29
   clear al
   replace q := bs.q
   rw [hw5]
   refine (CTU.out w5 q).mono ?_
   rintro e w6 ⟨a2, c2, rfl, K2, hK2, hown, hb⟩
   have o_m := OwnX.mk' bs hown
   replace bs := bs.ret hb
   replace q := bs.q
   clear hb
   clear hown
   have d0 := (bs.lit (w6.heap.size) rfl [.slice a2 TL.length c2, .int .i64 TV] 24)
   have c0_z0 := d0.at 1 0 rfl rfl
   have f0_z0 := d0.fz 1 0 rfl rfl
   have c0_z1 := d0.at 1 1 rfl rfl
   have f0_z1 := d0.fz 1 1 rfl rfl
   go_wp2_with fail
   clear d0 c0_z0 f0_z0 c0_z1 f0_z1
   obtain ⟨w7, hw7, y7, al, bs⟩ := bs.alloc (w6.heap.size) rfl [.slice a2 TL.length c2, .int .i64 TV] 24
   replace o_m := o_m.alloc (w6.heap.size) rfl al
   clear al
   obtain ⟨w8, hw8, y8, bs⟩ := bs.sets 1 0 [.slice a2 TL.length c2, .int .i64 TV] rfl (Nat.le_of_ble_eq_true rfl)
   replace o_m := o_m.sets 1 rfl hw8
   replace q := bs.q
   rw [hw7]
   simp only [World.setCells, Nat.reduceAdd] at hw8
   rw [hw8]
   refine bodyPost_ret (ret_r4 rfl rfl rfl rfl rfl (bs.box 1 rfl)) rfl ⟨a2, c2, rfl, K2, hK2, o_m.own, q⟩
  ·rw [hc] at CTU ⊢
   simp only [if_neg (show ¬ (9 : Int) = 0 by decide)] at CTU ⊢
   have CTU := Lib.hid CTU
   clear hc
   obtain ⟨W0, hW, y0, bs⟩ := Sx.start2 w [.slice a0 L0 cap0, .int .i64 ver] 24 [.slice none 0 0, .int .i64 0] 24
   have HW := Lib.hid hW
   clear hW
   have q := bs.q
   go_enter Tryz.func60, Tryz.ntmps60
   go_wp2_with fail
   rw [HW.out]
   refine (CA.out _).mono ?_
   rintro e w1 ⟨rfl, hb⟩
   replace bs := bs.ret hb
   replace q := bs.q
   clear hb
   have c_r0 := bs.at 0 0 rfl rfl
   have c_r1 := bs.at 0 1 rfl rfl
   go_wp2_with fail
   clear c_r0 c_r1
   refine (CF.out w1 q).mono ?_
   rintro e w2 ⟨hb, p, rfl, hp, -⟩
   replace bs := bs.ret hb
   replace q := bs.q
   clear hb
   rw [HTH.out]
   have CSP := Lib.hid (fun w' => by have h := CS.out w'; rw [← hp] at h; exact h)
   clear hp
   go_wp2_with fail
   obtain ⟨w3, hw3, y3, al, bs⟩ := bs.alloc (w2.heap.size) rfl [.string ⟨p.1.j.toArray⟩, .string ⟨p.1.n.toArray⟩, gvI p, .bool p.1.s.1, .bool p.1.s.2.1, .bool p.1.s.2.2.1, .bool p.1.s.2.2.2, .bool p.1.k] 31
   clear al
   replace q := bs.q
   rw [hw3]
   refine (CSP.out _).mono ?_
   rintro e w4 ⟨rfl, hb⟩
   replace bs := bs.ret hb
   replace q := bs.q
   clear hb
   have d0 := (bs.lit (w4.heap.size) rfl [.bool sa, .bool sb, .bool sc, .bool sd] 29)
   have c0_r0 := d0.at 0 0 rfl rfl
   have c0_r1 := d0.at 0 1 rfl rfl
   go_wp2_with fail
   clear d0 c0_r0 c0_r1
   obtain ⟨w5, hw5, y5, al, bs⟩ := bs.alloc (w4.heap.size) rfl [.bool sa, .bool sb, .bool sc, .bool sd] 29
   clear al
   replace q := bs.q
   rw [hw5]
   refine (CTU.out w5 q).mono ?_
   rintro e w6 ⟨a2, c2, rfl, K2, hK2, hown, hb⟩
   replace bs := bs.ret hb
   replace q := bs.q
   clear hb
   clear hown hK2 K2
   have d0 := (bs.lit (w6.heap.size) rfl [.slice a2 0 c2, .int .i64 0] 24)
   have c0_z0 := d0.at 1 0 rfl rfl
   have f0_z0 := d0.fz 1 0 rfl rfl
   have c0_z1 := d0.at 1 1 rfl rfl
   have f0_z1 := d0.fz 1 1 rfl rfl
   go_wp2_with fail
   clear d0 c0_z0 f0_z0 c0_z1 f0_z1
   obtain ⟨w7, hw7, y7, al, bs⟩ := bs.alloc (w6.heap.size) rfl [.slice a2 0 c2, .int .i64 0] 24
   clear al
   obtain ⟨w8, hw8, y8, bs⟩ := bs.sets 1 0 [.slice none 0 0, .int .i64 0] rfl (Nat.le_of_ble_eq_true rfl)
   replace q := bs.q
   rw [hw7]
   simp only [World.setCells, Nat.reduceAdd] at hw8
   rw [hw8]
   refine bodyPost_ret (ret_r4 rfl rfl rfl rfl rfl (bs.box 1 rfl)) rfl (SendC.zero q)
set_option maxHeartbeats 3000000 in
set_option maxRecDepth 100000 in
theorem r21_Send (v : Value) (ver : Int) (M : List Im) (t : List UInt8) (k : Int) (w : World) (hv : IsItems v M w) (hs : SmallI M) (zt : t.length ≤ 10000) :
  Calls Tryz.prog 30 #[.agg #[v, .int .i64 ver], .string ⟨t.toArray⟩, .int .u8 k] w (SendC w (sendP (M.map Prod.fst) ver t k).1 (sendP (M.map Prod.fst) ver t k).2.1 (sendP (M.map Prod.fst) ver t k).2.2.1 (sendP (M.map Prod.fst) ver t k).2.2.2 (sendC (M.map Prod.fst) ver t k)) := by
 obtain ⟨a0, cap0, hf, -⟩ := hv.form
 obtain ⟨L0, hL⟩ : ∃ L, M.length = L := ⟨_, rfl⟩
 rw [hL] at hf
 subst hf
 have CM := fun (w' : World) (hb : Below w.heap.size w w') => r21_May (.slice a0 L0 cap0) ver M w' (hv.ret hb) hs
 cases hmay : mayR (M.map Prod.fst) ver with
 | false =>
  rw [hmay] at CM
  have CM := Lib.hid CM
  unfold sendP sendC askC
  simp only [hmay, Bool.false_eq_true, if_false, if_neg (show ¬ (8 : Int) = 0 by decide)]
  clear hv hs hmay zt hL
  obtain ⟨W0, hW, y0, bs⟩ := Sx.start2 w [.slice a0 L0 cap0, .int .i64 ver] 24 [.slice none 0 0, .int .i64 0] 24
  have HW := Lib.hid hW
  clear hW
  have q := bs.q
  go_enter Tryz.func30, Tryz.ntmps30
  go_wp2_with fail
  rw [HW.out]
  refine (CM.out W0 q).mono ?_
  rintro e w1 ⟨rfl, hb⟩
  replace bs := bs.ret hb
  replace q := bs.q
  clear hb
  have c_z0 := bs.at 1 0 rfl rfl
  have f_z0 := bs.fz 1 0 rfl rfl
  have c_z1 := bs.at 1 1 rfl rfl
  have f_z1 := bs.fz 1 1 rfl rfl
  go_wp2_with fail
  clear c_z0 f_z0 c_z1 f_z1
  obtain ⟨w2, hw2, y2, bs⟩ := bs.sets 1 0 [.slice none 0 0, .int .i64 0] rfl (Nat.le_of_ble_eq_true rfl)
  replace q := bs.q
  simp only [World.setCells, Nat.reduceAdd] at hw2
  rw [hw2]
  refine bodyPost_ret (ret_r4 rfl rfl rfl rfl rfl (bs.box 1 rfl)) rfl (SendC.zero q)
 | true =>
  rw [hmay] at CM
  have CM := Lib.hid CM
  have CP := fun (w' : World) (hb : Below w.heap.size w w') => r21_Sent (.slice a0 L0 cap0) ver M t k w' (hv.ret hb) hs hmay zt
  generalize (sendP (M.map Prod.fst) ver t k) = R at CP ⊢
  generalize sendC (M.map Prod.fst) ver t k = C at CP ⊢
  obtain ⟨RL, RV, Rg, Rp⟩ := R
  simp only at CP ⊢
  have CP := Lib.hid CP
  clear hv hs hmay zt hL
  obtain ⟨W0, hW, y0, bs⟩ := Sx.start2 w [.slice a0 L0 cap0, .int .i64 ver] 24 [.slice none 0 0, .int .i64 0] 24
  have HW := Lib.hid hW
  clear hW
  have q := bs.q
  go_enter Tryz.func30, Tryz.ntmps30
  go_wp2_with fail
  rw [HW.out]
  refine (CM.out W0 q).mono ?_
  rintro e w1 ⟨rfl, hb⟩
  replace bs := bs.ret hb
  replace q := bs.q
  clear hb
  have c_r0 := bs.at 0 0 rfl rfl
  have c_r1 := bs.at 0 1 rfl rfl
  go_wp2_with fail
  clear c_r0 c_r1
  refine (CP.out w1 q).mono ?_
  rintro e w2 ⟨a2, c2, rfl, K2, hK2, hown, hb⟩
  have o_m := OwnX.mk' bs hown
  replace bs := bs.ret hb
  replace q := bs.q
  clear hb
  clear hown
  have c_z0 := bs.at 1 0 rfl rfl
  have f_z0 := bs.fz 1 0 rfl rfl
  have c_z1 := bs.at 1 1 rfl rfl
  have f_z1 := bs.fz 1 1 rfl rfl
  go_wp2_with fail
  clear c_z0 f_z0 c_z1 f_z1
  obtain ⟨w3, hw3, y3, bs⟩ := bs.sets 1 0 [.slice a2 RL.length c2, .int .i64 RV] rfl (Nat.le_of_ble_eq_true rfl)
  replace o_m := o_m.sets 1 rfl hw3
  replace q := bs.q
  simp only [World.setCells, Nat.reduceAdd] at hw3
  rw [hw3]
  refine bodyPost_ret (ret_r4 rfl rfl rfl rfl rfl (bs.box 1 rfl)) rfl ⟨a2, c2, rfl, K2, hK2, o_m.own, q⟩
set_option maxHeartbeats 3000000 in
set_option maxRecDepth 100000 in
theorem r21_Taken (v : Value) (ver : Int) (M : List Im) (t : List UInt8) (k : Int) (w : World) (hv : IsItems v M w) (hs : SmallI M) (hmay : mayR (M.map Prod.fst) ver = true) (zt : t.length ≤ 10000) :
  Calls Tryz.prog 61 #[.agg #[v, .int .i64 ver], .string ⟨t.toArray⟩, .int .u8 k] w (TakeC w (takeP (M.map Prod.fst) ver t k).1 (takeP (M.map Prod.fst) ver t k).2.1 (takeP (M.map Prod.fst) ver t k).2.2.1 (takeP (M.map Prod.fst) ver t k).2.2.2.1 (takeP (M.map Prod.fst) ver t k).2.2.2.2 (takeC (M.map Prod.fst) ver t k)) := by
 obtain ⟨a0, cap0, hf, -⟩ := hv.form
 obtain ⟨L0, hL⟩ : ∃ L, M.length = L := ⟨_, rfl⟩
 rw [hL] at hf
 subst hf
 obtain ⟨hal, hch, hl16, hv0, hv1⟩ := may_facts21 hmay
 rw [List.length_map, hL] at hl16
 have CA := Lib.hid (fun w' => r21_asked t k w' zt)
 unfold takeP takeC askC
 rw [if_pos hmay]
 obtain ⟨A, hA⟩ : ∃ A, (adrOk t && (decide (1 ≤ k) && decide (k ≤ 4))) = A := ⟨_, rfl⟩
 rw [hA] at CA ⊢
 cases A with
 | false =>
  simp only [Bool.false_eq_true, if_false, if_neg (show ¬ (2 : Int) = 0 by decide)]
  clear hv hs hmay zt hL hal hch hl16 hv0 hv1 hA
  obtain ⟨W0, hW, y0, bs⟩ := Sx.start2 w [.slice a0 L0 cap0, .int .i64 ver] 24 [.slice none 0 0, .int .i64 0] 24
  have HW := Lib.hid hW
  clear hW
  have q := bs.q
  go_enter Tryz.func61, Tryz.ntmps61
  go_wp2_with fail
  rw [HW.out]
  refine (CA.out _).mono ?_
  rintro e w1 ⟨rfl, hb⟩
  replace bs := bs.ret hb
  replace q := bs.q
  clear hb
  have c_z0 := bs.at 1 0 rfl rfl
  have f_z0 := bs.fz 1 0 rfl rfl
  have c_z1 := bs.at 1 1 rfl rfl
  have f_z1 := bs.fz 1 1 rfl rfl
  go_wp2_with fail
  clear c_z0 f_z0 c_z1 f_z1
  obtain ⟨w2, hw2, y2, bs⟩ := bs.sets 1 0 [.slice none 0 0, .int .i64 0] rfl (Nat.le_of_ble_eq_true rfl)
  replace q := bs.q
  simp only [World.setCells, Nat.reduceAdd] at hw2
  rw [hw2]
  refine bodyPost_ret (ret_r5 rfl rfl rfl rfl rfl rfl (bs.box 1 rfl)) rfl (TakeC.zero q)
 | true =>
  simp only [Bool.and_eq_true, decide_eq_true_eq] at hA
  obtain ⟨hA, hk2, hk3⟩ := hA
  simp only [if_true]
  have CF := Lib.hid (fun (w' : World) (hb : Below w.heap.size w w') => r21_FindD (.slice a0 L0 cap0) ver M t w hv (by omega) w' hb)
  have hwm := (was_may (t := t) hmay).1
  have CS := fun w' => r20_Taken_G (wasL (M.map Prod.fst) t).s k w' hwm hk2 hk3
  have hth := find_there (t := t) hch
  have HTH := Lib.hid hth
  have CTU := fun (sa sb sc sd : Bool) (w' : World) (hb : Below w.heap.size w w') => r21_turned (.slice a0 L0 cap0) ver M t sa sb sc sd w' (hv.ret hb) hs hmay hA zt
  generalize hsf : subTake (wasL (M.map Prod.fst) t).s k = sf at CS ⊢
  obtain ⟨⟨sa, sb, sc, sd⟩, goes, back⟩ := sf
  simp only at CS ⊢
  have CTU := CTU sa sb sc sd
  unfold tuP at CTU
  have CS := Lib.hid CS
  clear hv hs hmay zt hL hal hch hl16 hv0 hv1 hwm hth hA hsf
  have hcd : turnC (M.map Prod.fst) t (sa, sb, sc, sd) = 0 ∨ turnC (M.map Prod.fst) t (sa, sb, sc, sd) = 9 := by unfold turnC; split <;> simp
  rcases hcd with hc | hc
  ·rw [hc] at CTU ⊢
   simp only [if_true] at CTU ⊢
   have CTU := Lib.hid CTU
   clear hc
   obtain ⟨TL, hTL⟩ : ∃ TL, turnL (M.map Prod.fst) t (sa, sb, sc, sd) = TL := ⟨_, rfl⟩
   obtain ⟨TV, hTV⟩ : ∃ TV, turnV (M.map Prod.fst) ver t (sa, sb, sc, sd) = TV := ⟨_, rfl⟩
   obtain ⟨TP, hTP⟩ : ∃ TP, turnPush (M.map Prod.fst) t (sa, sb, sc, sd) = TP := ⟨_, rfl⟩
   have ctu := CTU.out
   rw [hTL, hTV, hTP] at ctu ⊢
   have CTU := Lib.hid ctu
   clear hTL hTV hTP ctu
   obtain ⟨W0, hW, y0, bs⟩ := Sx.start2 w [.slice a0 L0 cap0, .int .i64 ver] 24 [.slice none 0 0, .int .i64 0] 24
   have HW := Lib.hid hW
   clear hW
   have q := bs.q
   go_enter Tryz.func61, Tryz.ntmps61
   go_wp2_with fail
   rw [HW.out]
   refine (CA.out _).mono ?_
   rintro e w1 ⟨rfl, hb⟩
   replace bs := bs.ret hb
   replace q := bs.q
   clear hb
   have c_r0 := bs.at 0 0 rfl rfl
   have c_r1 := bs.at 0 1 rfl rfl
   go_wp2_with fail
   clear c_r0 c_r1
   refine (CF.out w1 q).mono ?_
   rintro e w2 ⟨hb, p, rfl, hp, -⟩
   replace bs := bs.ret hb
   replace q := bs.q
   clear hb
   rw [HTH.out]
   have CSP := Lib.hid (fun w' => by have h := CS.out w'; rw [← hp] at h; exact h)
   clear hp
   go_wp2_with fail
   obtain ⟨w3, hw3, y3, al, bs⟩ := bs.alloc (w2.heap.size) rfl [.string ⟨p.1.j.toArray⟩, .string ⟨p.1.n.toArray⟩, gvI p, .bool p.1.s.1, .bool p.1.s.2.1, .bool p.1.s.2.2.1, .bool p.1.s.2.2.2, .bool p.1.k] 31
   clear al
   replace q := bs.q
   rw [hw3]
   refine (CSP.out _).mono ?_
   rintro e w4 ⟨rfl, hb⟩
   replace bs := bs.ret hb
   replace q := bs.q
   clear hb
   have d0 := (bs.lit (w4.heap.size) rfl [.bool sa, .bool sb, .bool sc, .bool sd] 29)
   have c0_r0 := d0.at 0 0 rfl rfl
   have c0_r1 := d0.at 0 1 rfl rfl
   go_wp2_with fail
   clear d0 c0_r0 c0_r1
   obtain ⟨w5, hw5, y5, al, bs⟩ := bs.alloc (w4.heap.size) rfl [.bool sa, .bool sb, .bool sc, .bool sd] 29
   clear al
   replace q := bs.q
   rw [hw5]
   refine (CTU.out w5 q).mono ?_
   rintro e w6 ⟨a2, c2, rfl, K2, hK2, hown, hb⟩
   have o_m := OwnX.mk' bs hown
   replace bs := bs.ret hb
   replace q := bs.q
   clear hb
   clear hown
   have d0 := (bs.lit (w6.heap.size) rfl [.slice a2 TL.length c2, .int .i64 TV] 24)
   have c0_z0 := d0.at 1 0 rfl rfl
   have f0_z0 := d0.fz 1 0 rfl rfl
   have c0_z1 := d0.at 1 1 rfl rfl
   have f0_z1 := d0.fz 1 1 rfl rfl
   go_wp2_with fail
   clear d0 c0_z0 f0_z0 c0_z1 f0_z1
   obtain ⟨w7, hw7, y7, al, bs⟩ := bs.alloc (w6.heap.size) rfl [.slice a2 TL.length c2, .int .i64 TV] 24
   replace o_m := o_m.alloc (w6.heap.size) rfl al
   clear al
   obtain ⟨w8, hw8, y8, bs⟩ := bs.sets 1 0 [.slice a2 TL.length c2, .int .i64 TV] rfl (Nat.le_of_ble_eq_true rfl)
   replace o_m := o_m.sets 1 rfl hw8
   replace q := bs.q
   rw [hw7]
   simp only [World.setCells, Nat.reduceAdd] at hw8
   rw [hw8]
   refine bodyPost_ret (ret_r5 rfl rfl rfl rfl rfl rfl (bs.box 1 rfl)) rfl ⟨a2, c2, rfl, K2, hK2, o_m.own, q⟩
  ·rw [hc] at CTU ⊢
   simp only [if_neg (show ¬ (9 : Int) = 0 by decide)] at CTU ⊢
   have CTU := Lib.hid CTU
   clear hc
   obtain ⟨W0, hW, y0, bs⟩ := Sx.start2 w [.slice a0 L0 cap0, .int .i64 ver] 24 [.slice none 0 0, .int .i64 0] 24
   have HW := Lib.hid hW
   clear hW
   have q := bs.q
   go_enter Tryz.func61, Tryz.ntmps61
   go_wp2_with fail
   rw [HW.out]
   refine (CA.out _).mono ?_
   rintro e w1 ⟨rfl, hb⟩
   replace bs := bs.ret hb
   replace q := bs.q
   clear hb
   have c_r0 := bs.at 0 0 rfl rfl
   have c_r1 := bs.at 0 1 rfl rfl
   go_wp2_with fail
   clear c_r0 c_r1
   refine (CF.out w1 q).mono ?_
   rintro e w2 ⟨hb, p, rfl, hp, -⟩
   replace bs := bs.ret hb
   replace q := bs.q
   clear hb
   rw [HTH.out]
   have CSP := Lib.hid (fun w' => by have h := CS.out w'; rw [← hp] at h; exact h)
   clear hp
   go_wp2_with fail
   obtain ⟨w3, hw3, y3, al, bs⟩ := bs.alloc (w2.heap.size) rfl [.string ⟨p.1.j.toArray⟩, .string ⟨p.1.n.toArray⟩, gvI p, .bool p.1.s.1, .bool p.1.s.2.1, .bool p.1.s.2.2.1, .bool p.1.s.2.2.2, .bool p.1.k] 31
   clear al
   replace q := bs.q
   rw [hw3]
   refine (CSP.out _).mono ?_
   rintro e w4 ⟨rfl, hb⟩
   replace bs := bs.ret hb
   replace q := bs.q
   clear hb
   have d0 := (bs.lit (w4.heap.size) rfl [.bool sa, .bool sb, .bool sc, .bool sd] 29)
   have c0_r0 := d0.at 0 0 rfl rfl
   have c0_r1 := d0.at 0 1 rfl rfl
   go_wp2_with fail
   clear d0 c0_r0 c0_r1
   obtain ⟨w5, hw5, y5, al, bs⟩ := bs.alloc (w4.heap.size) rfl [.bool sa, .bool sb, .bool sc, .bool sd] 29
   clear al
   replace q := bs.q
   rw [hw5]
   refine (CTU.out w5 q).mono ?_
   rintro e w6 ⟨a2, c2, rfl, K2, hK2, hown, hb⟩
   replace bs := bs.ret hb
   replace q := bs.q
   clear hb
   clear hown hK2 K2
   have d0 := (bs.lit (w6.heap.size) rfl [.slice a2 0 c2, .int .i64 0] 24)
   have c0_z0 := d0.at 1 0 rfl rfl
   have f0_z0 := d0.fz 1 0 rfl rfl
   have c0_z1 := d0.at 1 1 rfl rfl
   have f0_z1 := d0.fz 1 1 rfl rfl
   go_wp2_with fail
   clear d0 c0_z0 f0_z0 c0_z1 f0_z1
   obtain ⟨w7, hw7, y7, al, bs⟩ := bs.alloc (w6.heap.size) rfl [.slice a2 0 c2, .int .i64 0] 24
   clear al
   obtain ⟨w8, hw8, y8, bs⟩ := bs.sets 1 0 [.slice none 0 0, .int .i64 0] rfl (Nat.le_of_ble_eq_true rfl)
   replace q := bs.q
   rw [hw7]
   simp only [World.setCells, Nat.reduceAdd] at hw8
   rw [hw8]
   refine bodyPost_ret (ret_r5 rfl rfl rfl rfl rfl rfl (bs.box 1 rfl)) rfl (TakeC.zero q)
set_option maxHeartbeats 3000000 in
set_option maxRecDepth 100000 in
theorem r21_Take (v : Value) (ver : Int) (M : List Im) (t : List UInt8) (k : Int) (w : World) (hv : IsItems v M w) (hs : SmallI M) (zt : t.length ≤ 10000) :
  Calls Tryz.prog 31 #[.agg #[v, .int .i64 ver], .string ⟨t.toArray⟩, .int .u8 k] w (TakeC w (takeP (M.map Prod.fst) ver t k).1 (takeP (M.map Prod.fst) ver t k).2.1 (takeP (M.map Prod.fst) ver t k).2.2.1 (takeP (M.map Prod.fst) ver t k).2.2.2.1 (takeP (M.map Prod.fst) ver t k).2.2.2.2 (takeC (M.map Prod.fst) ver t k)) := by
 obtain ⟨a0, cap0, hf, -⟩ := hv.form
 obtain ⟨L0, hL⟩ : ∃ L, M.length = L := ⟨_, rfl⟩
 rw [hL] at hf
 subst hf
 have CM := fun (w' : World) (hb : Below w.heap.size w w') => r21_May (.slice a0 L0 cap0) ver M w' (hv.ret hb) hs
 cases hmay : mayR (M.map Prod.fst) ver with
 | false =>
  rw [hmay] at CM
  have CM := Lib.hid CM
  unfold takeP takeC askC
  simp only [hmay, Bool.false_eq_true, if_false, if_neg (show ¬ (8 : Int) = 0 by decide)]
  clear hv hs hmay zt hL
  obtain ⟨W0, hW, y0, bs⟩ := Sx.start2 w [.slice a0 L0 cap0, .int .i64 ver] 24 [.slice none 0 0, .int .i64 0] 24
  have HW := Lib.hid hW
  clear hW
  have q := bs.q
  go_enter Tryz.func31, Tryz.ntmps31
  go_wp2_with fail
  rw [HW.out]
  refine (CM.out W0 q).mono ?_
  rintro e w1 ⟨rfl, hb⟩
  replace bs := bs.ret hb
  replace q := bs.q
  clear hb
  have c_z0 := bs.at 1 0 rfl rfl
  have f_z0 := bs.fz 1 0 rfl rfl
  have c_z1 := bs.at 1 1 rfl rfl
  have f_z1 := bs.fz 1 1 rfl rfl
  go_wp2_with fail
  clear c_z0 f_z0 c_z1 f_z1
  obtain ⟨w2, hw2, y2, bs⟩ := bs.sets 1 0 [.slice none 0 0, .int .i64 0] rfl (Nat.le_of_ble_eq_true rfl)
  replace q := bs.q
  simp only [World.setCells, Nat.reduceAdd] at hw2
  rw [hw2]
  refine bodyPost_ret (ret_r5 rfl rfl rfl rfl rfl rfl (bs.box 1 rfl)) rfl (TakeC.zero q)
 | true =>
  rw [hmay] at CM
  have CM := Lib.hid CM
  have CP := fun (w' : World) (hb : Below w.heap.size w w') => r21_Taken (.slice a0 L0 cap0) ver M t k w' (hv.ret hb) hs hmay zt
  generalize (takeP (M.map Prod.fst) ver t k) = R at CP ⊢
  generalize takeC (M.map Prod.fst) ver t k = C at CP ⊢
  obtain ⟨RL, RV, Rg, Rb, Rp⟩ := R
  simp only at CP ⊢
  have CP := Lib.hid CP
  clear hv hs hmay zt hL
  obtain ⟨W0, hW, y0, bs⟩ := Sx.start2 w [.slice a0 L0 cap0, .int .i64 ver] 24 [.slice none 0 0, .int .i64 0] 24
  have HW := Lib.hid hW
  clear hW
  have q := bs.q
  go_enter Tryz.func31, Tryz.ntmps31
  go_wp2_with fail
  rw [HW.out]
  refine (CM.out W0 q).mono ?_
  rintro e w1 ⟨rfl, hb⟩
  replace bs := bs.ret hb
  replace q := bs.q
  clear hb
  have c_r0 := bs.at 0 0 rfl rfl
  have c_r1 := bs.at 0 1 rfl rfl
  go_wp2_with fail
  clear c_r0 c_r1
  refine (CP.out w1 q).mono ?_
  rintro e w2 ⟨a2, c2, rfl, K2, hK2, hown, hb⟩
  have o_m := OwnX.mk' bs hown
  replace bs := bs.ret hb
  replace q := bs.q
  clear hb
  clear hown
  have c_z0 := bs.at 1 0 rfl rfl
  have f_z0 := bs.fz 1 0 rfl rfl
  have c_z1 := bs.at 1 1 rfl rfl
  have f_z1 := bs.fz 1 1 rfl rfl
  go_wp2_with fail
  clear c_z0 f_z0 c_z1 f_z1
  obtain ⟨w3, hw3, y3, bs⟩ := bs.sets 1 0 [.slice a2 RL.length c2, .int .i64 RV] rfl (Nat.le_of_ble_eq_true rfl)
  replace o_m := o_m.sets 1 rfl hw3
  replace q := bs.q
  simp only [World.setCells, Nat.reduceAdd] at hw3
  rw [hw3]
  refine bodyPost_ret (ret_r5 rfl rfl rfl rfl rfl rfl (bs.box 1 rfl)) rfl ⟨a2, c2, rfl, K2, hK2, o_m.own, q⟩
end Go.Proofs.YtfonkblbgadhmaaGreatDoor
