import Derived.Test.YtjgeiieiinmdnaaGreatDoorHbB
namespace Go.Proofs.YtjgeiieiinmdnaaGreatDoor
open Go.RowKit Go.Lib
set_option maxHeartbeats 4000000 in
set_option maxRecDepth 100000 in
theorem l24_hbinds (c : CoI) (O Rs : ByteArray) (w : World) (hs : c.sub w) (hq : ∀ r ∈ c.R, QR r) (hm : ML w) (ht : Tab w) : Calls Tryz.prog 7 #[c.v, .string O, .string Rs] w (Ret w (.bool true)) := by
 have AL := fun (W : World) (hb : Below w.heap.size w W) => l24_alive W (hm.ret hb) (ht.ret hb)
 have CG := fun (W : World) (hb : Below w.heap.size w W) => r24_Great c W (hs.ret hb)
 have FT := fun (h : CoSm c.d) => h.fit hq
 have CB := fun (W : World) (hb : Below w.heap.size w W) (hf : CoFitD c.d) (hO : O.size ≤ 4000) (hR : Rs.size ≤ 4000) => ha_Bind spaceF c O Rs W (hf.fit (hs.ret hb)) hO hR (hm.ret hb) (ht.ret hb)
 have CW := fun (W : World) (hb : Below w.heap.size w W) (hf : CoFitD c.d) (s : List UInt8) => ha_Who c s W (hs.ret hb).2 hf.zR' (fun r hr => (hf.rs' r hr).tw)
 have CS := fun (W : World) (hb : Below w.heap.size w W) (Y : CoI) (hY : Y.sub W) (hf : CoFitD c.d) (e : Y.d = c.d) => ha_Same Y c W hY (hs.ret hb) (CoFitD.eq (by rw [e]; exact hf)) hf.eq
 have HML := Lib.hid hm
 obtain ⟨D, hD⟩ : ∃ D, c.d = D := ⟨_, rfl⟩
 have e1 : c.R.map RsI.d = D.2.1 := by rw [← hD]
 simp only [e1] at CW
 obtain ⟨a1, ha1⟩ : ∃ x, c.aa.1 = x := ⟨_, rfl⟩
 obtain ⟨b1, hb1⟩ : ∃ x, c.aa.2 = x := ⟨_, rfl⟩
 obtain ⟨LA1, hLA1⟩ : ∃ x, c.A.length = x := ⟨_, rfl⟩
 obtain ⟨r1, hr1⟩ : ∃ x, c.ra.1 = x := ⟨_, rfl⟩
 obtain ⟨s1, hs1⟩ : ∃ x, c.ra.2 = x := ⟨_, rfl⟩
 obtain ⟨LR1, hLR1⟩ : ∃ x, c.R.length = x := ⟨_, rfl⟩
 obtain ⟨m1, hm1⟩ : ∃ x, c.m = x := ⟨_, rfl⟩
 have e_c : c.v = .agg #[.slice a1 LA1 b1, .slice r1 LR1 s1, .int .i64 m1] := by rw [← ha1, ← hb1, ← hLA1, ← hr1, ← hs1, ← hLR1, ← hm1]
 simp only [e_c] at CG CB CW CS ⊢
 rw [hD] at CG FT CB CW CS
 have hLD : D.2.1.length = LR1 := by rw [← e1, ← hLR1, List.length_map]
 have hmD : D.2.2 = m1 := by rw [← hD, ← hm1]
 clear hs hq hm ht e1 e_c hD ha1 hb1 hLA1 hr1 hs1 hLR1 hm1
 replace AL := Lib.hid AL
 replace CG := Lib.hid CG
 replace FT := Lib.hid FT
 replace CB := Lib.hid CB
 replace CW := Lib.hid CW
 replace CS := Lib.hid CS
 replace hLD := Lib.hid hLD
 replace hmD := Lib.hid hmD
 obtain ⟨W0, hW, y0, bs⟩ := Sx.start1 w [.slice a1 LA1 b1, .slice r1 LR1 s1, .int .i64 m1] 25
 have HW := Lib.hid hW
 clear hW
 have q := bs.q
 go_enter Tryz.func7, Tryz.ntmps7
 go_wp2_with fail
 rw [HW.out]
 refine (AL.out W0 q).mono ?_
 rintro e w1 ⟨rfl, hb⟩
 replace bs := bs.ret hb
 replace q := bs.q
 clear hb
 have CG1 := CG.out w1 q
 replace CG1 := Lib.hid CG1
 have c_c0 := bs.at 0 0 rfl rfl
 have c_c1 := bs.at 0 1 rfl rfl
 have c_c2 := bs.at 0 2 rfl rfl
 go_wp2_with fail
 refine (CG1.out).mono ?_
 rintro e w2 ⟨g, rfl, hg, hb⟩
 clear c_c0 c_c1 c_c2
 replace bs := bs.ret hb
 replace q := bs.q
 clear hb
 clear CG1
 cases g with
 | true =>
  have c_c0 := bs.at 0 0 rfl rfl
  have c_c1 := bs.at 0 1 rfl rfl
  have c_c2 := bs.at 0 2 rfl rfl
  go_wp2_with fail
  clear c_c0 c_c1 c_c2
  go_ret
  exact ⟨rfl, q⟩
 | false =>
  have hf := FT.out (hg rfl)
  have HF := Lib.hid hf
  clear hf hg
  by_cases h1 : (300 : Int) < (O.size : Int)
  ·have h1d : decide ((300 : Int) < (O.size : Int)) = true := decide_eq_true h1
   have c_c0 := bs.at 0 0 rfl rfl
   have c_c1 := bs.at 0 1 rfl rfl
   have c_c2 := bs.at 0 2 rfl rfl
   go_wp2_with fail
   clear c_c0 c_c1 c_c2
   go_ret
   exact ⟨rfl, q⟩
  ·have h1d : decide ((300 : Int) < (O.size : Int)) = false := decide_eq_false h1
   by_cases h2 : (300 : Int) < (Rs.size : Int)
   ·have h2d : decide ((300 : Int) < (Rs.size : Int)) = true := decide_eq_true h2
    have c_c0 := bs.at 0 0 rfl rfl
    have c_c1 := bs.at 0 1 rfl rfl
    have c_c2 := bs.at 0 2 rfl rfl
    go_wp2_with fail
    clear c_c0 c_c1 c_c2
    go_ret
    exact ⟨rfl, q⟩
   ·have h2d : decide ((300 : Int) < (Rs.size : Int)) = false := decide_eq_false h2
    have CB1 := fun (W : World) (hb : Below w.heap.size w W) => CB.out W hb HF.out (by omega) (by omega)
    have hfx : CoFitD (bindF spaceF D O.data.toList Rs.data.toList).1 := HF.out.bind (by rw [size_toList]; omega)
    have hno := @bind_not spaceF D O.data.toList Rs.data.toList
    have hlaw := @bind_law spaceF D O.data.toList Rs.data.toList
    obtain ⟨B, hB⟩ : ∃ B, bindF spaceF D O.data.toList Rs.data.toList = B := ⟨_, rfl⟩
    simp only [hB] at CB1 hfx hno hlaw
    obtain ⟨XD, fl, er⟩ := B
    simp only at hfx hno hlaw
    clear hB
    replace CB1 := Lib.hid CB1
    replace hfx := Lib.hid hfx
    replace hno := Lib.hid hno
    replace hlaw := Lib.hid hlaw
    by_cases he : er = 0
    ·obtain ⟨s, hfl, hfi, hnf, hcx, hlen, hsn, hfr, hmm, hnm⟩ := hlaw.out he
     subst he
     subst hfl
     clear hno hlaw
     replace hfi := Lib.hid hfi
     replace hnf := Lib.hid hnf
     replace hcx := Lib.hid hcx
     replace hlen := Lib.hid hlen
     replace hfr := Lib.hid hfr
     replace hmm := Lib.hid hmm
     replace hnm := Lib.hid hnm
     replace hsn := Lib.hid hsn
     obtain ⟨fb, hfb⟩ : ∃ b, ByteArray.mk (O.data.toList ++ 47 :: s).toArray = b := ⟨_, rfl⟩
     have HFB := Lib.hid hfb
     clear hfb
     have HC := CB1.out w2 q
     replace HC := Lib.hid HC
     have c_c0 := bs.at 0 0 rfl rfl
     have c_c1 := bs.at 0 1 rfl rfl
     have c_c2 := bs.at 0 2 rfl rfl
     go_wp2_with fail
     refine HC.out.mono ?_
     rintro e w3 ⟨X2, rfl, hd, ho, hb⟩
     clear c_c0 c_c1 c_c2
     have o_c2 := OwC.mk' bs ho
     clear ho HC
     replace bs := bs.ret hb
     replace q := bs.q
     clear hb
     have HD2 := Lib.hid hd
     clear hd
     obtain ⟨a2, ha2⟩ : ∃ x, X2.aa.1 = x := ⟨_, rfl⟩
     obtain ⟨b2, hb2⟩ : ∃ x, X2.aa.2 = x := ⟨_, rfl⟩
     obtain ⟨LA2, hLA2⟩ : ∃ x, X2.A.length = x := ⟨_, rfl⟩
     obtain ⟨r2, hr2⟩ : ∃ x, X2.ra.1 = x := ⟨_, rfl⟩
     obtain ⟨s2, hs2⟩ : ∃ x, X2.ra.2 = x := ⟨_, rfl⟩
     obtain ⟨LR2, hLR2⟩ : ∃ x, X2.R.length = x := ⟨_, rfl⟩
     obtain ⟨m2, hm2⟩ : ∃ x, X2.m = x := ⟨_, rfl⟩
     have e_X2 : X2.v = .agg #[.slice a2 LA2 b2, .slice r2 LR2 s2, .int .i64 m2] := by rw [← ha2, ← hb2, ← hLA2, ← hr2, ← hs2, ← hLR2, ← hm2]
     rw [e_X2]
     replace ha2 := Lib.hid ha2
     replace hb2 := Lib.hid hb2
     replace hLA2 := Lib.hid hLA2
     replace hr2 := Lib.hid hr2
     replace hs2 := Lib.hid hs2
     replace hLR2 := Lib.hid hLR2
     replace hm2 := Lib.hid hm2
     replace e_X2 := Lib.hid e_X2
     simp only [HFB.out]
     have FX : CoFitD X2.d := by rw [HD2.out]; exact hfx.out
     have FX := Lib.hid FX
     have eR : X2.R.map RsI.d = XD.2.1 := congrArg (fun d : Co => d.2.1) HD2.out
     have ER := Lib.hid eR
     have hl2 : LR2 = LR1 + 1 := by rw [← hLR2.out, ← hLD.out, ← hlen.out, ← eR, List.length_map]
     have hm2 : m1 ≤ m2 := by rw [← hmD.out, ← hm2.out]; have := congrArg (fun d : Co => d.2.2) HD2.out; simp only at this; rw [this]; exact hmm.out
     have HM2 := Lib.hid hm2
     have HL2 := Lib.hid hl2
     clear eR hm2 hl2
     have c_c0 := bs.at 0 0 rfl rfl
     have c_c1 := bs.at 0 1 rfl rfl
     have c_c2 := bs.at 0 2 rfl rfl
     have d0 := (bs.lit (w3.heap.size) rfl [.slice a2 LA2 b2, .slice r2 LR2 s2, .int .i64 m2] 25)
     have c0_n00 := d0.at 1 0 rfl rfl
     have c0_n01 := d0.at 1 1 rfl rfl
     have c0_n02 := d0.at 1 2 rfl rfl
     have c0_c0 := d0.at 0 0 rfl rfl
     have c0_c1 := d0.at 0 1 rfl rfl
     have c0_c2 := d0.at 0 2 rfl rfl
     go_wp2_with fail
     clear c_c0 c_c1 c_c2 d0 c0_n00 c0_n01 c0_n02 c0_c0 c0_c1 c0_c2
     obtain ⟨w4, hw4, y4, al, bs⟩ := bs.alloc (w3.heap.size) rfl [.slice a2 LA2 b2, .slice r2 LR2 s2, .int .i64 m2] 25
     replace o_c2 := o_c2.alloc (w3.heap.size) rfl al
     clear al
     replace q := bs.q
     rw [hw4]
     have HC := who_some (ha_Who X2 (O.data.toList ++ 47 :: s) w4 o_c2.csub.2 FX.out.zR' (fun r hr => (FX.out.rs' r hr).tw)) (by rw [ER.out]; exact hfi.out)
     rw [e_X2.out, HFB.out] at HC
     replace HC := Lib.hid HC
     have c_x0 := bs.at 1 0 rfl rfl
     have c_x1 := bs.at 1 1 rfl rfl
     have c_x2 := bs.at 1 2 rfl rfl
     have c_c0 := bs.at 0 0 rfl rfl
     have c_c1 := bs.at 0 1 rfl rfl
     have c_c2 := bs.at 0 2 rfl rfl
     go_wp2_with fail
     refine HC.out.mono ?_
     rintro e w5 ⟨Y3, rfl, hd, ho, hb⟩
     clear c_x0 c_x1 c_x2 c_c0 c_c1 c_c2
     have o_l3 := OwZ.mk' bs ho.1
     have o_s3 := OwX.mk' bs (ho.2.owns (fun g hg => hg))
     clear ho HC
     replace o_c2 := o_c2.ret hb
     replace bs := bs.ret hb
     replace q := bs.q
     clear hb
     have HY3 := Lib.hid hd
     clear hd
     obtain ⟨on3, hon3⟩ : ∃ x, Y3.on = x := ⟨_, rfl⟩
     obtain ⟨pr3, hpr3⟩ : ∃ x, Y3.pr = x := ⟨_, rfl⟩
     obtain ⟨la3, hla3⟩ : ∃ x, Y3.la.1 = x := ⟨_, rfl⟩
     obtain ⟨lb3, hlb3⟩ : ∃ x, Y3.la.2 = x := ⟨_, rfl⟩
     obtain ⟨LL3, hLL3⟩ : ∃ x, Y3.ld.length = x := ⟨_, rfl⟩
     obtain ⟨ask3, hask3⟩ : ∃ x, Y3.ask = x := ⟨_, rfl⟩
     obtain ⟨sa3, hsa3⟩ : ∃ x, Y3.sa.1 = x := ⟨_, rfl⟩
     obtain ⟨sb3, hsb3⟩ : ∃ x, Y3.sa.2 = x := ⟨_, rfl⟩
     obtain ⟨SL3, hSL3⟩ : ∃ x, Y3.st.length = x := ⟨_, rfl⟩
     obtain ⟨jb3, hjb3⟩ : ∃ b, ByteArray.mk Y3.j.toArray = b := ⟨_, rfl⟩
     have e_Y3 : Y3.v = .agg #[.string jb3, .bool on3, .int .i64 pr3, .slice la3 LL3 lb3, .bool ask3, .slice sa3 SL3 sb3] := by rw [← hon3, ← hpr3, ← hla3, ← hlb3, ← hLL3, ← hask3, ← hsa3, ← hsb3, ← hSL3, ← hjb3]
     rw [e_Y3]
     replace hon3 := Lib.hid hon3
     replace hpr3 := Lib.hid hpr3
     replace hla3 := Lib.hid hla3
     replace hlb3 := Lib.hid hlb3
     replace hLL3 := Lib.hid hLL3
     replace hask3 := Lib.hid hask3
     replace hsa3 := Lib.hid hsa3
     replace hsb3 := Lib.hid hsb3
     replace hSL3 := Lib.hid hSL3
     replace hjb3 := Lib.hid hjb3
     replace e_Y3 := Lib.hid e_Y3
     have c_x0 := bs.at 1 0 rfl rfl
     have c_x1 := bs.at 1 1 rfl rfl
     have c_x2 := bs.at 1 2 rfl rfl
     have c_c0 := bs.at 0 0 rfl rfl
     have c_c1 := bs.at 0 1 rfl rfl
     have c_c2 := bs.at 0 2 rfl rfl
     have d0 := (bs.lit (w5.heap.size) rfl [.string jb3, .bool on3, .int .i64 pr3, .slice la3 LL3 lb3, .bool ask3, .slice sa3 SL3 sb3] 38)
     have c0_n00 := d0.at 2 0 rfl rfl
     have c0_n01 := d0.at 2 1 rfl rfl
     have c0_n02 := d0.at 2 2 rfl rfl
     have c0_n03 := d0.at 2 3 rfl rfl
     have c0_n04 := d0.at 2 4 rfl rfl
     have c0_n05 := d0.at 2 5 rfl rfl
     have c0_x0 := d0.at 1 0 rfl rfl
     have c0_x1 := d0.at 1 1 rfl rfl
     have c0_x2 := d0.at 1 2 rfl rfl
     have c0_c0 := d0.at 0 0 rfl rfl
     have c0_c1 := d0.at 0 1 rfl rfl
     have c0_c2 := d0.at 0 2 rfl rfl
     go_wp2_with fail
     clear c_x0 c_x1 c_x2 c_c0 c_c1 c_c2 d0 c0_n00 c0_n01 c0_n02 c0_n03 c0_n04 c0_n05 c0_x0 c0_x1 c0_x2 c0_c0 c0_c1 c0_c2
     obtain ⟨w6, hw6, y6, al, bs⟩ := bs.alloc (w5.heap.size) rfl [.string jb3, .bool on3, .int .i64 pr3, .slice la3 LL3 lb3, .bool ask3, .slice sa3 SL3 sb3] 38
     replace o_c2 := o_c2.alloc (w5.heap.size) rfl al
     replace o_l3 := o_l3.alloc (w5.heap.size) rfl al
     replace o_s3 := o_s3.alloc (w5.heap.size) rfl al
     clear al
     replace q := bs.q
     rw [hw6]
     have HC := who_none (CW.out w6 q HF.out (O.data.toList ++ 47 :: s)) hnf.out
     rw [HFB.out] at HC
     replace HC := Lib.hid HC
     have c_x0 := bs.at 1 0 rfl rfl
     have c_x1 := bs.at 1 1 rfl rfl
     have c_x2 := bs.at 1 2 rfl rfl
     have c_c0 := bs.at 0 0 rfl rfl
     have c_c1 := bs.at 0 1 rfl rfl
     have c_c2 := bs.at 0 2 rfl rfl
     go_wp2_with fail
     refine HC.out.mono ?_
     rintro e w7 ⟨Y4, rfl, hd, ho, hb⟩
     clear c_x0 c_x1 c_x2 c_c0 c_c1 c_c2
     have o_l4 := OwZ.mk' bs ho.1
     have o_s4 := OwX.mk' bs (ho.2.owns (fun g hg => hg))
     clear ho HC
     replace o_c2 := o_c2.ret hb
     replace o_l3 := o_l3.ret hb
     replace o_s3 := o_s3.ret hb
     replace bs := bs.ret hb
     replace q := bs.q
     clear hb
     have HY4 := Lib.hid hd
     clear hd
     obtain ⟨on4, hon4⟩ : ∃ x, Y4.on = x := ⟨_, rfl⟩
     obtain ⟨pr4, hpr4⟩ : ∃ x, Y4.pr = x := ⟨_, rfl⟩
     obtain ⟨la4, hla4⟩ : ∃ x, Y4.la.1 = x := ⟨_, rfl⟩
     obtain ⟨lb4, hlb4⟩ : ∃ x, Y4.la.2 = x := ⟨_, rfl⟩
     obtain ⟨LL4, hLL4⟩ : ∃ x, Y4.ld.length = x := ⟨_, rfl⟩
     obtain ⟨ask4, hask4⟩ : ∃ x, Y4.ask = x := ⟨_, rfl⟩
     obtain ⟨sa4, hsa4⟩ : ∃ x, Y4.sa.1 = x := ⟨_, rfl⟩
     obtain ⟨sb4, hsb4⟩ : ∃ x, Y4.sa.2 = x := ⟨_, rfl⟩
     obtain ⟨SL4, hSL4⟩ : ∃ x, Y4.st.length = x := ⟨_, rfl⟩
     obtain ⟨jb4, hjb4⟩ : ∃ b, ByteArray.mk Y4.j.toArray = b := ⟨_, rfl⟩
     have e_Y4 : Y4.v = .agg #[.string jb4, .bool on4, .int .i64 pr4, .slice la4 LL4 lb4, .bool ask4, .slice sa4 SL4 sb4] := by rw [← hon4, ← hpr4, ← hla4, ← hlb4, ← hLL4, ← hask4, ← hsa4, ← hsb4, ← hSL4, ← hjb4]
     rw [e_Y4]
     replace hon4 := Lib.hid hon4
     replace hpr4 := Lib.hid hpr4
     replace hla4 := Lib.hid hla4
     replace hlb4 := Lib.hid hlb4
     replace hLL4 := Lib.hid hLL4
     replace hask4 := Lib.hid hask4
     replace hsa4 := Lib.hid hsa4
     replace hsb4 := Lib.hid hsb4
     replace hSL4 := Lib.hid hSL4
     replace hjb4 := Lib.hid hjb4
     replace e_Y4 := Lib.hid e_Y4
     have c_x0 := bs.at 1 0 rfl rfl
     have c_x1 := bs.at 1 1 rfl rfl
     have c_x2 := bs.at 1 2 rfl rfl
     have c_c0 := bs.at 0 0 rfl rfl
     have c_c1 := bs.at 0 1 rfl rfl
     have c_c2 := bs.at 0 2 rfl rfl
     have d0 := (bs.lit (w7.heap.size) rfl [.string jb4, .bool on4, .int .i64 pr4, .slice la4 LL4 lb4, .bool ask4, .slice sa4 SL4 sb4] 38)
     have c0_n00 := d0.at 3 0 rfl rfl
     have c0_n01 := d0.at 3 1 rfl rfl
     have c0_n02 := d0.at 3 2 rfl rfl
     have c0_n03 := d0.at 3 3 rfl rfl
     have c0_n04 := d0.at 3 4 rfl rfl
     have c0_n05 := d0.at 3 5 rfl rfl
     have c0_x0 := d0.at 1 0 rfl rfl
     have c0_x1 := d0.at 1 1 rfl rfl
     have c0_x2 := d0.at 1 2 rfl rfl
     have c0_c0 := d0.at 0 0 rfl rfl
     have c0_c1 := d0.at 0 1 rfl rfl
     have c0_c2 := d0.at 0 2 rfl rfl
     go_wp2_with fail
     clear c_x0 c_x1 c_x2 c_c0 c_c1 c_c2 d0 c0_n00 c0_n01 c0_n02 c0_n03 c0_n04 c0_n05 c0_x0 c0_x1 c0_x2 c0_c0 c0_c1 c0_c2
     obtain ⟨w8, hw8, y8, al, bs⟩ := bs.alloc (w7.heap.size) rfl [.string jb4, .bool on4, .int .i64 pr4, .slice la4 LL4 lb4, .bool ask4, .slice sa4 SL4 sb4] 38
     replace o_c2 := o_c2.alloc (w7.heap.size) rfl al
     replace o_l3 := o_l3.alloc (w7.heap.size) rfl al
     replace o_s3 := o_s3.alloc (w7.heap.size) rfl al
     replace o_l4 := o_l4.alloc (w7.heap.size) rfl al
     replace o_s4 := o_s4.alloc (w7.heap.size) rfl al
     clear al
     replace q := bs.q
     rw [hw8]
     have hsz : fb.size = O.size + 1 + s.length := by rw [← HFB.out]; show (O.data.toList ++ 47 :: s).toArray.size = _; simp; omega
     have hs1 : 1 ≤ s.length := by have := hsn.out; cases s with | nil => exact absurd rfl this | cons _ _ => simp
     have hlR : LR1 ≤ 1000 := by rw [← hLD.out]; exact HF.out.zR
     have hlb : ((LR2 : Int) != (LR1 : Int) + 1) = false := by rw [HL2.out]; simp
     have hle : decide ((fb.size : Int) ≤ (O.size : Int) + 1) = false := decide_eq_false (by omega)
     have hx : fb.extract 0 (O.size + 1) = O ++ ⟨#[47]⟩ := by rw [← HFB.out]; exact bytes_app O s
     obtain ⟨pre, hpre⟩ : ∃ p, O ++ (⟨#[47]⟩ : ByteArray) = p := ⟨_, rfl⟩
     rw [hpre] at hx
     have hnp : (pre.toList != pre.toList) = false := by simp
     have w9 : ¬ 9223372036854775807 < O.size + 1 := by omega
     have wz : (O.size : Int) + 1 ≤ (fb.size : Int) := by omega
     have wt : ((O.size : Int) + 1).toNat = O.size + 1 := by omega
     have HSZ := Lib.hid hsz
     have HS1 := Lib.hid hs1
     clear hsz hs1
     have CK : Calls Tryz.prog 30 #[.agg #[.slice a2 LA2 b2, .slice r2 LR2 s2, .int .i64 m2]] w8 (Ret w8 (.int .i64 0)) := by have h := ha_Check spaceF X2 w8 (FX.out.fit o_c2.csub) (HML.out.ret q); rw [HD2.out, hcx.out, e_X2.out] at h; exact h
     replace CK := Lib.hid CK
     have c_x0 := bs.at 1 0 rfl rfl
     have c_x1 := bs.at 1 1 rfl rfl
     have c_x2 := bs.at 1 2 rfl rfl
     have c_c0 := bs.at 0 0 rfl rfl
     have c_c1 := bs.at 0 1 rfl rfl
     have c_c2 := bs.at 0 2 rfl rfl
     have c_r0 := bs.at 2 0 rfl rfl
     have c_r1 := bs.at 2 1 rfl rfl
     have c_r2 := bs.at 2 2 rfl rfl
     have c_r3 := bs.at 2 3 rfl rfl
     have c_r4 := bs.at 2 4 rfl rfl
     have c_r5 := bs.at 2 5 rfl rfl
     go_wp2_with fail
     refine (CK.out).mono ?_
     rintro e w9 ⟨rfl, hb⟩
     clear c_x0 c_x1 c_x2 c_c0 c_c1 c_c2 c_r0 c_r1 c_r2 c_r3 c_r4 c_r5
     replace o_c2 := o_c2.ret hb
     replace o_l3 := o_l3.ret hb
     replace o_s3 := o_s3.ret hb
     replace o_l4 := o_l4.ret hb
     replace o_s4 := o_s4.ret hb
     replace bs := bs.ret hb
     replace q := bs.q
     clear hb
     clear CK
     have CR : Calls Tryz.prog 19 #[.agg #[.string jb3, .bool on3, .int .i64 pr3, .slice la3 LL3 lb3, .bool ask3, .slice sa3 SL3 sb3], .agg #[.string fb, .bool false, .int .i64 0, .slice none 0 0, .bool false, .slice none 0 0]] w9 (Ret w9 (.bool true)) := by have h := r24_SameRes Y3 ⟨(O.data.toList ++ 47 :: s), false, 0, [], (none, 0), false, [], (none, 0)⟩ w9 (own_sub o_l3 o_s3) ⟨IsL.nil _ _, IsGrp.nil _⟩ (ReFit.eq (by rw [HY3.out]; exact FX.out.rs _ (by rw [HD2.out]; exact (find_someG hfi.out).1))) ⟨Nat.zero_le _, Nat.zero_le _, (fun _ h => by cases h)⟩; rw [decide_eq_true (show Y3.d = RsI.d ⟨(O.data.toList ++ 47 :: s), false, 0, [], (none, 0), false, [], (none, 0)⟩ from HY3.out), e_Y3.out] at h; simp only [RsI.v, HFB.out] at h; exact h
     replace CR := Lib.hid CR
     have c_x0 := bs.at 1 0 rfl rfl
     have c_x1 := bs.at 1 1 rfl rfl
     have c_x2 := bs.at 1 2 rfl rfl
     have c_c0 := bs.at 0 0 rfl rfl
     have c_c1 := bs.at 0 1 rfl rfl
     have c_c2 := bs.at 0 2 rfl rfl
     have c_r0 := bs.at 2 0 rfl rfl
     have c_r1 := bs.at 2 1 rfl rfl
     have c_r2 := bs.at 2 2 rfl rfl
     have c_r3 := bs.at 2 3 rfl rfl
     have c_r4 := bs.at 2 4 rfl rfl
     have c_r5 := bs.at 2 5 rfl rfl
     go_wp2_with fail
     refine (CR.out).mono ?_
     rintro e w10 ⟨rfl, hb⟩
     clear c_x0 c_x1 c_x2 c_c0 c_c1 c_c2 c_r0 c_r1 c_r2 c_r3 c_r4 c_r5
     replace o_c2 := o_c2.ret hb
     replace o_l3 := o_l3.ret hb
     replace o_s3 := o_s3.ret hb
     replace o_l4 := o_l4.ret hb
     replace o_s4 := o_s4.ret hb
     replace bs := bs.ret hb
     replace q := bs.q
     clear hb
     clear CR
     have HC := ha_Free spaceF X2 (O.data.toList ++ 47 :: s) w10 (FX.out.fit o_c2.csub) (HML.out.ret q)
     rw [HD2.out, hfr.out, e_X2.out, HFB.out] at HC
     replace HC := Lib.hid HC
     have c_x0 := bs.at 1 0 rfl rfl
     have c_x1 := bs.at 1 1 rfl rfl
     have c_x2 := bs.at 1 2 rfl rfl
     have c_c0 := bs.at 0 0 rfl rfl
     have c_c1 := bs.at 0 1 rfl rfl
     have c_c2 := bs.at 0 2 rfl rfl
     go_wp2_with fail
     refine HC.out.mono ?_
     rintro e w11 ⟨X5, rfl, hd, ho, hb⟩
     clear c_x0 c_x1 c_x2 c_c0 c_c1 c_c2
     have o_c5 := OwC.mk' bs ho
     clear ho HC
     replace o_c2 := o_c2.ret hb
     replace o_l3 := o_l3.ret hb
     replace o_s3 := o_s3.ret hb
     replace o_l4 := o_l4.ret hb
     replace o_s4 := o_s4.ret hb
     replace bs := bs.ret hb
     replace q := bs.q
     clear hb
     have HD5 := Lib.hid hd
     clear hd
     obtain ⟨a5, ha5⟩ : ∃ x, X5.aa.1 = x := ⟨_, rfl⟩
     obtain ⟨b5, hb5⟩ : ∃ x, X5.aa.2 = x := ⟨_, rfl⟩
     obtain ⟨LA5, hLA5⟩ : ∃ x, X5.A.length = x := ⟨_, rfl⟩
     obtain ⟨r5, hr5⟩ : ∃ x, X5.ra.1 = x := ⟨_, rfl⟩
     obtain ⟨s5, hs5⟩ : ∃ x, X5.ra.2 = x := ⟨_, rfl⟩
     obtain ⟨LR5, hLR5⟩ : ∃ x, X5.R.length = x := ⟨_, rfl⟩
     obtain ⟨m5, hm5⟩ : ∃ x, X5.m = x := ⟨_, rfl⟩
     have e_X5 : X5.v = .agg #[.slice a5 LA5 b5, .slice r5 LR5 s5, .int .i64 m5] := by rw [← ha5, ← hb5, ← hLA5, ← hr5, ← hs5, ← hLR5, ← hm5]
     rw [e_X5]
     replace ha5 := Lib.hid ha5
     replace hb5 := Lib.hid hb5
     replace hLA5 := Lib.hid hLA5
     replace hr5 := Lib.hid hr5
     replace hs5 := Lib.hid hs5
     replace hLR5 := Lib.hid hLR5
     replace hm5 := Lib.hid hm5
     replace e_X5 := Lib.hid e_X5
     have c_x0 := bs.at 1 0 rfl rfl
     have c_x1 := bs.at 1 1 rfl rfl
     have c_x2 := bs.at 1 2 rfl rfl
     have c_c0 := bs.at 0 0 rfl rfl
     have c_c1 := bs.at 0 1 rfl rfl
     have c_c2 := bs.at 0 2 rfl rfl
     have d0 := (bs.lit (w11.heap.size) rfl [.slice a5 LA5 b5, .slice r5 LR5 s5, .int .i64 m5] 25)
     have c0_n00 := d0.at 4 0 rfl rfl
     have c0_n01 := d0.at 4 1 rfl rfl
     have c0_n02 := d0.at 4 2 rfl rfl
     have c0_c0 := d0.at 0 0 rfl rfl
     have c0_c1 := d0.at 0 1 rfl rfl
     have c0_c2 := d0.at 0 2 rfl rfl
     have c0_x0 := d0.at 1 0 rfl rfl
     have c0_x1 := d0.at 1 1 rfl rfl
     have c0_x2 := d0.at 1 2 rfl rfl
     have d1 := (bs.lit (w11.heap.size) rfl [.slice a5 LA5 b5, .slice r5 LR5 s5, .int .i64 m1] 25)
     have c1_n00 := d1.at 4 0 rfl rfl
     have c1_n01 := d1.at 4 1 rfl rfl
     have c1_n02 := d1.at 4 2 rfl rfl
     have c1_c0 := d1.at 0 0 rfl rfl
     have c1_c1 := d1.at 0 1 rfl rfl
     have c1_c2 := d1.at 0 2 rfl rfl
     have c1_x0 := d1.at 1 0 rfl rfl
     have c1_x1 := d1.at 1 1 rfl rfl
     have c1_x2 := d1.at 1 2 rfl rfl
     go_wp2_with fail
     clear c_x0 c_x1 c_x2 c_c0 c_c1 c_c2 d0 c0_n00 c0_n01 c0_n02 c0_c0 c0_c1 c0_c2 c0_x0 c0_x1 c0_x2 d1 c1_n00 c1_n01 c1_n02 c1_c0 c1_c1 c1_c2 c1_x0 c1_x1 c1_x2
     obtain ⟨w12, hw12, y12, al, bs⟩ := bs.alloc (w11.heap.size) rfl [.slice a5 LA5 b5, .slice r5 LR5 s5, .int .i64 m1] 25
     replace o_c2 := o_c2.alloc (w11.heap.size) rfl al
     replace o_l3 := o_l3.alloc (w11.heap.size) rfl al
     replace o_s3 := o_s3.alloc (w11.heap.size) rfl al
     replace o_l4 := o_l4.alloc (w11.heap.size) rfl al
     replace o_s4 := o_s4.alloc (w11.heap.size) rfl al
     replace o_c5 := o_c5.alloc (w11.heap.size) rfl al
     clear al
     replace q := bs.q
     rw [hw12]
     have e_Y : CoI.v ⟨X5.A, X5.aa, X5.R, X5.ra, m1⟩ = .agg #[.slice a5 LA5 b5, .slice r5 LR5 s5, .int .i64 m1] := by rw [← ha5.out, ← hb5.out, ← hLA5.out, ← hr5.out, ← hs5.out, ← hLR5.out]
     have d_Y : CoI.d ⟨X5.A, X5.aa, X5.R, X5.ra, m1⟩ = D := by
      have h1 := congrArg Prod.fst HD5.out
      have h2 := congrArg (fun d : Co => d.2.1) HD5.out
      simp only at h1 h2
      show (X5.A.map AcI.d, X5.R.map RsI.d, m1) = D
      rw [h1, h2, ← hmD.out]
     have CSS : Calls Tryz.prog 32 #[.agg #[.slice a5 LA5 b5, .slice r5 LR5 s5, .int .i64 m1], .agg #[.slice a1 LA1 b1, .slice r1 LR1 s1, .int .i64 m1]] w12 (Ret w12 (.bool true)) := by have h := CS.out w12 q ⟨X5.A, X5.aa, X5.R, X5.ra, m1⟩ o_c5.csub HF.out d_Y; rw [decide_eq_true d_Y, e_Y] at h; exact h
     replace CSS := Lib.hid CSS
     clear e_Y d_Y
     refine (CSS.out).mono ?_
     rintro e w13 ⟨rfl, hb⟩
     replace o_c2 := o_c2.ret hb
     replace o_l3 := o_l3.ret hb
     replace o_s3 := o_s3.ret hb
     replace o_l4 := o_l4.ret hb
     replace o_s4 := o_s4.ret hb
     replace o_c5 := o_c5.ret hb
     replace bs := bs.ret hb
     replace q := bs.q
     clear hb
     clear CSS
     have hge : decide (m1 ≤ m2) = true := decide_eq_true HM2.out
     rcases hnm.out with hr | ⟨hr, hmr⟩
     ·obtain rfl : Rs = ⟨#[]⟩ := str_ext (by simpa using hr)
      clear hr hnm
      have c_x0 := bs.at 1 0 rfl rfl
      have c_x1 := bs.at 1 1 rfl rfl
      have c_x2 := bs.at 1 2 rfl rfl
      have c_c0 := bs.at 0 0 rfl rfl
      have c_c1 := bs.at 0 1 rfl rfl
      have c_c2 := bs.at 0 2 rfl rfl
      have c_y0 := bs.at 4 0 rfl rfl
      have c_y1 := bs.at 4 1 rfl rfl
      have c_y2 := bs.at 4 2 rfl rfl
      go_wp2_with fail
      clear c_x0 c_x1 c_x2 c_c0 c_c1 c_c2 c_y0 c_y1 c_y2
      go_ret
      exact ⟨rfl, q⟩
     ·have p2 : 0 < Rs.size := by rw [← size_toList, ← hr]; have := HS1.out; omega
      have e2 := isEmpty_of_pos (s := Rs) p2
      have f2 := ne_nil_of_pos (s := Rs) p2
      have hf2 : pre ++ Rs = fb := by rw [← hpre, ← HFB.out, hr]; exact (full_bytes O Rs).symm
      have hmm2 : m2 = m1 := by rw [← hmD.out, ← hm2.out, ← hmr]; exact congrArg (fun d : Co => d.2.2) HD2.out
      have hmb : (m2 == m1) = true := by simpa using hmm2
      have hps : pre.size = O.size + 1 := by rw [← hpre, ByteArray.size_append]; rfl
      have w9a : ¬ 9223372036854775807 < pre.size + Rs.size := by omega
      have heq : (fb.toList == fb.toList) = true := by simp
      clear hr hmr hmm2 hnm
      have c_x0 := bs.at 1 0 rfl rfl
      have c_x1 := bs.at 1 1 rfl rfl
      have c_x2 := bs.at 1 2 rfl rfl
      have c_c0 := bs.at 0 0 rfl rfl
      have c_c1 := bs.at 0 1 rfl rfl
      have c_c2 := bs.at 0 2 rfl rfl
      have c_y0 := bs.at 4 0 rfl rfl
      have c_y1 := bs.at 4 1 rfl rfl
      have c_y2 := bs.at 4 2 rfl rfl
      go_wp2_with fail
      clear c_x0 c_x1 c_x2 c_c0 c_c1 c_c2 c_y0 c_y1 c_y2
      go_ret
      exact ⟨rfl, q⟩
    ·obtain ⟨rfl, rfl⟩ := hno.out he
     have hne : (er != 0) = true := by simpa using he
     have heq : (er == 0) = false := by simpa using he
     clear hno hlaw hfx
     have HC := CB1.out w2 q
     replace HC := Lib.hid HC
     have c_c0 := bs.at 0 0 rfl rfl
     have c_c1 := bs.at 0 1 rfl rfl
     have c_c2 := bs.at 0 2 rfl rfl
     go_wp2_with fail
     refine HC.out.mono ?_
     rintro e w3 ⟨X2, rfl, hd, ho, hb⟩
     clear c_c0 c_c1 c_c2
     have o_c2 := OwC.mk' bs ho
     clear ho HC
     replace bs := bs.ret hb
     replace q := bs.q
     clear hb
     have HD2 := Lib.hid hd
     clear hd
     obtain ⟨a2, ha2⟩ : ∃ x, X2.aa.1 = x := ⟨_, rfl⟩
     obtain ⟨b2, hb2⟩ : ∃ x, X2.aa.2 = x := ⟨_, rfl⟩
     obtain ⟨LA2, hLA2⟩ : ∃ x, X2.A.length = x := ⟨_, rfl⟩
     obtain ⟨r2, hr2⟩ : ∃ x, X2.ra.1 = x := ⟨_, rfl⟩
     obtain ⟨s2, hs2⟩ : ∃ x, X2.ra.2 = x := ⟨_, rfl⟩
     obtain ⟨LR2, hLR2⟩ : ∃ x, X2.R.length = x := ⟨_, rfl⟩
     obtain ⟨m2, hm2⟩ : ∃ x, X2.m = x := ⟨_, rfl⟩
     have e_X2 : X2.v = .agg #[.slice a2 LA2 b2, .slice r2 LR2 s2, .int .i64 m2] := by rw [← ha2, ← hb2, ← hLA2, ← hr2, ← hs2, ← hLR2, ← hm2]
     rw [e_X2]
     replace ha2 := Lib.hid ha2
     replace hb2 := Lib.hid hb2
     replace hLA2 := Lib.hid hLA2
     replace hr2 := Lib.hid hr2
     replace hs2 := Lib.hid hs2
     replace hLR2 := Lib.hid hLR2
     replace hm2 := Lib.hid hm2
     replace e_X2 := Lib.hid e_X2
     have hl0 : LR2 = 0 := by rw [← hLR2.out]; have := congrArg (fun d : Co => d.2.1.length) HD2.out; simpa [co0] using this
     subst hl0
     have c_c0 := bs.at 0 0 rfl rfl
     have c_c1 := bs.at 0 1 rfl rfl
     have c_c2 := bs.at 0 2 rfl rfl
     have d0 := (bs.lit (w3.heap.size) rfl [.slice a2 LA2 b2, .slice r2 0 s2, .int .i64 m2] 25)
     have c0_n00 := d0.at 1 0 rfl rfl
     have c0_n01 := d0.at 1 1 rfl rfl
     have c0_n02 := d0.at 1 2 rfl rfl
     have c0_c0 := d0.at 0 0 rfl rfl
     have c0_c1 := d0.at 0 1 rfl rfl
     have c0_c2 := d0.at 0 2 rfl rfl
     go_wp2_with fail
     clear c_c0 c_c1 c_c2 d0 c0_n00 c0_n01 c0_n02 c0_c0 c0_c1 c0_c2
     obtain ⟨w4, hw4, y4, al, bs⟩ := bs.alloc (w3.heap.size) rfl [.slice a2 LA2 b2, .slice r2 0 s2, .int .i64 m2] 25
     replace o_c2 := o_c2.alloc (w3.heap.size) rfl al
     clear al
     replace q := bs.q
     rw [hw4]
     have c_x0 := bs.at 1 0 rfl rfl
     have c_x1 := bs.at 1 1 rfl rfl
     have c_x2 := bs.at 1 2 rfl rfl
     go_wp2_with fail
     clear c_x0 c_x1 c_x2
     go_ret
     exact ⟨rfl, q⟩
end Go.Proofs.YtjgeiieiinmdnaaGreatDoor
