/- law 24's HallTurned. PRINTED BY PROGRAM (gen_hbt.py). -/
import Derived.Test.YtjgeiieiinmdnaaGreatDoorHbB
import Derived.Test.YtjgeiieiinmdnaaGreatDoorLi
import Derived.Test.YtjgeiieiinmdnaaGreatDoorLi
namespace Go.Proofs.YtjgeiieiinmdnaaGreatDoor
open Go.RowKit Go.Lib

theorem size_mk {l : List UInt8} {b : ByteArray} (h : ByteArray.mk l.toArray = b) : b.size = l.length := by rw [← h, ← size_toList]
/-- what Find answers, where it is known. -/
def FindIs (w : World) (x : Ac) (e : Ending) (w' : World) : Prop := ∃ a : AcI, e = .returned (.tuple #[a.v, .bool true]) ∧ a.d = x ∧ acY.own (fun g => w.heap.size ≤ g) a w' ∧ Below w.heap.size w w'
theorem find_is {P : Program} {f : FuncId} {args : Array Value} {w : World} {A : List Ac} {t : List UInt8} {x : Ac} (h : Calls P f args w (FndA w A t)) (hf : fiG acN A t = some x) : Calls P f args w (FindIs w x) :=
 h.mono fun e w' ⟨r, h1, h2, h3, h4⟩ => ⟨r, by rw [h1, hf]; rfl, by rw [h2, hf]; rfl, h3, h4⟩
set_option maxHeartbeats 8000000 in
set_option maxRecDepth 100000 in
theorem l24_turned (c : CoI) (r : RsI) (a : AcI) (w : World) (hs : c.sub w) (hq : ∀ r ∈ c.R, QR r) (hsr : rsY.sub r w) (hqr : QR r) (hsa : IsItems a.iv a.it w) (hm : ML w) (ht : Tab w) : Calls Tryz.prog 8 #[c.v, r.v, a.v] w (Ret w (.bool true)) := by
 have AL := fun (W : World) (hb : Below w.heap.size w W) => l24_alive W (hm.ret hb) (ht.ret hb)
 have CG := fun (W : World) (hb : Below w.heap.size w W) => r24_Great c W (hs.ret hb)
 have CGr := fun (W : World) (hb : Below w.heap.size w W) => r24_GreatRes r W (rsY.subRet _ _ _ hsr hb)
 have CGa : ∀ (W : World), Below w.heap.size w W → Calls Tryz.prog 36 #[.agg #[.slice a.ia.1 a.it.length a.ia.2, .int .i64 a.ver]] W (Ret W (.bool (greatP (a.it.map Prod.fst)))) := fun (W : World) (hb : Below w.heap.size w W) => r21_Great a.iv a.ver a.it W (hsa.ret hb)
 have FT := fun (h : CoSm c.d) => h.fit hq
 have FTr := fun (h : ReSm r.d) => h.fit hqr
 have FTa := fun (h : AcSm a.d) => h.fit
 have CT := fun (W : World) (hb : Below w.heap.size w W) (hf : CoFitD c.d) (hr : ReFit r.d) => ha_With spaceF c r W (hf.fit (hs.ret hb)) (hr.rs (rsY.subRet _ _ _ hsr hb)) hr.tw (hm.ret hb)
 have CP := fun (W : World) (hb : Below w.heap.size w W) (hf : CoFitD c.d) (ha : AcFit a.d) => ha_Keep spaceF c a W (hf.fit (hs.ret hb)) (hsa.ret hb) ha.small ha.j (hm.ret hb)
 have CW := fun (W : World) (hb : Below w.heap.size w W) (hf : CoFitD c.d) (s : List UInt8) => ha_Who c s W (hs.ret hb).2 hf.zR' (fun r hr => (hf.rs' r hr).tw)
 have CF := fun (W : World) (hb : Below w.heap.size w W) (hf : CoFitD c.d) (s : List UInt8) => ha_Find c s W (hs.ret hb).1 hf.zA' (fun a ha => (hf.ac' a ha).small)
 have CS := fun (W : World) (hb : Below w.heap.size w W) (Y : CoI) (hY : Y.sub W) (hf : CoFitD c.d) (e : Y.d = c.d) => ha_Same Y c W hY (hs.ret hb) (CoFitD.eq (by rw [e]; exact hf)) hf.eq
 have CSr := fun (W : World) (hb : Below w.heap.size w W) (Y : RsI) (hY : rsY.sub Y W) (hr : ReFit r.d) (e : Y.d = r.d) => r24_SameRes Y r W hY (rsY.subRet _ _ _ hsr hb) (ReFit.eq (by rw [e]; exact hr)) hr.eq
 have HML := Lib.hid hm
 obtain ⟨D, hD⟩ : ∃ D, c.d = D := ⟨_, rfl⟩
 obtain ⟨RD, hRD⟩ : ∃ D, r.d = D := ⟨_, rfl⟩
 obtain ⟨AD, hAD⟩ : ∃ D, a.d = D := ⟨_, rfl⟩
 have e1 : c.R.map RsI.d = D.2.1 := by rw [← hD]
 have e2 : c.A.map AcI.d = D.1 := by rw [← hD]
 have e3 : r.j = RD.1 := by rw [← hRD]
 have e4 : a.j = AD.1 := by rw [← hAD]
 have e5 : a.it.map Prod.fst = AD.2.1 := by rw [← hAD]
 simp only [e1] at CW
 simp only [e2] at CF
 rw [e5] at CGa
 obtain ⟨a1, ha1⟩ : ∃ x, c.aa.1 = x := ⟨_, rfl⟩
 obtain ⟨b1, hb1⟩ : ∃ x, c.aa.2 = x := ⟨_, rfl⟩
 obtain ⟨LA1, hLA1⟩ : ∃ x, c.A.length = x := ⟨_, rfl⟩
 obtain ⟨r1, hr1⟩ : ∃ x, c.ra.1 = x := ⟨_, rfl⟩
 obtain ⟨s1, hs1⟩ : ∃ x, c.ra.2 = x := ⟨_, rfl⟩
 obtain ⟨LR1, hLR1⟩ : ∃ x, c.R.length = x := ⟨_, rfl⟩
 obtain ⟨m1, hm1⟩ : ∃ x, c.m = x := ⟨_, rfl⟩
 have e_c : c.v = .agg #[.slice a1 LA1 b1, .slice r1 LR1 s1, .int .i64 m1] := by rw [← ha1, ← hb1, ← hLA1, ← hr1, ← hs1, ← hLR1, ← hm1]
 simp only [e_c] at CG CT CP CW CF CS ⊢
 obtain ⟨on7, hon7⟩ : ∃ x, r.on = x := ⟨_, rfl⟩
 obtain ⟨pr7, hpr7⟩ : ∃ x, r.pr = x := ⟨_, rfl⟩
 obtain ⟨la7, hla7⟩ : ∃ x, r.la.1 = x := ⟨_, rfl⟩
 obtain ⟨lb7, hlb7⟩ : ∃ x, r.la.2 = x := ⟨_, rfl⟩
 obtain ⟨LL7, hLL7⟩ : ∃ x, r.ld.length = x := ⟨_, rfl⟩
 obtain ⟨ask7, hask7⟩ : ∃ x, r.ask = x := ⟨_, rfl⟩
 obtain ⟨sa7, hsa7⟩ : ∃ x, r.sa.1 = x := ⟨_, rfl⟩
 obtain ⟨sb7, hsb7⟩ : ∃ x, r.sa.2 = x := ⟨_, rfl⟩
 obtain ⟨SL7, hSL7⟩ : ∃ x, r.st.length = x := ⟨_, rfl⟩
 obtain ⟨jb7, hjb7⟩ : ∃ b, ByteArray.mk r.j.toArray = b := ⟨_, rfl⟩
 have e_r : r.v = .agg #[.string jb7, .bool on7, .int .i64 pr7, .slice la7 LL7 lb7, .bool ask7, .slice sa7 SL7 sb7] := by rw [← hon7, ← hpr7, ← hla7, ← hlb7, ← hLL7, ← hask7, ← hsa7, ← hsb7, ← hSL7, ← hjb7]
 simp only [e_r] at CGr CT CSr ⊢
 obtain ⟨ia9, hia9⟩ : ∃ x, a.ia.1 = x := ⟨_, rfl⟩
 obtain ⟨ib9, hib9⟩ : ∃ x, a.ia.2 = x := ⟨_, rfl⟩
 obtain ⟨IL9, hIL9⟩ : ∃ x, a.it.length = x := ⟨_, rfl⟩
 obtain ⟨ver9, hver9⟩ : ∃ x, a.ver = x := ⟨_, rfl⟩
 obtain ⟨jb9, hjb9⟩ : ∃ b, ByteArray.mk a.j.toArray = b := ⟨_, rfl⟩
 have e_a : a.v = .agg #[.string jb9, .slice ia9 IL9 ib9, .int .i64 ver9] := by rw [← hia9, ← hib9, ← hIL9, ← hver9, ← hjb9]
 simp only [e_a] at CP ⊢
 rw [e3] at hjb7
 rw [e4] at hjb9
 rw [hia9, hIL9, hib9, hver9] at CGa
 rw [hD] at CG FT CT CP CW CF CS
 rw [hRD] at CGr FTr CT CSr
 rw [hAD] at FTa CP
 have HJR := Lib.hid hjb7
 have HJA := Lib.hid hjb9
 clear hs hq hsr hqr hsa hm ht e1 e2 e3 e4 e5 e_c e_r e_a hD hRD hAD ha1 hb1 hLA1 hr1 hs1 hLR1 hm1 hon7 hpr7 hla7 hlb7 hLL7 hask7 hsa7 hsb7 hSL7 hjb7 hia9 hib9 hIL9 hver9 hjb9
 replace AL := Lib.hid AL
 replace CG := Lib.hid CG
 replace CGr := Lib.hid CGr
 replace CGa := Lib.hid CGa
 replace FT := Lib.hid FT
 replace FTr := Lib.hid FTr
 replace FTa := Lib.hid FTa
 replace CT := Lib.hid CT
 replace CP := Lib.hid CP
 replace CW := Lib.hid CW
 replace CF := Lib.hid CF
 replace CS := Lib.hid CS
 replace CSr := Lib.hid CSr
 obtain ⟨W0, hW, y0, bs⟩ := Sx.start3 w [.slice a1 LA1 b1, .slice r1 LR1 s1, .int .i64 m1] 25 [.string jb7, .bool on7, .int .i64 pr7, .slice la7 LL7 lb7, .bool ask7, .slice sa7 SL7 sb7] 38 [.string jb9, .slice ia9 IL9 ib9, .int .i64 ver9] 33
 have HW := Lib.hid hW
 clear hW
 have q := bs.q
 go_enter Tryz.func8, Tryz.ntmps8
 go_wp2_with fail
 rw [HW.out]
 refine (AL.out W0 q).mono ?_
 rintro e w1 ⟨rfl, hb⟩
 replace bs := bs.ret hb
 replace q := bs.q
 clear hb
 have CG1 := CG.out w1 q
 replace CG1 := Lib.hid CG1
 have c_c0 := bs.at 0 0 rfl rfl
 have c_c1 := bs.at 0 1 rfl rfl
 have c_c2 := bs.at 0 2 rfl rfl
 have c_r0 := bs.at 1 0 rfl rfl
 have c_r1 := bs.at 1 1 rfl rfl
 have c_r2 := bs.at 1 2 rfl rfl
 have c_r3 := bs.at 1 3 rfl rfl
 have c_r4 := bs.at 1 4 rfl rfl
 have c_r5 := bs.at 1 5 rfl rfl
 have c_a0 := bs.at 2 0 rfl rfl
 have c_a1 := bs.at 2 1 rfl rfl
 have c_a2 := bs.at 2 2 rfl rfl
 go_wp2_with fail
 refine (CG1.out).mono ?_
 rintro e w2 ⟨g, rfl, hg, hb⟩
 clear c_c0 c_c1 c_c2 c_r0 c_r1 c_r2 c_r3 c_r4 c_r5 c_a0 c_a1 c_a2
 replace bs := bs.ret hb
 replace q := bs.q
 clear hb
 clear CG1
 cases g with
 | true =>
  have c_c0 := bs.at 0 0 rfl rfl
  have c_c1 := bs.at 0 1 rfl rfl
  have c_c2 := bs.at 0 2 rfl rfl
  have c_r0 := bs.at 1 0 rfl rfl
  have c_r1 := bs.at 1 1 rfl rfl
  have c_r2 := bs.at 1 2 rfl rfl
  have c_r3 := bs.at 1 3 rfl rfl
  have c_r4 := bs.at 1 4 rfl rfl
  have c_r5 := bs.at 1 5 rfl rfl
  have c_a0 := bs.at 2 0 rfl rfl
  have c_a1 := bs.at 2 1 rfl rfl
  have c_a2 := bs.at 2 2 rfl rfl
  go_wp2_with fail
  clear c_c0 c_c1 c_c2 c_r0 c_r1 c_r2 c_r3 c_r4 c_r5 c_a0 c_a1 c_a2
  go_ret
  exact ⟨rfl, q⟩
 | false =>
  have Hg := Lib.hid (hg rfl)
  clear hg
  have CG1 := CGr.out w2 q
  replace CG1 := Lib.hid CG1
  have c_c0 := bs.at 0 0 rfl rfl
  have c_c1 := bs.at 0 1 rfl rfl
  have c_c2 := bs.at 0 2 rfl rfl
  have c_r0 := bs.at 1 0 rfl rfl
  have c_r1 := bs.at 1 1 rfl rfl
  have c_r2 := bs.at 1 2 rfl rfl
  have c_r3 := bs.at 1 3 rfl rfl
  have c_r4 := bs.at 1 4 rfl rfl
  have c_r5 := bs.at 1 5 rfl rfl
  have c_a0 := bs.at 2 0 rfl rfl
  have c_a1 := bs.at 2 1 rfl rfl
  have c_a2 := bs.at 2 2 rfl rfl
  go_wp2_with fail
  refine (CG1.out).mono ?_
  rintro e w3 ⟨gr, rfl, hgr, hb⟩
  clear c_c0 c_c1 c_c2 c_r0 c_r1 c_r2 c_r3 c_r4 c_r5 c_a0 c_a1 c_a2
  replace bs := bs.ret hb
  replace q := bs.q
  clear hb
  clear CG1
  cases gr with
  | true =>
   have c_c0 := bs.at 0 0 rfl rfl
   have c_c1 := bs.at 0 1 rfl rfl
   have c_c2 := bs.at 0 2 rfl rfl
   have c_r0 := bs.at 1 0 rfl rfl
   have c_r1 := bs.at 1 1 rfl rfl
   have c_r2 := bs.at 1 2 rfl rfl
   have c_r3 := bs.at 1 3 rfl rfl
   have c_r4 := bs.at 1 4 rfl rfl
   have c_r5 := bs.at 1 5 rfl rfl
   have c_a0 := bs.at 2 0 rfl rfl
   have c_a1 := bs.at 2 1 rfl rfl
   have c_a2 := bs.at 2 2 rfl rfl
   go_wp2_with fail
   clear c_c0 c_c1 c_c2 c_r0 c_r1 c_r2 c_r3 c_r4 c_r5 c_a0 c_a1 c_a2
   go_ret
   exact ⟨rfl, q⟩
  | false =>
   have Hgr := Lib.hid (hgr rfl)
   clear hgr
   by_cases h3 : (300 : Int) < (jb9.size : Int)
   ·have h3d : decide ((300 : Int) < (jb9.size : Int)) = true := decide_eq_true h3
    have c_c0 := bs.at 0 0 rfl rfl
    have c_c1 := bs.at 0 1 rfl rfl
    have c_c2 := bs.at 0 2 rfl rfl
    have c_r0 := bs.at 1 0 rfl rfl
    have c_r1 := bs.at 1 1 rfl rfl
    have c_r2 := bs.at 1 2 rfl rfl
    have c_r3 := bs.at 1 3 rfl rfl
    have c_r4 := bs.at 1 4 rfl rfl
    have c_r5 := bs.at 1 5 rfl rfl
    have c_a0 := bs.at 2 0 rfl rfl
    have c_a1 := bs.at 2 1 rfl rfl
    have c_a2 := bs.at 2 2 rfl rfl
    go_wp2_with fail
    clear c_c0 c_c1 c_c2 c_r0 c_r1 c_r2 c_r3 c_r4 c_r5 c_a0 c_a1 c_a2
    go_ret
    exact ⟨rfl, q⟩
   ·have h3d : decide ((300 : Int) < (jb9.size : Int)) = false := decide_eq_false h3
    obtain ⟨ga, hga⟩ : ∃ g, greatP AD.2.1 = g := ⟨_, rfl⟩
    have CG1 := CGa.out
    rw [hga] at CG1
    replace CG1 := Lib.hid (CG1 w3 q)
    have c_c0 := bs.at 0 0 rfl rfl
    have c_c1 := bs.at 0 1 rfl rfl
    have c_c2 := bs.at 0 2 rfl rfl
    have c_r0 := bs.at 1 0 rfl rfl
    have c_r1 := bs.at 1 1 rfl rfl
    have c_r2 := bs.at 1 2 rfl rfl
    have c_r3 := bs.at 1 3 rfl rfl
    have c_r4 := bs.at 1 4 rfl rfl
    have c_r5 := bs.at 1 5 rfl rfl
    have c_a0 := bs.at 2 0 rfl rfl
    have c_a1 := bs.at 2 1 rfl rfl
    have c_a2 := bs.at 2 2 rfl rfl
    go_wp2_with fail
    refine (CG1.out).mono ?_
    rintro e w4 ⟨rfl, hb⟩
    clear c_c0 c_c1 c_c2 c_r0 c_r1 c_r2 c_r3 c_r4 c_r5 c_a0 c_a1 c_a2
    replace bs := bs.ret hb
    replace q := bs.q
    clear hb
    clear CG1
    cases ga with
    | true =>
     have c_c0 := bs.at 0 0 rfl rfl
     have c_c1 := bs.at 0 1 rfl rfl
     have c_c2 := bs.at 0 2 rfl rfl
     have c_r0 := bs.at 1 0 rfl rfl
     have c_r1 := bs.at 1 1 rfl rfl
     have c_r2 := bs.at 1 2 rfl rfl
     have c_r3 := bs.at 1 3 rfl rfl
     have c_r4 := bs.at 1 4 rfl rfl
     have c_r5 := bs.at 1 5 rfl rfl
     have c_a0 := bs.at 2 0 rfl rfl
     have c_a1 := bs.at 2 1 rfl rfl
     have c_a2 := bs.at 2 2 rfl rfl
     go_wp2_with fail
     clear c_c0 c_c1 c_c2 c_r0 c_r1 c_r2 c_r3 c_r4 c_r5 c_a0 c_a1 c_a2
     go_ret
     exact ⟨rfl, q⟩
    | false =>
     have hf := FT.out Hg.out
     have hfr := FTr.out Hgr.out
     have hfa := FTa.out ⟨by rw [← size_mk HJA.out]; omega, hga⟩
     have HF := Lib.hid hf
     have HFr := Lib.hid hfr
     have HFa := Lib.hid hfa
     clear hf hfr hfa hga Hg Hgr
     have CT1 := fun (W : World) (hb : Below w.heap.size w W) => CT.out W hb HF.out HFr.out
     have hfx := HF.out.with' (p := spaceF) HFr.out
     have hlaw := @with_law spaceF D RD
     have hno := @with_not spaceF D RD
     obtain ⟨B, hB⟩ : ∃ B, withF spaceF D RD = B := ⟨_, rfl⟩
     simp only [hB] at CT1 hfx hlaw hno
     obtain ⟨XD, er⟩ := B
     simp only at hfx hlaw hno
     clear hB
     replace CT1 := Lib.hid CT1
     replace hfx := Lib.hid hfx
     replace hlaw := Lib.hid hlaw
     replace hno := Lib.hid hno
     have HC := CT1.out w4 q
     replace HC := Lib.hid HC
     have c_c0 := bs.at 0 0 rfl rfl
     have c_c1 := bs.at 0 1 rfl rfl
     have c_c2 := bs.at 0 2 rfl rfl
     have c_r0 := bs.at 1 0 rfl rfl
     have c_r1 := bs.at 1 1 rfl rfl
     have c_r2 := bs.at 1 2 rfl rfl
     have c_r3 := bs.at 1 3 rfl rfl
     have c_r4 := bs.at 1 4 rfl rfl
     have c_r5 := bs.at 1 5 rfl rfl
     have c_a0 := bs.at 2 0 rfl rfl
     have c_a1 := bs.at 2 1 rfl rfl
     have c_a2 := bs.at 2 2 rfl rfl
     go_wp2_with fail
     refine HC.out.mono ?_
     rintro e w5 ⟨X2, rfl, hd, ho, hb⟩
     clear c_c0 c_c1 c_c2 c_r0 c_r1 c_r2 c_r3 c_r4 c_r5 c_a0 c_a1 c_a2
     have o_c2 := OwC.mk' bs ho
     clear ho HC
     replace bs := bs.ret hb
     replace q := bs.q
     clear hb
     have HD2 := Lib.hid hd
     clear hd
     obtain ⟨a2, ha2⟩ : ∃ x, X2.aa.1 = x := ⟨_, rfl⟩
     obtain ⟨b2, hb2⟩ : ∃ x, X2.aa.2 = x := ⟨_, rfl⟩
     obtain ⟨LA2, hLA2⟩ : ∃ x, X2.A.length = x := ⟨_, rfl⟩
     obtain ⟨r2, hr2⟩ : ∃ x, X2.ra.1 = x := ⟨_, rfl⟩
     obtain ⟨s2, hs2⟩ : ∃ x, X2.ra.2 = x := ⟨_, rfl⟩
     obtain ⟨LR2, hLR2⟩ : ∃ x, X2.R.length = x := ⟨_, rfl⟩
     obtain ⟨m2, hm2⟩ : ∃ x, X2.m = x := ⟨_, rfl⟩
     have e_X2 : X2.v = .agg #[.slice a2 LA2 b2, .slice r2 LR2 s2, .int .i64 m2] := by rw [← ha2, ← hb2, ← hLA2, ← hr2, ← hs2, ← hLR2, ← hm2]
     rw [e_X2]
     replace ha2 := Lib.hid ha2
     replace hb2 := Lib.hid hb2
     replace hLA2 := Lib.hid hLA2
     replace hr2 := Lib.hid hr2
     replace hs2 := Lib.hid hs2
     replace hLR2 := Lib.hid hLR2
     replace hm2 := Lib.hid hm2
     replace e_X2 := Lib.hid e_X2
     by_cases he : er = 0
     ·subst he
      have c_c0 := bs.at 0 0 rfl rfl
      have c_c1 := bs.at 0 1 rfl rfl
      have c_c2 := bs.at 0 2 rfl rfl
      have c_r0 := bs.at 1 0 rfl rfl
      have c_r1 := bs.at 1 1 rfl rfl
      have c_r2 := bs.at 1 2 rfl rfl
      have c_r3 := bs.at 1 3 rfl rfl
      have c_r4 := bs.at 1 4 rfl rfl
      have c_r5 := bs.at 1 5 rfl rfl
      have c_a0 := bs.at 2 0 rfl rfl
      have c_a1 := bs.at 2 1 rfl rfl
      have c_a2 := bs.at 2 2 rfl rfl
      have d0 := (bs.lit (w5.heap.size) rfl [.slice a2 LA2 b2, .slice r2 LR2 s2, .int .i64 m2] 25)
      have c0_n00 := d0.at 3 0 rfl rfl
      have c0_n01 := d0.at 3 1 rfl rfl
      have c0_n02 := d0.at 3 2 rfl rfl
      have c0_c0 := d0.at 0 0 rfl rfl
      have c0_c1 := d0.at 0 1 rfl rfl
      have c0_c2 := d0.at 0 2 rfl rfl
      have c0_r0 := d0.at 1 0 rfl rfl
      have c0_r1 := d0.at 1 1 rfl rfl
      have c0_r2 := d0.at 1 2 rfl rfl
      have c0_r3 := d0.at 1 3 rfl rfl
      have c0_r4 := d0.at 1 4 rfl rfl
      have c0_r5 := d0.at 1 5 rfl rfl
      have c0_a0 := d0.at 2 0 rfl rfl
      have c0_a1 := d0.at 2 1 rfl rfl
      have c0_a2 := d0.at 2 2 rfl rfl
      go_wp2_with fail
      clear c_c0 c_c1 c_c2 c_r0 c_r1 c_r2 c_r3 c_r4 c_r5 c_a0 c_a1 c_a2 d0 c0_n00 c0_n01 c0_n02 c0_c0 c0_c1 c0_c2 c0_r0 c0_r1 c0_r2 c0_r3 c0_r4 c0_r5 c0_a0 c0_a1 c0_a2
      obtain ⟨w6, hw6, y6, al, bs⟩ := bs.alloc (w5.heap.size) rfl [.slice a2 LA2 b2, .slice r2 LR2 s2, .int .i64 m2] 25
      replace o_c2 := o_c2.alloc (w5.heap.size) rfl al
      clear al
      replace q := bs.q
      rw [hw6]
      obtain ⟨was, hw1, hw2, hbk, hcx, -, -⟩ := hlaw.out (by first | rfl | trivial)
      clear hlaw hno
      replace hw1 := Lib.hid hw1
      replace hw2 := Lib.hid hw2
      replace hbk := Lib.hid hbk
      replace hcx := Lib.hid hcx
      have FX : CoFitD X2.d := by rw [HD2.out]; exact hfx.out
      replace FX := Lib.hid FX
      have eR : X2.R.map RsI.d = XD.2.1 := congrArg (fun d : Co => d.2.1) HD2.out
      have ER := Lib.hid eR
      clear eR
      have HC := who_some (CW.out w6 q HF.out RD.1) hw1.out
      rw [HJR.out] at HC
      replace HC := Lib.hid HC
      have c_c0 := bs.at 0 0 rfl rfl
      have c_c1 := bs.at 0 1 rfl rfl
      have c_c2 := bs.at 0 2 rfl rfl
      have c_r0 := bs.at 1 0 rfl rfl
      have c_r1 := bs.at 1 1 rfl rfl
      have c_r2 := bs.at 1 2 rfl rfl
      have c_r3 := bs.at 1 3 rfl rfl
      have c_r4 := bs.at 1 4 rfl rfl
      have c_r5 := bs.at 1 5 rfl rfl
      have c_x0 := bs.at 3 0 rfl rfl
      have c_x1 := bs.at 3 1 rfl rfl
      have c_x2 := bs.at 3 2 rfl rfl
      go_wp2_with fail
      refine HC.out.mono ?_
      rintro e w7 ⟨Y3, rfl, hd, ho, hb⟩
      clear c_c0 c_c1 c_c2 c_r0 c_r1 c_r2 c_r3 c_r4 c_r5 c_x0 c_x1 c_x2
      have o_l3 := OwZ.mk' bs ho.1
      have o_s3 := OwX.mk' bs (ho.2.owns (fun g hg => hg))
      clear ho HC
      replace o_c2 := o_c2.ret hb
      replace bs := bs.ret hb
      replace q := bs.q
      clear hb
      have HY3 := Lib.hid hd
      clear hd
      obtain ⟨on3, hon3⟩ : ∃ x, Y3.on = x := ⟨_, rfl⟩
      obtain ⟨pr3, hpr3⟩ : ∃ x, Y3.pr = x := ⟨_, rfl⟩
      obtain ⟨la3, hla3⟩ : ∃ x, Y3.la.1 = x := ⟨_, rfl⟩
      obtain ⟨lb3, hlb3⟩ : ∃ x, Y3.la.2 = x := ⟨_, rfl⟩
      obtain ⟨LL3, hLL3⟩ : ∃ x, Y3.ld.length = x := ⟨_, rfl⟩
      obtain ⟨ask3, hask3⟩ : ∃ x, Y3.ask = x := ⟨_, rfl⟩
      obtain ⟨sa3, hsa3⟩ : ∃ x, Y3.sa.1 = x := ⟨_, rfl⟩
      obtain ⟨sb3, hsb3⟩ : ∃ x, Y3.sa.2 = x := ⟨_, rfl⟩
      obtain ⟨SL3, hSL3⟩ : ∃ x, Y3.st.length = x := ⟨_, rfl⟩
      obtain ⟨jb3, hjb3⟩ : ∃ b, ByteArray.mk Y3.j.toArray = b := ⟨_, rfl⟩
      have e_Y3 : Y3.v = .agg #[.string jb3, .bool on3, .int .i64 pr3, .slice la3 LL3 lb3, .bool ask3, .slice sa3 SL3 sb3] := by rw [← hon3, ← hpr3, ← hla3, ← hlb3, ← hLL3, ← hask3, ← hsa3, ← hsb3, ← hSL3, ← hjb3]
      rw [e_Y3]
      replace hon3 := Lib.hid hon3
      replace hpr3 := Lib.hid hpr3
      replace hla3 := Lib.hid hla3
      replace hlb3 := Lib.hid hlb3
      replace hLL3 := Lib.hid hLL3
      replace hask3 := Lib.hid hask3
      replace hsa3 := Lib.hid hsa3
      replace hsb3 := Lib.hid hsb3
      replace hSL3 := Lib.hid hSL3
      replace hjb3 := Lib.hid hjb3
      replace e_Y3 := Lib.hid e_Y3
      have c_c0 := bs.at 0 0 rfl rfl
      have c_c1 := bs.at 0 1 rfl rfl
      have c_c2 := bs.at 0 2 rfl rfl
      have c_r0 := bs.at 1 0 rfl rfl
      have c_r1 := bs.at 1 1 rfl rfl
      have c_r2 := bs.at 1 2 rfl rfl
      have c_r3 := bs.at 1 3 rfl rfl
      have c_r4 := bs.at 1 4 rfl rfl
      have c_r5 := bs.at 1 5 rfl rfl
      have c_x0 := bs.at 3 0 rfl rfl
      have c_x1 := bs.at 3 1 rfl rfl
      have c_x2 := bs.at 3 2 rfl rfl
      have d0 := (bs.lit (w7.heap.size) rfl [.string jb3, .bool on3, .int .i64 pr3, .slice la3 LL3 lb3, .bool ask3, .slice sa3 SL3 sb3] 38)
      have c0_n00 := d0.at 4 0 rfl rfl
      have c0_n01 := d0.at 4 1 rfl rfl
      have c0_n02 := d0.at 4 2 rfl rfl
      have c0_n03 := d0.at 4 3 rfl rfl
      have c0_n04 := d0.at 4 4 rfl rfl
      have c0_n05 := d0.at 4 5 rfl rfl
      have c0_c0 := d0.at 0 0 rfl rfl
      have c0_c1 := d0.at 0 1 rfl rfl
      have c0_c2 := d0.at 0 2 rfl rfl
      have c0_r0 := d0.at 1 0 rfl rfl
      have c0_r1 := d0.at 1 1 rfl rfl
      have c0_r2 := d0.at 1 2 rfl rfl
      have c0_r3 := d0.at 1 3 rfl rfl
      have c0_r4 := d0.at 1 4 rfl rfl
      have c0_r5 := d0.at 1 5 rfl rfl
      have c0_x0 := d0.at 3 0 rfl rfl
      have c0_x1 := d0.at 3 1 rfl rfl
      have c0_x2 := d0.at 3 2 rfl rfl
      go_wp2_with fail
      clear c_c0 c_c1 c_c2 c_r0 c_r1 c_r2 c_r3 c_r4 c_r5 c_x0 c_x1 c_x2 d0 c0_n00 c0_n01 c0_n02 c0_n03 c0_n04 c0_n05 c0_c0 c0_c1 c0_c2 c0_r0 c0_r1 c0_r2 c0_r3 c0_r4 c0_r5 c0_x0 c0_x1 c0_x2
      obtain ⟨w8, hw8, y8, al, bs⟩ := bs.alloc (w7.heap.size) rfl [.string jb3, .bool on3, .int .i64 pr3, .slice la3 LL3 lb3, .bool ask3, .slice sa3 SL3 sb3] 38
      replace o_c2 := o_c2.alloc (w7.heap.size) rfl al
      replace o_l3 := o_l3.alloc (w7.heap.size) rfl al
      replace o_s3 := o_s3.alloc (w7.heap.size) rfl al
      clear al
      replace q := bs.q
      rw [hw8]
      have HC := who_some (ha_Who X2 RD.1 w8 o_c2.csub.2 FX.out.zR' (fun r hr => (FX.out.rs' r hr).tw)) (by rw [ER.out]; exact hw2.out)
      rw [e_X2.out, HJR.out] at HC
      replace HC := Lib.hid HC
      have c_c0 := bs.at 0 0 rfl rfl
      have c_c1 := bs.at 0 1 rfl rfl
      have c_c2 := bs.at 0 2 rfl rfl
      have c_r0 := bs.at 1 0 rfl rfl
      have c_r1 := bs.at 1 1 rfl rfl
      have c_r2 := bs.at 1 2 rfl rfl
      have c_r3 := bs.at 1 3 rfl rfl
      have c_r4 := bs.at 1 4 rfl rfl
      have c_r5 := bs.at 1 5 rfl rfl
      have c_x0 := bs.at 3 0 rfl rfl
      have c_x1 := bs.at 3 1 rfl rfl
      have c_x2 := bs.at 3 2 rfl rfl
      go_wp2_with fail
      refine HC.out.mono ?_
      rintro e w9 ⟨Y4, rfl, hd, ho, hb⟩
      clear c_c0 c_c1 c_c2 c_r0 c_r1 c_r2 c_r3 c_r4 c_r5 c_x0 c_x1 c_x2
      have o_l4 := OwZ.mk' bs ho.1
      have o_s4 := OwX.mk' bs (ho.2.owns (fun g hg => hg))
      clear ho HC
      replace o_c2 := o_c2.ret hb
      replace o_l3 := o_l3.ret hb
      replace o_s3 := o_s3.ret hb
      replace bs := bs.ret hb
      replace q := bs.q
      clear hb
      have HY4 := Lib.hid hd
      clear hd
      obtain ⟨on4, hon4⟩ : ∃ x, Y4.on = x := ⟨_, rfl⟩
      obtain ⟨pr4, hpr4⟩ : ∃ x, Y4.pr = x := ⟨_, rfl⟩
      obtain ⟨la4, hla4⟩ : ∃ x, Y4.la.1 = x := ⟨_, rfl⟩
      obtain ⟨lb4, hlb4⟩ : ∃ x, Y4.la.2 = x := ⟨_, rfl⟩
      obtain ⟨LL4, hLL4⟩ : ∃ x, Y4.ld.length = x := ⟨_, rfl⟩
      obtain ⟨ask4, hask4⟩ : ∃ x, Y4.ask = x := ⟨_, rfl⟩
      obtain ⟨sa4, hsa4⟩ : ∃ x, Y4.sa.1 = x := ⟨_, rfl⟩
      obtain ⟨sb4, hsb4⟩ : ∃ x, Y4.sa.2 = x := ⟨_, rfl⟩
      obtain ⟨SL4, hSL4⟩ : ∃ x, Y4.st.length = x := ⟨_, rfl⟩
      obtain ⟨jb4, hjb4⟩ : ∃ b, ByteArray.mk Y4.j.toArray = b := ⟨_, rfl⟩
      have e_Y4 : Y4.v = .agg #[.string jb4, .bool on4, .int .i64 pr4, .slice la4 LL4 lb4, .bool ask4, .slice sa4 SL4 sb4] := by rw [← hon4, ← hpr4, ← hla4, ← hlb4, ← hLL4, ← hask4, ← hsa4, ← hsb4, ← hSL4, ← hjb4]
      rw [e_Y4]
      replace hon4 := Lib.hid hon4
      replace hpr4 := Lib.hid hpr4
      replace hla4 := Lib.hid hla4
      replace hlb4 := Lib.hid hlb4
      replace hLL4 := Lib.hid hLL4
      replace hask4 := Lib.hid hask4
      replace hsa4 := Lib.hid hsa4
      replace hsb4 := Lib.hid hsb4
      replace hSL4 := Lib.hid hSL4
      replace hjb4 := Lib.hid hjb4
      replace e_Y4 := Lib.hid e_Y4
      have c_c0 := bs.at 0 0 rfl rfl
      have c_c1 := bs.at 0 1 rfl rfl
      have c_c2 := bs.at 0 2 rfl rfl
      have c_r0 := bs.at 1 0 rfl rfl
      have c_r1 := bs.at 1 1 rfl rfl
      have c_r2 := bs.at 1 2 rfl rfl
      have c_r3 := bs.at 1 3 rfl rfl
      have c_r4 := bs.at 1 4 rfl rfl
      have c_r5 := bs.at 1 5 rfl rfl
      have c_x0 := bs.at 3 0 rfl rfl
      have c_x1 := bs.at 3 1 rfl rfl
      have c_x2 := bs.at 3 2 rfl rfl
      have c_u0 := bs.at 4 0 rfl rfl
      have c_u1 := bs.at 4 1 rfl rfl
      have c_u2 := bs.at 4 2 rfl rfl
      have c_u3 := bs.at 4 3 rfl rfl
      have c_u4 := bs.at 4 4 rfl rfl
      have c_u5 := bs.at 4 5 rfl rfl
      have d0 := (bs.lit (w9.heap.size) rfl [.string jb4, .bool on4, .int .i64 pr4, .slice la4 LL4 lb4, .bool ask4, .slice sa4 SL4 sb4] 38)
      have c0_n00 := d0.at 5 0 rfl rfl
      have c0_n01 := d0.at 5 1 rfl rfl
      have c0_n02 := d0.at 5 2 rfl rfl
      have c0_n03 := d0.at 5 3 rfl rfl
      have c0_n04 := d0.at 5 4 rfl rfl
      have c0_n05 := d0.at 5 5 rfl rfl
      have c0_c0 := d0.at 0 0 rfl rfl
      have c0_c1 := d0.at 0 1 rfl rfl
      have c0_c2 := d0.at 0 2 rfl rfl
      have c0_r0 := d0.at 1 0 rfl rfl
      have c0_r1 := d0.at 1 1 rfl rfl
      have c0_r2 := d0.at 1 2 rfl rfl
      have c0_r3 := d0.at 1 3 rfl rfl
      have c0_r4 := d0.at 1 4 rfl rfl
      have c0_r5 := d0.at 1 5 rfl rfl
      have c0_x0 := d0.at 3 0 rfl rfl
      have c0_x1 := d0.at 3 1 rfl rfl
      have c0_x2 := d0.at 3 2 rfl rfl
      have c0_u0 := d0.at 4 0 rfl rfl
      have c0_u1 := d0.at 4 1 rfl rfl
      have c0_u2 := d0.at 4 2 rfl rfl
      have c0_u3 := d0.at 4 3 rfl rfl
      have c0_u4 := d0.at 4 4 rfl rfl
      have c0_u5 := d0.at 4 5 rfl rfl
      go_wp2_with fail
      clear c_c0 c_c1 c_c2 c_r0 c_r1 c_r2 c_r3 c_r4 c_r5 c_x0 c_x1 c_x2 c_u0 c_u1 c_u2 c_u3 c_u4 c_u5 d0 c0_n00 c0_n01 c0_n02 c0_n03 c0_n04 c0_n05 c0_c0 c0_c1 c0_c2 c0_r0 c0_r1 c0_r2 c0_r3 c0_r4 c0_r5 c0_x0 c0_x1 c0_x2 c0_u0 c0_u1 c0_u2 c0_u3 c0_u4 c0_u5
      obtain ⟨w10, hw10, y10, al, bs⟩ := bs.alloc (w9.heap.size) rfl [.string jb4, .bool on4, .int .i64 pr4, .slice la4 LL4 lb4, .bool ask4, .slice sa4 SL4 sb4] 38
      replace o_c2 := o_c2.alloc (w9.heap.size) rfl al
      replace o_l3 := o_l3.alloc (w9.heap.size) rfl al
      replace o_s3 := o_s3.alloc (w9.heap.size) rfl al
      replace o_l4 := o_l4.alloc (w9.heap.size) rfl al
      replace o_s4 := o_s4.alloc (w9.heap.size) rfl al
      clear al
      replace q := bs.q
      rw [hw10]
      have FW : ReFit Y3.d := by rw [HY3.out]; exact HF.out.rs _ (find_someG hw1.out).1
      replace FW := Lib.hid FW
      have HC := ha_With spaceF X2 Y3 w10 (FX.out.fit o_c2.csub) (FW.out.rs (own_sub o_l3 o_s3)) FW.out.tw (HML.out.ret q)
      rw [HD2.out, HY3.out, hbk.out, e_X2.out, e_Y3.out] at HC
      replace HC := Lib.hid HC
      have c_c0 := bs.at 0 0 rfl rfl
      have c_c1 := bs.at 0 1 rfl rfl
      have c_c2 := bs.at 0 2 rfl rfl
      have c_r0 := bs.at 1 0 rfl rfl
      have c_r1 := bs.at 1 1 rfl rfl
      have c_r2 := bs.at 1 2 rfl rfl
      have c_r3 := bs.at 1 3 rfl rfl
      have c_r4 := bs.at 1 4 rfl rfl
      have c_r5 := bs.at 1 5 rfl rfl
      have c_x0 := bs.at 3 0 rfl rfl
      have c_x1 := bs.at 3 1 rfl rfl
      have c_x2 := bs.at 3 2 rfl rfl
      have c_u0 := bs.at 4 0 rfl rfl
      have c_u1 := bs.at 4 1 rfl rfl
      have c_u2 := bs.at 4 2 rfl rfl
      have c_u3 := bs.at 4 3 rfl rfl
      have c_u4 := bs.at 4 4 rfl rfl
      have c_u5 := bs.at 4 5 rfl rfl
      go_wp2_with fail
      refine HC.out.mono ?_
      rintro e w11 ⟨X5, rfl, hd, ho, hb⟩
      clear c_c0 c_c1 c_c2 c_r0 c_r1 c_r2 c_r3 c_r4 c_r5 c_x0 c_x1 c_x2 c_u0 c_u1 c_u2 c_u3 c_u4 c_u5
      have o_c5 := OwC.mk' bs ho
      clear ho HC
      replace o_c2 := o_c2.ret hb
      replace o_l3 := o_l3.ret hb
      replace o_s3 := o_s3.ret hb
      replace o_l4 := o_l4.ret hb
      replace o_s4 := o_s4.ret hb
      replace bs := bs.ret hb
      replace q := bs.q
      clear hb
      have HD5 := Lib.hid hd
      clear hd
      obtain ⟨a5, ha5⟩ : ∃ x, X5.aa.1 = x := ⟨_, rfl⟩
      obtain ⟨b5, hb5⟩ : ∃ x, X5.aa.2 = x := ⟨_, rfl⟩
      obtain ⟨LA5, hLA5⟩ : ∃ x, X5.A.length = x := ⟨_, rfl⟩
      obtain ⟨r5, hr5⟩ : ∃ x, X5.ra.1 = x := ⟨_, rfl⟩
      obtain ⟨s5, hs5⟩ : ∃ x, X5.ra.2 = x := ⟨_, rfl⟩
      obtain ⟨LR5, hLR5⟩ : ∃ x, X5.R.length = x := ⟨_, rfl⟩
      obtain ⟨m5, hm5⟩ : ∃ x, X5.m = x := ⟨_, rfl⟩
      have e_X5 : X5.v = .agg #[.slice a5 LA5 b5, .slice r5 LR5 s5, .int .i64 m5] := by rw [← ha5, ← hb5, ← hLA5, ← hr5, ← hs5, ← hLR5, ← hm5]
      rw [e_X5]
      replace ha5 := Lib.hid ha5
      replace hb5 := Lib.hid hb5
      replace hLA5 := Lib.hid hLA5
      replace hr5 := Lib.hid hr5
      replace hs5 := Lib.hid hs5
      replace hLR5 := Lib.hid hLR5
      replace hm5 := Lib.hid hm5
      replace e_X5 := Lib.hid e_X5
      have c_c0 := bs.at 0 0 rfl rfl
      have c_c1 := bs.at 0 1 rfl rfl
      have c_c2 := bs.at 0 2 rfl rfl
      have c_r0 := bs.at 1 0 rfl rfl
      have c_r1 := bs.at 1 1 rfl rfl
      have c_r2 := bs.at 1 2 rfl rfl
      have c_r3 := bs.at 1 3 rfl rfl
      have c_r4 := bs.at 1 4 rfl rfl
      have c_r5 := bs.at 1 5 rfl rfl
      have c_x0 := bs.at 3 0 rfl rfl
      have c_x1 := bs.at 3 1 rfl rfl
      have c_x2 := bs.at 3 2 rfl rfl
      have c_u0 := bs.at 4 0 rfl rfl
      have c_u1 := bs.at 4 1 rfl rfl
      have c_u2 := bs.at 4 2 rfl rfl
      have c_u3 := bs.at 4 3 rfl rfl
      have c_u4 := bs.at 4 4 rfl rfl
      have c_u5 := bs.at 4 5 rfl rfl
      have c_v0 := bs.at 5 0 rfl rfl
      have c_v1 := bs.at 5 1 rfl rfl
      have c_v2 := bs.at 5 2 rfl rfl
      have c_v3 := bs.at 5 3 rfl rfl
      have c_v4 := bs.at 5 4 rfl rfl
      have c_v5 := bs.at 5 5 rfl rfl
      have d0 := (bs.lit (w11.heap.size) rfl [.slice a5 LA5 b5, .slice r5 LR5 s5, .int .i64 m5] 25)
      have c0_n00 := d0.at 6 0 rfl rfl
      have c0_n01 := d0.at 6 1 rfl rfl
      have c0_n02 := d0.at 6 2 rfl rfl
      have c0_c0 := d0.at 0 0 rfl rfl
      have c0_c1 := d0.at 0 1 rfl rfl
      have c0_c2 := d0.at 0 2 rfl rfl
      have c0_r0 := d0.at 1 0 rfl rfl
      have c0_r1 := d0.at 1 1 rfl rfl
      have c0_r2 := d0.at 1 2 rfl rfl
      have c0_r3 := d0.at 1 3 rfl rfl
      have c0_r4 := d0.at 1 4 rfl rfl
      have c0_r5 := d0.at 1 5 rfl rfl
      have c0_x0 := d0.at 3 0 rfl rfl
      have c0_x1 := d0.at 3 1 rfl rfl
      have c0_x2 := d0.at 3 2 rfl rfl
      have c0_u0 := d0.at 4 0 rfl rfl
      have c0_u1 := d0.at 4 1 rfl rfl
      have c0_u2 := d0.at 4 2 rfl rfl
      have c0_u3 := d0.at 4 3 rfl rfl
      have c0_u4 := d0.at 4 4 rfl rfl
      have c0_u5 := d0.at 4 5 rfl rfl
      have c0_v0 := d0.at 5 0 rfl rfl
      have c0_v1 := d0.at 5 1 rfl rfl
      have c0_v2 := d0.at 5 2 rfl rfl
      have c0_v3 := d0.at 5 3 rfl rfl
      have c0_v4 := d0.at 5 4 rfl rfl
      have c0_v5 := d0.at 5 5 rfl rfl
      go_wp2_with fail
      clear c_c0 c_c1 c_c2 c_r0 c_r1 c_r2 c_r3 c_r4 c_r5 c_x0 c_x1 c_x2 c_u0 c_u1 c_u2 c_u3 c_u4 c_u5 c_v0 c_v1 c_v2 c_v3 c_v4 c_v5 d0 c0_n00 c0_n01 c0_n02 c0_c0 c0_c1 c0_c2 c0_r0 c0_r1 c0_r2 c0_r3 c0_r4 c0_r5 c0_x0 c0_x1 c0_x2 c0_u0 c0_u1 c0_u2 c0_u3 c0_u4 c0_u5 c0_v0 c0_v1 c0_v2 c0_v3 c0_v4 c0_v5
      obtain ⟨w12, hw12, y12, al, bs⟩ := bs.alloc (w11.heap.size) rfl [.slice a5 LA5 b5, .slice r5 LR5 s5, .int .i64 m5] 25
      replace o_c2 := o_c2.alloc (w11.heap.size) rfl al
      replace o_l3 := o_l3.alloc (w11.heap.size) rfl al
      replace o_s3 := o_s3.alloc (w11.heap.size) rfl al
      replace o_l4 := o_l4.alloc (w11.heap.size) rfl al
      replace o_s4 := o_s4.alloc (w11.heap.size) rfl al
      replace o_c5 := o_c5.alloc (w11.heap.size) rfl al
      clear al
      replace q := bs.q
      rw [hw12]
      have CR : Calls Tryz.prog 19 #[.agg #[.string jb4, .bool on4, .int .i64 pr4, .slice la4 LL4 lb4, .bool ask4, .slice sa4 SL4 sb4], .agg #[.string jb7, .bool on7, .int .i64 pr7, .slice la7 LL7 lb7, .bool ask7, .slice sa7 SL7 sb7]] w12 (Ret w12 (.bool true)) := by have h := CSr.out w12 q Y4 (own_sub o_l4 o_s4) HFr.out HY4.out; rw [decide_eq_true HY4.out, e_Y4.out] at h; exact h
      replace CR := Lib.hid CR
      have c_c0 := bs.at 0 0 rfl rfl
      have c_c1 := bs.at 0 1 rfl rfl
      have c_c2 := bs.at 0 2 rfl rfl
      have c_r0 := bs.at 1 0 rfl rfl
      have c_r1 := bs.at 1 1 rfl rfl
      have c_r2 := bs.at 1 2 rfl rfl
      have c_r3 := bs.at 1 3 rfl rfl
      have c_r4 := bs.at 1 4 rfl rfl
      have c_r5 := bs.at 1 5 rfl rfl
      have c_x0 := bs.at 3 0 rfl rfl
      have c_x1 := bs.at 3 1 rfl rfl
      have c_x2 := bs.at 3 2 rfl rfl
      have c_v0 := bs.at 5 0 rfl rfl
      have c_v1 := bs.at 5 1 rfl rfl
      have c_v2 := bs.at 5 2 rfl rfl
      have c_v3 := bs.at 5 3 rfl rfl
      have c_v4 := bs.at 5 4 rfl rfl
      have c_v5 := bs.at 5 5 rfl rfl
      have c_y0 := bs.at 6 0 rfl rfl
      have c_y1 := bs.at 6 1 rfl rfl
      have c_y2 := bs.at 6 2 rfl rfl
      go_wp2_with fail
      refine (CR.out).mono ?_
      rintro e w13 ⟨rfl, hb⟩
      clear c_c0 c_c1 c_c2 c_r0 c_r1 c_r2 c_r3 c_r4 c_r5 c_x0 c_x1 c_x2 c_v0 c_v1 c_v2 c_v3 c_v4 c_v5 c_y0 c_y1 c_y2
      replace o_c2 := o_c2.ret hb
      replace o_l3 := o_l3.ret hb
      replace o_s3 := o_s3.ret hb
      replace o_l4 := o_l4.ret hb
      replace o_s4 := o_s4.ret hb
      replace o_c5 := o_c5.ret hb
      replace bs := bs.ret hb
      replace q := bs.q
      clear hb
      clear CR
      have CSS : Calls Tryz.prog 32 #[.agg #[.slice a5 LA5 b5, .slice r5 LR5 s5, .int .i64 m5], .agg #[.slice a1 LA1 b1, .slice r1 LR1 s1, .int .i64 m1]] w13 (Ret w13 (.bool true)) := by have h := CS.out w13 q X5 o_c5.csub HF.out HD5.out; rw [decide_eq_true HD5.out, e_X5.out] at h; exact h
      replace CSS := Lib.hid CSS
      have c_c0 := bs.at 0 0 rfl rfl
      have c_c1 := bs.at 0 1 rfl rfl
      have c_c2 := bs.at 0 2 rfl rfl
      have c_r0 := bs.at 1 0 rfl rfl
      have c_r1 := bs.at 1 1 rfl rfl
      have c_r2 := bs.at 1 2 rfl rfl
      have c_r3 := bs.at 1 3 rfl rfl
      have c_r4 := bs.at 1 4 rfl rfl
      have c_r5 := bs.at 1 5 rfl rfl
      have c_x0 := bs.at 3 0 rfl rfl
      have c_x1 := bs.at 3 1 rfl rfl
      have c_x2 := bs.at 3 2 rfl rfl
      have c_v0 := bs.at 5 0 rfl rfl
      have c_v1 := bs.at 5 1 rfl rfl
      have c_v2 := bs.at 5 2 rfl rfl
      have c_v3 := bs.at 5 3 rfl rfl
      have c_v4 := bs.at 5 4 rfl rfl
      have c_v5 := bs.at 5 5 rfl rfl
      have c_y0 := bs.at 6 0 rfl rfl
      have c_y1 := bs.at 6 1 rfl rfl
      have c_y2 := bs.at 6 2 rfl rfl
      go_wp2_with fail
      refine (CSS.out).mono ?_
      rintro e w14 ⟨rfl, hb⟩
      clear c_c0 c_c1 c_c2 c_r0 c_r1 c_r2 c_r3 c_r4 c_r5 c_x0 c_x1 c_x2 c_v0 c_v1 c_v2 c_v3 c_v4 c_v5 c_y0 c_y1 c_y2
      replace o_c2 := o_c2.ret hb
      replace o_l3 := o_l3.ret hb
      replace o_s3 := o_s3.ret hb
      replace o_l4 := o_l4.ret hb
      replace o_s4 := o_s4.ret hb
      replace o_c5 := o_c5.ret hb
      replace bs := bs.ret hb
      replace q := bs.q
      clear hb
      clear CSS
      have CK : Calls Tryz.prog 30 #[.agg #[.slice a2 LA2 b2, .slice r2 LR2 s2, .int .i64 m2]] w14 (Ret w14 (.int .i64 0)) := by have h := ha_Check spaceF X2 w14 (FX.out.fit o_c2.csub) (HML.out.ret q); rw [HD2.out, hcx.out, e_X2.out] at h; exact h
      replace CK := Lib.hid CK
      have c_c0 := bs.at 0 0 rfl rfl
      have c_c1 := bs.at 0 1 rfl rfl
      have c_c2 := bs.at 0 2 rfl rfl
      have c_r0 := bs.at 1 0 rfl rfl
      have c_r1 := bs.at 1 1 rfl rfl
      have c_r2 := bs.at 1 2 rfl rfl
      have c_r3 := bs.at 1 3 rfl rfl
      have c_r4 := bs.at 1 4 rfl rfl
      have c_r5 := bs.at 1 5 rfl rfl
      have c_x0 := bs.at 3 0 rfl rfl
      have c_x1 := bs.at 3 1 rfl rfl
      have c_x2 := bs.at 3 2 rfl rfl
      have c_v0 := bs.at 5 0 rfl rfl
      have c_v1 := bs.at 5 1 rfl rfl
      have c_v2 := bs.at 5 2 rfl rfl
      have c_v3 := bs.at 5 3 rfl rfl
      have c_v4 := bs.at 5 4 rfl rfl
      have c_v5 := bs.at 5 5 rfl rfl
      have c_y0 := bs.at 6 0 rfl rfl
      have c_y1 := bs.at 6 1 rfl rfl
      have c_y2 := bs.at 6 2 rfl rfl
      go_wp2_with fail
      refine (CK.out).mono ?_
      rintro e w15 ⟨rfl, hb⟩
      clear c_c0 c_c1 c_c2 c_r0 c_r1 c_r2 c_r3 c_r4 c_r5 c_x0 c_x1 c_x2 c_v0 c_v1 c_v2 c_v3 c_v4 c_v5 c_y0 c_y1 c_y2
      replace o_c2 := o_c2.ret hb
      replace o_l3 := o_l3.ret hb
      replace o_s3 := o_s3.ret hb
      replace o_l4 := o_l4.ret hb
      replace o_s4 := o_s4.ret hb
      replace o_c5 := o_c5.ret hb
      replace bs := bs.ret hb
      replace q := bs.q
      clear hb
      clear CK
      have CP1 := fun (W : World) (hb : Below w.heap.size w W) => CP.out W hb HF.out HFa.out
      have hfz := HF.out.keep (p := spaceF) HFa.out
      have hlaz := @keep_law spaceF D AD
      have hnz := @keep_not spaceF D AD
      obtain ⟨B, hB⟩ : ∃ B, keepF spaceF D AD = B := ⟨_, rfl⟩
      simp only [hB] at CP1 hfz hlaz hnz
      obtain ⟨ZD, er2⟩ := B
      simp only at hfz hlaz hnz
      clear hB
      replace CP1 := Lib.hid CP1
      replace hfz := Lib.hid hfz
      replace hlaz := Lib.hid hlaz
      replace hnz := Lib.hid hnz
      have HC := CP1.out w15 q
      replace HC := Lib.hid HC
      have c_c0 := bs.at 0 0 rfl rfl
      have c_c1 := bs.at 0 1 rfl rfl
      have c_c2 := bs.at 0 2 rfl rfl
      have c_r0 := bs.at 1 0 rfl rfl
      have c_r1 := bs.at 1 1 rfl rfl
      have c_r2 := bs.at 1 2 rfl rfl
      have c_r3 := bs.at 1 3 rfl rfl
      have c_r4 := bs.at 1 4 rfl rfl
      have c_r5 := bs.at 1 5 rfl rfl
      have c_a0 := bs.at 2 0 rfl rfl
      have c_a1 := bs.at 2 1 rfl rfl
      have c_a2 := bs.at 2 2 rfl rfl
      go_wp2_with fail
      refine HC.out.mono ?_
      rintro e w16 ⟨X10, rfl, hd, ho, hb⟩
      clear c_c0 c_c1 c_c2 c_r0 c_r1 c_r2 c_r3 c_r4 c_r5 c_a0 c_a1 c_a2
      have o_c10 := OwC.mk' bs ho
      clear ho HC
      replace o_c2 := o_c2.ret hb
      replace o_l3 := o_l3.ret hb
      replace o_s3 := o_s3.ret hb
      replace o_l4 := o_l4.ret hb
      replace o_s4 := o_s4.ret hb
      replace o_c5 := o_c5.ret hb
      replace bs := bs.ret hb
      replace q := bs.q
      clear hb
      have HD10 := Lib.hid hd
      clear hd
      obtain ⟨a10, ha10⟩ : ∃ x, X10.aa.1 = x := ⟨_, rfl⟩
      obtain ⟨b10, hb10⟩ : ∃ x, X10.aa.2 = x := ⟨_, rfl⟩
      obtain ⟨LA10, hLA10⟩ : ∃ x, X10.A.length = x := ⟨_, rfl⟩
      obtain ⟨r10, hr10⟩ : ∃ x, X10.ra.1 = x := ⟨_, rfl⟩
      obtain ⟨s10, hs10⟩ : ∃ x, X10.ra.2 = x := ⟨_, rfl⟩
      obtain ⟨LR10, hLR10⟩ : ∃ x, X10.R.length = x := ⟨_, rfl⟩
      obtain ⟨m10, hm10⟩ : ∃ x, X10.m = x := ⟨_, rfl⟩
      have e_X10 : X10.v = .agg #[.slice a10 LA10 b10, .slice r10 LR10 s10, .int .i64 m10] := by rw [← ha10, ← hb10, ← hLA10, ← hr10, ← hs10, ← hLR10, ← hm10]
      rw [e_X10]
      replace ha10 := Lib.hid ha10
      replace hb10 := Lib.hid hb10
      replace hLA10 := Lib.hid hLA10
      replace hr10 := Lib.hid hr10
      replace hs10 := Lib.hid hs10
      replace hLR10 := Lib.hid hLR10
      replace hm10 := Lib.hid hm10
      replace e_X10 := Lib.hid e_X10
      by_cases he2 : er2 = 0
      ·subst he2
       have c_c0 := bs.at 0 0 rfl rfl
       have c_c1 := bs.at 0 1 rfl rfl
       have c_c2 := bs.at 0 2 rfl rfl
       have c_r0 := bs.at 1 0 rfl rfl
       have c_r1 := bs.at 1 1 rfl rfl
       have c_r2 := bs.at 1 2 rfl rfl
       have c_r3 := bs.at 1 3 rfl rfl
       have c_r4 := bs.at 1 4 rfl rfl
       have c_r5 := bs.at 1 5 rfl rfl
       have c_a0 := bs.at 2 0 rfl rfl
       have c_a1 := bs.at 2 1 rfl rfl
       have c_a2 := bs.at 2 2 rfl rfl
       have d0 := (bs.lit (w16.heap.size) rfl [.slice a10 LA10 b10, .slice r10 LR10 s10, .int .i64 m10] 25)
       have c0_n00 := d0.at 7 0 rfl rfl
       have c0_n01 := d0.at 7 1 rfl rfl
       have c0_n02 := d0.at 7 2 rfl rfl
       have c0_c0 := d0.at 0 0 rfl rfl
       have c0_c1 := d0.at 0 1 rfl rfl
       have c0_c2 := d0.at 0 2 rfl rfl
       have c0_r0 := d0.at 1 0 rfl rfl
       have c0_r1 := d0.at 1 1 rfl rfl
       have c0_r2 := d0.at 1 2 rfl rfl
       have c0_r3 := d0.at 1 3 rfl rfl
       have c0_r4 := d0.at 1 4 rfl rfl
       have c0_r5 := d0.at 1 5 rfl rfl
       have c0_a0 := d0.at 2 0 rfl rfl
       have c0_a1 := d0.at 2 1 rfl rfl
       have c0_a2 := d0.at 2 2 rfl rfl
       go_wp2_with fail
       clear c_c0 c_c1 c_c2 c_r0 c_r1 c_r2 c_r3 c_r4 c_r5 c_a0 c_a1 c_a2 d0 c0_n00 c0_n01 c0_n02 c0_c0 c0_c1 c0_c2 c0_r0 c0_r1 c0_r2 c0_r3 c0_r4 c0_r5 c0_a0 c0_a1 c0_a2
       obtain ⟨w17, hw17, y17, al, bs⟩ := bs.alloc (w16.heap.size) rfl [.slice a10 LA10 b10, .slice r10 LR10 s10, .int .i64 m10] 25
       replace o_c2 := o_c2.alloc (w16.heap.size) rfl al
       replace o_l3 := o_l3.alloc (w16.heap.size) rfl al
       replace o_s3 := o_s3.alloc (w16.heap.size) rfl al
       replace o_l4 := o_l4.alloc (w16.heap.size) rfl al
       replace o_s4 := o_s4.alloc (w16.heap.size) rfl al
       replace o_c5 := o_c5.alloc (w16.heap.size) rfl al
       replace o_c10 := o_c10.alloc (w16.heap.size) rfl al
       clear al
       replace q := bs.q
       rw [hw17]
       obtain ⟨was2, hwz, hbz, hcz, -, -⟩ := hlaz.out (by first | rfl | trivial)
       replace hwz := Lib.hid hwz
       replace hbz := Lib.hid hbz
       replace hcz := Lib.hid hcz
       have FZ : CoFitD X10.d := by rw [HD10.out]; exact hfz.out
       replace FZ := Lib.hid FZ
       clear hnz hlaz
       have HC := find_is (CF.out w17 q HF.out AD.1) hwz.out
       rw [HJA.out] at HC
       replace HC := Lib.hid HC
       have c_c0 := bs.at 0 0 rfl rfl
       have c_c1 := bs.at 0 1 rfl rfl
       have c_c2 := bs.at 0 2 rfl rfl
       have c_a0 := bs.at 2 0 rfl rfl
       have c_a1 := bs.at 2 1 rfl rfl
       have c_a2 := bs.at 2 2 rfl rfl
       have c_z0 := bs.at 7 0 rfl rfl
       have c_z1 := bs.at 7 1 rfl rfl
       have c_z2 := bs.at 7 2 rfl rfl
       go_wp2_with fail
       refine HC.out.mono ?_
       rintro e w18 ⟨Z11, rfl, hd, ho, hb⟩
       clear c_c0 c_c1 c_c2 c_a0 c_a1 c_a2 c_z0 c_z1 c_z2
       have o_i11 : IsItems Z11.iv Z11.it w18 := OwI.items ho
       clear ho HC
       replace o_c2 := o_c2.ret hb
       replace o_l3 := o_l3.ret hb
       replace o_s3 := o_s3.ret hb
       replace o_l4 := o_l4.ret hb
       replace o_s4 := o_s4.ret hb
       replace o_c5 := o_c5.ret hb
       replace o_c10 := o_c10.ret hb
       replace bs := bs.ret hb
       replace q := bs.q
       clear hb
       have HZ11 := Lib.hid hd
       clear hd
       obtain ⟨ia11, hia11⟩ : ∃ x, Z11.ia.1 = x := ⟨_, rfl⟩
       obtain ⟨ib11, hib11⟩ : ∃ x, Z11.ia.2 = x := ⟨_, rfl⟩
       obtain ⟨IL11, hIL11⟩ : ∃ x, Z11.it.length = x := ⟨_, rfl⟩
       obtain ⟨ver11, hver11⟩ : ∃ x, Z11.ver = x := ⟨_, rfl⟩
       obtain ⟨jb11, hjb11⟩ : ∃ b, ByteArray.mk Z11.j.toArray = b := ⟨_, rfl⟩
       have e_Z11 : Z11.v = .agg #[.string jb11, .slice ia11 IL11 ib11, .int .i64 ver11] := by rw [← hia11, ← hib11, ← hIL11, ← hver11, ← hjb11]
       rw [e_Z11]
       replace hia11 := Lib.hid hia11
       replace hib11 := Lib.hid hib11
       replace hIL11 := Lib.hid hIL11
       replace hver11 := Lib.hid hver11
       replace hjb11 := Lib.hid hjb11
       replace e_Z11 := Lib.hid e_Z11
       have c_c0 := bs.at 0 0 rfl rfl
       have c_c1 := bs.at 0 1 rfl rfl
       have c_c2 := bs.at 0 2 rfl rfl
       have c_a0 := bs.at 2 0 rfl rfl
       have c_a1 := bs.at 2 1 rfl rfl
       have c_a2 := bs.at 2 2 rfl rfl
       have c_z0 := bs.at 7 0 rfl rfl
       have c_z1 := bs.at 7 1 rfl rfl
       have c_z2 := bs.at 7 2 rfl rfl
       have d0 := (bs.lit (w18.heap.size) rfl [.string jb11, .slice ia11 IL11 ib11, .int .i64 ver11] 33)
       have c0_n00 := d0.at 8 0 rfl rfl
       have c0_n01 := d0.at 8 1 rfl rfl
       have c0_n02 := d0.at 8 2 rfl rfl
       have c0_c0 := d0.at 0 0 rfl rfl
       have c0_c1 := d0.at 0 1 rfl rfl
       have c0_c2 := d0.at 0 2 rfl rfl
       have c0_a0 := d0.at 2 0 rfl rfl
       have c0_a1 := d0.at 2 1 rfl rfl
       have c0_a2 := d0.at 2 2 rfl rfl
       have c0_z0 := d0.at 7 0 rfl rfl
       have c0_z1 := d0.at 7 1 rfl rfl
       have c0_z2 := d0.at 7 2 rfl rfl
       go_wp2_with fail
       clear c_c0 c_c1 c_c2 c_a0 c_a1 c_a2 c_z0 c_z1 c_z2 d0 c0_n00 c0_n01 c0_n02 c0_c0 c0_c1 c0_c2 c0_a0 c0_a1 c0_a2 c0_z0 c0_z1 c0_z2
       obtain ⟨w19, hw19, y19, al, bs⟩ := bs.alloc (w18.heap.size) rfl [.string jb11, .slice ia11 IL11 ib11, .int .i64 ver11] 33
       replace o_c2 := o_c2.alloc (w18.heap.size) rfl al
       replace o_l3 := o_l3.alloc (w18.heap.size) rfl al
       replace o_s3 := o_s3.alloc (w18.heap.size) rfl al
       replace o_l4 := o_l4.alloc (w18.heap.size) rfl al
       replace o_s4 := o_s4.alloc (w18.heap.size) rfl al
       replace o_c5 := o_c5.alloc (w18.heap.size) rfl al
       replace o_c10 := o_c10.alloc (w18.heap.size) rfl al
       replace o_i11 := o_i11.ret al
       clear al
       replace q := bs.q
       rw [hw19]
       have FA11 : AcFit Z11.d := by rw [HZ11.out]; exact HF.out.ac _ (find_someG hwz.out).1
       replace FA11 := Lib.hid FA11
       have HC := ha_Keep spaceF X10 Z11 w19 (FZ.out.fit o_c10.csub) o_i11 FA11.out.small FA11.out.j (HML.out.ret q)
       rw [HD10.out, HZ11.out, hbz.out, e_X10.out, e_Z11.out] at HC
       replace HC := Lib.hid HC
       have c_c0 := bs.at 0 0 rfl rfl
       have c_c1 := bs.at 0 1 rfl rfl
       have c_c2 := bs.at 0 2 rfl rfl
       have c_z0 := bs.at 7 0 rfl rfl
       have c_z1 := bs.at 7 1 rfl rfl
       have c_z2 := bs.at 7 2 rfl rfl
       have c_k0 := bs.at 8 0 rfl rfl
       have c_k1 := bs.at 8 1 rfl rfl
       have c_k2 := bs.at 8 2 rfl rfl
       go_wp2_with fail
       refine HC.out.mono ?_
       rintro e w20 ⟨X12, rfl, hd, ho, hb⟩
       clear c_c0 c_c1 c_c2 c_z0 c_z1 c_z2 c_k0 c_k1 c_k2
       have o_c12 := OwC.mk' bs ho
       clear ho HC
       replace o_c2 := o_c2.ret hb
       replace o_l3 := o_l3.ret hb
       replace o_s3 := o_s3.ret hb
       replace o_l4 := o_l4.ret hb
       replace o_s4 := o_s4.ret hb
       replace o_c5 := o_c5.ret hb
       replace o_c10 := o_c10.ret hb
       replace o_i11 := o_i11.ret hb
       replace bs := bs.ret hb
       replace q := bs.q
       clear hb
       have HD12 := Lib.hid hd
       clear hd
       obtain ⟨a12, ha12⟩ : ∃ x, X12.aa.1 = x := ⟨_, rfl⟩
       obtain ⟨b12, hb12⟩ : ∃ x, X12.aa.2 = x := ⟨_, rfl⟩
       obtain ⟨LA12, hLA12⟩ : ∃ x, X12.A.length = x := ⟨_, rfl⟩
       obtain ⟨r12, hr12⟩ : ∃ x, X12.ra.1 = x := ⟨_, rfl⟩
       obtain ⟨s12, hs12⟩ : ∃ x, X12.ra.2 = x := ⟨_, rfl⟩
       obtain ⟨LR12, hLR12⟩ : ∃ x, X12.R.length = x := ⟨_, rfl⟩
       obtain ⟨m12, hm12⟩ : ∃ x, X12.m = x := ⟨_, rfl⟩
       have e_X12 : X12.v = .agg #[.slice a12 LA12 b12, .slice r12 LR12 s12, .int .i64 m12] := by rw [← ha12, ← hb12, ← hLA12, ← hr12, ← hs12, ← hLR12, ← hm12]
       rw [e_X12]
       replace ha12 := Lib.hid ha12
       replace hb12 := Lib.hid hb12
       replace hLA12 := Lib.hid hLA12
       replace hr12 := Lib.hid hr12
       replace hs12 := Lib.hid hs12
       replace hLR12 := Lib.hid hLR12
       replace hm12 := Lib.hid hm12
       replace e_X12 := Lib.hid e_X12
       have c_c0 := bs.at 0 0 rfl rfl
       have c_c1 := bs.at 0 1 rfl rfl
       have c_c2 := bs.at 0 2 rfl rfl
       have c_z0 := bs.at 7 0 rfl rfl
       have c_z1 := bs.at 7 1 rfl rfl
       have c_z2 := bs.at 7 2 rfl rfl
       have c_k0 := bs.at 8 0 rfl rfl
       have c_k1 := bs.at 8 1 rfl rfl
       have c_k2 := bs.at 8 2 rfl rfl
       have d0 := (bs.lit (w20.heap.size) rfl [.slice a12 LA12 b12, .slice r12 LR12 s12, .int .i64 m12] 25)
       have c0_n00 := d0.at 9 0 rfl rfl
       have c0_n01 := d0.at 9 1 rfl rfl
       have c0_n02 := d0.at 9 2 rfl rfl
       have c0_c0 := d0.at 0 0 rfl rfl
       have c0_c1 := d0.at 0 1 rfl rfl
       have c0_c2 := d0.at 0 2 rfl rfl
       have c0_z0 := d0.at 7 0 rfl rfl
       have c0_z1 := d0.at 7 1 rfl rfl
       have c0_z2 := d0.at 7 2 rfl rfl
       have c0_k0 := d0.at 8 0 rfl rfl
       have c0_k1 := d0.at 8 1 rfl rfl
       have c0_k2 := d0.at 8 2 rfl rfl
       go_wp2_with fail
       clear c_c0 c_c1 c_c2 c_z0 c_z1 c_z2 c_k0 c_k1 c_k2 d0 c0_n00 c0_n01 c0_n02 c0_c0 c0_c1 c0_c2 c0_z0 c0_z1 c0_z2 c0_k0 c0_k1 c0_k2
       obtain ⟨w21, hw21, y21, al, bs⟩ := bs.alloc (w20.heap.size) rfl [.slice a12 LA12 b12, .slice r12 LR12 s12, .int .i64 m12] 25
       replace o_c2 := o_c2.alloc (w20.heap.size) rfl al
       replace o_l3 := o_l3.alloc (w20.heap.size) rfl al
       replace o_s3 := o_s3.alloc (w20.heap.size) rfl al
       replace o_l4 := o_l4.alloc (w20.heap.size) rfl al
       replace o_s4 := o_s4.alloc (w20.heap.size) rfl al
       replace o_c5 := o_c5.alloc (w20.heap.size) rfl al
       replace o_c10 := o_c10.alloc (w20.heap.size) rfl al
       replace o_i11 := o_i11.ret al
       replace o_c12 := o_c12.alloc (w20.heap.size) rfl al
       clear al
       replace q := bs.q
       rw [hw21]
       have CSS : Calls Tryz.prog 32 #[.agg #[.slice a12 LA12 b12, .slice r12 LR12 s12, .int .i64 m12], .agg #[.slice a1 LA1 b1, .slice r1 LR1 s1, .int .i64 m1]] w21 (Ret w21 (.bool true)) := by have h := CS.out w21 q X12 o_c12.csub HF.out HD12.out; rw [decide_eq_true HD12.out, e_X12.out] at h; exact h
       replace CSS := Lib.hid CSS
       have c_c0 := bs.at 0 0 rfl rfl
       have c_c1 := bs.at 0 1 rfl rfl
       have c_c2 := bs.at 0 2 rfl rfl
       have c_z0 := bs.at 7 0 rfl rfl
       have c_z1 := bs.at 7 1 rfl rfl
       have c_z2 := bs.at 7 2 rfl rfl
       have c_y20 := bs.at 9 0 rfl rfl
       have c_y21 := bs.at 9 1 rfl rfl
       have c_y22 := bs.at 9 2 rfl rfl
       go_wp2_with fail
       refine (CSS.out).mono ?_
       rintro e w22 ⟨rfl, hb⟩
       clear c_c0 c_c1 c_c2 c_z0 c_z1 c_z2 c_y20 c_y21 c_y22
       replace o_c2 := o_c2.ret hb
       replace o_l3 := o_l3.ret hb
       replace o_s3 := o_s3.ret hb
       replace o_l4 := o_l4.ret hb
       replace o_s4 := o_s4.ret hb
       replace o_c5 := o_c5.ret hb
       replace o_c10 := o_c10.ret hb
       replace o_i11 := o_i11.ret hb
       replace o_c12 := o_c12.ret hb
       replace bs := bs.ret hb
       replace q := bs.q
       clear hb
       clear CSS
       have CK : Calls Tryz.prog 30 #[.agg #[.slice a10 LA10 b10, .slice r10 LR10 s10, .int .i64 m10]] w22 (Ret w22 (.int .i64 0)) := by have h := ha_Check spaceF X10 w22 (FZ.out.fit o_c10.csub) (HML.out.ret q); rw [HD10.out, hcz.out, e_X10.out] at h; exact h
       replace CK := Lib.hid CK
       have c_c0 := bs.at 0 0 rfl rfl
       have c_c1 := bs.at 0 1 rfl rfl
       have c_c2 := bs.at 0 2 rfl rfl
       have c_z0 := bs.at 7 0 rfl rfl
       have c_z1 := bs.at 7 1 rfl rfl
       have c_z2 := bs.at 7 2 rfl rfl
       have c_y20 := bs.at 9 0 rfl rfl
       have c_y21 := bs.at 9 1 rfl rfl
       have c_y22 := bs.at 9 2 rfl rfl
       go_wp2_with fail
       refine (CK.out).mono ?_
       rintro e w23 ⟨rfl, hb⟩
       clear c_c0 c_c1 c_c2 c_z0 c_z1 c_z2 c_y20 c_y21 c_y22
       replace o_c2 := o_c2.ret hb
       replace o_l3 := o_l3.ret hb
       replace o_s3 := o_s3.ret hb
       replace o_l4 := o_l4.ret hb
       replace o_s4 := o_s4.ret hb
       replace o_c5 := o_c5.ret hb
       replace o_c10 := o_c10.ret hb
       replace o_i11 := o_i11.ret hb
       replace o_c12 := o_c12.ret hb
       replace bs := bs.ret hb
       replace q := bs.q
       clear hb
       clear CK
       have c_c0 := bs.at 0 0 rfl rfl
       have c_c1 := bs.at 0 1 rfl rfl
       have c_c2 := bs.at 0 2 rfl rfl
       have c_z0 := bs.at 7 0 rfl rfl
       have c_z1 := bs.at 7 1 rfl rfl
       have c_z2 := bs.at 7 2 rfl rfl
       have c_y20 := bs.at 9 0 rfl rfl
       have c_y21 := bs.at 9 1 rfl rfl
       have c_y22 := bs.at 9 2 rfl rfl
       go_wp2_with fail
       clear c_c0 c_c1 c_c2 c_z0 c_z1 c_z2 c_y20 c_y21 c_y22
       go_ret
       exact ⟨rfl, q⟩
      ·have hz0 := hnz.out he2
       have hl0 : LA10 = 0 := by rw [← hLA10.out]; have := congrArg (fun d : Co => d.1.length) (HD10.out.trans hz0); simpa [co0] using this
       subst hl0
       have hne2 : (er2 != 0) = true := by simpa using he2
       clear hz0
       have c_c0 := bs.at 0 0 rfl rfl
       have c_c1 := bs.at 0 1 rfl rfl
       have c_c2 := bs.at 0 2 rfl rfl
       have c_r0 := bs.at 1 0 rfl rfl
       have c_r1 := bs.at 1 1 rfl rfl
       have c_r2 := bs.at 1 2 rfl rfl
       have c_r3 := bs.at 1 3 rfl rfl
       have c_r4 := bs.at 1 4 rfl rfl
       have c_r5 := bs.at 1 5 rfl rfl
       have c_a0 := bs.at 2 0 rfl rfl
       have c_a1 := bs.at 2 1 rfl rfl
       have c_a2 := bs.at 2 2 rfl rfl
       have d0 := (bs.lit (w16.heap.size) rfl [.slice a10 0 b10, .slice r10 LR10 s10, .int .i64 m10] 25)
       have c0_n00 := d0.at 7 0 rfl rfl
       have c0_n01 := d0.at 7 1 rfl rfl
       have c0_n02 := d0.at 7 2 rfl rfl
       have c0_c0 := d0.at 0 0 rfl rfl
       have c0_c1 := d0.at 0 1 rfl rfl
       have c0_c2 := d0.at 0 2 rfl rfl
       have c0_r0 := d0.at 1 0 rfl rfl
       have c0_r1 := d0.at 1 1 rfl rfl
       have c0_r2 := d0.at 1 2 rfl rfl
       have c0_r3 := d0.at 1 3 rfl rfl
       have c0_r4 := d0.at 1 4 rfl rfl
       have c0_r5 := d0.at 1 5 rfl rfl
       have c0_a0 := d0.at 2 0 rfl rfl
       have c0_a1 := d0.at 2 1 rfl rfl
       have c0_a2 := d0.at 2 2 rfl rfl
       go_wp2_with fail
       clear c_c0 c_c1 c_c2 c_r0 c_r1 c_r2 c_r3 c_r4 c_r5 c_a0 c_a1 c_a2 d0 c0_n00 c0_n01 c0_n02 c0_c0 c0_c1 c0_c2 c0_r0 c0_r1 c0_r2 c0_r3 c0_r4 c0_r5 c0_a0 c0_a1 c0_a2
       obtain ⟨w17, hw17, y17, al, bs⟩ := bs.alloc (w16.heap.size) rfl [.slice a10 0 b10, .slice r10 LR10 s10, .int .i64 m10] 25
       replace o_c2 := o_c2.alloc (w16.heap.size) rfl al
       replace o_l3 := o_l3.alloc (w16.heap.size) rfl al
       replace o_s3 := o_s3.alloc (w16.heap.size) rfl al
       replace o_l4 := o_l4.alloc (w16.heap.size) rfl al
       replace o_s4 := o_s4.alloc (w16.heap.size) rfl al
       replace o_c5 := o_c5.alloc (w16.heap.size) rfl al
       replace o_c10 := o_c10.alloc (w16.heap.size) rfl al
       clear al
       replace q := bs.q
       rw [hw17]
       have c_z0 := bs.at 7 0 rfl rfl
       have c_z1 := bs.at 7 1 rfl rfl
       have c_z2 := bs.at 7 2 rfl rfl
       go_wp2_with fail
       clear c_z0 c_z1 c_z2
       go_ret
       exact ⟨rfl, q⟩
     ·have hne : (er != 0) = true := by simpa using he
      have heq : (er == 0) = false := by simpa using he
      clear hlaw hno
      have c_c0 := bs.at 0 0 rfl rfl
      have c_c1 := bs.at 0 1 rfl rfl
      have c_c2 := bs.at 0 2 rfl rfl
      have c_r0 := bs.at 1 0 rfl rfl
      have c_r1 := bs.at 1 1 rfl rfl
      have c_r2 := bs.at 1 2 rfl rfl
      have c_r3 := bs.at 1 3 rfl rfl
      have c_r4 := bs.at 1 4 rfl rfl
      have c_r5 := bs.at 1 5 rfl rfl
      have c_a0 := bs.at 2 0 rfl rfl
      have c_a1 := bs.at 2 1 rfl rfl
      have c_a2 := bs.at 2 2 rfl rfl
      have d0 := (bs.lit (w5.heap.size) rfl [.slice a2 LA2 b2, .slice r2 LR2 s2, .int .i64 m2] 25)
      have c0_n00 := d0.at 3 0 rfl rfl
      have c0_n01 := d0.at 3 1 rfl rfl
      have c0_n02 := d0.at 3 2 rfl rfl
      have c0_c0 := d0.at 0 0 rfl rfl
      have c0_c1 := d0.at 0 1 rfl rfl
      have c0_c2 := d0.at 0 2 rfl rfl
      have c0_r0 := d0.at 1 0 rfl rfl
      have c0_r1 := d0.at 1 1 rfl rfl
      have c0_r2 := d0.at 1 2 rfl rfl
      have c0_r3 := d0.at 1 3 rfl rfl
      have c0_r4 := d0.at 1 4 rfl rfl
      have c0_r5 := d0.at 1 5 rfl rfl
      have c0_a0 := d0.at 2 0 rfl rfl
      have c0_a1 := d0.at 2 1 rfl rfl
      have c0_a2 := d0.at 2 2 rfl rfl
      go_wp2_with fail
      clear c_c0 c_c1 c_c2 c_r0 c_r1 c_r2 c_r3 c_r4 c_r5 c_a0 c_a1 c_a2 d0 c0_n00 c0_n01 c0_n02 c0_c0 c0_c1 c0_c2 c0_r0 c0_r1 c0_r2 c0_r3 c0_r4 c0_r5 c0_a0 c0_a1 c0_a2
      obtain ⟨w6, hw6, y6, al, bs⟩ := bs.alloc (w5.heap.size) rfl [.slice a2 LA2 b2, .slice r2 LR2 s2, .int .i64 m2] 25
      replace o_c2 := o_c2.alloc (w5.heap.size) rfl al
      clear al
      replace q := bs.q
      rw [hw6]
      have CP1 := fun (W : World) (hb : Below w.heap.size w W) => CP.out W hb HF.out HFa.out
      have hfz := HF.out.keep (p := spaceF) HFa.out
      have hlaz := @keep_law spaceF D AD
      have hnz := @keep_not spaceF D AD
      obtain ⟨B, hB⟩ : ∃ B, keepF spaceF D AD = B := ⟨_, rfl⟩
      simp only [hB] at CP1 hfz hlaz hnz
      obtain ⟨ZD, er2⟩ := B
      simp only at hfz hlaz hnz
      clear hB
      replace CP1 := Lib.hid CP1
      replace hfz := Lib.hid hfz
      replace hlaz := Lib.hid hlaz
      replace hnz := Lib.hid hnz
      have HC := CP1.out w6 q
      replace HC := Lib.hid HC
      have c_c0 := bs.at 0 0 rfl rfl
      have c_c1 := bs.at 0 1 rfl rfl
      have c_c2 := bs.at 0 2 rfl rfl
      have c_r0 := bs.at 1 0 rfl rfl
      have c_r1 := bs.at 1 1 rfl rfl
      have c_r2 := bs.at 1 2 rfl rfl
      have c_r3 := bs.at 1 3 rfl rfl
      have c_r4 := bs.at 1 4 rfl rfl
      have c_r5 := bs.at 1 5 rfl rfl
      have c_a0 := bs.at 2 0 rfl rfl
      have c_a1 := bs.at 2 1 rfl rfl
      have c_a2 := bs.at 2 2 rfl rfl
      go_wp2_with fail
      refine HC.out.mono ?_
      rintro e w7 ⟨X10, rfl, hd, ho, hb⟩
      clear c_c0 c_c1 c_c2 c_r0 c_r1 c_r2 c_r3 c_r4 c_r5 c_a0 c_a1 c_a2
      have o_c10 := OwC.mk' bs ho
      clear ho HC
      replace o_c2 := o_c2.ret hb
      replace bs := bs.ret hb
      replace q := bs.q
      clear hb
      have HD10 := Lib.hid hd
      clear hd
      obtain ⟨a10, ha10⟩ : ∃ x, X10.aa.1 = x := ⟨_, rfl⟩
      obtain ⟨b10, hb10⟩ : ∃ x, X10.aa.2 = x := ⟨_, rfl⟩
      obtain ⟨LA10, hLA10⟩ : ∃ x, X10.A.length = x := ⟨_, rfl⟩
      obtain ⟨r10, hr10⟩ : ∃ x, X10.ra.1 = x := ⟨_, rfl⟩
      obtain ⟨s10, hs10⟩ : ∃ x, X10.ra.2 = x := ⟨_, rfl⟩
      obtain ⟨LR10, hLR10⟩ : ∃ x, X10.R.length = x := ⟨_, rfl⟩
      obtain ⟨m10, hm10⟩ : ∃ x, X10.m = x := ⟨_, rfl⟩
      have e_X10 : X10.v = .agg #[.slice a10 LA10 b10, .slice r10 LR10 s10, .int .i64 m10] := by rw [← ha10, ← hb10, ← hLA10, ← hr10, ← hs10, ← hLR10, ← hm10]
      rw [e_X10]
      replace ha10 := Lib.hid ha10
      replace hb10 := Lib.hid hb10
      replace hLA10 := Lib.hid hLA10
      replace hr10 := Lib.hid hr10
      replace hs10 := Lib.hid hs10
      replace hLR10 := Lib.hid hLR10
      replace hm10 := Lib.hid hm10
      replace e_X10 := Lib.hid e_X10
      by_cases he2 : er2 = 0
      ·subst he2
       have c_c0 := bs.at 0 0 rfl rfl
       have c_c1 := bs.at 0 1 rfl rfl
       have c_c2 := bs.at 0 2 rfl rfl
       have c_r0 := bs.at 1 0 rfl rfl
       have c_r1 := bs.at 1 1 rfl rfl
       have c_r2 := bs.at 1 2 rfl rfl
       have c_r3 := bs.at 1 3 rfl rfl
       have c_r4 := bs.at 1 4 rfl rfl
       have c_r5 := bs.at 1 5 rfl rfl
       have c_a0 := bs.at 2 0 rfl rfl
       have c_a1 := bs.at 2 1 rfl rfl
       have c_a2 := bs.at 2 2 rfl rfl
       have d0 := (bs.lit (w7.heap.size) rfl [.slice a10 LA10 b10, .slice r10 LR10 s10, .int .i64 m10] 25)
       have c0_n00 := d0.at 4 0 rfl rfl
       have c0_n01 := d0.at 4 1 rfl rfl
       have c0_n02 := d0.at 4 2 rfl rfl
       have c0_c0 := d0.at 0 0 rfl rfl
       have c0_c1 := d0.at 0 1 rfl rfl
       have c0_c2 := d0.at 0 2 rfl rfl
       have c0_r0 := d0.at 1 0 rfl rfl
       have c0_r1 := d0.at 1 1 rfl rfl
       have c0_r2 := d0.at 1 2 rfl rfl
       have c0_r3 := d0.at 1 3 rfl rfl
       have c0_r4 := d0.at 1 4 rfl rfl
       have c0_r5 := d0.at 1 5 rfl rfl
       have c0_a0 := d0.at 2 0 rfl rfl
       have c0_a1 := d0.at 2 1 rfl rfl
       have c0_a2 := d0.at 2 2 rfl rfl
       go_wp2_with fail
       clear c_c0 c_c1 c_c2 c_r0 c_r1 c_r2 c_r3 c_r4 c_r5 c_a0 c_a1 c_a2 d0 c0_n00 c0_n01 c0_n02 c0_c0 c0_c1 c0_c2 c0_r0 c0_r1 c0_r2 c0_r3 c0_r4 c0_r5 c0_a0 c0_a1 c0_a2
       obtain ⟨w8, hw8, y8, al, bs⟩ := bs.alloc (w7.heap.size) rfl [.slice a10 LA10 b10, .slice r10 LR10 s10, .int .i64 m10] 25
       replace o_c2 := o_c2.alloc (w7.heap.size) rfl al
       replace o_c10 := o_c10.alloc (w7.heap.size) rfl al
       clear al
       replace q := bs.q
       rw [hw8]
       obtain ⟨was2, hwz, hbz, hcz, -, -⟩ := hlaz.out (by first | rfl | trivial)
       replace hwz := Lib.hid hwz
       replace hbz := Lib.hid hbz
       replace hcz := Lib.hid hcz
       have FZ : CoFitD X10.d := by rw [HD10.out]; exact hfz.out
       replace FZ := Lib.hid FZ
       clear hnz hlaz
       have HC := find_is (CF.out w8 q HF.out AD.1) hwz.out
       rw [HJA.out] at HC
       replace HC := Lib.hid HC
       have c_c0 := bs.at 0 0 rfl rfl
       have c_c1 := bs.at 0 1 rfl rfl
       have c_c2 := bs.at 0 2 rfl rfl
       have c_a0 := bs.at 2 0 rfl rfl
       have c_a1 := bs.at 2 1 rfl rfl
       have c_a2 := bs.at 2 2 rfl rfl
       have c_z0 := bs.at 4 0 rfl rfl
       have c_z1 := bs.at 4 1 rfl rfl
       have c_z2 := bs.at 4 2 rfl rfl
       go_wp2_with fail
       refine HC.out.mono ?_
       rintro e w9 ⟨Z11, rfl, hd, ho, hb⟩
       clear c_c0 c_c1 c_c2 c_a0 c_a1 c_a2 c_z0 c_z1 c_z2
       have o_i11 : IsItems Z11.iv Z11.it w9 := OwI.items ho
       clear ho HC
       replace o_c2 := o_c2.ret hb
       replace o_c10 := o_c10.ret hb
       replace bs := bs.ret hb
       replace q := bs.q
       clear hb
       have HZ11 := Lib.hid hd
       clear hd
       obtain ⟨ia11, hia11⟩ : ∃ x, Z11.ia.1 = x := ⟨_, rfl⟩
       obtain ⟨ib11, hib11⟩ : ∃ x, Z11.ia.2 = x := ⟨_, rfl⟩
       obtain ⟨IL11, hIL11⟩ : ∃ x, Z11.it.length = x := ⟨_, rfl⟩
       obtain ⟨ver11, hver11⟩ : ∃ x, Z11.ver = x := ⟨_, rfl⟩
       obtain ⟨jb11, hjb11⟩ : ∃ b, ByteArray.mk Z11.j.toArray = b := ⟨_, rfl⟩
       have e_Z11 : Z11.v = .agg #[.string jb11, .slice ia11 IL11 ib11, .int .i64 ver11] := by rw [← hia11, ← hib11, ← hIL11, ← hver11, ← hjb11]
       rw [e_Z11]
       replace hia11 := Lib.hid hia11
       replace hib11 := Lib.hid hib11
       replace hIL11 := Lib.hid hIL11
       replace hver11 := Lib.hid hver11
       replace hjb11 := Lib.hid hjb11
       replace e_Z11 := Lib.hid e_Z11
       have c_c0 := bs.at 0 0 rfl rfl
       have c_c1 := bs.at 0 1 rfl rfl
       have c_c2 := bs.at 0 2 rfl rfl
       have c_a0 := bs.at 2 0 rfl rfl
       have c_a1 := bs.at 2 1 rfl rfl
       have c_a2 := bs.at 2 2 rfl rfl
       have c_z0 := bs.at 4 0 rfl rfl
       have c_z1 := bs.at 4 1 rfl rfl
       have c_z2 := bs.at 4 2 rfl rfl
       have d0 := (bs.lit (w9.heap.size) rfl [.string jb11, .slice ia11 IL11 ib11, .int .i64 ver11] 33)
       have c0_n00 := d0.at 5 0 rfl rfl
       have c0_n01 := d0.at 5 1 rfl rfl
       have c0_n02 := d0.at 5 2 rfl rfl
       have c0_c0 := d0.at 0 0 rfl rfl
       have c0_c1 := d0.at 0 1 rfl rfl
       have c0_c2 := d0.at 0 2 rfl rfl
       have c0_a0 := d0.at 2 0 rfl rfl
       have c0_a1 := d0.at 2 1 rfl rfl
       have c0_a2 := d0.at 2 2 rfl rfl
       have c0_z0 := d0.at 4 0 rfl rfl
       have c0_z1 := d0.at 4 1 rfl rfl
       have c0_z2 := d0.at 4 2 rfl rfl
       go_wp2_with fail
       clear c_c0 c_c1 c_c2 c_a0 c_a1 c_a2 c_z0 c_z1 c_z2 d0 c0_n00 c0_n01 c0_n02 c0_c0 c0_c1 c0_c2 c0_a0 c0_a1 c0_a2 c0_z0 c0_z1 c0_z2
       obtain ⟨w10, hw10, y10, al, bs⟩ := bs.alloc (w9.heap.size) rfl [.string jb11, .slice ia11 IL11 ib11, .int .i64 ver11] 33
       replace o_c2 := o_c2.alloc (w9.heap.size) rfl al
       replace o_c10 := o_c10.alloc (w9.heap.size) rfl al
       replace o_i11 := o_i11.ret al
       clear al
       replace q := bs.q
       rw [hw10]
       have FA11 : AcFit Z11.d := by rw [HZ11.out]; exact HF.out.ac _ (find_someG hwz.out).1
       replace FA11 := Lib.hid FA11
       have HC := ha_Keep spaceF X10 Z11 w10 (FZ.out.fit o_c10.csub) o_i11 FA11.out.small FA11.out.j (HML.out.ret q)
       rw [HD10.out, HZ11.out, hbz.out, e_X10.out, e_Z11.out] at HC
       replace HC := Lib.hid HC
       have c_c0 := bs.at 0 0 rfl rfl
       have c_c1 := bs.at 0 1 rfl rfl
       have c_c2 := bs.at 0 2 rfl rfl
       have c_z0 := bs.at 4 0 rfl rfl
       have c_z1 := bs.at 4 1 rfl rfl
       have c_z2 := bs.at 4 2 rfl rfl
       have c_k0 := bs.at 5 0 rfl rfl
       have c_k1 := bs.at 5 1 rfl rfl
       have c_k2 := bs.at 5 2 rfl rfl
       go_wp2_with fail
       refine HC.out.mono ?_
       rintro e w11 ⟨X12, rfl, hd, ho, hb⟩
       clear c_c0 c_c1 c_c2 c_z0 c_z1 c_z2 c_k0 c_k1 c_k2
       have o_c12 := OwC.mk' bs ho
       clear ho HC
       replace o_c2 := o_c2.ret hb
       replace o_c10 := o_c10.ret hb
       replace o_i11 := o_i11.ret hb
       replace bs := bs.ret hb
       replace q := bs.q
       clear hb
       have HD12 := Lib.hid hd
       clear hd
       obtain ⟨a12, ha12⟩ : ∃ x, X12.aa.1 = x := ⟨_, rfl⟩
       obtain ⟨b12, hb12⟩ : ∃ x, X12.aa.2 = x := ⟨_, rfl⟩
       obtain ⟨LA12, hLA12⟩ : ∃ x, X12.A.length = x := ⟨_, rfl⟩
       obtain ⟨r12, hr12⟩ : ∃ x, X12.ra.1 = x := ⟨_, rfl⟩
       obtain ⟨s12, hs12⟩ : ∃ x, X12.ra.2 = x := ⟨_, rfl⟩
       obtain ⟨LR12, hLR12⟩ : ∃ x, X12.R.length = x := ⟨_, rfl⟩
       obtain ⟨m12, hm12⟩ : ∃ x, X12.m = x := ⟨_, rfl⟩
       have e_X12 : X12.v = .agg #[.slice a12 LA12 b12, .slice r12 LR12 s12, .int .i64 m12] := by rw [← ha12, ← hb12, ← hLA12, ← hr12, ← hs12, ← hLR12, ← hm12]
       rw [e_X12]
       replace ha12 := Lib.hid ha12
       replace hb12 := Lib.hid hb12
       replace hLA12 := Lib.hid hLA12
       replace hr12 := Lib.hid hr12
       replace hs12 := Lib.hid hs12
       replace hLR12 := Lib.hid hLR12
       replace hm12 := Lib.hid hm12
       replace e_X12 := Lib.hid e_X12
       have c_c0 := bs.at 0 0 rfl rfl
       have c_c1 := bs.at 0 1 rfl rfl
       have c_c2 := bs.at 0 2 rfl rfl
       have c_z0 := bs.at 4 0 rfl rfl
       have c_z1 := bs.at 4 1 rfl rfl
       have c_z2 := bs.at 4 2 rfl rfl
       have c_k0 := bs.at 5 0 rfl rfl
       have c_k1 := bs.at 5 1 rfl rfl
       have c_k2 := bs.at 5 2 rfl rfl
       have d0 := (bs.lit (w11.heap.size) rfl [.slice a12 LA12 b12, .slice r12 LR12 s12, .int .i64 m12] 25)
       have c0_n00 := d0.at 6 0 rfl rfl
       have c0_n01 := d0.at 6 1 rfl rfl
       have c0_n02 := d0.at 6 2 rfl rfl
       have c0_c0 := d0.at 0 0 rfl rfl
       have c0_c1 := d0.at 0 1 rfl rfl
       have c0_c2 := d0.at 0 2 rfl rfl
       have c0_z0 := d0.at 4 0 rfl rfl
       have c0_z1 := d0.at 4 1 rfl rfl
       have c0_z2 := d0.at 4 2 rfl rfl
       have c0_k0 := d0.at 5 0 rfl rfl
       have c0_k1 := d0.at 5 1 rfl rfl
       have c0_k2 := d0.at 5 2 rfl rfl
       go_wp2_with fail
       clear c_c0 c_c1 c_c2 c_z0 c_z1 c_z2 c_k0 c_k1 c_k2 d0 c0_n00 c0_n01 c0_n02 c0_c0 c0_c1 c0_c2 c0_z0 c0_z1 c0_z2 c0_k0 c0_k1 c0_k2
       obtain ⟨w12, hw12, y12, al, bs⟩ := bs.alloc (w11.heap.size) rfl [.slice a12 LA12 b12, .slice r12 LR12 s12, .int .i64 m12] 25
       replace o_c2 := o_c2.alloc (w11.heap.size) rfl al
       replace o_c10 := o_c10.alloc (w11.heap.size) rfl al
       replace o_i11 := o_i11.ret al
       replace o_c12 := o_c12.alloc (w11.heap.size) rfl al
       clear al
       replace q := bs.q
       rw [hw12]
       have CSS : Calls Tryz.prog 32 #[.agg #[.slice a12 LA12 b12, .slice r12 LR12 s12, .int .i64 m12], .agg #[.slice a1 LA1 b1, .slice r1 LR1 s1, .int .i64 m1]] w12 (Ret w12 (.bool true)) := by have h := CS.out w12 q X12 o_c12.csub HF.out HD12.out; rw [decide_eq_true HD12.out, e_X12.out] at h; exact h
       replace CSS := Lib.hid CSS
       have c_c0 := bs.at 0 0 rfl rfl
       have c_c1 := bs.at 0 1 rfl rfl
       have c_c2 := bs.at 0 2 rfl rfl
       have c_z0 := bs.at 4 0 rfl rfl
       have c_z1 := bs.at 4 1 rfl rfl
       have c_z2 := bs.at 4 2 rfl rfl
       have c_y20 := bs.at 6 0 rfl rfl
       have c_y21 := bs.at 6 1 rfl rfl
       have c_y22 := bs.at 6 2 rfl rfl
       go_wp2_with fail
       refine (CSS.out).mono ?_
       rintro e w13 ⟨rfl, hb⟩
       clear c_c0 c_c1 c_c2 c_z0 c_z1 c_z2 c_y20 c_y21 c_y22
       replace o_c2 := o_c2.ret hb
       replace o_c10 := o_c10.ret hb
       replace o_i11 := o_i11.ret hb
       replace o_c12 := o_c12.ret hb
       replace bs := bs.ret hb
       replace q := bs.q
       clear hb
       clear CSS
       have CK : Calls Tryz.prog 30 #[.agg #[.slice a10 LA10 b10, .slice r10 LR10 s10, .int .i64 m10]] w13 (Ret w13 (.int .i64 0)) := by have h := ha_Check spaceF X10 w13 (FZ.out.fit o_c10.csub) (HML.out.ret q); rw [HD10.out, hcz.out, e_X10.out] at h; exact h
       replace CK := Lib.hid CK
       have c_c0 := bs.at 0 0 rfl rfl
       have c_c1 := bs.at 0 1 rfl rfl
       have c_c2 := bs.at 0 2 rfl rfl
       have c_z0 := bs.at 4 0 rfl rfl
       have c_z1 := bs.at 4 1 rfl rfl
       have c_z2 := bs.at 4 2 rfl rfl
       have c_y20 := bs.at 6 0 rfl rfl
       have c_y21 := bs.at 6 1 rfl rfl
       have c_y22 := bs.at 6 2 rfl rfl
       go_wp2_with fail
       refine (CK.out).mono ?_
       rintro e w14 ⟨rfl, hb⟩
       clear c_c0 c_c1 c_c2 c_z0 c_z1 c_z2 c_y20 c_y21 c_y22
       replace o_c2 := o_c2.ret hb
       replace o_c10 := o_c10.ret hb
       replace o_i11 := o_i11.ret hb
       replace o_c12 := o_c12.ret hb
       replace bs := bs.ret hb
       replace q := bs.q
       clear hb
       clear CK
       have c_c0 := bs.at 0 0 rfl rfl
       have c_c1 := bs.at 0 1 rfl rfl
       have c_c2 := bs.at 0 2 rfl rfl
       have c_z0 := bs.at 4 0 rfl rfl
       have c_z1 := bs.at 4 1 rfl rfl
       have c_z2 := bs.at 4 2 rfl rfl
       have c_y20 := bs.at 6 0 rfl rfl
       have c_y21 := bs.at 6 1 rfl rfl
       have c_y22 := bs.at 6 2 rfl rfl
       go_wp2_with fail
       clear c_c0 c_c1 c_c2 c_z0 c_z1 c_z2 c_y20 c_y21 c_y22
       go_ret
       exact ⟨rfl, q⟩
      ·have hz0 := hnz.out he2
       have hl0 : LA10 = 0 := by rw [← hLA10.out]; have := congrArg (fun d : Co => d.1.length) (HD10.out.trans hz0); simpa [co0] using this
       subst hl0
       have hne2 : (er2 != 0) = true := by simpa using he2
       clear hz0
       have c_c0 := bs.at 0 0 rfl rfl
       have c_c1 := bs.at 0 1 rfl rfl
       have c_c2 := bs.at 0 2 rfl rfl
       have c_r0 := bs.at 1 0 rfl rfl
       have c_r1 := bs.at 1 1 rfl rfl
       have c_r2 := bs.at 1 2 rfl rfl
       have c_r3 := bs.at 1 3 rfl rfl
       have c_r4 := bs.at 1 4 rfl rfl
       have c_r5 := bs.at 1 5 rfl rfl
       have c_a0 := bs.at 2 0 rfl rfl
       have c_a1 := bs.at 2 1 rfl rfl
       have c_a2 := bs.at 2 2 rfl rfl
       have d0 := (bs.lit (w7.heap.size) rfl [.slice a10 0 b10, .slice r10 LR10 s10, .int .i64 m10] 25)
       have c0_n00 := d0.at 4 0 rfl rfl
       have c0_n01 := d0.at 4 1 rfl rfl
       have c0_n02 := d0.at 4 2 rfl rfl
       have c0_c0 := d0.at 0 0 rfl rfl
       have c0_c1 := d0.at 0 1 rfl rfl
       have c0_c2 := d0.at 0 2 rfl rfl
       have c0_r0 := d0.at 1 0 rfl rfl
       have c0_r1 := d0.at 1 1 rfl rfl
       have c0_r2 := d0.at 1 2 rfl rfl
       have c0_r3 := d0.at 1 3 rfl rfl
       have c0_r4 := d0.at 1 4 rfl rfl
       have c0_r5 := d0.at 1 5 rfl rfl
       have c0_a0 := d0.at 2 0 rfl rfl
       have c0_a1 := d0.at 2 1 rfl rfl
       have c0_a2 := d0.at 2 2 rfl rfl
       go_wp2_with fail
       clear c_c0 c_c1 c_c2 c_r0 c_r1 c_r2 c_r3 c_r4 c_r5 c_a0 c_a1 c_a2 d0 c0_n00 c0_n01 c0_n02 c0_c0 c0_c1 c0_c2 c0_r0 c0_r1 c0_r2 c0_r3 c0_r4 c0_r5 c0_a0 c0_a1 c0_a2
       obtain ⟨w8, hw8, y8, al, bs⟩ := bs.alloc (w7.heap.size) rfl [.slice a10 0 b10, .slice r10 LR10 s10, .int .i64 m10] 25
       replace o_c2 := o_c2.alloc (w7.heap.size) rfl al
       replace o_c10 := o_c10.alloc (w7.heap.size) rfl al
       clear al
       replace q := bs.q
       rw [hw8]
       have c_z0 := bs.at 4 0 rfl rfl
       have c_z1 := bs.at 4 1 rfl rfl
       have c_z2 := bs.at 4 2 rfl rfl
       go_wp2_with fail
       clear c_z0 c_z1 c_z2
       go_ret
       exact ⟨rfl, q⟩
end Go.Proofs.YtjgeiieiinmdnaaGreatDoor
