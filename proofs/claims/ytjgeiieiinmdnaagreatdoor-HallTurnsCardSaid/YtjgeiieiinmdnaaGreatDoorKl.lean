/- RoA, RoB: put together by mergetpl.py. -/
import Derived.Test.YtjgeiieiinmdnaaGreatDoorKj
import Derived.Test.YtjgeiieiinmdnaaGreatDoorKg
import Derived.Test.YtjgeiieiinmdnaaGreatDoorKh
open Go.Proofs.Tryz
open Bool renaming true_and→wq,false_and→wt
open Go.Lib renaming toList_data→ws
open Go.RowKit.Below renaming drew→wo
open Go.Value.slice renaming injEq→wz
open List renaming length_take→wv,all_append→ww,take_append_drop→wA
open Nat renaming le_refl→wh,ne_of_gt→wu,zero_le→wy
namespace Go.Proofs.YtjgeiieiinmdnaaGreatDoor
set_option maxHeartbeats 4000000
set_option maxRecDepth 100000
open Go.RowKit Go.Lib

def uj (s:List UInt8):Value:=.tuple #[jV (jB (adr s).1) (jB (adr s).2.1) (jB (adr s).2.2),.bool (nc s)]
theorem cu (s:List UInt8):(aO s).length≤s.length∧(aZ s).length≤s.length∧(aP s).length≤s.length:=by
 have zA:=fR 47 s;have zR:=im 47 s;have xL:=jf s;have zX:=fR 64 (bf s);have zY:=im 64 (bf s);refine⟨?_,?_,?_⟩
 ·unfold aO
  split
  ·omega
  ·exact wy _
 ·unfold aZ
  split <;> omega
 ·unfold aP
  omega
theorem fy {fn:Func} {tmps:Array Value} {W:World} {R:Nat} {l d r:ByteArray} {e:Value} (h:fn.results=#[.cell 2 117,.tmp 3]) (h2:tmps.getD 2 undef=.pointer (some ⟨R,0,none⟩)) (h3:tmps.getD 3 undef=e) (k:JAt R l d r W):
  (results fn tmps).run prog W=.ok (.tuple #[jV l d r,e]) W:=aA h h2 h3 k
theorem kA (s:ByteArray) (w:World) (hm:ML w)
  (CP:∀w:World,ML w→Calls prog 126 #[.string s] w (Ret w (.tuple #[jV ⟨#[]⟩ ⟨#[]⟩ ⟨#[]⟩,.int .i64 190])))
  (CW:∀w:World,ML w→Calls prog 137 #[jV ⟨#[]⟩ ⟨#[]⟩ ⟨#[]⟩] w (Ret w (.tuple #[.string ⟨#[]⟩,.int .i64 8]))):
  Calls prog 210 #[.string s] w (Ret w (.tuple #[jV ⟨#[]⟩ ⟨#[]⟩ ⟨#[]⟩,.bool false])):=by
 have r0:=JAt.new w ⟨#[]⟩ ⟨#[]⟩ ⟨#[]⟩;have q0:=(bR w).alloc (wh _) (.cells #[.string ⟨#[]⟩,.string ⟨#[]⟩,.string ⟨#[]⟩] 117);have m0:=hm.ret q0;have HP:=h_ CP;have HW:=h_ CW;clear CP CW;go_enter func210,ntmps210;go_wp2_with fail;refine(HP.out _ m0).mono ?_;rintro e w1 ⟨rfl,hb⟩;have r1:=r0.ret hb;have q1:=q0.trans (hb.mono q0.size);have m1:=m0.ret hb;clear hb r0 q0 m0;have al:=(bR w1).alloc (wh _) (.cells #[.string ⟨#[]⟩,.string ⟨#[]⟩,.string ⟨#[]⟩] 117);have j2:=JAt.new w1 ⟨#[]⟩ ⟨#[]⟩ ⟨#[]⟩;have r2:=r1.ret al;have q2:=q1.trans (al.mono q1.size);have m2:=m1.ret al;have xo:=r1.lt;have xn:w1.heap.size≠w.heap.size:=wu xo;clear al r1 q1 m1;go_wp2_with fail;refine(HW.out _ m2).mono ?_;rintro e w3 ⟨rfl,hb⟩;have j3:=j2.ret hb;have r3:=r2.ret hb;have q3:=q2.trans (hb.mono q2.size);clear hb j2 r2 q2 m2;go_wp2_with fail;have j4:=j3.ret (wo (bQ _));have r4:=r3.ret (wo (bQ _));have q4:=q3.drew;clear j3 r3 q3;refine wp_region_held_drew (S:=fun w'=>w'.cell? ⟨w1.heap.size,0,none⟩=some (.string ⟨#[]⟩)∧w'.cell? ⟨w1.heap.size,1,none⟩=some (.string ⟨#[]⟩)∧w'.cell? ⟨w1.heap.size,2,none⟩=some (.string ⟨#[]⟩)) (by kernel_rfl) ⟨j4.c0,j4.c1,j4.c2⟩ (fun hH=>?_);generalize w3.drew=V at j4 r4 q4 hH ⊢;refine rS [(0,some 18),(1,some 19),(2,some 20),(3,some 21)] ?_
 iterate 4 refine aS ?_
 refine rE ?_;refine rS [(4,some 22),(5,some 23)] ?_
 iterate 2 refine aF ?_
 refine rE ?_;refine rS [(6,some 24),(7,some 25)] ?_
 iterate 2 refine aS ?_
 refine rE ?_;refine rS [(8,some 26),(9,some 27),(10,some 28)] ?_
 iterate 3 refine aF ?_
 refine rE ?_;refine rS [(11,some 29),(12,some 30)] ?_
 iterate 2 refine aS ?_
 refine rE ?_;refine rS [(13,some 31),(14,some 32),(15,some 33)] ?_
 iterate 3 refine aF ?_
 refine rE ?_;refine rS [(16,some 34)] ?_;refine aS ?_;refine rE ?_
 refine aC (i:=17) fun K hK=>?_
 have f0:=r4.f0;have f1:=r4.f1;have f2:=r4.f2;have g0:=r4.c0;have g1:=r4.c1;have g2:=r4.c2;go_simp;have j5:=((j4.other (M:=w.heap.size) (o:=0) xn (.string ⟨#[]⟩)).other (M:=w.heap.size) (o:=1) xn (.string ⟨#[]⟩)).other (M:=w.heap.size) (o:=2) xn (.string ⟨#[]⟩);have r5:=r4.set3 ⟨#[]⟩ ⟨#[]⟩ ⟨#[]⟩;have q5:=ae q4 (wh _) (.string ⟨#[]⟩) (.string ⟨#[]⟩) (.string ⟨#[]⟩);refine hK.out _ _ ⟨j5.c0,j5.c1,j5.c2⟩ (fun hH=>?_);clear hK K;refine rS [(18,some 3)] ?_;refine aS ?_;refine rE ?_;refine aD ?_;go_wp2_with fail;refine bodyPost_ret (aA rfl rfl rfl r5) rfl ⟨rfl,q5⟩
theorem iU (s X Y Z T:ByteArray) (w:World) (hm:ML w)
  (CP:∀w:World,ML w→Calls prog 126 #[.string s] w (Ret w (.tuple #[jV X Y Z,.int .i64 0])))
  (CW:∀w:World,ML w→Calls prog 137 #[jV X Y Z] w (Ret w (.tuple #[.string T,.int .i64 0])))
  (hT:(T.toList==s.toList)=false):
  Calls prog 210 #[.string s] w (Ret w (.tuple #[jV X Y Z,.bool false])):=by
 have r0:=JAt.new w ⟨#[]⟩ ⟨#[]⟩ ⟨#[]⟩;have q0:=(bR w).alloc (wh _) (.cells #[.string ⟨#[]⟩,.string ⟨#[]⟩,.string ⟨#[]⟩] 117);have m0:=hm.ret q0;have HP:=h_ CP;have HW:=h_ CW;clear CP CW;go_enter func210,ntmps210;go_wp2_with fail;refine(HP.out _ m0).mono ?_;rintro e w1 ⟨rfl,hb⟩;have r1:=r0.ret hb;have q1:=q0.trans (hb.mono q0.size);have m1:=m0.ret hb;clear hb r0 q0 m0;have al:=(bR w1).alloc (wh _) (.cells #[.string X,.string Y,.string Z] 117);have j2:=JAt.new w1 X Y Z;have r2:=r1.ret al;have q2:=q1.trans (al.mono q1.size);have m2:=m1.ret al;have xo:=r1.lt;have xn:w1.heap.size≠w.heap.size:=wu xo;clear al r1 q1 m1;go_wp2_with fail;refine(HW.out _ m2).mono ?_;rintro e w3 ⟨rfl,hb⟩;have j3:=j2.ret hb;have r3:=r2.ret hb;have q3:=q2.trans (hb.mono q2.size);clear hb j2 r2 q2 m2;go_wp2_with fail;have j4:=j3.ret (wo (bQ _));have r4:=r3.ret (wo (bQ _));have q4:=q3.drew;clear j3 r3 q3;refine wp_region_held_drew (S:=fun w'=>w'.cell? ⟨w1.heap.size,0,none⟩=some (.string X)∧w'.cell? ⟨w1.heap.size,1,none⟩=some (.string Y)∧w'.cell? ⟨w1.heap.size,2,none⟩=some (.string Z)) (by kernel_rfl) ⟨j4.c0,j4.c1,j4.c2⟩ (fun hH=>?_);generalize w3.drew=V at j4 r4 q4 hH ⊢;refine rS [(0,some 18),(1,some 19),(2,some 20),(3,some 21),(4,some 22),(5,some 23),(6,some 24),(7,some 25),(8,some 26),(9,some 27),(10,some 28),(11,some 29),(12,some 30)] ?_
 iterate 13 refine aS ?_
 refine rE ?_;refine rS [(13,some 31),(14,some 32),(15,some 33)] ?_
 iterate 3 refine aF ?_
 refine rE ?_;refine rS [(16,some 34)] ?_;refine aS ?_;refine rE ?_
 refine aC (i:=17) fun K hK=>?_
 have f0:=r4.f0;have f1:=r4.f1;have f2:=r4.f2;have g0:=r4.c0;have g1:=r4.c1;have g2:=r4.c2;go_simp;have j5:=((j4.other (M:=w.heap.size) (o:=0) xn (.string X)).other (M:=w.heap.size) (o:=1) xn (.string Y)).other (M:=w.heap.size) (o:=2) xn (.string Z);have r5:=r4.set3 X Y Z;have q5:=ae q4 (wh _) (.string X) (.string Y) (.string Z);refine hK.out _ _ ⟨j5.c0,j5.c1,j5.c2⟩ (fun hH=>?_);clear hK K;refine rS [(18,some 3)] ?_;refine aS ?_;refine rE ?_;refine aD ?_;go_wp2_with fail;refine bodyPost_ret (aA rfl rfl rfl r5) rfl ⟨rfl,q5⟩
theorem gV (s X Y Z T:ByteArray) (w:World) (hm:ML w)
  (CP:∀w:World,ML w→Calls prog 126 #[.string s] w (Ret w (.tuple #[jV X Y Z,.int .i64 0])))
  (CW:∀w:World,ML w→Calls prog 137 #[jV X Y Z] w (Ret w (.tuple #[.string T,.int .i64 0])))
  (hT:(T.toList==s.toList)=true) (hZ:(Z.toList==[])=false):
  Calls prog 210 #[.string s] w (Ret w (.tuple #[jV X Y Z,.bool false])):=by
 have r0:=JAt.new w ⟨#[]⟩ ⟨#[]⟩ ⟨#[]⟩;have q0:=(bR w).alloc (wh _) (.cells #[.string ⟨#[]⟩,.string ⟨#[]⟩,.string ⟨#[]⟩] 117);have m0:=hm.ret q0;have HP:=h_ CP;have HW:=h_ CW;clear CP CW;go_enter func210,ntmps210;go_wp2_with fail;refine(HP.out _ m0).mono ?_;rintro e w1 ⟨rfl,hb⟩;have r1:=r0.ret hb;have q1:=q0.trans (hb.mono q0.size);have m1:=m0.ret hb;clear hb r0 q0 m0;have al:=(bR w1).alloc (wh _) (.cells #[.string X,.string Y,.string Z] 117);have j2:=JAt.new w1 X Y Z;have r2:=r1.ret al;have q2:=q1.trans (al.mono q1.size);have m2:=m1.ret al;have xo:=r1.lt;have xn:w1.heap.size≠w.heap.size:=wu xo;clear al r1 q1 m1;go_wp2_with fail;refine(HW.out _ m2).mono ?_;rintro e w3 ⟨rfl,hb⟩;have j3:=j2.ret hb;have r3:=r2.ret hb;have q3:=q2.trans (hb.mono q2.size);clear hb j2 r2 q2 m2;go_wp2_with fail;have j4:=j3.ret (wo (bQ _));have r4:=r3.ret (wo (bQ _));have q4:=q3.drew;clear j3 r3 q3;refine wp_region_held_drew (S:=fun w'=>w'.cell? ⟨w1.heap.size,0,none⟩=some (.string X)∧w'.cell? ⟨w1.heap.size,1,none⟩=some (.string Y)∧w'.cell? ⟨w1.heap.size,2,none⟩=some (.string Z)) (by kernel_rfl) ⟨j4.c0,j4.c1,j4.c2⟩ (fun hH=>?_);generalize w3.drew=V at j4 r4 q4 hH ⊢;refine rS [(0,some 18),(1,some 19),(2,some 20),(3,some 21),(4,some 22),(5,some 23),(6,some 24),(7,some 25),(8,some 26),(9,some 27),(10,some 28),(11,some 29),(12,some 30),(13,some 31),(14,some 32),(15,some 33),(16,some 34)] ?_
 iterate 17 refine aS ?_
 refine rE ?_
 refine aC (i:=17) fun K hK=>?_
 have f0:=r4.f0;have f1:=r4.f1;have f2:=r4.f2;have g0:=r4.c0;have g1:=r4.c1;have g2:=r4.c2;go_simp;have j5:=((j4.other (M:=w.heap.size) (o:=0) xn (.string X)).other (M:=w.heap.size) (o:=1) xn (.string Y)).other (M:=w.heap.size) (o:=2) xn (.string Z);have r5:=r4.set3 X Y Z;have q5:=ae q4 (wh _) (.string X) (.string Y) (.string Z);refine hK.out _ _ ⟨j5.c0,j5.c1,j5.c2⟩ (fun hH=>?_);clear hK K;refine rS [(18,some 3)] ?_;refine aS ?_;refine rE ?_;refine aD ?_;go_wp2_with fail;refine bodyPost_ret (aA rfl rfl rfl r5) rfl ⟨rfl,q5⟩
theorem gP (s X Y Z T:ByteArray) (w:World) (hm:ML w)
  (CP:∀w:World,ML w→Calls prog 126 #[.string s] w (Ret w (.tuple #[jV X Y Z,.int .i64 0])))
  (CW:∀w:World,ML w→Calls prog 137 #[jV X Y Z] w (Ret w (.tuple #[.string T,.int .i64 0])))
  (hT:(T.toList==s.toList)=true) (hZ:(Z.toList==[])=true):
  Calls prog 210 #[.string s] w (Ret w (.tuple #[jV X Y Z,.bool true])):=by
 have r0:=JAt.new w ⟨#[]⟩ ⟨#[]⟩ ⟨#[]⟩;have q0:=(bR w).alloc (wh _) (.cells #[.string ⟨#[]⟩,.string ⟨#[]⟩,.string ⟨#[]⟩] 117);have m0:=hm.ret q0;have HP:=h_ CP;have HW:=h_ CW;clear CP CW;go_enter func210,ntmps210;go_wp2_with fail;refine(HP.out _ m0).mono ?_;rintro e w1 ⟨rfl,hb⟩;have r1:=r0.ret hb;have q1:=q0.trans (hb.mono q0.size);have m1:=m0.ret hb;clear hb r0 q0 m0;have al:=(bR w1).alloc (wh _) (.cells #[.string X,.string Y,.string Z] 117);have j2:=JAt.new w1 X Y Z;have r2:=r1.ret al;have q2:=q1.trans (al.mono q1.size);have m2:=m1.ret al;have xo:=r1.lt;have xn:w1.heap.size≠w.heap.size:=wu xo;clear al r1 q1 m1;go_wp2_with fail;refine(HW.out _ m2).mono ?_;rintro e w3 ⟨rfl,hb⟩;have j3:=j2.ret hb;have r3:=r2.ret hb;have q3:=q2.trans (hb.mono q2.size);clear hb j2 r2 q2 m2;go_wp2_with fail;have j4:=j3.ret (wo (bQ _));have r4:=r3.ret (wo (bQ _));have q4:=q3.drew;clear j3 r3 q3;refine wp_region_held_drew (S:=fun w'=>w'.cell? ⟨w1.heap.size,0,none⟩=some (.string X)∧w'.cell? ⟨w1.heap.size,1,none⟩=some (.string Y)∧w'.cell? ⟨w1.heap.size,2,none⟩=some (.string Z)) (by kernel_rfl) ⟨j4.c0,j4.c1,j4.c2⟩ (fun hH=>?_);generalize w3.drew=V at j4 r4 q4 hH ⊢;refine rS [(0,some 18),(1,some 19),(2,some 20),(3,some 21),(4,some 22),(5,some 23),(6,some 24),(7,some 25),(8,some 26),(9,some 27),(10,some 28),(11,some 29),(12,some 30),(13,some 31),(14,some 32),(15,some 33),(16,some 34)] ?_
 iterate 17 refine aS ?_
 refine rE ?_
 refine aC (i:=17) fun K hK=>?_
 have f0:=r4.f0;have f1:=r4.f1;have f2:=r4.f2;have g0:=r4.c0;have g1:=r4.c1;have g2:=r4.c2;go_simp;have j5:=((j4.other (M:=w.heap.size) (o:=0) xn (.string X)).other (M:=w.heap.size) (o:=1) xn (.string Y)).other (M:=w.heap.size) (o:=2) xn (.string Z);have r5:=r4.set3 X Y Z;have q5:=ae q4 (wh _) (.string X) (.string Y) (.string Z);refine hK.out _ _ ⟨j5.c0,j5.c1,j5.c2⟩ (fun hH=>?_);clear hK K;refine rS [(18,some 3)] ?_;refine aS ?_;refine rE ?_;refine aD ?_;go_wp2_with fail;refine bodyPost_ret (aA rfl rfl rfl r5) rfl ⟨rfl,q5⟩
theorem eJ (s:ByteArray) (w:World) (hs:s.size≤10000) (hm:ML w):Calls prog 210 #[.string s] w (Ret w (uj s.data.toList)):=by
 have CP:=fun w m=>eB s w hs m
 have hz:=ab s;unfold nI at CP;unfold uj adr nc;obtain⟨z1,z2,z3⟩:=cu s.data.toList
 cases hp:cP s.data.toList with
 | false=>
  rw[hp,if_neg (by decide)] at CP;simp only[Bool.false_eq_true,if_false,wt]
  have CW:=fun w m=>dw ⟨#[]⟩ ⟨#[]⟩ ⟨#[]⟩ w (by decide) (by decide) (by decide) m
  exact kA s w hm CP CW
 | true=>
  rw[hp,if_pos rfl] at CP;simp only[if_true,wq];have hk:=de hp
  have CW:=fun w m=>dw (jB (aO s.data.toList)) (jB (aZ s.data.toList)) (jB (aP s.data.toList)) w (by rw[ai];omega) (by rw[ai];omega) (by rw[ai];omega) m
  unfold uC uZ at CW;rw[ah,ah,ah,hk,if_pos rfl,if_pos rfl] at CW
  by_cases hT:bC (aO s.data.toList) (aZ s.data.toList) (aP s.data.toList)=s.data.toList
  ·have e1:((jB (bC (aO s.data.toList) (aZ s.data.toList) (aP s.data.toList))).toList==s.toList)=true:=by
    rw[ws,ws,ah,hT];simp
   rw[decide_eq_true hT,wq]
   cases hr:(aP s.data.toList).isEmpty with
   | true=>exact gP s _ _ _ _ w hm CP CW e1 (by rw[ws,ah,List.isEmpty_iff.1 hr];rfl)
   | false=>exact gV s _ _ _ _ w hm CP CW e1 (iD hr)
  ·have e1:((jB (bC (aO s.data.toList) (aZ s.data.toList) (aP s.data.toList))).toList==s.toList)=false:=by
    rw[ws,ws,ah];simpa using hT
   rw[decide_eq_false hT,wt];exact iU s _ _ _ _ w hm CP CW e1
theorem mG (a b X Y Z X' Y' Z':ByteArray) (u v p q:Bool) (w:World) (hm:ML w)
  (CA:∀w:World,ML w→Calls prog 210 #[.string a] w (Ret w (.tuple #[jV X Y Z,.bool p]))) (CB:∀w:World,ML w→Calls prog 210 #[.string b] w (Ret w (.tuple #[jV X' Y' Z',.bool q])))
  (CL:∀w:World,Calls prog 165 #[jV X Y Z,jV X' Y' Z'] w (Ret w (.bool u))) (CM:∀w:World,Calls prog 165 #[jV X' Y' Z',jV X Y Z] w (Ret w (.bool v))):
  Calls prog 175 #[.string a,.string b] w (Ret w (.int .i64 (if u then -1 else if v then 1 else 0))):=by
 have HA:=h_ CA;have HB:=h_ CB;have HL:=h_ CL;have HM:=h_ CM;have q0:=bR w;clear CA CB CL CM
 cases u with
 | true=>
  go_enter func175,ntmps175;go_wp2_with fail;refine(HA.out _ hm).mono ?_;rintro e w1 ⟨rfl,hb⟩;have q1:=q0.trans (hb.mono q0.size);have m1:=hm.ret hb;have al:=(bR w1).alloc (wh _) (.cells #[.string X,.string Y,.string Z] 117);have x2:=JAt.new w1 X Y Z;have q2:=q1.trans (al.mono q1.size);have m2:=m1.ret al;clear hb al q1 m1;go_wp2_with fail;refine(HB.out _ m2).mono ?_;rintro e w3 ⟨rfl,hb⟩;have x3:=x2.ret hb;have q3:=q2.trans (hb.mono q2.size);have al:=(bR w3).alloc (wh _) (.cells #[.string X',.string Y',.string Z'] 117);have y4:=JAt.new w3 X' Y' Z';have x4:=x3.ret al;have q4:=q3.trans (al.mono q3.size);clear hb al q2 m2 x2 x3 q3;obtain⟨x0,a1,a2,a3,a4⟩:=id x4;obtain⟨y0,b1,b2,b3,b4⟩:=id y4;go_wp2_with fail;refine(HL.out _).mono ?_;rintro e w5 ⟨rfl,hb⟩;have x5:=x4.ret hb;have y5:=y4.ret hb;have q5:=q4.trans (hb.mono q4.size);clear hb q4 x0 a1 a2 a3 a4 y0 b1 b2 b3 b4 x4 y4;go_wp2_with fail;go_ret;exact⟨rfl,q5⟩
 | false=>
  cases v with
  | true=>
   go_enter func175,ntmps175;go_wp2_with fail;refine(HA.out _ hm).mono ?_;rintro e w1 ⟨rfl,hb⟩;have q1:=q0.trans (hb.mono q0.size);have m1:=hm.ret hb;have al:=(bR w1).alloc (wh _) (.cells #[.string X,.string Y,.string Z] 117);have x2:=JAt.new w1 X Y Z;have q2:=q1.trans (al.mono q1.size);have m2:=m1.ret al;clear hb al q1 m1;go_wp2_with fail;refine(HB.out _ m2).mono ?_;rintro e w3 ⟨rfl,hb⟩;have x3:=x2.ret hb;have q3:=q2.trans (hb.mono q2.size);have al:=(bR w3).alloc (wh _) (.cells #[.string X',.string Y',.string Z'] 117);have y4:=JAt.new w3 X' Y' Z';have x4:=x3.ret al;have q4:=q3.trans (al.mono q3.size);clear hb al q2 m2 x2 x3 q3;obtain⟨x0,a1,a2,a3,a4⟩:=id x4;obtain⟨y0,b1,b2,b3,b4⟩:=id y4;go_wp2_with fail;refine(HL.out _).mono ?_;rintro e w5 ⟨rfl,hb⟩;have x5:=x4.ret hb;have y5:=y4.ret hb;have q5:=q4.trans (hb.mono q4.size);clear hb q4 x0 a1 a2 a3 a4 y0 b1 b2 b3 b4 x4 y4;obtain⟨x0,a1,a2,a3,a4⟩:=x5;obtain⟨y0,b1,b2,b3,b4⟩:=y5;go_wp2_with fail;refine(HM.out _).mono ?_;rintro e w6 ⟨rfl,hb⟩;have q6:=q5.trans (hb.mono q5.size);clear hb x0 a1 a2 a3 a4 y0 b1 b2 b3 b4;go_wp2_with fail;go_ret;exact⟨rfl,q6⟩
  | false=>
   go_enter func175,ntmps175;go_wp2_with fail;refine(HA.out _ hm).mono ?_;rintro e w1 ⟨rfl,hb⟩;have q1:=q0.trans (hb.mono q0.size);have m1:=hm.ret hb;have al:=(bR w1).alloc (wh _) (.cells #[.string X,.string Y,.string Z] 117);have x2:=JAt.new w1 X Y Z;have q2:=q1.trans (al.mono q1.size);have m2:=m1.ret al;clear hb al q1 m1;go_wp2_with fail;refine(HB.out _ m2).mono ?_;rintro e w3 ⟨rfl,hb⟩;have x3:=x2.ret hb;have q3:=q2.trans (hb.mono q2.size);have al:=(bR w3).alloc (wh _) (.cells #[.string X',.string Y',.string Z'] 117);have y4:=JAt.new w3 X' Y' Z';have x4:=x3.ret al;have q4:=q3.trans (al.mono q3.size);clear hb al q2 m2 x2 x3 q3;obtain⟨x0,a1,a2,a3,a4⟩:=id x4;obtain⟨y0,b1,b2,b3,b4⟩:=id y4;go_wp2_with fail;refine(HL.out _).mono ?_;rintro e w5 ⟨rfl,hb⟩;have x5:=x4.ret hb;have y5:=y4.ret hb;have q5:=q4.trans (hb.mono q4.size);clear hb q4 x0 a1 a2 a3 a4 y0 b1 b2 b3 b4 x4 y4;obtain⟨x0,a1,a2,a3,a4⟩:=x5;obtain⟨y0,b1,b2,b3,b4⟩:=y5;go_wp2_with fail;refine(HM.out _).mono ?_;rintro e w6 ⟨rfl,hb⟩;have q6:=q5.trans (hb.mono q5.size);clear hb x0 a1 a2 a3 a4 y0 b1 b2 b3 b4;go_wp2_with fail;go_ret;exact⟨rfl,q6⟩
theorem l7 (a b:ByteArray) (w:World) (ha:a.size≤10000) (hb:b.size≤10000) (hm:ML w):Calls prog 175 #[.string a,.string b] w (Ret w (.int .i64 (gy a.data.toList b.data.toList))):=by
 have CA:=fun w m=>eJ a w ha m
 have CB:=fun w m=>eJ b w hb m
 have CL:=fun w=>i8 (jB (adr a.data.toList).1) (jB (adr a.data.toList).2.1) (jB (adr a.data.toList).2.2) (jB (adr b.data.toList).1) (jB (adr b.data.toList).2.1) (jB (adr b.data.toList).2.2) w
 have CM:=fun w=>i8 (jB (adr b.data.toList).1) (jB (adr b.data.toList).2.1) (jB (adr b.data.toList).2.2) (jB (adr a.data.toList).1) (jB (adr a.data.toList).2.1) (jB (adr a.data.toList).2.2) w
 exact mG a b _ _ _ _ _ _ (au a.data.toList b.data.toList) (au b.data.toList a.data.toList) _ _ w hm CA CB CL CM
theorem ko (s:ByteArray) (lo hi:Nat) (w:World) (hs:s.size≤10000):Calls prog 245 #[.string s,.int .i64 lo,.int .i64 hi] w (Ret w (.bool (aR lo hi s.data.toList))):=by
 have T0:=dz s w hs
 have hq:aR lo hi s.data.toList=(decide (lo≤s.size)&&(decide (s.size≤hi)&&txP s.data.toList)):=by unfold aR;rw[ab]
 rw[hq];obtain⟨t,ht⟩:=e_ (txP s.data.toList);rw[ht] at T0 ⊢;have TH:=h_ T0;clear T0 ht hq
 by_cases h1:lo≤s.size
 ·rw[decide_eq_true h1,wq]
  by_cases h2:s.size≤hi
  ·rw[decide_eq_true h2,wq]
   cases t with
   | true=>
    go_enter func245,ntmps245;go_wp2_with fail;refine TH.out.mono ?_;rintro e w1 ⟨rfl,hb⟩;go_wp2_with fail;go_ret;exact⟨rfl,hb⟩
   | false=>
    go_enter func245,ntmps245;go_wp2_with fail;refine TH.out.mono ?_;rintro e w1 ⟨rfl,hb⟩;go_wp2_with fail;go_ret;exact⟨rfl,hb⟩
  ·rw[decide_eq_false h2,wt]
   have g2:decide (s.size≤hi)=false:=decide_eq_false h2
   clear h2;go_enter func245,ntmps245;go_wp2_with fail;go_ret;exact⟨rfl,bQ _⟩
 ·rw[decide_eq_false h1,wt]
  have g2:decide (lo≤s.size)=false:=decide_eq_false h1
  clear h1;go_enter func245,ntmps245;go_wp2_with fail;go_ret;exact⟨rfl,bQ _⟩

theorem cH.take {v:Value} {vs:List Value} {w:World} (h:cH v vs w) (k:Nat) (hk:k≤vs.length) (a:Option Addr) (n cap:Nat) (hv:v=.slice a n cap):cH (.slice a k cap) (vs.take k) w:=by
 obtain⟨a',xK,h1,h0,h2⟩:=h;rw[hv] at h1;simp only[wz] at h1;obtain⟨rfl,rfl,rfl⟩:=h1;refine⟨a,cap,by rw[wv,Nat.min_eq_left hk],h0,?_⟩
 rcases h2 with h2 | ⟨b,off,h2,h3,h4⟩
 ·exact .inl (by rw[h2];simp)
 ·refine .inr ⟨b,off,h2,h3,fun j hj=>?_⟩
  rw[wv] at hj;rw[h4 j (by omega),List.getElem_take]
theorem jK (g:List (List UInt8)) (k:Nat):(cJ g).take k=cJ (g.take k):=by simp[cJ]
theorem bk (l:List (List UInt8)) (a:List UInt8):bq (l++[a])=(bq l&&!l.contains a):=by
 induction l with
 | nil=>rfl
 | cons b l ih=>
  rw[List.cons_append];unfold bq;rw[ih]
  have e1:(l++[a]).contains b=(l.contains b||a==b):=by
   rw[Bool.eq_iff_iff];simp
   constructor <;> (rintro (h | h) <;> simp[h])
  have e2:(b :: l).contains a=(a==b||l.contains a):=by
   rw[List.contains_cons]
  rw[e1,e2]
  cases l.contains b <;> cases (a==b) <;> cases bq l <;> cases l.contains a <;> rfl
theorem ej {l r:List (List UInt8)} (h:bq l=false):bq (l++r)=false:=by
 induction r generalizing l with
 | nil=>rwa [List.append_nil]
 | cons a r ih=>
  rw[List.append_cons];exact ih (by rw[bk,h];rfl)
theorem rk (n:ByteArray) (v:Value) (g:List (List UInt8)) (w:World) (hn:n.size≤10000) (xJ:be v g w) (hg:g.length≤1000) (hz:∀x∈g,x.length≤10000):
  Calls prog 211 #[.string n,v] w (Ret w (.bool (cM n.data.toList g))):=by
 have HN:=h_ fun w=>ko n 0 64 w hn
 have HW:=h_ fun (k:Nat) (hk:k<g.length) w=>ko ⟨(g[k]).toArray⟩ 1 32 w (by rw[←ab];exact hz _ (List.getElem_mem hk))
 obtain⟨hv,a,cap,xD,xE⟩:=xJ;obtain⟨O,hO⟩:=e_ (cM n.data.toList g);rw[hO];have HO:=h_ hO;have HV:=h_ hv;obtain⟨L,hL⟩:=e_ g.length;rw[hL] at xD hg xE;have HL:=h_ hL;subst xD;clear hv hO hL hz;go_enter func211,ntmps211;go_wp2_with fail;go_loopw [9] (fun i wx=>∃k:Nat,k≤L∧i=.int .i64 k∧(g.take k).all (aR 1 32)=true∧bq (g.take k)=true∧Bl w wx) (fun i _=>L-(intOf i).toNat)
 case atStart=>exact⟨0,wy _,rfl,rfl,rfl,bQ _⟩
 case round=>
  obtain⟨k,hk,rfl,xq,xp,xr⟩:=hrel;have xw:=xr.size
  by_cases hlt:k<L
  ·have xt : k < g.length := by rw [HL.out]; exact hlt
   have xM:k≤cap:=(by omega);have hV:=HV.out.ret xr;obtain⟨b,off,cp,hf,xN,hc⟩:=bJ hV (k:=k) (by rw[aq];exact xt);rw[aq,HL.out] at hf;simp only[wz,true_and] at hf;obtain⟨rfl,rfl⟩:=hf;have xF:=hc k (by rw[aq];exact xt);have hT:=hV.take k (by rw[aq];omega) (some ⟨b,off,none⟩) L cap rfl;rw[jK] at hT
   have e1:(cJ g)[k]'(by rw[aq];exact xt)=.string ⟨(g[k]).toArray⟩:=by simp[cJ]
   rw[e1] at xF
   have hW:=fun w=>HW.out k xt w
   have hC:=fun (w':World) (hb:Bl wr w')=>eb (.slice (some ⟨b,off,none⟩) k cap) (g.take k) g[k] w' (hT.ret hb) (by rw[wv];omega)
   have xu:(g.take (k+1))=g.take k++[g[k]]:=List.take_succ_eq_append_getElem xt
   have xx:aR 1 32 g[k]=false→O=false:=fun h=>by
    rw[←HO.out];unfold cM
    have:g.all (aR 1 32)=false:=by
     rw[←wA (k+1) g,ww,xu,ww]
     simp[h]
    rw[this];rfl
   have xy:(g.take k).contains g[k]=true→O=false:=fun h=>by
    rw[←HO.out];unfold cM
    have:bq g=false:=by
     rw[←wA (k+1) g];exact ej (by rw[xu,bk,h];simp)
    rw[this];simp
   have xz:aR 1 32 g[k]=true→(g.take (k+1)).all (aR 1 32)=true:=fun h=>by
    rw[xu,ww,xq]
    simp[h]
   have xA:(g.take k).contains g[k]=false→bq (g.take (k+1))=true:=fun h=>by
    rw[xu,bk,h,xp];rfl
   have hm:decide (g[k]∈g.take k)=(g.take k).contains g[k]:=(by simp);rw[hm] at hC;obtain⟨x,hx⟩:∃x:ByteArray,⟨(g[k]).toArray⟩=x:=⟨_,rfl⟩;rw[hx] at xF hW
   have xB:∀(w':World),Bl wr w'→Calls prog 57 #[.slice (some ⟨b,off,none⟩) k cap,.string x] w' (Ret w' (.bool ((g.take k).contains g[k]))):=fun w' hb=>by rw[←hx];exact hC w' hb
   have xG:x.data.toList=g[k]:=(by rw[←hx])
   have xC:∀w,Calls prog 245 #[.string x,.int .i64 (1:Nat),.int .i64 (32:Nat)] w (Ret w (.bool (aR 1 32 g[k]))):=fun w=>by
    have:=hW w
    first | exact this | (rw[xG] at this;exact this)
   obtain⟨P1,xH⟩:=e_ (aR 1 32 g[k]);obtain⟨P2,xI⟩:=e_ ((g.take k).contains g[k]);rw[xH] at xx xz xC;rw[xI] at xy xA xB;have WH:=h_ xC;have CH:=h_ xB;have L1:=h_ xx;have L2:=h_ xy;have S1:=h_ xz;have S2:=h_ xA;clear hW xC hC xB xx xy xz xA hx xG xH xI xu hm hT hV hc e1 xq xp
   cases P1 with
   | false=>
    have:=L1.out (by first | exact rfl | exact trivial);subst this;go_wp2_with fail;refine(WH.out _).mono ?_;rintro e w1 ⟨rfl,hb⟩;go_wp2_with fail;go_ret;exact⟨rfl,xr.trans (hb.mono xw)⟩
   | true=>
    go_wp2_with fail;refine(WH.out _).mono ?_;rintro e w1 ⟨rfl,hb⟩;have b1:=xr.trans (hb.mono xw);have C1:=h_ (CH.out _ hb);clear hb
    cases P2 with
    | true=>
     have:=L2.out (by first | exact rfl | exact trivial);subst this;go_wp2_with fail;refine(C1.out).mono ?_;rintro e w2 ⟨rfl,hb⟩;go_wp2_with fail;go_ret;exact⟨rfl,b1.trans (hb.mono b1.size)⟩
    | false=>
     go_wp2_with fail;refine(C1.out).mono ?_;rintro e w2 ⟨rfl,hb⟩;have b2:=b1.trans (hb.mono b1.size);clear hb;go_wp2_with fail;go_roundw
     case rel=>exact⟨k+1,by omega,by go_num,S1.out (by first | exact rfl | exact trivial),S2.out (by first | exact rfl | exact trivial),b2⟩
     case measure=>simp[intOf];omega
  ·have hO:=HO.out
   have e:g.take k=g:=List.take_of_length_le (by rw[HL.out];omega)
   rw[e] at xq xp;unfold cM at hO;rw[xq,xp,HL.out,wq,wq] at hO;have NH:=HN.out;obtain⟨Q,hQ⟩:=e_ (aR 0 64 n.data.toList);rw[hQ] at NH hO;have N1:=h_ NH;clear NH hQ xq xp e HO HN HW HV
   cases Q with
   | false=>
    have:O=false:=(by rw[←hO];rfl);subst this;clear hO;go_wp2_with fail;refine(N1.out _).mono ?_;rintro e w1 ⟨rfl,hb⟩;go_wp2_with fail;go_ret;exact⟨rfl,xr.trans (hb.mono xw)⟩
   | true=>
    rw[wq] at hO;have hq:decide ((L:Int)≤4)=O:=(by rw[←hO];exact decide_eq_decide.2 (by omega));clear hO;go_wp2_with fail;refine(N1.out _).mono ?_;rintro e w1 ⟨rfl,hb⟩;go_wp2_with fail;go_ret;exact⟨by first | rfl | simp[hq],xr.trans (hb.mono xw)⟩
theorem uA (a b c d x y z u:Bool) (w:World):(Op.equalIn 10000 97 (.agg #[.bool a,.bool b,.bool c,.bool d]) (.agg #[.bool x,.bool y,.bool z,.bool u])).run prog w=.ok (decide ((a,b,c,d)=(x,y,z,u))) w:=by
 have u3:=underlying4
 have hS:prog.underlying 97=some (.struct (prog.fieldsOf 97)):=by kernel_rfl
 have hp:prog.stoodInHeld 97=false:=by kernel_rfl
 rw[show (10000:Nat)=9999+1 from rfl,run_equalIn_agg w 9999 97 _ _ hS hp];simp only[Program.fieldsOf,underlying97];go_simp;clear u3 hS hp
 cases a <;> cases b <;> cases c <;> cases d <;> cases x <;> cases y <;> cases z <;> cases u <;> rfl
theorem fK:prog.eqGuardType prog.depth 97=false:=by kernel_rfl
theorem cZ (a b c d x y z u:Bool) (w:World):(binOp .eql 97 (.agg #[.bool a,.bool b,.bool c,.bool d]) (.agg #[.bool x,.bool y,.bool z,.bool u])).run prog w=.ok (.bool (decide ((a,b,c,d)=(x,y,z,u)))) w:=by
 rw[run_eql_struct,uA]
 rfl
theorem o7 (j n X Y Z:ByteArray) (ga:Option Addr) (L cap:Nat) (a b c d k ok W S:Bool) (w:World) (hm:ML w) (hn:(n.toList==[])=false)
  (CA:∀w:World,ML w→Calls prog 210 #[.string j] w (Ret w (.tuple #[jV X Y Z,.bool ok])))
  (CW:∀w':World,Bl w w'→Calls prog 211 #[.string n,.slice ga L cap] w' (Ret w' (.bool W)))
  (CS:∀w:World,Calls prog 212 #[.agg #[.bool a,.bool b,.bool c,.bool d]] w (Ret w (.int .i64 (if S then 0 else 8)))):
  Calls prog 174 #[.agg #[.string j,.string n,.slice ga L cap,.bool a,.bool b,.bool c,.bool d,.bool k]] w (Ret w (.bool (ok&&(W&&(S&&(k||false)))))):=by
 have x0:=It8.new w (.string j) (.string n) (.slice ga L cap) (.bool a) (.bool b) (.bool c) (.bool d) (.bool k) 99;have q0:=(bR w).alloc (wh _) (.cells #[.string j,.string n,.slice ga L cap,.bool a,.bool b,.bool c,.bool d,.bool k] 99);have m0:=hm.ret q0;have HA:=h_ CA;have HW:=h_ CW;have HS:=h_ CS;have EQ:=cZ;have EG:=fK;clear CA CW CS
 cases ok with
 | false=>
  go_enter func174,ntmps174;go_wp2_with fail;refine(HA.out _ m0).mono ?_;rintro e w1 ⟨rfl,hb⟩;have al:=(bR w1).alloc (wh _) (.cells #[.string X,.string Y,.string Z] 117);have x2:=(x0.ret hb).ret al;have q1:=q0.trans (hb.mono q0.size);have q2:=q1.trans (al.mono q1.size);clear hb al q1 x0;obtain⟨l,c0,c1,c2,c3,c4,c5,c6,c7,-,-,-,-,-,-,-,-⟩:=id x2;go_wp2_with fail;go_ret;exact⟨by first | rfl | simp,q2⟩
 | true=>
  cases W with
  | false=>
   go_enter func174,ntmps174;go_wp2_with fail;refine(HA.out _ m0).mono ?_;rintro e w1 ⟨rfl,hb⟩;have al:=(bR w1).alloc (wh _) (.cells #[.string X,.string Y,.string Z] 117);have x2:=(x0.ret hb).ret al;have q1:=q0.trans (hb.mono q0.size);have q2:=q1.trans (al.mono q1.size);clear hb al q1 x0;obtain⟨l,c0,c1,c2,c3,c4,c5,c6,c7,-,-,-,-,-,-,-,-⟩:=id x2;go_wp2_with fail;refine(HW.out _ q2).mono ?_;rintro e w3 ⟨rfl,hb⟩;have x3:=x2.ret hb;have q3:=q2.trans (hb.mono q2.size);clear l c0 c1 c2 c3 c4 c5 c6 c7;clear hb x2;obtain⟨l,c0,c1,c2,c3,c4,c5,c6,c7,-,-,-,-,-,-,-,-⟩:=id x3;go_wp2_with fail;go_ret;exact⟨by first | rfl | simp,q3⟩
  | true=>
   cases S with
   | false=>
    go_enter func174,ntmps174;go_wp2_with fail;refine(HA.out _ m0).mono ?_;rintro e w1 ⟨rfl,hb⟩;have al:=(bR w1).alloc (wh _) (.cells #[.string X,.string Y,.string Z] 117);have x2:=(x0.ret hb).ret al;have q1:=q0.trans (hb.mono q0.size);have q2:=q1.trans (al.mono q1.size);clear hb al q1 x0;obtain⟨l,c0,c1,c2,c3,c4,c5,c6,c7,-,-,-,-,-,-,-,-⟩:=id x2;go_wp2_with fail;refine(HW.out _ q2).mono ?_;rintro e w3 ⟨rfl,hb⟩;have x3:=x2.ret hb;have q3:=q2.trans (hb.mono q2.size);clear l c0 c1 c2 c3 c4 c5 c6 c7;clear hb x2;obtain⟨l,c0,c1,c2,c3,c4,c5,c6,c7,-,-,-,-,-,-,-,-⟩:=id x3;go_wp2_with fail;refine(HS.out _).mono ?_;rintro e w4 ⟨rfl,hb⟩;have x4:=x3.ret hb;have q4:=q3.trans (hb.mono q3.size);clear l c0 c1 c2 c3 c4 c5 c6 c7;clear hb x3;obtain⟨l,c0,c1,c2,c3,c4,c5,c6,c7,-,-,-,-,-,-,-,-⟩:=id x4;go_wp2_with fail;go_ret;exact⟨by first | rfl | simp,q4⟩
   | true=>
    cases k with
    | true=>
     go_enter func174,ntmps174;go_wp2_with fail;refine(HA.out _ m0).mono ?_;rintro e w1 ⟨rfl,hb⟩;have al:=(bR w1).alloc (wh _) (.cells #[.string X,.string Y,.string Z] 117);have x2:=(x0.ret hb).ret al;have q1:=q0.trans (hb.mono q0.size);have q2:=q1.trans (al.mono q1.size);clear hb al q1 x0;obtain⟨l,c0,c1,c2,c3,c4,c5,c6,c7,-,-,-,-,-,-,-,-⟩:=id x2;go_wp2_with fail;refine(HW.out _ q2).mono ?_;rintro e w3 ⟨rfl,hb⟩;have x3:=x2.ret hb;have q3:=q2.trans (hb.mono q2.size);clear l c0 c1 c2 c3 c4 c5 c6 c7;clear hb x2;obtain⟨l,c0,c1,c2,c3,c4,c5,c6,c7,-,-,-,-,-,-,-,-⟩:=id x3;go_wp2_with fail;refine(HS.out _).mono ?_;rintro e w4 ⟨rfl,hb⟩;have x4:=x3.ret hb;have q4:=q3.trans (hb.mono q3.size);clear l c0 c1 c2 c3 c4 c5 c6 c7;clear hb x3;obtain⟨l,c0,c1,c2,c3,c4,c5,c6,c7,-,-,-,-,-,-,-,-⟩:=id x4;go_wp2_with fail;go_ret;exact⟨by first | rfl | simp,q4⟩
    | false=>
     go_enter func174,ntmps174;go_wp2_with fail;refine(HA.out _ m0).mono ?_;rintro e w1 ⟨rfl,hb⟩;have al:=(bR w1).alloc (wh _) (.cells #[.string X,.string Y,.string Z] 117);have x2:=(x0.ret hb).ret al;have q1:=q0.trans (hb.mono q0.size);have q2:=q1.trans (al.mono q1.size);clear hb al q1 x0;obtain⟨l,c0,c1,c2,c3,c4,c5,c6,c7,-,-,-,-,-,-,-,-⟩:=id x2;go_wp2_with fail;refine(HW.out _ q2).mono ?_;rintro e w3 ⟨rfl,hb⟩;have x3:=x2.ret hb;have q3:=q2.trans (hb.mono q2.size);clear l c0 c1 c2 c3 c4 c5 c6 c7;clear hb x2;obtain⟨l,c0,c1,c2,c3,c4,c5,c6,c7,-,-,-,-,-,-,-,-⟩:=id x3;go_wp2_with fail;refine(HS.out _).mono ?_;rintro e w4 ⟨rfl,hb⟩;have x4:=x3.ret hb;have q4:=q3.trans (hb.mono q3.size);clear l c0 c1 c2 c3 c4 c5 c6 c7;clear hb x3;obtain⟨l,c0,c1,c2,c3,c4,c5,c6,c7,-,-,-,-,-,-,-,-⟩:=id x4;go_wp2_with fail;go_ret;exact⟨by first | rfl | simp,q4⟩
theorem pp (j n X Y Z:ByteArray) (ga:Option Addr) (L cap:Nat) (a b c d k ok W S:Bool) (w:World) (hm:ML w) (hn:(n.toList==[])=true) (hg:((L:Int)==0)=false)
  (CA:∀w:World,ML w→Calls prog 210 #[.string j] w (Ret w (.tuple #[jV X Y Z,.bool ok])))
  (CW:∀w':World,Bl w w'→Calls prog 211 #[.string n,.slice ga L cap] w' (Ret w' (.bool W)))
  (CS:∀w:World,Calls prog 212 #[.agg #[.bool a,.bool b,.bool c,.bool d]] w (Ret w (.int .i64 (if S then 0 else 8)))):
  Calls prog 174 #[.agg #[.string j,.string n,.slice ga L cap,.bool a,.bool b,.bool c,.bool d,.bool k]] w (Ret w (.bool (ok&&(W&&(S&&(k||false)))))):=by
 have x0:=It8.new w (.string j) (.string n) (.slice ga L cap) (.bool a) (.bool b) (.bool c) (.bool d) (.bool k) 99;have q0:=(bR w).alloc (wh _) (.cells #[.string j,.string n,.slice ga L cap,.bool a,.bool b,.bool c,.bool d,.bool k] 99);have m0:=hm.ret q0;have HA:=h_ CA;have HW:=h_ CW;have HS:=h_ CS;have EQ:=cZ;have EG:=fK;clear CA CW CS
 cases ok with
 | false=>
  go_enter func174,ntmps174;go_wp2_with fail;refine(HA.out _ m0).mono ?_;rintro e w1 ⟨rfl,hb⟩;have al:=(bR w1).alloc (wh _) (.cells #[.string X,.string Y,.string Z] 117);have x2:=(x0.ret hb).ret al;have q1:=q0.trans (hb.mono q0.size);have q2:=q1.trans (al.mono q1.size);clear hb al q1 x0;obtain⟨l,c0,c1,c2,c3,c4,c5,c6,c7,-,-,-,-,-,-,-,-⟩:=id x2;go_wp2_with fail;go_ret;exact⟨by first | rfl | simp,q2⟩
 | true=>
  cases W with
  | false=>
   go_enter func174,ntmps174;go_wp2_with fail;refine(HA.out _ m0).mono ?_;rintro e w1 ⟨rfl,hb⟩;have al:=(bR w1).alloc (wh _) (.cells #[.string X,.string Y,.string Z] 117);have x2:=(x0.ret hb).ret al;have q1:=q0.trans (hb.mono q0.size);have q2:=q1.trans (al.mono q1.size);clear hb al q1 x0;obtain⟨l,c0,c1,c2,c3,c4,c5,c6,c7,-,-,-,-,-,-,-,-⟩:=id x2;go_wp2_with fail;refine(HW.out _ q2).mono ?_;rintro e w3 ⟨rfl,hb⟩;have x3:=x2.ret hb;have q3:=q2.trans (hb.mono q2.size);clear l c0 c1 c2 c3 c4 c5 c6 c7;clear hb x2;obtain⟨l,c0,c1,c2,c3,c4,c5,c6,c7,-,-,-,-,-,-,-,-⟩:=id x3;go_wp2_with fail;go_ret;exact⟨by first | rfl | simp,q3⟩
  | true=>
   cases S with
   | false=>
    go_enter func174,ntmps174;go_wp2_with fail;refine(HA.out _ m0).mono ?_;rintro e w1 ⟨rfl,hb⟩;have al:=(bR w1).alloc (wh _) (.cells #[.string X,.string Y,.string Z] 117);have x2:=(x0.ret hb).ret al;have q1:=q0.trans (hb.mono q0.size);have q2:=q1.trans (al.mono q1.size);clear hb al q1 x0;obtain⟨l,c0,c1,c2,c3,c4,c5,c6,c7,-,-,-,-,-,-,-,-⟩:=id x2;go_wp2_with fail;refine(HW.out _ q2).mono ?_;rintro e w3 ⟨rfl,hb⟩;have x3:=x2.ret hb;have q3:=q2.trans (hb.mono q2.size);clear l c0 c1 c2 c3 c4 c5 c6 c7;clear hb x2;obtain⟨l,c0,c1,c2,c3,c4,c5,c6,c7,-,-,-,-,-,-,-,-⟩:=id x3;go_wp2_with fail;refine(HS.out _).mono ?_;rintro e w4 ⟨rfl,hb⟩;have x4:=x3.ret hb;have q4:=q3.trans (hb.mono q3.size);clear l c0 c1 c2 c3 c4 c5 c6 c7;clear hb x3;obtain⟨l,c0,c1,c2,c3,c4,c5,c6,c7,-,-,-,-,-,-,-,-⟩:=id x4;go_wp2_with fail;go_ret;exact⟨by first | rfl | simp,q4⟩
   | true=>
    cases k with
    | true=>
     go_enter func174,ntmps174;go_wp2_with fail;refine(HA.out _ m0).mono ?_;rintro e w1 ⟨rfl,hb⟩;have al:=(bR w1).alloc (wh _) (.cells #[.string X,.string Y,.string Z] 117);have x2:=(x0.ret hb).ret al;have q1:=q0.trans (hb.mono q0.size);have q2:=q1.trans (al.mono q1.size);clear hb al q1 x0;obtain⟨l,c0,c1,c2,c3,c4,c5,c6,c7,-,-,-,-,-,-,-,-⟩:=id x2;go_wp2_with fail;refine(HW.out _ q2).mono ?_;rintro e w3 ⟨rfl,hb⟩;have x3:=x2.ret hb;have q3:=q2.trans (hb.mono q2.size);clear l c0 c1 c2 c3 c4 c5 c6 c7;clear hb x2;obtain⟨l,c0,c1,c2,c3,c4,c5,c6,c7,-,-,-,-,-,-,-,-⟩:=id x3;go_wp2_with fail;refine(HS.out _).mono ?_;rintro e w4 ⟨rfl,hb⟩;have x4:=x3.ret hb;have q4:=q3.trans (hb.mono q3.size);clear l c0 c1 c2 c3 c4 c5 c6 c7;clear hb x3;obtain⟨l,c0,c1,c2,c3,c4,c5,c6,c7,-,-,-,-,-,-,-,-⟩:=id x4;go_wp2_with fail;go_ret;exact⟨by first | rfl | simp,q4⟩
    | false=>
     go_enter func174,ntmps174;go_wp2_with fail;refine(HA.out _ m0).mono ?_;rintro e w1 ⟨rfl,hb⟩;have al:=(bR w1).alloc (wh _) (.cells #[.string X,.string Y,.string Z] 117);have x2:=(x0.ret hb).ret al;have q1:=q0.trans (hb.mono q0.size);have q2:=q1.trans (al.mono q1.size);clear hb al q1 x0;obtain⟨l,c0,c1,c2,c3,c4,c5,c6,c7,-,-,-,-,-,-,-,-⟩:=id x2;go_wp2_with fail;refine(HW.out _ q2).mono ?_;rintro e w3 ⟨rfl,hb⟩;have x3:=x2.ret hb;have q3:=q2.trans (hb.mono q2.size);clear l c0 c1 c2 c3 c4 c5 c6 c7;clear hb x2;obtain⟨l,c0,c1,c2,c3,c4,c5,c6,c7,-,-,-,-,-,-,-,-⟩:=id x3;go_wp2_with fail;refine(HS.out _).mono ?_;rintro e w4 ⟨rfl,hb⟩;have x4:=x3.ret hb;have q4:=q3.trans (hb.mono q3.size);clear l c0 c1 c2 c3 c4 c5 c6 c7;clear hb x3;obtain⟨l,c0,c1,c2,c3,c4,c5,c6,c7,-,-,-,-,-,-,-,-⟩:=id x4;go_wp2_with fail;go_ret;exact⟨by first | rfl | simp,q4⟩
theorem nL (j n X Y Z:ByteArray) (ga:Option Addr) (L cap:Nat) (a b c d k ok W S sE:Bool) (w:World) (hm:ML w) (hn:(n.toList==[])=true) (hg:((L:Int)==0)=true) (hs:decide ((a,b,c,d)=(false,false,false,true))=sE)
  (CA:∀w:World,ML w→Calls prog 210 #[.string j] w (Ret w (.tuple #[jV X Y Z,.bool ok])))
  (CW:∀w':World,Bl w w'→Calls prog 211 #[.string n,.slice ga L cap] w' (Ret w' (.bool W)))
  (CS:∀w:World,Calls prog 212 #[.agg #[.bool a,.bool b,.bool c,.bool d]] w (Ret w (.int .i64 (if S then 0 else 8)))):
  Calls prog 174 #[.agg #[.string j,.string n,.slice ga L cap,.bool a,.bool b,.bool c,.bool d,.bool k]] w (Ret w (.bool (ok&&(W&&(S&&(k||sE)))))):=by
 have x0:=It8.new w (.string j) (.string n) (.slice ga L cap) (.bool a) (.bool b) (.bool c) (.bool d) (.bool k) 99;have q0:=(bR w).alloc (wh _) (.cells #[.string j,.string n,.slice ga L cap,.bool a,.bool b,.bool c,.bool d,.bool k] 99);have m0:=hm.ret q0;have HA:=h_ CA;have HW:=h_ CW;have HS:=h_ CS;have EQ:=cZ;have EG:=fK;clear CA CW CS;subst hs
 cases ok with
 | false=>
  go_enter func174,ntmps174;go_wp2_with fail;refine(HA.out _ m0).mono ?_;rintro e w1 ⟨rfl,hb⟩;have al:=(bR w1).alloc (wh _) (.cells #[.string X,.string Y,.string Z] 117);have x2:=(x0.ret hb).ret al;have q1:=q0.trans (hb.mono q0.size);have q2:=q1.trans (al.mono q1.size);clear hb al q1 x0;obtain⟨l,c0,c1,c2,c3,c4,c5,c6,c7,-,-,-,-,-,-,-,-⟩:=id x2;go_wp2_with fail;go_ret;exact⟨by first | rfl | simp,q2⟩
 | true=>
  cases W with
  | false=>
   go_enter func174,ntmps174;go_wp2_with fail;refine(HA.out _ m0).mono ?_;rintro e w1 ⟨rfl,hb⟩;have al:=(bR w1).alloc (wh _) (.cells #[.string X,.string Y,.string Z] 117);have x2:=(x0.ret hb).ret al;have q1:=q0.trans (hb.mono q0.size);have q2:=q1.trans (al.mono q1.size);clear hb al q1 x0;obtain⟨l,c0,c1,c2,c3,c4,c5,c6,c7,-,-,-,-,-,-,-,-⟩:=id x2;go_wp2_with fail;refine(HW.out _ q2).mono ?_;rintro e w3 ⟨rfl,hb⟩;have x3:=x2.ret hb;have q3:=q2.trans (hb.mono q2.size);clear l c0 c1 c2 c3 c4 c5 c6 c7;clear hb x2;obtain⟨l,c0,c1,c2,c3,c4,c5,c6,c7,-,-,-,-,-,-,-,-⟩:=id x3;go_wp2_with fail;go_ret;exact⟨by first | rfl | simp,q3⟩
  | true=>
   cases S with
   | false=>
    go_enter func174,ntmps174;go_wp2_with fail;refine(HA.out _ m0).mono ?_;rintro e w1 ⟨rfl,hb⟩;have al:=(bR w1).alloc (wh _) (.cells #[.string X,.string Y,.string Z] 117);have x2:=(x0.ret hb).ret al;have q1:=q0.trans (hb.mono q0.size);have q2:=q1.trans (al.mono q1.size);clear hb al q1 x0;obtain⟨l,c0,c1,c2,c3,c4,c5,c6,c7,-,-,-,-,-,-,-,-⟩:=id x2;go_wp2_with fail;refine(HW.out _ q2).mono ?_;rintro e w3 ⟨rfl,hb⟩;have x3:=x2.ret hb;have q3:=q2.trans (hb.mono q2.size);clear l c0 c1 c2 c3 c4 c5 c6 c7;clear hb x2;obtain⟨l,c0,c1,c2,c3,c4,c5,c6,c7,-,-,-,-,-,-,-,-⟩:=id x3;go_wp2_with fail;refine(HS.out _).mono ?_;rintro e w4 ⟨rfl,hb⟩;have x4:=x3.ret hb;have q4:=q3.trans (hb.mono q3.size);clear l c0 c1 c2 c3 c4 c5 c6 c7;clear hb x3;obtain⟨l,c0,c1,c2,c3,c4,c5,c6,c7,-,-,-,-,-,-,-,-⟩:=id x4;go_wp2_with fail;go_ret;exact⟨by first | rfl | simp,q4⟩
   | true=>
    cases k with
    | true=>
     go_enter func174,ntmps174;go_wp2_with fail;refine(HA.out _ m0).mono ?_;rintro e w1 ⟨rfl,hb⟩;have al:=(bR w1).alloc (wh _) (.cells #[.string X,.string Y,.string Z] 117);have x2:=(x0.ret hb).ret al;have q1:=q0.trans (hb.mono q0.size);have q2:=q1.trans (al.mono q1.size);clear hb al q1 x0;obtain⟨l,c0,c1,c2,c3,c4,c5,c6,c7,-,-,-,-,-,-,-,-⟩:=id x2;go_wp2_with fail;refine(HW.out _ q2).mono ?_;rintro e w3 ⟨rfl,hb⟩;have x3:=x2.ret hb;have q3:=q2.trans (hb.mono q2.size);clear l c0 c1 c2 c3 c4 c5 c6 c7;clear hb x2;obtain⟨l,c0,c1,c2,c3,c4,c5,c6,c7,-,-,-,-,-,-,-,-⟩:=id x3;go_wp2_with fail;refine(HS.out _).mono ?_;rintro e w4 ⟨rfl,hb⟩;have x4:=x3.ret hb;have q4:=q3.trans (hb.mono q3.size);clear l c0 c1 c2 c3 c4 c5 c6 c7;clear hb x3;obtain⟨l,c0,c1,c2,c3,c4,c5,c6,c7,-,-,-,-,-,-,-,-⟩:=id x4;go_wp2_with fail;go_ret;exact⟨by first | rfl | simp,q4⟩
    | false=>
     go_enter func174,ntmps174;go_wp2_with fail;refine(HA.out _ m0).mono ?_;rintro e w1 ⟨rfl,hb⟩;have al:=(bR w1).alloc (wh _) (.cells #[.string X,.string Y,.string Z] 117);have x2:=(x0.ret hb).ret al;have q1:=q0.trans (hb.mono q0.size);have q2:=q1.trans (al.mono q1.size);clear hb al q1 x0;obtain⟨l,c0,c1,c2,c3,c4,c5,c6,c7,-,-,-,-,-,-,-,-⟩:=id x2;go_wp2_with fail;refine(HW.out _ q2).mono ?_;rintro e w3 ⟨rfl,hb⟩;have x3:=x2.ret hb;have q3:=q2.trans (hb.mono q2.size);clear l c0 c1 c2 c3 c4 c5 c6 c7;clear hb x2;obtain⟨l,c0,c1,c2,c3,c4,c5,c6,c7,-,-,-,-,-,-,-,-⟩:=id x3;go_wp2_with fail;refine(HS.out _).mono ?_;rintro e w4 ⟨rfl,hb⟩;have x4:=x3.ret hb;have q4:=q3.trans (hb.mono q3.size);clear l c0 c1 c2 c3 c4 c5 c6 c7;clear hb x3;obtain⟨l,c0,c1,c2,c3,c4,c5,c6,c7,-,-,-,-,-,-,-,-⟩:=id x4;go_wp2_with fail;go_ret;exact⟨by first | rfl | simp,q4⟩
theorem tv (a b c d:Bool) (w:World):Calls prog 212 #[.agg #[.bool a,.bool b,.bool c,.bool d]] w (Ret w (.int .i64 (if fT (a,b,c,d) then 0 else 8))):=by
 have:=nX a b c d w
 have e:(if a&&b||c&&d then (8:Int) else 0)=if fT (a,b,c,d) then 0 else 8:=by
  cases a <;> cases b <;> cases c <;> cases d <;> rfl
 rwa [e] at this
theorem tk (p:Im) (w:World) (hv:be (gvI p) p.1.g w) (zj:p.1.j.length≤10000) (zn:p.1.n.length≤10000) (zg:p.1.g.length≤1000) (zx:∀x∈p.1.g,x.length≤10000) (hm:ML w):
  Calls prog 174 #[itA p] w (Ret w (.bool (di p.1))):=by
 obtain⟨⟨j,n,g,⟨a,b,c,d⟩,k⟩,ga,cap⟩:=p
 simp only at hv zj zn zg zx ⊢
 have CA:=fun w m=>eJ ⟨j.toArray⟩ w (by rw[←ab];exact zj) m
 have CW:=fun (w':World) (hb:Bl w w')=>rk ⟨n.toArray⟩ (.slice ga g.length cap) g w' (by rw[←ab];exact zn) (hv.ret hb) zg zx
 have CS:=tv a b c d
 have hI:di (j,n,g,(a,b,c,d),k)=(nc j&&(cM n g&&(fT (a,b,c,d)&&(k||(n.isEmpty&&(g.isEmpty&&decide ((a,b,c,d)=(false,false,false,true)))))))):=rfl
 rw[hI];unfold uj at CA
 by_cases h1:n=[]
 ·subst h1
  by_cases h2:g=[]
  ·subst h2
   exact nL ⟨j.toArray⟩ (jB []) _ _ _ ga 0 cap a b c d k _ _ _ _ w hm (by rw[ws];rfl) rfl rfl CA CW CS
  ·have e : g.isEmpty = false := by cases g with
    | nil=>exact absurd rfl h2
    | cons=>rfl
   rw[e,wt,Bool.and_false]
   have hl:g.length≠0:=fun h=>h2 (List.eq_nil_of_length_eq_zero h)
   exact pp ⟨j.toArray⟩ (jB []) _ _ _ ga g.length cap a b c d k _ _ _ w hm (by rw[ws];rfl) (beq_eq_false_iff_ne.2 (by omega)) CA CW CS
 ·have e : n.isEmpty = false := by cases n with
   | nil=>exact absurd rfl h1
   | cons=>rfl
  rw[e,wt];exact o7 _ _ _ _ _ ga _ cap a b c d k _ _ _ w hm (iD e) CA CW CS
end Go.Proofs.YtjgeiieiinmdnaaGreatDoor
