/- HaA, HaB, HaC: put together by mergetpl.py. -/
import Derived.Test.YtjgeiieiinmdnaaGreatDoorLb
open Go.Proofs.Tryz
open Bool renaming true_and→wo,false_and→wB,and_eq_true→wC
open Go.Addr.mk renaming injEq→wF
open Go.Lib renaming toList_data→wu
open Go.RowKit.Below renaming drew→wq
open Go.Value.slice renaming injEq→ww
open Go.World renaming setCells→wA
open List renaming mem_of_getElem?→wt,getElem?_eq_getElem→wv,getElem_mem→wy,take_succ_eq_append_getElem→wD,take_of_length_le→wG
open Nat renaming le_refl→wh,lt_of_lt_of_le→ws,le_of_ble_eq_true→wz
open Option.some renaming injEq→wE
namespace Go.Proofs.YtjgeiieiinmdnaaGreatDoor
set_option maxHeartbeats 4000000
set_option maxRecDepth 100000
open Go.RowKit Go.Lib

theorem nr (a b X Y Z X' Y' Z':ByteArray) (u v:Bool) (p q:Int) (w:World) (hm:ML w)
  (CA:∀w:World,ML w→Calls prog 126 #[.string a] w (Ret w (.tuple #[jV X Y Z,.int .i64 p]))) (CB:∀w:World,ML w→Calls prog 126 #[.string b] w (Ret w (.tuple #[jV X' Y' Z',.int .i64 q])))
  (CL:∀w:World,Calls prog 165 #[jV X Y Z,jV X' Y' Z'] w (Ret w (.bool u))) (CM:∀w:World,Calls prog 165 #[jV X' Y' Z',jV X Y Z] w (Ret w (.bool v))):
  Calls prog 119 #[.string a,.string b] w (Ret w (.int .i64 (if u then -1 else if v then 1 else 0))):=by
 have HA:=h_ CA;have HB:=h_ CB;have HL:=h_ CL;have HM:=h_ CM;have q0:=bR w;clear CA CB CL CM
 cases u with
 | true=>
  go_enter func119,ntmps119;go_wp2_with fail;refine(HA.out _ hm).mono ?_;rintro e w1 ⟨rfl,hb⟩;have q1:=q0.trans (hb.mono q0.size);have m1:=hm.ret hb;have al:=(bR w1).alloc (wh _) (.cells #[.string X,.string Y,.string Z] 117);have x2:=JAt.new w1 X Y Z;have q2:=q1.trans (al.mono q1.size);have m2:=m1.ret al;clear hb al q1 m1;go_wp2_with fail;refine(HB.out _ m2).mono ?_;rintro e w3 ⟨rfl,hb⟩;have x3:=x2.ret hb;have q3:=q2.trans (hb.mono q2.size);have al:=(bR w3).alloc (wh _) (.cells #[.string X',.string Y',.string Z'] 117);have y4:=JAt.new w3 X' Y' Z';have x4:=x3.ret al;have q4:=q3.trans (al.mono q3.size);clear hb al q2 m2 x2 x3 q3;obtain⟨x0,a1,a2,a3,a4⟩:=id x4;obtain⟨y0,b1,b2,b3,b4⟩:=id y4;go_wp2_with fail;refine(HL.out _).mono ?_;rintro e w5 ⟨rfl,hb⟩;have x5:=x4.ret hb;have y5:=y4.ret hb;have q5:=q4.trans (hb.mono q4.size);clear hb q4 x0 a1 a2 a3 a4 y0 b1 b2 b3 b4 x4 y4;go_wp2_with fail;go_ret;exact⟨rfl,q5⟩
 | false=>
  cases v with
  | true=>
   go_enter func119,ntmps119;go_wp2_with fail;refine(HA.out _ hm).mono ?_;rintro e w1 ⟨rfl,hb⟩;have q1:=q0.trans (hb.mono q0.size);have m1:=hm.ret hb;have al:=(bR w1).alloc (wh _) (.cells #[.string X,.string Y,.string Z] 117);have x2:=JAt.new w1 X Y Z;have q2:=q1.trans (al.mono q1.size);have m2:=m1.ret al;clear hb al q1 m1;go_wp2_with fail;refine(HB.out _ m2).mono ?_;rintro e w3 ⟨rfl,hb⟩;have x3:=x2.ret hb;have q3:=q2.trans (hb.mono q2.size);have al:=(bR w3).alloc (wh _) (.cells #[.string X',.string Y',.string Z'] 117);have y4:=JAt.new w3 X' Y' Z';have x4:=x3.ret al;have q4:=q3.trans (al.mono q3.size);clear hb al q2 m2 x2 x3 q3;obtain⟨x0,a1,a2,a3,a4⟩:=id x4;obtain⟨y0,b1,b2,b3,b4⟩:=id y4;go_wp2_with fail;refine(HL.out _).mono ?_;rintro e w5 ⟨rfl,hb⟩;have x5:=x4.ret hb;have y5:=y4.ret hb;have q5:=q4.trans (hb.mono q4.size);clear hb q4 x0 a1 a2 a3 a4 y0 b1 b2 b3 b4 x4 y4;obtain⟨x0,a1,a2,a3,a4⟩:=x5;obtain⟨y0,b1,b2,b3,b4⟩:=y5;go_wp2_with fail;refine(HM.out _).mono ?_;rintro e w6 ⟨rfl,hb⟩;have q6:=q5.trans (hb.mono q5.size);clear hb x0 a1 a2 a3 a4 y0 b1 b2 b3 b4;go_wp2_with fail;go_ret;exact⟨rfl,q6⟩
  | false=>
   go_enter func119,ntmps119;go_wp2_with fail;refine(HA.out _ hm).mono ?_;rintro e w1 ⟨rfl,hb⟩;have q1:=q0.trans (hb.mono q0.size);have m1:=hm.ret hb;have al:=(bR w1).alloc (wh _) (.cells #[.string X,.string Y,.string Z] 117);have x2:=JAt.new w1 X Y Z;have q2:=q1.trans (al.mono q1.size);have m2:=m1.ret al;clear hb al q1 m1;go_wp2_with fail;refine(HB.out _ m2).mono ?_;rintro e w3 ⟨rfl,hb⟩;have x3:=x2.ret hb;have q3:=q2.trans (hb.mono q2.size);have al:=(bR w3).alloc (wh _) (.cells #[.string X',.string Y',.string Z'] 117);have y4:=JAt.new w3 X' Y' Z';have x4:=x3.ret al;have q4:=q3.trans (al.mono q3.size);clear hb al q2 m2 x2 x3 q3;obtain⟨x0,a1,a2,a3,a4⟩:=id x4;obtain⟨y0,b1,b2,b3,b4⟩:=id y4;go_wp2_with fail;refine(HL.out _).mono ?_;rintro e w5 ⟨rfl,hb⟩;have x5:=x4.ret hb;have y5:=y4.ret hb;have q5:=q4.trans (hb.mono q4.size);clear hb q4 x0 a1 a2 a3 a4 y0 b1 b2 b3 b4 x4 y4;obtain⟨x0,a1,a2,a3,a4⟩:=x5;obtain⟨y0,b1,b2,b3,b4⟩:=y5;go_wp2_with fail;refine(HM.out _).mono ?_;rintro e w6 ⟨rfl,hb⟩;have q6:=q5.trans (hb.mono q5.size);clear hb x0 a1 a2 a3 a4 y0 b1 b2 b3 b4;go_wp2_with fail;go_ret;exact⟨rfl,q6⟩
theorem qT (l:List UInt8):nI l=.tuple #[jV (jB (adr l).1) (jB (adr l).2.1) (jB (adr l).2.2),.int .i64 (if cP l then 0 else 190)]:=by
 unfold nI adr
 cases cP l <;> rfl
theorem fm (a b:ByteArray) (w:World) (ha:a.size≤10000) (hb:b.size≤10000) (hm:ML w):Calls prog 119 #[.string a,.string b] w (Ret w (.int .i64 (gy a.data.toList b.data.toList))):=by
 have CA:=fun w m=>eB a w ha m
 have CB:=fun w m=>eB b w hb m
 simp only[qT] at CA CB
 have CL:=fun w=>i8 (jB (adr a.data.toList).1) (jB (adr a.data.toList).2.1) (jB (adr a.data.toList).2.2) (jB (adr b.data.toList).1) (jB (adr b.data.toList).2.1) (jB (adr b.data.toList).2.2) w
 have CM:=fun w=>i8 (jB (adr b.data.toList).1) (jB (adr b.data.toList).2.1) (jB (adr b.data.toList).2.2) (jB (adr a.data.toList).1) (jB (adr a.data.toList).2.1) (jB (adr a.data.toList).2.2) w
 simp only at CL CM
 exact nr a b _ _ _ _ _ _ (au a.data.toList b.data.toList) (au b.data.toList a.data.toList) _ _ w hm CA CB CL CM
theorem um {fn:Func} {tmps:Array Value} {W:World} {R p:Nat} {v0 v1:Value} (h:fn.results=#[.cell p 79]) (h2:tmps.getD p undef=.pointer (some ⟨R,0,none⟩)) (k:Bx R [v0,v1] W):
  (results fn tmps).run prog W=.ok (.agg #[v0,v1]) W:=by
 have c0:=k.at 0 rfl;have c1:=k.at 1 rfl;rw[aV h,h2]
 simp[go_sem,Result.andThen,c0,c1]
abbrev cy:Value:=.func (.func 104) #[] #[]
theorem vk:∀args w,(callFunc 104 args).run prog w=.ok (.enter 104 args) w:=enters_of func104 (by kernel_rfl) rfl
theorem aN (aa ra:Option Addr) (an ac rn rc:Nat) (m:Int) (w:World):Calls prog 50 #[.agg #[.slice aa an ac,.slice ra rn rc,.int .i64 m]] w (Ret w (.agg #[.slice aa an ac,cy])):=by
 obtain⟨W0,hW,y0,bs⟩:=Sx.start2 w [.slice aa an ac,.slice ra rn rc,.int .i64 m] 25 [.slice aa an ac,.func (.func 104) #[] #[]] 79;have HW:=h_ hW;clear hW;have q:=bs.q;go_enter func50,ntmps50;go_wp2_with fail;rw[HW.out];refine bodyPost_ret (um rfl rfl (bs.box 1 rfl)) rfl (⟨rfl,q⟩)
theorem dx (x:AcI) (w:World):Calls prog 104 #[x.v] w (Ret w (.string ⟨x.j.toArray⟩)):=by
 obtain⟨W0,hW,y0,bs⟩:=Sx.start1 w [.string ⟨x.j.toArray⟩,x.iv,.int .i64 x.ver] 33;have HW:=h_ hW;clear hW;have q:=bs.q;go_enter func104,ntmps104;have xo:=bs.b3 0;go_wp2_with fail;rw[HW.out];go_ret;exact⟨rfl,q⟩
theorem lM (x:AcI) (Ls Ln:Nat) (t:List UInt8) (w:World) (hs:Ls<w.heap.size) (hn:Ln<w.heap.size) (cs:w.cell? ⟨Ls,1,none⟩=some cy) (cn:w.cell? ⟨Ln,0,none⟩=some (.string ⟨t.toArray⟩)):
  Calls prog 106 #[x.v,.pointer (some ⟨Ls,0,none⟩),.pointer (some ⟨Ln,0,none⟩)] w (Ret w (.bool (x.j==t))):=by
 have HC:=h_ fun (w':World) (hb:Bl w w')=>show w'.cell? ⟨Ls,1,none⟩=some cy∧w'.cell? ⟨Ln,0,none⟩=some (.string ⟨t.toArray⟩) from ⟨((ag hb).1 _ _ hs).trans cs,((ag hb).1 _ _ hn).trans cn⟩
 have en:=vk;clear cs cn;obtain⟨W0,hW,y0,bs⟩:=Sx.start1 w [.string ⟨x.j.toArray⟩,x.iv,.int .i64 x.ver] 33;have HW:=h_ hW;clear hW;have q:=bs.q;go_enter func106,ntmps106;go_wp2_with fail;rw[HW.out];replace bs:=bs.ret (wq (bQ _));replace q:=bs.q
 have y1:W0.drew.heap.size=W0.heap.size:=rfl
 refine wp_region_held_drew (S:=fun w'=>w'.cell? ⟨Ls,1,none⟩=some (cy)∧w'.cell? ⟨Ln,0,none⟩=some (.string ⟨t.toArray⟩)∧w'.cell? ⟨w.heap.size,0,none⟩=some (.string ⟨x.j.toArray⟩)∧w'.cell? ⟨w.heap.size,1,none⟩=some (x.iv)∧w'.cell? ⟨w.heap.size,2,none⟩=some (.int .i64 x.ver)) (by kernel_rfl) ⟨(HC.out _ q).1,(HC.out _ q).2,bs.at 0 0,bs.at 0 1,bs.at 0 2⟩ (fun hH=>?_);generalize W0.drew=w1 at bs q y1 hH ⊢;refine rS [(0,some 5),(1,some 6),(2,some 7),(4,some 9)] ?_
 iterate 4 refine aS ?_
 refine rE ?_
 refine aC (i:=3) fun K hK=>?_
 go_simp;refine(dx x w1).mono ?_;rintro e w2 ⟨rfl,hb⟩;replace bs:=bs.ret hb;replace q:=bs.q;clear hb;go_simp;clear hH;refine hK.out _ _ ⟨(HC.out _ q).1,(HC.out _ q).2,bs.at 0 0,bs.at 0 1,bs.at 0 2⟩ (fun hH=>?_);clear hK K;refine rS [(5,some 10),(6,some 4)] ?_
 iterate 2 refine aS ?_
 refine rE ?_;refine aD ?_;clear hH;go_wp2_with fail;go_ret;exact⟨by simp,q⟩
theorem oI:∀args w,(callFunc 106 args).run prog w=.ok (.enter 106 args) w:=enters_of func106 (by kernel_rfl) rfl
theorem eK (a:Option Addr) (n c:Nat) (M:List AcI) (t:List UInt8) (w:World) (hv:IsL acY (.slice a n c) M w) (hM:M.length≤100000):
  Calls prog 51 #[.agg #[.slice a n c,cy],.string ⟨t.toArray⟩] w (Ret w (.int .i64 (dc (fun x:AcI=>x.j==t) M))):=by
 have CI:=h_ fun (w':World) (hb:Bl w w') (Ls Ln:Nat) (hs:Ls<w'.heap.size) (hn:Ln<w'.heap.size) (cs:w'.cell? ⟨Ls,1,none⟩=some cy) (cn:w'.cell? ⟨Ln,0,none⟩=some (.string ⟨t.toArray⟩))=>
  gv (.slice a n c) (.func (.func 106) #[] #[.pointer (some ⟨Ls,0,none⟩),.pointer (some ⟨Ln,0,none⟩)]) (fun x:AcI=>x.j==t) M w' (hv.ret hb) hM ⟨_,_,rfl,oI,fun p _ W hW=>lM p Ls Ln t W (ws hs hW.size) (ws hn hW.size) (((ag hW).1 _ _ hs).trans cs) (((ag hW).1 _ _ hn).trans cn)⟩
 clear hv hM;obtain⟨W0,hW,y0,bs⟩:=Sx.start2 w [.slice a n c,cy] 79 [.string ⟨t.toArray⟩] 9;have HW:=h_ hW;clear hW;have q:=bs.q;go_enter func51,ntmps51;have xp:=bs.b2 0;go_wp2_with fail;rw[HW.out];clear xp;refine(CI.out W0 q w.heap.size (w.heap.size+1) (bs.lt _ (wt (i:=0) rfl)) (bs.lt _ (wt (i:=1) rfl)) (bs.at 0 1) (bs.at 1 0)).mono ?_;rintro e w1 ⟨rfl,hb⟩;replace bs:=bs.ret hb;replace q:=bs.q;clear hb;go_wp2_with fail;go_ret;exact⟨rfl,q⟩
theorem uE {fn:Func} {tmps:Array Value} {W:World} {R p:Nat} {v0 v1:Value} (h:fn.results=#[.cell p 84]) (h2:tmps.getD p undef=.pointer (some ⟨R,0,none⟩)) (k:Bx R [v0,v1] W):
  (results fn tmps).run prog W=.ok (.agg #[v0,v1]) W:=by
 have c0:=k.at 0 rfl;have c1:=k.at 1 rfl;rw[aV h,h2]
 simp[go_sem,Result.andThen,c0,c1]
abbrev cv:Value:=.func (.func 109) #[] #[]
theorem vg:∀args w,(callFunc 109 args).run prog w=.ok (.enter 109 args) w:=enters_of func109 (by kernel_rfl) rfl
theorem aX (aa ra:Option Addr) (an ac rn rc:Nat) (m:Int) (w:World):Calls prog 53 #[.agg #[.slice aa an ac,.slice ra rn rc,.int .i64 m]] w (Ret w (.agg #[.slice ra rn rc,cv])):=by
 obtain⟨W0,hW,y0,bs⟩:=Sx.start2 w [.slice aa an ac,.slice ra rn rc,.int .i64 m] 25 [.slice ra rn rc,.func (.func 109) #[] #[]] 84;have HW:=h_ hW;clear hW;have q:=bs.q;go_enter func53,ntmps53;go_wp2_with fail;rw[HW.out];refine bodyPost_ret (uE rfl rfl (bs.box 1 rfl)) rfl (⟨rfl,q⟩)
theorem dB (x:RsI) (w:World):Calls prog 109 #[x.v] w (Ret w (.string ⟨x.j.toArray⟩)):=by
 obtain⟨W0,hW,y0,bs⟩:=Sx.start1 w [.string ⟨x.j.toArray⟩,.bool x.on,.int .i64 x.pr,x.lv,.bool x.ask,x.sv] 38;have HW:=h_ hW;clear hW;have q:=bs.q;go_enter func109,ntmps109;have xo:=bs.b6 0;go_wp2_with fail;rw[HW.out];go_ret;exact⟨rfl,q⟩
theorem lX (x:RsI) (Ls Ln:Nat) (t:List UInt8) (w:World) (hs:Ls<w.heap.size) (hn:Ln<w.heap.size) (cs:w.cell? ⟨Ls,1,none⟩=some cv) (cn:w.cell? ⟨Ln,0,none⟩=some (.string ⟨t.toArray⟩)):
  Calls prog 111 #[x.v,.pointer (some ⟨Ls,0,none⟩),.pointer (some ⟨Ln,0,none⟩)] w (Ret w (.bool (x.j==t))):=by
 have HC:=h_ fun (w':World) (hb:Bl w w')=>show w'.cell? ⟨Ls,1,none⟩=some cv∧w'.cell? ⟨Ln,0,none⟩=some (.string ⟨t.toArray⟩) from ⟨((ag hb).1 _ _ hs).trans cs,((ag hb).1 _ _ hn).trans cn⟩
 have en:=vg;clear cs cn;obtain⟨W0,hW,y0,bs⟩:=Sx.start1 w [.string ⟨x.j.toArray⟩,.bool x.on,.int .i64 x.pr,x.lv,.bool x.ask,x.sv] 38;have HW:=h_ hW;clear hW;have q:=bs.q;go_enter func111,ntmps111;go_wp2_with fail;rw[HW.out];replace bs:=bs.ret (wq (bQ _));replace q:=bs.q
 have y1:W0.drew.heap.size=W0.heap.size:=rfl
 refine wp_region_held_drew (S:=fun w'=>w'.cell? ⟨Ls,1,none⟩=some (cv)∧w'.cell? ⟨Ln,0,none⟩=some (.string ⟨t.toArray⟩)∧w'.cell? ⟨w.heap.size,0,none⟩=some (.string ⟨x.j.toArray⟩)∧w'.cell? ⟨w.heap.size,1,none⟩=some (.bool x.on)∧w'.cell? ⟨w.heap.size,2,none⟩=some (.int .i64 x.pr)∧w'.cell? ⟨w.heap.size,3,none⟩=some (x.lv)∧w'.cell? ⟨w.heap.size,4,none⟩=some (.bool x.ask)∧w'.cell? ⟨w.heap.size,5,none⟩=some (x.sv)) (by kernel_rfl) ⟨(HC.out _ q).1,(HC.out _ q).2,bs.at 0 0,bs.at 0 1,bs.at 0 2,bs.at 0 3,bs.at 0 4,bs.at 0 5⟩ (fun hH=>?_);generalize W0.drew=w1 at bs q y1 hH ⊢;refine rS [(0,some 5),(1,some 6),(2,some 7),(4,some 9)] ?_
 iterate 4 refine aS ?_
 refine rE ?_
 refine aC (i:=3) fun K hK=>?_
 go_simp;refine(dB x w1).mono ?_;rintro e w2 ⟨rfl,hb⟩;replace bs:=bs.ret hb;replace q:=bs.q;clear hb;go_simp;clear hH;refine hK.out _ _ ⟨(HC.out _ q).1,(HC.out _ q).2,bs.at 0 0,bs.at 0 1,bs.at 0 2,bs.at 0 3,bs.at 0 4,bs.at 0 5⟩ (fun hH=>?_);clear hK K;refine rS [(5,some 10),(6,some 4)] ?_
 iterate 2 refine aS ?_
 refine rE ?_;refine aD ?_;clear hH;go_wp2_with fail;go_ret;exact⟨by simp,q⟩
theorem nV:∀args w,(callFunc 111 args).run prog w=.ok (.enter 111 args) w:=enters_of func111 (by kernel_rfl) rfl
theorem dA (a:Option Addr) (n c:Nat) (M:List RsI) (t:List UInt8) (w:World) (hv:IsL rsY (.slice a n c) M w) (hM:M.length≤100000):
  Calls prog 54 #[.agg #[.slice a n c,cv],.string ⟨t.toArray⟩] w (Ret w (.int .i64 (dc (fun x:RsI=>x.j==t) M))):=by
 have CI:=h_ fun (w':World) (hb:Bl w w') (Ls Ln:Nat) (hs:Ls<w'.heap.size) (hn:Ln<w'.heap.size) (cs:w'.cell? ⟨Ls,1,none⟩=some cv) (cn:w'.cell? ⟨Ln,0,none⟩=some (.string ⟨t.toArray⟩))=>
  fY (.slice a n c) (.func (.func 111) #[] #[.pointer (some ⟨Ls,0,none⟩),.pointer (some ⟨Ln,0,none⟩)]) (fun x:RsI=>x.j==t) M w' (hv.ret hb) hM ⟨_,_,rfl,nV,fun p _ W hW=>lX p Ls Ln t W (ws hs hW.size) (ws hn hW.size) (((ag hW).1 _ _ hs).trans cs) (((ag hW).1 _ _ hn).trans cn)⟩
 clear hv hM;obtain⟨W0,hW,y0,bs⟩:=Sx.start2 w [.slice a n c,cv] 84 [.string ⟨t.toArray⟩] 9;have HW:=h_ hW;clear hW;have q:=bs.q;go_enter func54,ntmps54;have xp:=bs.b2 0;go_wp2_with fail;rw[HW.out];clear xp;refine(CI.out W0 q w.heap.size (w.heap.size+1) (bs.lt _ (wt (i:=0) rfl)) (bs.lt _ (wt (i:=1) rfl)) (bs.at 0 1) (bs.at 1 0)).mono ?_;rintro e w1 ⟨rfl,hb⟩;replace bs:=bs.ret hb;replace q:=bs.q;clear hb;go_wp2_with fail;go_ret;exact⟨rfl,q⟩

theorem ix {fn:Func} {tmps:Array Value} {W:World} {R p q:Nat} {v0 v1 v2 e:Value} (h:fn.results=#[.cell p 117,.tmp q]) (h2:tmps.getD p undef=.pointer (some ⟨R,0,none⟩)) (h3:tmps.getD q undef=e) (k:Bx R [v0,v1,v2] W):
  (results fn tmps).run prog W=.ok (.tuple #[.agg #[v0,v1,v2],e]) W:=by
 have c0:=k.at 0 rfl;have c1:=k.at 1 rfl;have c2:=k.at 2 rfl;rw[results_cell_tmp h,h2,h3]
 simp[go_sem,Result.andThen,c0,c1,c2]
theorem jQ (s X Y Z T:ByteArray) (w:World) (hm:ML w)
  (CP:∀w:World,ML w→Calls prog 126 #[.string s] w (Ret w (.tuple #[jV X Y Z,.int .i64 190])))
  (CW:∀w:World,ML w→Calls prog 137 #[jV X Y Z] w (Ret w (.tuple #[.string T,.int .i64 8]))):
  Calls prog 114 #[.string s] w (Ret w (.tuple #[jV X Y Z,.bool false])):=by
 have CP:=h_ CP;have CW:=h_ CW;have HM:=h_ hm;clear hm;obtain⟨W0,hW,y0,bs⟩:=Sx.start1 w [.string ⟨#[]⟩,.string ⟨#[]⟩,.string ⟨#[]⟩] 117;have HW:=h_ hW;clear hW;have q:=bs.q;go_enter func114,ntmps114;go_wp2_with fail;rw[HW.out];refine(CP.out W0 (HM.out.ret q)).mono ?_;rintro e w1 ⟨rfl,hb⟩;replace bs:=bs.ret hb;replace q:=bs.q;clear hb;have d0:=(bs.lit (w1.heap.size) rfl [.string X,.string Y,.string Z] 117);have xn:=d0.b3 1;go_wp2_with fail;clear d0 xn;obtain⟨w2,xr,y2,al,bs⟩:=bs.alloc (w1.heap.size) rfl [.string X,.string Y,.string Z] 117;clear al;replace q:=bs.q;rw[xr];refine(CW.out w2 (HM.out.ret q)).mono ?_;rintro e w3 ⟨rfl,hb⟩;replace bs:=bs.ret hb;replace q:=bs.q;clear hb;have xu:=bs.b3 1;have xw:=bs.b3 0;have xx:=bs.g3 0;go_wp2_with fail;clear xu xw xx;obtain⟨w4,xy,y4,bs⟩:=bs.sets 0 0 [.string X,.string Y,.string Z] rfl (wz rfl);replace q:=bs.q;simp only[wA,Nat.reduceAdd] at xy;rw[xy];refine bodyPost_ret (ix rfl rfl rfl (bs.box 0 rfl)) rfl ⟨rfl,q⟩
theorem kB (s X Y Z T:ByteArray) (w:World) (hm:ML w) (hT:(T.toList==s.toList)=true)
  (CP:∀w:World,ML w→Calls prog 126 #[.string s] w (Ret w (.tuple #[jV X Y Z,.int .i64 0])))
  (CW:∀w:World,ML w→Calls prog 137 #[jV X Y Z] w (Ret w (.tuple #[.string T,.int .i64 0]))):
  Calls prog 114 #[.string s] w (Ret w (.tuple #[jV X Y Z,.bool true])):=by
 have CP:=h_ CP;have CW:=h_ CW;have HM:=h_ hm;clear hm;obtain⟨W0,hW,y0,bs⟩:=Sx.start1 w [.string ⟨#[]⟩,.string ⟨#[]⟩,.string ⟨#[]⟩] 117;have HW:=h_ hW;clear hW;have q:=bs.q;go_enter func114,ntmps114;go_wp2_with fail;rw[HW.out];refine(CP.out W0 (HM.out.ret q)).mono ?_;rintro e w1 ⟨rfl,hb⟩;replace bs:=bs.ret hb;replace q:=bs.q;clear hb;have d0:=(bs.lit (w1.heap.size) rfl [.string X,.string Y,.string Z] 117);have xn:=d0.b3 1;go_wp2_with fail;clear d0 xn;obtain⟨w2,xr,y2,al,bs⟩:=bs.alloc (w1.heap.size) rfl [.string X,.string Y,.string Z] 117;clear al;replace q:=bs.q;rw[xr];refine(CW.out w2 (HM.out.ret q)).mono ?_;rintro e w3 ⟨rfl,hb⟩;replace bs:=bs.ret hb;replace q:=bs.q;clear hb;have xu:=bs.b3 1;have xw:=bs.b3 0;have xx:=bs.g3 0;go_wp2_with fail;clear xu xw xx;obtain⟨w4,xy,y4,bs⟩:=bs.sets 0 0 [.string X,.string Y,.string Z] rfl (wz rfl);replace q:=bs.q;simp only[wA,Nat.reduceAdd] at xy;rw[xy];refine bodyPost_ret (ix rfl rfl rfl (bs.box 0 rfl)) rfl ⟨rfl,q⟩
theorem jX (s X Y Z T:ByteArray) (w:World) (hm:ML w) (hT:(T.toList==s.toList)=false)
  (CP:∀w:World,ML w→Calls prog 126 #[.string s] w (Ret w (.tuple #[jV X Y Z,.int .i64 0])))
  (CW:∀w:World,ML w→Calls prog 137 #[jV X Y Z] w (Ret w (.tuple #[.string T,.int .i64 0]))):
  Calls prog 114 #[.string s] w (Ret w (.tuple #[jV X Y Z,.bool false])):=by
 have CP:=h_ CP;have CW:=h_ CW;have HM:=h_ hm;clear hm;obtain⟨W0,hW,y0,bs⟩:=Sx.start1 w [.string ⟨#[]⟩,.string ⟨#[]⟩,.string ⟨#[]⟩] 117;have HW:=h_ hW;clear hW;have q:=bs.q;go_enter func114,ntmps114;go_wp2_with fail;rw[HW.out];refine(CP.out W0 (HM.out.ret q)).mono ?_;rintro e w1 ⟨rfl,hb⟩;replace bs:=bs.ret hb;replace q:=bs.q;clear hb;have d0:=(bs.lit (w1.heap.size) rfl [.string X,.string Y,.string Z] 117);have xn:=d0.b3 1;go_wp2_with fail;clear d0 xn;obtain⟨w2,xr,y2,al,bs⟩:=bs.alloc (w1.heap.size) rfl [.string X,.string Y,.string Z] 117;clear al;replace q:=bs.q;rw[xr];refine(CW.out w2 (HM.out.ret q)).mono ?_;rintro e w3 ⟨rfl,hb⟩;replace bs:=bs.ret hb;replace q:=bs.q;clear hb;have xu:=bs.b3 1;have xw:=bs.b3 0;have xx:=bs.g3 0;go_wp2_with fail;clear xu xw xx;obtain⟨w4,xy,y4,bs⟩:=bs.sets 0 0 [.string X,.string Y,.string Z] rfl (wz rfl);replace q:=bs.q;simp only[wA,Nat.reduceAdd] at xy;rw[xy];refine bodyPost_ret (ix rfl rfl rfl (bs.box 0 rfl)) rfl ⟨rfl,q⟩
def fX (s:List UInt8):Value:=.tuple #[jV (jB (adr s).1) (jB (adr s).2.1) (jB (adr s).2.2),.bool (bm s)]
theorem eT (s:ByteArray) (w:World) (hs:s.size≤10000) (hm:ML w):Calls prog 114 #[.string s] w (Ret w (fX s.data.toList)):=by
 have CP:=fun w m=>eB s w hs m
 have hz:=ab s;unfold nI at CP;unfold fX adr bm;obtain⟨z1,z2,z3⟩:=cu s.data.toList
 cases hp:cP s.data.toList with
 | false=>
  rw[hp,if_neg (by decide)] at CP;simp only[Bool.false_eq_true,if_false,wB]
  have CW:=fun w m=>dw ⟨#[]⟩ ⟨#[]⟩ ⟨#[]⟩ w (by decide) (by decide) (by decide) m
  exact jQ s _ _ _ _ w hm CP CW
 | true=>
  rw[hp,if_pos rfl] at CP;simp only[if_true,wo];have hk:=de hp
  have CW:=fun w m=>dw (jB (aO s.data.toList)) (jB (aZ s.data.toList)) (jB (aP s.data.toList)) w (by rw[ai];omega) (by rw[ai];omega) (by rw[ai];omega) m
  unfold uC uZ at CW;rw[ah,ah,ah,hk,if_pos rfl,if_pos rfl] at CW
  by_cases hT:bC (aO s.data.toList) (aZ s.data.toList) (aP s.data.toList)=s.data.toList
  ·have e1:((jB (bC (aO s.data.toList) (aZ s.data.toList) (aP s.data.toList))).toList==s.toList)=true:=by
    rw[wu,wu,ah,hT];simp
   rw[decide_eq_true hT];exact kB s _ _ _ _ w hm e1 CP CW
  ·have e1:((jB (bC (aO s.data.toList) (aZ s.data.toList) (aP s.data.toList))).toList==s.toList)=false:=by
    rw[wu,wu,ah];simpa using hT
   rw[decide_eq_false hT];exact jX s _ _ _ _ w hm e1 CP CW
theorem jc (s X Y Z:ByteArray) (w:World) (hm:ML w)
  (CA:∀w:World,ML w→Calls prog 114 #[.string s] w (Ret w (.tuple #[jV X Y Z,.bool false]))):
  Calls prog 56 #[.string s] w (Ret w (.bool false)):=by
 have CA:=h_ CA;have HM:=h_ hm;clear hm;have bs:=Sx.start w;have q:=bs.q;go_enter func56,ntmps56;go_wp2_with fail;refine(CA.out w (HM.out.ret q)).mono ?_;rintro e w1 ⟨rfl,hb⟩;replace bs:=bs.ret hb;replace q:=bs.q;clear hb;have d0:=(bs.lit (w1.heap.size) rfl [.string X,.string Y,.string Z] 117);have xn:=d0.b3 0;go_wp2_with fail;clear d0 xn;obtain⟨w2,xr,y2,al,bs⟩:=bs.alloc (w1.heap.size) rfl [.string X,.string Y,.string Z] 117;clear al;replace q:=bs.q;rw[xr];go_ret;exact⟨rfl,q⟩
theorem kg (s X Y Z:ByteArray) (w:World) (hm:ML w) (c:Bool) (CM:∀w:World,ML w→Calls prog 115 #[jV X Y Z] w (Ret w (.bool c)))
  (CA:∀w:World,ML w→Calls prog 114 #[.string s] w (Ret w (.tuple #[jV X Y Z,.bool true]))):
  Calls prog 56 #[.string s] w (Ret w (.bool c)):=by
 have CA:=h_ CA;have HM:=h_ hm;clear hm;have CM:=h_ CM;have bs:=Sx.start w;have q:=bs.q;go_enter func56,ntmps56;go_wp2_with fail;refine(CA.out w (HM.out.ret q)).mono ?_;rintro e w1 ⟨rfl,hb⟩;replace bs:=bs.ret hb;replace q:=bs.q;clear hb;have d0:=(bs.lit (w1.heap.size) rfl [.string X,.string Y,.string Z] 117);have xn:=d0.b3 0;go_wp2_with fail;clear d0 xn;obtain⟨w2,xr,y2,al,bs⟩:=bs.alloc (w1.heap.size) rfl [.string X,.string Y,.string Z] 117;clear al;replace q:=bs.q;rw[xr];refine(CM.out w2 (HM.out.ret q)).mono ?_;rintro e w3 ⟨rfl,hb⟩;replace bs:=bs.ret hb;replace q:=bs.q;clear hb;go_wp2_with fail;go_ret;exact⟨rfl,q⟩
theorem iF {s:List UInt8} (h:bm s=true):cP s=true:=by
 unfold bm at h;rw[wC] at h;exact h.1
theorem pi (s:ByteArray) (w:World) (hs:s.size≤10000) (hm:ML w):Calls prog 56 #[.string s] w (Ret w (.bool (cG s.data.toList))):=by
 have CA:=fun w m=>eT s w hs m
 unfold fX at CA;unfold cG;have hz:=ab s
 cases h:bm s.data.toList with
 | false=>
  rw[h] at CA;exact jc s _ _ _ w hm CA
 | true=>
  rw[h] at CA;rw[wo];have hp:=iF h;obtain⟨z1,z2,z3⟩:=cu s.data.toList;have hk:=de hp;unfold adr at CA;rw[if_pos hp] at CA;refine kg s _ _ _ w hm _ (fun w m=>?_) CA;have k:=sw (jB (aO s.data.toList)) (jB (aZ s.data.toList)) (jB (aP s.data.toList)) w (by rw[ai];omega) (by rw[ai];omega) (by rw[ai];omega) m;rw[ah,ah,ah,hk,wo] at k;exact k
theorem kE (s X Y Z T:ByteArray) (e f:Int) (w:World) (hm:ML w)
  (CP:∀w:World,ML w→Calls prog 126 #[.string s] w (Ret w (.tuple #[jV X Y Z,.int .i64 e])))
  (CW:∀w:World,ML w→Calls prog 137 #[jV X Y ⟨#[]⟩] w (Ret w (.tuple #[.string T,.int .i64 f]))):
  Calls prog 77 #[.string s] w (Ret w (.string T)):=by
 have CP:=h_ CP;have CW:=h_ CW;have HM:=h_ hm;clear hm;have bs:=Sx.start w;have q:=bs.q;go_enter func77,ntmps77;go_wp2_with fail;refine(CP.out w (HM.out.ret q)).mono ?_;rintro e w1 ⟨rfl,hb⟩;replace bs:=bs.ret hb;replace q:=bs.q;clear hb;have d0:=(bs.lit (w1.heap.size) rfl [.string X,.string Y,.string Z] 117);have xn:=d0.b3 0;go_wp2_with fail;clear d0 xn;obtain⟨w2,xr,y2,al,bs⟩:=bs.alloc (w1.heap.size) rfl [.string X,.string Y,.string Z] 117;clear al;replace q:=bs.q;rw[xr];refine(ti X Y Z w2).mono ?_;rintro e w3 ⟨rfl,hb⟩;replace bs:=bs.ret hb;replace q:=bs.q;clear hb;go_wp2_with fail;refine(CW.out w3 (HM.out.ret q)).mono ?_;rintro e w4 ⟨rfl,hb⟩;replace bs:=bs.ret hb;replace q:=bs.q;clear hb;go_wp2_with fail;go_ret;exact⟨rfl,q⟩
theorem tV (s:ByteArray) (w:World) (hs:s.size≤10000) (hm:ML w):Calls prog 77 #[.string s] w (Ret w (.string (jB (db s.data.toList)))):=by
 have CP:=fun w m=>eB s w hs m
 have hz:=ab s;unfold nI at CP;unfold db;obtain⟨z1,z2,z3⟩:=cu s.data.toList
 cases hp:cP s.data.toList with
 | false=>
  rw[hp,if_neg (by decide)] at CP;rw[if_neg (by decide)];exact kE s _ _ _ _ _ _ w hm CP (fun w m=>dw ⟨#[]⟩ ⟨#[]⟩ ⟨#[]⟩ w (by decide) (by decide) (by decide) m)
 | true=>
  rw[hp,if_pos rfl] at CP;rw[if_pos rfl];have hk:=de hp
  have xG:bB (aO s.data.toList) (aZ s.data.toList) []=true:=by
   unfold bB at hk ⊢;simp only[wC] at hk;rw[hk.1.1,hk.2]
   rfl
  refine kE s _ _ _ _ _ 0 w hm CP (fun w m=>?_);have k:=dw (jB (aO s.data.toList)) (jB (aZ s.data.toList)) ⟨#[]⟩ w (by rw[ai];omega) (by rw[ai];omega) (by decide) m;unfold uC uZ at k;rw[ah,ah,show ((⟨#[]⟩:ByteArray).data.toList)=[] from rfl,xG,if_pos rfl,if_pos rfl] at k;exact k
theorem fk (x:AcI) (w:World) (_hv:aE x.iv x.it w) (_hs:cN x.it) (hj:x.j.length≤10000) (hm:ML w) (h:cG x.j=false):
  Calls prog 74 #[x.v] w (Ret w (.bool false)):=by
 have CM:=h_ fun (w':World) (hb:Bl w w')=>show Calls prog 56 #[.string ⟨x.j.toArray⟩] w' (Ret w' (.bool false)) by
  have k:=pi ⟨x.j.toArray⟩ w' (by rw[←ab];exact hj) (hm.ret hb);rw[show cG (⟨x.j.toArray⟩:ByteArray).data.toList=false from h] at k;exact k
 clear hj hm h;obtain⟨W0,hW,y0,bs⟩:=Sx.start1 w [.string ⟨x.j.toArray⟩,x.iv,.int .i64 x.ver] 33;have HW:=h_ hW;clear hW;have q:=bs.q;go_enter func74,ntmps74;have xo:=bs.b3 0;go_wp2_with fail;rw[HW.out];refine(CM.out W0 q).mono ?_;rintro e w1 ⟨rfl,hb⟩;clear xo;replace bs:=bs.ret hb;replace q:=bs.q;clear hb;have xo:=bs.b3 0;go_wp2_with fail;go_ret;exact⟨rfl,q⟩
theorem gu (x:AcI) (w:World) (hv:aE x.iv x.it w) (hs:cN x.it) (hj:x.j.length≤10000) (hm:ML w) (h:cG x.j=true):
  Calls prog 74 #[x.v] w (Ret w (.bool (kZ (x.it.map Prod.fst) x.ver))):=by
 have CM:=h_ fun (w':World) (hb:Bl w w')=>show Calls prog 56 #[.string ⟨x.j.toArray⟩] w' (Ret w' (.bool true)) by
  have k:=pi ⟨x.j.toArray⟩ w' (by rw[←ab];exact hj) (hm.ret hb);rw[show cG (⟨x.j.toArray⟩:ByteArray).data.toList=true from h] at k;exact k
 obtain⟨O,hO⟩:=e_ (kZ (x.it.map Prod.fst) x.ver)
 have CC:=h_ fun (w':World) (hb:Bl w w')=>show Calls prog 132 #[.agg #[x.iv,.int .i64 x.ver]] w' (Ret w' (.int .i64 (if O then 0 else 8))) by
  have k:=rL x.iv x.ver x.it w' (hv.ret hb) hs (hm.ret hb);rw[hO] at k;exact k
 rw[hO];clear hO;clear hv hs hj hm h
 cases O with
 | false=>
  obtain⟨W0,hW,y0,bs⟩:=Sx.start1 w [.string ⟨x.j.toArray⟩,x.iv,.int .i64 x.ver] 33;have HW:=h_ hW;clear hW;have q:=bs.q;go_enter func74,ntmps74;have xo:=bs.b3 0;go_wp2_with fail;rw[HW.out];refine(CM.out W0 q).mono ?_;rintro e w1 ⟨rfl,hb⟩;clear xo;replace bs:=bs.ret hb;replace q:=bs.q;clear hb;have xo:=bs.b3 0;go_wp2_with fail;clear xo;refine(CC.out w1 q).mono ?_;rintro e w2 ⟨rfl,hb⟩;replace bs:=bs.ret hb;replace q:=bs.q;clear hb;go_wp2_with fail;go_ret;exact⟨rfl,q⟩
 | true=>
  obtain⟨W0,hW,y0,bs⟩:=Sx.start1 w [.string ⟨x.j.toArray⟩,x.iv,.int .i64 x.ver] 33;have HW:=h_ hW;clear hW;have q:=bs.q;go_enter func74,ntmps74;have xo:=bs.b3 0;go_wp2_with fail;rw[HW.out];refine(CM.out W0 q).mono ?_;rintro e w1 ⟨rfl,hb⟩;clear xo;replace bs:=bs.ret hb;replace q:=bs.q;clear hb;have xo:=bs.b3 0;go_wp2_with fail;clear xo;refine(CC.out w1 q).mono ?_;rintro e w2 ⟨rfl,hb⟩;replace bs:=bs.ret hb;replace q:=bs.q;clear hb;go_wp2_with fail;go_ret;exact⟨rfl,q⟩
theorem iw (x:AcI) (w:World) (hv:aE x.iv x.it w) (hs:cN x.it) (hj:x.j.length≤10000) (hm:ML w):
  Calls prog 74 #[x.v] w (Ret w (.bool (eU x.d))):=by
 unfold eU
 cases h:cG x.j with
 | false=>rw[wB];exact fk x w hv hs hj hm h
 | true=>rw[wo];exact gu x w hv hs hj hm h

instance:Inhabited AcI:=⟨⟨[],[],(none,0),0⟩⟩
instance:Inhabited RsI:=⟨⟨[],false,0,[],(none,0),false,[],(none,0)⟩⟩
theorem qa {α:Type} [Inhabited α] {nm:α→List UInt8} (l:List α) (z:α) (y:List UInt8):((l++[z]).isEmpty||au (nm ((l++[z]).getLastD default)) y)=au (nm z) y:=by
 rw[List.getLastD_concat]
 cases l <;> rfl
theorem mb {α:Type} [Inhabited α] {nm:α→List UInt8} {M:List α} {m:Nat} (h:m+1<M.length):chG nm (M.take (m+2))=(chG nm (M.take (m+1))&&au (nm M[m]) (nm M[m+1])):=by
 have e:M.take (m+1)=M.take m++[M[m]]:=wD (by omega)
 have k:((M.take (m+1)).isEmpty||au (nm ((M.take (m+1)).getLastD default)) (nm M[m+1]))=au (nm M[m]) (nm M[m+1]):=by
  rw[e];exact qa _ _ _
 rw[wD h,fS,k]
theorem mr {α:Type} {nm:α→List UInt8} {M:List α} (k:Nat) (h:chG nm (M.take k)=false):chG nm M=false:=by
 cases hc:chG nm M with
 | false=>rfl
 | true=>
  have e:M.take k++M.drop k=M:=List.take_append_drop k M
  rw[←e] at hc;rw[(bW hc).1] at h
  cases h
theorem lQ (a:Option Addr) (c:Nat) (M:List AcI) (w:World) (hv:IsL acY (.slice a M.length c) M w) (hM:M.length≤100000) (hj:∀x∈M,x.j.length≤10000) (hm:ML w):
  Calls prog 79 #[.agg #[.slice a M.length c,cy]] w (Ret w (.bool (chG (fun x:AcI=>x.j) M))):=by
 obtain⟨L,hL⟩:=e_ M.length;obtain⟨O,hO⟩:=e_ (chG (fun x:AcI=>x.j) M);rw[hO];rw[hL] at hv hM ⊢;have HV:=h_ hv;have HL:=h_ hL;have HJ:=h_ hj;have HM:=h_ hm;have HO:=h_ hO;have en:=vk;clear hv hL hj hm hO;obtain⟨W0,hW,y0,bs⟩:=Sx.start1 w [.slice a L c,cy] 79;have HW:=h_ hW;clear hW;have q:=bs.q;go_enter func79,ntmps79;go_wp2_with fail;rw[HW.out];go_loopw [3] (fun i wx=>∃m:Nat,(m+1≤L∨m=0)∧i=.int .i64 ((m:Int)+1)∧chG (fun x:AcI=>x.j) (M.take (m+1))=true∧Sx w [(w.heap.size,[.slice a L c,cy])] wx) (fun i _=>L+1-(intOf i).toNat)
 case atStart=>
  refine⟨0,.inr rfl,rfl,?_,bs⟩
  cases hM0:M with
  | nil=>rfl
  | cons x l=>rfl
 case round=>
  clear bs q;obtain⟨m,xH,rfl,xt,bs⟩:=hrel;have q:=bs.q
  by_cases hlt:m+1<L
  ·have xz : m + 1 < M.length := by rw [HL.out]; exact hlt
   obtain⟨x,hx⟩:=e_ (M[m]);obtain⟨y,hy⟩:=e_ (M[m+1]);have xA:=mb (nm:=fun x:AcI=>x.j) xz;rw[xt,wo,hx,hy] at xA;obtain⟨b,off,cp,hf,-,hc⟩:=HV.out.cells (k:=m) (x:=x) (by rw[wv (by omega),hx]);rw[HL.out] at hf;simp only[ww,true_and] at hf;obtain⟨rfl,rfl⟩:=hf;obtain⟨b2,xF,xI,hf,-,hd⟩:=HV.out.cells (k:=m+1) (x:=y) (by rw[wv xz,hy]);simp only[ww,wE,wF,and_true] at hf;obtain⟨⟨rfl,rfl⟩,-,-⟩:=hf
   have HC:=h_ fun (w':World) (hb:Bl w w')=>show w'.cell? ⟨b,off+m*3,none⟩=some (.string ⟨x.j.toArray⟩)∧w'.cell? ⟨b,off+m*3+1,none⟩=some (x.iv)∧w'.cell? ⟨b,off+m*3+2,none⟩=some (.int .i64 x.ver) from ⟨hc w' hb 0 _ rfl,hc w' hb 1 _ rfl,hc w' hb 2 _ rfl⟩
   have HD:=h_ fun (w':World) (hb:Bl w w')=>show w'.cell? ⟨b,off+(m+1)*3,none⟩=some (.string ⟨y.j.toArray⟩)∧w'.cell? ⟨b,off+(m+1)*3+1,none⟩=some (y.iv)∧w'.cell? ⟨b,off+(m+1)*3+2,none⟩=some (.int .i64 y.ver) from ⟨hd w' hb 0 _ rfl,hd w' hb 1 _ rfl,hd w' hb 2 _ rfl⟩
   have zx:=HJ.out x (by rw[←hx];exact wy _);have zy:=HJ.out y (by rw[←hy];exact wy _)
   have CO:=h_ fun (w':World) (hb:Bl w w')=>show Calls prog 119 #[.string ⟨x.j.toArray⟩,.string ⟨y.j.toArray⟩] w' (Ret w' (.int .i64 (gy x.j y.j))) from fm ⟨x.j.toArray⟩ ⟨y.j.toArray⟩ w' (by rw[←ab];exact zx) (by rw[←ab];exact zy) (HM.out.ret hb)
   have xq:=jp x.j y.j;obtain⟨Q,hQ⟩:=e_ (gy x.j y.j);have co:=CO.out;rw[hQ] at co xq;have CO:=h_ co;have HS:=h_ xA;have wm:((m:Int)+1).toNat=m+1:=(by omega);have wl:(m:Int)+1<(L:Int):=(by omega);have xJ:(m:Int)<(L:Int):=(by omega);have xK:(0:Int)≤(m:Int)+1:=(by omega)
   have xL:IntKind.i64.wrap (m:Int)=(m:Int):=IntWalk.i64_in _ (by omega)
   clear co hQ xA hc hd hx hy xt xz zx zy;have xp:=bs.b2 0;go_wp2_with fail;clear xp;replace bs:=bs.ret (wq (bQ _));replace q:=bs.q
   have xB:wr.drew.heap.size=wr.heap.size:=rfl
   refine wp_region_held_drew (S:=fun w'=>w'.cell? ⟨w.heap.size,0,none⟩=some (.slice (some ⟨b,off,none⟩) L c)∧w'.cell? ⟨w.heap.size,1,none⟩=some (cy)∧w'.cell? ⟨b,off+m*3,none⟩=some (.string ⟨x.j.toArray⟩)∧w'.cell? ⟨b,off+m*3+1,none⟩=some (x.iv)∧w'.cell? ⟨b,off+m*3+2,none⟩=some (.int .i64 x.ver)∧w'.cell? ⟨b,off+(m+1)*3,none⟩=some (.string ⟨y.j.toArray⟩)∧w'.cell? ⟨b,off+(m+1)*3+1,none⟩=some (y.iv)∧w'.cell? ⟨b,off+(m+1)*3+2,none⟩=some (.int .i64 y.ver)) (by kernel_rfl) ⟨bs.at 0 0,bs.at 0 1,(HC.out _ q).1,(HC.out _ q).2.1,(HC.out _ q).2.2,(HD.out _ q).1,(HD.out _ q).2.1,(HD.out _ q).2.2⟩ (fun hH=>?_);generalize wr.drew=w21 at bs q xB hH ⊢;refine rS [(0,some 11),(1,some 12),(2,some 13),(3,some 14),(4,some 15),(5,some 16),(6,some 17),(7,some 18),(9,some 20),(10,some 21),(11,some 22),(12,some 23),(13,some 24),(14,some 25),(15,some 26)] ?_
   iterate 15 refine aS ?_
   refine rE ?_
   refine aC (i:=8) fun K hK=>?_
   go_simp;refine(dx x w21).mono ?_;rintro e xC ⟨rfl,hb⟩;replace bs:=bs.ret hb;replace q:=bs.q;clear hb;go_simp;clear hH;refine hK.out _ _ ⟨bs.at 0 0,bs.at 0 1,(HC.out _ q).1,(HC.out _ q).2.1,(HC.out _ q).2.2,(HD.out _ q).1,(HD.out _ q).2.1,(HD.out _ q).2.2⟩ (fun hH=>?_);clear hK K
   refine aC (i:=16) fun K hK=>?_
   go_simp;refine(dx y xC).mono ?_;rintro e xD ⟨rfl,hb⟩;replace bs:=bs.ret hb;replace q:=bs.q;clear hb;go_simp;clear hH;refine hK.out _ _ ⟨bs.at 0 0,bs.at 0 1,(HC.out _ q).1,(HC.out _ q).2.1,(HC.out _ q).2.2,(HD.out _ q).1,(HD.out _ q).2.1,(HD.out _ q).2.2⟩ (fun hH=>?_);clear hK K
   refine aC (i:=17) fun K hK=>?_
   go_simp;refine(CO.out xD q).mono ?_;rintro e xM ⟨rfl,hb⟩;replace bs:=bs.ret hb;replace q:=bs.q;clear hb;go_simp;clear hH;refine hK.out _ _ ⟨bs.at 0 0,bs.at 0 1,(HC.out _ q).1,(HC.out _ q).2.1,(HC.out _ q).2.2,(HD.out _ q).1,(HD.out _ q).2.1,(HD.out _ q).2.2⟩ (fun hH=>?_);clear hK K;refine rS [(18,some 29)] ?_;refine aS ?_;refine rE ?_;refine aD ?_;clear hH
   by_cases hl:au x.j y.j=true
   ·have hq : Q < 0 := by rw [hl] at xq; exact of_decide_eq_true xq
    have xE:decide (0≤Q)=false:=decide_eq_false (by omega)
    go_wp2_with fail;go_roundw
    case rel=>exact⟨m+1,.inl (by omega),by go_num,by rw[HS.out];exact hl,bs⟩
    case measure=>simp[intOf];omega
   ·have hq:¬ Q<0:=fun h=>hl (by rw[←xq];exact decide_eq_true h)
    have xE:decide (0≤Q)=true:=decide_eq_true (by omega)
    go_wp2_with fail;go_ret;refine⟨?_,q⟩;have hf:=mr (m+2) (by rw[HS.out];simpa using hl);rw[HO.out] at hf;rw[hf]
    rfl
  ·have hO:O=true:=by
    have e:M.take (m+1)=M:=wG (by rw[HL.out];omega)
    rw[e] at xt;rw[←HO.out];exact xt
   subst hO;have wl:¬ (m:Int)+1<(L:Int):=(by omega);have xp:=bs.b2 0;go_wp2_with fail;go_ret;exact⟨rfl,q⟩
theorem lu (a:Option Addr) (c:Nat) (M:List RsI) (w:World) (hv:IsL rsY (.slice a M.length c) M w) (hM:M.length≤100000) (hj:∀x∈M,x.j.length≤10000) (hm:ML w):
  Calls prog 81 #[.agg #[.slice a M.length c,cv]] w (Ret w (.bool (chG (fun x:RsI=>x.j) M))):=by
 obtain⟨L,hL⟩:=e_ M.length;obtain⟨O,hO⟩:=e_ (chG (fun x:RsI=>x.j) M);rw[hO];rw[hL] at hv hM ⊢;have HV:=h_ hv;have HL:=h_ hL;have HJ:=h_ hj;have HM:=h_ hm;have HO:=h_ hO;have en:=vg;clear hv hL hj hm hO;obtain⟨W0,hW,y0,bs⟩:=Sx.start1 w [.slice a L c,cv] 84;have HW:=h_ hW;clear hW;have q:=bs.q;go_enter func81,ntmps81;go_wp2_with fail;rw[HW.out];go_loopw [3] (fun i wx=>∃m:Nat,(m+1≤L∨m=0)∧i=.int .i64 ((m:Int)+1)∧chG (fun x:RsI=>x.j) (M.take (m+1))=true∧Sx w [(w.heap.size,[.slice a L c,cv])] wx) (fun i _=>L+1-(intOf i).toNat)
 case atStart=>
  refine⟨0,.inr rfl,rfl,?_,bs⟩
  cases hM0:M with
  | nil=>rfl
  | cons x l=>rfl
 case round=>
  clear bs q;obtain⟨m,xH,rfl,xt,bs⟩:=hrel;have q:=bs.q
  by_cases hlt:m+1<L
  ·have xz : m + 1 < M.length := by rw [HL.out]; exact hlt
   obtain⟨x,hx⟩:=e_ (M[m]);obtain⟨y,hy⟩:=e_ (M[m+1]);have xA:=mb (nm:=fun x:RsI=>x.j) xz;rw[xt,wo,hx,hy] at xA;obtain⟨b,off,cp,hf,-,hc⟩:=HV.out.cells (k:=m) (x:=x) (by rw[wv (by omega),hx]);rw[HL.out] at hf;simp only[ww,true_and] at hf;obtain⟨rfl,rfl⟩:=hf;obtain⟨b2,xF,xI,hf,-,hd⟩:=HV.out.cells (k:=m+1) (x:=y) (by rw[wv xz,hy]);simp only[ww,wE,wF,and_true] at hf;obtain⟨⟨rfl,rfl⟩,-,-⟩:=hf
   have HC:=h_ fun (w':World) (hb:Bl w w')=>show w'.cell? ⟨b,off+m*6,none⟩=some (.string ⟨x.j.toArray⟩)∧w'.cell? ⟨b,off+m*6+1,none⟩=some (.bool x.on)∧w'.cell? ⟨b,off+m*6+2,none⟩=some (.int .i64 x.pr)∧w'.cell? ⟨b,off+m*6+3,none⟩=some (x.lv)∧w'.cell? ⟨b,off+m*6+4,none⟩=some (.bool x.ask)∧w'.cell? ⟨b,off+m*6+5,none⟩=some (x.sv) from ⟨hc w' hb 0 _ rfl,hc w' hb 1 _ rfl,hc w' hb 2 _ rfl,hc w' hb 3 _ rfl,hc w' hb 4 _ rfl,hc w' hb 5 _ rfl⟩
   have HD:=h_ fun (w':World) (hb:Bl w w')=>show w'.cell? ⟨b,off+(m+1)*6,none⟩=some (.string ⟨y.j.toArray⟩)∧w'.cell? ⟨b,off+(m+1)*6+1,none⟩=some (.bool y.on)∧w'.cell? ⟨b,off+(m+1)*6+2,none⟩=some (.int .i64 y.pr)∧w'.cell? ⟨b,off+(m+1)*6+3,none⟩=some (y.lv)∧w'.cell? ⟨b,off+(m+1)*6+4,none⟩=some (.bool y.ask)∧w'.cell? ⟨b,off+(m+1)*6+5,none⟩=some (y.sv) from ⟨hd w' hb 0 _ rfl,hd w' hb 1 _ rfl,hd w' hb 2 _ rfl,hd w' hb 3 _ rfl,hd w' hb 4 _ rfl,hd w' hb 5 _ rfl⟩
   have zx:=HJ.out x (by rw[←hx];exact wy _);have zy:=HJ.out y (by rw[←hy];exact wy _)
   have CO:=h_ fun (w':World) (hb:Bl w w')=>show Calls prog 119 #[.string ⟨x.j.toArray⟩,.string ⟨y.j.toArray⟩] w' (Ret w' (.int .i64 (gy x.j y.j))) from fm ⟨x.j.toArray⟩ ⟨y.j.toArray⟩ w' (by rw[←ab];exact zx) (by rw[←ab];exact zy) (HM.out.ret hb)
   have xq:=jp x.j y.j;obtain⟨Q,hQ⟩:=e_ (gy x.j y.j);have co:=CO.out;rw[hQ] at co xq;have CO:=h_ co;have HS:=h_ xA;have wm:((m:Int)+1).toNat=m+1:=(by omega);have wl:(m:Int)+1<(L:Int):=(by omega);have xJ:(m:Int)<(L:Int):=(by omega);have xK:(0:Int)≤(m:Int)+1:=(by omega)
   have xL:IntKind.i64.wrap (m:Int)=(m:Int):=IntWalk.i64_in _ (by omega)
   clear co hQ xA hc hd hx hy xt xz zx zy;have xp:=bs.b2 0;go_wp2_with fail;clear xp;replace bs:=bs.ret (wq (bQ _));replace q:=bs.q
   have xB:wr.drew.heap.size=wr.heap.size:=rfl
   refine wp_region_held_drew (S:=fun w'=>w'.cell? ⟨w.heap.size,0,none⟩=some (.slice (some ⟨b,off,none⟩) L c)∧w'.cell? ⟨w.heap.size,1,none⟩=some (cv)∧w'.cell? ⟨b,off+m*6,none⟩=some (.string ⟨x.j.toArray⟩)∧w'.cell? ⟨b,off+m*6+1,none⟩=some (.bool x.on)∧w'.cell? ⟨b,off+m*6+2,none⟩=some (.int .i64 x.pr)∧w'.cell? ⟨b,off+m*6+3,none⟩=some (x.lv)∧w'.cell? ⟨b,off+m*6+4,none⟩=some (.bool x.ask)∧w'.cell? ⟨b,off+m*6+5,none⟩=some (x.sv)∧w'.cell? ⟨b,off+(m+1)*6,none⟩=some (.string ⟨y.j.toArray⟩)∧w'.cell? ⟨b,off+(m+1)*6+1,none⟩=some (.bool y.on)∧w'.cell? ⟨b,off+(m+1)*6+2,none⟩=some (.int .i64 y.pr)∧w'.cell? ⟨b,off+(m+1)*6+3,none⟩=some (y.lv)∧w'.cell? ⟨b,off+(m+1)*6+4,none⟩=some (.bool y.ask)∧w'.cell? ⟨b,off+(m+1)*6+5,none⟩=some (y.sv)) (by kernel_rfl) ⟨bs.at 0 0,bs.at 0 1,(HC.out _ q).1,(HC.out _ q).2.1,(HC.out _ q).2.2.1,(HC.out _ q).2.2.2.1,(HC.out _ q).2.2.2.2.1,(HC.out _ q).2.2.2.2.2,(HD.out _ q).1,(HD.out _ q).2.1,(HD.out _ q).2.2.1,(HD.out _ q).2.2.2.1,(HD.out _ q).2.2.2.2.1,(HD.out _ q).2.2.2.2.2⟩ (fun hH=>?_);generalize wr.drew=w21 at bs q xB hH ⊢;refine rS [(0,some 11),(1,some 12),(2,some 13),(3,some 14),(4,some 15),(5,some 16),(6,some 17),(7,some 18),(9,some 20),(10,some 21),(11,some 22),(12,some 23),(13,some 24),(14,some 25),(15,some 26)] ?_
   iterate 15 refine aS ?_
   refine rE ?_
   refine aC (i:=8) fun K hK=>?_
   go_simp;refine(dB x w21).mono ?_;rintro e xC ⟨rfl,hb⟩;replace bs:=bs.ret hb;replace q:=bs.q;clear hb;go_simp;clear hH;refine hK.out _ _ ⟨bs.at 0 0,bs.at 0 1,(HC.out _ q).1,(HC.out _ q).2.1,(HC.out _ q).2.2.1,(HC.out _ q).2.2.2.1,(HC.out _ q).2.2.2.2.1,(HC.out _ q).2.2.2.2.2,(HD.out _ q).1,(HD.out _ q).2.1,(HD.out _ q).2.2.1,(HD.out _ q).2.2.2.1,(HD.out _ q).2.2.2.2.1,(HD.out _ q).2.2.2.2.2⟩ (fun hH=>?_);clear hK K
   refine aC (i:=16) fun K hK=>?_
   go_simp;refine(dB y xC).mono ?_;rintro e xD ⟨rfl,hb⟩;replace bs:=bs.ret hb;replace q:=bs.q;clear hb;go_simp;clear hH;refine hK.out _ _ ⟨bs.at 0 0,bs.at 0 1,(HC.out _ q).1,(HC.out _ q).2.1,(HC.out _ q).2.2.1,(HC.out _ q).2.2.2.1,(HC.out _ q).2.2.2.2.1,(HC.out _ q).2.2.2.2.2,(HD.out _ q).1,(HD.out _ q).2.1,(HD.out _ q).2.2.1,(HD.out _ q).2.2.2.1,(HD.out _ q).2.2.2.2.1,(HD.out _ q).2.2.2.2.2⟩ (fun hH=>?_);clear hK K
   refine aC (i:=17) fun K hK=>?_
   go_simp;refine(CO.out xD q).mono ?_;rintro e xM ⟨rfl,hb⟩;replace bs:=bs.ret hb;replace q:=bs.q;clear hb;go_simp;clear hH;refine hK.out _ _ ⟨bs.at 0 0,bs.at 0 1,(HC.out _ q).1,(HC.out _ q).2.1,(HC.out _ q).2.2.1,(HC.out _ q).2.2.2.1,(HC.out _ q).2.2.2.2.1,(HC.out _ q).2.2.2.2.2,(HD.out _ q).1,(HD.out _ q).2.1,(HD.out _ q).2.2.1,(HD.out _ q).2.2.2.1,(HD.out _ q).2.2.2.2.1,(HD.out _ q).2.2.2.2.2⟩ (fun hH=>?_);clear hK K;refine rS [(18,some 29)] ?_;refine aS ?_;refine rE ?_;refine aD ?_;clear hH
   by_cases hl:au x.j y.j=true
   ·have hq : Q < 0 := by rw [hl] at xq; exact of_decide_eq_true xq
    have xE:decide (0≤Q)=false:=decide_eq_false (by omega)
    go_wp2_with fail;go_roundw
    case rel=>exact⟨m+1,.inl (by omega),by go_num,by rw[HS.out];exact hl,bs⟩
    case measure=>simp[intOf];omega
   ·have hq:¬ Q<0:=fun h=>hl (by rw[←xq];exact decide_eq_true h)
    have xE:decide (0≤Q)=true:=decide_eq_true (by omega)
    go_wp2_with fail;go_ret;refine⟨?_,q⟩;have hf:=mr (m+2) (by rw[HS.out];simpa using hl);rw[HO.out] at hf;rw[hf]
    rfl
  ·have hO:O=true:=by
    have e:M.take (m+1)=M:=wG (by rw[HL.out];omega)
    rw[e] at xt;rw[←HO.out];exact xt
   subst hO;have wl:¬ (m:Int)+1<(L:Int):=(by omega);have xp:=bs.b2 0;go_wp2_with fail;go_ret;exact⟨rfl,q⟩
end Go.Proofs.YtjgeiieiinmdnaaGreatDoor
