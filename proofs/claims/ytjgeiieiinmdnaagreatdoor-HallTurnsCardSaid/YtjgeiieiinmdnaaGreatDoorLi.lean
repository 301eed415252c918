/- HaM1, HaM2, HaM3: put together by mergetpl.py. -/
import Derived.Test.YtjgeiieiinmdnaaGreatDoorLg
import Derived.Test.YtjgeiieiinmdnaaGreatDoorLh
import Derived.Test.YtjgeiieiinmdnaaGreatDoorLf
open Go.Proofs.Tryz
open Bool renaming false_eq_true→ws
open Go.RowKit.Below renaming drew→wq
open Go.Value renaming slice→wz
open Go.World renaming setCells→wo
open List renaming mem_of_getElem?→wt,length→wu,eraseIdx_eq_take_drop_succ→wy
open Nat renaming le_of_ble_eq_true→wh,le_trans→wA
open Option renaming isSome_none→wv,isSome_some→ww
namespace Go.Proofs.YtjgeiieiinmdnaaGreatDoor
set_option maxHeartbeats 16000000
set_option maxRecDepth 100000
open Go.RowKit Go.Lib

theorem aK {fn:Func} {tmps:Array Value} {W:World} {R p q:Nat} {v0 v1 v2 e:Value} (h:fn.results=#[.cell p 25,.tmp q]) (h2:tmps.getD p undef=.pointer (some ⟨R,0,none⟩)) (h3:tmps.getD q undef=e) (k:Bx R [v0,v1,v2] W):
  (results fn tmps).run prog W=.ok (.tuple #[.agg #[v0,v1,v2],e]) W:=by
 have c0:=k.at 0 rfl;have c1:=k.at 1 rfl;have c2:=k.at 2 rfl;rw[results_cell_tmp h,h2,h3]
 simp[go_sem,Result.andThen,c0,c1,c2]
theorem dl {w w':World} (e:Int) (hb:Bl w w'):fU w (co0,e) (.returned (.tuple #[.agg #[.slice none 0 0,.slice none 0 0,.int .i64 0],.int .i64 e])) w':=⟨⟨[],(none,0),[],(none,0),0⟩,rfl,rfl,⟨OwL.nil _ _ _,OwL.nil _ _ _⟩,hb⟩
theorem fN {α β:Type} (f:α→β) (nm:β→List UInt8) (t:List UInt8) (L:List α):(fiG nm (L.map f) t).isSome=(L.find? fun x=>nm (f x)==t).isSome:=by rw[iX,Option.isSome_map]
theorem OwL.keepSets {α:Type} {Y:Ly α} {B:Nat} {v:Value} {M:List α} {w w':World} (h:OwL Y (fun g=>B≤g) v M w) {A o:Nat} {vs:List Value} (hA:A<B) (e:w.setCells A o vs=w'):OwL Y (fun g=>B≤g) v M w':=OwL.far h (by omega) e
theorem kT {α β:Type} (f:α→β) (L:List α) (k:Nat):(L.eraseIdx k).map f=(L.map f).eraseIdx k:=by
 rw[wy,wy,List.map_append,List.map_take,List.map_drop]
theorem sB (p:List Nd→Bool) (c:CoI) (t:List UInt8) (w:World) (h:CoFit p c w) (hm:ML w):Calls prog 39 #[c.v,.string ⟨t.toArray⟩] w (fU w (dR p c.d t)):=by
 obtain⟨A,⟨aa,ac⟩,R,⟨ra,rc⟩,m⟩:=c
 have xq:=fun (W:World) (hb:Bl w W)=>fo p ⟨A,(aa,ac),R,(ra,rc),m⟩ W (h.ret hb) (hm.ret hb)
 have xy:=fun (W:World) (hb:Bl w W)=>iK ⟨A,(aa,ac),R,(ra,rc),m⟩ W (h.sub.ret hb) h.zA h.zR (fun a ha=>(h.ac a ha).2) (fun r hr=>(h.rs r hr).2)
 obtain⟨⟨hA,hR⟩,zA,zR,xz,xA⟩:=h
 simp only at zA zR xz xA
 have hA:IsL acY (.slice aa A.length ac) A w:=hA;have hR:IsL rsY (.slice ra R.length rc) R w:=hR
 have xu:=fun (W:World) (hb:Bl w W)=>dA ra R.length rc R t W (hR.ret hb) (by omega)
 unfold dR;simp only[CoI.d] at xq xy ⊢;rw[fN]
 show Calls prog 39 #[.agg #[.slice aa A.length ac,.slice ra R.length rc,.int .i64 m],.string ⟨t.toArray⟩] w _
 simp only[CoI.v] at xq xy;obtain⟨LA,xx⟩:=e_ A.length;obtain⟨LR,xw⟩:=e_ R.length;rw[xx,xw] at xq xy;rw[xw] at xu;rw[xx,xw];have TW:=h_ xy;clear xy
 cases hc:aB p (A.map AcI.d,R.map RsI.d,m) with
 | false=>
  rw[hc] at xq;have CK:=h_ (show ∀W,Bl w W→Calls prog 30 #[.agg #[.slice aa LA ac,.slice ra LR rc,.int .i64 m]] W (Ret W (.int .i64 8)) from xq);simp only[ws,if_false];clear xq xu hA hR xz xA zA zR xx xw hc hm;obtain⟨W0,hW,y0,bs⟩:=Sx.start2 w [.slice aa LA ac,.slice ra LR rc,.int .i64 m] 25 [.slice none 0 0,.slice none 0 0,.int .i64 0] 25;have HW:=h_ hW;clear hW;have q:=bs.q;go_enter func39,ntmps39;go_wp2_with fail;rw[HW.out];have xn:=bs.b3 0;go_wp2_with fail;refine(CK.out W0 q).mono ?_;rintro e w1 ⟨rfl,hb⟩;clear xn;replace bs:=bs.ret hb;replace q:=bs.q;clear hb;have xr:=bs.b3 1;have xt:=bs.g3 1;go_wp2_with fail;clear xr xt;obtain⟨w2,xW,y2,bs⟩:=bs.sets 1 0 [.slice none 0 0,.slice none 0 0,.int .i64 0] rfl (wh rfl);replace q:=bs.q;simp only[wo,Nat.reduceAdd] at xW;rw[xW];exact bodyPost_ret (aK rfl rfl rfl (bs.box 1 rfl)) rfl (dl 8 q)
 | true=>
  rw[hc] at xq;have CK:=h_ (show ∀W,Bl w W→Calls prog 30 #[.agg #[.slice aa LA ac,.slice ra LR rc,.int .i64 m]] W (Ret W (.int .i64 0)) from xq);simp only[if_true]
  rcases eV (fun x:RsI=>x.j==t) R with ⟨hi,hn⟩ | ⟨k,x,hi,hk,hq,hn⟩
  ·have e:(fun x:RsI=>reN x.d==t)=fun x=>x.j==t:=rfl
   rw[e,hn];rw[hi] at xu;simp only[wv,ws,if_false];have FI:=h_ xu;clear xq xu hA hR xz xA zA zR xx xw hc hm e hn hi;obtain⟨W0,hW,y0,bs⟩:=Sx.start2 w [.slice aa LA ac,.slice ra LR rc,.int .i64 m] 25 [.slice none 0 0,.slice none 0 0,.int .i64 0] 25;have HW:=h_ hW;clear hW;have q:=bs.q;go_enter func39,ntmps39;go_wp2_with fail;rw[HW.out];have xn:=bs.b3 0;go_wp2_with fail;refine(CK.out W0 q).mono ?_;rintro e w1 ⟨rfl,hb⟩;clear xn;replace bs:=bs.ret hb;replace q:=bs.q;clear hb;have xn:=bs.b3 0;go_wp2_with fail;refine(aX aa ra LA ac LR rc m w1).mono ?_;rintro e w2 ⟨rfl,hb⟩;clear xn;replace bs:=bs.ret hb;replace q:=bs.q;clear hb;go_wp2_with fail;refine(FI.out w2 q).mono ?_;rintro e w3 ⟨rfl,hb⟩;replace bs:=bs.ret hb;replace q:=bs.q;clear hb;have xr:=bs.b3 1;have xt:=bs.g3 1;go_wp2_with fail;clear xr xt;obtain⟨w4,yE,y4,bs⟩:=bs.sets 1 0 [.slice none 0 0,.slice none 0 0,.int .i64 0] rfl (wh rfl);replace q:=bs.q;simp only[wo,Nat.reduceAdd] at yE;rw[yE];exact bodyPost_ret (aK rfl rfl rfl (bs.box 1 rfl)) rfl (dl 6 q)
  ·have e:(fun x:RsI=>reN x.d==t)=fun x=>x.j==t:=rfl
   rw[e,hn];have yF:=np hi;rw[hi] at xu;simp only[ww,if_true];have FI:=h_ xu
   have yG:k<R.length:=by
    rcases Nat.lt_or_ge k R.length with h1 | h1
    ·exact h1
    ·rw[List.getElem?_eq_none h1] at hk;cases hk
   have hw:IntKind.i64.wrap ((k:Int)+1)=(k:Int)+1:=IntWalk.i64_in _ (by omega)
   have yw:(R.eraseIdx k).map RsI.d=(R.map RsI.d).eraseP fun x=>reN x==t:=by
    rw[yF,List.eraseP_map]
    rfl
   have HF:=h_ yw;have zR':LR≤1000:=(by omega);rw[xw] at yG;have yi:=h_ xw;have yj:=h_ xx;clear xq xu hA hR xz xA zA zR xx xw hc hm e hn hi hk hq yF yw;obtain⟨W0,hW,y0,bs⟩:=Sx.start2 w [.slice aa LA ac,.slice ra LR rc,.int .i64 m] 25 [.slice none 0 0,.slice none 0 0,.int .i64 0] 25;have HW:=h_ hW;clear hW;have q:=bs.q;go_enter func39,ntmps39;go_wp2_with fail;rw[HW.out];have xn:=bs.b3 0;go_wp2_with fail;refine(CK.out W0 q).mono ?_;rintro e w1 ⟨rfl,hb⟩;clear xn;replace bs:=bs.ret hb;replace q:=bs.q;clear hb;have xn:=bs.b3 0;go_wp2_with fail;refine(aX aa ra LA ac LR rc m w1).mono ?_;rintro e w2 ⟨rfl,hb⟩;clear xn;replace bs:=bs.ret hb;replace q:=bs.q;clear hb;go_wp2_with fail;refine(FI.out w2 q).mono ?_;rintro e w3 ⟨rfl,hb⟩;replace bs:=bs.ret hb;replace q:=bs.q;clear hb;have xn:=bs.b3 0;go_wp2_with fail
   have hB:w.heap.size+2≤w3.heap.size:=bs.lt _ (wt (i:=1) rfl)
   refine(TW.out w3 q).mono ?_;rintro e w4 ⟨⟨A2,⟨a2,c2⟩,R2,⟨a3,c3⟩,m2⟩,rfl,hd,⟨xB,xM⟩,hb⟩;simp only[CoI.d,Prod.mk.injEq] at hd;obtain⟨xN,xO,rfl⟩:=hd;simp only[CoI.v,CoI.av,CoI.rv] at xB xM ⊢;have xC:A2.length=A.length:=(by have:=congrArg wu xN;simpa using this);have xD:R2.length=R.length:=(by have:=congrArg wu xO;simpa using this);rw[yj.out] at xC;rw[yi.out] at xD;rw[xC,xD];rw[xD] at xB xM;rw[xC] at xB;have xo:OwU acY (w.heap.size+2) (.slice a3 LR c3) (.slice a2 LA c2) A2 _:=OwU.of xB hB;have xp:OwU rsY (w.heap.size+2) tp (.slice a3 LR c3) R2 _:=OwU.ofN xM hB;have xX:=h_ xN;have xY:=h_ xO;have xS:=h_ xC;have xP:=h_ xD;clear xB xM xN xO xC xD hB;clear xn;replace bs:=bs.ret hb;replace q:=bs.q;clear hb;have xn:=bs.b3 0;have xE:=bs.g3 0;go_wp2_with fail;clear xn xE;obtain⟨w5,xR,y5,bs⟩:=bs.sets 0 0 [.slice a2 LA c2,.slice a3 LR c3,.int .i64 m2] rfl (wh rfl);replace xo:=xo.sets (by omega) xR;replace xp:=xp.sets (by omega) xR;replace q:=bs.q;simp only[wo,Nat.reduceAdd] at xR;rw[xR];have xn:=bs.b3 0;go_wp2_with fail;have yx:=kb (w.heap.size+2) (.slice a3 LR c3) R2 k w5 (by have:=xp.row;rw[xP.out] at this;rw[xP.out];exact this) (by rw[xP.out];exact yG) (by rw[xP.out];omega);refine yx.mono ?_;rintro e yH ⟨v',rfl,xZ,yu,yM⟩;clear xn
   have xI:∀x∈R2.eraseIdx k,rsY.own (fun g=>w.heap.size+2≤g∧(wz a3 LR c3).ownBlock≠some g) x yH:=fun x hx=>eF (xp.elem (List.mem_of_mem_eraseIdx hx)) fun j hj hS=>yu.block j hj fun e=>hS.2 e.symm
   have yI:∀g,(wz a3 LR c3).ownBlock=some g→w.heap.size+2≤g:=fun g hg=>(xp.row.lt g hg).1
   replace bs:=bs.grownB yu yI (fun a ha=>by simp at ha;omega) (by omega);replace q:=bs.q;replace xo:=xo.grown yu;obtain⟨a4,c4,rfl,-⟩:=aw xZ
   have xJ:OwL rsY (fun g=>w.heap.size+2≤g) (.slice a4 (R2.eraseIdx k).length c4) (R2.eraseIdx k) yH:=ba xZ rfl rfl (fun _ h=>h) fun x hx=>rsY.ownMono _ _ _ _ (xI x hx) fun _ _ hg=>hg.1
   clear xI yI yu yM xp yx xZ;obtain⟨L4,yy⟩:=e_ ((R2.eraseIdx k).length);rw[yy] at xJ ⊢;have yJ:=h_ yy;clear yy;have xn:=bs.b3 0;have xE:=bs.g3 0;have xr:=bs.b3 1;have xt:=bs.g3 1;go_wp2_with fail;clear xn xE xr xt;obtain⟨yT,yg,yU,bs⟩:=bs.sets 0 1 [.slice a4 L4 c4] rfl (wh rfl);replace xo:=xo.sets (by omega) yg;obtain⟨yV,yh,yW,bs⟩:=bs.sets 1 0 [.slice a2 LA c2,.slice a4 L4 c4,.int .i64 m2] rfl (wh rfl);replace xo:=xo.sets (by omega) yh;replace q:=bs.q;have yK:=OwL.keepSets (OwL.keepSets xJ (by omega) yg) (by omega) yh;simp only[wo] at yg;rw[yg];simp only[wo,Nat.reduceAdd] at yh;rw[yh];refine bodyPost_ret (aK rfl rfl rfl (bs.box 1 rfl)) rfl ⟨⟨A2,(a2,c2),R2.eraseIdx k,(a4,c4),m2⟩,?_,?_,⟨?_,?_⟩,q⟩
   ·show _=Ending.returned (.tuple #[.agg #[.slice a2 A2.length c2,.slice a4 (R2.eraseIdx k).length c4,.int .i64 m2],.int .i64 0])
    rw[xS.out,yJ.out]
    rfl
   ·show (A2.map AcI.d,(R2.eraseIdx k).map RsI.d,m2)=_
    rw[xX.out,kT,xY.out,←HF.out,kT]
   ·show OwL acY _ (.slice a2 A2.length c2) A2 _
    rw[xS.out]
    exact OwL.mono xo.own fun g _ hg=>by omega
   ·show OwL rsY _ (.slice a4 (R2.eraseIdx k).length c4) (R2.eraseIdx k) _
    rw[yJ.out]
    exact OwL.mono yK fun g _ hg=>by omega

theorem tJ (p:List Nd→Bool) (c:CoI) (x:RsI) (w:World) (h:CoFit p c w) (hx:RsFit p x w) (xI:gd x) (hm:ML w):Calls prog 41 #[c.v,x.v] w (fU w (bh p c.d x.d)):=by
 obtain⟨A,⟨aa,ac⟩,R,⟨ra,rc⟩,m⟩:=c
 have xq:=fun (W:World) (hb:Bl w W)=>fo p ⟨A,(aa,ac),R,(ra,rc),m⟩ W (h.ret hb) (hm.ret hb)
 have xy:=fun (W:World) (hb:Bl w W)=>iK ⟨A,(aa,ac),R,(ra,rc),m⟩ W (h.sub.ret hb) h.zA h.zR (fun a ha=>(h.ac a ha).2) (fun r hr=>(h.rs r hr).2)
 obtain⟨⟨hA,hR⟩,zA,zR,xz,xA⟩:=h
 simp only at zA zR xz xA
 have hA:IsL acY (.slice aa A.length ac) A w:=hA;have hR:IsL rsY (.slice ra R.length rc) R w:=hR;have zx:=hx.j
 have xu:=fun (W:World) (hb:Bl w W)=>dA ra R.length rc R x.j W (hR.ret hb) (by omega)
 have xF:=fun (W:World) (hb:Bl w W)=>rV p x W (hx.ret hb) (hm.ret hb)
 have yk:=fun (W:World) (hb:Bl w W)=>oW x W (hx.ret hb).sub xI
 unfold bh;simp only[CoI.d] at xq xy ⊢;rw[fN]
 show Calls prog 41 #[.agg #[.slice aa A.length ac,.slice ra R.length rc,.int .i64 m],x.v] w _
 simp only[CoI.v] at xq xy;obtain⟨LA,xx⟩:=e_ A.length;obtain⟨LR,xw⟩:=e_ R.length;rw[xx,xw] at xq xy;rw[xw] at xu;rw[xx,xw];have TW:=h_ xy;have TX:=h_ yk;have HM:=h_ hm;clear xy yk
 cases hc:aB p (A.map AcI.d,R.map RsI.d,m) with
 | false=>
  rw[hc] at xq;have CK:=h_ (show ∀W,Bl w W→Calls prog 30 #[.agg #[.slice aa LA ac,.slice ra LR rc,.int .i64 m]] W (Ret W (.int .i64 8)) from xq);simp only[ws,if_false];clear xq xu xF hA hR xz xA zA zR xx xw hc hm hx xI zx;obtain⟨W0,hW,y0,bs⟩:=Sx.start3 w [.slice aa LA ac,.slice ra LR rc,.int .i64 m] 25 [.string ⟨x.j.toArray⟩,.bool x.on,.int .i64 x.pr,x.lv,.bool x.ask,x.sv] 38 [.slice none 0 0,.slice none 0 0,.int .i64 0] 25;have HW:=h_ hW;clear hW;have q:=bs.q;go_enter func41,ntmps41;go_wp2_with fail;rw[HW.out];have xn:=bs.b3 0;go_wp2_with fail;refine(CK.out W0 q).mono ?_;rintro e w1 ⟨rfl,hb⟩;clear xn;replace bs:=bs.ret hb;replace q:=bs.q;clear hb;have xr:=bs.b3 2;have xt:=bs.g3 2;go_wp2_with fail;clear xr xt;obtain⟨w2,xW,y2,bs⟩:=bs.sets 2 0 [.slice none 0 0,.slice none 0 0,.int .i64 0] rfl (wh rfl);replace q:=bs.q;simp only[wo,Nat.reduceAdd] at xW;rw[xW];exact bodyPost_ret (aK rfl rfl rfl (bs.box 2 rfl)) rfl (dl 8 q)
 | true=>
  rw[hc] at xq;have CK:=h_ (show ∀W,Bl w W→Calls prog 30 #[.agg #[.slice aa LA ac,.slice ra LR rc,.int .i64 m]] W (Ret W (.int .i64 0)) from xq);simp only[if_true]
  have e:(fun y:RsI=>reN y.d==reN x.d)=fun y=>y.j==x.j:=rfl
  rcases eV (fun y:RsI=>y.j==x.j) R with ⟨hi,hn⟩ | ⟨k,y,hi,hk,hq,hn⟩
  ·rw[show (R.find? fun y=>reN y.d==x.d.j)=none from hn]
   rw[hi] at xu;simp only[wv,ws,if_false];have FI:=h_ xu;clear xq xu xF hA hR xz xA zA zR xx xw hc hm hn hi hx xI zx e;obtain⟨W0,hW,y0,bs⟩:=Sx.start3 w [.slice aa LA ac,.slice ra LR rc,.int .i64 m] 25 [.string ⟨x.j.toArray⟩,.bool x.on,.int .i64 x.pr,x.lv,.bool x.ask,x.sv] 38 [.slice none 0 0,.slice none 0 0,.int .i64 0] 25;have HW:=h_ hW;clear hW;have q:=bs.q;go_enter func41,ntmps41;go_wp2_with fail;rw[HW.out];have xn:=bs.b3 0;go_wp2_with fail;refine(CK.out W0 q).mono ?_;rintro e w1 ⟨rfl,hb⟩;clear xn;replace bs:=bs.ret hb;replace q:=bs.q;clear hb;go_wp2_with fail;replace bs:=bs.ret (wq (bQ _));replace q:=bs.q
   have y2:w1.drew.heap.size=w1.heap.size:=rfl
   refine wp_region_held_drew (S:=fun w'=>w'.cell? ⟨w.heap.size,0,none⟩=some (.slice aa LA ac)∧w'.cell? ⟨w.heap.size,1,none⟩=some (.slice ra LR rc)∧w'.cell? ⟨w.heap.size,2,none⟩=some (.int .i64 m)∧w'.cell? ⟨w.heap.size+1,0,none⟩=some (.string ⟨x.j.toArray⟩)∧w'.cell? ⟨w.heap.size+1,1,none⟩=some (.bool x.on)∧w'.cell? ⟨w.heap.size+1,2,none⟩=some (.int .i64 x.pr)∧w'.cell? ⟨w.heap.size+1,3,none⟩=some (x.lv)∧w'.cell? ⟨w.heap.size+1,4,none⟩=some (.bool x.ask)∧w'.cell? ⟨w.heap.size+1,5,none⟩=some (x.sv)) (by kernel_rfl) ⟨bs.at 0 0,bs.at 0 1,bs.at 0 2,bs.at 1 0,bs.at 1 1,bs.at 1 2,bs.at 1 3,bs.at 1 4,bs.at 1 5⟩ (fun hH=>?_);generalize w1.drew=w2 at bs q y2 hH ⊢;refine rS [(0,some 14),(2,some 16),(3,some 17)] ?_
   iterate 3 refine aS ?_
   refine rE ?_
   refine aC (i:=1) fun K hK=>?_
   go_simp;refine(aX aa ra LA ac LR rc m w2).mono ?_;rintro e w3 ⟨rfl,hb⟩;replace bs:=bs.ret hb;replace q:=bs.q;clear hb;go_simp;clear hH;refine hK.out _ _ ⟨bs.at 0 0,bs.at 0 1,bs.at 0 2,bs.at 1 0,bs.at 1 1,bs.at 1 2,bs.at 1 3,bs.at 1 4,bs.at 1 5⟩ (fun hH=>?_);clear hK K
   refine aC (i:=4) fun K hK=>?_
   go_simp;refine(FI.out w3 q).mono ?_;rintro e w4 ⟨rfl,hb⟩;replace bs:=bs.ret hb;replace q:=bs.q;clear hb;go_simp;clear hH;refine hK.out _ _ ⟨bs.at 0 0,bs.at 0 1,bs.at 0 2,bs.at 1 0,bs.at 1 1,bs.at 1 2,bs.at 1 3,bs.at 1 4,bs.at 1 5⟩ (fun hH=>?_);clear hK K;refine rS [(5,some 19),(6,some 13)] ?_
   iterate 2 refine aS ?_
   refine rE ?_;refine aD ?_;clear hH;have xr:=bs.b3 2;have xt:=bs.g3 2;go_wp2_with fail;clear xr xt;obtain⟨w5,xR,y5,bs⟩:=bs.sets 2 0 [.slice none 0 0,.slice none 0 0,.int .i64 0] rfl (wh rfl);replace q:=bs.q;simp only[wo,Nat.reduceAdd] at xR;rw[xR];exact bodyPost_ret (aK rfl rfl rfl (bs.box 2 rfl)) rfl (dl 6 q)
  ·rw[show (R.find? fun y=>reN y.d==x.d.j)=some y from hn]
   rw[hi] at xu;simp only[ww,if_true];have FI:=h_ xu
   cases hmx:dJ p x.d with
   | false=>
    rw[hmx] at xF;have MX:=h_ xF;simp only[ws,if_false];clear xq xu xF hA hR xz xA zA zR xx xw hc hm hn hi hk hq hx xI zx e hmx;obtain⟨W0,hW,y0,bs⟩:=Sx.start3 w [.slice aa LA ac,.slice ra LR rc,.int .i64 m] 25 [.string ⟨x.j.toArray⟩,.bool x.on,.int .i64 x.pr,x.lv,.bool x.ask,x.sv] 38 [.slice none 0 0,.slice none 0 0,.int .i64 0] 25;have HW:=h_ hW;clear hW;have q:=bs.q;go_enter func41,ntmps41;go_wp2_with fail;rw[HW.out];have xn:=bs.b3 0;go_wp2_with fail;refine(CK.out W0 q).mono ?_;rintro e w1 ⟨rfl,hb⟩;clear xn;replace bs:=bs.ret hb;replace q:=bs.q;clear hb;go_wp2_with fail;replace bs:=bs.ret (wq (bQ _));replace q:=bs.q
    have y2:w1.drew.heap.size=w1.heap.size:=rfl
    refine wp_region_held_drew (S:=fun w'=>w'.cell? ⟨w.heap.size,0,none⟩=some (.slice aa LA ac)∧w'.cell? ⟨w.heap.size,1,none⟩=some (.slice ra LR rc)∧w'.cell? ⟨w.heap.size,2,none⟩=some (.int .i64 m)∧w'.cell? ⟨w.heap.size+1,0,none⟩=some (.string ⟨x.j.toArray⟩)∧w'.cell? ⟨w.heap.size+1,1,none⟩=some (.bool x.on)∧w'.cell? ⟨w.heap.size+1,2,none⟩=some (.int .i64 x.pr)∧w'.cell? ⟨w.heap.size+1,3,none⟩=some (x.lv)∧w'.cell? ⟨w.heap.size+1,4,none⟩=some (.bool x.ask)∧w'.cell? ⟨w.heap.size+1,5,none⟩=some (x.sv)) (by kernel_rfl) ⟨bs.at 0 0,bs.at 0 1,bs.at 0 2,bs.at 1 0,bs.at 1 1,bs.at 1 2,bs.at 1 3,bs.at 1 4,bs.at 1 5⟩ (fun hH=>?_);generalize w1.drew=w2 at bs q y2 hH ⊢;refine rS [(0,some 14),(2,some 16),(3,some 17)] ?_
    iterate 3 refine aS ?_
    refine rE ?_
    refine aC (i:=1) fun K hK=>?_
    go_simp;refine(aX aa ra LA ac LR rc m w2).mono ?_;rintro e w3 ⟨rfl,hb⟩;replace bs:=bs.ret hb;replace q:=bs.q;clear hb;go_simp;clear hH;refine hK.out _ _ ⟨bs.at 0 0,bs.at 0 1,bs.at 0 2,bs.at 1 0,bs.at 1 1,bs.at 1 2,bs.at 1 3,bs.at 1 4,bs.at 1 5⟩ (fun hH=>?_);clear hK K
    refine aC (i:=4) fun K hK=>?_
    go_simp;refine(FI.out w3 q).mono ?_;rintro e w4 ⟨rfl,hb⟩;replace bs:=bs.ret hb;replace q:=bs.q;clear hb;go_simp;clear hH;refine hK.out _ _ ⟨bs.at 0 0,bs.at 0 1,bs.at 0 2,bs.at 1 0,bs.at 1 1,bs.at 1 2,bs.at 1 3,bs.at 1 4,bs.at 1 5⟩ (fun hH=>?_);clear hK K;refine rS [(5,some 19),(6,some 13)] ?_
    iterate 2 refine aS ?_
    refine rE ?_;refine aD ?_;clear hH;have xQ:=bs.b6 1;go_wp2_with fail;refine(MX.out w4 q).mono ?_;rintro e w5 ⟨rfl,hb⟩;clear xQ;replace bs:=bs.ret hb;replace q:=bs.q;clear hb;have xr:=bs.b3 2;have xt:=bs.g3 2;go_wp2_with fail;clear xr xt;obtain⟨w6,yl,y6,bs⟩:=bs.sets 2 0 [.slice none 0 0,.slice none 0 0,.int .i64 0] rfl (wh rfl);replace q:=bs.q;simp only[wo,Nat.reduceAdd] at yl;rw[yl];exact bodyPost_ret (aK rfl rfl rfl (bs.box 2 rfl)) rfl (dl 2 q)
   | true=>
    rw[hmx] at xF;have MX:=h_ xF;simp only[if_true];have hf:=aL hc
    have yn:chG reN (R.map RsI.d)=true:=hf.2.2.2.2.2.2.2
    have yo:∀y∈R,y.j.length≤10000:=fun y hy=>(xA y hy).1.j
    have yz:=h_ yn;have yA:=h_ yo;have yi:=h_ xw;have yj:=h_ xx;have yN:LA≤1000:=(by omega);have yO:LR≤1000:=(by omega);clear xq xu xF hA hR xz xA zA zR xx xw hc hm hn hi hk hq hx xI e hmx hf yn yo;obtain⟨W0,hW,y0,bs⟩:=Sx.start3 w [.slice aa LA ac,.slice ra LR rc,.int .i64 m] 25 [.string ⟨x.j.toArray⟩,.bool x.on,.int .i64 x.pr,x.lv,.bool x.ask,x.sv] 38 [.slice none 0 0,.slice none 0 0,.int .i64 0] 25;have HW:=h_ hW;clear hW;have q:=bs.q;go_enter func41,ntmps41;go_wp2_with fail;rw[HW.out];have xn:=bs.b3 0;go_wp2_with fail;refine(CK.out W0 q).mono ?_;rintro e w1 ⟨rfl,hb⟩;clear xn;replace bs:=bs.ret hb;replace q:=bs.q;clear hb;go_wp2_with fail;replace bs:=bs.ret (wq (bQ _));replace q:=bs.q
    have y2:w1.drew.heap.size=w1.heap.size:=rfl
    refine wp_region_held_drew (S:=fun w'=>w'.cell? ⟨w.heap.size,0,none⟩=some (.slice aa LA ac)∧w'.cell? ⟨w.heap.size,1,none⟩=some (.slice ra LR rc)∧w'.cell? ⟨w.heap.size,2,none⟩=some (.int .i64 m)∧w'.cell? ⟨w.heap.size+1,0,none⟩=some (.string ⟨x.j.toArray⟩)∧w'.cell? ⟨w.heap.size+1,1,none⟩=some (.bool x.on)∧w'.cell? ⟨w.heap.size+1,2,none⟩=some (.int .i64 x.pr)∧w'.cell? ⟨w.heap.size+1,3,none⟩=some (x.lv)∧w'.cell? ⟨w.heap.size+1,4,none⟩=some (.bool x.ask)∧w'.cell? ⟨w.heap.size+1,5,none⟩=some (x.sv)) (by kernel_rfl) ⟨bs.at 0 0,bs.at 0 1,bs.at 0 2,bs.at 1 0,bs.at 1 1,bs.at 1 2,bs.at 1 3,bs.at 1 4,bs.at 1 5⟩ (fun hH=>?_);generalize w1.drew=w2 at bs q y2 hH ⊢;refine rS [(0,some 14),(2,some 16),(3,some 17)] ?_
    iterate 3 refine aS ?_
    refine rE ?_
    refine aC (i:=1) fun K hK=>?_
    go_simp;refine(aX aa ra LA ac LR rc m w2).mono ?_;rintro e w3 ⟨rfl,hb⟩;replace bs:=bs.ret hb;replace q:=bs.q;clear hb;go_simp;clear hH;refine hK.out _ _ ⟨bs.at 0 0,bs.at 0 1,bs.at 0 2,bs.at 1 0,bs.at 1 1,bs.at 1 2,bs.at 1 3,bs.at 1 4,bs.at 1 5⟩ (fun hH=>?_);clear hK K
    refine aC (i:=4) fun K hK=>?_
    go_simp;refine(FI.out w3 q).mono ?_;rintro e w4 ⟨rfl,hb⟩;replace bs:=bs.ret hb;replace q:=bs.q;clear hb;go_simp;clear hH;refine hK.out _ _ ⟨bs.at 0 0,bs.at 0 1,bs.at 0 2,bs.at 1 0,bs.at 1 1,bs.at 1 2,bs.at 1 3,bs.at 1 4,bs.at 1 5⟩ (fun hH=>?_);clear hK K;refine rS [(5,some 19),(6,some 13)] ?_
    iterate 2 refine aS ?_
    refine rE ?_;refine aD ?_;clear hH;have xQ:=bs.b6 1;go_wp2_with fail;refine(MX.out w4 q).mono ?_;rintro e w5 ⟨rfl,hb⟩;clear xQ;replace bs:=bs.ret hb;replace q:=bs.q;clear hb;have xn:=bs.b3 0;go_wp2_with fail
    have hB:w.heap.size+3≤w5.heap.size:=bs.lt _ (wt (i:=2) rfl)
    refine(TW.out w5 q).mono ?_;rintro e w6 ⟨⟨A2,⟨a2,c2⟩,R2,⟨a3,c3⟩,m2⟩,rfl,hd,⟨xB,xM⟩,hb⟩;simp only[CoI.d,Prod.mk.injEq] at hd;obtain⟨xN,xO,rfl⟩:=hd;simp only[CoI.v,CoI.av,CoI.rv] at xB xM ⊢;have xC:A2.length=A.length:=(by have:=congrArg wu xN;simpa using this);have xD:R2.length=R.length:=(by have:=congrArg wu xO;simpa using this);rw[yj.out] at xC;rw[yi.out] at xD;rw[xC,xD];rw[xD] at xB xM;rw[xC] at xB;have xo:OwU acY (w.heap.size+3) (.slice a3 LR c3) (.slice a2 LA c2) A2 _:=OwU.of xB hB;have xp:OwU rsY (w.heap.size+3) tp (.slice a3 LR c3) R2 _:=OwU.ofN xM hB;have xX:=h_ xN;have xY:=h_ xO;have xS:=h_ xC;have xP:=h_ xD;clear xB xM xN xO xC xD hB;clear xn;replace bs:=bs.ret hb;replace q:=bs.q;clear hb;have xn:=bs.b3 0;have xE:=bs.g3 0;go_wp2_with fail;clear xn xE;obtain⟨w7,xT,y7,bs⟩:=bs.sets 0 0 [.slice a2 LA c2,.slice a3 LR c3,.int .i64 m2] rfl (wh rfl);replace xo:=xo.sets (by omega) xT;replace xp:=xp.sets (by omega) xT;replace q:=bs.q;simp only[wo,Nat.reduceAdd] at xT;rw[xT];go_wp2_with fail;replace xo:=xo.ret (wq (bQ _));replace xp:=xp.ret (wq (bQ _));replace bs:=bs.ret (wq (bQ _));replace q:=bs.q
    have y8:w7.drew.heap.size=w7.heap.size:=rfl
    refine wp_region_held_drew (S:=fun w'=>w'.cell? ⟨w.heap.size,0,none⟩=some (.slice a2 LA c2)∧w'.cell? ⟨w.heap.size,2,none⟩=some (.int .i64 m2)∧w'.cell? ⟨w.heap.size+1,0,none⟩=some (.string ⟨x.j.toArray⟩)∧w'.cell? ⟨w.heap.size+1,1,none⟩=some (.bool x.on)∧w'.cell? ⟨w.heap.size+1,2,none⟩=some (.int .i64 x.pr)∧w'.cell? ⟨w.heap.size+1,3,none⟩=some (x.lv)∧w'.cell? ⟨w.heap.size+1,4,none⟩=some (.bool x.ask)∧w'.cell? ⟨w.heap.size+1,5,none⟩=some (x.sv)) (by kernel_rfl) ⟨bs.at 0 0,bs.at 0 2,bs.at 1 0,bs.at 1 1,bs.at 1 2,bs.at 1 3,bs.at 1 4,bs.at 1 5⟩ (fun hH=>?_);generalize w7.drew=w8 at bs xo xp q y8 hH ⊢;refine rS [(2,some 30)] ?_;refine aS ?_;refine rE ?_
    refine aC (i:=0) fun K hK=>?_
    have xn:=bs.b3 0;go_simp;clear xn;clear hH;refine hK.out _ _ ⟨bs.at 0 0,bs.at 0 2,bs.at 1 0,bs.at 1 1,bs.at 1 2,bs.at 1 3,bs.at 1 4,bs.at 1 5⟩ (fun hH=>?_);clear hK K
    refine aC (i:=1) fun K hK=>?_
    go_simp;refine(aX a2 a3 LA c2 LR c3 m2 w8).mono ?_;rintro e w9 ⟨rfl,hb⟩;replace xo:=xo.ret hb;replace xp:=xp.ret hb;replace bs:=bs.ret hb;replace q:=bs.q;clear hb;go_simp;clear hH;refine hK.out _ _ ⟨bs.at 0 0,bs.at 0 2,bs.at 1 0,bs.at 1 1,bs.at 1 2,bs.at 1 3,bs.at 1 4,bs.at 1 5⟩ (fun hH=>?_);clear hK K
    refine aC (i:=3) fun K hK=>?_
    go_simp
    have hB:w.heap.size+3≤w9.heap.size:=bs.lt _ (wt (i:=2) rfl)
    refine(TX.out w9 q).mono ?_;rintro e yd ⟨r3,rfl,yp,yq,hb⟩;replace xo:=xo.ret hb;replace xp:=xp.ret hb;replace bs:=bs.ret hb;replace q:=bs.q;clear hb
    have xU:OwE rsY (w.heap.size+3) r3 yd:=rsY.ownMono _ _ _ _ yq fun g _ hg=>wA hB hg
    have H3:=h_ yp;clear yp hB yq;go_simp;clear hH;refine hK.out _ _ ⟨bs.at 0 0,bs.at 0 2,bs.at 1 0,bs.at 1 1,bs.at 1 2,bs.at 1 3,bs.at 1 4,bs.at 1 5⟩ (fun hH=>?_);clear hK K
    refine aC (i:=4) fun K hK=>?_
    go_simp
    have hB:w.heap.size+3≤yd.heap.size:=bs.lt _ (wt (i:=2) rfl)
    have xK:=ge a3 c3 R2 r3 yd (by have:=xp.isL;rw[xP.out];exact this) (by rw[xP.out];omega) (fun y hy=>by
     obtain⟨z,hz,e⟩:=jy xY.out hy
     have e2:z.j=y.j:=congrArg reN e
     rw[←e2]
     exact yA.out z hz) (by rw[show r3.j=x.j from congrArg reN H3.out];exact zx) (by
     have:=yz.out;rw[←xY.out,cT] at this;exact this) (HM.out.ret q)
    rw[xP.out] at xK;refine xK.mono ?_;rintro e yB ⟨a5,c5,rfl,xL,hb⟩;clear xK;replace xo:=xo.ret hb;replace xp:=xp.ret hb;replace xU:=xU.ret hb;replace bs:=bs.ret hb;replace q:=bs.q;obtain⟨N5,xV⟩:=e_ (puO (fun y:RsI=>y.j) R2 r3);rw[xV] at xL ⊢
    have xJ:OwV rsY (w.heap.size+3) (.slice a5 N5.length c5) N5 yB:=ba (xL.mono hB) rfl rfl (fun _ h=>h) fun y hy=>by
     rw[←xV] at hy
     rcases dr hy with h | h
     ·exact rsY.ownMono _ _ _ _ (xp.elem h) fun _ _ hg=>hg.1
     ·rw[h];exact xU
    obtain⟨L5,ye⟩:=e_ N5.length;rw[ye] at xJ ⊢;have yC:=h_ xV;have yt:=h_ ye;clear hb hB xL xV ye xU;go_simp;clear hH;refine hK.out _ _ ⟨bs.at 0 0,bs.at 0 2,bs.at 1 0,bs.at 1 1,bs.at 1 2,bs.at 1 3,bs.at 1 4,bs.at 1 5⟩ (fun hH=>?_);clear hK K;refine rS [(5,some 33)] ?_;refine aS ?_;refine rE ?_
    refine aC (i:=6) fun K hK=>?_
    have xn:=bs.b3 0;have xE:=bs.g3 0;go_simp;clear xn xE;obtain⟨yP,xG,yQ,bs⟩:=bs.sets 0 1 [.slice a5 L5 c5] rfl (wh rfl);replace xo:=xo.sets (by omega) xG;replace xp:=xp.sets (by omega) xG;replace xJ:=xJ.sets (by omega) xG;replace q:=bs.q;simp only[wo] at xG;rw[xG];clear hH;refine hK.out _ _ ⟨bs.at 0 0,bs.at 0 2,bs.at 1 0,bs.at 1 1,bs.at 1 2,bs.at 1 3,bs.at 1 4,bs.at 1 5⟩ (fun hH=>?_);clear hK K;refine aD ?_;clear hH;have xn:=bs.b3 0;have xr:=bs.b3 2;have xt:=bs.g3 2;go_wp2_with fail;clear xn xr xt;obtain⟨yR,xH,yS,bs⟩:=bs.sets 2 0 [.slice a2 LA c2,.slice a5 L5 c5,.int .i64 m2] rfl (wh rfl);replace xo:=xo.sets (by omega) xH;replace xp:=xp.sets (by omega) xH;replace xJ:=xJ.sets (by omega) xH;replace q:=bs.q;simp only[wo,Nat.reduceAdd] at xH;rw[xH];refine bodyPost_ret (aK rfl rfl rfl (bs.box 2 rfl)) rfl ⟨⟨A2,(a2,c2),N5,(a5,c5),m2⟩,?_,?_,⟨?_,?_⟩,q⟩
    ·show _=Ending.returned (.tuple #[.agg #[.slice a2 A2.length c2,.slice a5 N5.length c5,.int .i64 m2],.int .i64 0])
     rw[xS.out,yt.out]
     rfl
    ·show (A2.map AcI.d,N5.map RsI.d,m2)=_
     have e5:N5.map RsI.d=puO reN (R2.map RsI.d) r3.d:=(by rw[←yC.out];exact jx (f:=RsI.d) (nm:=reN) R2 r3);rw[xX.out,e5,xY.out,H3.out]
    ·show OwL acY _ (.slice a2 A2.length c2) A2 _
     rw[xS.out]
     exact OwL.mono xo.own fun g _ hg=>by omega
    ·show OwL rsY _ (.slice a5 N5.length c5) N5 _
     rw[yt.out]
     exact OwL.mono xJ fun g _ hg=>by omega

theorem tF (p:List Nd→Bool) (c:CoI) (x:AcI) (w:World) (h:CoFit p c w) (hx:aE x.iv x.it w) (xI:cN x.it) (zx:x.j.length≤10000) (hm:ML w):Calls prog 43 #[c.v,x.v] w (fU w (bn p c.d x.d)):=by
 obtain⟨A,⟨aa,ac⟩,R,⟨ra,rc⟩,m⟩:=c
 have xq:=fun (W:World) (hb:Bl w W)=>fo p ⟨A,(aa,ac),R,(ra,rc),m⟩ W (h.ret hb) (hm.ret hb)
 have xy:=fun (W:World) (hb:Bl w W)=>iK ⟨A,(aa,ac),R,(ra,rc),m⟩ W (h.sub.ret hb) h.zA h.zR (fun a ha=>(h.ac a ha).2) (fun r hr=>(h.rs r hr).2)
 obtain⟨⟨hA,hR⟩,zA,zR,xz,xA⟩:=h
 simp only at zA zR xz xA
 have hA:IsL acY (.slice aa A.length ac) A w:=hA;have hR:IsL rsY (.slice ra R.length rc) R w:=hR
 have xu:=fun (W:World) (hb:Bl w W)=>eK aa A.length ac A x.j W (hA.ret hb) (by omega)
 have xF:=fun (W:World) (hb:Bl w W)=>iw x W (hx.ret hb) xI zx (hm.ret hb)
 have yk:=fun (W:World) (hb:Bl w W)=>pC x.iv x.ver x.it W (hx.ret hb) xI.1 (fun q hq=>(xI.2 q hq).2.2.1)
 unfold bn;simp only[CoI.d] at xq xy ⊢;rw[fN]
 show Calls prog 43 #[.agg #[.slice aa A.length ac,.slice ra R.length rc,.int .i64 m],x.v] w _
 simp only[CoI.v] at xq xy;obtain⟨LA,xx⟩:=e_ A.length;obtain⟨LR,xw⟩:=e_ R.length;rw[xx,xw] at xq xy;rw[xx] at xu;rw[xx,xw];have TW:=h_ xy;have TX:=h_ yk;have HM:=h_ hm;clear xy yk
 cases hc:aB p (A.map AcI.d,R.map RsI.d,m) with
 | false=>
  rw[hc] at xq;have CK:=h_ (show ∀W,Bl w W→Calls prog 30 #[.agg #[.slice aa LA ac,.slice ra LR rc,.int .i64 m]] W (Ret W (.int .i64 8)) from xq);simp only[ws,if_false];clear xq xu xF hA hR xz xA zA zR xx xw hc hm hx xI zx;obtain⟨W0,hW,y0,bs⟩:=Sx.start3 w [.slice aa LA ac,.slice ra LR rc,.int .i64 m] 25 [.string ⟨x.j.toArray⟩,x.iv,.int .i64 x.ver] 33 [.slice none 0 0,.slice none 0 0,.int .i64 0] 25;have HW:=h_ hW;clear hW;have q:=bs.q;go_enter func43,ntmps43;go_wp2_with fail;rw[HW.out];have xn:=bs.b3 0;go_wp2_with fail;refine(CK.out W0 q).mono ?_;rintro e w1 ⟨rfl,hb⟩;clear xn;replace bs:=bs.ret hb;replace q:=bs.q;clear hb;have xr:=bs.b3 2;have xt:=bs.g3 2;go_wp2_with fail;clear xr xt;obtain⟨w2,xW,y2,bs⟩:=bs.sets 2 0 [.slice none 0 0,.slice none 0 0,.int .i64 0] rfl (wh rfl);replace q:=bs.q;simp only[wo,Nat.reduceAdd] at xW;rw[xW];exact bodyPost_ret (aK rfl rfl rfl (bs.box 2 rfl)) rfl (dl 8 q)
 | true=>
  rw[hc] at xq;have CK:=h_ (show ∀W,Bl w W→Calls prog 30 #[.agg #[.slice aa LA ac,.slice ra LR rc,.int .i64 m]] W (Ret W (.int .i64 0)) from xq);simp only[if_true]
  have e:(fun y:AcI=>acN y.d==acN x.d)=fun y=>y.j==x.j:=rfl
  rcases eV (fun y:AcI=>y.j==x.j) A with ⟨hi,hn⟩ | ⟨k,y,hi,hk,hq,hn⟩
  ·rw[show (A.find? fun y=>acN y.d==x.d.fst)=none from hn]
   rw[hi] at xu;simp only[wv,ws,if_false];have FI:=h_ xu;clear xq xu xF hA hR xz xA zA zR xx xw hc hm hn hi hx xI zx e;obtain⟨W0,hW,y0,bs⟩:=Sx.start3 w [.slice aa LA ac,.slice ra LR rc,.int .i64 m] 25 [.string ⟨x.j.toArray⟩,x.iv,.int .i64 x.ver] 33 [.slice none 0 0,.slice none 0 0,.int .i64 0] 25;have HW:=h_ hW;clear hW;have q:=bs.q;go_enter func43,ntmps43;go_wp2_with fail;rw[HW.out];have xn:=bs.b3 0;go_wp2_with fail;refine(CK.out W0 q).mono ?_;rintro e w1 ⟨rfl,hb⟩;clear xn;replace bs:=bs.ret hb;replace q:=bs.q;clear hb;go_wp2_with fail;replace bs:=bs.ret (wq (bQ _));replace q:=bs.q
   have y2:w1.drew.heap.size=w1.heap.size:=rfl
   refine wp_region_held_drew (S:=fun w'=>w'.cell? ⟨w.heap.size,0,none⟩=some (.slice aa LA ac)∧w'.cell? ⟨w.heap.size,1,none⟩=some (.slice ra LR rc)∧w'.cell? ⟨w.heap.size,2,none⟩=some (.int .i64 m)∧w'.cell? ⟨w.heap.size+1,0,none⟩=some (.string ⟨x.j.toArray⟩)∧w'.cell? ⟨w.heap.size+1,1,none⟩=some (x.iv)∧w'.cell? ⟨w.heap.size+1,2,none⟩=some (.int .i64 x.ver)) (by kernel_rfl) ⟨bs.at 0 0,bs.at 0 1,bs.at 0 2,bs.at 1 0,bs.at 1 1,bs.at 1 2⟩ (fun hH=>?_);generalize w1.drew=w2 at bs q y2 hH ⊢;refine rS [(0,some 14),(2,some 16),(3,some 17)] ?_
   iterate 3 refine aS ?_
   refine rE ?_
   refine aC (i:=1) fun K hK=>?_
   go_simp;refine(aN aa ra LA ac LR rc m w2).mono ?_;rintro e w3 ⟨rfl,hb⟩;replace bs:=bs.ret hb;replace q:=bs.q;clear hb;go_simp;clear hH;refine hK.out _ _ ⟨bs.at 0 0,bs.at 0 1,bs.at 0 2,bs.at 1 0,bs.at 1 1,bs.at 1 2⟩ (fun hH=>?_);clear hK K
   refine aC (i:=4) fun K hK=>?_
   go_simp;refine(FI.out w3 q).mono ?_;rintro e w4 ⟨rfl,hb⟩;replace bs:=bs.ret hb;replace q:=bs.q;clear hb;go_simp;clear hH;refine hK.out _ _ ⟨bs.at 0 0,bs.at 0 1,bs.at 0 2,bs.at 1 0,bs.at 1 1,bs.at 1 2⟩ (fun hH=>?_);clear hK K;refine rS [(5,some 19),(6,some 13)] ?_
   iterate 2 refine aS ?_
   refine rE ?_;refine aD ?_;clear hH;have xr:=bs.b3 2;have xt:=bs.g3 2;go_wp2_with fail;clear xr xt;obtain⟨w5,xR,y5,bs⟩:=bs.sets 2 0 [.slice none 0 0,.slice none 0 0,.int .i64 0] rfl (wh rfl);replace q:=bs.q;simp only[wo,Nat.reduceAdd] at xR;rw[xR];exact bodyPost_ret (aK rfl rfl rfl (bs.box 2 rfl)) rfl (dl 6 q)
  ·rw[show (A.find? fun y=>acN y.d==x.d.fst)=some y from hn]
   rw[hi] at xu;simp only[ww,if_true];have FI:=h_ xu
   cases hmx:eU x.d with
   | false=>
    rw[hmx] at xF;have MX:=h_ xF;simp only[ws,if_false];clear xq xu xF hA hR xz xA zA zR xx xw hc hm hn hi hk hq hx xI zx e hmx;obtain⟨W0,hW,y0,bs⟩:=Sx.start3 w [.slice aa LA ac,.slice ra LR rc,.int .i64 m] 25 [.string ⟨x.j.toArray⟩,x.iv,.int .i64 x.ver] 33 [.slice none 0 0,.slice none 0 0,.int .i64 0] 25;have HW:=h_ hW;clear hW;have q:=bs.q;go_enter func43,ntmps43;go_wp2_with fail;rw[HW.out];have xn:=bs.b3 0;go_wp2_with fail;refine(CK.out W0 q).mono ?_;rintro e w1 ⟨rfl,hb⟩;clear xn;replace bs:=bs.ret hb;replace q:=bs.q;clear hb;go_wp2_with fail;replace bs:=bs.ret (wq (bQ _));replace q:=bs.q
    have y2:w1.drew.heap.size=w1.heap.size:=rfl
    refine wp_region_held_drew (S:=fun w'=>w'.cell? ⟨w.heap.size,0,none⟩=some (.slice aa LA ac)∧w'.cell? ⟨w.heap.size,1,none⟩=some (.slice ra LR rc)∧w'.cell? ⟨w.heap.size,2,none⟩=some (.int .i64 m)∧w'.cell? ⟨w.heap.size+1,0,none⟩=some (.string ⟨x.j.toArray⟩)∧w'.cell? ⟨w.heap.size+1,1,none⟩=some (x.iv)∧w'.cell? ⟨w.heap.size+1,2,none⟩=some (.int .i64 x.ver)) (by kernel_rfl) ⟨bs.at 0 0,bs.at 0 1,bs.at 0 2,bs.at 1 0,bs.at 1 1,bs.at 1 2⟩ (fun hH=>?_);generalize w1.drew=w2 at bs q y2 hH ⊢;refine rS [(0,some 14),(2,some 16),(3,some 17)] ?_
    iterate 3 refine aS ?_
    refine rE ?_
    refine aC (i:=1) fun K hK=>?_
    go_simp;refine(aN aa ra LA ac LR rc m w2).mono ?_;rintro e w3 ⟨rfl,hb⟩;replace bs:=bs.ret hb;replace q:=bs.q;clear hb;go_simp;clear hH;refine hK.out _ _ ⟨bs.at 0 0,bs.at 0 1,bs.at 0 2,bs.at 1 0,bs.at 1 1,bs.at 1 2⟩ (fun hH=>?_);clear hK K
    refine aC (i:=4) fun K hK=>?_
    go_simp;refine(FI.out w3 q).mono ?_;rintro e w4 ⟨rfl,hb⟩;replace bs:=bs.ret hb;replace q:=bs.q;clear hb;go_simp;clear hH;refine hK.out _ _ ⟨bs.at 0 0,bs.at 0 1,bs.at 0 2,bs.at 1 0,bs.at 1 1,bs.at 1 2⟩ (fun hH=>?_);clear hK K;refine rS [(5,some 19),(6,some 13)] ?_
    iterate 2 refine aS ?_
    refine rE ?_;refine aD ?_;clear hH;have xQ:=bs.b3 1;go_wp2_with fail;refine(MX.out w4 q).mono ?_;rintro e w5 ⟨rfl,hb⟩;clear xQ;replace bs:=bs.ret hb;replace q:=bs.q;clear hb;have xr:=bs.b3 2;have xt:=bs.g3 2;go_wp2_with fail;clear xr xt;obtain⟨w6,yl,y6,bs⟩:=bs.sets 2 0 [.slice none 0 0,.slice none 0 0,.int .i64 0] rfl (wh rfl);replace q:=bs.q;simp only[wo,Nat.reduceAdd] at yl;rw[yl];exact bodyPost_ret (aK rfl rfl rfl (bs.box 2 rfl)) rfl (dl 2 q)
   | true=>
    rw[hmx] at xF;have MX:=h_ xF;simp only[if_true];have hf:=aL hc
    have yn:chG acN (A.map AcI.d)=true:=hf.2.2.2.2.2.1
    have yo:∀y∈A,y.j.length≤10000:=fun y hy=>(xz y hy).1
    have yz:=h_ yn;have yA:=h_ yo;have yi:=h_ xw;have yj:=h_ xx;have yN:LA≤1000:=(by omega);have yO:LR≤1000:=(by omega);clear xq xu xF hA hR xz xA zA zR xx xw hc hm hn hi hk hq hx xI e hmx hf yn yo;obtain⟨W0,hW,y0,bs⟩:=Sx.start3 w [.slice aa LA ac,.slice ra LR rc,.int .i64 m] 25 [.string ⟨x.j.toArray⟩,x.iv,.int .i64 x.ver] 33 [.slice none 0 0,.slice none 0 0,.int .i64 0] 25;have HW:=h_ hW;clear hW;have q:=bs.q;go_enter func43,ntmps43;go_wp2_with fail;rw[HW.out];have xn:=bs.b3 0;go_wp2_with fail;refine(CK.out W0 q).mono ?_;rintro e w1 ⟨rfl,hb⟩;clear xn;replace bs:=bs.ret hb;replace q:=bs.q;clear hb;go_wp2_with fail;replace bs:=bs.ret (wq (bQ _));replace q:=bs.q
    have y2:w1.drew.heap.size=w1.heap.size:=rfl
    refine wp_region_held_drew (S:=fun w'=>w'.cell? ⟨w.heap.size,0,none⟩=some (.slice aa LA ac)∧w'.cell? ⟨w.heap.size,1,none⟩=some (.slice ra LR rc)∧w'.cell? ⟨w.heap.size,2,none⟩=some (.int .i64 m)∧w'.cell? ⟨w.heap.size+1,0,none⟩=some (.string ⟨x.j.toArray⟩)∧w'.cell? ⟨w.heap.size+1,1,none⟩=some (x.iv)∧w'.cell? ⟨w.heap.size+1,2,none⟩=some (.int .i64 x.ver)) (by kernel_rfl) ⟨bs.at 0 0,bs.at 0 1,bs.at 0 2,bs.at 1 0,bs.at 1 1,bs.at 1 2⟩ (fun hH=>?_);generalize w1.drew=w2 at bs q y2 hH ⊢;refine rS [(0,some 14),(2,some 16),(3,some 17)] ?_
    iterate 3 refine aS ?_
    refine rE ?_
    refine aC (i:=1) fun K hK=>?_
    go_simp;refine(aN aa ra LA ac LR rc m w2).mono ?_;rintro e w3 ⟨rfl,hb⟩;replace bs:=bs.ret hb;replace q:=bs.q;clear hb;go_simp;clear hH;refine hK.out _ _ ⟨bs.at 0 0,bs.at 0 1,bs.at 0 2,bs.at 1 0,bs.at 1 1,bs.at 1 2⟩ (fun hH=>?_);clear hK K
    refine aC (i:=4) fun K hK=>?_
    go_simp;refine(FI.out w3 q).mono ?_;rintro e w4 ⟨rfl,hb⟩;replace bs:=bs.ret hb;replace q:=bs.q;clear hb;go_simp;clear hH;refine hK.out _ _ ⟨bs.at 0 0,bs.at 0 1,bs.at 0 2,bs.at 1 0,bs.at 1 1,bs.at 1 2⟩ (fun hH=>?_);clear hK K;refine rS [(5,some 19),(6,some 13)] ?_
    iterate 2 refine aS ?_
    refine rE ?_;refine aD ?_;clear hH;have xQ:=bs.b3 1;go_wp2_with fail;refine(MX.out w4 q).mono ?_;rintro e w5 ⟨rfl,hb⟩;clear xQ;replace bs:=bs.ret hb;replace q:=bs.q;clear hb;have xn:=bs.b3 0;go_wp2_with fail
    have hB:w.heap.size+3≤w5.heap.size:=bs.lt _ (wt (i:=2) rfl)
    refine(TW.out w5 q).mono ?_;rintro e w6 ⟨⟨A2,⟨a2,c2⟩,R2,⟨a3,c3⟩,m2⟩,rfl,hd,⟨xB,xM⟩,hb⟩;simp only[CoI.d,Prod.mk.injEq] at hd;obtain⟨xN,xO,rfl⟩:=hd;simp only[CoI.v,CoI.av,CoI.rv] at xB xM ⊢;have xC:A2.length=A.length:=(by have:=congrArg wu xN;simpa using this);have xD:R2.length=R.length:=(by have:=congrArg wu xO;simpa using this);rw[yj.out] at xC;rw[yi.out] at xD;rw[xC,xD];rw[xD] at xB xM;rw[xC] at xB;have xo:OwU acY (w.heap.size+3) (.slice a3 LR c3) (.slice a2 LA c2) A2 _:=OwU.of xB hB;have xp:OwU rsY (w.heap.size+3) tp (.slice a3 LR c3) R2 _:=OwU.ofN xM hB;have xX:=h_ xN;have xY:=h_ xO;have xS:=h_ xC;have xP:=h_ xD;clear xB xM xN xO xC xD hB;clear xn;replace bs:=bs.ret hb;replace q:=bs.q;clear hb;have xn:=bs.b3 0;have xE:=bs.g3 0;go_wp2_with fail;clear xn xE;obtain⟨w7,xT,y7,bs⟩:=bs.sets 0 0 [.slice a2 LA c2,.slice a3 LR c3,.int .i64 m2] rfl (wh rfl);replace xo:=xo.sets (by omega) xT;replace xp:=xp.sets (by omega) xT;replace q:=bs.q;simp only[wo,Nat.reduceAdd] at xT;rw[xT];go_wp2_with fail;replace xo:=xo.ret (wq (bQ _));replace xp:=xp.ret (wq (bQ _));replace bs:=bs.ret (wq (bQ _));replace q:=bs.q
    have y8:w7.drew.heap.size=w7.heap.size:=rfl
    refine wp_region_held_drew (S:=fun w'=>w'.cell? ⟨w.heap.size,1,none⟩=some (.slice a3 LR c3)∧w'.cell? ⟨w.heap.size,2,none⟩=some (.int .i64 m2)∧w'.cell? ⟨w.heap.size+1,0,none⟩=some (.string ⟨x.j.toArray⟩)∧w'.cell? ⟨w.heap.size+1,1,none⟩=some (x.iv)∧w'.cell? ⟨w.heap.size+1,2,none⟩=some (.int .i64 x.ver)) (by kernel_rfl) ⟨bs.at 0 1,bs.at 0 2,bs.at 1 0,bs.at 1 1,bs.at 1 2⟩ (fun hH=>?_);generalize w7.drew=w8 at bs xo xp q y8 hH ⊢;refine rS [(2,some 30),(3,some 31),(4,some 32),(5,some 33)] ?_
    iterate 4 refine aS ?_
    refine rE ?_
    refine aC (i:=0) fun K hK=>?_
    have xn:=bs.b3 0;go_simp;clear xn;clear hH;refine hK.out _ _ ⟨bs.at 0 1,bs.at 0 2,bs.at 1 0,bs.at 1 1,bs.at 1 2⟩ (fun hH=>?_);clear hK K
    refine aC (i:=1) fun K hK=>?_
    go_simp;refine(aN a2 a3 LA c2 LR c3 m2 w8).mono ?_;rintro e w9 ⟨rfl,hb⟩;replace xo:=xo.ret hb;replace xp:=xp.ret hb;replace bs:=bs.ret hb;replace q:=bs.q;clear hb;go_simp;clear hH;refine hK.out _ _ ⟨bs.at 0 1,bs.at 0 2,bs.at 1 0,bs.at 1 1,bs.at 1 2⟩ (fun hH=>?_);clear hK K
    refine aC (i:=6) fun K hK=>?_
    go_simp
    have hB:w.heap.size+3≤w9.heap.size:=bs.lt _ (wt (i:=2) rfl)
    refine(TX.out w9 q).mono ?_;rintro e yd ⟨a6,c6,rfl,⟨M6,yD,yf,hb⟩⟩;replace xo:=xo.ret hb;replace xp:=xp.ret hb;replace bs:=bs.ret hb;replace q:=bs.q;clear hb;have yL:(x.it.map Prod.fst).length=M6.length:=(by rw[←yD,List.length_map]);rw[yL] at yf ⊢;obtain⟨r3,yv⟩:∃r3:AcI,r3=⟨x.j,M6,(a6,c6),x.ver⟩:=⟨_,rfl⟩;have xU:OwE acY (w.heap.size+3) r3 yd:=(by rw[yv];exact OwI.mono (OwI.of yf) fun g _ hg=>wA hB hg);have yp:r3.d=x.d:=(by rw[yv];show (x.j,M6.map Prod.fst,x.ver)=(x.j,x.it.map Prod.fst,x.ver);rw[yD]);have yX:Value.agg #[.string ⟨x.j.toArray⟩,.slice a6 M6.length c6,.int .i64 x.ver]=r3.v:=(by rw[yv]);clear yf yD yL yv;have H3:=h_ yp;clear yp hB;go_simp;clear hH;refine hK.out _ _ ⟨bs.at 0 1,bs.at 0 2,bs.at 1 0,bs.at 1 1,bs.at 1 2⟩ (fun hH=>?_);clear hK K;refine rS [(7,some 35)] ?_;refine aS ?_;refine rE ?_
    refine aC (i:=8) fun K hK=>?_
    go_simp
    have hB:w.heap.size+3≤yd.heap.size:=bs.lt _ (wt (i:=2) rfl)
    have xK:=pq a2 c2 A2 r3 yd (by have:=xo.isL;rw[xS.out];exact this) (by rw[xS.out];omega) (fun y hy=>by
     obtain⟨z,hz,e⟩:=jy xX.out hy
     have e2:z.j=y.j:=congrArg acN e
     rw[←e2]
     exact yA.out z hz) (by rw[show r3.j=x.j from congrArg acN H3.out];exact zx) (by
     have:=yz.out;rw[←xX.out,cT] at this;exact this) (HM.out.ret q)
    rw[xS.out] at xK;refine xK.mono ?_;rintro e yB ⟨a5,c5,rfl,xL,hb⟩;clear xK;replace xo:=xo.ret hb;replace xp:=xp.ret hb;replace xU:=xU.ret hb;replace bs:=bs.ret hb;replace q:=bs.q;obtain⟨N5,xV⟩:=e_ (puO (fun y:AcI=>y.j) A2 r3);rw[xV] at xL ⊢
    have xJ:OwV acY (w.heap.size+3) (.slice a5 N5.length c5) N5 yB:=ba (xL.mono hB) rfl rfl (fun _ h=>h) fun y hy=>by
     rw[←xV] at hy
     rcases dr hy with h | h
     ·exact acY.ownMono _ _ _ _ (xo.elem h) fun _ _ hg=>hg.1
     ·rw[h];exact xU
    obtain⟨L5,ye⟩:=e_ N5.length;rw[ye] at xJ ⊢;have yC:=h_ xV;have yt:=h_ ye;clear hb hB xL xV ye xU;go_simp;clear hH;refine hK.out _ _ ⟨bs.at 0 1,bs.at 0 2,bs.at 1 0,bs.at 1 1,bs.at 1 2⟩ (fun hH=>?_);clear hK K;refine rS [(9,some 37)] ?_;refine aS ?_;refine rE ?_
    refine aC (i:=10) fun K hK=>?_
    have xn:=bs.b3 0;have xE:=bs.g3 0;go_simp;clear xn xE;obtain⟨yP,xG,yQ,bs⟩:=bs.sets 0 0 [.slice a5 L5 c5] rfl (wh rfl);replace xo:=xo.sets (by omega) xG;replace xp:=xp.sets (by omega) xG;replace xJ:=xJ.sets (by omega) xG;replace q:=bs.q;simp only[wo] at xG;rw[xG];clear hH;refine hK.out _ _ ⟨bs.at 0 1,bs.at 0 2,bs.at 1 0,bs.at 1 1,bs.at 1 2⟩ (fun hH=>?_);clear hK K;refine aD ?_;clear hH;have xn:=bs.b3 0;have xr:=bs.b3 2;have xt:=bs.g3 2;go_wp2_with fail;clear xn xr xt;obtain⟨yR,xH,yS,bs⟩:=bs.sets 2 0 [.slice a5 L5 c5,.slice a3 LR c3,.int .i64 m2] rfl (wh rfl);replace xo:=xo.sets (by omega) xH;replace xp:=xp.sets (by omega) xH;replace xJ:=xJ.sets (by omega) xH;replace q:=bs.q;simp only[wo,Nat.reduceAdd] at xH;rw[xH];refine bodyPost_ret (aK rfl rfl rfl (bs.box 2 rfl)) rfl ⟨⟨N5,(a5,c5),R2,(a3,c3),m2⟩,?_,?_,⟨?_,?_⟩,q⟩
    ·show _=Ending.returned (.tuple #[.agg #[.slice a5 N5.length c5,.slice a3 R2.length c3,.int .i64 m2],.int .i64 0])
     rw[xP.out,yt.out]
     rfl
    ·show (N5.map AcI.d,R2.map RsI.d,m2)=_
     have e5:N5.map AcI.d=puO acN (A2.map AcI.d) r3.d:=(by rw[←yC.out];exact jx (f:=AcI.d) (nm:=acN) A2 r3);rw[xY.out,e5,xX.out,H3.out]
    ·show OwL acY _ (.slice a5 N5.length c5) N5 _
     rw[yt.out]
     exact OwL.mono xJ fun g _ hg=>by omega
    ·show OwL rsY _ (.slice a3 R2.length c3) R2 _
     rw[xP.out]
     exact OwL.mono xp.own fun g _ hg=>by omega
end Go.Proofs.YtjgeiieiinmdnaaGreatDoor
