/- DdI, DdJ, DdK: put together by mergetpl.py. -/
import Derived.Test.YtjgeiieiinmdnaaGreatDoorLx
import Derived.Test.YtjgeiieiinmdnaaGreatDoorLu
open Go.Proofs.Tryz
open Bool renaming false_eq_true→wu,and_eq_true→wv
open Go.Lib renaming decDigits→ww,toList_data→wz
open Go.World renaming setCells→wo
open List renaming length_cons→wq,length_map→ws,length_append→wt,map_map→wy,mem_of_getElem?→wA
open Nat renaming le_of_ble_eq_true→wh
namespace Go.Proofs.YtjgeiieiinmdnaaGreatDoor
set_option maxHeartbeats 4000000
set_option maxRecDepth 100000
open Go.RowKit Go.Lib

theorem pS {a:Ac} (h:eU a=true):bm (acN a)=true:=by
 unfold eU at h;simp only[wv] at h;exact gn h.1
theorem rH {p:List Nd→Bool} {r:Re} (h:dJ p r=true):bm (reN r)=true:=by
 unfold dJ fM at h;simp only[wv] at h;exact h.1.1
theorem mo {A:List AcI} {t:List UInt8}:(fdA A t).isSome=(fiG acN (A.map AcI.d) t).isSome:=by
 rw[fN AcI.d acN t A]
 rfl
theorem qC (c:CoI) (t:ByteArray) (w:World) (hs:c.sub w) (hf:CoFitD c.d):Calls prog 40 #[c.v,.string t] w (uq w (dR af c.d t.data.toList)):=by
 have CM:=fun (W:World) (hb:Bl w W)=>jm c W (hs.ret hb) hf
 have CW:=fun (W:World) (hb:Bl w W)=>js c t W (hs.ret hb).2 (by have:=hf.zR';omega)
 have xU:=fun (W:World) (hb:Bl w W)=>gm c t W (hs.ret hb).2 hf.zR'
 obtain⟨R2,xP⟩:=e_ (woR c.R t.data.toList);rw[xP] at xU;simp only[ft] at CW
 have xQ:∀x∈R2,x∈c.R:=fun x hx=>by rw[←xP] at hx;exact(List.mem_filter.1 hx).1
 have xR:aB af c.d=true→R2.length≤1000:=fun _=>by rw[←xP];exact Nat.le_trans (lG _ _) hf.zR'
 have yD:aB af c.d=true→R2.map RsI.d=c.d.2.1.eraseP fun x=>reN x==t.data.toList:=fun h1=>by rw[←xP,←oD (aL h1).2.2.2.2.2.2.2];exact ob RsI.d reN c.R t.data.toList
 have xw:aB af c.d=true→(fiG reN (c.R.map RsI.d) t.data.toList).isSome=true→dR af c.d t.data.toList=(((c.A.map AcI.d,R2.map RsI.d,c.m),0)):=fun h1 h2=>by
  unfold dR;rw[yD h1,h1];simp only[if_true];rw[if_pos h2]
 have xy:aB af c.d=true→(fiG reN (c.R.map RsI.d) t.data.toList).isSome=false→dR af c.d t.data.toList=(co0,6):=fun h1 h2=>by
  unfold dR;rw[h1];simp only[if_true];exact if_neg (by intro h3;have h5:=h2.symm.trans h3;cases h5)
 have xB:aB af c.d=false→dR af c.d t.data.toList=(co0,8):=fun h1=>by
  unfold dR;rw[h1]
  rfl
 obtain⟨IS,yj⟩:=e_ ((fiG reN (c.R.map RsI.d) t.data.toList).isSome);obtain⟨B,hB⟩:=e_ (aB af c.d);obtain⟨ZZ,yk⟩:=e_ (dR af c.d t.data.toList);rw[yj] at xw xy;simp only[yj] at CW;rw[hB] at xw xy xB xR CM;rw[yk] at xw xy xB ⊢
 have CT:=fun (hz:R2.length≤1000) (W:World) (hb:Bl w W) (ra:Option Addr×Nat) (K:Nat) (ho:OwR rsY K (c.wr R2 ra).rv R2 W)=>ez (c.wr R2 ra) W ⟨(hs.ret hb).1,ho.isL fun x hx=>rsY.subRet _ _ _ (hs.2.2.2 x (xQ x hx)) hb⟩ hf.zA' hz (fun a ha=>(hf.ac' a ha).small) (fun r hr=>(hf.rs' r (xQ r hr)).tw)
 obtain⟨A,⟨a1,b1⟩,R,⟨r1,s1⟩,m1⟩:=c;obtain⟨xt,xH⟩:=e_ A.length;obtain⟨xx,xN⟩:=e_ R.length;obtain⟨n,hn⟩:=e_ R2.length
 have ev:CoI.v ⟨A,(a1,b1),R,(r1,s1),m1⟩=.agg #[.slice a1 xt b1,.slice r1 xx s1,.int .i64 m1]:=by rw[←xH,←xN]
 rw[ev] at CM xU ⊢;simp only[ev] at CW
 have yE:=fun (W:World) (hb:Bl w W)=>(xU W hb).mono (R':=fun e w'=>∃ra:Option Addr×Nat,e=.returned (.agg #[.slice a1 xt b1,.slice ra.1 n ra.2,.int .i64 m1])∧OwR rsY W.heap.size (.slice ra.1 n ra.2) R2 w'∧Bl W w') fun e w' ⟨ra,he,ho,hb⟩=>by
  have h2:OwR rsY W.heap.size (.slice ra.1 R2.length ra.2) R2 w':=ho
  have h3:e=.returned (.agg #[.slice a1 A.length b1,.slice ra.1 R2.length ra.2,.int .i64 m1]):=he
  rw[hn] at h2 h3;rw[xH] at h3;exact⟨ra,h3,h2,hb⟩
 have yl:B=true→∀(W:World) (_:Bl w W) (ra:Option Addr) (rc:Nat) (K:Nat) (_:OwR rsY K (.slice ra n rc) R2 W),Calls prog 10 #[.agg #[.slice a1 xt b1,.slice ra n rc,.int .i64 m1]] W (TwC W (A.map AcI.d,R2.map RsI.d,m1)):=fun hB1 W hb ra rc K ho=>by
  have h1:=CT (xR hB1) W hb (ra,rc) K (by show OwR rsY K (.slice ra R2.length rc) R2 W;rw[hn];exact ho);rw[←hn,←xH];exact h1
 obtain⟨f0,yn⟩:=e_ ((fdR R t.data.toList).getD uk);simp only[yn] at CW;obtain⟨fj,yo,yp,fl,⟨fa,fc⟩,xS,fs,⟨ga,gc⟩⟩:=f0;obtain⟨xF,yq⟩:=e_ fl.length;obtain⟨yt,yQ⟩:=e_ fs.length;obtain⟨fb,yu⟩:=e_ (ByteArray.mk fj.toArray)
 have yv:∀(W:World) (_:Bl w W),Calls prog 14 #[.agg #[.slice a1 xt b1,.slice r1 xx s1,.int .i64 m1],.string t] W (Ret W (.tuple #[.agg #[.string fb,.bool yo,.int .i64 yp,.slice fa xF fc,.bool xS,.slice ga yt gc],.bool IS])):=fun W hb=>by
  rw[←yq,←yQ,←yu];exact CW W hb
 have HM:=h_ CM;have HC:=h_ yE;have HT:=h_ yl;have HF:=h_ yv;have HG:=h_ xw;have HN:=h_ xy;have HB:=h_ xB;clear hs hf CM CW xU xQ xP xR yD xw xy xB yj hB yk CT xH xN hn ev yE yl yn yq yQ yu yv;obtain⟨W0,hW,y0,bs⟩:=Sx.start2 w [.slice a1 xt b1,.slice r1 xx s1,.int .i64 m1] 25 [.slice none 0 0,.slice none 0 0,.int .i64 0] 25;have HW:=h_ hW;clear hW;have q:=bs.q;go_enter func40,ntmps40;have xn:=bs.b3 0;go_wp2_with fail;rw[HW.out];refine(HM.out W0 q).mono ?_;rintro e w1 ⟨rfl,hb⟩;clear xn;replace bs:=bs.ret hb;replace q:=bs.q;clear hb
 cases B with
 | false=>
  have xC:=h_ (HB.out rfl);clear HG HN HB HT;have xn:=bs.b3 0;have xp:=bs.b3 1;have xq:=bs.g3 1;go_wp2_with fail;clear xn xp xq;obtain⟨w2,xT,y2,bs⟩:=bs.sets 1 0 [.slice none 0 0,.slice none 0 0,.int .i64 0] rfl (wh rfl);replace q:=bs.q;simp only[wo,Nat.reduceAdd] at xT;rw[xT];refine bodyPost_ret (aK rfl rfl rfl (bs.box 1 rfl)) rfl ?_;rw[xC.out];exact j9 8 q
 | true=>
  have yw:=h_ (HG.out rfl);have yx:=h_ (HN.out rfl);have yi:=h_ (HT.out rfl);clear HG HN HB HT;have xn:=bs.b3 0;go_wp2_with fail;refine(HF.out w1 q).mono ?_;rintro e w2 ⟨rfl,hb⟩;clear xn;replace bs:=bs.ret hb;replace q:=bs.q;clear hb
  cases IS with
  | false=>
   have xC:=h_ (yx.out rfl);clear yx yw yi;have xn:=bs.b3 0;have xp:=bs.b3 1;have xq:=bs.g3 1;have d0:=(bs.lit (w2.heap.size) rfl [.string fb,.bool yo,.int .i64 yp,.slice fa xF fc,.bool xS,.slice ga yt gc] 38);have xo:=d0.b6 2;have xr:=d0.b3 0;have xz:=d0.b3 1;have xA:=d0.g3 1;go_wp2_with fail;clear xn xp xq d0 xo xr xz xA;obtain⟨w3,xO,y3,al,bs⟩:=bs.alloc (w2.heap.size) rfl [.string fb,.bool yo,.int .i64 yp,.slice fa xF fc,.bool xS,.slice ga yt gc] 38;clear al;replace q:=bs.q;obtain⟨w4,xJ,y4,bs⟩:=bs.sets 1 0 [.slice none 0 0,.slice none 0 0,.int .i64 0] rfl (wh rfl);replace q:=bs.q;rw[xO];simp only[wo,Nat.reduceAdd] at xJ;rw[xJ];refine bodyPost_ret (aK rfl rfl rfl (bs.box 1 rfl)) rfl ?_;rw[xC.out];exact j9 6 q
  | true=>
   have yA:=h_ (yw.out rfl);clear yx yw;have xn:=bs.b3 0;have d0:=(bs.lit (w2.heap.size) rfl [.string fb,.bool yo,.int .i64 yp,.slice fa xF fc,.bool xS,.slice ga yt gc] 38);have xo:=d0.b6 2;have xr:=d0.b3 0;go_wp2_with fail;clear xn d0 xo xr;obtain⟨w3,xO,y3,al,bs⟩:=bs.alloc (w2.heap.size) rfl [.string fb,.bool yo,.int .i64 yp,.slice fa xF fc,.bool xS,.slice ga yt gc] 38;clear al;replace q:=bs.q;rw[xO];have yF:=yA;clear yA;have xn:=bs.b3 0;go_wp2_with fail;refine(HC.out w3 q).mono ?_;rintro e w4 ⟨⟨r2,s2⟩,rfl,xG,hb⟩;clear xn;replace bs:=bs.ret hb;replace q:=bs.q;clear hb;go_wp2_with fail;refine(yi.out w4 q r2 s2 _ xG).mono ?_;rintro e w5 ⟨⟨YA,⟨ya,yb⟩,YR,⟨yr,ys⟩,ym⟩,rfl,hd,yy,hb⟩;have xV:=OwC.mk' bs yy.own;replace bs:=bs.ret hb;replace q:=bs.q;clear hb;obtain⟨la,xW⟩:=e_ YA.length;obtain⟨lr,xX⟩:=e_ YR.length;have ey:CoI.v ⟨YA,(ya,yb),YR,(yr,ys),ym⟩=.agg #[.slice ya la yb,.slice yr lr ys,.int .i64 ym]:=(by rw[←xW,←xX]);rw[ey];have yG:=h_ xW;have yH:=h_ xX;have HD:=h_ hd;clear xW xX ey hd yy xG;have xp:=bs.b3 1;have xq:=bs.g3 1;go_wp2_with fail;clear xp xq;obtain⟨w6,xY,y6,bs⟩:=bs.sets 1 0 [.slice ya la yb,.slice yr lr ys,.int .i64 ym] rfl (wh rfl);replace xV:=xV.sets 1 rfl xY;replace q:=bs.q;simp only[wo,Nat.reduceAdd] at xY;rw[xY];refine bodyPost_ret (aK rfl rfl rfl (bs.box 1 rfl)) rfl ?_;refine⟨⟨YA,(ya,yb),YR,(yr,ys),ym⟩,?_,?_,xV.csub,q⟩
   ·rw[yF.out]
    show _=Ending.returned (.tuple #[.agg #[.slice ya YA.length yb,.slice yr YR.length ys,.int .i64 ym],.int .i64 0])
    rw[yG.out,yH.out]
    first | done | rfl
   ·rw[yF.out]
    exact HD.out
theorem qQ (c:CoI) (r:RsI) (w:World) (hs:c.sub w) (hf:CoFitD c.d) (hr:rsY.sub r w) (yC:ReFit r.d):Calls prog 42 #[c.v,r.v] w (uq w (bh af c.d r.d)):=by
 have CM:=fun (W:World) (hb:Bl w W)=>jm c W (hs.ret hb) hf
 have CW:=fun (W:World) (hb:Bl w W)=>js c ⟨r.j.toArray⟩ W (hs.ret hb).2 (by have:=hf.zR';omega)
 have xU:=fun (W:World) (hb:Bl w W)=>pF c r W (hs.ret hb).2 hf.zR' (fun x hx=>(hf.rs' x hx).j) yC.j
 have CR:=fun (W:World) (hb:Bl w W)=>iz r W (rsY.subRet _ _ _ hr hb) yC
 obtain⟨R2,xP⟩:=e_ (wiR c.R r);rw[xP] at xU;simp only[ft] at CW
 have xQ:∀x∈R2,x=r∨x∈c.R:=fun x hx=>by rw[←xP] at hx;exact lR hx
 have xR:aB af c.d=true→R2.length≤1000:=fun h1=>by
  have h2:(c.R.map RsI.d).length≤16:=(aL h1).2.1;have h3:=n6 (nm:=RsI.j) (L:=c.R) (x:=r);rw[ws] at h2;rw[←xP]
  show (wiG RsI.j c.R r).length≤1000
  omega
 have yD:aB af c.d=true→dJ af r.d=true→R2.map RsI.d=puO reN c.d.2.1 r.d:=fun h1 h2=>by
  have h3:=pd (aL h1).2.2.2.2.2.2.2 (dH h1).2 (rH h2);rw[←xP,←h3];exact oj RsI.d reN c.R r
 have xw:aB af c.d=true→(fiG reN (c.R.map RsI.d) r.j).isSome=true→dJ af r.d=true→bh af c.d r.d=(((c.A.map AcI.d,R2.map RsI.d,c.m),0)):=fun h1 h2 h4=>by
  unfold bh;rw[yD h1 h4,h1];simp only[if_true];rw[if_pos h2];rw[if_pos h4]
 have xy:aB af c.d=true→(fiG reN (c.R.map RsI.d) r.j).isSome=false→bh af c.d r.d=(co0,6):=fun h1 h2=>by
  unfold bh;rw[h1];simp only[if_true];exact if_neg (by intro h3;have h5:=h2.symm.trans h3;cases h5)
 have xB:aB af c.d=false→bh af c.d r.d=(co0,8):=fun h1=>by
  unfold bh;rw[h1]
  rfl
 have xK:aB af c.d=true→(fiG reN (c.R.map RsI.d) r.j).isSome=true→dJ af r.d=false→bh af c.d r.d=(co0,2):=fun h1 h2 h4=>by
  unfold bh;rw[h1];simp only[if_true];rw[if_pos h2,h4]
  rfl
 obtain⟨IS,yj⟩:=e_ ((fiG reN (c.R.map RsI.d) r.j).isSome);obtain⟨B,hB⟩:=e_ (aB af c.d);obtain⟨ZZ,yk⟩:=e_ (bh af c.d r.d);rw[yj] at xw xy xK;simp only[yj] at CW;rw[hB] at xw xy xK xB xR CM;rw[yk] at xw xy xK xB ⊢;obtain⟨RB,yR⟩:=e_ (dJ af r.d);rw[yR] at xw xK CR
 have CT:=fun (hz:R2.length≤1000) (W:World) (hb:Bl w W) (ra:Option Addr×Nat) (K:Nat) (ho:OwR rsY K (c.wr R2 ra).rv R2 W)=>ez (c.wr R2 ra) W ⟨(hs.ret hb).1,ho.isL fun x hx=>rsY.subRet _ _ _ ((xQ x hx).elim (fun h=>by rw[h];exact hr) fun h=>hs.2.2.2 x h) hb⟩ hf.zA' hz (fun a ha=>(hf.ac' a ha).small) (fun x hx=>(xQ x hx).elim (fun h=>by rw[h];exact yC.tw) fun h=>(hf.rs' x h).tw)
 obtain⟨A,⟨a1,b1⟩,R,⟨r1,s1⟩,m1⟩:=c;obtain⟨pj,zz,zB,pl,⟨zC,zD⟩,yS,ps,⟨zE,zF⟩⟩:=r;obtain⟨Af,zo⟩:=e_ pl.length;obtain⟨Ag,zp⟩:=e_ ps.length;obtain⟨pb,yI⟩:=e_ (ByteArray.mk pj.toArray)
 have ep:RsI.v ⟨pj,zz,zB,pl,(zC,zD),yS,ps,(zE,zF)⟩=.agg #[.string pb,.bool zz,.int .i64 zB,.slice zC Af zD,.bool yS,.slice zE Ag zF]:=by rw[←zo,←zp,←yI]
 obtain⟨xt,xH⟩:=e_ A.length;obtain⟨xx,xN⟩:=e_ R.length;obtain⟨n,hn⟩:=e_ R2.length
 have ev:CoI.v ⟨A,(a1,b1),R,(r1,s1),m1⟩=.agg #[.slice a1 xt b1,.slice r1 xx s1,.int .i64 m1]:=by rw[←xH,←xN]
 rw[ev] at CM xU ⊢;simp only[ev] at CW;rw[ep] at xU CR ⊢
 have yE:=fun (W:World) (hb:Bl w W)=>(xU W hb).mono (R':=fun e w'=>∃ra:Option Addr×Nat,e=.returned (.agg #[.slice a1 xt b1,.slice ra.1 n ra.2,.int .i64 m1])∧OwR rsY W.heap.size (.slice ra.1 n ra.2) R2 w'∧Bl W w') fun e w' ⟨ra,he,ho,hb⟩=>by
  have h2:OwR rsY W.heap.size (.slice ra.1 R2.length ra.2) R2 w':=ho
  have h3:e=.returned (.agg #[.slice a1 A.length b1,.slice ra.1 R2.length ra.2,.int .i64 m1]):=he
  rw[hn] at h2 h3;rw[xH] at h3;exact⟨ra,h3,h2,hb⟩
 have yl:B=true→∀(W:World) (_:Bl w W) (ra:Option Addr) (rc:Nat) (K:Nat) (_:OwR rsY K (.slice ra n rc) R2 W),Calls prog 10 #[.agg #[.slice a1 xt b1,.slice ra n rc,.int .i64 m1]] W (TwC W (A.map AcI.d,R2.map RsI.d,m1)):=fun hB1 W hb ra rc K ho=>by
  have h1:=CT (xR hB1) W hb (ra,rc) K (by show OwR rsY K (.slice ra R2.length rc) R2 W;rw[hn];exact ho);rw[←hn,←xH];exact h1
 obtain⟨f0,yn⟩:=e_ ((fdR R (ByteArray.mk pj.toArray).data.toList).getD uk);simp only[yn] at CW;obtain⟨fj,yo,yp,fl,⟨fa,fc⟩,xS,fs,⟨ga,gc⟩⟩:=f0;obtain⟨xF,yq⟩:=e_ fl.length;obtain⟨yt,yQ⟩:=e_ fs.length;obtain⟨fb,yu⟩:=e_ (ByteArray.mk fj.toArray)
 have yv:∀(W:World) (_:Bl w W),Calls prog 14 #[.agg #[.slice a1 xt b1,.slice r1 xx s1,.int .i64 m1],.string pb] W (Ret W (.tuple #[.agg #[.string fb,.bool yo,.int .i64 yp,.slice fa xF fc,.bool xS,.slice ga yt gc],.bool IS])):=fun W hb=>by
  rw[←yq,←yQ,←yu,←yI];exact CW W hb
 have HM:=h_ CM;have HC:=h_ yE;have HT:=h_ yl;have HF:=h_ yv;have HG:=h_ xw;have HN:=h_ xy;have HB:=h_ xB;have HX:=h_ xK;have HR:=h_ CR;clear xK CR yR ep hr yC zo zp yI;clear hs hf CM CW xU xQ xP xR yD xw xy xB yj hB yk CT xH xN hn ev yE yl yn yq yQ yu yv;obtain⟨W0,hW,y0,bs⟩:=Sx.start3 w [.slice a1 xt b1,.slice r1 xx s1,.int .i64 m1] 25 [.string pb,.bool zz,.int .i64 zB,.slice zC Af zD,.bool yS,.slice zE Ag zF] 38 [.slice none 0 0,.slice none 0 0,.int .i64 0] 25;have HW:=h_ hW;clear hW;have q:=bs.q;go_enter func42,ntmps42;have xn:=bs.b3 0;go_wp2_with fail;rw[HW.out];refine(HM.out W0 q).mono ?_;rintro e w1 ⟨rfl,hb⟩;clear xn;replace bs:=bs.ret hb;replace q:=bs.q;clear hb
 cases B with
 | false=>
  have xC:=h_ (HB.out rfl);clear HG HN HB HT HX;have xn:=bs.b3 0;have xu:=bs.b6 1;have xp:=bs.b3 2;have xq:=bs.g3 2;go_wp2_with fail;clear xn xu xp xq;obtain⟨w2,xT,y2,bs⟩:=bs.sets 2 0 [.slice none 0 0,.slice none 0 0,.int .i64 0] rfl (wh rfl);replace q:=bs.q;simp only[wo,Nat.reduceAdd] at xT;rw[xT];refine bodyPost_ret (aK rfl rfl rfl (bs.box 2 rfl)) rfl ?_;rw[xC.out];exact j9 8 q
 | true=>
  have yw:=h_ (HG.out rfl);have yx:=h_ (HN.out rfl);have yi:=h_ (HT.out rfl);have yJ:=h_ (HX.out rfl);clear HG HN HB HT HX;have xn:=bs.b3 0;have xu:=bs.b6 1;go_wp2_with fail;refine(HF.out w1 q).mono ?_;rintro e w2 ⟨rfl,hb⟩;clear xn xu;replace bs:=bs.ret hb;replace q:=bs.q;clear hb
  cases IS with
  | false=>
   have xC:=h_ (yx.out rfl);clear yx yw yi yJ;have xn:=bs.b3 0;have xu:=bs.b6 1;have xp:=bs.b3 2;have xq:=bs.g3 2;have d0:=(bs.lit (w2.heap.size) rfl [.string fb,.bool yo,.int .i64 yp,.slice fa xF fc,.bool xS,.slice ga yt gc] 38);have xo:=d0.b6 3;have xr:=d0.b3 0;have xZ:=d0.b6 1;have xz:=d0.b3 2;have xA:=d0.g3 2;go_wp2_with fail;clear xn xu xp xq d0 xo xr xZ xz xA;obtain⟨w3,xO,y3,al,bs⟩:=bs.alloc (w2.heap.size) rfl [.string fb,.bool yo,.int .i64 yp,.slice fa xF fc,.bool xS,.slice ga yt gc] 38;clear al;replace q:=bs.q;obtain⟨w4,xJ,y4,bs⟩:=bs.sets 2 0 [.slice none 0 0,.slice none 0 0,.int .i64 0] rfl (wh rfl);replace q:=bs.q;rw[xO];simp only[wo,Nat.reduceAdd] at xJ;rw[xJ];refine bodyPost_ret (aK rfl rfl rfl (bs.box 2 rfl)) rfl ?_;rw[xC.out];exact j9 6 q
  | true=>
   have yA:=h_ (yw.out rfl);have yK:=h_ (yJ.out rfl);clear yx yw yJ;have xn:=bs.b3 0;have xu:=bs.b6 1;have d0:=(bs.lit (w2.heap.size) rfl [.string fb,.bool yo,.int .i64 yp,.slice fa xF fc,.bool xS,.slice ga yt gc] 38);have xo:=d0.b6 3;have xr:=d0.b3 0;have xZ:=d0.b6 1;go_wp2_with fail;clear xn xu d0 xo xr xZ;obtain⟨w3,xO,y3,al,bs⟩:=bs.alloc (w2.heap.size) rfl [.string fb,.bool yo,.int .i64 yp,.slice fa xF fc,.bool xS,.slice ga yt gc] 38;clear al;replace q:=bs.q;rw[xO];have xn:=bs.b3 0;have xu:=bs.b6 1;go_wp2_with fail;refine(HR.out w3 q).mono ?_;rintro e w4 ⟨rfl,hb⟩;clear xn xu;replace bs:=bs.ret hb;replace q:=bs.q;clear hb
   cases RB with
   | false=>
    have xC:=h_ (yK.out rfl);clear yK yA yi;have xn:=bs.b3 0;have xu:=bs.b6 1;have xp:=bs.b3 2;have xq:=bs.g3 2;go_wp2_with fail;clear xn xu xp xq;obtain⟨w5,xI,y5,bs⟩:=bs.sets 2 0 [.slice none 0 0,.slice none 0 0,.int .i64 0] rfl (wh rfl);replace q:=bs.q;simp only[wo,Nat.reduceAdd] at xI;rw[xI];refine bodyPost_ret (aK rfl rfl rfl (bs.box 2 rfl)) rfl ?_;rw[xC.out];exact j9 2 q
   | true=>
    have yF:=h_ (yA.out rfl);clear yK yA;have xn:=bs.b3 0;have xu:=bs.b6 1;go_wp2_with fail;refine(HC.out w4 q).mono ?_;rintro e w5 ⟨⟨r2,s2⟩,rfl,xG,hb⟩;clear xn xu;replace bs:=bs.ret hb;replace q:=bs.q;clear hb;go_wp2_with fail;refine(yi.out w5 q r2 s2 _ xG).mono ?_;rintro e w6 ⟨⟨YA,⟨ya,yb⟩,YR,⟨yr,ys⟩,ym⟩,rfl,hd,yy,hb⟩;have xV:=OwC.mk' bs yy.own;replace bs:=bs.ret hb;replace q:=bs.q;clear hb;obtain⟨la,xW⟩:=e_ YA.length;obtain⟨lr,xX⟩:=e_ YR.length;have ey:CoI.v ⟨YA,(ya,yb),YR,(yr,ys),ym⟩=.agg #[.slice ya la yb,.slice yr lr ys,.int .i64 ym]:=(by rw[←xW,←xX]);rw[ey];have yG:=h_ xW;have yH:=h_ xX;have HD:=h_ hd;clear xW xX ey hd yy xG;have xp:=bs.b3 2;have xq:=bs.g3 2;go_wp2_with fail;clear xp xq;obtain⟨w7,yz,y7,bs⟩:=bs.sets 2 0 [.slice ya la yb,.slice yr lr ys,.int .i64 ym] rfl (wh rfl);replace xV:=xV.sets 2 rfl yz;replace q:=bs.q;simp only[wo,Nat.reduceAdd] at yz;rw[yz];refine bodyPost_ret (aK rfl rfl rfl (bs.box 2 rfl)) rfl ?_;refine⟨⟨YA,(ya,yb),YR,(yr,ys),ym⟩,?_,?_,xV.csub,q⟩
    ·rw[yF.out]
     show _=Ending.returned (.tuple #[.agg #[.slice ya YA.length yb,.slice yr YR.length ys,.int .i64 ym],.int .i64 0])
     rw[yG.out,yH.out]
     first | done | rfl
    ·rw[yF.out]
     exact HD.out
theorem qA (c:CoI) (a:AcI) (w:World) (hs:c.sub w) (hf:CoFitD c.d) (hr:acY.sub a w) (yC:AcFit a.d):Calls prog 44 #[c.v,a.v] w (uq w (bn af c.d a.d)):=by
 have CM:=fun (W:World) (hb:Bl w W)=>jm c W (hs.ret hb) hf
 have CW:=fun (W:World) (hb:Bl w W)=>jw c ⟨a.j.toArray⟩ W (hs.ret hb).1 (by have:=hf.zA';omega)
 have xU:=fun (W:World) (hb:Bl w W)=>qX c a W (hs.ret hb).1 hf.zA'
 have CR:=fun (W:World) (hb:Bl w W)=>dN a W (acY.subRet _ _ _ hr hb) yC.small yC.j
 obtain⟨R2,xP⟩:=e_ (c.A.map (hoA a));rw[xP] at xU;simp only[mo] at CW
 have xQ:∀x∈R2,x=a∨x∈c.A:=fun x hx=>by
  rw[←xP] at hx;obtain⟨y,hy,e⟩:=List.mem_map.1 hx;unfold hoA at e
  split at e
  ·exact .inl e.symm
  ·exact .inr (e ▸ hy)
 have xR:aB af c.d=true→R2.length≤1000:=fun _=>by rw[←xP,ws];exact hf.zA'
 have yD:aB af c.d=true→(fiG acN (c.A.map AcI.d) a.j).isSome=true→eU a.d=true→R2.map AcI.d=puO acN c.d.1 a.d:=fun h1 h2 h3=>by
  have h4:=map_set (nm:=acN) (L:=c.d.1) (x:=a.d) (aL h1).2.2.2.2.2.1 (fun y hy=>gn ((dH h1).1 y hy)) (pS h3) h2;rw[←h4,←xP]
  show (c.A.map (hoA a)).map AcI.d=(c.A.map AcI.d).map _
  rw[wy,wy]
  refine List.map_congr_left fun y _=>?_
  show AcI.d (hoA a y)=if acN y.d==acN a.d then a.d else y.d
  unfold hoA
  show AcI.d (if acN y.d==acN a.d then a else y)=_
  split <;> rfl
 have xw:aB af c.d=true→(fiG acN (c.A.map AcI.d) a.j).isSome=true→eU a.d=true→bn af c.d a.d=(((R2.map AcI.d,c.R.map RsI.d,c.m),0)):=fun h1 h2 h4=>by
  unfold bn;rw[yD h1 h2 h4,h1];simp only[if_true];rw[if_pos h2];rw[if_pos h4]
 have xy:aB af c.d=true→(fiG acN (c.A.map AcI.d) a.j).isSome=false→bn af c.d a.d=(co0,6):=fun h1 h2=>by
  unfold bn;rw[h1];simp only[if_true];exact if_neg (by intro h3;have h5:=h2.symm.trans h3;cases h5)
 have xB:aB af c.d=false→bn af c.d a.d=(co0,8):=fun h1=>by
  unfold bn;rw[h1]
  rfl
 have xK:aB af c.d=true→(fiG acN (c.A.map AcI.d) a.j).isSome=true→eU a.d=false→bn af c.d a.d=(co0,2):=fun h1 h2 h4=>by
  unfold bn;rw[h1];simp only[if_true];rw[if_pos h2,h4]
  rfl
 obtain⟨IS,yj⟩:=e_ ((fiG acN (c.A.map AcI.d) a.j).isSome);obtain⟨B,hB⟩:=e_ (aB af c.d);obtain⟨ZZ,yk⟩:=e_ (bn af c.d a.d);rw[yj] at xw xy xK;simp only[yj] at CW;rw[hB] at xw xy xK xB xR CM;rw[yk] at xw xy xK xB ⊢;obtain⟨RB,yR⟩:=e_ (eU a.d);rw[yR] at xw xK CR
 have CT:=fun (hz:R2.length≤1000) (W:World) (hb:Bl w W) (ra:Option Addr×Nat) (K:Nat) (ho:OwR acY K (c.wa R2 ra).av R2 W)=>ez (c.wa R2 ra) W ⟨ho.isL fun x hx=>acY.subRet _ _ _ ((xQ x hx).elim (fun h=>by rw[h];exact hr) fun h=>hs.1.2.2 x h) hb,(hs.ret hb).2⟩ hz hf.zR' (fun x hx=>(xQ x hx).elim (fun h=>by rw[h];exact yC.small) fun h=>(hf.ac' x h).small) (fun r hr=>(hf.rs' r hr).tw)
 obtain⟨A,⟨a1,b1⟩,R,⟨r1,s1⟩,m1⟩:=c;obtain⟨pj,Ah,⟨zG,zH⟩,pv⟩:=a;obtain⟨Ai,zq⟩:=e_ Ah.length;obtain⟨pb,yI⟩:=e_ (ByteArray.mk pj.toArray)
 have ep:AcI.v ⟨pj,Ah,(zG,zH),pv⟩=.agg #[.string pb,.slice zG Ai zH,.int .i64 pv]:=by rw[←zq,←yI]
 obtain⟨xt,xH⟩:=e_ A.length;obtain⟨xx,xN⟩:=e_ R.length;obtain⟨n,hn⟩:=e_ R2.length
 have ev:CoI.v ⟨A,(a1,b1),R,(r1,s1),m1⟩=.agg #[.slice a1 xt b1,.slice r1 xx s1,.int .i64 m1]:=by rw[←xH,←xN]
 rw[ev] at CM xU ⊢;simp only[ev] at CW;rw[ep] at xU CR ⊢
 have yE:=fun (W:World) (hb:Bl w W)=>(xU W hb).mono (R':=fun e w'=>∃ra:Option Addr×Nat,e=.returned (.agg #[.slice ra.1 n ra.2,.slice r1 xx s1,.int .i64 m1])∧OwR acY W.heap.size (.slice ra.1 n ra.2) R2 w'∧Bl W w') fun e w' ⟨ra,he,ho,hb⟩=>by
  have h2:OwR acY W.heap.size (.slice ra.1 R2.length ra.2) R2 w':=ho
  have h3:e=.returned (.agg #[.slice ra.1 R2.length ra.2,.slice r1 R.length s1,.int .i64 m1]):=he
  rw[hn] at h2 h3;rw[xN] at h3;exact⟨ra,h3,h2,hb⟩
 have yl:B=true→∀(W:World) (_:Bl w W) (ra:Option Addr) (rc:Nat) (K:Nat) (_:OwR acY K (.slice ra n rc) R2 W),Calls prog 10 #[.agg #[.slice ra n rc,.slice r1 xx s1,.int .i64 m1]] W (TwC W (R2.map AcI.d,R.map RsI.d,m1)):=fun hB1 W hb ra rc K ho=>by
  have h1:=CT (xR hB1) W hb (ra,rc) K (by show OwR acY K (.slice ra R2.length rc) R2 W;rw[hn];exact ho);rw[←hn,←xN];exact h1
 obtain⟨f0,yn⟩:=e_ ((fdA A (ByteArray.mk pj.toArray).data.toList).getD uh);simp only[yn] at CW;obtain⟨fj,fit,⟨fa,fc⟩,xL⟩:=f0;obtain⟨xF,yq⟩:=e_ fit.length;obtain⟨fb,yu⟩:=e_ (ByteArray.mk fj.toArray)
 have yv:∀(W:World) (_:Bl w W),Calls prog 12 #[.agg #[.slice a1 xt b1,.slice r1 xx s1,.int .i64 m1],.string pb] W (Ret W (.tuple #[.agg #[.string fb,.slice fa xF fc,.int .i64 xL],.bool IS])):=fun W hb=>by
  rw[←yq,←yu,←yI];exact CW W hb
 have HM:=h_ CM;have HC:=h_ yE;have HT:=h_ yl;have HF:=h_ yv;have HG:=h_ xw;have HN:=h_ xy;have HB:=h_ xB;have HX:=h_ xK;have HR:=h_ CR;clear xK CR yR ep hr yC zq yI;clear hs hf CM CW xU xQ xP xR yD xw xy xB yj hB yk CT xH xN hn ev yE yl yn yq yu yv;obtain⟨W0,hW,y0,bs⟩:=Sx.start3 w [.slice a1 xt b1,.slice r1 xx s1,.int .i64 m1] 25 [.string pb,.slice zG Ai zH,.int .i64 pv] 33 [.slice none 0 0,.slice none 0 0,.int .i64 0] 25;have HW:=h_ hW;clear hW;have q:=bs.q;go_enter func44,ntmps44;have xn:=bs.b3 0;go_wp2_with fail;rw[HW.out];refine(HM.out W0 q).mono ?_;rintro e w1 ⟨rfl,hb⟩;clear xn;replace bs:=bs.ret hb;replace q:=bs.q;clear hb
 cases B with
 | false=>
  have xC:=h_ (HB.out rfl);clear HG HN HB HT HX;have xn:=bs.b3 0;have xu:=bs.b3 1;have xp:=bs.b3 2;have xq:=bs.g3 2;go_wp2_with fail;clear xn xu xp xq;obtain⟨w2,xT,y2,bs⟩:=bs.sets 2 0 [.slice none 0 0,.slice none 0 0,.int .i64 0] rfl (wh rfl);replace q:=bs.q;simp only[wo,Nat.reduceAdd] at xT;rw[xT];refine bodyPost_ret (aK rfl rfl rfl (bs.box 2 rfl)) rfl ?_;rw[xC.out];exact j9 8 q
 | true=>
  have yw:=h_ (HG.out rfl);have yx:=h_ (HN.out rfl);have yi:=h_ (HT.out rfl);have yJ:=h_ (HX.out rfl);clear HG HN HB HT HX;have xn:=bs.b3 0;have xu:=bs.b3 1;go_wp2_with fail;refine(HF.out w1 q).mono ?_;rintro e w2 ⟨rfl,hb⟩;clear xn xu;replace bs:=bs.ret hb;replace q:=bs.q;clear hb
  cases IS with
  | false=>
   have xC:=h_ (yx.out rfl);clear yx yw yi yJ;have xn:=bs.b3 0;have xu:=bs.b3 1;have xp:=bs.b3 2;have xq:=bs.g3 2;have d0:=(bs.lit (w2.heap.size) rfl [.string fb,.slice fa xF fc,.int .i64 xL] 33);have xo:=d0.b3 3;have xr:=d0.b3 0;have xZ:=d0.b3 1;have xz:=d0.b3 2;have xA:=d0.g3 2;go_wp2_with fail;clear xn xu xp xq d0 xo xr xZ xz xA;obtain⟨w3,xO,y3,al,bs⟩:=bs.alloc (w2.heap.size) rfl [.string fb,.slice fa xF fc,.int .i64 xL] 33;clear al;replace q:=bs.q;obtain⟨w4,xJ,y4,bs⟩:=bs.sets 2 0 [.slice none 0 0,.slice none 0 0,.int .i64 0] rfl (wh rfl);replace q:=bs.q;rw[xO];simp only[wo,Nat.reduceAdd] at xJ;rw[xJ];refine bodyPost_ret (aK rfl rfl rfl (bs.box 2 rfl)) rfl ?_;rw[xC.out];exact j9 6 q
  | true=>
   have yA:=h_ (yw.out rfl);have yK:=h_ (yJ.out rfl);clear yx yw yJ;have xn:=bs.b3 0;have xu:=bs.b3 1;have d0:=(bs.lit (w2.heap.size) rfl [.string fb,.slice fa xF fc,.int .i64 xL] 33);have xo:=d0.b3 3;have xr:=d0.b3 0;have xZ:=d0.b3 1;go_wp2_with fail;clear xn xu d0 xo xr xZ;obtain⟨w3,xO,y3,al,bs⟩:=bs.alloc (w2.heap.size) rfl [.string fb,.slice fa xF fc,.int .i64 xL] 33;clear al;replace q:=bs.q;rw[xO];have xn:=bs.b3 0;have xu:=bs.b3 1;go_wp2_with fail;refine(HR.out w3 q).mono ?_;rintro e w4 ⟨rfl,hb⟩;clear xn xu;replace bs:=bs.ret hb;replace q:=bs.q;clear hb
   cases RB with
   | false=>
    have xC:=h_ (yK.out rfl);clear yK yA yi;have xn:=bs.b3 0;have xu:=bs.b3 1;have xp:=bs.b3 2;have xq:=bs.g3 2;go_wp2_with fail;clear xn xu xp xq;obtain⟨w5,xI,y5,bs⟩:=bs.sets 2 0 [.slice none 0 0,.slice none 0 0,.int .i64 0] rfl (wh rfl);replace q:=bs.q;simp only[wo,Nat.reduceAdd] at xI;rw[xI];refine bodyPost_ret (aK rfl rfl rfl (bs.box 2 rfl)) rfl ?_;rw[xC.out];exact j9 2 q
   | true=>
    have yF:=h_ (yA.out rfl);clear yK yA;have xn:=bs.b3 0;have xu:=bs.b3 1;go_wp2_with fail;refine(HC.out w4 q).mono ?_;rintro e w5 ⟨⟨r2,s2⟩,rfl,xG,hb⟩;clear xn xu;replace bs:=bs.ret hb;replace q:=bs.q;clear hb;go_wp2_with fail;refine(yi.out w5 q r2 s2 _ xG).mono ?_;rintro e w6 ⟨⟨YA,⟨ya,yb⟩,YR,⟨yr,ys⟩,ym⟩,rfl,hd,yy,hb⟩;have xV:=OwC.mk' bs yy.own;replace bs:=bs.ret hb;replace q:=bs.q;clear hb;obtain⟨la,xW⟩:=e_ YA.length;obtain⟨lr,xX⟩:=e_ YR.length;have ey:CoI.v ⟨YA,(ya,yb),YR,(yr,ys),ym⟩=.agg #[.slice ya la yb,.slice yr lr ys,.int .i64 ym]:=(by rw[←xW,←xX]);rw[ey];have yG:=h_ xW;have yH:=h_ xX;have HD:=h_ hd;clear xW xX ey hd yy xG;have xp:=bs.b3 2;have xq:=bs.g3 2;go_wp2_with fail;clear xp xq;obtain⟨w7,yz,y7,bs⟩:=bs.sets 2 0 [.slice ya la yb,.slice yr lr ys,.int .i64 ym] rfl (wh rfl);replace xV:=xV.sets 2 rfl yz;replace q:=bs.q;simp only[wo,Nat.reduceAdd] at yz;rw[yz];refine bodyPost_ret (aK rfl rfl rfl (bs.box 2 rfl)) rfl ?_;refine⟨⟨YA,(ya,yb),YR,(yr,ys),ym⟩,?_,?_,xV.csub,q⟩
    ·rw[yF.out]
     show _=Ending.returned (.tuple #[.agg #[.slice ya YA.length yb,.slice yr YR.length ys,.int .i64 ym],.int .i64 0])
     rw[yG.out,yH.out]
     first | done | rfl
    ·rw[yF.out]
     exact HD.out

def gw (t:List UInt8):RsI:=⟨t,false,0,[],(none,0),false,[],(none,0)⟩
def nC (c:CoI) (o r:List UInt8):List RsI×Int×List UInt8×Int:=
 if (fiG acN (c.A.map AcI.d) o).isSome then
  if r.isEmpty||dM r then
   if (fiG reN (c.R.map RsI.d) (o++47 :: r)).isSome then (c.R,c.m,[],240)
   else if c.R.length≤15 then
    if r.isEmpty then
     if ((bo (c.R.map RsI.d) o (c.R.length+1) (c.m.toNat+1):Nat):Int)<cg then (wiR c.R (gw (nmR o (bo (c.R.map RsI.d) o (c.R.length+1) (c.m.toNat+1)))),((bo (c.R.map RsI.d) o (c.R.length+1) (c.m.toNat+1):Nat):Int),nmR o (bo (c.R.map RsI.d) o (c.R.length+1) (c.m.toNat+1)),0)
     else (c.R,c.m,[],9)
    else (wiR c.R (gw (o++47 :: r)),c.m,o++47 :: r,0)
   else (c.R,c.m,[],9)
  else (c.R,c.m,[],2)
 else (c.R,c.m,[],6)
def vy (w:World) (c:CoI) (o:List RsI×Int×List UInt8×Int) (e:Ending) (w':World):Prop:=∃ra:Option Addr×Nat,e=.returned (.tuple #[CoI.v ⟨c.A,c.aa,o.1,ra,o.2.1⟩,.string ⟨o.2.2.1.toArray⟩,.int .i64 o.2.2.2])∧IsL rsY (.slice ra.1 o.1.length ra.2) o.1 w'∧Bl w w'
theorem iy (O D:ByteArray) (n:Nat) (hD:(⟨(ww n).toArray⟩:ByteArray)=D):O++⟨#[47]⟩++(⟨#[114]⟩++D)=⟨(nmR O.data.toList n).toArray⟩:=by
 rw[ek,←hD]
 have e:O=⟨O.data.toList.toArray⟩:=by simp
 rw[e,show (⟨#[47]⟩:ByteArray)=⟨([47]:List UInt8).toArray⟩ from rfl,show (⟨#[114]⟩:ByteArray)=⟨([114]:List UInt8).toArray⟩ from rfl,show (⟨#[47,114]⟩:ByteArray)=⟨([47,114]:List UInt8).toArray⟩ from rfl];simp only[bt]
 simp
theorem qn (t:List UInt8) (w:World):rsY.sub (gw t) w:=(⟨IsL.nil _ _,be.nil w⟩:IsL trY (gw t).lv (gw t).ld w∧be (gw t).sv (gw t).st w)
theorem nP (c:CoI) (O Rs:ByteArray) (w:World) (hs:c.sub w) (hf:CoFitD c.d) (hc:aB af c.d=true) (hO:O.size≤4000) (yX:Rs.size≤4000):Calls prog 95 #[c.v,.string O,.string Rs] w (vy w c (nC c O.data.toList Rs.data.toList)):=by
 have yT:0≤c.m:=(aL hc).2.2.1;have yU:c.m<9007199254740991:=(aL hc).2.2.2.1;obtain⟨Z,hZ⟩:=e_ (nC c O.data.toList Rs.data.toList);rw[hZ];unfold nC at hZ
 have CF:=fun (W:World) (hb:Bl w W)=>jw c O W (hs.ret hb).1 (by have:=hf.zA';omega)
 have CW:=fun (W:World) (hb:Bl w W)=>js c (O++⟨#[47]⟩++Rs) W (hs.ret hb).2 (by have:=hf.zR';omega)
 have CR:=fun (W:World)=>fd Rs W (by omega)
 have CM:=fun (W:World) (hb:Bl w W)=>qu c O (c.m.toNat+1) W (hs.ret hb).2 hf.zR' (by omega) (by omega)
 have et:(O++⟨#[47]⟩++Rs).data.toList=O.data.toList++47 :: Rs.data.toList:=by rw[←cE]
 simp only[mo] at CF;simp only[ft,et] at CW;have zJ:=eI (c.R.map RsI.d) O.data.toList (c.R.length+1) (c.m.toNat+1);obtain⟨MN,yV⟩:=e_ (bo (c.R.map RsI.d) O.data.toList (c.R.length+1) (c.m.toNat+1));rw[yV] at CM zJ;simp only[yV] at hZ;obtain⟨IA,zO⟩:=e_ ((fiG acN (c.A.map AcI.d) O.data.toList).isSome);obtain⟨IR,zP⟩:=e_ ((fiG reN (c.R.map RsI.d) (O.data.toList++47 :: Rs.data.toList)).isSome);obtain⟨RP,zQ⟩:=e_ (dM Rs.data.toList);rw[zO,zP,zQ] at hZ;simp only[zO] at CF;simp only[zP] at CW;rw[zQ] at CR
 have CP:=fun (W:World) (hb:Bl w W) (m':Int) (t:List UInt8) (ht:t.length≤10000)=>pF ⟨c.A,c.aa,c.R,c.ra,m'⟩ (gw t) W (hs.ret hb).2 hf.zR' (fun x hx=>(hf.rs' x hx).j) ht
 have yW:∀(t:List UInt8) (W:World),Bl w W→∀x∈wiR c.R (gw t),rsY.sub x W:=fun t W hb x hx=>by
  rcases lR hx with h | h
  ·rw[h];exact qn t W
  ·exact rsY.subRet _ _ _ (hs.2.2.2 x h) hb
 have zR:=hf.zR';obtain⟨A,⟨a1,b1⟩,R,⟨r1,s1⟩,m1⟩:=c;have yT:0≤m1:=yT;have yU:m1<9007199254740991:=yU;have hR:IsL rsY (.slice r1 R.length s1) R w:=hs.2;obtain⟨k,hk⟩:∃k:Nat,m1=(k:Int):=⟨m1.toNat,by omega⟩;subst hk;obtain⟨xt,xH⟩:=e_ A.length;obtain⟨xx,xN⟩:=e_ R.length
 have ev:∀m':Int,CoI.v ⟨A,(a1,b1),R,(r1,s1),m'⟩=.agg #[.slice a1 xt b1,.slice r1 xx s1,.int .i64 m']:=fun m'=>by rw[←xH,←xN]
 rw[ev];simp only[ev] at CF CW CM CP;simp only[Int.toNat_natCast,xN] at hZ CM zJ hR zR
 have zT:∀(W:World) (_:Bl w W) (m':Int) (t:List UInt8) (_:t.length≤10000),Calls prog 99 #[.agg #[.slice a1 xt b1,.slice r1 xx s1,.int .i64 m'],.agg #[.string ⟨t.toArray⟩,.bool false,.int .i64 0,.slice none 0 0,.bool false,.slice none 0 0]] W (fun e w'=>∃ra:Option Addr×Nat,e=.returned (.agg #[.slice a1 xt b1,.slice ra.1 (wiR R (gw t)).length ra.2,.int .i64 m'])∧OwR rsY W.heap.size (.slice ra.1 (wiR R (gw t)).length ra.2) (wiR R (gw t)) w'∧Bl W w'):=fun W hb m' t ht=>(CP W hb m' t ht).mono fun e w' ⟨ra,he,ho,hb⟩=>by
  have h3:e=.returned (.agg #[.slice a1 A.length b1,.slice ra.1 (wiR R (gw t)).length ra.2,.int .i64 m']):=he
  rw[xH] at h3;exact⟨ra,h3,ho,hb⟩
 obtain⟨f0,yn⟩:=e_ ((fdA A O.data.toList).getD uh);simp only[yn] at CF;obtain⟨fj,fit,⟨fa,fc⟩,xL⟩:=f0;obtain⟨xF,yq⟩:=e_ fit.length;obtain⟨fb,yu⟩:=e_ (ByteArray.mk fj.toArray);obtain⟨g0,Aj⟩:=e_ ((fdR R (O.data.toList++47 :: Rs.data.toList)).getD uk);simp only[Aj] at CW;obtain⟨gj,yd,ye,gl,⟨ga,gc⟩,xM,gs,⟨ha,yf⟩⟩:=g0;obtain⟨yg,Ak⟩:=e_ gl.length;obtain⟨yh,Al⟩:=e_ gs.length;obtain⟨gb,Am⟩:=e_ (ByteArray.mk gj.toArray);obtain⟨K,hK⟩:∃K:Int,(k:Int)=K:=⟨_,rfl⟩;obtain⟨K1,An⟩:∃K:Int,((k+1:Nat):Int)=K:=⟨_,rfl⟩;obtain⟨MI,yY⟩:∃K:Int,(MN:Int)=K:=⟨_,rfl⟩
 have AQ:IntKind.i64.wrap (K+1)=K1:=by rw[IntWalk.i64_in _ (by omega)];omega
 have Ao:∀(W:World) (_:Bl w W),Calls prog 12 #[.agg #[.slice a1 xt b1,.slice r1 xx s1,.int .i64 K],.string O] W (Ret W (.tuple #[.agg #[.string fb,.slice fa xF fc,.int .i64 xL],.bool IA])):=fun W hb=>by
  rw[←yq,←yu,←hK];exact CF W hb
 have yv:∀(W:World) (_:Bl w W),Calls prog 14 #[.agg #[.slice a1 xt b1,.slice r1 xx s1,.int .i64 K],.string (O++⟨#[47]⟩++Rs)] W (Ret W (.tuple #[.agg #[.string gb,.bool yd,.int .i64 ye,.slice ga yg gc,.bool xM,.slice ha yh yf],.bool IR])):=fun W hb=>by
  rw[←Ak,←Al,←Am,←hK];exact CW W hb
 have Ap:∀(W:World) (_:Bl w W),Calls prog 157 #[.agg #[.slice a1 xt b1,.slice r1 xx s1,.int .i64 K],.string O,.int .i64 K1] W (Ret W (.int .i64 MI)):=fun W hb=>by
  rw[←yY,←hK,←An];exact CM W hb
 have CD:=fun (W:World)=>eY MN (by omega) W
 obtain⟨D,hD⟩:∃D:ByteArray,ByteArray.mk (ww MN).toArray=D:=⟨_,rfl⟩;rw[hD] at CD;simp only[yY] at CD
 have AB:D.size≤100:=by rw[←hD,←ab];have:=bU (n:=MN) (by omega);show (ww MN).length≤100;omega
 have zv:(O.data.toList++47 :: Rs.data.toList).length≤10000:=by rw[wt,wq,ab,ab];omega
 have zw:(nmR O.data.toList MN).length≤10000:=by
  have h1:=bU (n:=MN) (by omega);unfold nmR;rw[wt,wq,wq,ab]
  omega
 have yZ:=fun (W:World) (hb:Bl w W)=>zT W hb K _ zv
 have ze:=fun (W:World) (hb:Bl w W)=>zT W hb MI _ zw
 simp only[cE] at yZ;simp only[←iy O D MN hD] at ze;obtain⟨F1,zh⟩:=e_ (O.data.toList++47 :: Rs.data.toList);obtain⟨F2,zi⟩:=e_ (nmR O.data.toList MN);obtain⟨N1,zk⟩:=e_ (wiR R (gw F1));obtain⟨N2,yO⟩:=e_ (wiR R (gw F2));obtain⟨n1,zU⟩:=e_ N1.length;obtain⟨n2,zV⟩:=e_ N2.length
 have Aq:(⟨F1.toArray⟩:ByteArray)=O++⟨#[47]⟩++Rs:=by rw[←zh];exact cE O Rs
 have Ar:(⟨F2.toArray⟩:ByteArray)=O++⟨#[47]⟩++(⟨#[114]⟩++D):=by rw[←zi];exact(iy O D MN hD).symm
 simp only[zh,zk,zU] at yZ;simp only[zi,yO,zV] at ze;simp only[zh,zi,zk,yO,hK,yY] at hZ;obtain⟨LB,zW⟩:∃b:Bool,decide (MI<cg)=b:=⟨_,rfl⟩
 have As:(MI<cg)=(LB=true):=by rw[←zW];exact decide_eq_true_eq.symm
 simp only[As] at hZ;clear As;have zm:=h_ zW;clear zW;have zZ:=yW F1;have z8:=yW F2;rw[zk] at zZ;rw[yO] at z8
 have g1:¬ 9223372036854775807<O.size+1:=by omega
 have g2:¬ 9223372036854775807<O.size+1+Rs.size:=by omega
 have g3:¬ 9223372036854775807<1+D.size:=by omega
 have g4:¬ 9223372036854775807<O.size+1+(1+D.size):=by omega
 have HF:=h_ Ao;have HO:=h_ yv;have AC:=h_ Ap;have HD:=h_ CD;have HR:=h_ CR;have AE:=h_ yZ;have AF:=h_ ze;have HZ:=h_ hZ;have AG:=h_ zZ;have AH:=h_ z8;have Au:=h_ zU;have Av:=h_ zV;have AI:=h_ Aq;have AJ:=h_ Ar;have Aw:=h_ xH;have yL:=h_ xN;have yM:=h_ hR;have AS:=h_ hK;have yN:=h_ ev;clear hs hf hc yT yU hZ CF CW CR CM et zJ yV zO zP zQ CP yW zR hR xH xN ev zT yn yq yu Aj Ak Al Am Ao yv Ap CD hD AB zv zw yZ ze zh zi zk yO zU zV Aq Ar zZ z8 yY An;rw[hK];clear hK;clear yT yU;obtain⟨W0,hW,y0,bs⟩:=Sx.start2 w [.slice a1 xt b1,.slice r1 xx s1,.int .i64 K] 25 [.slice none 0 0,.slice none 0 0,.int .i64 0] 25;have HW:=h_ hW;clear hW;have q:=bs.q;go_enter func95,ntmps95;have xn:=bs.b3 0;go_wp2_with fail;rw[HW.out];refine(HF.out W0 q).mono ?_;rintro e w1 ⟨rfl,hb⟩;clear xn;replace bs:=bs.ret hb;replace q:=bs.q;clear hb
 cases IA with
 | false=>
  have xn:=bs.b3 0;have xp:=bs.b3 1;have xq:=bs.g3 1;have d0:=(bs.lit (w1.heap.size) rfl [.string fb,.slice fa xF fc,.int .i64 xL] 33);have xo:=d0.b3 2;have xr:=d0.b3 0;have xz:=d0.b3 1;have xA:=d0.g3 1;go_wp2_with fail;clear xn xp xq d0 xo xr xz xA;obtain⟨w2,xT,y2,al,bs⟩:=bs.alloc (w1.heap.size) rfl [.string fb,.slice fa xF fc,.int .i64 xL] 33;clear al;replace q:=bs.q;obtain⟨w3,xO,y3,bs⟩:=bs.sets 1 0 [.slice a1 xt b1,.slice r1 xx s1,.int .i64 K] rfl (wh rfl);replace q:=bs.q;rw[xT];simp only[wo,Nat.reduceAdd] at xO;rw[xO];refine bodyPost_ret (aJ rfl rfl rfl rfl (bs.box 1 rfl)) rfl ?_
  have xE:Hid ((R,K,[],6)=Z):=HZ
  refine⟨(r1,s1),?_,?_,q⟩
  ·rw[←xE.out]
   show _=Ending.returned (.tuple #[CoI.v ⟨A,(a1,b1),R,(r1,s1),K⟩,.string ⟨([]:List UInt8).toArray⟩,.int .i64 6])
   rw[yN.out]
   first | done | rfl
  ·rw[←xE.out]
   show IsL rsY (.slice r1 R.length s1) R _
   rw[yL.out];exact yM.out.ret q
 | true=>
  cases he:Rs.data.toList.isEmpty with
  | false=>
   have z9:(Rs.toList==[])=false:=by
    rw[wz]
    cases h:Rs.data.toList with
    | nil=>rw[h] at he;cases he
    | cons a l=>rfl
   have AK:(Rs.toList != [])=true:=(by unfold bne;rw[z9];rfl);have xD:=HZ.out;clear HZ;rw[he] at xD;have HZ:=h_ xD;clear xD;clear he;have xn:=bs.b3 0;have d0:=(bs.lit (w1.heap.size) rfl [.string fb,.slice fa xF fc,.int .i64 xL] 33);have xo:=d0.b3 2;have xr:=d0.b3 0;go_wp2_with fail;clear xn d0 xo xr;obtain⟨w2,xT,y2,al,bs⟩:=bs.alloc (w1.heap.size) rfl [.string fb,.slice fa xF fc,.int .i64 xL] 33;clear al;replace q:=bs.q;rw[xT];have xn:=bs.b3 0;go_wp2_with fail;refine(HR.out w2).mono ?_;rintro e w3 ⟨rfl,hb⟩;clear xn;replace bs:=bs.ret hb;replace q:=bs.q;clear hb
   cases RP with
   | false=>
    have xn:=bs.b3 0;have xp:=bs.b3 1;have xq:=bs.g3 1;go_wp2_with fail;clear xn xp xq;obtain⟨w4,xJ,y4,bs⟩:=bs.sets 1 0 [.slice a1 xt b1,.slice r1 xx s1,.int .i64 K] rfl (wh rfl);replace q:=bs.q;simp only[wo,Nat.reduceAdd] at xJ;rw[xJ];refine bodyPost_ret (aJ rfl rfl rfl rfl (bs.box 1 rfl)) rfl ?_
    have xE:Hid ((R,K,[],2)=Z):=HZ
    refine⟨(r1,s1),?_,?_,q⟩
    ·rw[←xE.out]
     show _=Ending.returned (.tuple #[CoI.v ⟨A,(a1,b1),R,(r1,s1),K⟩,.string ⟨([]:List UInt8).toArray⟩,.int .i64 2])
     rw[yN.out]
     first | done | rfl
    ·rw[←xE.out]
     show IsL rsY (.slice r1 R.length s1) R _
     rw[yL.out];exact yM.out.ret q
   | true=>
    have xn:=bs.b3 0;go_wp2_with fail;refine(HO.out w3 q).mono ?_;rintro e w4 ⟨rfl,hb⟩;clear xn;replace bs:=bs.ret hb;replace q:=bs.q;clear hb
    cases IR with
    | true=>
     have xn:=bs.b3 0;have xp:=bs.b3 1;have xq:=bs.g3 1;have d0:=(bs.lit (w4.heap.size) rfl [.string gb,.bool yd,.int .i64 ye,.slice ga yg gc,.bool xM,.slice ha yh yf] 38);have xo:=d0.b6 3;have xr:=d0.b3 0;have xz:=d0.b3 1;have xA:=d0.g3 1;go_wp2_with fail;clear xn xp xq d0 xo xr xz xA;obtain⟨w5,xI,y5,al,bs⟩:=bs.alloc (w4.heap.size) rfl [.string gb,.bool yd,.int .i64 ye,.slice ga yg gc,.bool xM,.slice ha yh yf] 38;clear al;replace q:=bs.q;obtain⟨w6,xY,y6,bs⟩:=bs.sets 1 0 [.slice a1 xt b1,.slice r1 xx s1,.int .i64 K] rfl (wh rfl);replace q:=bs.q;rw[xI];simp only[wo,Nat.reduceAdd] at xY;rw[xY];refine bodyPost_ret (aJ rfl rfl rfl rfl (bs.box 1 rfl)) rfl ?_
     have xE:Hid ((R,K,[],240)=Z):=HZ
     refine⟨(r1,s1),?_,?_,q⟩
     ·rw[←xE.out]
      show _=Ending.returned (.tuple #[CoI.v ⟨A,(a1,b1),R,(r1,s1),K⟩,.string ⟨([]:List UInt8).toArray⟩,.int .i64 240])
      rw[yN.out]
      first | done | rfl
     ·rw[←xE.out]
      show IsL rsY (.slice r1 R.length s1) R _
      rw[yL.out];exact yM.out.ret q
    | false=>
     by_cases hl:xx≤15
     rotate_left
     ·have wl : (16 : Int) ≤ (xx : Int) := by omega
      have xD:=HZ.out;clear HZ;rw[if_neg hl] at xD;have HZ:=h_ xD;clear xD;clear hl;have xn:=bs.b3 0;have xp:=bs.b3 1;have xq:=bs.g3 1;have d0:=(bs.lit (w4.heap.size) rfl [.string gb,.bool yd,.int .i64 ye,.slice ga yg gc,.bool xM,.slice ha yh yf] 38);have xo:=d0.b6 3;have xr:=d0.b3 0;have xz:=d0.b3 1;have xA:=d0.g3 1;go_wp2_with fail;clear xn xp xq d0 xo xr xz xA;obtain⟨w5,xI,y5,al,bs⟩:=bs.alloc (w4.heap.size) rfl [.string gb,.bool yd,.int .i64 ye,.slice ga yg gc,.bool xM,.slice ha yh yf] 38;clear al;replace q:=bs.q;obtain⟨w6,xY,y6,bs⟩:=bs.sets 1 0 [.slice a1 xt b1,.slice r1 xx s1,.int .i64 K] rfl (wh rfl);replace q:=bs.q;rw[xI];simp only[wo,Nat.reduceAdd] at xY;rw[xY];refine bodyPost_ret (aJ rfl rfl rfl rfl (bs.box 1 rfl)) rfl ?_
      have xE:Hid ((R,K,[],9)=Z):=HZ
      refine⟨(r1,s1),?_,?_,q⟩
      ·rw[←xE.out]
       show _=Ending.returned (.tuple #[CoI.v ⟨A,(a1,b1),R,(r1,s1),K⟩,.string ⟨([]:List UInt8).toArray⟩,.int .i64 9])
       rw[yN.out]
       first | done | rfl
      ·rw[←xE.out]
       show IsL rsY (.slice r1 R.length s1) R _
       rw[yL.out];exact yM.out.ret q
     ·have wl : ¬ (16 : Int) ≤ (xx : Int) := by omega
      have xD:=HZ.out;clear HZ;rw[if_pos hl] at xD;have HZ:=h_ xD;clear xD;clear hl;have xn:=bs.b3 0;have d0:=(bs.lit (w4.heap.size) rfl [.string gb,.bool yd,.int .i64 ye,.slice ga yg gc,.bool xM,.slice ha yh yf] 38);have xo:=d0.b6 3;have xr:=d0.b3 0;go_wp2_with fail;clear xn d0 xo xr;obtain⟨w5,xI,y5,al,bs⟩:=bs.alloc (w4.heap.size) rfl [.string gb,.bool yd,.int .i64 ye,.slice ga yg gc,.bool xM,.slice ha yh yf] 38;clear al;replace q:=bs.q;rw[xI]
      have AM:w.heap.size+1<w5.heap.size:=bs.lt _ (wA (i:=1) rfl)
      have xn:=bs.b3 0;go_wp2_with fail;refine(AE.out w5 q).mono ?_;rintro e w6 ⟨⟨r2,s2⟩,rfl,xG,hb⟩;clear xn;replace bs:=bs.ret hb;replace q:=bs.q;clear hb;have xp:=bs.b3 1;have xq:=bs.g3 1;go_wp2_with fail;clear xp xq;obtain⟨w7,yz,y7,bs⟩:=bs.sets 1 0 [.slice a1 xt b1,.slice r2 n1 s2,.int .i64 K] rfl (wh rfl);replace xG:=xG.sets (by omega) yz;replace q:=bs.q;simp only[wo,Nat.reduceAdd] at yz;rw[yz];refine bodyPost_ret (aJ rfl rfl rfl rfl (bs.box 1 rfl)) rfl ?_
      have xE:Hid ((N1,K,F1,0)=Z):=HZ
      refine⟨(r2,s2),?_,?_,q⟩
      ·rw[←xE.out]
       show _=Ending.returned (.tuple #[.agg #[.slice a1 A.length b1,.slice r2 N1.length s2,.int .i64 K],.string ⟨F1.toArray⟩,.int .i64 0])
       rw[Aw.out,Au.out,AI.out]
       first | done | rfl
      ·rw[←xE.out]
       show IsL rsY (.slice r2 N1.length s2) N1 _
       rw[Au.out];exact xG.isL (AG.out _ q)
  | true=>
   have z9:(Rs.toList==[])=true:=by
    rw[wz]
    cases h:Rs.data.toList with
    | nil=>rfl
    | cons a l=>rw[h] at he;cases he
   have AK:(Rs.toList != [])=false:=(by unfold bne;rw[z9];rfl);have xD:=HZ.out;clear HZ;rw[he] at xD;have HZ:=h_ xD;clear xD;clear he;have xn:=bs.b3 0;have d0:=(bs.lit (w1.heap.size) rfl [.string fb,.slice fa xF fc,.int .i64 xL] 33);have xo:=d0.b3 2;have xr:=d0.b3 0;go_wp2_with fail;clear xn d0 xo xr;obtain⟨w2,xT,y2,al,bs⟩:=bs.alloc (w1.heap.size) rfl [.string fb,.slice fa xF fc,.int .i64 xL] 33;clear al;replace q:=bs.q;rw[xT];refine(HO.out w2 q).mono ?_;rintro e w3 ⟨rfl,hb⟩;replace bs:=bs.ret hb;replace q:=bs.q;clear hb
   cases IR with
   | true=>
    have xn:=bs.b3 0;have xp:=bs.b3 1;have xq:=bs.g3 1;have d0:=(bs.lit (w3.heap.size) rfl [.string gb,.bool yd,.int .i64 ye,.slice ga yg gc,.bool xM,.slice ha yh yf] 38);have xo:=d0.b6 3;have xr:=d0.b3 0;have xz:=d0.b3 1;have xA:=d0.g3 1;go_wp2_with fail;clear xn xp xq d0 xo xr xz xA;obtain⟨w4,xJ,y4,al,bs⟩:=bs.alloc (w3.heap.size) rfl [.string gb,.bool yd,.int .i64 ye,.slice ga yg gc,.bool xM,.slice ha yh yf] 38;clear al;replace q:=bs.q;obtain⟨w5,xI,y5,bs⟩:=bs.sets 1 0 [.slice a1 xt b1,.slice r1 xx s1,.int .i64 K] rfl (wh rfl);replace q:=bs.q;rw[xJ];simp only[wo,Nat.reduceAdd] at xI;rw[xI];refine bodyPost_ret (aJ rfl rfl rfl rfl (bs.box 1 rfl)) rfl ?_
    have xE:Hid ((R,K,[],240)=Z):=HZ
    refine⟨(r1,s1),?_,?_,q⟩
    ·rw[←xE.out]
     show _=Ending.returned (.tuple #[CoI.v ⟨A,(a1,b1),R,(r1,s1),K⟩,.string ⟨([]:List UInt8).toArray⟩,.int .i64 240])
     rw[yN.out]
     first | done | rfl
    ·rw[←xE.out]
     show IsL rsY (.slice r1 R.length s1) R _
     rw[yL.out];exact yM.out.ret q
   | false=>
    by_cases hl:xx≤15
    rotate_left
    ·have wl : (16 : Int) ≤ (xx : Int) := by omega
     have xD:=HZ.out;clear HZ;rw[if_neg hl] at xD;have HZ:=h_ xD;clear xD;clear hl;have xn:=bs.b3 0;have xp:=bs.b3 1;have xq:=bs.g3 1;have d0:=(bs.lit (w3.heap.size) rfl [.string gb,.bool yd,.int .i64 ye,.slice ga yg gc,.bool xM,.slice ha yh yf] 38);have xo:=d0.b6 3;have xr:=d0.b3 0;have xz:=d0.b3 1;have xA:=d0.g3 1;go_wp2_with fail;clear xn xp xq d0 xo xr xz xA;obtain⟨w4,xJ,y4,al,bs⟩:=bs.alloc (w3.heap.size) rfl [.string gb,.bool yd,.int .i64 ye,.slice ga yg gc,.bool xM,.slice ha yh yf] 38;clear al;replace q:=bs.q;obtain⟨w5,xI,y5,bs⟩:=bs.sets 1 0 [.slice a1 xt b1,.slice r1 xx s1,.int .i64 K] rfl (wh rfl);replace q:=bs.q;rw[xJ];simp only[wo,Nat.reduceAdd] at xI;rw[xI];refine bodyPost_ret (aJ rfl rfl rfl rfl (bs.box 1 rfl)) rfl ?_
     have xE:Hid ((R,K,[],9)=Z):=HZ
     refine⟨(r1,s1),?_,?_,q⟩
     ·rw[←xE.out]
      show _=Ending.returned (.tuple #[CoI.v ⟨A,(a1,b1),R,(r1,s1),K⟩,.string ⟨([]:List UInt8).toArray⟩,.int .i64 9])
      rw[yN.out]
      first | done | rfl
     ·rw[←xE.out]
      show IsL rsY (.slice r1 R.length s1) R _
      rw[yL.out];exact yM.out.ret q
    ·have wl : ¬ (16 : Int) ≤ (xx : Int) := by omega
     have xD:=HZ.out;clear HZ;rw[if_pos hl] at xD;have HZ:=h_ xD;clear xD;clear hl;have xn:=bs.b3 0;have d0:=(bs.lit (w3.heap.size) rfl [.string gb,.bool yd,.int .i64 ye,.slice ga yg gc,.bool xM,.slice ha yh yf] 38);have xo:=d0.b6 3;have xr:=d0.b3 0;go_wp2_with fail;clear xn d0 xo xr;obtain⟨w4,xJ,y4,al,bs⟩:=bs.alloc (w3.heap.size) rfl [.string gb,.bool yd,.int .i64 ye,.slice ga yg gc,.bool xM,.slice ha yh yf] 38;clear al;replace q:=bs.q;rw[xJ];have xn:=bs.b3 0;go_wp2_with fail;refine(AC.out w4 q).mono ?_;rintro e w5 ⟨rfl,hb⟩;clear xn;replace bs:=bs.ret hb;replace q:=bs.q;clear hb
     cases LB with
     | true=>
      have wn:¬ (9007199254740991:Int)≤MI:=(by have h:MI<(9007199254740991:Int):=of_decide_eq_true zm.out;omega);clear zm;have xD:=HZ.out;clear HZ;rw[if_pos rfl] at xD;have HZ:=h_ xD;clear xD;have xn:=bs.b3 0;have Ax:=bs.g3 0;go_wp2_with fail;clear xn Ax;obtain⟨w6,xY,y6,bs⟩:=bs.sets 0 2 [.int .i64 MI] rfl (wh rfl);replace q:=bs.q;simp only[wo] at xY;rw[xY];have xn:=bs.b3 0;go_wp2_with fail;refine(HD.out w6).mono ?_;rintro e w7 ⟨rfl,hb⟩;clear xn;replace bs:=bs.ret hb;replace q:=bs.q;clear hb
      have AM:w.heap.size+1<w7.heap.size:=bs.lt _ (wA (i:=1) rfl)
      have xn:=bs.b3 0;go_wp2_with fail;refine(AF.out w7 q).mono ?_;rintro e w8 ⟨⟨r2,s2⟩,rfl,xG,hb⟩;clear xn;replace bs:=bs.ret hb;replace q:=bs.q;clear hb;have xp:=bs.b3 1;have xq:=bs.g3 1;go_wp2_with fail;clear xp xq;obtain⟨w9,Aa,y9,bs⟩:=bs.sets 1 0 [.slice a1 xt b1,.slice r2 n2 s2,.int .i64 MI] rfl (wh rfl);replace xG:=xG.sets (by omega) Aa;replace q:=bs.q;simp only[wo,Nat.reduceAdd] at Aa;rw[Aa];refine bodyPost_ret (aJ rfl rfl rfl rfl (bs.box 1 rfl)) rfl ?_
      have xE:Hid ((N2,MI,F2,0)=Z):=HZ
      refine⟨(r2,s2),?_,?_,q⟩
      ·rw[←xE.out]
       show _=Ending.returned (.tuple #[.agg #[.slice a1 A.length b1,.slice r2 N2.length s2,.int .i64 MI],.string ⟨F2.toArray⟩,.int .i64 0])
       rw[Aw.out,Av.out,AJ.out]
       first | done | rfl
      ·rw[←xE.out]
       show IsL rsY (.slice r2 N2.length s2) N2 _
       rw[Av.out];exact xG.isL (AH.out _ q)
     | false=>
      have wn:(9007199254740991:Int)≤MI:=(by have h:¬ MI<(9007199254740991:Int):=of_decide_eq_false zm.out;omega);clear zm;have xn:=bs.b3 0;have xp:=bs.b3 1;have xq:=bs.g3 1;go_wp2_with fail;clear xn xp xq;obtain⟨w6,xY,y6,bs⟩:=bs.sets 1 0 [.slice a1 xt b1,.slice r1 xx s1,.int .i64 K] rfl (wh rfl);replace q:=bs.q;simp only[wo,Nat.reduceAdd] at xY;rw[xY];refine bodyPost_ret (aJ rfl rfl rfl rfl (bs.box 1 rfl)) rfl ?_
      have xE:Hid ((R,K,[],9)=Z):=HZ
      refine⟨(r1,s1),?_,?_,q⟩
      ·rw[←xE.out]
       show _=Ending.returned (.tuple #[CoI.v ⟨A,(a1,b1),R,(r1,s1),K⟩,.string ⟨([]:List UInt8).toArray⟩,.int .i64 9])
       rw[yN.out]
       first | done | rfl
      ·rw[←xE.out]
       show IsL rsY (.slice r1 R.length s1) R _
       rw[yL.out];exact yM.out.ret q

def vU (w:World) (o:Co×List UInt8×Int) (e:Ending) (w':World):Prop:=∃c:CoI,e=.returned (.tuple #[c.v,.string ⟨o.2.1.toArray⟩,.int .i64 o.2.2])∧c.d=o.1∧c.sub w'∧Bl w w'
theorem r7 {w w':World} (e:Int) (hb:Bl w w'):vU w (co0,[],e) (.returned (.tuple #[.agg #[.slice none 0 0,.slice none 0 0,.int .i64 0],.string ⟨#[]⟩,.int .i64 e])) w':=⟨⟨[],(none,0),[],(none,0),0⟩,rfl,rfl,⟨IsL.nil _ _,IsL.nil _ _⟩,hb⟩
theorem tR (r:List UInt8):(r.isEmpty||bB [] [97] r)=(r.isEmpty||dM r):=by
 have h:eZ [97]=true:=by decide+kernel
 unfold bB;rw[h]
 cases r.isEmpty <;> simp
theorem mp {o s:List UInt8} (ho:cG o=true) (hs:dM s=true):bm (o++47 :: s)=true:=by
 have h:=(tZ ho hs).1;unfold fM at h;simp only[wv] at h;exact h.1
theorem qL {c:CoI} {o r:List UInt8} (hf:CoFitD c.d) (hc:aB af c.d=true) (ho:o.length≤4000) (hr:r.length≤4000):((nC c o r).2.2.2=0∧bZ af c.d o r=((c.A.map AcI.d,(nC c o r).1.map RsI.d,(nC c o r).2.1),(nC c o r).2.2.1,0)∧(nC c o r).1.length≤1000∧∀x∈(nC c o r).1,gd x)∨((nC c o r).2.2.2≠0∧bZ af c.d o r=(co0,[],(nC c o r).2.2.2)):=by
 obtain⟨AT,Ay,yT,yU,hA,AU,hR,AN⟩:=aL hc
 have key:∀t:List UInt8,t.length≤10000→bm t=true→(wiR c.R (gw t)).map RsI.d=puO reN (c.R.map RsI.d) (sq t)∧(wiR c.R (gw t)).length≤1000∧∀x∈wiR c.R (gw t),gd x:=fun t hz ht=>by
  have h3:=pd (x:=sq t) AN (dH hc).2 ht;refine⟨?_,?_,fun x hx=>?_⟩
  ·exact(oj RsI.d reN c.R (gw t)).trans h3
  ·have h2:(c.R.map RsI.d).length≤16:=Ay
   have h4:=n6 (nm:=RsI.j) (L:=c.R) (x:=gw t);rw[ws] at h2
   show (wiG RsI.j c.R (gw t)).length≤1000
   omega
  ·rcases lR hx with h | h
   ·rw[h];exact ReFit.tw (x:=gw t) (l9 hz)
   ·exact(hf.rs' x h).tw
 have AV:=eI (c.R.map RsI.d) o (c.R.length+1) (c.m.toNat+1)
 have e1:c.d.1=c.A.map AcI.d:=rfl
 have e2:c.d.2.1=c.R.map RsI.d:=rfl
 have e3:c.d.2.2=c.m:=rfl
 unfold bZ nC;rw[hc,tR,e1,e2,e3,ws];simp only[if_true]
 cases ha:(fiG acN (c.A.map AcI.d) o).isSome with
 | false=>simp only[wu,if_false];exact .inr ⟨by show (6:Int)≠0;decide,by first | rfl | trivial⟩
 | true=>
  simp only[if_true];obtain⟨a,ha⟩:=Option.isSome_iff_exists.1 ha
  have hm:cG o=true:=by
   have h:=(dH hc).1 a (cI ha).1
   rwa [(cI ha).2] at h
  cases hq:(r.isEmpty||dM r) with
  | false=>simp only[wu,if_false];exact .inr ⟨by show (2:Int)≠0;decide,by first | rfl | trivial⟩
  | true=>
   simp only[if_true]
   cases hw:(fiG reN (c.R.map RsI.d) (o++47 :: r)).isSome with
   | true=>simp only[if_true];exact .inr ⟨by show (240:Int)≠0;decide,by first | rfl | trivial⟩
   | false=>
    simp only[wu,if_false]
    by_cases hl:c.R.length≤15
    ·rw[if_pos hl,if_pos hl]
     cases he:r.isEmpty with
     | false=>
      simp only[wu,if_false];rw[he,Bool.false_or] at hq;obtain⟨k1,k2,k3⟩:=key (o++47 :: r) (by rw[wt,wq];omega) (mp hm hq);exact .inl ⟨by first | rfl | trivial,by rw[k1],k2,k3⟩
     | true=>
      simp only[if_true];obtain⟨MN,yV⟩:=e_ (bo (c.R.map RsI.d) o (c.R.length+1) (c.m.toNat+1));rw[yV]
      by_cases hb:(MN:Int)<cg
      ·rw[if_pos hb,if_pos hb]
       have yO:MN≤9007199254740991:=(by unfold cg at hb;omega)
       obtain⟨k1,k2,k3⟩:=key (nmR o MN) (by
        have h1:=bU (n:=MN) (by omega);unfold nmR;rw[wt,wq,wq]
        omega) (mp hm (mj yO))
       exact .inl ⟨by first | rfl | trivial,by rw[k1],k2,k3⟩
      ·rw[if_neg hb,if_neg hb]
       exact .inr ⟨by show (9:Int)≠0;decide,by first | rfl | trivial⟩
    ·rw[if_neg hl,if_neg hl]
     exact .inr ⟨by show (9:Int)≠0;decide,by first | rfl | trivial⟩
theorem qD (c:CoI) (O Rs:ByteArray) (w:World) (hs:c.sub w) (hf:CoFitD c.d) (hO:O.size≤4000) (yX:Rs.size≤4000):Calls prog 38 #[c.v,.string O,.string Rs] w (vU w (bZ af c.d O.data.toList Rs.data.toList)):=by
 have CM:=fun (W:World) (hb:Bl w W)=>jm c W (hs.ret hb) hf
 have CB:=fun (W:World) (hb:Bl w W) (hc:aB af c.d=true)=>nP c O Rs W (hs.ret hb) hf hc hO yX
 have xB:aB af c.d=false→bZ af c.d O.data.toList Rs.data.toList=(co0,[],8):=fun h1=>by
  unfold bZ;rw[h1]
  rfl
 have yP:=fun (hc:aB af c.d=true)=>qL hf hc (o:=O.data.toList) (r:=Rs.data.toList) (by rw[ab];exact hO) (by rw[ab];exact yX)
 obtain⟨B,hB⟩:=e_ (aB af c.d);obtain⟨ZZ,yk⟩:=e_ (bZ af c.d O.data.toList Rs.data.toList);obtain⟨BO,Ab⟩:=e_ (nC c O.data.toList Rs.data.toList);rw[yk] at xB yP ⊢;rw[Ab] at yP;simp only[Ab] at CB;rw[hB] at xB yP CM;simp only[hB] at CB;obtain⟨R2,m2,T2,E2⟩:=BO
 simp only at yP
 have CT:=fun (hz:R2.length≤1000) (hfz:∀x∈R2,gd x) (W:World) (hb:Bl w W) (ra:Option Addr×Nat) (ho:IsL rsY (.slice ra.1 R2.length ra.2) R2 W)=>ez ⟨c.A,c.aa,R2,ra,m2⟩ W ⟨(hs.ret hb).1,ho⟩ hf.zA' hz (fun a ha=>(hf.ac' a ha).small) hfz
 obtain⟨A,⟨a1,b1⟩,R,⟨r1,s1⟩,m1⟩:=c;obtain⟨xt,xH⟩:=e_ A.length;obtain⟨xx,xN⟩:=e_ R.length;obtain⟨n,hn⟩:=e_ R2.length;obtain⟨tb,Ad⟩:=e_ (ByteArray.mk T2.toArray)
 have ev:CoI.v ⟨A,(a1,b1),R,(r1,s1),m1⟩=.agg #[.slice a1 xt b1,.slice r1 xx s1,.int .i64 m1]:=by rw[←xH,←xN]
 rw[ev] at CM ⊢;simp only[ev] at CB
 have Az:=fun (W:World) (hb:Bl w W) (hc:B=true)=>(CB W hb hc).mono (R':=fun e w'=>∃ra:Option Addr×Nat,e=.returned (.tuple #[.agg #[.slice a1 xt b1,.slice ra.1 n ra.2,.int .i64 m2],.string tb,.int .i64 E2])∧IsL rsY (.slice ra.1 n ra.2) R2 w'∧Bl W w') fun e w' ⟨ra,he,ho,hb⟩=>by
  have h2:IsL rsY (.slice ra.1 R2.length ra.2) R2 w':=ho
  have h3:e=.returned (.tuple #[.agg #[.slice a1 A.length b1,.slice ra.1 R2.length ra.2,.int .i64 m2],.string ⟨T2.toArray⟩,.int .i64 E2]):=he
  rw[hn] at h2 h3;rw[xH,Ad] at h3;exact⟨ra,h3,h2,hb⟩
 have yl:R2.length≤1000→(∀x∈R2,gd x)→∀(W:World) (_:Bl w W) (ra:Option Addr) (rc:Nat) (_:IsL rsY (.slice ra n rc) R2 W),Calls prog 10 #[.agg #[.slice a1 xt b1,.slice ra n rc,.int .i64 m2]] W (TwC W (A.map AcI.d,R2.map RsI.d,m2)):=fun hz hfz W hb ra rc ho=>by
  have h1:=CT hz hfz W hb (ra,rc) (by show IsL rsY (.slice ra R2.length rc) R2 W;rw[hn];exact ho);rw[←hn,←xH];exact h1
 have HM:=h_ CM;have HC:=h_ Az;have HT:=h_ yl;have HB:=h_ xB;have Ae:=h_ yP;have AO:=h_ Ad;clear hs hf hO yX CM CB xB yP hB yk Ab CT xH xN hn Ad ev Az yl;obtain⟨W0,hW,y0,bs⟩:=Sx.start2 w [.slice a1 xt b1,.slice r1 xx s1,.int .i64 m1] 25 [.slice none 0 0,.slice none 0 0,.int .i64 0] 25;have HW:=h_ hW;clear hW;have q:=bs.q;go_enter func38,ntmps38;have xn:=bs.b3 0;go_wp2_with fail;rw[HW.out];refine(HM.out W0 q).mono ?_;rintro e w1 ⟨rfl,hb⟩;clear xn;replace bs:=bs.ret hb;replace q:=bs.q;clear hb
 cases B with
 | false=>
  have xC:=h_ (HB.out rfl);clear HB Ae HT;have xn:=bs.b3 0;have xp:=bs.b3 1;have xq:=bs.g3 1;go_wp2_with fail;clear xn xp xq;obtain⟨w2,xT,y2,bs⟩:=bs.sets 1 0 [.slice none 0 0,.slice none 0 0,.int .i64 0] rfl (wh rfl);replace q:=bs.q;simp only[wo,Nat.reduceAdd] at xT;rw[xT];refine bodyPost_ret (aJ rfl rfl rfl rfl (bs.box 1 rfl)) rfl ?_;rw[xC.out];exact r7 8 q
 | true=>
  have yB:=h_ (Ae.out rfl);clear HB Ae;have xn:=bs.b3 0;go_wp2_with fail;refine(HC.out w1 q (by first | rfl | trivial)).mono ?_;rintro e w2 ⟨⟨r2,s2⟩,rfl,xG,hb⟩;clear xn;replace bs:=bs.ret hb;replace q:=bs.q;clear hb
  by_cases he:E2=0
  rotate_left
  ·have xC:Hid (ZZ=(co0,[],E2)):=by
    rcases yB.out with ⟨h1,-⟩ | ⟨-,h2⟩
    ·exact absurd h1 he
    ·exact h_ h2
   have we:(E2==0)=false:=(by simpa using he);have AW:(E2 != 0)=true:=(by simpa using he);clear he yB HT;clear xG;have xn:=bs.b3 0;have xp:=bs.b3 1;have xq:=bs.g3 1;have d0:=(bs.lit (w2.heap.size) rfl [.slice a1 xt b1,.slice r2 n s2,.int .i64 m2] 25);have xo:=d0.b3 2;have xr:=d0.b3 0;have xz:=d0.b3 1;have xA:=d0.g3 1;go_wp2_with fail;clear xn xp xq d0 xo xr xz xA;obtain⟨w3,xO,y3,al,bs⟩:=bs.alloc (w2.heap.size) rfl [.slice a1 xt b1,.slice r2 n s2,.int .i64 m2] 25;clear al;replace q:=bs.q;obtain⟨w4,xJ,y4,bs⟩:=bs.sets 1 0 [.slice none 0 0,.slice none 0 0,.int .i64 0] rfl (wh rfl);replace q:=bs.q;rw[xO];simp only[wo,Nat.reduceAdd] at xJ;rw[xJ];refine bodyPost_ret (aJ rfl rfl rfl rfl (bs.box 1 rfl)) rfl ?_;rw[xC.out];exact r7 E2 q
  ·subst he
   have HG:Hid (ZZ=((A.map AcI.d,R2.map RsI.d,m2),T2,0)):=by
    rcases yB.out with ⟨-,h2,-⟩ | ⟨h1,-⟩
    ·exact h_ h2
    ·exact absurd rfl h1
   have yi:=h_ (HT.out (by
    rcases yB.out with ⟨-,-,h2,-⟩ | ⟨h1,-⟩
    ·exact h2
    ·exact absurd rfl h1) (by
    rcases yB.out with ⟨-,-,-,h2⟩ | ⟨h1,-⟩
    ·exact h2
    ·exact absurd rfl h1))
   clear yB HT;have xn:=bs.b3 0;have d0:=(bs.lit (w2.heap.size) rfl [.slice a1 xt b1,.slice r2 n s2,.int .i64 m2] 25);have xo:=d0.b3 2;have xr:=d0.b3 0;go_wp2_with fail;clear xn d0 xo xr;obtain⟨w3,xO,y3,al,bs⟩:=bs.alloc (w2.heap.size) rfl [.slice a1 xt b1,.slice r2 n s2,.int .i64 m2] 25;replace xG:=xG.ret al;clear al;replace q:=bs.q;rw[xO];have AA:=bs.b3 2;go_wp2_with fail;refine(yi.out w3 q r2 s2 xG).mono ?_;rintro e w4 ⟨⟨YA,⟨ya,yb⟩,YR,⟨yr,ys⟩,ym⟩,rfl,hd,yy,hb⟩;clear AA;have xV:=OwC.mk' bs yy.own;replace xG:=xG.ret hb;replace bs:=bs.ret hb;replace q:=bs.q;clear hb;obtain⟨la,xW⟩:=e_ YA.length;obtain⟨lr,xX⟩:=e_ YR.length;have ey:CoI.v ⟨YA,(ya,yb),YR,(yr,ys),ym⟩=.agg #[.slice ya la yb,.slice yr lr ys,.int .i64 ym]:=(by rw[←xW,←xX]);rw[ey];have yG:=h_ xW;have yH:=h_ xX;have HD:=h_ hd;clear xW xX ey hd yy xG;have xp:=bs.b3 1;have xq:=bs.g3 1;go_wp2_with fail;clear xp xq;obtain⟨w5,xI,y5,bs⟩:=bs.sets 1 0 [.slice ya la yb,.slice yr lr ys,.int .i64 ym] rfl (wh rfl);replace xV:=xV.sets 1 rfl xI;replace q:=bs.q;simp only[wo,Nat.reduceAdd] at xI;rw[xI];refine bodyPost_ret (aJ rfl rfl rfl rfl (bs.box 1 rfl)) rfl ?_;refine⟨⟨YA,(ya,yb),YR,(yr,ys),ym⟩,?_,?_,xV.csub,q⟩
   ·rw[HG.out]
    show _=Ending.returned (.tuple #[.agg #[.slice ya YA.length yb,.slice yr YR.length ys,.int .i64 ym],.string ⟨T2.toArray⟩,.int .i64 0])
    rw[yG.out,yH.out,AO.out]
    first | done | rfl
   ·rw[HG.out]
    exact HD.out
end Go.Proofs.YtjgeiieiinmdnaaGreatDoor
