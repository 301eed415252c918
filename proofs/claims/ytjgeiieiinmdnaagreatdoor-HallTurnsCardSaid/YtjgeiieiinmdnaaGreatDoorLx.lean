/- DdE, DdF, DdG, NumA, NumB, NumC, DdH: put together by mergetpl.py. -/
import Derived.Lib.ItoaLen
import Derived.Test.YtjgeiieiinmdnaaGreatDoorLi
import Derived.Test.YtjgeiieiinmdnaaGreatDoorLq
import Derived.Test.YtjgeiieiinmdnaaGreatDoorLv
open Go.Proofs.Tryz
open Go.Lib renaming toList_data→wt,decDigits→wu
open Go.RowKit.Below renaming drew→wo,size→wB
open Go.Value.slice renaming injEq→wz
open Go.World renaming setCells→wq
open List renaming length_append→ws,getElem?_eq_getElem→wy,append_nil→wA,getElem?_toArray→wD,getElem?_cons_succ→wE,getElem?_cons_zero→wF,length_filter_le→wH,length_take→wI,take_of_length_le→wK,length_cons→wL,length_nil→wM,length_map→wN,getElem_mem→wO
open Nat renaming le_of_ble_eq_true→wh,le_trans→wv,zero_le→ww,le_refl→wC,lt_or_ge→wP
open Option.some renaming injEq→wG
namespace Go.Proofs.YtjgeiieiinmdnaaGreatDoor
set_option maxHeartbeats 8000000
set_option maxRecDepth 100000
open Go.RowKit Go.Lib

def OwR {α:Type} (Y:Ly α) (B:Nat) (v:Value) (M:List α) (w:World):Prop:=OwS (fun g=>B≤g) Y.e Y.n v M.length (Y.fl M) w
section
variable {α:Type} {Y:Ly α} {B:Nat} {v:Value} {M:List α} {w w':World}
theorem OwR.ret (h:OwR Y B v M w) (hb:Bl w w'):OwR Y B v M w':=OwS.ret h hb
theorem OwR.sets (h:OwR Y B v M w) {A o:Nat} {vs:List Value} (hA:A<B) (e':w.setCells A o vs=w'):OwR Y B v M w':=OwS.keep h fun k hk=>by rw[←e'];exact bT _ _ _ _ _ (by omega)
theorem OwR.mono (h:OwR Y B v M w) {B':Nat} (hB:B'≤B):OwR Y B' v M w:=OwS.mono h fun _ _ hg=>wv hB hg
theorem OwR.isL (h:OwR Y B v M w) (hs:∀x∈M,Y.sub x w):IsL Y v M w:=⟨OwS.row h,OwS.form h,hs⟩
end
abbrev CoI.wr (c:CoI) (R:List RsI) (ra:Option Addr×Nat):CoI:=⟨c.A,c.aa,R,ra,c.m⟩
def vh (w:World) (c:CoI) (R:List RsI) (e:Ending) (w':World):Prop:=∃ra,e=.returned (c.wr R ra).v∧OwR rsY w.heap.size (c.wr R ra).rv R w'∧Bl w w'
abbrev woR (R:List RsI) (t:List UInt8):List RsI:=woG RsI.j R t
theorem lG (R:List RsI) (t:List UInt8):(woR R t).length≤R.length:=wH _ _
theorem gm (c:CoI) (s:ByteArray) (w:World) (hs:IsL rsY c.rv c.R w) (hz:c.R.length≤1000):Calls prog 97 #[c.v,.string s] w (vh w c (woR c.R s.data.toList)):=by
 obtain⟨A,⟨a1,b1⟩,R,⟨r1,s1⟩,m1⟩:=c;have hR:IsL rsY (.slice r1 R.length s1) R w:=hs;have hz:R.length≤1000:=hz
 show Calls _ _ #[.agg #[.slice a1 A.length b1,.slice r1 R.length s1,.int .i64 m1],.string s] w (vh w ⟨A,(a1,b1),R,(r1,s1),m1⟩ (woR R s.data.toList))
 obtain⟨xq,xy⟩:=e_ A.length;obtain⟨xu,xx⟩:=e_ R.length;rw[xx] at hR hz;rw[xy,xx];obtain⟨yG,hj,yH,yI,yJ⟩:=info_parts ck;have HR:=h_ hR;have zC:=h_ xy;have HL:=h_ xx;clear hs hR xy xx;obtain⟨W0,hW,y0,bs⟩:=Sx.start2 w [.slice a1 xq b1,.slice r1 xu s1,.int .i64 m1] 25 [.slice none 0 0,.slice none 0 0,.int .i64 0] 25;have HW:=h_ hW;clear hW;have q:=bs.q;go_enter func97,ntmps97;go_wp2_with fail;rw[HW.out];have yn:=h_ bs;go_loopw [5,6] (fun lv i wx=>∃k:Nat,i=.int .i64 k∧k≤xu∧OwS (fun g=>W0.heap.size≤g) rsY.e 6 lv (woR (R.take k) s.data.toList).length (rsY.fl (woR (R.take k) s.data.toList)) wx∧Lt W0 wx) (fun _ i _=>xu-(intOf i).toNat)
 case atStart=>exact⟨0,rfl,ww _,OwS.nil _ _ _ _,bQ _⟩
 case round=>
  clear bs q;obtain⟨k,rfl,hk,xn,xo⟩:=hrel;have bs:=yn.out.ret xo;have q:=bs.q
  by_cases hlt:k<xu
  ·have wl : (k : Int) < (xu : Int) := by omega
   have yx:k<R.length:=(by rw[HL.out];exact hlt);obtain⟨x,hx⟩:=e_ (R[k]);have xZ:R[k]?=some x:=(by rw[wy yx,hx]);obtain⟨b,off,cp,hf,-,hc⟩:=HR.out.cells xZ;rw[HL.out] at hf;simp only[wz,true_and] at hf;obtain⟨rfl,rfl⟩:=hf
   have hst:woR (R.take (k+1)) s.data.toList=woR (R.take k) s.data.toList++if !(x.j==s.data.toList) then [x] else []:=o4 (q:=fun y:RsI=>!(y.j==s.data.toList)) xZ
   have xV:(woR (R.take k) s.data.toList).length≤k:=wv (lG _ _) (by rw[wI];omega);obtain⟨Fj,yd⟩:=e_ (woR (R.take k) s.data.toList);rw[yd] at hst xV xn;obtain⟨P,hP⟩:∃P:RsI,x=P:=⟨_,rfl⟩;have AK:=hP;obtain⟨xj,xE,xF,xl,⟨xG,xH⟩,xw,xs,⟨xI,xJ⟩⟩:=x;obtain⟨ll,xA⟩:=e_ xl.length;obtain⟨sl,xB⟩:=e_ xs.length;obtain⟨jb,yY⟩:=e_ (ByteArray.mk xj.toArray)
   have ye:Hid (rsY.cs P=[.string jb,.bool xE,.int .i64 xF,.slice xG ll xH,.bool xw,.slice xI sl xJ]):=h_ (by rw[←hP,←xA,←xB,←yY];rfl)
   have xK:Hid (∀w',Bl w w'→w'.cell? ⟨b,off+k*6,none⟩=some (.string jb)∧w'.cell? ⟨b,off+k*6+1,none⟩=some (.bool xE)∧w'.cell? ⟨b,off+k*6+2,none⟩=some (.int .i64 xF)∧w'.cell? ⟨b,off+k*6+3,none⟩=some (.slice xG ll xH)∧w'.cell? ⟨b,off+k*6+4,none⟩=some (.bool xw)∧w'.cell? ⟨b,off+k*6+5,none⟩=some (.slice xI sl xJ)):=h_ fun w' hb=>by
    rw[←xA,←xB,←yY];exact⟨hc w' hb 0 _ rfl,hc w' hb 1 _ rfl,hc w' hb 2 _ rfl,hc w' hb 3 _ rfl,hc w' hb 4 _ rfl,hc w' hb 5 _ rfl⟩
   have HJ:Hid (xj=jb.data.toList):=h_ (by rw[←yY])
   rw[hP] at hst
   have zp:woR (R.take (k+1)) s.data.toList=Fj++if !(jb.data.toList==s.data.toList) then [P] else []:=(by rw[hst,←hP,←HJ.out])
   have yf:=h_ zp;clear yx hx xZ hc hst zp yd hP AK xA xB yY;obtain⟨i0,i1,i2,i3,i4,i5⟩:=xK.out wr q
   have f9:(jb.toList != s.toList)=!(jb.toList==s.toList):=rfl
   cases h9:(jb.toList==s.toList) with
   | true=>
    rw[h9] at f9;simp only[Bool.not_true] at f9;have xO:(jb.data.toList==s.data.toList)=true:=(by rw[←wt,←wt];exact h9)
    have HF:Hid (woR (R.take (k+1)) s.data.toList=Fj):=h_ (by rw[yf.out,xO];exact wA _)
    clear xO;have xp:=bs.b3 0;go_wp2_with fail;clear xp;clear i0 i1 i2 i3 i4 i5 f9;go_roundw
    case rel=>exact⟨k+1,by go_num,by omega,by rw[HF.out];exact xn,xo⟩
    case measure=>simp[intOf];omega
   | false=>
    rw[h9] at f9;simp only[Bool.not_false] at f9;have xO:(jb.data.toList==s.data.toList)=false:=(by rw[←wt,←wt];exact h9)
    have HF:Hid (woR (R.take (k+1)) s.data.toList=Fj++[P]):=h_ (by rw[yf.out,xO];rfl)
    clear xO;have xp:=bs.b3 0;go_wp2_with (at_builtin;refine Hid.out ?_);clear xp;clear i0 i1 i2 i3 i4 i5 f9;obtain⟨Bk,Ab,Bm,al,bs⟩:=bs.alloc (wr.heap.size) rfl [.string jb,.bool xE,.int .i64 xF,.slice xG ll xH,.bool xw,.slice xI sl xJ] 38;replace xn:=xn.ret al;replace xo:=xo.ret al;clear al;replace q:=bs.q;rw[Ab];refine h_ ?_;refine am rfl _ _ _ rfl W0.heap.size rsY.e yG _ 6 88 underlying23 hj yH yI yJ rfl (by omega) _ (Fj).length (rsY.fl (Fj)) rfl (OwS.owns xn fun _ h=>h) _ (by rfl) 1 [.string jb,.bool xE,.int .i64 xF,.slice xG ll xH,.bool xw,.slice xI sl xJ] ((bs.box 2 rfl).row rfl) (by intro u hu;rw[←ye.out] at hu;exact rsY.one _ u hu) (by omega) (by omega) (wB xo) ?_;intro v' w' xz xP
    have xL:Lt W0 w':=Lt.grown xo xP fun g hg=>xn.2 g hg
    have xM:OwS (fun g=>W0.heap.size≤g) rsY.e 6 v' ((Fj)++[P]).length (rsY.fl ((Fj)++[P])) w':=by
     have e:=ye.out;rw[ws,dP,gW,e];exact OwS.of xz
    clear xn xo xz xP bs q;go_wp2_with fail;go_roundw
    case rel=>exact⟨k+1,by go_num,by omega,by rw[HF.out];exact xM,xL⟩
    case measure=>simp[intOf];omega
  ·have wl : ¬ (k : Int) < (xu : Int) := by omega
   have e9:R.take k=R:=wK (by rw[HL.out];omega)
   rw[e9] at xn;clear e9;obtain⟨n2,yK⟩:=e_ ((woR R s.data.toList).length);rw[yK] at xn;obtain⟨a2,c2,zD,-⟩:=aw xn.1;subst zD;have xQ:OwR rsY W0.heap.size (.slice a2 n2 c2) (woR R s.data.toList) wr:=(by unfold OwR;rw[yK];exact xn);have Ad:=h_ yK;clear xn yK xo;have xp:=bs.b3 0;have xR:=bs.g3 0;have yg:=bs.b3 1;have yh:=bs.g3 1;go_wp2_with fail;clear xp xR yg yh;obtain⟨Bn,yL,Bo,bs⟩:=bs.sets 0 1 [(.slice a2 n2 c2)] rfl (wh rfl);replace xQ:=xQ.sets (by omega) yL;replace q:=bs.q;obtain⟨Bp,yM,Bq,bs⟩:=bs.sets 1 0 [.slice a1 xq b1,.slice a2 n2 c2,.int .i64 m1] rfl (wh rfl);replace xQ:=xQ.sets (by omega) yM;replace q:=bs.q;simp only[wq] at yL;rw[yL];simp only[wq,Nat.reduceAdd] at yM;rw[yM];refine bodyPost_ret (fJ rfl rfl (bs.box 1 rfl)) rfl ?_;refine⟨(a2,c2),?_,?_,q⟩
   ·show _=Ending.returned (.agg #[.slice a1 A.length b1,.slice a2 (woR R s.data.toList).length c2,.int .i64 m1])
    rw[Ad.out,zC.out]
   ·show OwR rsY _ (.slice a2 (woR R s.data.toList).length c2) _ _
    rw[Ad.out];exact xQ.mono (by omega)

abbrev loR (R:List RsI) (t:List UInt8):List RsI:=loG RsI.j R t
abbrev hiR (R:List RsI) (t:List UInt8):List RsI:=hiG RsI.j R t
abbrev wiR (R:List RsI) (r:RsI):List RsI:=wiG RsI.j R r
theorem i9 (R:List RsI) (t:List UInt8):(loR R t).length≤R.length:=wH _ _
theorem tW (R:List RsI) (t:List UInt8):(hiR R t).length≤R.length:=wH _ _
theorem pF (c:CoI) (r:RsI) (w:World) (hs:IsL rsY c.rv c.R w) (hz:c.R.length≤1000) (hj:∀x∈c.R,x.j.length≤10000) (hr:r.j.length≤10000):Calls prog 99 #[c.v,r.v] w (vh w c (wiR c.R r)):=by
 obtain⟨A,⟨a1,b1⟩,R,⟨r1,s1⟩,m1⟩:=c;have hR:IsL rsY (.slice r1 R.length s1) R w:=hs;have hz:R.length≤1000:=hz;have hj:∀x∈R,x.j.length≤10000:=hj;obtain⟨Q,hQ⟩:∃Q:RsI,r=Q:=⟨_,rfl⟩;have yN:=hQ;obtain⟨rj,yy,yz,rl,⟨yA,yB⟩,xW,rs,⟨yC,sb0⟩⟩:=r;have hr:rj.length≤10000:=hr;obtain⟨yD,xA⟩:=e_ rl.length;obtain⟨yE,xB⟩:=e_ rs.length;obtain⟨rb,xU⟩:=e_ (ByteArray.mk rj.toArray)
 have yO:Hid (Q.j=rb.data.toList):=h_ (by rw[←hQ,←xU])
 have yZ:Hid (rsY.cs Q=[.string rb,.bool yy,.int .i64 yz,.slice yA yD yB,.bool xW,.slice yC yE sb0]):=h_ (by rw[←hQ,←xA,←xB,←xU];rfl)
 have e9:RsI.v Q=.agg #[.string rb,.bool yy,.int .i64 yz,.slice yA yD yB,.bool xW,.slice yC yE sb0]:=by rw[←hQ,←xA,←xB,←xU]
 have Ae:Hid (rb.size≤10000):=h_ (by rw[←xU,iQ];exact hr);rw[yN,e9];clear hQ yN xA xB xU hr e9
 have hw:wiR R Q=loR (woR R rb.data.toList) rb.data.toList++Q :: hiR (woR R rb.data.toList) rb.data.toList:=by
  show wiG RsI.j R Q=_
  rw[pJ,yO.out]
 rw[hw];clear hw;obtain⟨tl,zE⟩:=e_ rb.data.toList
 have CW:=fun (W:World) (h:IsL rsY (.slice r1 R.length s1) R W)=>gm ⟨A,(a1,b1),R,(r1,s1),m1⟩ rb W h hz
 rw[zE] at CW yO ⊢
 show Calls _ _ #[.agg #[.slice a1 A.length b1,.slice r1 R.length s1,.int .i64 m1],.agg #[.string rb,.bool yy,.int .i64 yz,.slice yA yD yB,.bool xW,.slice yC yE sb0]] w (vh w ⟨A,(a1,b1),R,(r1,s1),m1⟩ _)
 obtain⟨xq,xy⟩:=e_ A.length;obtain⟨xu,xx⟩:=e_ R.length;obtain⟨R2,yP⟩:=e_ (woR R tl);obtain⟨n,hn⟩:=e_ R2.length
 have yK:n≤1000:=by rw[←hn,←yP];exact wv (lG _ _) hz
 have yQ:∀x∈R2,x∈R:=fun x hx=>by rw[←yP] at hx;exact(List.mem_filter.1 hx).1
 rw[yP] at CW
 have CW:=fun (W:World) (h:IsL rsY (.slice r1 R.length s1) R W)=>(CW W h).mono (R':=fun e w'=>∃ra:Option Addr×Nat,e=.returned (.agg #[.slice a1 A.length b1,.slice ra.1 n ra.2,.int .i64 m1])∧OwR rsY W.heap.size (.slice ra.1 n ra.2) R2 w'∧Bl W w') fun e w' ⟨ra,he,ho,hb⟩=>by
  have h2:OwR rsY W.heap.size (.slice ra.1 R2.length ra.2) R2 w':=ho
  have h3:e=.returned (.agg #[.slice a1 A.length b1,.slice ra.1 R2.length ra.2,.int .i64 m1]):=he
  rw[hn] at h2 h3;exact⟨ra,h3,h2,hb⟩
 simp only[CoI.v,xy,xx] at CW;rw[xx] at hR hz;rw[xy,xx,yP]
 have AM:Hid (∀W,IsL rsY (.slice r1 xu s1) R W→Calls prog 97 #[.agg #[.slice a1 xq b1,.slice r1 xu s1,.int .i64 m1],.string rb] W (fun e w'=>∃ra:Option Addr×Nat,e=.returned (.agg #[.slice a1 xq b1,.slice ra.1 n ra.2,.int .i64 m1])∧OwR rsY W.heap.size (.slice ra.1 n ra.2) R2 w'∧Bl W w')):=h_ CW
 obtain⟨yG,zF,yH,yI,yJ⟩:=info_parts ck;have HR:=h_ hR;have zC:=h_ xy;have HN:=h_ hn;have Af:=h_ zE;have HJ:=h_ hj;have Ag:=h_ yQ
 have HZ:Hid (∀W,Bl w W→∀x∈R2,rsY.sub x W):=h_ fun W hb x hx=>rsY.subRet _ _ _ (hR.2.2 x (yQ x hx)) hb
 clear hs hR xy xx yP hn zE hj yQ CW hz;obtain⟨W0,hW,y0,bs⟩:=Sx.start3 w [.slice a1 xq b1,.slice r1 xu s1,.int .i64 m1] 25 [.string rb,.bool yy,.int .i64 yz,.slice yA yD yB,.bool xW,.slice yC yE sb0] 38 [.slice none 0 0,.slice none 0 0,.int .i64 0] 25;have HW:=h_ hW;clear hW;have q:=bs.q;go_enter func99,ntmps99;have xp:=bs.b3 0;have xX:=bs.b6 1;go_wp2_with fail;rw[HW.out];clear xp xX;refine(AM.out W0 (HR.out.ret q)).mono ?_;rintro e w1 ⟨⟨r2,s2⟩,rfl,xr,hb⟩;replace bs:=bs.ret hb;replace q:=bs.q;clear hb;have xp:=bs.b3 0;have xR:=bs.g3 0;go_wp2_with fail;clear xp xR;obtain⟨w2,zG,y2,bs⟩:=bs.sets 0 0 [.slice a1 xq b1,.slice r2 n s2,.int .i64 m1] rfl (wh rfl);replace xr:=xr.sets (by omega) zG;replace q:=bs.q;simp only[wq,Nat.reduceAdd] at zG;rw[zG];go_wp2_with fail;obtain⟨W1,Ah⟩:=e_ w2;rw[Ah] at bs q xr ⊢;clear Ah;have yn:=h_ bs;have ze:=h_ xr;go_loopw [5,6] (fun lv i wx=>∃j:Nat,i=.int .i64 j∧j≤n∧OwS (fun g=>W1.heap.size≤g) rsY.e 6 lv (loR (R2.take j) tl).length (rsY.fl (loR (R2.take j) tl)) wx∧Lt W1 wx) (fun _ i _=>n-(intOf i).toNat)
 case atStart=>exact⟨0,rfl,ww _,OwS.nil _ _ _ _,bQ _⟩
 case round=>
  (try clear bs q xr)
  obtain⟨j,rfl,hj,xn,xo⟩:=hrel;have bs:=yn.out.ret xo;have q:=bs.q;have xr:=ze.out.ret xo
  by_cases hlj:j<n
  ·have wj : (j : Int) < (n : Int) := by omega
   have yo:j<R2.length:=(by rw[HN.out];exact hlj);obtain⟨x,hx⟩:=e_ (R2[j]);have yp:R2[j]?=some x:=(by rw[wy yo,hx]);have yR:x∈R2:=(by rw[←hx];exact wO yo);have hm:OwR rsY W0.heap.size (.slice r2 R2.length s2) R2 W1:=(by rw[HN.out];exact ze.out);obtain⟨b2,xt,AN,yq,-,xC⟩:=(OwR.isL hm (HZ.out W1 yn.out.q)).cells yp;rw[HN.out] at yq;simp only[wz,true_and] at yq;obtain⟨rfl,rfl⟩:=yq;have zu:x.j.length≤10000:=HJ.out x (Ag.out x yR);have yi:=o4 (q:=fun y:RsI=>au y.j tl) yp;have xV:(loR (R2.take j) tl).length≤j:=wv (i9 _ _) (by rw[wI];omega)
   have hst:loR (R2.take (j+1)) tl=loR (R2.take j) tl++if au x.j tl then [x] else []:=yi
   clear yi;obtain⟨Fj,yd⟩:=e_ (loR (R2.take j) tl);rw[yd] at hst xV xn;obtain⟨P,hP⟩:∃P:RsI,x=P:=⟨_,rfl⟩;rw[hP] at hst;have zH:=hP;obtain⟨xj,xE,xF,xl,⟨xG,xH⟩,xw,xs,⟨xI,xJ⟩⟩:=x;have zu:xj.length≤10000:=zu;obtain⟨ll,xA⟩:=e_ xl.length;obtain⟨sl,xB⟩:=e_ xs.length;obtain⟨ub,xD⟩:=e_ (ByteArray.mk xj.toArray);have eu:P.j=ub.data.toList:=(by rw[←hP,←xD])
   have CL:=fun (W:World)=>fu ub rb W (by rw[←xD,iQ];exact zu) Ae.out
   rw[Af.out,←eu] at CL;obtain⟨LE,yS⟩:=e_ (au P.j tl);rw[yS] at CL hst;have zJ:=h_ CL;have yf:=h_ hst
   have ye:Hid (rsY.cs P=[.string ub,.bool xE,.int .i64 xF,.slice xG ll xH,.bool xw,.slice xI sl xJ]):=h_ (by rw[←hP,←xA,←xB,←xD];rfl)
   have xK:Hid (∀w',Bl W1 w'→w'.cell? ⟨b2,xt+j*6,none⟩=some (.string ub)∧w'.cell? ⟨b2,xt+j*6+1,none⟩=some (.bool xE)∧w'.cell? ⟨b2,xt+j*6+2,none⟩=some (.int .i64 xF)∧w'.cell? ⟨b2,xt+j*6+3,none⟩=some (.slice xG ll xH)∧w'.cell? ⟨b2,xt+j*6+4,none⟩=some (.bool xw)∧w'.cell? ⟨b2,xt+j*6+5,none⟩=some (.slice xI sl xJ)):=h_ fun w' hb=>by
    rw[←xA,←xB,←xD];exact⟨xC w' hb 0 _ rfl,xC w' hb 1 _ rfl,xC w' hb 2 _ rfl,xC w' hb 3 _ rfl,xC w' hb 4 _ rfl,xC w' hb 5 _ rfl⟩
   clear yo hx yp yR hm xC hst yd hP zH zu xA xB xD eu CL yS;have xp:=bs.b3 0;go_upto_region 6 with fail;clear xp;replace xr:=xr.ret (wo (bQ _));replace xn:=xn.ret (wo (bQ _));replace xo:=xo.ret (wo (bQ _));replace bs:=bs.ret (wo (bQ _));replace q:=bs.q
   have Ai:wr.drew.heap.size=wr.heap.size:=rfl
   refine wp_region_held_drew (S:=fun w'=>w'.cell? ⟨w.heap.size,1,none⟩=some (.slice (some ⟨b2,xt,none⟩) n s2)∧w'.cell? ⟨w.heap.size+1,0,none⟩=some (.string rb)∧w'.cell? ⟨b2,xt+j*6,none⟩=some (.string ub)) (by kernel_rfl) ⟨bs.at 0 1,bs.at 1 0,(xK.out _ xo).1⟩ (fun hH=>?_);generalize wr.drew=w101 at bs xr xn xo q Ai hH ⊢;refine rS [(0,some 19),(1,some 20),(2,some 21),(3,some 22),(4,some 23),(5,some 24),(6,some 25),(7,some 26)] ?_
   iterate 8 refine aS ?_
   refine rE ?_
   refine aC (i:=8) fun K hK=>?_
   go_simp;refine(zJ.out w101).mono ?_;rintro e zq ⟨rfl,hb⟩;replace xr:=xr.ret hb;replace xn:=xn.ret hb;replace xo:=xo.ret hb;replace bs:=bs.ret hb;replace q:=bs.q;clear hb;go_simp;clear hH;refine hK.out _ _ ⟨bs.at 0 1,bs.at 1 0,(xK.out _ xo).1⟩ (fun hH=>?_);clear hK K;refine aD ?_;clear hH
   cases LE with
   | false=>
    go_wp2_with fail;go_roundw
    case rel=>exact⟨j+1,by go_num,by omega,by rw[show loR (R2.take (j+1)) tl=Fj from yf.out.trans (wA _)];exact xn,xo⟩
    case measure=>simp[intOf];omega
   | true=>
    obtain⟨k0,k1,k2,k3,k4,k5⟩:=xK.out zq xo;have xp:=bs.b3 0;go_wp2_with (at_builtin;refine Hid.out ?_);clear xp;clear k0 k1 k2 k3 k4 k5;obtain⟨Ba,zO,Bb,al,bs⟩:=bs.alloc (zq.heap.size) rfl [.string ub,.bool xE,.int .i64 xF,.slice xG ll xH,.bool xw,.slice xI sl xJ] 38;replace xr:=xr.ret al;replace xn:=xn.ret al;replace xo:=xo.ret al;clear al;replace q:=bs.q;rw[zO]
    have yT:(Fj).length≤3000:=by
     have h1:=i9 R2 tl;rw[HN.out] at h1
     (try simp only[ws,wL,wM])
     omega
    refine h_ ?_;refine am rfl _ _ _ rfl W1.heap.size rsY.e yG _ 6 88 underlying23 zF yH yI yJ rfl (by omega) _ (Fj).length (rsY.fl (Fj)) rfl (OwS.owns xn fun _ h=>h) _ (by rfl) 1 [.string ub,.bool xE,.int .i64 xF,.slice xG ll xH,.bool xw,.slice xI sl xJ] ((bs.box 3 rfl).row rfl) (by intro u hu;rw[←ye.out] at hu;exact rsY.one _ u hu) (by omega) (by omega) (wB xo) ?_;intro v' w' xz xP
    have xL:Lt W1 w':=Lt.grown xo xP fun g hg=>xn.2 g hg
    have xM:OwS (fun g=>W1.heap.size≤g) rsY.e 6 v' ((Fj)++[P]).length (rsY.fl ((Fj)++[P])) w':=by
     have e:=ye.out;rw[ws,dP,gW,e];exact OwS.of xz
    clear xn xo xr xz xP bs q yT;go_wp2_with fail;go_roundw
    case rel=>exact⟨j+1,by go_num,by omega,by rw[show loR (R2.take (j+1)) tl=(Fj)++[P] from (by rw[yf.out];simp)];exact xM,xL⟩
    case measure=>simp[intOf];omega
  ·have wj : ¬ (j : Int) < (n : Int) := by omega
   have e9:R2.take j=R2:=wK (by rw[HN.out];omega)
   rw[e9] at xn;clear e9;have xp:=bs.b3 0;have xX:=bs.b6 1;go_wp2_with (at_builtin;refine Hid.out ?_);clear xp xX;obtain⟨Aj,xS,Ak,al,bs⟩:=bs.alloc (wr.heap.size) rfl [.string rb,.bool yy,.int .i64 yz,.slice yA yD yB,.bool xW,.slice yC yE sb0] 38;replace xr:=xr.ret al;replace xn:=xn.ret al;replace xo:=xo.ret al;clear al;replace q:=bs.q;rw[xS]
   have yT:(loR R2 tl).length≤3000:=by
    have h1:=i9 R2 tl;rw[HN.out] at h1
    (try simp only[ws,wL,wM])
    omega
   refine h_ ?_;refine am rfl _ _ _ rfl W1.heap.size rsY.e yG _ 6 88 underlying23 zF yH yI yJ rfl (by omega) _ (loR R2 tl).length (rsY.fl (loR R2 tl)) rfl (OwS.owns xn fun _ h=>h) _ (by rfl) 1 [.string rb,.bool yy,.int .i64 yz,.slice yA yD yB,.bool xW,.slice yC yE sb0] ((bs.box 3 rfl).row rfl) (by intro u hu;rw[←yZ.out] at hu;exact rsY.one _ u hu) (by omega) (by omega) (wB xo) ?_;intro v' w' xz xP
   have xL:Lt W1 w':=Lt.grown xo xP fun g hg=>xn.2 g hg
   have xM:OwS (fun g=>W1.heap.size≤g) rsY.e 6 v' ((loR R2 tl)++[Q]).length (rsY.fl ((loR R2 tl)++[Q])) w':=by
    have e:=yZ.out;rw[ws,dP,gW,e];exact OwS.of xz
   clear xn xo xr xz xP bs q yT;have AO:=h_ xM;have AQ:=h_ xL;clear xM xL;go_wp2_with fail;go_loopw [5,7] (fun lv i wx=>∃j:Nat,i=.int .i64 j∧j≤n∧OwS (fun g=>W1.heap.size≤g) rsY.e 6 lv ((loR R2 tl++[Q])++hiR (R2.take j) tl).length (rsY.fl ((loR R2 tl++[Q])++hiR (R2.take j) tl)) wx∧Lt W1 wx) (fun _ i _=>n-(intOf i).toNat)
   case atStart=>exact⟨0,rfl,ww _,by rw[show (loR R2 tl++[Q])++hiR (R2.take 0) tl=loR R2 tl++[Q] from wA _];exact AO.out,AQ.out⟩
   case round=>
    (try clear bs q xr)
    obtain⟨j,rfl,hj,xn,xo⟩:=hrel;have bs:=yn.out.ret xo;have q:=bs.q;have xr:=ze.out.ret xo
    by_cases hlj:j<n
    ·have wj : (j : Int) < (n : Int) := by omega
     have yo:j<R2.length:=(by rw[HN.out];exact hlj);obtain⟨x,hx⟩:=e_ (R2[j]);have yp:R2[j]?=some x:=(by rw[wy yo,hx]);have yR:x∈R2:=(by rw[←hx];exact wO yo);have hm:OwR rsY W0.heap.size (.slice r2 R2.length s2) R2 W1:=(by rw[HN.out];exact ze.out);obtain⟨b2,xt,AN,yq,-,xC⟩:=(OwR.isL hm (HZ.out W1 yn.out.q)).cells yp;rw[HN.out] at yq;simp only[wz,true_and] at yq;obtain⟨rfl,rfl⟩:=yq;have zu:x.j.length≤10000:=HJ.out x (Ag.out x yR);have yi:=o4 (q:=fun y:RsI=>au tl y.j) yp;have xV:(hiR (R2.take j) tl).length≤j:=wv (tW _ _) (by rw[wI];omega)
     have hst:hiR (R2.take (j+1)) tl=hiR (R2.take j) tl++if au tl x.j then [x] else []:=yi
     clear yi;obtain⟨Fj,yd⟩:=e_ (hiR (R2.take j) tl);rw[yd] at hst xV xn;obtain⟨P,hP⟩:∃P:RsI,x=P:=⟨_,rfl⟩;rw[hP] at hst;have zH:=hP;obtain⟨xj,xE,xF,xl,⟨xG,xH⟩,xw,xs,⟨xI,xJ⟩⟩:=x;have zu:xj.length≤10000:=zu;obtain⟨ll,xA⟩:=e_ xl.length;obtain⟨sl,xB⟩:=e_ xs.length;obtain⟨ub,xD⟩:=e_ (ByteArray.mk xj.toArray);have eu:P.j=ub.data.toList:=(by rw[←hP,←xD])
     have CL:=fun (W:World)=>fu rb ub W Ae.out (by rw[←xD,iQ];exact zu)
     rw[Af.out,←eu] at CL;obtain⟨LE,yS⟩:=e_ (au tl P.j);rw[yS] at CL hst;have zJ:=h_ CL;have yf:=h_ hst
     have ye:Hid (rsY.cs P=[.string ub,.bool xE,.int .i64 xF,.slice xG ll xH,.bool xw,.slice xI sl xJ]):=h_ (by rw[←hP,←xA,←xB,←xD];rfl)
     have xK:Hid (∀w',Bl W1 w'→w'.cell? ⟨b2,xt+j*6,none⟩=some (.string ub)∧w'.cell? ⟨b2,xt+j*6+1,none⟩=some (.bool xE)∧w'.cell? ⟨b2,xt+j*6+2,none⟩=some (.int .i64 xF)∧w'.cell? ⟨b2,xt+j*6+3,none⟩=some (.slice xG ll xH)∧w'.cell? ⟨b2,xt+j*6+4,none⟩=some (.bool xw)∧w'.cell? ⟨b2,xt+j*6+5,none⟩=some (.slice xI sl xJ)):=h_ fun w' hb=>by
      rw[←xA,←xB,←xD];exact⟨xC w' hb 0 _ rfl,xC w' hb 1 _ rfl,xC w' hb 2 _ rfl,xC w' hb 3 _ rfl,xC w' hb 4 _ rfl,xC w' hb 5 _ rfl⟩
     clear yo hx yp yR hm xC hst yd hP zH zu xA xB xD eu CL yS;have xp:=bs.b3 0;go_upto_region 12 with fail;clear xp;replace xr:=xr.ret (wo (bQ _));replace xn:=xn.ret (wo (bQ _));replace xo:=xo.ret (wo (bQ _));replace bs:=bs.ret (wo (bQ _));replace q:=bs.q
     have Al:wr.drew.heap.size=wr.heap.size:=rfl
     refine wp_region_held_drew (S:=fun w'=>w'.cell? ⟨w.heap.size,1,none⟩=some (.slice (some ⟨b2,xt,none⟩) n s2)∧w'.cell? ⟨w.heap.size+1,0,none⟩=some (.string rb)∧w'.cell? ⟨b2,xt+j*6,none⟩=some (.string ub)) (by kernel_rfl) ⟨bs.at 0 1,bs.at 1 0,(xK.out _ xo).1⟩ (fun hH=>?_);generalize wr.drew=w201 at bs xr xn xo q Al hH ⊢;refine rS [(0,some 47),(1,some 48),(2,some 49),(3,some 50),(4,some 51),(5,some 52),(6,some 53),(7,some 54)] ?_
     iterate 8 refine aS ?_
     refine rE ?_
     refine aC (i:=8) fun K hK=>?_
     go_simp;refine(zJ.out w201).mono ?_;rintro e zv ⟨rfl,hb⟩;replace xr:=xr.ret hb;replace xn:=xn.ret hb;replace xo:=xo.ret hb;replace bs:=bs.ret hb;replace q:=bs.q;clear hb;go_simp;clear hH;refine hK.out _ _ ⟨bs.at 0 1,bs.at 1 0,(xK.out _ xo).1⟩ (fun hH=>?_);clear hK K;refine aD ?_;clear hH
     cases LE with
     | false=>
      go_wp2_with fail;go_roundw
      case rel=>exact⟨j+1,by go_num,by omega,by rw[show hiR (R2.take (j+1)) tl=Fj from yf.out.trans (wA _)];exact xn,xo⟩
      case measure=>simp[intOf];omega
     | true=>
      obtain⟨k0,k1,k2,k3,k4,k5⟩:=xK.out zv xo;have xp:=bs.b3 0;go_wp2_with (at_builtin;refine Hid.out ?_);clear xp;clear k0 k1 k2 k3 k4 k5;obtain⟨Bc,zP,Bd,al,bs⟩:=bs.alloc (zv.heap.size) rfl [.string ub,.bool xE,.int .i64 xF,.slice xG ll xH,.bool xw,.slice xI sl xJ] 38;replace xr:=xr.ret al;replace xn:=xn.ret al;replace xo:=xo.ret al;clear al;replace q:=bs.q;rw[zP]
      have yT:((loR R2 tl++[Q])++Fj).length≤3000:=by
       have h1:=i9 R2 tl;rw[HN.out] at h1
       (try simp only[ws,wL,wM])
       omega
      refine h_ ?_;refine am rfl _ _ _ rfl W1.heap.size rsY.e yG _ 6 88 underlying23 zF yH yI yJ rfl (by omega) _ ((loR R2 tl++[Q])++Fj).length (rsY.fl ((loR R2 tl++[Q])++Fj)) rfl (OwS.owns xn fun _ h=>h) _ (by rfl) 1 [.string ub,.bool xE,.int .i64 xF,.slice xG ll xH,.bool xw,.slice xI sl xJ] ((bs.box 3 rfl).row rfl) (by intro u hu;rw[←ye.out] at hu;exact rsY.one _ u hu) (by omega) (by omega) (wB xo) ?_;intro v' w' xz xP
      have xL:Lt W1 w':=Lt.grown xo xP fun g hg=>xn.2 g hg
      have xM:OwS (fun g=>W1.heap.size≤g) rsY.e 6 v' (((loR R2 tl++[Q])++Fj)++[P]).length (rsY.fl (((loR R2 tl++[Q])++Fj)++[P])) w':=by
       have e:=ye.out;rw[ws,dP,gW,e];exact OwS.of xz
      clear xn xo xr xz xP bs q yT;go_wp2_with fail;go_roundw
      case rel=>exact⟨j+1,by go_num,by omega,by rw[show (loR R2 tl++[Q])++hiR (R2.take (j+1)) tl=((loR R2 tl++[Q])++Fj)++[P] from (by rw[yf.out];simp)];exact xM,xL⟩
      case measure=>simp[intOf];omega
    ·have wj : ¬ (j : Int) < (n : Int) := by omega
     have e9:R2.take j=R2:=wK (by rw[HN.out];omega)
     rw[e9] at xn;clear e9;have e8:loR R2 tl++[Q]++hiR R2 tl=loR R2 tl++Q :: hiR R2 tl:=(by simp);rw[e8] at xn;clear e8;obtain⟨WD,zQ⟩:=e_ (loR R2 tl++Q :: hiR R2 tl);rw[zQ] at xn;have Am:=h_ zQ;obtain⟨m,hm⟩:=e_ WD.length;rw[hm] at xn;obtain⟨a2,yF,zD,-⟩:=aw xn.1;subst zD;have yU:OwR rsY W1.heap.size (.slice a2 m yF) WD wr:=(by unfold OwR;rw[hm];exact xn);have HM:=h_ hm;have y9:w.heap.size+3≤W1.heap.size:=(by have h1:=yn.out.lt _ (List.mem_of_getElem? (i:=2) rfl);exact h1);clear xn xr xo zQ hm;have xp:=bs.b3 0;have xR:=bs.g3 0;have yg:=bs.b3 2;have yh:=bs.g3 2;go_wp2_with fail;clear xp xR yg yh;obtain⟨Be,yt,Bf,bs⟩:=bs.sets 0 1 [(.slice a2 m yF)] rfl (wh rfl);replace yU:=yU.sets (by omega) yt;replace q:=bs.q;obtain⟨Bg,yu,Bh,bs⟩:=bs.sets 2 0 [.slice a1 xq b1,.slice a2 m yF,.int .i64 m1] rfl (wh rfl);replace yU:=yU.sets (by omega) yu;replace q:=bs.q;simp only[wq] at yt;rw[yt];simp only[wq,Nat.reduceAdd] at yu;rw[yu];refine bodyPost_ret (fJ rfl rfl (bs.box 2 rfl)) rfl ?_;refine⟨(a2,yF),?_,?_,q⟩
     ·show _=Ending.returned (.agg #[.slice a1 A.length b1,.slice a2 (loR R2 tl++Q :: hiR R2 tl).length yF,.int .i64 m1])
      rw[Am.out,HM.out,zC.out]
     ·show OwR rsY _ (.slice a2 (loR R2 tl++Q :: hiR R2 tl).length yF) (loR R2 tl++Q :: hiR R2 tl) _
      rw[Am.out,HM.out];exact yU.mono (by omega)

def shY {α:Type} (Y:Ly α):Ly α:=⟨Y.n,Y.e,Y.cs,Y.len,Y.one,fun _ _=>True,fun _ _ _=>True,fun _ _ _ _ _=>trivial,fun _ _ _ _=>trivial,fun _ _ _ _ _ _=>trivial,fun _ _ _ _ _ _=>trivial,fun _ _ _ _ _ _=>trivial⟩
theorem TL.skip {α:Type} {Y:Ly α} {w0 w:World} {ad:List Nat} {v:Value} {M Nn:List α} {k:Nat} (h:TL Y w0 ad v M Nn k w) {p:α} (hk:M[k]?=some p) (ho:Y.own (Xo w0 ad v) p w):TL Y w0 ad v M (Nn++[p]) (k+1) w:=by
 have zT:k<M.length:=by
  rcases wP k M.length with h1 | h1
  ·exact h1
  ·rw[List.getElem?_eq_none h1] at hk;cases hk
 have hp:M[k]=p:=by rw[wy zT] at hk;exact Option.some.inj hk
 have e:(Nn++[p])++M.drop (k+1)=Nn++M.drop k:=by rw[←hp,List.append_assoc,List.drop_eq_getElem_cons zT];rfl
 refine⟨by rw[e];exact h.row,by rw[ws,h.len];rfl,zT,fun x hx=>?_⟩
 rcases List.mem_append.1 hx with hx | hx
 ·exact h.own x hx
 ·cases List.mem_singleton.1 hx
  exact ho
abbrev CoI.wa (c:CoI) (A:List AcI) (aa:Option Addr×Nat):CoI:=⟨A,aa,c.R,c.ra,c.m⟩
def vS (w:World) (c:CoI) (A:List AcI) (e:Ending) (w':World):Prop:=∃aa,e=.returned (c.wa A aa).v∧OwR acY w.heap.size (c.wa A aa).av A w'∧Bl w w'
def hoA (a:AcI) (x:AcI):AcI:=if x.j==a.j then a else x
theorem lH {α β:Type} (f:α→β) {l:List α} {k:Nat} {x:α} (hx:l[k]?=some x):(l.take (k+1)).map f=(l.take k).map f++[f x]:=by
 rw[a8 hx,List.map_append]
 rfl
theorem qX (c:CoI) (a:AcI) (w:World) (hs:IsL acY c.av c.A w) (hz:c.A.length≤1000):Calls prog 101 #[c.v,a.v] w (vS w c (c.A.map (hoA a))):=by
 obtain⟨A,⟨a1,b1⟩,R,⟨r1,s1⟩,m1⟩:=c;have hA:IsL acY (.slice a1 A.length b1) A w:=hs;have hz:A.length≤1000:=hz;obtain⟨Q,hQ⟩:∃Q:AcI,a=Q:=⟨_,rfl⟩;have yN:=hQ;obtain⟨aj,AS,⟨pa,pc⟩,pv⟩:=a;obtain⟨pl,zU⟩:=e_ AS.length;obtain⟨rb,xU⟩:=e_ (ByteArray.mk aj.toArray)
 have yO:Hid (Q.j=rb.data.toList):=h_ (by rw[←hQ,←xU])
 have yZ:Hid (acY.cs Q=[.string rb,.slice pa pl pc,.int .i64 pv]):=h_ (by rw[←hQ,←zU,←xU];rfl)
 have e9:AcI.v Q=.agg #[.string rb,.slice pa pl pc,.int .i64 pv]:=by rw[←hQ,←zU,←xU]
 rw[yN,e9];clear hQ yN zU xU e9
 show Calls _ _ #[.agg #[.slice a1 A.length b1,.slice r1 R.length s1,.int .i64 m1],.agg #[.string rb,.slice pa pl pc,.int .i64 pv]] w (vS w ⟨A,(a1,b1),R,(r1,s1),m1⟩ _)
 obtain⟨xq,xy⟩:=e_ A.length;obtain⟨xu,xx⟩:=e_ R.length;rw[xy] at hA hz;rw[xy,xx];obtain⟨AT,hi,AU,AV,AW⟩:=info_parts es;have HA:=h_ hA;have HL:=h_ xy;have AX:=h_ xx
 have zw:cx 3 (.slice a1 xq b1) xq (acY.fl A) w:=by have h:=hA.1;rwa [xy] at h
 have AY:=h_ zw;clear hs hA xy xx zw;obtain⟨W0,hW,y0,bs⟩:=Sx.start3 w [.slice a1 xq b1,.slice r1 xu s1,.int .i64 m1] 25 [.string rb,.slice pa pl pc,.int .i64 pv] 33 [.slice none 0 0,.slice none 0 0,.int .i64 0] 25;have HW:=h_ hW;clear hW;have q:=bs.q;go_enter func101,ntmps101;have xp:=bs.b3 0;have d0:=bs.lit (W0.heap.size) rfl [] 33;have c5:=d0.at 0 0;go_wp2_with (at_builtin;refine Hid.out ?_);rw[HW.out];clear xp;clear d0 c5;refine am rfl _ _ _ rfl W0.heap.size 33 AT _ 3 48 underlying22 hi AU AV AW rfl (by omega) (.slice (some ⟨W0.heap.size,0,none⟩) 0 0) 0 [] (by simp[go_sem,y0]) (bb (size:=3) (e:=33) W0 (wC _)) (.slice a1 xq b1) (by rfl) xq (acY.fl A) (AY.out.ret (q.alloc q.size (.cells #[] 33))) (fun u hu=>by obtain⟨x,-,hx⟩:=List.mem_flatMap.1 hu;exact acY.one x u hx) (by omega) (by omega) (by simp) ?_;intro v' w' xT yV;rw[Nat.zero_add,List.nil_append] at xT;have hb:Bl W0 w':=((bR W0).alloc (wC _) (.cells #[] 33)).grown yV (by simp) (fun k hk=>by cases hk;exact wC _);obtain⟨a2,c2,rfl,-⟩:=aw xT
 have tl : TL (shY acY) w [w.heap.size, w.heap.size + 1, w.heap.size + 2] (.slice a2 xq c2) A [] 0 w' := TL.start ⟨by show w'.ownsRow 0 acY.e acY.n (.slice a2 xq c2) A.length (acY.fl A); rw [HL.out]; exact xT.mono (ww _), fun g hg => by
  have h1:=(xT.lt g hg).1;rw[y0] at h1;exact⟨by omega,by simp;omega⟩⟩
 clear xT yV;replace bs:=bs.ret hb;replace q:=bs.q;clear hb;go_wp2_with fail;go_loopw [6] (fun i wx=>∃k:Nat,i=.int .i64 k∧k≤xq∧TL (shY acY) w [w.heap.size,w.heap.size+1,w.heap.size+2] (.slice a2 xq c2) A ((A.take k).map (hoA Q)) k wx∧Sx w [(w.heap.size,[.slice a1 xq b1,.slice r1 xu s1,.int .i64 m1]),(w.heap.size+1,[.string rb,.slice pa pl pc,.int .i64 pv]),(w.heap.size+2,[.slice none 0 0,.slice none 0 0,.int .i64 0])] wx) (fun i _=>xq-(intOf i).toNat)
 case atStart=>exact⟨0,rfl,ww _,tl,bs⟩
 case round=>
  clear tl bs q;obtain⟨k,rfl,hk,tl,bs⟩:=hrel;have q:=bs.q
  by_cases hlt:k<xq
  ·have wl : (k : Int) < (xq : Int) := by omega
   have yx:k<A.length:=(by rw[HL.out];exact hlt);obtain⟨x,hx⟩:=e_ (A[k]);have xZ:A[k]?=some x:=(by rw[wy yx,hx]);obtain⟨g,c9,hv,AZ,An,Br,-⟩:=tl.form yx;rw[HL.out] at hv;simp only[wz,true_and] at hv;obtain⟨rfl,rfl⟩:=hv;obtain⟨xj,yj,⟨xa,xc⟩,xv⟩:=x;obtain⟨xl,Ao⟩:=e_ yj.length;obtain⟨ub,xD⟩:=e_ (ByteArray.mk xj.toArray);have Ap:acY.cs ⟨xj,yj,(xa,xc),xv⟩=[.string ub,.slice xa xl xc,.int .i64 xv]:=(by rw[←Ao,←xD];rfl);have hV:Value.slice (some ⟨g,0,none⟩) xq c2=.slice (some ⟨g,0,none⟩) A.length c2:=(by rw[HL.out])
   have xK:Hid (∀w',TL (shY acY) w [w.heap.size,w.heap.size+1,w.heap.size+2] (.slice (some ⟨g,0,none⟩) xq c2) A ((A.take k).map (hoA Q)) k w'→(w'.cell? ⟨g,k*3,none⟩=some (.string ub)∧w'.frozen? ⟨g,k*3,none⟩=false)∧(w'.cell? ⟨g,k*3+1,none⟩=some (.slice xa xl xc)∧w'.frozen? ⟨g,k*3+1,none⟩=false)∧(w'.cell? ⟨g,k*3+2,none⟩=some (.int .i64 xv)∧w'.frozen? ⟨g,k*3+2,none⟩=false)):=h_ fun w' h=>by
    have h0:=fun (j:Nat) (u:Value) (hj:(acY.cs ⟨xj,yj,(xa,xc),xv⟩)[j]?=some u)=>TL.cell (Y:=shY acY) h hV xZ j hj
    rw[Ap] at h0;exact⟨h0 0 _ rfl,h0 1 _ rfl,h0 2 _ rfl⟩
   have Aq:=h_ (lH (hoA Q) xZ);have HV:=h_ hV;have HK:=h_ xZ
   have Ar:Hid (xj=ub.data.toList):=h_ (by rw[←xD])
   have HG:=h_ An;have xY:=tl;clear yx hx xZ Ap hV Ao xD tl An;obtain⟨⟨i0,f0⟩,⟨i1,f1⟩,i2,f2⟩:=xK.out wr xY;have xX:=bs.b3 1;go_upto_region 5 with fail;clear xX;clear i0 i1 i2 f0 f1 f2;replace xY:=xY.ret (wo (bQ _));replace bs:=bs.ret (wo (bQ _));replace q:=bs.q
   have zV:wr.drew.heap.size=wr.heap.size:=rfl
   refine wp_region_held_drew (S:=fun w'=>w'.cell? ⟨w.heap.size+1,0,none⟩=some (.string rb)∧w'.cell? ⟨g,k*3,none⟩=some (.string ub)) (by kernel_rfl) ⟨bs.at 1 0,(xK.out _ xY).1.1⟩ (fun hH=>?_);generalize wr.drew=w31 at bs xY q zV hH ⊢;refine rS [(0,some 17),(1,some 18),(2,some 19),(3,some 20),(4,some 21),(5,some 22),(6,some 23),(7,some 24)] ?_
   iterate 8 refine aS ?_
   refine rE ?_;refine aD ?_;clear hH
   cases h9:(ub.toList==rb.toList) with
   | false=>
    have xO:(ub.data.toList==rb.data.toList)=false:=(by rw[←wt,←wt];exact h9)
    have hh:hoA Q ⟨xj,yj,(xa,xc),xv⟩=⟨xj,yj,(xa,xc),xv⟩:=by
     unfold hoA;rw[yO.out,show (AcI.mk xj yj (xa,xc) xv).j=ub.data.toList from Ar.out,xO]
     rfl
    have hf:=Aq.out;rw[hh] at hf;have HF:=h_ hf;clear xO hh hf;go_wp2_with fail;go_roundw
    case rel=>exact⟨k+1,by go_num,by omega,by rw[HF.out];exact TL.skip xY HK.out trivial,bs⟩
    case measure=>simp[intOf];omega
   | true=>
    have xO:(ub.data.toList==rb.data.toList)=true:=(by rw[←wt,←wt];exact h9)
    have hh:hoA Q ⟨xj,yj,(xa,xc),xv⟩=Q:=by
     unfold hoA;rw[yO.out,show (AcI.mk xj yj (xa,xc) xv).j=ub.data.toList from Ar.out,xO]
     rfl
    have hf:=Aq.out;rw[hh] at hf;have HF:=h_ hf;clear xO hh hf;obtain⟨⟨i0,f0⟩,⟨i1,f1⟩,i2,f2⟩:=xK.out w31 xY;have CT:=h_ xY;have BB:=h_ bs;have xX:=bs.b3 1;clear xY bs q;go_wp2_with fail;go_roundw
    case rel=>exact⟨k+1,by go_num,by omega,by rw[HF.out];exact TL.step (Y:=shY acY) (j:=0) (o:=k*3) (vs:=[.string rb,.slice pa pl pc,.int .i64 pv]) CT.out HV.out HK.out (wh rfl) (by show _=acY.cs Q;rw[yZ.out];rfl) trivial (by show k*3=k*3+0;omega) rfl,BB.out.far (o:=k*3) (vs:=[.string rb,.slice pa pl pc,.int .i64 pv]) AZ HG.out rfl⟩
    case measure=>simp[intOf];omega
  ·have wl : ¬ (k : Int) < (xq : Int) := by omega
   have A3:xq=k:=(by omega);subst A3;rw[←HL.out,List.take_length] at tl
   have xQ:OwR acY (w.heap.size+3) (.slice a2 xq c2) (A.map (hoA Q)) wr:=by
    have h1:=tl.done.1;rw[HL.out] at h1
    exact OwS.mono h1 fun g _ hg=>by
     have h2:=hg.1;have h3:=hg.2
     simp at h3
     omega
   clear tl wl;have xp:=bs.b3 0;have xR:=bs.g3 0;have yg:=bs.b3 2;have yh:=bs.g3 2;go_wp2_with fail;clear xp xR yg yh;obtain⟨Aj,xS,Ak,bs⟩:=bs.sets 0 0 [(.slice a2 xq c2)] rfl (wh rfl);replace xQ:=xQ.sets (by omega) xS;replace q:=bs.q;obtain⟨Bi,yv,Bj,bs⟩:=bs.sets 2 0 [.slice a2 xq c2,.slice r1 xu s1,.int .i64 m1] rfl (wh rfl);replace xQ:=xQ.sets (by omega) yv;replace q:=bs.q;simp only[wq] at xS;rw[xS];simp only[wq,Nat.reduceAdd] at yv;rw[yv];refine bodyPost_ret (fJ rfl rfl (bs.box 2 rfl)) rfl ?_;refine⟨(a2,c2),?_,?_,q⟩
   ·show _=Ending.returned (.agg #[.slice a2 (A.map (hoA Q)).length c2,.slice r1 R.length s1,.int .i64 m1])
    rw[wN,HL.out,AX.out]
   ·show OwR acY _ (.slice a2 (A.map (hoA Q)).length c2) _ _
    rw[wN,HL.out];exact xQ.mono (by omega)
open Go.RowKit


theorem l6 {P:Program} (w:World) (zW dst e:TypeId) (c:UInt8) (v:Int) (hv:v=(c.toNat:Int)) (hs:P.underlying zW=some (.slice e)) (he:P.underlying e=some (.int .u8)) (hd:P.underlying dst=some .string):
  (convert zW dst (.slice (some ⟨w.heap.size,0,none⟩) 1 1)).run P (w.alloc (.cells #[.int .u8 v] e))=.ok (.string ⟨#[c]⟩) (w.alloc (.cells #[.int .u8 v] e)):=
 run_convert_bytes_back (P:=P) (w.alloc (.cells #[.int .u8 v] e)) zW dst e ⟨w.heap.size,0,none⟩ 1 [c] hs he hd (fun j hj=>by
  obtain rfl:j=0:=by simp at hj;omega
  subst hv
  simp[Addr.add])
theorem mz {i:Nat} (h:i<10):(48+(i:Int))=((UInt8.ofNat (48+i)).toNat:Int):=by
 rw[eH h]
 omega

theorem eY (n:Nat) (hn:n≤9223372036854775807) (w:World):Calls prog 158 #[.int .i64 n] w (Ret w (.string ⟨(wu n).toArray⟩)):=by
 go_enter func158,ntmps158;go_wp2_with fail;go_loopw [0,3] (fun i s wr=>∃(m:Nat) (t:ByteArray),m≤n∧i=.int .i64 m∧s=.string t∧wu n=wu m++t.data.toList∧Bl w wr) (fun i _ _=>(intOf i).toNat)
 case atStart=>exact⟨n,⟨#[]⟩,wC _,rfl,rfl,by simp,by go_grown⟩
 case round=>
  obtain⟨m,t,hm,rfl,rfl,hd,A4⟩:=hrel
  have xV:t.size≤20:=by
   have h1:=congrArg List.length hd;rw[ws,ab,Lib.decDigits_length] at h1;have:=Lib.nDigits_le20 n (by omega)
   omega
  have HD:=h_ hd;clear hd;have Bt:=A4.size
  by_cases h9:9<m
  ·obtain⟨c,ec⟩:=e_ (UInt8.ofNat (48+m % 10))
   have hc:48+(m:Int) % 10=(c.toNat:Int):=(by rw[←ec];have:=mz (i:=m % 10) (by omega);omega);have A5:=l6 (P:=prog) wr 194 9 5 c (48+(m:Int) % 10) hc underlying194 underlying5 underlying9;have EC:=h_ ec;clear ec hc;go_wp2;go_roundw
   case rel=>exact⟨m / 10,⟨#[c]⟩++t,by omega,by go_num,rfl,by rw[HD.out,bF (by omega),EC.out];simp,by go_grown⟩
   case measure=>simp[intOf];omega
  ·obtain⟨c,ec⟩:=e_ (UInt8.ofNat (48+m))
   have hc:48+(m:Int)=(c.toNat:Int):=(by rw[←ec];exact mz (by omega));have A5:=l6 (P:=prog) wr 194 9 5 c (48+(m:Int)) hc underlying194 underlying5 underlying9;have EC:=h_ ec;clear ec hc;go_wp2;go_ret;refine⟨?_,by go_grown⟩;have h1:=HD.out
   have h2:wu m=[UInt8.ofNat (48+m)]:=Lib.decDigits_one (by omega)
   rw[h2,EC.out] at h1;rw[h1]
   rfl


theorem ft {R:List RsI} {t:List UInt8}:(fdR R t).isSome=(fiG reN (R.map RsI.d) t).isSome:=by
 rw[fN RsI.d reN t R]
 rfl
theorem qu (c:CoI) (T:ByteArray) (n:Nat) (w:World) (hs:IsL rsY c.rv c.R w) (hz:c.R.length≤1000) (hT:T.size≤10000) (hn:n≤9007199254740992):Calls prog 157 #[c.v,.string T,.int .i64 n] w (Ret w (.int .i64 (bo (c.R.map RsI.d) T.data.toList (c.R.length+1) n))):=by
 obtain⟨A,⟨a1,b1⟩,R,⟨r1,s1⟩,m1⟩:=c;have hR:IsL rsY (.slice r1 R.length s1) R w:=hs;have hz:R.length≤1000:=hz;obtain⟨O,hO⟩:=e_ (bo (R.map RsI.d) T.data.toList (R.length+1) n)
 show Calls _ _ #[.agg #[.slice a1 A.length b1,.slice r1 R.length s1,.int .i64 m1],.string T,.int .i64 n] w (Ret w (.int .i64 (bo (R.map RsI.d) T.data.toList (R.length+1) n)))
 rw[hO]
 have CW:=fun (W:World) (h:IsL rsY (.slice r1 R.length s1) R W) (t:ByteArray)=>js ⟨A,(a1,b1),R,(r1,s1),m1⟩ t W h (by show R.length≤100000;omega)
 obtain⟨xq,xy⟩:=e_ A.length;obtain⟨xu,xx⟩:=e_ R.length;simp only[CoI.v,xy,xx] at CW;rw[xx] at hR hz hO;rw[xy,xx];have HR:=h_ hR;have HL:=h_ xx;have HO:=h_ hO;have A6:=h_ CW
 have g1:¬ 9223372036854775807<T.size+2:=by omega
 clear hs hR xy xx hO CW;obtain⟨W0,hW,y0,bs⟩:=Sx.start1 w [.slice a1 xq b1,.slice r1 xu s1,.int .i64 m1] 25;have HW:=h_ hW;clear hW;have q:=bs.q;go_enter func157,ntmps157;go_wp2_with fail;rw[HW.out];go_loopw [2,7] (fun nv i wx=>∃k:Nat,i=.int .i64 k∧nv=.int .i64 ((n+k:Nat):Int)∧(∀i<k,(fiG reN (R.map RsI.d) (nmR T.data.toList (n+i))).isSome=true)∧Sx w [(w.heap.size,[.slice a1 xq b1,.slice r1 xu s1,.int .i64 m1])] wx) (fun _ i _=>xu+1-(intOf i).toNat)
 case atStart=>exact⟨0,rfl,rfl,(fun i hi=>by omega),bs⟩
 case round=>
  clear bs q;obtain⟨k,rfl,rfl,yW,bs⟩:=hrel;have q:=bs.q;have A7:=eo yW;rw[wN,HL.out] at A7
  have wl:¬ (xu:Int)<(k:Int):=by omega
  have As:n+k≤9223372036854775807:=by omega
  obtain⟨D,hD⟩:∃D:ByteArray,ByteArray.mk (wu (n+k)).toArray=D:=⟨_,rfl⟩
  have CD:=fun (W:World)=>eY (n+k) As W
  rw[hD] at CD
  have A8:D.size≤100:=by rw[←hD,←ab];have:=bU As;show (wu (n+k)).length≤100;omega
  have g2:¬ 9223372036854775807<T.size+2+D.size:=by omega
  have CF:=fun (W:World) (h:IsL rsY (.slice r1 xu s1) R W)=>A6.out W h (T++⟨#[47,114]⟩++D)
  have et:(T++⟨#[47,114]⟩++D).data.toList=nmR T.data.toList (n+k):=by
   rw[←hD,←ek]
  have Au:IntKind.i64.wrap (((n+k:Nat):Int)+1)=((n+(k+1):Nat):Int):=by rw[IntWalk.i64_in _ (by omega)];omega
  have Av:(fdR R (T++⟨#[47,114]⟩++D).data.toList).isSome=(fiG reN (R.map RsI.d) (nmR T.data.toList (n+k))).isSome:=by rw[et,ft]
  obtain⟨IS,zZ⟩:=e_ ((fiG reN (R.map RsI.d) (nmR T.data.toList (n+k))).isSome);obtain⟨f0,Aw⟩:=e_ ((fdR R (T++⟨#[47,114]⟩++D).data.toList).getD uk);simp only[Av,zZ,Aw] at CF;obtain⟨fj,zh,zi,fl,⟨fa,fc⟩,yw,fs,⟨ga,gc⟩⟩:=f0;obtain⟨zk,Ax⟩:=e_ fl.length;obtain⟨zm,Ay⟩:=e_ fs.length;obtain⟨fb,Az⟩:=e_ (ByteArray.mk fj.toArray)
  have AA:∀W,IsL rsY (.slice r1 xu s1) R W→Calls prog 14 #[.agg #[.slice a1 xq b1,.slice r1 xu s1,.int .i64 m1],.string (T++⟨#[47,114]⟩++D)] W (Ret W (.tuple #[.agg #[.string fb,.bool zh,.int .i64 zi,.slice fa zk fc,.bool yw,.slice ga zm gc],.bool IS])):=fun W h=>by
   rw[←Ax,←Ay,←Az];exact CF W h
  have z8:=h_ AA;have z9:=h_ CD;have zz:=h_ yW;have AB:=h_ zZ;obtain⟨NK,Aa⟩:∃NK:Int,((n+k:Nat):Int)=NK:=⟨_,rfl⟩;rw[Aa] at z9 Au ⊢;have A9:=h_ Aa;clear yW CD hD A8 CF AA et Av zZ Aw Ax Ay Az Aa;have xp:=bs.b3 0;go_upto_region 4 with fail;clear xp;go_cut [9] (fun s9 wx=>s9=.bool IS∧Sx w [(w.heap.size,[.slice a1 xq b1,.slice r1 xu s1,.int .i64 m1])] wx)
  case first=>
   replace bs:=bs.ret (wo (bQ _));replace q:=bs.q
   have zV:wr.drew.heap.size=wr.heap.size:=rfl
   refine wp_region_held_drew (S:=fun w'=>w'.cell? ⟨w.heap.size,0,none⟩=some (.slice a1 xq b1)∧w'.cell? ⟨w.heap.size,1,none⟩=some (.slice r1 xu s1)∧w'.cell? ⟨w.heap.size,2,none⟩=some (.int .i64 m1)) (by kernel_rfl) ⟨bs.at 0 0,bs.at 0 1,bs.at 0 2⟩ (fun hH=>?_);generalize wr.drew=w31 at bs q zV hH ⊢;refine rS [(0,some 18),(1,some 19),(2,some 20),(3,some 21)] ?_
   iterate 4 refine aS ?_
   refine rE ?_;refine wpAnyH_ready (rs:=[4,10]) (by kernel_rfl) (by simp) ?_;refine az (by kernel_rfl) (fun o ho K hK=>?_) ?_
   ·simp only[wD,wE,wF,wG] at ho
    subst ho;go_simp;refine(z9.out w31).mono ?_;rintro e zo ⟨rfl,hb⟩;replace bs:=bs.ret hb;replace q:=bs.q;clear hb;go_simp;clear hH;refine hK.out _ _ ⟨bs.at 0 0,bs.at 0 1,bs.at 0 2⟩ (fun hH=>?_);clear hK K;refine rS [(5,some 23)] ?_;refine aS ?_;refine rE ?_;refine wpAnyH_ready (rs:=[6,10]) (by kernel_rfl) (by simp) ?_;refine az (by kernel_rfl) (fun o ho K hK=>?_) ?_
    ·simp only[wD,wE,wF,wG] at ho
     subst ho;go_simp;refine(z8.out zo (HR.out.ret q)).mono ?_;rintro e yX ⟨rfl,hb⟩;replace bs:=bs.ret hb;replace q:=bs.q;clear hb;go_simp;clear hH;refine hK.out _ _ ⟨bs.at 0 0,bs.at 0 1,bs.at 0 2⟩ (fun hH=>?_);clear hK K;refine rS [(7,some 17),(8,some 25),(9,some 26)] ?_
     iterate 3 refine aS ?_
     refine rE ?_
     refine aC (i:=10) fun K hK=>?_
     go_simp;obtain⟨AC,AE,Bu,al,bs⟩:=bs.alloc (yX.heap.size) rfl [.string ⟨#[]⟩,.bool false,.int .i64 0,.slice none 0 0,.bool false,.slice none 0 0] 38;clear al;replace q:=bs.q;rw[AE];clear hH;refine hK.out _ _ ⟨bs.at 0 0,bs.at 0 1,bs.at 0 2⟩ (fun hH=>?_);clear hK K
     refine aC (i:=11) fun K hK=>?_
     have yk:=bs.b6 1;have yl:=bs.g6 1;go_simp;clear yk yl;obtain⟨AF,xN,AG,bs⟩:=bs.sets 1 0 [.string fb,.bool zh,.int .i64 zi,.slice fa zk fc,.bool yw,.slice ga zm gc] rfl (wh rfl);replace q:=bs.q;simp only[wq,Nat.reduceAdd] at xN;rw[xN];clear hH;refine hK.out _ _ ⟨bs.at 0 0,bs.at 0 1,bs.at 0 2⟩ (fun hH=>?_);clear hK K;refine rS [(12,some 9)] ?_;refine aS ?_;refine rE ?_;refine aD ?_;clear hH;go_wp2_with fail;go_meet;exact⟨rfl,bs.some 1⟩
    refine az (by kernel_rfl) (fun o ho K hK=>?_) ?_
    ·simp only[wD,wE,wF,wG] at ho
     subst ho;go_simp;obtain⟨yX,AH,Bv,al,bs⟩:=bs.alloc (zo.heap.size) rfl [.string ⟨#[]⟩,.bool false,.int .i64 0,.slice none 0 0,.bool false,.slice none 0 0] 38;clear al;replace q:=bs.q;rw[AH];clear hH;refine hK.out _ _ ⟨bs.at 0 0,bs.at 0 1,bs.at 0 2⟩ (fun hH=>?_);clear hK K
     refine aC (i:=6) fun K hK=>?_
     go_simp;refine(z8.out yX (HR.out.ret q)).mono ?_;rintro e AC ⟨rfl,hb⟩;replace bs:=bs.ret hb;replace q:=bs.q;clear hb;go_simp;clear hH;refine hK.out _ _ ⟨bs.at 0 0,bs.at 0 1,bs.at 0 2⟩ (fun hH=>?_);clear hK K;refine rS [(7,some 17),(8,some 25),(9,some 26)] ?_
     iterate 3 refine aS ?_
     refine rE ?_
     refine aC (i:=11) fun K hK=>?_
     have yk:=bs.b6 1;have yl:=bs.g6 1;go_simp;clear yk yl;obtain⟨AF,xN,AG,bs⟩:=bs.sets 1 0 [.string fb,.bool zh,.int .i64 zi,.slice fa zk fc,.bool yw,.slice ga zm gc] rfl (wh rfl);replace q:=bs.q;simp only[wq,Nat.reduceAdd] at xN;rw[xN];clear hH;refine hK.out _ _ ⟨bs.at 0 0,bs.at 0 1,bs.at 0 2⟩ (fun hH=>?_);clear hK K;refine rS [(12,some 9)] ?_;refine aS ?_;refine rE ?_;refine aD ?_;clear hH;go_wp2_with fail;go_meet;exact⟨rfl,bs.some 1⟩
    exact AllReadyH.nil
   refine az (by kernel_rfl) (fun o ho K hK=>?_) ?_
   ·simp only[wD,wE,wF,wG] at ho
    subst ho;go_simp;obtain⟨zo,AI,Bw,al,bs⟩:=bs.alloc (wr.heap.size) (by omega) [.string ⟨#[]⟩,.bool false,.int .i64 0,.slice none 0 0,.bool false,.slice none 0 0] 38;clear al;replace q:=bs.q;rw[AI];clear hH;refine hK.out _ _ ⟨bs.at 0 0,bs.at 0 1,bs.at 0 2⟩ (fun hH=>?_);clear hK K
    refine aC (i:=4) fun K hK=>?_
    go_simp;refine(z9.out zo).mono ?_;rintro e yX ⟨rfl,hb⟩;replace bs:=bs.ret hb;replace q:=bs.q;clear hb;go_simp;clear hH;refine hK.out _ _ ⟨bs.at 0 0,bs.at 0 1,bs.at 0 2⟩ (fun hH=>?_);clear hK K;refine rS [(5,some 23)] ?_;refine aS ?_;refine rE ?_
    refine aC (i:=6) fun K hK=>?_
    go_simp;refine(z8.out yX (HR.out.ret q)).mono ?_;rintro e AC ⟨rfl,hb⟩;replace bs:=bs.ret hb;replace q:=bs.q;clear hb;go_simp;clear hH;refine hK.out _ _ ⟨bs.at 0 0,bs.at 0 1,bs.at 0 2⟩ (fun hH=>?_);clear hK K;refine rS [(7,some 17),(8,some 25),(9,some 26)] ?_
    iterate 3 refine aS ?_
    refine rE ?_
    refine aC (i:=11) fun K hK=>?_
    have yk:=bs.b6 1;have yl:=bs.g6 1;go_simp;clear yk yl;obtain⟨AF,xN,AG,bs⟩:=bs.sets 1 0 [.string fb,.bool zh,.int .i64 zi,.slice fa zk fc,.bool yw,.slice ga zm gc] rfl (wh rfl);replace q:=bs.q;simp only[wq,Nat.reduceAdd] at xN;rw[xN];clear hH;refine hK.out _ _ ⟨bs.at 0 0,bs.at 0 1,bs.at 0 2⟩ (fun hH=>?_);clear hK K;refine rS [(12,some 9)] ?_;refine aS ?_;refine rE ?_;refine aD ?_;clear hH;go_wp2_with fail;go_meet;exact⟨rfl,bs.some 1⟩
   exact AllReadyH.nil
  case rest=>
   obtain⟨rfl,AJ⟩:=hcut;clear bs q;have bs:=AJ;clear AJ;have q:=bs.q
   cases IS with
   | true=>
    go_wp2_with fail;go_roundw
    case rel => exact ⟨k + 1, by go_num, by first | rfl | rw [Au], fun i hi => (by
     rcases wP i k with h1 | h1
     ·exact zz.out i h1
     ·rw[show i=k by omega];exact AB.out),bs⟩
    case measure=>simp[intOf];omega
   | false=>
    have zB:=jg xu n k (by omega) zz.out AB.out;rw[HO.out] at zB;subst zB;go_wp2_with fail;go_ret;exact⟨by rw[←A9.out];rfl,q⟩
end Go.Proofs.YtjgeiieiinmdnaaGreatDoor
