/- DdQ, DdS, DdT: put together by mergetpl.py. -/
import Derived.Test.YtjgeiieiinmdnaaGreatDoorLo
import Derived.Test.YtjgeiieiinmdnaaGreatDoorLr
open Go.Proofs.Tryz
open Go.Value renaming ownBlock→wv
open Go.Value.slice renaming injEq→wh
open List renaming getElem?_eq_getElem→wq,getElem?_eq_some_iff→ws,getElem_mem→wu,getElem?_set_ne→ww
open Nat renaming zero_le→wo,lt_of_lt_of_le→wy
open Option.some renaming injEq→wt
namespace Go.Proofs.YtjgeiieiinmdnaaGreatDoor
set_option maxHeartbeats 4000000
set_option maxRecDepth 100000
open Go.RowKit Go.Lib

def OwA (S:Nat→Prop) (e:TypeId) (size:Nat) (v:Value) (n:Nat) (w:World):Prop:=∃xs,OwS S e size v n xs w
theorem jW (w:World) (g o:Nat) (x:Value):w.grownBy (w.setCell ⟨g,o,none⟩ x) (some g):=⟨rfl,rfl,rfl,by simp,fun k _ hk=>heap_setCell_other w ⟨g,o,none⟩ k x (fun e=>hk (by simp[e]))⟩
section
variable {S:Nat→Prop} {e:TypeId} {size n:Nat} {v:Value} {xs:List Value} {w w':World}
theorem OwA.set (h:OwA S e size v n w) (g o:Nat) (x:Value):OwA S e size v n (w.setCell ⟨g,o,none⟩ x):=by
 obtain⟨xs,h1,h2⟩:=h
 by_cases hg:v.ownBlock=some g
 ·rcases h1.2 with ⟨h6,_⟩ | ⟨g',xW,xX,h6,_⟩
  ·rw[h6] at hg;cases hg
  ·rw[h6] at hg h1 h2 ⊢
   simp only[wv,wt] at hg;subst hg;exact⟨_,(h1.stored o x).1,h2⟩
 ·exact⟨xs,h1.kept (jW w g o x) (.inr hg),h2⟩
theorem OwS.beside (h:OwS S e size v n xs w) {u:Value} {B' m xG:Nat} {e':TypeId} {ys:List Value} (h1:w.ownsRow B' e' xG u m ys) (he:e≠e') {g:Nat} (hu:u.ownBlock=some g) (o:Nat) (x:Value):OwS S e size v n xs (w.setCell ⟨g,o,none⟩ x):=
 ⟨h.1.kept (row:=u.ownBlock) (by rw[hu];exact jW w g o x) (bI h.1 h1 he),h.2⟩
theorem OwA.ret (h:OwA S e size v n w) (hb:Bl w w'):OwA S e size v n w':=by
 obtain⟨xs,h1⟩:=h;exact⟨xs,h1.ret hb⟩
theorem OwS.blk (h:OwS S e size v n xs w) (h0:0<n):∃g cap,v=.slice (some ⟨g,0,none⟩) n cap∧S g∧g<w.heap.size:=by
 rcases h.1.2 with ⟨_,h2⟩ | ⟨g,cap,xX,e1,_,_⟩
 ·omega
 ·exact⟨g,cap,e1,h.2 g (by rw[e1];rfl),(h.1.lt g (by rw[e1];rfl)).2⟩
theorem OwA.cell {g cap:Nat} (h:OwA S e size (.slice (some ⟨g,0,none⟩) n cap) n w) {o:Nat} (ho:o<n*size):(∃x,w.cell? ⟨g,o,none⟩=some x)∧w.frozen? ⟨g,o,none⟩=false:=by
 obtain⟨xs,h1,-⟩:=h
 have hl:xs.length=n*size:=h1.1
 refine⟨⟨xs[o]'(by omega),?_⟩,h1.frozenAt _⟩;rw[h1.cellAt o (by omega)];exact wq (by omega)
theorem OwS.cellX {g cap:Nat} (h:OwS S e size (.slice (some ⟨g,0,none⟩) n cap) n xs w) {o:Nat} {x:Value} (hx:xs[o]?=some x):w.cell? ⟨g,o,none⟩=some x∧w.frozen? ⟨g,o,none⟩=false:=by
 have hl:xs.length=n*size:=h.1.1
 have ho:o<xs.length:=by
  rcases Nat.lt_or_ge o xs.length with h1 | h1
  ·exact h1
  ·rw[List.getElem?_eq_none h1] at hx;cases hx
 exact⟨by rw[h.1.cellAt o (by omega)];exact hx,h.1.frozenAt _⟩
end
structure Spl (S:Nat→Prop) (c:CoI) (w:World):Prop where
 av:OwS S acY.e 3 c.av c.A.length (acY.fl c.A) w
 it:∀a∈c.A,OwA S 99 8 a.iv a.it.length w
 rv:∃xs,OwS S rsY.e 6 c.rv c.R.length xs w∧∀j r,c.R[j]?=some r→xs[j*6+3]?=some r.lv∧xs[j*6+5]?=some r.sv
 st:∀r∈c.R,OwA S 9 1 r.sv r.st.length w
 ld:∀r∈c.R,OwS S trY.e 1 r.lv r.ld.length (trY.fl r.ld) w
 nd:∀r∈c.R,∀T∈r.ld,OwA S ndY.e 6 (trV T) T.1.length w
section
variable {S:Nat→Prop} {c:CoI} {w w':World}
theorem CoI.own.spl (h:c.own S w):Spl S c w:=by
 obtain⟨h1,h2⟩:=h
 have hr:∀r∈c.R,OwL trY S r.lv r.ld w∧OwG S r.sv r.st w:=fun r hr=>h2.2 r hr
 have ha:∀a∈c.A,OwI S a.iv a.it w:=fun a ha=>h1.2 a ha
 refine⟨h1.1,fun a hm=>⟨_,(ha a hm).1⟩,⟨_,h2.1,fun j r hj=>?_⟩,fun r hm=>⟨_,(hr r hm).2⟩,fun r hm=>(hr r hm).1.1,fun r hm T hT=>?_⟩
 ·obtain⟨xY,rfl⟩:=ws.1 hj
  exact⟨dh rsY c.R j xY 3 (by decide),dh rsY c.R j xY 5 (by decide)⟩
 ·have h3:OwL ndY S (trV T) T.1 w:=(hr r hm).1.2 T hT
  exact⟨_,h3.1⟩
theorem Spl.ret (h:Spl S c w) (hb:Bl w w'):Spl S c w':=
 ⟨h.av.ret hb,fun a ha=>(h.it a ha).ret hb,by obtain⟨xs,h1,h2⟩:=h.rv;exact⟨xs,h1.ret hb,h2⟩,fun r hr=>(h.st r hr).ret hb,fun r hr=>(h.ld r hr).ret hb,fun r hr T hT=>(h.nd r hr T hT).ret hb⟩
theorem Spl.item (h:Spl S c w) {a:AcI} (ha:a∈c.A) {g:Nat} (hg:a.iv.ownBlock=some g) (o:Nat) (x:Value):Spl S c (w.setCell ⟨g,o,none⟩ x):=by
 obtain⟨ys,hy⟩:=h.it a ha;exact⟨h.av.beside hy.1 (by decide) hg o x,fun b hb=>(h.it b hb).set g o x,(by obtain⟨xs,h1,h2⟩:=h.rv;exact⟨xs,h1.beside hy.1 (by decide) hg o x,h2⟩),fun r hr=>(h.st r hr).set g o x,fun r hr=>(h.ld r hr).beside hy.1 (by decide) hg o x,fun r hr T hT=>(h.nd r hr T hT).set g o x⟩
theorem Spl.sent (h:Spl S c w) {r:RsI} (hr:r∈c.R) {g:Nat} (hg:r.sv.ownBlock=some g) (o:Nat) (x:Value):Spl S c (w.setCell ⟨g,o,none⟩ x):=by
 obtain⟨ys,hy⟩:=h.st r hr;exact⟨h.av.beside hy.1 (by decide) hg o x,fun b hb=>(h.it b hb).set g o x,(by obtain⟨xs,h1,h2⟩:=h.rv;exact⟨xs,h1.beside hy.1 (by decide) hg o x,h2⟩),fun r hr=>(h.st r hr).set g o x,fun r hr=>(h.ld r hr).beside hy.1 (by decide) hg o x,fun r hr T hT=>(h.nd r hr T hT).set g o x⟩
theorem Spl.node (h:Spl S c w) {r:RsI} (hr:r∈c.R) {T:TrI} (hT:T∈r.ld) {g:Nat} (hg:(trV T).ownBlock=some g) (o:Nat) (x:Value):Spl S c (w.setCell ⟨g,o,none⟩ x):=by
 obtain⟨ys,hy⟩:=h.nd r hr T hT;exact⟨h.av.beside hy.1 (by decide) hg o x,fun b hb=>(h.it b hb).set g o x,(by obtain⟨xs,h1,h2⟩:=h.rv;exact⟨xs,h1.beside hy.1 (by decide) hg o x,h2⟩),fun r hr=>(h.st r hr).set g o x,fun r hr=>(h.ld r hr).beside hy.1 (by decide) hg o x,fun r hr T hT=>(h.nd r hr T hT).set g o x⟩
theorem Spl.pri (h:Spl S c w) {g:Nat} (hg:c.rv.ownBlock=some g) (j:Nat) (x:Value):Spl S c (w.setCell ⟨g,j*6+2,none⟩ x):=by
 obtain⟨xs,h1,h2⟩:=h.rv;refine⟨h.av.beside h1.1 (by decide) hg _ x,fun b hb=>(h.it b hb).set g _ x,?_,fun r hr=>(h.st r hr).set g _ x,fun r hr=>(h.ld r hr).beside h1.1 (by decide) hg _ x,fun r hr T hT=>(h.nd r hr T hT).set g _ x⟩
 rcases h1.1.2 with ⟨h6,_⟩ | ⟨g',xW,xX,h6,_⟩
 ·rw[h6] at hg;cases hg
 ·obtain⟨h3,h4⟩:=h1
  rw[h6] at hg h3 h4 ⊢;simp only[wv,wt] at hg;subst hg;exact⟨xs.set (j*6+2) x,⟨(h3.stored (j*6+2) x).1,h4⟩,fun i r hr=>by rw[ww (by omega),ww (by omega)];exact h2 i r hr⟩
end
structure SpW (S:Nat→Prop) (B:Nat) (c:CoI) (w w':World):Prop where
 s:Spl S c w'
 b:Bx w.heap.size [c.av,c.rv,.int .i64 c.m] w'
 q:Below B w w'
 k:∀g,g<w.heap.size→¬ S g→w'.heap[g]?=w.heap[g]?
section
variable {S:Nat→Prop} {B:Nat} {c:CoI} {w w' w2:World}
theorem SpW.set (h:SpW S B c w w') (hS:∀g,S g→B≤g∧g<w.heap.size) {g o:Nat} {x:Value} (hg:S g) (h2:Spl S c (w'.setCell ⟨g,o,none⟩ x)):SpW S B c w (w'.setCell ⟨g,o,none⟩ x):=
 ⟨h2,h.b.other (by have:=(hS g hg).2;omega) x,h.q.setCell (p:=⟨g,o,none⟩) (hS g hg).1 x,fun k hk hn=>(heap_setCell_other w' ⟨g,o,none⟩ k x (fun e=>hn (by have e:k=g:=e;rw[e];exact hg))).trans (h.k k hk hn)⟩
end

section
variable {S:Nat→Prop} {B:Nat} {c:CoI} {w wx:World}
theorem SpW.acc (h:SpW S B c w wx) {k g cap:Nat} {a:AcI} (hk:c.A[k]?=some a) (e:c.av=.slice (some ⟨g,0,none⟩) c.A.length cap):wx.cell? ⟨g,k*3+1,none⟩=some a.iv:=by
 have h1:=h.s.av;rw[e] at h1;obtain⟨hj,rfl⟩:=ws.1 hk;exact(h1.cellX (dh acY c.A k hj 1 (by decide))).1
theorem SpW.itm (h:SpW S B c w wx) {a:AcI} (ha:a∈c.A) {e:Nat} (he:e<a.it.length):∃g cap,a.iv=.slice (some ⟨g,0,none⟩) a.it.length cap∧S g∧(∃x,wx.cell? ⟨g,e*8+1,none⟩=some x)∧wx.frozen? ⟨g,e*8+1,none⟩=false:=by
 obtain⟨xs,h1⟩:=h.s.it a ha;obtain⟨g,cap,e1,hg,-⟩:=h1.blk (by omega);have h2:OwA S 99 8 a.iv a.it.length wx:=⟨xs,h1⟩;rw[e1] at h2;exact⟨g,cap,e1,hg,h2.cell (by omega)⟩
theorem SpW.res (h:SpW S B c w wx) {k g cap:Nat} {r:RsI} (hk:c.R[k]?=some r) (e:c.rv=.slice (some ⟨g,0,none⟩) c.R.length cap):wx.cell? ⟨g,k*6+3,none⟩=some r.lv∧wx.cell? ⟨g,k*6+5,none⟩=some r.sv∧(∃x,wx.cell? ⟨g,k*6+2,none⟩=some x)∧wx.frozen? ⟨g,k*6+2,none⟩=false:=by
 obtain⟨xs,h1,h2⟩:=h.s.rv;have yM:k<c.R.length:=(ws.1 hk).1;rw[e] at h1;obtain⟨d1,d2⟩:=h2 k r hk;have h3:OwA S rsY.e 6 (.slice (some ⟨g,0,none⟩) c.R.length cap) c.R.length wx:=⟨xs,h1⟩;obtain⟨d3,d4⟩:=h3.cell (o:=k*6+2) (by omega);exact⟨(h1.cellX d1).1,(h1.cellX d2).1,d3,d4⟩
theorem SpW.snt (h:SpW S B c w wx) {r:RsI} (hr:r∈c.R) {e:Nat} (he:e<r.st.length):∃g cap,r.sv=.slice (some ⟨g,0,none⟩) r.st.length cap∧S g∧(∃x,wx.cell? ⟨g,e,none⟩=some x)∧wx.frozen? ⟨g,e,none⟩=false:=by
 obtain⟨xs,h1⟩:=h.s.st r hr;obtain⟨g,cap,e1,hg,-⟩:=h1.blk (by omega);have h2:OwA S 9 1 r.sv r.st.length wx:=⟨xs,h1⟩;rw[e1] at h2;exact⟨g,cap,e1,hg,h2.cell (by omega)⟩
theorem SpW.tre (h:SpW S B c w wx) {r:RsI} (hr:r∈c.R) {j:Nat} {T:TrI} (hj:r.ld[j]?=some T):∃g cap,r.lv=.slice (some ⟨g,0,none⟩) r.ld.length cap∧wx.cell? ⟨g,j,none⟩=some (trV T):=by
 have h1:=h.s.ld r hr;obtain⟨yI,rfl⟩:=ws.1 hj;obtain⟨g,cap,e1,hg,-⟩:=h1.blk (by omega);rw[e1] at h1;have h2:=(h1.cellX (dh trY r.ld j yI 0 (by decide))).1;rw[show j*trY.n+0=j from (by show j*1+0=j;omega)] at h2;exact⟨g,cap,e1,h2⟩
theorem SpW.nod (h:SpW S B c w wx) {r:RsI} (hr:r∈c.R) {T:TrI} (hT:T∈r.ld) {n:Nat} (hn:n<T.1.length):∃g cap,trV T=.slice (some ⟨g,0,none⟩) T.1.length cap∧S g∧(∃x,wx.cell? ⟨g,n*6+2,none⟩=some x)∧wx.frozen? ⟨g,n*6+2,none⟩=false:=by
 obtain⟨xs,h1⟩:=h.s.nd r hr T hT;obtain⟨g,cap,e1,hg,-⟩:=h1.blk (by omega);have h2:OwA S ndY.e 6 (trV T) T.1.length wx:=⟨xs,h1⟩;rw[e1] at h2;exact⟨g,cap,e1,hg,h2.cell (by omega)⟩
end
structure SpF (c:CoI):Prop where
 zA:c.A.length≤1000
 it:∀a∈c.A,a.it.length≤1000
 zR:c.R.length≤1000
 st:∀r∈c.R,r.st.length≤1000
 ld:∀r∈c.R,r.ld.length≤1000
 nd:∀r∈c.R,∀T∈r.ld,T.1.length≤1000
abbrev spT:Value:=.string ⟨#[115,112,111,105,108,116]⟩
theorem oS (S:Nat→Prop) (B:Nat) (c:CoI) (w:World) (h:c.own S w) (hS:∀g,S g→B≤g∧g<w.heap.size) (hz:B≤w.heap.size) (hf:SpF c):
  Calls prog 33 #[c.v] w (fun e w'=>e=.returned (.tuple #[])∧Below B w w'∧∀k,k<w.heap.size→¬ S k→w'.heap[k]?=w.heap[k]?):=by
 obtain⟨a1,xH⟩:=e_ c.aa.1;obtain⟨b1,xI⟩:=e_ c.aa.2;obtain⟨LA,xp⟩:=e_ c.A.length;obtain⟨r1,xJ⟩:=e_ c.ra.1;obtain⟨s1,xK⟩:=e_ c.ra.2;obtain⟨LR,xq⟩:=e_ c.R.length;obtain⟨m1,xy⟩:=e_ c.m
 have xL:c.av=.slice a1 LA b1:=by rw[←xH,←xp,←xI]
 have xM:c.rv=.slice r1 LR s1:=by rw[←xJ,←xq,←xK]
 have xZ:c.v=.agg #[.slice a1 LA b1,.slice r1 LR s1,.int .i64 m1]:=by rw[←xH,←xI,←xp,←xJ,←xK,←xq,←xy]
 have yd:Spl S c w:=h.spl;have zA:=hf.zA;have zR:=hf.zR;rw[xp] at zA;rw[xq] at zR;rw[xZ];obtain⟨W0,hW,y0,bs⟩:=Sx.start1 w [.slice a1 LA b1,.slice r1 LR s1,.int .i64 m1] 25;have ye:=bs.box 0 rfl;have hq:=bs.q;have yf:SpW S B c w W0:=⟨yd.ret hq,by rw[xL,xM,xy];exact ye,hq.mono hz,fun k hk _=>hq.block k hk⟩;have HW:=h_ hW;have yJ:=h_ yf;have xN:=h_ xL;have xr:=h_ xM;have HF:=h_ hf;have xz:=h_ hS;have yg:=h_ xp;have yh:=h_ xq;have HM:=h_ xy;clear h hf yd hW ye hq yf xL xM xZ xH xI xp xJ xK xq xy hS bs;go_enter func33,ntmps33;go_wp2_with fail;rw[HW.out];go_loopw [2] (fun i wx=>∃k:Nat,k≤LA∧i=.int .i64 k∧SpW S B c w wx) (fun i _=>LA-(intOf i).toNat)
 case atStart=>exact⟨0,wo _,rfl,yJ.out⟩
 case round=>
  obtain⟨k,hk,rfl,hs⟩:=hrel
  have b0:wr.cell? ⟨w.heap.size,0,none⟩=some (.slice a1 LA b1):=by rw[←xN.out];exact hs.b.at 0 rfl
  by_cases hlt:k<LA
  ·have wl : (k : Int) < (LA : Int) := by omega
   have xn:k<c.A.length:=(by rw[yg.out];exact hlt);obtain⟨g,cap,e1,hg,-⟩:=hs.s.av.blk (by omega);obtain⟨a,ha⟩:=e_ (c.A[k]);have yi:c.A[k]?=some a:=(by rw[←ha];exact wq xn);have xO:a∈c.A:=(by rw[←ha];exact wu xn)
   have xt:=h_ fun (wx:World) (h:SpW S B c w wx)=>h.acc yi e1
   rw[xN.out,yg.out] at e1;simp only[wh,true_and] at e1;obtain⟨rfl,rfl⟩:=e1;have yj:=h_ xO;have zI:=HF.out.it a xO;obtain⟨ia,yk⟩:=e_ a.ia.1;obtain⟨ib,yl⟩:=e_ a.ia.2;obtain⟨IL,xA⟩:=e_ a.it.length;have yn:a.iv=.slice ia IL ib:=(by rw[←yk,←xA,←yl]);have xP:=h_ yn;have yo:=h_ xA;rw[xA] at zI;have HS:=h_ hs;clear ha yi xO xn yn yk yl xA hs;go_wp2_with fail;clear b0;go_loopw [3] (fun i wx=>∃e:Nat,e≤IL∧i=.int .i64 e∧SpW S B c w wx) (fun i _=>IL-(intOf i).toNat)
   case atStart=>exact⟨0,wo _,rfl,HS.out⟩
   case round=>
    obtain⟨e,he,rfl,hs⟩:=hrel;have b0:wr.cell? ⟨w.heap.size,0,none⟩=some (.slice (some ⟨g,0,none⟩) LA b1):=(by rw[←xN.out];exact hs.b.at 0 rfl);have i0:=xt.out wr hs
    by_cases hle:e<IL
    ·have we : (e : Int) < (IL : Int) := by omega
     obtain⟨gi,ci,e2,xu,⟨x1,i1⟩,f1⟩:=hs.itm yj.out (e:=e) (by rw[yo.out];exact hle);have xo:=h_ (hs.set xz.out xu (hs.s.item yj.out (by rw[e2];rfl) (e*8+1) spT));rw[xP.out,yo.out] at e2;simp only[wh,true_and] at e2;obtain⟨rfl,rfl⟩:=e2;rw[xP.out] at i0;clear hs;go_wp2_with fail;go_roundw
     case rel=>exact⟨e+1,by omega,by go_num,xo.out⟩
     case measure=>simp[intOf];omega
    ·have we : ¬ (e : Int) < (IL : Int) := by omega
     have HS:=h_ hs;rw[xP.out] at i0;clear hs;go_wp2_with fail;go_roundw
     case rel=>exact⟨k+1,by omega,by go_num,HS.out⟩
     case measure=>simp[intOf];omega
  ·have wl : ¬ (k : Int) < (LA : Int) := by omega
   have HS:=h_ hs;clear hs;go_wp2_with fail;clear b0;go_loopw [4] (fun i wx=>∃k:Nat,k≤LR∧i=.int .i64 k∧SpW S B c w wx) (fun i _=>LR-(intOf i).toNat)
   case atStart=>exact⟨0,wo _,rfl,HS.out⟩
   case round=>
    clear HS hk hlt wl;obtain⟨k,hk,rfl,hs⟩:=hrel;have b1:wr.cell? ⟨w.heap.size,1,none⟩=some (.slice r1 LR s1):=(by rw[←xr.out];exact hs.b.at 1 rfl)
    by_cases hlt:k<LR
    ·have wl : (k : Int) < (LR : Int) := by omega
     have xn:k<c.R.length:=(by rw[yh.out];exact hlt);obtain⟨yN,xF,-⟩:=hs.s.rv;obtain⟨g,cap,e1,hg,-⟩:=xF.blk (by omega);obtain⟨r,hr⟩:=e_ (c.R[k]);have yp:c.R[k]?=some r:=(by rw[←hr];exact wq xn);have xw:r∈c.R:=(by rw[←hr];exact wu xn)
     have xt:=h_ fun (wx:World) (h:SpW S B c w wx)=>h.res yp e1
     have yK:Hid (c.rv.ownBlock=some g):=h_ (by rw[e1];rfl)
     rw[xr.out,yh.out] at e1;simp only[wh,true_and] at e1;obtain⟨rfl,rfl⟩:=e1;have xx:=h_ xw;have zS:=HF.out.st r xw;have zL:=HF.out.ld r xw;have yL:=h_ (HF.out.nd r xw);obtain⟨la,yq⟩:=e_ r.la.1;obtain⟨lb,yt⟩:=e_ r.la.2;obtain⟨LL,xB⟩:=e_ r.ld.length;obtain⟨sa,yu⟩:=e_ r.sa.1;obtain⟨sb,yv⟩:=e_ r.sa.2;obtain⟨SL,xC⟩:=e_ r.st.length;have yw:r.lv=.slice la LL lb:=(by rw[←yq,←xB,←yt]);have yx:r.sv=.slice sa SL sb:=(by rw[←yu,←xC,←yv]);have xD:=h_ yw;have xQ:=h_ yx;have yy:=h_ xB;have yz:=h_ xC;rw[xB] at zL;rw[xC] at zS;have HS:=h_ hs;have HG:=h_ hg;clear hr yp xw xn yw yx yq yt xB yu yv xC hs xF hg;go_wp2_with fail;clear b1;go_loopw [5] (fun i wx=>∃e:Nat,e≤SL∧i=.int .i64 e∧SpW S B c w wx) (fun i _=>SL-(intOf i).toNat)
     case atStart=>exact⟨0,wo _,rfl,HS.out⟩
     case round=>
      clear HS;obtain⟨e,he,rfl,hs⟩:=hrel;have b1:wr.cell? ⟨w.heap.size,1,none⟩=some (.slice (some ⟨g,0,none⟩) LR s1):=(by rw[←xr.out];exact hs.b.at 1 rfl);obtain⟨i3,i5,-,-⟩:=xt.out wr hs;rw[xQ.out] at i5;rw[xD.out] at i3
      by_cases hle:e<SL
      ·have we : (e : Int) < (SL : Int) := by omega
       obtain⟨gi,ci,e2,xu,⟨x1,j1⟩,f1⟩:=hs.snt xx.out (e:=e) (by rw[yz.out];exact hle);have xo:=h_ (hs.set xz.out xu (hs.s.sent xx.out (by rw[e2];rfl) e spT));rw[xQ.out,yz.out] at e2;simp only[wh,true_and] at e2;obtain⟨rfl,rfl⟩:=e2;clear hs;go_wp2_with fail;go_roundw
       case rel=>exact⟨e+1,by omega,by go_num,xo.out⟩
       case measure=>simp[intOf];omega
      ·have we : ¬ (e : Int) < (SL : Int) := by omega
       have HS:=h_ hs;clear hs;go_wp2_with fail;clear b1 i3 i5;go_loopw [6] (fun i wx=>∃j:Nat,j≤LL∧i=.int .i64 j∧SpW S B c w wx) (fun i _=>LL-(intOf i).toNat)
       case atStart=>exact⟨0,wo _,rfl,HS.out⟩
       case round=>
        clear HS;obtain⟨j,hj,rfl,hs⟩:=hrel;have b1:wr.cell? ⟨w.heap.size,1,none⟩=some (.slice (some ⟨g,0,none⟩) LR s1):=(by rw[←xr.out];exact hs.b.at 1 rfl);obtain⟨i3,i5,⟨x2,i2⟩,f2⟩:=xt.out wr hs;rw[xD.out] at i3;rw[xQ.out] at i5
        by_cases hlj:j<LL
        ·have wj : (j : Int) < (LL : Int) := by omega
         clear i2 f2;have xR:j<r.ld.length:=(by rw[yy.out];exact hlj);obtain⟨T,hT⟩:=e_ (r.ld[j]);have yA:r.ld[j]?=some T:=(by rw[←hT];exact wq xR);have xS:T∈r.ld:=(by rw[←hT];exact wu xR)
         have xT:=h_ fun (wx:World) (h:SpW S B c w wx)=>h.tre xx.out yA
         have yB:=h_ xS;have zN:=yL.out T xS;obtain⟨ta,yC⟩:=e_ T.2.1;obtain⟨tb,yD⟩:=e_ T.2.2;obtain⟨TL,xE⟩:=e_ T.1.length;have yE:trV T=.slice ta TL tb:=(by rw[←yC,←xE,←yD]);have yF:=h_ yE;have yG:=h_ xE;rw[xE] at zN;obtain⟨gl,cl,e3,l1⟩:=xT.out wr hs
         have yH:Hid (∀wx,SpW S B c w wx→wx.cell? ⟨gl,j,none⟩=some (.slice ta TL tb)):=h_ fun wx h=>by
          obtain⟨g',c',e',l'⟩:=xT.out wx h;rw[e3] at e';simp only[wh,true_and,wt,Addr.mk.injEq,and_true] at e';rw[←yF.out,e'.1];exact l'
         rw[xD.out,yy.out] at e3;simp only[wh,true_and] at e3;obtain⟨rfl,rfl⟩:=e3;have HS:=h_ hs;clear hT yA xS xR yE yC yD xE hs xT;go_wp2_with fail;clear b1 i3 i5 l1;go_loopw [7] (fun i wx=>∃n:Nat,n≤TL∧i=.int .i64 n∧SpW S B c w wx) (fun i _=>TL-(intOf i).toNat)
         case atStart=>exact⟨0,wo _,rfl,HS.out⟩
         case round=>
          clear HS;obtain⟨n,hn,rfl,hs⟩:=hrel;have b1:wr.cell? ⟨w.heap.size,1,none⟩=some (.slice (some ⟨g,0,none⟩) LR s1):=(by rw[←xr.out];exact hs.b.at 1 rfl);obtain⟨i3,-,-,-⟩:=xt.out wr hs;rw[xD.out] at i3;have l1:=yH.out wr hs
          by_cases hln:n<TL
          ·have wn : (n : Int) < (TL : Int) := by omega
           obtain⟨gi,ci,e2,xu,⟨x1,j1⟩,f1⟩:=hs.nod xx.out yB.out (n:=n) (by rw[yG.out];exact hln);have xo:=h_ (hs.set xz.out xu (hs.s.node xx.out yB.out (by rw[e2];rfl) (n*6+2) spT));rw[yF.out,yG.out] at e2;simp only[wh,true_and] at e2;obtain⟨rfl,rfl⟩:=e2;clear hs;go_wp2_with fail;go_roundw
           case rel=>exact⟨n+1,by omega,by go_num,xo.out⟩
           case measure=>simp[intOf];omega
          ·have wn : ¬ (n : Int) < (TL : Int) := by omega
           have HS:=h_ hs;clear hs;go_wp2_with fail;go_roundw
           case rel=>exact⟨j+1,by omega,by go_num,HS.out⟩
           case measure=>simp[intOf];omega
        ·have wj : ¬ (j : Int) < (LL : Int) := by omega
         have xo:=h_ (hs.set xz.out HG.out (hs.s.pri yK.out k (.int .i64 999)));clear hs;go_wp2_with fail;go_roundw
         case rel=>exact⟨k+1,by omega,by go_num,xo.out⟩
         case measure=>simp[intOf];omega
    ·have wl : ¬ (k : Int) < (LR : Int) := by omega
     have HS:=h_ hs;clear hs;go_wp2_with fail;exact bodyPost_end (results_none rfl _ _ _) rfl ⟨rfl,HS.out.q,HS.out.k⟩

abbrev Iv (a b:Nat):Nat→Prop:=fun g=>a≤g∧g<b
theorem CoI.own.iv {c:CoI} {a:Nat} {w:World} (h:c.own (fun g=>a≤g) w):c.own (Iv a w.heap.size) w:=⟨OwL.mono h.1 fun _ hl hg=>⟨hg,hl⟩,OwL.mono h.2 fun _ hl hg=>⟨hg,hl⟩⟩
theorem CoI.own.ret {S:Nat→Prop} {c:CoI} {w w':World} (h:c.own S w) (hb:Bl w w'):c.own S w':=⟨OwL.ret h.1 hb,OwL.ret h.2 hb⟩
theorem CoI.own.keep {S:Nat→Prop} {c:CoI} {w w':World} (h:c.own S w) (hk:∀k,S k→w'.heap[k]?=w.heap[k]?):c.own S w':=⟨OwL.keep h.1 hk,OwL.keep h.2 hk⟩
def uV (B a b:Nat) (w:World) (e:Ending) (w':World):Prop:=e=.returned (.tuple #[])∧Below B w w'∧∀k,k<w.heap.size→¬ Iv a b k→w'.heap[k]?=w.heap[k]?
theorem CoFitD.spf {c:CoI} (h:CoFitD c.d):SpF c:=
 ⟨h.zA',fun a ha=>(h.ac' a ha).small.1,h.zR',fun r hr=>(h.rs' r hr).st,fun r hr=>(h.rs' r hr).ldl,fun r hr T hT=>by have:=(ku.sub (h.rs' r hr) T hT).1;rwa [List.length_map] at this⟩
theorem du (c:CoI) (B a b:Nat) (w:World) (h:c.own (Iv a b) w) (hB:B≤a) (yO:a≤b) (hb:b≤w.heap.size) (hf:CoFitD c.d):Calls prog 33 #[c.v] w (uV B a b w):=
 oS (Iv a b) B c w h (fun g hg=>⟨Nat.le_trans hB hg.1,wy hg.2 hb⟩) (by omega) hf.spf
theorem CoI.own.beside {c:CoI} {x y a b:Nat} {w w':World} (h:c.own (Iv x y) w) (hy:y≤w.heap.size) (hd:y≤a∨b≤x) (hk:∀k,k<w.heap.size→¬ Iv a b k→w'.heap[k]?=w.heap[k]?):c.own (Iv x y) w':=
 h.keep fun k xU=>hk k (wy xU.2 hy) fun hh=>by
  have h1:=xU.1;have h2:=xU.2;have h3:=hh.1;have h4:=hh.2
  omega
theorem Sx.spoilt {w0 w w':World} {bs xV:Bs} {B a b:Nat} (h:Sx w0 bs w) (hs:xV.Sublist bs) (hq:Below B w w') (hB:w0.heap.size≤B) (hk:∀k,k<w.heap.size→¬ Iv a b k→w'.heap[k]?=w.heap[k]?) (hd:∀x∈xV.map Prod.fst,x<a∨b≤x):Sx w0 xV w':=
 ⟨fun x hx=>by
  obtain⟨h1,h2⟩:=h.bx x (hs.subset hx);refine⟨h1.same (hk x.1 h1.lt fun hh=>?_),h2⟩;have h3:=hd x.1 (List.mem_map_of_mem hx);have h4:=hh.1;have h5:=hh.2
  omega,h.pw.sublist hs,h.q.trans (hq.mono hB)⟩
end Go.Proofs.YtjgeiieiinmdnaaGreatDoor
