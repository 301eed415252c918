/- HaOp, HbP, HbQ, HbF: put together by mergetpl.py. -/
import Derived.Test.YtjgeiieiinmdnaaGreatDoorLj
import Derived.Test.YtjgeiieiinmdnaaGreatDoorLl
import Derived.Test.YtjgeiieiinmdnaaGreatDoorLn
open Go.Proofs.Tryz
open Bool renaming and_eq_true→wh,false_eq_true→wz,false_or→wD
open Go.Value renaming okWide→wv
open List renaming all_eq_true→wo,mem_map_of_mem→wq,mem_map→wt,length_map→wu,range→ww,getElem?_eq_getElem→wy,getElem_map→wA,mem_range→wB,length_cons→wC,set_getElem_self→wE,length→wG
open Nat renaming zero_le→ws
open Option renaming isSome_some→wF
namespace Go.Proofs.YtjgeiieiinmdnaaGreatDoor
set_option maxRecDepth 100000
open Go.RowKit Go.ChangeShapes Go.WideShapes Go.ChangeAt Go.Deep Go.Joins

theorem kI {H:Type} {enc:TypeId×Value→H} {W:World} {α:Type} (Y:Ly α) (Q:α→Prop) {T e:TypeId} (hu:prog.underlying T=some (.slice e)) (ce:prog.cellsOf e=Y.n) (hn:0<Y.n)
  (one:∀(xn:Nat) (cs:List Value) (d:DataW H×List MemPlace),cs.length=Y.n→DataW.trod enc prog W 0 (fun _=>true) true xn e cs=some d→∃x:α,cs=Y.cs x∧Y.sub x W∧Q x)
  {v:Value} {xn:Nat} {d:DataW H×List MemPlace} (hf:DataW.trod enc prog W 0 (fun _=>true) true xn T [v]=some d):∃(M:List α) (a:Option Addr) (c:Nat),v=.slice a M.length c∧IsL Y (.slice a M.length c) M W∧∀x∈M,Q x:=by
 obtain⟨d,ps⟩:=d
 rcases open_slice hu hf with ⟨xA,_⟩ | ⟨x,len,cap,m,n,D,Pl,xA,_,hl,hm,xI,_,hx⟩
 ·obtain rfl : v = .slice none 0 0 := by simpa using xA
  exact⟨[],none,0,rfl,IsL.nil Y W,fun x hx=>by cases hx⟩
 ·obtain rfl : v = .slice (some x) len cap := by simpa using xA
  rw[if_pos rfl] at xI;subst xI;rw[ce] at hx
  have xz:∀i,i<m→∃p:α,(∀c,c<Y.n→W.cell? ((x.add (i*Y.n)).add c)=(Y.cs p)[c]?)∧Y.sub p W∧Q p:=by
   intro i hi;obtain⟨yf,h1,h2⟩:=hx i hi;obtain⟨_,xp,xB⟩:=World.cells?_some h1;obtain⟨p,rfl,hp⟩:=one _ _ _ xp h2;exact⟨p,fun c hc=>xB c hc,hp⟩
  by_cases h0:len=0
  ·subst h0
   exact⟨[],some x,m,rfl,⟨⟨by rw[dq],some x,m,rfl,(fun h=>by cases h),.inl rfl⟩,⟨some x,m,rfl,ws _⟩,fun p hp=>by cases hp⟩,fun p hp=>by cases hp⟩
  obtain⟨p0,_⟩:=xz 0 (by omega)
  haveI:Inhabited α:=⟨p0⟩
  obtain⟨q,hq⟩:=choose_lt xz
  have xq:((ww len).map q).length=len:=by simp
  refine⟨(ww len).map q,some x,m,by rw[xq],⟨?_,⟨some x,m,by rw[xq],by rw[xq];exact hl⟩,fun p hp=>?_⟩,fun p hp=>?_⟩
  ·rw[xq]
   refine⟨by rw[dq,xq],some x,m,rfl,(fun h=>by cases h),?_⟩
   ·right
    obtain⟨b,off,spot⟩:=x
    have xC:spot=none:=by
     have:=(hq 0 (by omega)).1 0 hn;rw[wy (by rw[Y.len];exact hn)] at this
     simpa [Addr.add] using World.cell?_spot this
    subst xC
    have hc:∀i,i<m→∀c,c<Y.n→W.cell? ⟨b,off+(i*Y.n+c),none⟩=(Y.cs (q i))[c]?:=fun i hi c hc=>by
     have h1:=(hq i hi).1 c hc;rw[Go.WideShapes.add_plain,Go.WideShapes.add_plain,Nat.add_assoc] at h1;exact h1
    have hb:b<W.heap.size:=by
     rcases Nat.lt_or_ge b W.heap.size with h | h
     ·exact h
     ·have:=hc 0 (by omega) 0 hn
      rw[wy (by rw[Y.len];exact hn)] at this
      simp[World.cell?,Array.getElem?_eq_none h] at this
    refine⟨b,off,rfl,hb,fun j hj=>?_⟩;rw[dq,xq] at hj;have xJ:j / Y.n<((ww len).map q).length:=(by rw[xq];exact(Nat.div_lt_iff_lt_mul hn).2 hj);have xK:j % Y.n<Y.n:=Nat.mod_lt _ hn;have e1:=dh Y _ (j / Y.n) xJ (j % Y.n) xK;rw[wA,List.getElem_range] at e1;have e2:=hc (j / Y.n) (by rw[xq] at xJ;omega) (j % Y.n) xK;have e3:j / Y.n*Y.n+j % Y.n=j:=(by rw[Nat.mul_comm];exact Nat.div_add_mod j Y.n);rw[e3] at e1 e2;rw[e2,←e1];exact wy _
  ·obtain⟨i,hi,rfl⟩:=wt.1 hp
   have:=wB.1 hi;exact(hq i (by omega)).2.1
  ·obtain⟨i,hi,rfl⟩:=wt.1 hp
   have:=wB.1 hi;exact(hq i (by omega)).2.2
theorem jH {H:Type} {enc:TypeId×Value→H} {W:World} {base:Nat} {α:Type} (Y:Ly α) (Q:α→Prop) {T:TypeId} {fs:Array Field} (hs:prog.underlying T=some (.struct fs)) (hC:prog.cellsOf T=Y.n)
  (one:∀(xn:Nat) (cs:List Value) (d:DataW H×List MemPlace),cs.length=Y.n→DataW.trod enc prog W 0 (fun _=>true) true xn T cs=some d→∃x:α,cs=Y.cs x∧Y.sub x W∧Q x)
  {v:Value} {d:DataW H} {ps:List MemPlace} (hv:wv prog W .any base T v) (h:DataW.Trod enc prog W 0 (fun _=>true) true T v d ps):∃x:α,v=.agg (Y.cs x).toArray∧Y.sub x W∧Q x:=by
 obtain⟨cs,rfl,xR⟩:=okWide_struct hs hv;obtain⟨xn,hf⟩:=h;obtain⟨x,hx,h1,h2⟩:=one xn cs.toList _ (by simpa using xR.trans hC) (by simpa [Value.cells] using hf);exact⟨x,by rw[←hx],h1,h2⟩
abbrev QN (x:NdI):Prop:=x.1.2.2.2.2.2≤9223372036854775807
abbrev QT (T:TrI):Prop:=∀x∈T.1,QN x
abbrev QR (r:RsI):Prop:=∀t∈r.ld,QT t
section
variable {H:Type} {enc:TypeId×Value→H} {W:World}
theorem us (xn:Nat) (cs:List Value) (d:DataW H×List MemPlace) (hl:cs.length=3) (h:DataW.trod enc prog W 0 (fun _=>true) true xn 160 cs=some d):∃x:At,cs=atY.cs x∧atY.sub x W∧True:=by
 obtain⟨xs,k,hk,xD,_,xr,hf⟩:=DataW.trod_struct underlying160 h
 match cs,hl with
 | [v0,v1,v2],_=>
  have i1:prog.cellsOf 9=1:=by kernel_rfl
  have i4:prog.cellsOf 3=1:=by kernel_rfl
  have g0:=hf 0 _ rfl;have g1:=hf 1 _ rfl;have g2:=hf 2 _ rfl
  simp[i1] at g0 g1 g2
  match xs,xr,g0,g1,g2 with
  | [y0,y1,y2],_,g0,g1,g2=>
   obtain⟨s0,e0,_,z0⟩:=DataW.trod_string underlying9 g0
   obtain rfl:v0=.string s0:=by simpa using e0
   obtain⟨s1,e1,_,z1⟩:=DataW.trod_string underlying9 g1
   obtain rfl:v1=.string s1:=by simpa using e1
   obtain⟨s2,e2,_,z2⟩:=DataW.trod_string underlying9 g2
   obtain rfl:v2=.string s2:=by simpa using e2
   exact⟨(s0.data.toList,s1.data.toList,s2.data.toList),by simp[atY],trivial,trivial⟩
theorem nE {v:Value} {xn:Nat} {d:DataW H×List MemPlace} (hf:DataW.trod enc prog W 0 (fun _=>true) true xn 112 [v]=some d):∃(M:List At) (a:Option Addr) (c:Nat),v=.slice a M.length c∧IsL atY (.slice a M.length c) M W∧∀x∈M,True:=
 kI atY (fun _=>True) underlying112 (by kernel_rfl) (by decide) us hf
theorem vd (xn:Nat) (cs:List Value) (d:DataW H×List MemPlace) (hl:cs.length=6) (h:DataW.trod enc prog W 0 (fun _=>true) true xn 114 cs=some d):∃x:NdI,cs=ndY.cs x∧ndY.sub x W∧QN x:=by
 obtain⟨xs,k,hk,xD,_,xr,hf⟩:=DataW.trod_struct underlying114 h
 match cs,hl with
 | [v0,v1,v2,v3,v4,v5],_=>
  have i1:prog.cellsOf 9=1:=by kernel_rfl
  have i4:prog.cellsOf 3=1:=by kernel_rfl
  have i2:prog.cellsOf 5=1:=by kernel_rfl
  have i3:prog.cellsOf 112=1:=by kernel_rfl
  have g0:=hf 0 _ rfl;have g1:=hf 1 _ rfl;have g2:=hf 2 _ rfl;have g3:=hf 3 _ rfl;have g4:=hf 4 _ rfl;have g5:=hf 5 _ rfl
  simp[i1,i2,i3,i4] at g0 g1 g2 g3 g4 g5
  match xs,xr,g0,g1,g2,g3,g4,g5 with
  | [y0,y1,y2,y3,y4,y5],_,g0,g1,g2,g3,g4,g5=>
   obtain⟨n0,e0,_,z0⟩:=DataW.trod_int underlying5 g0
   obtain rfl:v0=.int .u8 n0:=by simpa using e0
   obtain⟨s1,e1,_,z1⟩:=DataW.trod_string underlying9 g1
   obtain rfl:v1=.string s1:=by simpa using e1
   obtain⟨s2,e2,_,z2⟩:=DataW.trod_string underlying9 g2
   obtain rfl:v2=.string s2:=by simpa using e2
   obtain⟨M,a,c,rfl,hM,_⟩:=nE g3;obtain⟨s4,e4,_,z4⟩:=DataW.trod_string underlying9 g4
   obtain rfl:v4=.string s4:=by simpa using e4
   obtain⟨n5,e5,_,z5⟩:=DataW.trod_int underlying3 g5
   obtain rfl:v5=.int .i64 n5:=by simpa using e5
   have w5:n5≤9223372036854775807:=by
    simp only[Lit.wf,wh,decide_eq_true_eq] at z5;exact z5.2
   exact⟨((n0,s1.data.toList,s2.data.toList,M,s4.data.toList,n5),(a,c)),by simp[ndY],hM,w5⟩
theorem pk {v:Value} {xn:Nat} {d:DataW H×List MemPlace} (hf:DataW.trod enc prog W 0 (fun _=>true) true xn 108 [v]=some d):∃(M:List NdI) (a:Option Addr) (c:Nat),v=.slice a M.length c∧IsL ndY (.slice a M.length c) M W∧∀x∈M,QN x:=
 kI ndY QN underlying108 (by kernel_rfl) (by decide) vd hf
theorem uy (xn:Nat) (cs:List Value) (d:DataW H×List MemPlace) (hl:cs.length=1) (h:DataW.trod enc prog W 0 (fun _=>true) true xn 108 cs=some d):∃x:TrI,cs=trY.cs x∧trY.sub x W∧QT x:=by
 match cs,hl with
 | [v],_=>
  obtain⟨M,a,c,rfl,hM,hq⟩:=pk h;exact⟨(M,(a,c)),rfl,hM,hq⟩
theorem pD {v:Value} {xn:Nat} {d:DataW H×List MemPlace} (hf:DataW.trod enc prog W 0 (fun _=>true) true xn 36 [v]=some d):∃(M:List TrI) (a:Option Addr) (c:Nat),v=.slice a M.length c∧IsL trY (.slice a M.length c) M W∧∀x∈M,QT x:=
 kI trY QT underlying36 (by kernel_rfl) (by decide) uy hf
theorem rU (xn:Nat) (cs:List Value) (d:DataW H×List MemPlace) (hl:cs.length=6) (h:DataW.trod enc prog W 0 (fun _=>true) true xn 38 cs=some d):∃x:RsI,cs=rsY.cs x∧rsY.sub x W∧QR x:=by
 obtain⟨xs,k,hk,xD,_,xr,hf⟩:=DataW.trod_struct underlying38 h
 match cs,hl with
 | [v0,v1,v2,v3,v4,v5],_=>
  have i1:prog.cellsOf 9=1:=by kernel_rfl
  have i4:prog.cellsOf 3=1:=by kernel_rfl
  have i2:prog.cellsOf 4=1:=by kernel_rfl
  have i3:prog.cellsOf 36=1:=by kernel_rfl
  have i5:prog.cellsOf 26=1:=by kernel_rfl
  have g0:=hf 0 _ rfl;have g1:=hf 1 _ rfl;have g2:=hf 2 _ rfl;have g3:=hf 3 _ rfl;have g4:=hf 4 _ rfl;have g5:=hf 5 _ rfl
  simp[i1,i2,i3,i4,i5] at g0 g1 g2 g3 g4 g5
  match xs,xr,g0,g1,g2,g3,g4,g5 with
  | [y0,y1,y2,y3,y4,y5],_,g0,g1,g2,g3,g4,g5=>
   obtain⟨s0,e0,_,z0⟩:=DataW.trod_string underlying9 g0
   obtain rfl:v0=.string s0:=by simpa using e0
   obtain⟨b1,e1,_⟩:=DataW.trod_bool underlying4 g1
   obtain rfl:v1=.bool b1:=by simpa using e1
   obtain⟨n2,e2,_,z2⟩:=DataW.trod_int underlying3 g2
   obtain rfl:v2=.int .i64 n2:=by simpa using e2
   obtain⟨M,a,c,rfl,hM,hq⟩:=pD g3;obtain⟨b4,e4,_⟩:=DataW.trod_bool underlying4 g4
   obtain rfl:v4=.bool b4:=by simpa using e4
   obtain⟨g,ga,gc,rfl,hg,_⟩:=mh g5;exact⟨⟨s0.data.toList,b1,n2,M,(a,c),b4,g,(ga,gc)⟩,by simp[rsY],⟨hM,hg⟩,hq⟩
theorem rR (xn:Nat) (cs:List Value) (d:DataW H×List MemPlace) (hl:cs.length=3) (h:DataW.trod enc prog W 0 (fun _=>true) true xn 33 cs=some d):∃x:AcI,cs=acY.cs x∧acY.sub x W∧True:=by
 obtain⟨xs,k,hk,xD,_,xr,hf⟩:=DataW.trod_struct underlying33 h
 match cs,hl with
 | [v0,v1,v2],_=>
  have i1:prog.cellsOf 9=1:=by kernel_rfl
  have i4:prog.cellsOf 3=1:=by kernel_rfl
  have i2:prog.cellsOf 31=2:=by kernel_rfl
  have i3:prog.cellsOf 29=1:=by kernel_rfl
  have g0:=hf 0 _ rfl;have g1:=hf 1 _ rfl
  simp[i1,i2] at g0 g1
  match xs,xr,g0,g1 with
  | [y0,y1],_,g0,g1=>
   obtain⟨s0,e0,_,z0⟩:=DataW.trod_string underlying9 g0
   obtain rfl:v0=.string s0:=by simpa using e0
   obtain⟨ys,k',yg,ye,_,xS,xL⟩:=DataW.trod_struct underlying31 g1;have k0:=xL 0 _ rfl;have k1:=xL 1 _ rfl
   simp[i3,i4] at k0 k1
   match ys,xS,k0,k1 with
   | [u0,u1],_,k0,k1=>
    obtain⟨M,hM⟩:=ng k0;obtain⟨a,c,rfl,_⟩:=hM.form;obtain⟨n2,e2,_,z2⟩:=DataW.trod_int underlying3 k1
    obtain rfl:v2=.int .i64 n2:=by simpa using e2
    exact⟨⟨s0.data.toList,M,(a,c),n2⟩,by simp[acY],hM,trivial⟩
theorem open_core {base:Nat} {v:Value} {d:DataW H} {ps:List MemPlace} (hv:wv prog W .any base 25 v) (h:DataW.Trod enc prog W 0 (fun _=>true) true 25 v d ps):
  ∃c:CoI,v=c.v∧c.sub W∧∀r∈c.R,QR r:=by
 obtain⟨v0,v1,v2,y0,y1,y2,n,rfl,rfl,rfl,h0,h1,h2⟩:=open_agg3 underlying25 (by kernel_rfl) (by kernel_rfl:prog.cellsOf 25=3) hv h;obtain⟨A,aa,ac,rfl,hA,_⟩:=kI acY (fun _=>True) underlying22 (by kernel_rfl) (by decide) rR h0;obtain⟨R,ra,rc,rfl,hR,hq⟩:=kI rsY QR underlying23 (by kernel_rfl) (by decide) rU h1;obtain⟨m,e2,_,z2⟩:=DataW.trod_int underlying3 h2
 obtain rfl:v2=.int .i64 m:=by simpa using e2
 exact⟨⟨A,(aa,ac),R,(ra,rc),m⟩,rfl,⟨hA,hR⟩,hq⟩
theorem open_res {base:Nat} {v:Value} {d:DataW H} {ps:List MemPlace} (hv:wv prog W .any base 38 v) (h:DataW.Trod enc prog W 0 (fun _=>true) true 38 v d ps):∃r:RsI,v=r.v∧rsY.sub r W∧QR r:=
 jH rsY QR underlying38 (by kernel_rfl) rU hv h
theorem open_acc {base:Nat} {v:Value} {d:DataW H} {ps:List MemPlace} (hv:wv prog W .any base 33 v) (h:DataW.Trod enc prog W 0 (fun _=>true) true 33 v d ps):∃a:AcI,v=a.v∧aE a.iv a.it W:=by
 obtain⟨a,h1,h2,_⟩:=jH acY (fun _=>True) underlying33 (by kernel_rfl) rR hv h;exact⟨a,h1,h2⟩
end
open Go.RowKit Go.Lib

theorem dH {p:List Nd→Bool} {c:Co} (h:aB p c=true):(∀a∈c.1,cG (acN a)=true)∧(∀r∈c.2.1,bm (reN r)=true):=by
 obtain⟨_,_,_,_,h1,_,h2,_⟩:=aL h;refine⟨fun a ha=>?_,fun r hr=>?_⟩
 ·have:=wo.1 h1 a ha
  unfold eU at this;rw[wh] at this;exact this.1
 ·have:=wo.1 h2 r hr
  rw[wh] at this;have:=this.1;unfold dJ fM at this;simp only[wh] at this;exact this.1.1
theorem qh {o:List UInt8} (h:cG o=true):cP o=true∧bC (aO o) (aZ o) []=o∧aO o≠[]∧bB (aO o) (aZ o) []=true:=by
 unfold cG bm at h;simp only[wh,decide_eq_true_eq] at h;obtain⟨⟨h1,h2⟩,h3,h4⟩:=h
 have hr:aP o=[]:=by simpa using h4
 have hl:aO o≠[]:=by simpa using h3
 have hc:=de h1;rw[hr] at h2 hc;exact⟨h1,h2,hl,hc⟩
theorem uL {s:List UInt8} (hs:dM s=true):s≠[]:=by
 rintro rfl;exact absurd hs (by decide)
theorem tZ {o s:List UInt8} (ho:cG o=true) (hs:dM s=true):fM (o++47 :: s)=true∧db (o++47 :: s)=o:=by
 obtain⟨h1,h2,h3,h4⟩:=qh ho;have xM:=uL hs
 have hc:bB (aO o) (aZ o) s=true:=by
  unfold bB at h4 ⊢;simp only[wh] at h4;rw[h4.1.1,hs,h4.2,Bool.or_true]
  rfl
 have e:bC (aO o) (aZ o) s=bC (aO o) (aZ o) []++47 :: s:=by unfold bC;simp[xM]
 rw[h2] at e;obtain⟨q1,q2,q3,q4⟩:=td hc;rw[e] at q1 q2 q3 q4
 constructor
 ·unfold fM bm
  rw[q1,q2,q3,q4,e]
  simp[h3,xM]
 ·unfold db
  rw[if_pos q1,q2,q3,h2]
theorem kk:∀(k:Nat) (l:List UInt8),l.length≤k→(∀c∈l,32≤c.toNat∧c.toNat<127)→txP l=true
 | _,[],_,_=>lW
 | 0,c :: l,hk,_=>by simp at hk
 | k+1,c :: l,hk,h=>by
  obtain⟨h1,h2⟩:=h c (List.mem_cons_self ..);rw[jz _ (by simp),Lib.decodeL_ascii c l (by omega),if_neg]
  ·exact kk k l (by simpa using hk) fun x hx=>h x (List.mem_cons_of_mem _ hx)
  ·rintro (⟨h3,_⟩ | h3)
   ·simp only at h3
    omega
   ·have:dI c.toNat=true:=by
     unfold dI;rw[if_neg (by omega),decide_eq_true (by omega:c.toNat≤1114111),decide_eq_true (by omega:c.toNat<55296)]
     have e1:(c.toNat==65534)=false:=beq_eq_false_iff_ne.2 (by omega)
     have e2:(c.toNat==65535)=false:=beq_eq_false_iff_ne.2 (by omega)
     rw[e1,e2]
     rfl
    rw[this] at h3
    cases h3
theorem kX {c:UInt8} (h:ne c=true):48≤c.toNat∧c.toNat≤57:=by
 unfold ne at h
 simpa using h
theorem mj {n:Nat} (h:n≤9007199254740991):dM (114 :: decDigits n)=true:=by
 have hd:=tM n;have hl:=sJ h
 have ha:∀c∈(114:UInt8) :: decDigits n,32≤c.toNat∧c.toNat<127:=by
  intro c hc
  rcases List.mem_cons.1 hc with rfl | hc
  ·decide
  ·have:=kX (wo.1 hd c hc)
   omega
 unfold dM;rw[kk _ _ (Nat.le_refl _) ha,decide_eq_true (by simp only[wC];omega),wo.2 (fun c hc=>decide_eq_true (ha c hc).1)]
 rfl
theorem jG (R:List Re) (t:List UInt8):∀(f n:Nat),fiG reN R (nmR t (bo R t f n))=none∨∀i<f,(fiG reN R (nmR t (n+i))).isSome=true
 | 0,n=>.inr fun i hi=>absurd hi (Nat.not_lt_zero i)
 | f+1,n=>by
  unfold bo
  cases h:(fiG reN R (nmR t n)).isSome with
  | false=>
   left
   simp only[wz,if_false]
   simpa using h
  | true=>
   simp only[if_true]
   rcases jG R t f (n+1) with h1 | h1
   ·exact .inl h1
   ·refine .inr fun i hi=>?_
    cases i with
    | zero=>exact h
    | succ i=>
     have:=h1 i (by omega)
     rwa [show n+1+i=n+(i+1) by omega] at this
theorem nu (R:List Re) (t:List UInt8) (n:Nat):fiG reN R (nmR t (bo R t (R.length+1) n))=none:=by
 rcases jG R t (R.length+1) n with h | h
 ·exact h
 ·have:=eo h
  omega
structure BindOk (c:Co) (o r:List UInt8) (s:List UInt8) (x:Co):Prop where
 e:x=(c.1,puO reN c.2.1 (sq (o++47 :: s)),x.2.2)
 free:fiG reN c.2.1 (o++47 :: s)=none
 res:dM s=true
 len:c.2.1.length≤15
 m1:c.2.2≤x.2.2
 m2:x.2.2<cg
 nm:r=[]∨(s=r∧x.2.2=c.2.2)
theorem te {p:List Nd→Bool} {c:Co} {o r:List UInt8} (h:(bZ p c o r).2.2=0):aB p c=true∧(∃a∈c.1,acN a=o)∧∃s,(bZ p c o r).2.1=o++47 :: s∧BindOk c o r s (bZ p c o r).1:=by
 unfold bZ at h ⊢
 cases hc:aB p c with
 | false=>rw[hc] at h;exact absurd h (by simp)
 | true=>
  rw[hc] at h;simp only[if_true] at h ⊢;obtain⟨_,_,yh,xT,_⟩:=aL hc
  cases ha:(fiG acN c.1 o).isSome with
  | false=>rw[ha] at h;exact absurd h (by simp)
  | true=>
   rw[ha] at h;simp only[if_true] at h ⊢;obtain⟨a,ha⟩:=Option.isSome_iff_exists.1 ha;refine⟨trivial,⟨a,cI ha⟩,?_⟩
   cases hr:(r.isEmpty||bB [] [97] r) with
   | false=>rw[hr] at h;exact absurd h (by simp)
   | true=>
    rw[hr] at h;simp only[if_true] at h ⊢
    cases hf:(fiG reN c.2.1 (o++47 :: r)).isSome with
    | true=>rw[hf] at h;exact absurd h (by simp)
    | false=>
     rw[hf] at h;simp only[wz,if_false] at h ⊢
     by_cases hl:c.2.1.length≤15
     ·rw[if_pos hl] at h ⊢
      cases he:r.isEmpty with
      | false=>
       simp only[wz,if_false] at h ⊢;rw[he,wD] at hr;unfold bB at hr;simp only[wh,he,wD] at hr;exact⟨r,rfl,⟨rfl,by simpa using hf,hr.1.2,hl,Int.le_refl _,xT,.inr ⟨rfl,rfl⟩⟩⟩
      | true=>
       rw[he] at h;simp only[if_true] at h ⊢;obtain⟨N,hN⟩:=e_ (bo c.2.1 o (c.2.1.length+1) (c.2.2.toNat+1));have xU:=(eI c.2.1 o (c.2.1.length+1) (c.2.2.toNat+1)).1;have xN:=nu c.2.1 o (c.2.2.toNat+1);rw[hN] at h xU xN ⊢
       by_cases hm:(N:Int)<cg
       ·rw[if_pos hm] at h ⊢
        have xV:r=[]:=(by simpa using he);have xW:N≤9007199254740991:=(by unfold cg at hm;omega);exact⟨114 :: decDigits N,rfl,⟨rfl,xN,mj xW,hl,by show c.2.2≤(N:Int);omega,hm,.inl xV⟩⟩
       ·rw[if_neg hm] at h
        exact absurd h (by simp)
     ·rw[if_neg hl] at h
      exact absurd h (by simp)
theorem re {p:List Nd→Bool} {c:Co} {o r:List UInt8} (h:(bZ p c o r).2.2≠0):(bZ p c o r).1=co0∧(bZ p c o r).2.1=[]:=by
 unfold bZ at h ⊢
 split
 ·rename_i h1
  rw[if_pos h1] at h
  split
  ·rename_i h2
   rw[if_pos h2] at h
   split
   ·rename_i h3
    rw[if_pos h3] at h
    split
    ·exact⟨rfl,rfl⟩
    ·rename_i h4
     rw[if_neg h4] at h
     split
     ·rename_i h5
      rw[if_pos h5] at h
      split
      ·rename_i h6
       rw[if_pos h6] at h
       split
       ·rename_i h7
        rw[if_pos h7] at h;exact absurd rfl h
       ·exact⟨rfl,rfl⟩
      ·rename_i h6
       rw[if_neg h6] at h;exact absurd rfl h
     ·exact⟨rfl,rfl⟩
   ·exact⟨rfl,rfl⟩
  ·exact⟨rfl,rfl⟩
 ·exact⟨rfl,rfl⟩

section
variable {α:Type} {nm:α→List UInt8}
theorem oG {L K:List α} (h:L.map nm=K.map nm) (t:List UInt8):poG nm L t=poG nm K t:=by
 have e1:=jl (f:=nm) (nm:=id) L t;have e2:=jl (f:=nm) (nm:=id) K t;rw[h] at e1;exact e1.symm.trans e2
theorem oi {L K:List α} (h:L.map nm=K.map nm):chG nm L=chG nm K:=by
 have e1:=cT nm id L;have e2:=cT nm id K;rw[h] at e1;exact e1.symm.trans e2
end
section
variable {α:Type} [Inhabited α] {nm:α→List UInt8}
theorem pL {L:List α} {x xo:α} (hc:chG nm L=true) (hL:∀y∈L,bm (nm y)=true) (hf:fiG nm L (nm x)=some xo):
  xo∈L∧nm xo=nm x∧(puO nm L x).map nm=L.map nm∧chG nm (puO nm L x)=true∧fiG nm (puO nm L x) (nm x)=some x∧puO nm (puO nm L x) xo=L:=by
 obtain⟨hw,hn⟩:=cI hf
 have hx:bm (nm x)=true:=by rw[←hn];exact hL xo hw
 have ht:=dE hc ⟨xo,hw,hn⟩;obtain⟨hp,hj,_⟩:=cX ht;have hg:=(dZ hc).1 ht;rw[hf] at hg
 have xX:L[poG nm L (nm x)]=xo:=by
  have:=Option.some.inj hg;rw[this]
  simp[List.getD,hp]
 obtain⟨k,hk⟩:=e_ (poG nm L (nm x))
 have e:puO nm L x=L.set k x:=by
  rw[ru hL hx];unfold puG;rw[ht,hk]
  rfl
 have xE:k<L.length:=by rw[←hk];exact hp
 have xO:L[k]=xo:=by subst hk;exact xX
 have hm:(L.set k x).map nm=L.map nm:=by
  rw[List.map_set]
  have:nm x=(L.map nm)[k]'(by simpa using xE):=by rw[wA,xO,hn]
  rw[this,wE]
 have xF:chG nm (L.set k x)=true:=by rw[oi hm];exact hc
 have xY:x∈L.set k x:=List.mem_set xE x
 have xZ:∀y∈L.set k x,bm (nm y)=true:=fun y hy=>by
  rcases List.mem_or_eq_of_mem_set hy with h1 | rfl
  ·exact hL y h1
  ·exact hx
 have xP:poG nm (L.set k x) (nm x)=k:=by rw[oG hm,hk]
 have xQ:=dE xF ⟨x,xY,rfl⟩;refine⟨hw,hn,by rw[e,hm],by rw[e];exact xF,?_,?_⟩
 ·rw[e,(dZ xF).1 xQ,xP]
  simp[List.getD,xE]
 ·rw[e,ru xZ (by rw[hn];exact hx)]
  unfold puG;rw[hn,xQ,xP];simp only[if_true,List.set_set];rw[←xO,wE]
end
theorem qm {p:List Nd→Bool} {c:Co} {r:Re} (h:(bh p c r).2=0):∃xo,fiG reN c.2.1 r.j=some xo∧fiG reN (bh p c r).1.2.1 r.j=some r∧bh p (bh p c r).1 xo=(c,0)∧aB p (bh p c r).1=true∧aB p c=true∧(bh p c r).1=(c.1,puO reN c.2.1 r,c.2.2):=by
 unfold bh at h
 cases hc:aB p c with
 | false=>rw[hc] at h;exact absurd h (by simp)
 | true=>
  rw[hc] at h;simp only[if_true] at h
  cases hf:fiG reN c.2.1 r.j with
  | none=>rw[hf] at h;exact absurd h (by simp)
  | some xo=>
   rw[hf] at h;simp only[wF,if_true] at h
   cases hr:dJ p r with
   | false=>rw[hr] at h;exact absurd h (by simp)
   | true=>
    have hx:bh p c r=((c.1,puO reN c.2.1 r,c.2.2),0):=by
     unfold bh;rw[hc,hf,hr]
     rfl
    rw[hx];obtain⟨_,hR⟩:=dH hc;obtain⟨f1,f2,f3,f4,f5,f6,f7,f8⟩:=aL hc;obtain⟨hw,hn,hm,xG,xy,xt⟩:=pL (nm:=reN) (x:=r) f8 hR hf;have xp:(puO reN c.2.1 r).length=c.2.1.length:=(by have:=congrArg wG hm;simpa using this)
    have xu:a9 c.1 r=true:=by
     have:=wo.1 f7 xo hw;rw[wh] at this;have:=this.2;unfold a9 at this ⊢
     have e:xo.j=r.j:=hn
     rw[e] at this;exact this
    have xw:aB p (c.1,puO reN c.2.1 r,c.2.2)=true:=by
     unfold aB dd;simp only[wh,decide_eq_true_eq];refine⟨f1,by rw[xp];exact f2,f3,f4,f5,f6,?_,xG⟩
     refine wo.2 fun y hy=>?_
     rcases dr hy with hy | rfl
     ·exact wo.1 f7 y hy
     ·rw[hr,xu]
      rfl
    refine⟨xo,rfl,xy,?_,xw,rfl,rfl⟩
    have xH:dJ p xo=true:=by
     have:=wo.1 f7 xo hw;rw[wh] at this;exact this.1
    have xx:fiG reN (puO reN c.2.1 r) xo.j=some r:=by
     have e:xo.j=r.j:=hn
     rw[e];exact xy
    unfold bh
    simp only
    rw[xw,xx,xH,xt]
    rfl
theorem qH {p:List Nd→Bool} {c:Co} {r:Re} (h:(bh p c r).2≠0):(bh p c r).1=co0:=by
 unfold bh at h ⊢
 split
 ·rename_i h1
  rw[if_pos h1] at h
  split
  ·rename_i h2
   rw[if_pos h2] at h
   split
   ·rename_i h3
    rw[if_pos h3] at h;exact absurd rfl h
   ·rfl
  ·rfl
 ·rfl
theorem qI {p:List Nd→Bool} {c:Co} {a:Ac} (h:(bn p c a).2=0):∃xo,fiG acN c.1 a.1=some xo∧bn p (bn p c a).1 xo=(c,0)∧aB p (bn p c a).1=true∧aB p c=true∧(bn p c a).1=(puO acN c.1 a,c.2.1,c.2.2):=by
 unfold bn at h
 cases hc:aB p c with
 | false=>rw[hc] at h;exact absurd h (by simp)
 | true=>
  rw[hc] at h;simp only[if_true] at h
  cases hf:fiG acN c.1 a.1 with
  | none=>rw[hf] at h;exact absurd h (by simp)
  | some xo=>
   rw[hf] at h;simp only[wF,if_true] at h
   cases hr:eU a with
   | false=>rw[hr] at h;exact absurd h (by simp)
   | true=>
    have hx:bn p c a=((puO acN c.1 a,c.2.1,c.2.2),0):=by
     unfold bn;rw[hc,hf,hr]
     rfl
    rw[hx];obtain⟨hA,_⟩:=dH hc;obtain⟨f1,f2,f3,f4,f5,f6,f7,f8⟩:=aL hc;obtain⟨hw,hn,hm,xG,xy,xt⟩:=pL (nm:=acN) (x:=a) f6 (fun y hy=>gn (hA y hy)) hf;have xp:(puO acN c.1 a).length=c.1.length:=(by have:=congrArg wG hm;simpa using this)
    have xu:∀r:Re,a9 (puO acN c.1 a) r=a9 c.1 r:=fun r=>by
     have e:∀A:List Ac,a9 A r=(A.map acN).any fun n=>n==db r.j:=fun A=>by
      unfold a9;rw[List.any_map]
      rfl
     rw[e,e,hm]
    have xw:aB p (puO acN c.1 a,c.2.1,c.2.2)=true:=by
     unfold aB dd;simp only[wh,decide_eq_true_eq,xu];refine⟨by rw[xp];exact f1,f2,f3,f4,?_,xG,f7,f8⟩
     refine wo.2 fun y hy=>?_
     rcases dr hy with hy | rfl
     ·exact wo.1 f5 y hy
     ·exact hr
    refine⟨xo,rfl,?_,xw,rfl,rfl⟩
    have xH:eU xo=true:=wo.1 f5 xo hw
    have xx:fiG acN (puO acN c.1 a) xo.1=some a:=by
     have e:xo.1=a.1:=hn
     rw[e];exact xy
    unfold bn
    simp only
    rw[xw,xx,xH,xt]
    rfl
theorem qr {p:List Nd→Bool} {c:Co} {a:Ac} (h:(bn p c a).2≠0):(bn p c a).1=co0:=by
 unfold bn at h ⊢
 split
 ·rename_i h1
  rw[if_pos h1] at h
  split
  ·rename_i h2
   rw[if_pos h2] at h
   split
   ·rename_i h3
    rw[if_pos h3] at h;exact absurd rfl h
   ·rfl
  ·rfl
 ·rfl
/-! ### who gets an account's messages -/

theorem sQ {T:TrI} {w:World} (hs:trY.sub T w) (hf:ku (trD T)):ka af T w:=fun W hb=>qO T W (trY.subRet _ _ _ hs hb) hf
structure ReFit (r:Re):Prop where
 j:r.j.length≤10000
 st:r.st.length≤1000
 sx:∀s∈r.st,s.length≤10000
 ld:r.ld.length≤1000
 tr:∀t∈r.ld,ku t
theorem ku.sub {x:RsI} (h:ReFit x.d):∀t∈x.ld,ku (trD t):=fun t ht=>h.tr (trD t) (wq ht)
theorem ReFit.ldl {x:RsI} (h:ReFit x.d):x.ld.length≤1000:=by
 have:(x.ld.map trD).length≤1000:=h.ld
 rwa [wu] at this
theorem ku.twin {t:TrI} (h:ku (trD t)):t.1.length≤100000∧∀x∈t.1,(ndA x).length≤100000:=by
 have h1:=h.1;rw[wu] at h1;refine⟨by omega,fun x hx=>?_⟩;have:x.1.2.2.2.1.length≤1000:=(h.2 x.1 (wq hx)).at'.1
 show x.1.2.2.2.1.length≤_
 omega
theorem ReFit.rs {x:RsI} {w:World} (hs:rsY.sub x w) (h:ReFit x.d):RsFit af x w:=
 ⟨hs,h.j,h.st,h.sx,h.ldl,fun t ht=>sQ (hs.1.2.2 t ht) (ku.sub h t ht)⟩
theorem ReFit.tw {x:RsI} (h:ReFit x.d):gd x:=⟨by have:=h.ldl;omega,by have:x.st.length≤1000:=h.st;omega,fun t ht=>(ku.sub h t ht).twin⟩
theorem ReFit.eq {x:RsI} (h:ReFit x.d):EqR x:=h.tw
structure ItFit (x:It):Prop where
 j:x.j.length≤10000
 n:x.n.length≤10000
 g:x.g.length≤1000
 gx:∀s∈x.g,s.length≤10000
structure AcFit (a:Ac):Prop where
 j:a.1.length≤10000
 l:a.2.1.length≤1000
 it:∀p∈a.2.1,ItFit p
theorem AcFit.small {x:AcI} (h:AcFit x.d):cN x.it:=by
 have h1:(x.it.map Prod.fst).length≤1000:=h.l;rw[wu] at h1;refine⟨h1,fun p hp=>?_⟩;have h2:=h.it p.1 (wq hp);exact⟨h2.j,h2.n,h2.g,h2.gx⟩
theorem AcFit.eq {x:AcI} (h:AcFit x.d):EqA x:=by
 have h1:=h.small;exact⟨by have:=h1.1;omega,fun p hp=>by have:=(h1.2 p hp).2.2.1;omega⟩
structure CoFitD (c:Co):Prop where
 zA:c.1.length≤1000
 zR:c.2.1.length≤1000
 ac:∀a∈c.1,AcFit a
 rs:∀r∈c.2.1,ReFit r
theorem CoFitD.zA' {c:CoI} (h:CoFitD c.d):c.A.length≤1000:=by
 have:(c.A.map AcI.d).length≤1000:=h.zA
 rwa [wu] at this
theorem CoFitD.zR' {c:CoI} (h:CoFitD c.d):c.R.length≤1000:=by
 have:(c.R.map RsI.d).length≤1000:=h.zR
 rwa [wu] at this
theorem CoFitD.ac' {c:CoI} (h:CoFitD c.d):∀a∈c.A,AcFit a.d:=fun _ ha=>h.ac _ (wq ha)
theorem CoFitD.rs' {c:CoI} (h:CoFitD c.d):∀r∈c.R,ReFit r.d:=fun _ hr=>h.rs _ (wq hr)
theorem CoFitD.fit {c:CoI} {w:World} (h:CoFitD c.d) (hs:c.sub w):CoFit af c w:=
 ⟨hs,h.zA',h.zR',fun a ha=>⟨(h.ac' a ha).j,(h.ac' a ha).small⟩,fun r hr=>⟨(h.rs' r hr).rs (hs.2.2.2 r hr),(h.rs' r hr).tw⟩⟩
theorem CoFitD.eq {c:CoI} (h:CoFitD c.d):EqC c:=
 ⟨by have:=h.zA';omega,by have:=h.zR';omega,fun a ha=>(h.ac' a ha).eq,fun r hr=>(h.rs' r hr).eq⟩
theorem fP:CoFitD co0:=⟨ws _,ws _,(fun a ha=>by cases ha),(fun r hr=>by cases hr)⟩
theorem l9 {t:List UInt8} (h:t.length≤10000):ReFit (sq t):=⟨h,ws _,(fun s hs=>by cases hs),ws _,(fun s hs=>by cases hs)⟩
theorem tS {s:List UInt8} (h:dM s=true):s.length≤64:=by
 unfold dM at h;simp only[wh,decide_eq_true_eq] at h;exact h.1.2
theorem CoFitD.put {c:Co} {r:Re} {m:Int} (h:CoFitD c) (hr:ReFit r) (hz:c.2.1.length≤900):CoFitD (c.1,puO reN c.2.1 r,m):=
 ⟨h.zA,by have:=pg (nm:=reN) (L:=c.2.1) (x:=r);show (puO reN c.2.1 r).length≤1000;omega,h.ac,fun y hy=>by rcases dr hy with hy | rfl;exact h.rs y hy;exact hr⟩
theorem CoFitD.putA {c:Co} {a:Ac} (h:CoFitD c) (ha:AcFit a) (hz:c.1.length≤900):CoFitD (puO acN c.1 a,c.2.1,c.2.2):=
 ⟨by have:=pg (nm:=acN) (L:=c.1) (x:=a);show (puO acN c.1 a).length≤1000;omega,h.zR,(fun y hy=>by rcases dr hy with hy | rfl;exact h.ac y hy;exact ha),h.rs⟩
theorem CoFitD.bind {p:List Nd→Bool} {c:Co} {o r:List UInt8} (h:CoFitD c) (ho:o.length≤4000):CoFitD (bZ p c o r).1:=by
 by_cases he:(bZ p c o r).2.2=0
 ·obtain⟨hc,-,s,hs,hb⟩:=te he
  rw[hb.e];have yd:=(aL hc).2.1;exact h.put (l9 (by have:=tS hb.res;rw[List.length_append,wC];omega)) (by omega)
 ·rw[(re he).1]
  exact fP
theorem CoFitD.with' {p:List Nd→Bool} {c:Co} {r:Re} (h:CoFitD c) (hr:ReFit r):CoFitD (bh p c r).1:=by
 by_cases he:(bh p c r).2=0
 ·obtain⟨-,-,-,-,-,hc,e⟩:=qm he
  rw[e];have yd:=(aL hc).2.1;exact h.put hr (by omega)
 ·rw[qH he]
  exact fP
theorem CoFitD.keep {p:List Nd→Bool} {c:Co} {a:Ac} (h:CoFitD c) (ha:AcFit a):CoFitD (bn p c a).1:=by
 by_cases he:(bn p c a).2=0
 ·obtain⟨-,-,-,-,hc,e⟩:=qI he
  rw[e];have h8:=(aL hc).1;exact h.putA ha (by omega)
 ·rw[qr he]
  exact fP
/-! ### what the statements go through -/
structure NdSm (n:Nd):Prop where
 sp:n.2.1.length≤300
 nm:n.2.2.1.length≤300
 tx:n.2.2.2.2.1.length≤300
 al:n.2.2.2.1.length≤30
 at':∀a∈n.2.2.2.1,a.1.length≤300∧a.2.1.length≤300∧a.2.2.length≤300
def ue (t:List Nd):Prop:=t.length≤20∧∀n∈t,NdSm n
structure ReSm (r:Re):Prop where
 j:r.j.length≤300
 ld:r.ld.length≤18
 st:r.st.length≤12
 tr:∀t∈r.ld,ue t
 sx:∀s∈r.st,s.length≤300
structure AcSm (a:Ac):Prop where
 j:a.1.length≤300
 g:cL a.2.1=false
structure CoSm (c:Co):Prop where
 zA:c.1.length≤10
 zR:c.2.1.length≤18
 ac:∀a∈c.1,AcSm a
 rs:∀r∈c.2.1,ReSm r
theorem NdSm.fit {n:Nd} (h:NdSm n) (hm:n.2.2.2.2.2≤9223372036854775807):NdFit n:=
 ⟨by have:=h.sp;omega,by have:=h.nm;omega,by have:=h.tx;omega,⟨by have:=h.al;omega,fun a ha=>by have:=h.at' a ha;omega⟩,hm⟩
theorem ReSm.fit {x:RsI} (h:ReSm x.d) (hq:QR x):ReFit x.d:=by
 refine⟨by have:=h.j;omega,by have:=h.st;omega,fun s hs=>by have:=h.sx s hs;omega,by have:=h.ld;omega,fun t ht=>?_⟩;obtain⟨T,hT,rfl⟩:=wt.1 ht;have h1:=h.tr (trD T) (wq hT);refine⟨by have:=h1.1;omega,fun n hn=>?_⟩;obtain⟨N,hN,rfl⟩:=wt.1 hn;exact(h1.2 N.1 (wq hN)).fit (hq T hT N hN)
theorem AcSm.fit {a:Ac} (h:AcSm a):AcFit a:=by
 obtain⟨h1,h2⟩:=o9 h.g;refine⟨by have:=h.j;omega,by omega,fun p hp=>?_⟩;obtain⟨k1,k2,k3,k4⟩:=h2 p hp;exact⟨by omega,by omega,by omega,fun s hs=>by have:=k4 s hs;omega⟩
theorem CoSm.fit {c:CoI} (h:CoSm c.d) (hq:∀r∈c.R,QR r):CoFitD c.d:=by
 refine⟨by have:=h.zA;omega,by have:=h.zR;omega,fun a ha=>(h.ac a ha).fit,fun r hr=>?_⟩;obtain⟨x,hx,rfl⟩:=wt.1 hr;exact(h.rs x.d (wq hx)).fit (hq x hx)
end Go.Proofs.YtjgeiieiinmdnaaGreatDoor
