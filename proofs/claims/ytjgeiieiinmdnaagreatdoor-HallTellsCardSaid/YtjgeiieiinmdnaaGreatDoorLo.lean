/- HaOp, HbP, HbQ, HbF: put together by mergetpl.py. -/
import Derived.Test.YtjgeiieiinmdnaaGreatDoorRoOp
import Derived.Test.YtjgeiieiinmdnaaGreatDoorLd
import Derived.Lib.TrimAscii
import Derived.Test.YtjgeiieiinmdnaaGreatDoorLj
import Derived.Test.YtjgeiieiinmdnaaGreatDoorLl
import Derived.Test.YtjgeiieiinmdnaaGreatDoorLn
import Derived.Test.YtjgeiieiinmdnaaGreatDoorLk
import Derived.Test.YtjgeiieiinmdnaaGreatDoorKn
open Go.Proofs.Tryz
open List renaming mem_map_of_mem→wq,mem_map→ws,length_map→wt,range→wv,getElem?_eq_getElem→ww,mem_range→wy
open Nat renaming zero_le→wu
namespace Go.Proofs.YtjgeiieiinmdnaaGreatDoor
set_option maxRecDepth 100000
open Go.RowKit Go.ChangeShapes Go.WideShapes Go.ChangeAt Go.Deep Go.Joins

theorem j8 {H:Type} {enc:TypeId×Value→H} {W:World} {α:Type} (Y:Ly α) (Q:α→Prop) {T e:TypeId} (hu:prog.underlying T=some (.slice e)) (ce:prog.cellsOf e=Y.n) (hn:0<Y.n)
  (one:∀(fuel:Nat) (cs:List Value) (d:DataW H×List MemPlace),cs.length=Y.n→DataW.trod enc prog W 0 (fun _=>true) true fuel e cs=some d→∃x:α,cs=Y.cs x∧Y.sub x W∧Q x)
  {v:Value} {fuel:Nat} {d:DataW H×List MemPlace} (hf:DataW.trod enc prog W 0 (fun _=>true) true fuel T [v]=some d):∃(M:List α) (a:Option Addr) (c:Nat),v=.slice a M.length c∧IsL Y (.slice a M.length c) M W∧∀x∈M,Q x:=by
 obtain⟨d,ps⟩:=d
 rcases open_slice hu hf with ⟨hcs,_⟩ | ⟨x,len,cap,m,n,D,Pl,hcs,_,hl,hm,hmm,_,hx⟩
 ·obtain rfl : v = .slice none 0 0 := by simpa using hcs
  exact⟨[],none,0,rfl,IsL.nil Y W,fun x hx=>by cases hx⟩
 ·obtain rfl : v = .slice (some x) len cap := by simpa using hcs
  rw[if_pos rfl] at hmm;subst hmm;rw[ce] at hx
  have each:∀i,i<m→∃p:α,(∀c,c<Y.n→W.cell? ((x.add (i*Y.n)).add c)=(Y.cs p)[c]?)∧Y.sub p W∧Q p:=by
   intro i hi;obtain⟨cs',h1,h2⟩:=hx i hi;obtain⟨_,hlen,hcell⟩:=World.cells?_some h1;obtain⟨p,rfl,hp⟩:=one _ _ _ hlen h2;exact⟨p,fun c hc=>hcell c hc,hp⟩
  by_cases h0:len=0
  ·subst h0
   exact⟨[],some x,m,rfl,⟨⟨by rw[dv],some x,m,rfl,(fun h=>by cases h),.inl rfl⟩,⟨some x,m,rfl,wu _⟩,fun p hp=>by cases hp⟩,fun p hp=>by cases hp⟩
  obtain⟨p0,_⟩:=each 0 (by omega)
  haveI:Inhabited α:=⟨p0⟩
  obtain⟨q,hq⟩:=choose_lt each
  have hql:((wv len).map q).length=len:=by simp
  refine⟨(wv len).map q,some x,m,by rw[hql],⟨?_,⟨some x,m,by rw[hql],by rw[hql];exact hl⟩,fun p hp=>?_⟩,fun p hp=>?_⟩
  ·rw[hql]
   refine⟨by rw[dv,hql],some x,m,rfl,(fun h=>by cases h),?_⟩
   ·right
    obtain⟨b,off,spot⟩:=x
    have hspot:spot=none:=by
     have:=(hq 0 (by omega)).1 0 hn;rw[ww (by rw[Y.len];exact hn)] at this
     simpa [Addr.add] using World.cell?_spot this
    subst hspot
    have hc:∀i,i<m→∀c,c<Y.n→W.cell? ⟨b,off+(i*Y.n+c),none⟩=(Y.cs (q i))[c]?:=fun i hi c hc=>by
     have h1:=(hq i hi).1 c hc;rw[Go.WideShapes.add_plain,Go.WideShapes.add_plain,Nat.add_assoc] at h1;exact h1
    have hb:b<W.heap.size:=by
     rcases Nat.lt_or_ge b W.heap.size with h | h
     ·exact h
     ·have:=hc 0 (by omega) 0 hn
      rw[ww (by rw[Y.len];exact hn)] at this
      simp[World.cell?,Array.getElem?_eq_none h] at this
    refine⟨b,off,rfl,hb,fun j hj=>?_⟩;rw[dv,hql] at hj;have hj1:j / Y.n<((wv len).map q).length:=(by rw[hql];exact(Nat.div_lt_iff_lt_mul hn).2 hj);have hj2:j % Y.n<Y.n:=Nat.mod_lt _ hn;have e1:=fp Y _ (j / Y.n) hj1 (j % Y.n) hj2;rw[List.getElem_map,List.getElem_range] at e1;have e2:=hc (j / Y.n) (by rw[hql] at hj1;omega) (j % Y.n) hj2;have e3:j / Y.n*Y.n+j % Y.n=j:=(by rw[Nat.mul_comm];exact Nat.div_add_mod j Y.n);rw[e3] at e1 e2;rw[e2,←e1];exact ww _
  ·obtain⟨i,hi,rfl⟩:=ws.1 hp
   have:=wy.1 hi;exact(hq i (by omega)).2.1
  ·obtain⟨i,hi,rfl⟩:=ws.1 hp
   have:=wy.1 hi;exact(hq i (by omega)).2.2
abbrev QN (x:NdI):Prop:=x.1.2.2.2.2.2≤9223372036854775807
abbrev QT (T:TrI):Prop:=∀x∈T.1,QN x
abbrev QR (r:RsI):Prop:=∀t∈r.ld,QT t
section
variable {H:Type} {enc:TypeId×Value→H} {W:World}
theorem ui (fuel:Nat) (cs:List Value) (d:DataW H×List MemPlace) (hl:cs.length=3) (h:DataW.trod enc prog W 0 (fun _=>true) true fuel 160 cs=some d):∃x:At,cs=atY.cs x∧atY.sub x W∧True:=by
 obtain⟨xs,k,hk,hxy,_,hxl,hf⟩:=DataW.trod_struct underlying160 h
 match cs,hl with
 | [v0,v1,v2],_=>
  have i1:prog.cellsOf 9=1:=by kernel_rfl
  have i4:prog.cellsOf 3=1:=by kernel_rfl
  have g0:=hf 0 _ rfl;have g1:=hf 1 _ rfl;have g2:=hf 2 _ rfl
  simp[i1] at g0 g1 g2
  match xs,hxl,g0,g1,g2 with
  | [y0,y1,y2],_,g0,g1,g2=>
   obtain⟨s0,e0,_,z0⟩:=DataW.trod_string underlying9 g0
   obtain rfl:v0=.string s0:=by simpa using e0
   obtain⟨s1,e1,_,z1⟩:=DataW.trod_string underlying9 g1
   obtain rfl:v1=.string s1:=by simpa using e1
   obtain⟨s2,e2,_,z2⟩:=DataW.trod_string underlying9 g2
   obtain rfl:v2=.string s2:=by simpa using e2
   exact⟨(s0.data.toList,s1.data.toList,s2.data.toList),by simp[atY],trivial,trivial⟩
theorem mD {v:Value} {fuel:Nat} {d:DataW H×List MemPlace} (hf:DataW.trod enc prog W 0 (fun _=>true) true fuel 112 [v]=some d):∃(M:List At) (a:Option Addr) (c:Nat),v=.slice a M.length c∧IsL atY (.slice a M.length c) M W∧∀x∈M,True:=
 j8 atY (fun _=>True) underlying112 (by kernel_rfl) (by decide) ui hf
theorem vi (fuel:Nat) (cs:List Value) (d:DataW H×List MemPlace) (hl:cs.length=6) (h:DataW.trod enc prog W 0 (fun _=>true) true fuel 114 cs=some d):∃x:NdI,cs=ndY.cs x∧ndY.sub x W∧QN x:=by
 obtain⟨xs,k,hk,hxy,_,hxl,hf⟩:=DataW.trod_struct underlying114 h
 match cs,hl with
 | [v0,v1,v2,v3,v4,v5],_=>
  have i1:prog.cellsOf 9=1:=by kernel_rfl
  have i4:prog.cellsOf 3=1:=by kernel_rfl
  have i2:prog.cellsOf 5=1:=by kernel_rfl
  have i3:prog.cellsOf 112=1:=by kernel_rfl
  have g0:=hf 0 _ rfl;have g1:=hf 1 _ rfl;have g2:=hf 2 _ rfl;have g3:=hf 3 _ rfl;have g4:=hf 4 _ rfl;have g5:=hf 5 _ rfl
  simp[i1,i2,i3,i4] at g0 g1 g2 g3 g4 g5
  match xs,hxl,g0,g1,g2,g3,g4,g5 with
  | [y0,y1,y2,y3,y4,y5],_,g0,g1,g2,g3,g4,g5=>
   obtain⟨n0,e0,_,z0⟩:=DataW.trod_int underlying5 g0
   obtain rfl:v0=.int .u8 n0:=by simpa using e0
   obtain⟨s1,e1,_,z1⟩:=DataW.trod_string underlying9 g1
   obtain rfl:v1=.string s1:=by simpa using e1
   obtain⟨s2,e2,_,z2⟩:=DataW.trod_string underlying9 g2
   obtain rfl:v2=.string s2:=by simpa using e2
   obtain⟨M,a,c,rfl,hM,_⟩:=mD g3;obtain⟨s4,e4,_,z4⟩:=DataW.trod_string underlying9 g4
   obtain rfl:v4=.string s4:=by simpa using e4
   obtain⟨n5,e5,_,z5⟩:=DataW.trod_int underlying3 g5
   obtain rfl:v5=.int .i64 n5:=by simpa using e5
   have w5:n5≤9223372036854775807:=by
    simp only[Lit.wf,Bool.and_eq_true,decide_eq_true_eq] at z5;exact z5.2
   exact⟨((n0,s1.data.toList,s2.data.toList,M,s4.data.toList,n5),(a,c)),by simp[ndY],hM,w5⟩
theorem nC {v:Value} {fuel:Nat} {d:DataW H×List MemPlace} (hf:DataW.trod enc prog W 0 (fun _=>true) true fuel 108 [v]=some d):∃(M:List NdI) (a:Option Addr) (c:Nat),v=.slice a M.length c∧IsL ndY (.slice a M.length c) M W∧∀x∈M,QN x:=
 j8 ndY QN underlying108 (by kernel_rfl) (by decide) vi hf
theorem uZ (fuel:Nat) (cs:List Value) (d:DataW H×List MemPlace) (hl:cs.length=1) (h:DataW.trod enc prog W 0 (fun _=>true) true fuel 108 cs=some d):∃x:TrI,cs=trY.cs x∧trY.sub x W∧QT x:=by
 match cs,hl with
 | [v],_=>
  obtain⟨M,a,c,rfl,hM,hq⟩:=nC h;exact⟨(M,(a,c)),rfl,hM,hq⟩
theorem pa {v:Value} {fuel:Nat} {d:DataW H×List MemPlace} (hf:DataW.trod enc prog W 0 (fun _=>true) true fuel 36 [v]=some d):∃(M:List TrI) (a:Option Addr) (c:Nat),v=.slice a M.length c∧IsL trY (.slice a M.length c) M W∧∀x∈M,QT x:=
 j8 trY QT underlying36 (by kernel_rfl) (by decide) uZ hf
theorem uA (fuel:Nat) (cs:List Value) (d:DataW H×List MemPlace) (hl:cs.length=6) (h:DataW.trod enc prog W 0 (fun _=>true) true fuel 38 cs=some d):∃x:RsI,cs=rsY.cs x∧rsY.sub x W∧QR x:=by
 obtain⟨xs,k,hk,hxy,_,hxl,hf⟩:=DataW.trod_struct underlying38 h
 match cs,hl with
 | [v0,v1,v2,v3,v4,v5],_=>
  have i1:prog.cellsOf 9=1:=by kernel_rfl
  have i4:prog.cellsOf 3=1:=by kernel_rfl
  have i2:prog.cellsOf 4=1:=by kernel_rfl
  have i3:prog.cellsOf 36=1:=by kernel_rfl
  have i5:prog.cellsOf 26=1:=by kernel_rfl
  have g0:=hf 0 _ rfl;have g1:=hf 1 _ rfl;have g2:=hf 2 _ rfl;have g3:=hf 3 _ rfl;have g4:=hf 4 _ rfl;have g5:=hf 5 _ rfl
  simp[i1,i2,i3,i4,i5] at g0 g1 g2 g3 g4 g5
  match xs,hxl,g0,g1,g2,g3,g4,g5 with
  | [y0,y1,y2,y3,y4,y5],_,g0,g1,g2,g3,g4,g5=>
   obtain⟨s0,e0,_,z0⟩:=DataW.trod_string underlying9 g0
   obtain rfl:v0=.string s0:=by simpa using e0
   obtain⟨b1,e1,_⟩:=DataW.trod_bool underlying4 g1
   obtain rfl:v1=.bool b1:=by simpa using e1
   obtain⟨n2,e2,_,z2⟩:=DataW.trod_int underlying3 g2
   obtain rfl:v2=.int .i64 n2:=by simpa using e2
   obtain⟨M,a,c,rfl,hM,hq⟩:=pa g3;obtain⟨b4,e4,_⟩:=DataW.trod_bool underlying4 g4
   obtain rfl:v4=.bool b4:=by simpa using e4
   obtain⟨g,ga,gc,rfl,hg,_⟩:=lB g5;exact⟨⟨s0.data.toList,b1,n2,M,(a,c),b4,g,(ga,gc)⟩,by simp[rsY],⟨hM,hg⟩,hq⟩
theorem vd (fuel:Nat) (cs:List Value) (d:DataW H×List MemPlace) (hl:cs.length=3) (h:DataW.trod enc prog W 0 (fun _=>true) true fuel 33 cs=some d):∃x:AcI,cs=acY.cs x∧acY.sub x W∧True:=by
 obtain⟨xs,k,hk,hxy,_,hxl,hf⟩:=DataW.trod_struct underlying33 h
 match cs,hl with
 | [v0,v1,v2],_=>
  have i1:prog.cellsOf 9=1:=by kernel_rfl
  have i4:prog.cellsOf 3=1:=by kernel_rfl
  have i2:prog.cellsOf 31=2:=by kernel_rfl
  have i3:prog.cellsOf 29=1:=by kernel_rfl
  have g0:=hf 0 _ rfl;have g1:=hf 1 _ rfl
  simp[i1,i2] at g0 g1
  match xs,hxl,g0,g1 with
  | [y0,y1],_,g0,g1=>
   obtain⟨s0,e0,_,z0⟩:=DataW.trod_string underlying9 g0
   obtain rfl:v0=.string s0:=by simpa using e0
   obtain⟨ys,k',hk',hxy',_,hyl,hf'⟩:=DataW.trod_struct underlying31 g1;have k0:=hf' 0 _ rfl;have k1:=hf' 1 _ rfl
   simp[i3,i4] at k0 k1
   match ys,hyl,k0,k1 with
   | [u0,u1],_,k0,k1=>
    obtain⟨M,hM⟩:=mP k0;obtain⟨a,c,rfl,_⟩:=hM.form;obtain⟨n2,e2,_,z2⟩:=DataW.trod_int underlying3 k1
    obtain rfl:v2=.int .i64 n2:=by simpa using e2
    exact⟨⟨s0.data.toList,M,(a,c),n2⟩,by simp[acY],hM,trivial⟩
theorem open_core {base:Nat} {v:Value} {d:DataW H} {ps:List MemPlace} (hv:Value.okWide prog W .any base 25 v) (h:DataW.Trod enc prog W 0 (fun _=>true) true 25 v d ps):
  ∃c:CoI,v=c.v∧c.sub W∧∀r∈c.R,QR r:=by
 obtain⟨v0,v1,v2,y0,y1,y2,n,rfl,rfl,rfl,h0,h1,h2⟩:=open_agg3 underlying25 (by kernel_rfl) (by kernel_rfl:prog.cellsOf 25=3) hv h;obtain⟨A,aa,ac,rfl,hA,_⟩:=j8 acY (fun _=>True) underlying22 (by kernel_rfl) (by decide) vd h0;obtain⟨R,ra,rc,rfl,hR,hq⟩:=j8 rsY QR underlying23 (by kernel_rfl) (by decide) uA h1;obtain⟨m,e2,_,z2⟩:=DataW.trod_int underlying3 h2
 obtain rfl:v2=.int .i64 m:=by simpa using e2
 exact⟨⟨A,(aa,ac),R,(ra,rc),m⟩,rfl,⟨hA,hR⟩,hq⟩
end
open Go.RowKit Go.Lib

structure BindOk (c:Co) (o r:List UInt8) (s:List UInt8) (x:Co):Prop where
 e:x=(c.1,puO reN c.2.1 (vY (o++47 :: s)),x.2.2)
 free:fiG reN c.2.1 (o++47 :: s)=none
 res:fK s=true
 len:c.2.1.length≤15
 m1:c.2.2≤x.2.2
 m2:x.2.2<fw
 nm:r=[]∨(s=r∧x.2.2=c.2.2)

section
variable {α:Type} {nm:α→List UInt8}
end
section
variable {α:Type} [Inhabited α] {nm:α→List UInt8}
end

theorem rU {T:TrI} {w:World} (hs:trY.sub T w) (hf:jI (trD T)):jS aA T w:=fun W hb=>re T W (trY.subRet _ _ _ hs hb) hf
structure ReFit (r:Re):Prop where
 j:r.j.length≤10000
 st:r.st.length≤1000
 sx:∀s∈r.st,s.length≤10000
 ld:r.ld.length≤1000
 tr:∀t∈r.ld,jI t
theorem jI.sub {x:RsI} (h:ReFit x.d):∀t∈x.ld,jI (trD t):=fun t ht=>h.tr (trD t) (wq ht)
theorem ReFit.ldl {x:RsI} (h:ReFit x.d):x.ld.length≤1000:=by
 have:(x.ld.map trD).length≤1000:=h.ld
 rwa [wt] at this
theorem jI.twin {t:TrI} (h:jI (trD t)):t.1.length≤100000∧∀x∈t.1,(ndA x).length≤100000:=by
 have h1:=h.1;rw[wt] at h1;refine⟨by omega,fun x hx=>?_⟩;have:x.1.2.2.2.1.length≤1000:=(h.2 x.1 (wq hx)).at'.1
 show x.1.2.2.2.1.length≤_
 omega
theorem ReFit.rs {x:RsI} {w:World} (hs:rsY.sub x w) (h:ReFit x.d):RsFit aA x w:=
 ⟨hs,h.j,h.st,h.sx,h.ldl,fun t ht=>rU (hs.1.2.2 t ht) (jI.sub h t ht)⟩
theorem ReFit.tw {x:RsI} (h:ReFit x.d):kz x:=⟨by have:=h.ldl;omega,by have:x.st.length≤1000:=h.st;omega,fun t ht=>(jI.sub h t ht).twin⟩
theorem ReFit.eq {x:RsI} (h:ReFit x.d):EqR x:=h.tw
structure ItFit (x:It):Prop where
 j:x.j.length≤10000
 n:x.n.length≤10000
 g:x.g.length≤1000
 gx:∀s∈x.g,s.length≤10000
structure AcFit (a:Ac):Prop where
 j:a.1.length≤10000
 l:a.2.1.length≤1000
 it:∀p∈a.2.1,ItFit p
theorem AcFit.small {x:AcI} (h:AcFit x.d):cq x.it:=by
 have h1:(x.it.map Prod.fst).length≤1000:=h.l;rw[wt] at h1;refine⟨h1,fun p hp=>?_⟩;have h2:=h.it p.1 (wq hp);exact⟨h2.j,h2.n,h2.g,h2.gx⟩
theorem AcFit.eq {x:AcI} (h:AcFit x.d):EqA x:=by
 have h1:=h.small;exact⟨by have:=h1.1;omega,fun p hp=>by have:=(h1.2 p hp).2.2.1;omega⟩
structure CoFitD (c:Co):Prop where
 zA:c.1.length≤1000
 zR:c.2.1.length≤1000
 ac:∀a∈c.1,AcFit a
 rs:∀r∈c.2.1,ReFit r
theorem CoFitD.zA' {c:CoI} (h:CoFitD c.d):c.A.length≤1000:=by
 have:(c.A.map AcI.d).length≤1000:=h.zA
 rwa [wt] at this
theorem CoFitD.zR' {c:CoI} (h:CoFitD c.d):c.R.length≤1000:=by
 have:(c.R.map RsI.d).length≤1000:=h.zR
 rwa [wt] at this
theorem CoFitD.ac' {c:CoI} (h:CoFitD c.d):∀a∈c.A,AcFit a.d:=fun _ ha=>h.ac _ (wq ha)
theorem CoFitD.rs' {c:CoI} (h:CoFitD c.d):∀r∈c.R,ReFit r.d:=fun _ hr=>h.rs _ (wq hr)
theorem CoFitD.fit {c:CoI} {w:World} (h:CoFitD c.d) (hs:c.sub w):CoFit aA c w:=
 ⟨hs,h.zA',h.zR',fun a ha=>⟨(h.ac' a ha).j,(h.ac' a ha).small⟩,fun r hr=>⟨(h.rs' r hr).rs (hs.2.2.2 r hr),(h.rs' r hr).tw⟩⟩
theorem CoFitD.eq {c:CoI} (h:CoFitD c.d):EqC c:=
 ⟨by have:=h.zA';omega,by have:=h.zR';omega,fun a ha=>(h.ac' a ha).eq,fun r hr=>(h.rs' r hr).eq⟩
theorem tK:CoFitD co0:=⟨wu _,wu _,(fun a ha=>by cases ha),(fun r hr=>by cases hr)⟩
structure NdSm (n:Nd):Prop where
 sp:n.2.1.length≤300
 nm:n.2.2.1.length≤300
 tx:n.2.2.2.2.1.length≤300
 al:n.2.2.2.1.length≤30
 at':∀a∈n.2.2.2.1,a.1.length≤300∧a.2.1.length≤300∧a.2.2.length≤300
def tT (t:List Nd):Prop:=t.length≤20∧∀n∈t,NdSm n
structure ReSm (r:Re):Prop where
 j:r.j.length≤300
 ld:r.ld.length≤18
 st:r.st.length≤12
 tr:∀t∈r.ld,tT t
 sx:∀s∈r.st,s.length≤300
structure AcSm (a:Ac):Prop where
 j:a.1.length≤300
 g:cW a.2.1=false
structure CoSm (c:Co):Prop where
 zA:c.1.length≤10
 zR:c.2.1.length≤18
 ac:∀a∈c.1,AcSm a
 rs:∀r∈c.2.1,ReSm r
theorem NdSm.fit {n:Nd} (h:NdSm n) (hm:n.2.2.2.2.2≤9223372036854775807):NdFit n:=
 ⟨by have:=h.sp;omega,by have:=h.nm;omega,by have:=h.tx;omega,⟨by have:=h.al;omega,fun a ha=>by have:=h.at' a ha;omega⟩,hm⟩
theorem ReSm.fit {x:RsI} (h:ReSm x.d) (hq:QR x):ReFit x.d:=by
 refine⟨by have:=h.j;omega,by have:=h.st;omega,fun s hs=>by have:=h.sx s hs;omega,by have:=h.ld;omega,fun t ht=>?_⟩;obtain⟨T,hT,rfl⟩:=ws.1 ht;have h1:=h.tr (trD T) (wq hT);refine⟨by have:=h1.1;omega,fun n hn=>?_⟩;obtain⟨N,hN,rfl⟩:=ws.1 hn;exact(h1.2 N.1 (wq hN)).fit (hq T hT N hN)
theorem AcSm.fit {a:Ac} (h:AcSm a):AcFit a:=by
 obtain⟨h1,h2⟩:=nR h.g;refine⟨by have:=h.j;omega,by omega,fun p hp=>?_⟩;obtain⟨k1,k2,k3,k4⟩:=h2 p hp;exact⟨by omega,by omega,by omega,fun s hs=>by have:=k4 s hs;omega⟩
theorem CoSm.fit {c:CoI} (h:CoSm c.d) (hq:∀r∈c.R,QR r):CoFitD c.d:=by
 refine⟨by have:=h.zA;omega,by have:=h.zR;omega,fun a ha=>(h.ac a ha).fit,fun r hr=>?_⟩;obtain⟨x,hx,rfl⟩:=ws.1 hr;exact(h.rs x.d (wq hx)).fit (hq x hx)
end Go.Proofs.YtjgeiieiinmdnaaGreatDoor
