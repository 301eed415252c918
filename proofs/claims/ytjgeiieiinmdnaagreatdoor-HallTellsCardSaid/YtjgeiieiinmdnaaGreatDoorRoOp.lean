/- Texts and contacts that come in as data. -/
import Derived.Test.YtjgeiieiinmdnaaGreatDoorKq
import Derived.Deep.Slices
import Derived.ChangeSame
import Derived.OpenShut
import Derived.Lib.SmallJoins
open Go.Proofs.Tryz
open Array renaming getElem?_eq_none→wy
open Go.Value renaming cells→ws
open Go.World renaming cells?_some→wt,cell?_spot→wu,cell?→ww
open List renaming range→wq
open Nat renaming lt_or_ge→wv
namespace Go.Proofs.YtjgeiieiinmdnaaGreatDoor
set_option maxRecDepth 100000
open Go.RowKit Go.ChangeShapes Go.WideShapes Go.ChangeAt Go.Deep Go.Joins

theorem open_texts {H:Type} {enc:TypeId×Value→H} {W:World} {a:Option Addr} {len cap fuel:Nat} {d:DataW H} {ps:List MemPlace}
  (hf:DataW.trod enc prog W 0 (fun _=>true) true fuel 26 (Value.slice a len cap).cells.toList=some (d,ps)):
  ∃g:List (List UInt8),aB (.slice a len cap) g W∧g.length≤9223372036854775807:=by
 rcases open_slice underlying26 hf with ⟨hcs,_⟩ | ⟨x,l,c,m,n,D,Pl,hcs,_,hl,hm,hmm,_,hx⟩
 ·simp[ws] at hcs
  obtain⟨rfl,rfl,rfl⟩:=hcs;exact⟨[],aB.nil W,by simp⟩
 ·simp[ws] at hcs
  obtain⟨rfl,rfl,rfl⟩:=hcs;unfold maxLen at hm;rw[if_pos rfl] at hmm;subst hmm
  have ce:prog.cellsOf 9=1:=by kernel_rfl
  rw[ce] at hx
  have each:∀i,i<m→∃q:List UInt8,W.cell? (x.add i)=some (.string ⟨q.toArray⟩):=by
   intro i hi;obtain⟨cs',h1,h2⟩:=hx i hi;obtain⟨_,hlen,hcell⟩:=wt h1;obtain⟨s1,e1,_,z1⟩:=DataW.trod_string underlying9 h2;subst e1;have c0:=hcell 0 (by omega);rw[add_add] at c0;exact⟨s1.data.toList,by simpa using c0⟩
  obtain⟨q,hq⟩:=choose_lt each
  have hql:((wq len).map q).length=len:=by simp
  refine⟨(wq len).map q,⟨⟨some x,m,by rw[aj,hql],(fun h=>by cases h),?_⟩,some x,m,by rw[hql],by rw[hql];exact hl⟩,by rw[hql];omega⟩
  by_cases h0:len=0
  ·left
   subst h0
   rfl
  ·right
   obtain⟨b,off,spot⟩:=x;have hspot:spot=none:=(by simpa [Addr.add] using wu (hq 0 (by omega)));subst hspot
   have hc:∀i,i<m→W.cell? ⟨b,off+i,none⟩=some (.string ⟨(q i).toArray⟩):=fun i hi=>by
    have h1:=hq i hi;rw[Go.WideShapes.add_plain] at h1;exact h1
   have hb:b<W.heap.size:=by
    rcases wv b W.heap.size with h | h
    ·exact h
    ·have:=hc 0 (by omega)
     simp[ww,wy h] at this
   refine⟨b,off,rfl,hb,fun j hj=>?_⟩;rw[aj,hql] at hj;rw[hc j (by omega)]
   simp[aY]
theorem lB {H:Type} {enc:TypeId×Value→H} {W:World} {v:Value} {fuel:Nat} {d:DataW H×List MemPlace}
  (hf:DataW.trod enc prog W 0 (fun _=>true) true fuel 26 [v]=some d):
  ∃(g:List (List UInt8)) (a:Option Addr) (c:Nat),v=.slice a g.length c∧aB (.slice a g.length c) g W∧g.length≤9223372036854775807:=by
 obtain⟨d,ps⟩:=d
 have hv:∃a len cap,v=.slice a len cap:=by
  rcases open_slice underlying26 hf with ⟨hcs,_⟩ | ⟨x,l,c,m,n,D,Pl,hcs,_⟩
  ·exact⟨none,0,0,by simpa using hcs⟩
  ·exact⟨some x,l,c,by simpa using hcs⟩
 obtain⟨a,len,cap,rfl⟩:=hv;obtain⟨g,hg,hl⟩:=open_texts (a:=a) (len:=len) (cap:=cap) (by simpa [ws] using hf);obtain⟨_,a',cap',he,_⟩:=id hg
 injection he with h1 h2 h3
 subst h2;exact⟨g,a,cap,rfl,hg,hl⟩
theorem o8 {H:Type} {enc:TypeId×Value→H} {W:World} {x:Addr} {cs:List Value} {fuel:Nat} {d:DataW H×List MemPlace}
  (h1:W.cells? 0 x 8=some cs) (h2:DataW.trod enc prog W 0 (fun _=>true) true fuel 99 cs=some d):
  ∃p:Im,(∀c,c<8→W.cell? (x.add c)=(itC p)[c]?)∧aB (gvI p) p.1.g W:=by
 obtain⟨_,hlen,hcell⟩:=wt h1;obtain⟨xs,k,hk,hxy,_,hxl,hf⟩:=DataW.trod_struct underlying99 h2
 match cs,hlen with
 | [v0,v1,v2,v3,v4,v5,v6,v7],_=>
  have i1:prog.cellsOf 9=1:=by kernel_rfl
  have i2:prog.cellsOf 26=1:=by kernel_rfl
  have i3:prog.cellsOf 4=1:=by kernel_rfl
  have i4:prog.cellsOf 97=4:=by kernel_rfl
  have g0:=hf 0 _ rfl;have g1:=hf 1 _ rfl;have g2:=hf 2 _ rfl;have g3:=hf 3 _ rfl;have g4:=hf 4 _ rfl
  simp[i1,i2,i3,i4] at g0 g1 g2 g3 g4
  match xs,hxl,g0,g1,g2,g3,g4 with
  | [y0,y1,y2,y3,y4],_,g0,g1,g2,g3,g4=>
   obtain⟨s0,e0,_,z0⟩:=DataW.trod_string underlying9 g0;obtain⟨s1,e1,_,z1⟩:=DataW.trod_string underlying9 g1;obtain⟨b7,e7,_⟩:=DataW.trod_bool underlying4 g4;obtain⟨g,a,c,e2,hg,_⟩:=lB g2;obtain⟨ys,k',hk',hxy',_,hyl,hf'⟩:=DataW.trod_struct underlying97 g3;have k0:=hf' 0 _ rfl;have k1:=hf' 1 _ rfl;have k2:=hf' 2 _ rfl;have k3:=hf' 3 _ rfl
   simp[i3] at k0 k1 k2 k3
   match ys,hyl,k0,k1,k2,k3 with
   | [u0,u1,u2,u3],_,k0,k1,k2,k3=>
    obtain⟨b3,e3,_⟩:=DataW.trod_bool underlying4 k0;obtain⟨b4,e4,_⟩:=DataW.trod_bool underlying4 k1;obtain⟨b5,e5,_⟩:=DataW.trod_bool underlying4 k2;obtain⟨b6,e6,_⟩:=DataW.trod_bool underlying4 k3
    obtain rfl:v0=.string s0:=by simpa using e0
    obtain rfl:v1=.string s1:=by simpa using e1
    obtain rfl:v3=.bool b3:=by simpa using e3
    obtain rfl:v4=.bool b4:=by simpa using e4
    obtain rfl:v5=.bool b5:=by simpa using e5
    obtain rfl:v6=.bool b6:=by simpa using e6
    obtain rfl:v7=.bool b7:=by simpa using e7
    subst e2;refine⟨((s0.data.toList,s1.data.toList,g,(b3,b4,b5,b6),b7),(a,c)),fun j hj=>?_,hg⟩;have hq:=hcell j hj;have:j=0∨j=1∨j=2∨j=3∨j=4∨j=5∨j=6∨j=7:=(by omega)
    rcases this with rfl | rfl | rfl | rfl | rfl | rfl | rfl | rfl <;> simpa using hq
theorem mP {H:Type} {enc:TypeId×Value→H} {W:World} {v:Value} {fuel:Nat} {d:DataW H×List MemPlace}
  (hf:DataW.trod enc prog W 0 (fun _=>true) true fuel 29 [v]=some d):∃M:List Im,aw v M W:=by
 obtain⟨d,ps⟩:=d
 rcases open_slice underlying29 hf with ⟨hcs,_⟩ | ⟨x,len,cap,m,n,D,Pl,hcs,_,hl,hm,hmm,_,hx⟩
 ·obtain rfl : v = .slice none 0 0 := by simpa using hcs
  exact⟨[],aw.nil W⟩
 ·obtain rfl : v = .slice (some x) len cap := by simpa using hcs
  rw[if_pos rfl] at hmm;subst hmm
  have ce:prog.cellsOf 99=8:=by kernel_rfl
  rw[ce] at hx
  have each:∀i,i<m→∃p:Im,(∀c,c<8→W.cell? ((x.add (i*8)).add c)=(itC p)[c]?)∧aB (gvI p) p.1.g W:=by
   intro i hi;obtain⟨cs',h1,h2⟩:=hx i hi;exact o8 h1 h2
  obtain⟨q,hq⟩:=choose_lt each
  have hql:((wq len).map q).length=len:=by simp
  refine⟨(wq len).map q,⟨?_,fun p hp=>?_⟩⟩
  ·rw[hql]
   refine⟨by rw[km,hql],some x,m,rfl,(fun h=>by cases h),?_⟩
   by_cases h0:len=0
   ·exact .inl h0
   ·right
    obtain⟨b,off,spot⟩:=x
    have hspot:spot=none:=by
     have:=(hq 0 (by omega)).1 0 (by omega)
     simpa [Addr.add] using wu this
    subst hspot
    have hc:∀i,i<m→∀c,c<8→W.cell? ⟨b,off+(i*8+c),none⟩=(itC (q i))[c]?:=fun i hi c hc=>by
     have h1:=(hq i hi).1 c hc;rw[Go.WideShapes.add_plain,Go.WideShapes.add_plain,Nat.add_assoc] at h1;exact h1
    have hb:b<W.heap.size:=by
     rcases wv b W.heap.size with h | h
     ·exact h
     ·have:=hc 0 (by omega) 0 (by omega)
      simp[ww,wy h] at this
    refine⟨b,off,rfl,hb,fun j hj=>?_⟩;rw[km,hql] at hj;have hj1:j / 8<((wq len).map q).length:=(by rw[hql];omega);have e1:=lC _ (j / 8) hj1 (j % 8) (by omega);rw[List.getElem_map,List.getElem_range] at e1;have e2:=hc (j / 8) (by omega) (j % 8) (by omega);have e3:j / 8*8+j % 8=j:=(by omega);rw[e3] at e1 e2;rw[e2,←e1];exact List.getElem?_eq_getElem _
  ·obtain⟨i,hi,rfl⟩:=List.mem_map.1 hp
   have:=List.mem_range.1 hi;exact(hq i (by omega)).2
end Go.Proofs.YtjgeiieiinmdnaaGreatDoor
