/- RoK, RoL, RoS, RoT, RoU: put together by mergetpl.py. -/
import Derived.Test.YtjgeiieiinmdnaaGreatDoorKm
open Go.Proofs.Tryz
open Array renaming length_toList→ws
open Go.Value.slice renaming injEq→wq
open List renaming length_take→wh,take_of_length_le→wo,any_eq_true→wt,take_take→wv,take_succ_eq_append_getElem→wz,any_append→wA,getElem_map→wB,getElem_mem→wC
open Nat renaming min_eq_left→wu,le_refl→ww,zero_le→wy
namespace Go.Proofs.YtjgeiieiinmdnaaGreatDoor
set_option maxHeartbeats 4000000
set_option maxRecDepth 100000
open Go.RowKit Go.Lib

theorem iM {P:Program} (w:World) (B g n cap size i:Nat) (t e:TypeId) (z:Value) (xs:List Value) (ht:P.underlying t=some (.slice e)) (hv:∀w,(zeroValue e).run P w=.ok z w) (hz:z.cells.size=size)
  (h1:∀u∈z.cells.toList,u.oneCell'=true) (xB:w.ownsRow B e size (.slice (some ⟨g,0,none⟩) n cap) n xs) (hi:i<n):
  ∃w',(∀ty,(Builtin.clear_ #[t] ty #[.slice (some ⟨g,i*size,none⟩) (n-i) (cap-i)]).run P w=.ok (.tuple #[]) w')∧w'.ownsRow B e size (.slice (some ⟨g,0,none⟩) i cap) i (xs.take (i*size))∧w.grownBy w' (some g):=by
 rcases xB.2 with ⟨h,_⟩ | ⟨g',yk,xu,h,xX,hg,xY,xZ,xC,xD⟩
 ·simp at h
 ·simp only[wq,Option.some.injEq,Addr.mk.injEq,and_true,true_and] at h
  obtain⟨rfl,rfl⟩:=h
  have hl:(Builtin.zeroCells z.cells (n-i)).toList.length=(n-i)*size:=by rw[ws,size_zeroCells,hz]
  have xL:∀v∈(Builtin.zeroCells z.cells (n-i)).toList,v.oneCell'=true:=by
   intro v xM;simp only[Builtin.zeroCells,Array.toList_map,List.mem_map,Array.toList_range] at xM;obtain⟨j,hj,rfl⟩:=xM;have yd:=List.mem_range.1 hj
   have ye:0<z.cells.size:=by
    rcases Nat.eq_zero_or_pos z.cells.size with h | h
    ·rw[h,Nat.mul_zero] at yd;omega
    ·exact h
   have hm:j % z.cells.size<z.cells.size:=Nat.mod_lt _ ye;rw[getElem!_pos z.cells (j % z.cells.size) hm];exact h1 _ (by simp)
  have yl:i*size+(n-i)*size=n*size:=by rw[←Nat.add_mul];congr 1;omega
  have hle:n*size≤cap*size:=Nat.mul_le_mul_right _ xY;have hst:=run_storeCells_at P g (i*size) e (Builtin.zeroCells z.cells (n-i)).toList 0 xu w hg (by rw[hl,xC];omega) xL;simp only[Nat.add_zero] at hst;obtain⟨m,hm⟩:∃m,n-i=m+1:=⟨n-i-1,by omega⟩;refine⟨w.setRow g (xu.toList.take (i*size)++(Builtin.zeroCells z.cells (n-i)).toList++xu.toList.drop (i*size+(Builtin.zeroCells z.cells (n-i)).toList.length)).toArray,?_,⟨?_,.inr ⟨g,cap,_,rfl,xX,setRow_heap w g xu _ e _ hg,by omega,xZ,?_,?_⟩⟩,⟨rfl,rfl,rfl,by simp[World.setRow],fun k _ hk=>setRow_other w g k _ (fun e=>hk (by simp[e]))⟩⟩
  ·intro ty
   rw[hm] at hst ⊢
   simp[Builtin.clear_,run_underlying ht,hv,hst]
  ·rw[wh,xB.1]
   exact wu (by omega)
  ·simp only[List.size_toArray,List.length_append,wh,List.length_drop,ws,xC,size_zeroCells,hz]
   omega
  ·rw[List.append_assoc,List.take_append_of_le_length (by rw[wh,ws,xC];omega),wv,Nat.min_self,←xD,wv,wu (by omega)]




def nG (x:It):Bool:=decide (500<x.j.length)||(decide (500<x.n.length)||(decide (10<x.g.length)||x.g.any fun y=>decide (500<y.length)))
def cL (L:List It):Bool:=(L.take 20).any nG||decide (18<L.length)
theorem nW {L:List It} {k:Nat} (h20:k<20) (hk:k<L.length) (h:nG L[k]=true):cL L=true:=by
 unfold cL
 have:(L.take 20).any nG=true:=wt.2 ⟨L[k],by rw[List.mem_iff_getElem];exact⟨k,by rw[wh];omega,by rw[List.getElem_take]⟩,h⟩
 rw[this];rfl
theorem ki {L:List It} {k:Nat} (h:(L.take k).any nG=false) (hk:k=20∨L.length≤k∧k≤20):cL L=decide (18<L.length):=by
 unfold cL
 have e:L.take 20=L.take k:=by
  rcases hk with rfl | ⟨h1,h2⟩
  ·rfl
  ·rw[wo (by omega),wo (by omega)]
 rw[e,h,Bool.false_or]
theorem o9 {L:List It} (h:cL L=false):L.length≤18∧∀x∈L,x.j.length≤500∧x.n.length≤500∧x.g.length≤10∧∀y∈x.g,y.length≤500:=by
 unfold cL at h;rw[Bool.or_eq_false_iff,decide_eq_false_iff_not] at h;obtain⟨h1,h2⟩:=h;rw[wo (by omega)] at h1;refine⟨by omega,fun x hx=>?_⟩;have:=List.any_eq_false.1 h1 x hx;unfold nG at this;simp only[Bool.or_eq_true,decide_eq_true_eq,wt,not_or,not_exists,not_and,Nat.not_lt] at this;exact⟨this.1,this.2.1,this.2.2.1,fun y hy=>this.2.2.2 y hy⟩
theorem p7 (l:List UInt8):(⟨l.toArray⟩:ByteArray).size=l.length:=by rw[←ab]
theorem kN (v:Value) (ver:Int) (M:List Im) (w:World) (hv:aE v M w):
  Calls prog 36 #[.agg #[v,.int .i64 ver]] w (Ret w (.bool (cL (M.map Prod.fst)))):=by
 obtain⟨a0,xq,hf,-⟩:=hv.form;obtain⟨L,hL⟩:=e_ M.length;rw[hL] at hf;subst hf;obtain⟨O,hO⟩:=e_ (cL (M.map Prod.fst));rw[hO];have r0:=Two.new w (.slice a0 L xq) (.int .i64 ver) 31;have q0:=(bR w).alloc (ww _) (.cells #[.slice a0 L xq,.int .i64 ver] 31);obtain⟨W0,xE⟩:=e_ (w.alloc (.cells #[.slice a0 L xq,.int .i64 ver] 31));rw[xE] at r0 q0;have HW:=h_ xE;have HV:=h_ hv;have HL:=h_ hL
 have xN:(M.map Prod.fst).length=L:=by rw[List.length_map,hL]
 have xw:=h_ xN;have HO:=h_ hO;clear xE hv hL xN hO;go_enter func36,ntmps36;go_wp2_with fail;rw[HW.out];go_loopw [3] (fun i wx=>∃k:Nat,k≤L∧k≤20∧i=.int .i64 k∧((M.map Prod.fst).take k).any nG=false∧Two w.heap.size (.slice a0 L xq) (.int .i64 ver) wx∧Bl w wx) (fun i _=>20-(intOf i).toNat)
 case atStart=>exact⟨0,wy _,by omega,rfl,rfl,r0,q0⟩
 case round=>
  obtain⟨k,hk,xO,rfl,xo,rr,xp⟩:=hrel;obtain⟨l,c0,c1,f0,f1⟩:=id rr;have yf:=xp.size
  by_cases hlt:k<L
  ·by_cases h20:k<20
   ·have xP : k < M.length := by rw [HL.out]; exact hlt
    obtain⟨b,off,cp,hf,yo,hc⟩:=(HV.out.ret xp).cell xP;rw[HL.out] at hf;simp only[wq,true_and] at hf;obtain⟨rfl,rfl⟩:=hf;have xF:k<(M.map Prod.fst).length:=(by rw[xw.out];exact hlt)
    have xx:nG M[k].1=false→((M.map Prod.fst).take (k+1)).any nG=false:=fun h=>by
     rw[wz xF,wA,xo,wB]
     simp[h]
    have xy:nG M[k].1=true→O=true:=fun h=>by
     rw[←HO.out];exact nW h20 xF (by rw[wB];exact h)
    have xG:=(HV.out.ret xp).2 _ (wC xP);obtain⟨p,hp⟩:=e_ (M[k]);rw[hp] at hc xx xy xG;obtain⟨i0,i1,i2,i3,i4,i5,i6,i7⟩:=hc;have al:=(bR wr).alloc (ww _) (.cells (itC p).toArray 99);have x1:=It8.new wr (.string ⟨p.1.j.toArray⟩) (.string ⟨p.1.n.toArray⟩) (gvI p) (.bool p.1.s.1) (.bool p.1.s.2.1) (.bool p.1.s.2.2.1) (.bool p.1.s.2.2.2) (.bool p.1.k) 99;have xH:=rr.ret al;have q2:=xp.trans (al.mono yf);have xr:=xG.ret al;obtain⟨V,hV⟩:=e_ (wr.alloc (.cells (itC p).toArray 99));rw[hV] at x1 xH q2 xr;have xz:=h_ hV;have zj:=p7 p.1.j;have zn:=p7 p.1.n;obtain⟨B,hB⟩:=e_ (nG p.1);rw[hB] at xx xy;have HS:=h_ xx;have HA:=h_ xy;have HB:=h_ hB;have HG:=h_ xr;have RR:=h_ xH;have QQ:=h_ q2;obtain⟨m,d0,d1,d2,d3,d4,d5,d6,d7,g0,g1,g2,g3,g4,g5,g6,g7⟩:=id x1;clear hp xx xy hB xG xr xF xo rr xH q2 xp hV al
    by_cases h1:500<p.1.j.length∨500<p.1.n.length∨10<p.1.g.length
    ·have xI:B=true:=by
      rw[←HB.out];unfold nG
      rcases h1 with h | h | h <;> simp[h]
     subst xI;have:=HA.out (by first | exact rfl | trivial);subst this;have yg:((500:Int)<(p.1.j.length:Int))∨¬((500:Int)<(p.1.j.length:Int)):=Decidable.em _;have xQ:((500:Int)<(p.1.n.length:Int))∨¬((500:Int)<(p.1.n.length:Int)):=Decidable.em _
     rcases yg with hj | hj
     ·clear xQ h1
      go_wp2_with fail;rw[xz.out];go_wp2_with fail;go_ret;exact⟨rfl,QQ.out⟩
     ·rcases xQ with hn | hn
      ·clear h1
       go_wp2_with fail;rw[xz.out];go_wp2_with fail;go_ret;exact⟨rfl,QQ.out⟩
      ·have hg : (10 : Int) < (p.1.g.length : Int) := by omega
       clear h1;go_wp2_with fail;rw[xz.out];go_wp2_with fail;go_ret;exact⟨rfl,QQ.out⟩
    ·have hj : ¬((500 : Int) < (p.1.j.length : Int)) := by omega
     have hn:¬((500:Int)<(p.1.n.length:Int)):=(by omega);have hg:¬((10:Int)<(p.1.g.length:Int)):=(by omega)
     have xR:B=p.1.g.any fun y=>decide (500<y.length):=by
      rw[←HB.out];unfold nG
      have e1:decide (500<p.1.j.length)=false:=decide_eq_false (by omega)
      have e2:decide (500<p.1.n.length)=false:=decide_eq_false (by omega)
      have e3:decide (10<p.1.g.length)=false:=decide_eq_false (by omega)
      rw[e1,e2,e3];rfl
     have xS:=h_ xR;clear h1 xR;go_wp2_with fail;rw[xz.out];go_wp2_with fail;go_loopw [5] (fun i wx=>∃e:Nat,e≤p.1.g.length∧i=.int .i64 e∧(p.1.g.take e).any (fun y=>decide (500<y.length))=false∧wx=V) (fun i _=>p.1.g.length-(intOf i).toNat)
     case atStart=>exact⟨0,wy _,rfl,rfl,rfl⟩
     case round=>
      obtain⟨e,he,rfl,xn,rfl⟩:=hrel
      by_cases hle:e<p.1.g.length
      ·obtain⟨b2,xT,yp,xJ,yq,xU⟩:=bJ HG.out.1 (k:=e) (by rw[aq];exact hle)
       rw[aq] at xJ;have xV:=xU e (by rw[aq];exact hle)
       have e1:(cJ p.1.g)[e]'(by rw[aq];exact hle)=.string ⟨(p.1.g[e]).toArray⟩:=by simp[cJ]
       rw[e1] at xV;simp only[wq,true_and] at xJ;obtain⟨xW,yn⟩:=xJ;have zy:=p7 p.1.g[e]
       have xK:(p.1.g.take (e+1)).any (fun y=>decide (500<y.length))=decide (500<(p.1.g[e]).length):=by
        rw[wz hle,wA,xn]
        simp
       have hh:500<(p.1.g[e]).length→B=true:=fun h=>by
        rw[xS.out,wt];exact⟨_,wC hle,decide_eq_true h⟩
       obtain⟨y,hy⟩:=e_ (p.1.g[e]);rw[hy] at xV zy xK hh;have yh:=h_ xK;have e2:gvI p=.slice (some ⟨b2,xT,none⟩) p.1.g.length p.2.2:=(by show Value.slice p.2.1 _ _=_;rw[xW]);rw[e2] at d2;clear e2;clear xK hy e1 xU xn
       by_cases h5:500<y.length
       ·have xI:=hh h5
        subst xI;have:=HA.out (by first | exact rfl | trivial);subst this;have yi:(500:Int)<(y.length:Int):=(by omega);clear hh;go_wp2_with fail;go_ret;exact⟨rfl,QQ.out⟩
       ·have yi : ¬((500 : Int) < (y.length : Int)) := by omega
        clear hh;go_wp2_with fail;go_roundw
        case rel=>exact⟨e+1,by omega,by go_num,by rw[yh.out];exact decide_eq_false h5,by first | rfl | trivial⟩
        case measure=>simp[intOf];omega
      ·have xt:p.1.g.take e=p.1.g:=wo (by omega)
       rw[xt] at xn;have yj:B=false:=(by rw[xS.out];exact xn);subst yj;clear xt xn;go_wp2_with fail;go_roundw
       case rel=>exact⟨k+1,by omega,by omega,by go_num,HS.out (by first | exact rfl | trivial),RR.out,QQ.out⟩
       case measure=>simp[intOf];omega
   ·have hE:=ki xo (.inl (by omega))
    rw[HO.out,xw.out] at hE;have xA:18<L:=(by omega);rw[decide_eq_true xA] at hE;subst hE;clear xo;go_wp2_with fail;go_ret;exact⟨by simp;omega,xp⟩
  ·have hE:=ki xo (.inr ⟨by rw[xw.out];omega,xO⟩)
   rw[HO.out,xw.out] at hE;clear xo
   by_cases xA:18<L
   ·rw[decide_eq_true xA] at hE
    subst hE;go_wp2_with fail;go_ret;exact⟨by simp;omega,xp⟩
   ·rw[decide_eq_false xA] at hE
    subst hE;go_wp2_with fail;go_ret;exact⟨by simp;omega,xp⟩
end Go.Proofs.YtjgeiieiinmdnaaGreatDoor
