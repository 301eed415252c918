/- HsI, HaF: put together by mergetpl.py. -/
import Derived.Test.YtjgeiieiinmdnaaGreatDoorLc
import Derived.Test.YtjgeiieiinmdnaaGreatDoorRoIn
open Go.Proofs.Tryz
open Array renaming getElem?_eq_none→wV,length_toList→xe,size_append→xf,toList_append→xh
open Bool renaming false_eq_true→xm
open Go.Act renaming eval→wo,put→wq
open Go.Addr renaming add_lit→ww
open Go.Addr.mk renaming injEq→wZ
open Go.RowKit.Below renaming drew→wz
open Go.Value renaming cells→wh
open Go.Value.slice renaming injEq→wD
open Go.World renaming cell?→wF,shape?→wK,frozen?→wL,alloc_heap_new→wR
open List renaming length_take→wB,length_drop→wC,getElem?_eq_none→wE,length_append→wG,getElem?_eq_getElem→wH,mem_of_getElem?→wM,length_set→wN,getElem?_toArray→wO,getElem?_cons_succ→wP,getElem?_cons_zero→wQ,drop_eq_nil_of_le→wS,take_left→wT,length_cons→wW,take_of_length_le→wX,take_append_drop→wY,getElem?_append_left→xd,size_toArray→xg
open Nat renaming le_refl→ws,add_mul→wt,min_def→wu,mul_le_mul_right→wv,lt_or_ge→wA,min→wI,zero_add→wU,lt_of_lt_of_le→xi,le_trans→xk
open Option.some renaming injEq→wy
namespace Go.Proofs.YtjgeiieiinmdnaaGreatDoor
set_option maxHeartbeats 4000000
set_option maxRecDepth 100000
open Go.RowKit Go.Lib

theorem mD (M:List AcI):(acY.fl M).length=M.length*3:=dq acY M
theorem fq (M N:List AcI):acY.fl (M++N)=acY.fl M++acY.fl N:=dP acY M N
theorem pG (p:AcI) (M:List AcI):acY.fl (p :: M)=acY.cs p++acY.fl M:=rfl
theorem pE (M:List AcI) (k:Nat):acY.fl (M.drop k)=(acY.fl M).drop (k*3):=pf acY M k
theorem mC (M:List AcI):∀u∈acY.fl M,u.oneCell'=true:=dV acY M
theorem ja (p:AcI):∀u∈acY.cs p,u.oneCell'=true:=acY.one p
theorem bG (p:AcI):(acY.cs p).length=3:=rfl
theorem kc (p:AcI):acY.fl [p]=acY.cs p:=gW acY p
def qj (B:Nat) (w:World) (v:Value) (N:List AcI) (e:Ending) (w':World):Prop:=∃v',e=.returned v'∧w'.ownsRow B 33 3 v' N.length (acY.fl N)∧w.grownBy w' v.ownBlock∧∀g,v'.ownBlock=some g→v.ownBlock=some g∨w.heap.size≤g
theorem mO {w w':World} {B n xb:Nat} {ty:TypeId} {v v':Value} {xs:List Value} {p:AcI} (xn:w.ownsRow B 33 3 v n xs) (hn:n≤100000)
  (hx:∀j u,(acY.cs p)[j]?=some u→w.cell? ((⟨xb,0,none⟩:Addr).add j)=some u)
  (hr:(Builtin.append_ #[22,22] ty #[v,.slice (some ⟨xb,0,none⟩) 1 1]).run prog w=.ok v' w'):∀g,v'.ownBlock=some g→v.ownBlock=some g∨w.heap.size≤g:=by
 obtain⟨i0,xA,xN,xz,xI⟩:=info_parts es
 have xO:∀u∈acY.cs p,u.oneCell'=true:=by intro u hu;exact ja p u hu
 have hl:(acY.cs p).length=1*i0.size:=by rw[xz];rfl
 rcases id xn.2 with ⟨rfl,rfl⟩ | ⟨g,cap,xY,rfl,zo,hg,yS,zp,yW,yX⟩
 ·have h:=run_append_nil (P:=prog) w 22 ty 33 i0 _ underlying22 xA xN ⟨xb,0,none⟩ 1 1 (acY.cs p) hl hx (by omega) (by omega) (by rw[xI];omega)
  rw[h] at hr
  injection hr with h1 _
  subst h1;intro g hg
  cases hg
  exact .inr (ws _)
 ·by_cases hroom:n+1≤cap
  ·have h:=run_append_room (P:=prog) w 22 ty 33 i0 underlying22 xA g n cap xY hg ⟨xb,0,none⟩ 1 1 (acY.cs p) hl hx xO hroom (by rw[hl,yW,xz,←wt];exact wv _ hroom)
   rw[h] at hr
   injection hr with h1 _
   subst h1;intro g' xD;exact .inl xD
  ·have h:=run_append_grow (P:=prog) w 22 ty 33 i0 _ underlying22 xA xN ⟨g,0,none⟩ n cap xs (by rw[xz];exact xn.1) (xn.cells (g:=g) rfl) ⟨xb,0,none⟩ 1 1 (acY.cs p) hl hx (by omega) (by omega) (growslice_fits (by omega) (by rw[xI];omega))
   rw[h] at hr
   injection hr with h1 _
   subst h1;intro g hg
   cases hg
   exact .inr (ws _)
theorem fh (B:Nat) (v:Value) (M:List AcI) (i xb:Nat) (p:AcI) (w:World) (xn:w.ownsRow B 33 3 v M.length (acY.fl M)) (hB:B≤w.heap.size) (hi:i≤M.length) (hM:M.length≤100000)
  (hx:w.heap[xb]?=some (.cells (acY.cs p).toArray 33 (0,0))) (yj:v.ownBlock≠some xb):
  Calls prog 120 #[v,.int .i64 i,.slice (some ⟨xb,0,none⟩) 1 1] w (qj B w v (M.take i++p :: M.drop i)):=by
 obtain⟨i0,xA,xN,xz,xI⟩:=info_parts es
 have xJ:∀W:World,W.heap[xb]?=w.heap[xb]?→∀j u,(acY.cs p)[j]?=some u→W.cell? ((⟨xb,0,none⟩:Addr).add j)=some u:=fun W hW j u hj=>by
  rw[ww];simp only[wF,hW,hx,wU]
  simpa using hj
 have yk:xb<w.heap.size:=by
  rcases wA xb w.heap.size with h | h
  ·exact h
  ·rw[wV h] at hx
   cases hx
 have xr:(M.take i++p :: M.drop i).length=M.length+1:=by rw[wG,wW,wB,wC];omega
 have xB:acY.fl (M.take i++p :: M.drop i)=acY.fl (M.take i)++(acY.cs p++acY.fl (M.drop i)):=by rw[fq,pG]
 obtain⟨n,hn⟩:=e_ M.length;rw[hn] at xn hi hM xr;obtain⟨a,c,rfl,yS⟩:=aw xn
 by_cases hin:i=n
 ·subst hin
  have xq:cx 3 (.slice (some ⟨xb,0,none⟩) 1 1) 1 (acY.cs p) w:=by
   refine⟨rfl,some ⟨xb,0,none⟩,1,rfl,(fun h=>by cases h),.inr ⟨xb,0,rfl,yk,fun j hj=>?_⟩⟩;have:=xJ w rfl j _ (wH hj);rw[ww] at this;rw[this]
  have xt:M.take i++p :: M.drop i=M++[p]:=by rw[wX (by omega),wS (by omega)]
  rw[xt] at xr xB ⊢;obtain⟨v',w',hr,xE,xS⟩:=dS (P:=prog) w B 22 22 33 i0 _ 3 48 underlying22 xA xN xz xI rfl (by omega) _ i (acY.fl M) xn (.slice (some ⟨xb,0,none⟩) 1 1) 1 (acY.cs p) xq (by intro u hu;exact ja p u hu) (by omega) (by omega) hB;have yy:=h_ (mO xn hM (xJ w rfl) hr)
  have yz:∀ty,(Builtin.append_ #[22,22] ty #[.slice a i c,.slice (some ⟨xb,0,none⟩) 1 1]).run prog w=.ok v' w':=fun ty=>hr
  have RR:=h_ yz;have xP:=h_ xr;have yA:=h_ xE;have HG:=h_ xS;clear xJ xt xr xB xn xq hn hx hr yz xE xS
  by_cases hci:c=i
  ·subst hci
   go_enter func120,ntmps120;go_wp2_with (at_builtin;refine Hid.out ?_);refine h_ ?_;refine Lib.wpList_append_run _ rfl _ _ _ _ rfl _ _ rfl rfl _ _ (RR.out _) ?_;go_wp2_with fail;go_ret;exact⟨v',rfl,by rw[xP.out,fq,kc];exact yA.out,HG.out,yy.out⟩
  ·have w0 : (i : Int) ≤ (c : Int) := by omega
   go_enter func120,ntmps120;go_wp2_with (at_builtin;refine Hid.out ?_);refine h_ ?_;refine Lib.wpList_append_run _ rfl _ _ _ _ rfl _ _ rfl rfl _ _ (RR.out _) ?_;go_wp2_with fail;go_ret;exact⟨v',rfl,by rw[xP.out,fq,kc];exact yA.out,HG.out,yy.out⟩
 ·have yB : i < n := by omega
  obtain⟨g,rfl,-,zk,yT⟩:=dC xn (by omega)
  have yC:g≠xb:=fun e=>yj (by rw[e];rfl)
  have xF:(acY.fl (M.take i)).length=i*3:=by rw[mD,wB];congr 1;omega
  have xC:(acY.fl (M.drop i)).length=(n-i)*3:=by rw[mD,wC,hn]
  have yd:acY.fl M=acY.fl (M.take i)++acY.fl (M.drop i):=by rw[←fq,wY]
  have xQ:(acY.fl M).drop (i*3)=acY.fl (M.drop i):=(pE M i).symm
  have xO:∀u∈acY.cs p,u.oneCell'=true:=by intro u hu;exact ja p u hu
  have xR:(prog.info? 33).map (·.size)=some 3:=by rw[xA];simp[xz]
  have yV:c≤9223372036854775807:=by
   rcases xn.2 with ⟨h,_⟩ | ⟨g',yx,xY,h,_,_,_,h4,_⟩
   ·simp at h
   ·simp only[wD] at h
    obtain⟨_,_,rfl⟩:=h;unfold maxLen at h4;exact h4
  have w1:IntKind.i64.wrap ((i:Int)+1)=(i:Int)+1:=IntWalk.i64_in _ (by omega)
  have w2:((i:Int)+1).toNat=i+1:=by omega
  have w3:(0:Int)≤(i:Int)+1:=by omega
  have w4:¬ (c=i):=by omega
  have w5:(i:Int)≤(n:Int):=by omega
  have w6:¬ ((i:Int)=(n:Int)):=by omega
  have w7:IntKind.i64.wrap ((n:Int)+1)=(n:Int)+1:=IntWalk.i64_in _ (by omega)
  have w8:((n:Int)+1).toNat=n+1:=by omega
  by_cases hroom:n+1≤c
  ·have v1 : ¬ ((c : Int) < (n : Int) + 1) := by omega
   have v2:¬ (c=i+1):=(by omega);have v3:(i:Int)≤(n:Int)+1:=(by omega);have v4:(i:Int)+1≤(n:Int)+1:=(by omega);have v5:(n:Int)+1≤(c:Int):=(by omega);obtain⟨st,hst,xK⟩:=jT xn hroom
   obtain⟨W2,xG,own2,xo⟩:=aM w.drew B g (n+1) c 3 (i+1) (n+1-(i+1)) (c-(i+1)) 22 22 33 ⟨g,i*3,none⟩ (n+1-i) (c-i) _ (acY.fl (M.drop i)) underlying22 xR xK.drew
    (by rw[xC];congr 1;simp only[wu];split <;> omega) (fun j v hj=>ea xn (i*3) j v (by rw[xQ];exact hj)) (by rw[xC,←wt];exact wv _ (by omega)) (fun u hu=>mC _ u hu)
   have yD:W2.heap[xb]?=w.heap[xb]?:=xo.block xb yk (fun e=>yC (by cases e;rfl))
   obtain⟨W3,xH,xw,xp⟩:=aM W2 B g (n+1) c 3 i (n+1-i) (c-i) 22 22 33 ⟨xb,0,none⟩ 1 1 _ (acY.cs p) underlying22 xR own2
    (by rw [bG]; have : wI 1 (n + 1 - i) = 1 := by simp only [wu]; split <;> omega
        rw[this]) (xJ W2 yD) (by rw[bG];omega) xO
   have yE:∀lb cb,(callFunc 166 #[.slice (some ⟨xb,0,none⟩) 1 1,.slice (some ⟨g,(i+1)*3,none⟩) lb cb]).run prog w=.ok (.value (.bool false)) w:=fun lb cb=>by
    rcases xK.2 with ⟨h,_⟩ | ⟨g',yx,xY,h,_,xD,_,_,zm,_⟩
    ·simp at h
    ·simp only[wD,wy,wZ,and_true,true_and] at h
     obtain⟨rfl,rfl⟩:=h
     rw[run_callFunc_extern func166 (by kernel_rfl) (by kernel_rfl) (by kernel_rfl) (e:=Extern.SlicesOverlaps.overlaps #[22,22] #[4]) (by kernel_rfl),
      Lib.run_overlaps_apart w 22 4 33 underlying22 3 (fun w=>by simp[sizeOf,typeInfo,xA,xz]) ⟨xb,0,none⟩ ⟨g,(i+1)*3,none⟩ 1 1 lb cb (fun e=>yC e.symm) 33 33 3 xY.size (by simp only[wK,hx];rfl) (by simp only[wK,xD]) (by omega) (by simp[wL,hx]) (by simp[wL,hx])]
     rfl
   have xt:acY.fl (M.take i)++(acY.cs p++acY.fl (M.drop i))=_:=(ms (acY.fl (M.take i)) (acY.fl (M.drop i)) st (acY.cs p) (by rw[hst];rfl)).symm
   rw[xF,bG,←yd,show i*3+3=(i+1)*3 by omega] at xt;rw[bG,show i*3+3=(i+1)*3 by omega,←xt] at xw;have HO:=h_ xw;have HG:=h_ (dn (w:=w) (w1:=W2) ⟨xo.os,xo.tape,xo.output,xo.size,xo.block⟩ xp);have xP:=h_ xr;have HI:=h_ xB;have yl:=h_ xG;have yn:=h_ xH;have OV:=h_ yE;clear hx xJ xn xK own2 xw xo xp xF xC yd xQ xO xR hst yD xG xH xt xr xB hn yE yj;go_enter func120,ntmps120;have xT:prog.follows Departure.mixedOrders=true:=(by kernel_rfl);go_wp2_with (simp only[OV.out]);go_region_law_o (refine step_copy_runI rfl _ _ 22 22 rfl _ _ (by simp[wo,wq]) (by simp[wo,wq]) (yl.out _) ?_);have zq:=yn.out;go_wp2_with fail;go_ret;exact⟨_,rfl,by rw[xP.out,HI.out];exact HO.out,HG.out,fun g' xD=>.inl xD⟩
  ·obtain rfl : c = n := by omega
   have yF:(c:Int)+1-(i:Int)=((c+1-i:Nat):Int):=(by omega);have ye:i+(c+1-i)=c+1:=(by omega)
   have yg:(Builtin.firstCells i0.size i (.slice (some ⟨g,0,none⟩) i c)).run prog w.drew=.ok (acY.fl (M.take i)).toArray w.drew:=by
    rw[xz]
    exact run_firstCells_some w.drew 3 i ⟨g,0,none⟩ i c (acY.fl (M.take i)) xF (fun j u hj=>by
     have h2:(acY.fl M)[j]?=some u:=by
      rw[yd,xd]
      ·exact hj
      ·rcases wA j (acY.fl (M.take i)).length with h | h
       ·exact h
       ·rw[wE h] at hj;cases hj
     exact xn.cells (g:=g) rfl j u h2)
   have yf:=fun ty=>Lib.run_append_grow_zeros w 22 3 ty 33 i0 _ .i64 .i64 underlying22 underlying3 xA xN (some ⟨g,0,none⟩) i c (acY.fl (M.take i)) yg (c+1-i) (by omega) (by omega) (by omega) (by omega) (by rw[xI];omega) (by rw[xI,ye];exact growslice_fits (by omega) (by omega))
   rw[ye] at yf;have yo:=grownCap_ge w (c+1) c 33;have xU:grownCap w (c+1) c 33≤maxLen:=grownCap_le_maxLen w (c+1) c 33 (by unfold maxLen;omega);obtain⟨G,hG⟩:=e_ (grownCap w (c+1) c 33);rw[hG] at yf yo xU;obtain⟨Z,hZ⟩:=e_ ((Builtin.zeroCells (wh (.agg #[.string ⟨#[]⟩,.slice none 0 0,.int .i64 0])) (c+1-i)).toList);have yp:Z.length=(c+1-i)*3:=(by rw[←hZ,xe,size_zeroCells];rfl)
   have xx:(w.drew.alloc (.cells ((acY.fl (M.take i)).toArray++Builtin.zeroCells (wh (.agg #[.string ⟨#[]⟩,.slice none 0 0,.int .i64 0])) (c+1-i)++Builtin.zeroCells (wh (.agg #[.string ⟨#[]⟩,.slice none 0 0,.int .i64 0])) (G-(c+1))) 33)).ownsRow B 33 3 (.slice (some ⟨w.heap.size,0,none⟩) (c+1) G) (c+1) (acY.fl (M.take i)++Z):=by
    have xV:(acY.fl (M.take i)++Z).length=(c+1)*3:=(by rw[wG,xF,yp,←wt,ye]);refine⟨xV,.inr ⟨w.heap.size,G,_,rfl,hB,heap_alloc_new w.drew _,yo,xU,?_,?_⟩⟩
    ·simp only[xf,xg,size_zeroCells,xF]
     show i*3+(c+1-i)*3+(G-(c+1))*3=G*3
     omega
    ·simp only[xh]
     rw[hZ,←xV];exact wT
   have xL:w.grownBy (w.drew.alloc (.cells ((acY.fl (M.take i)).toArray++Builtin.zeroCells (wh (.agg #[.string ⟨#[]⟩,.slice none 0 0,.int .i64 0])) (c+1-i)++Builtin.zeroCells (wh (.agg #[.string ⟨#[]⟩,.slice none 0 0,.int .i64 0])) (G-(c+1))) 33)) (some g):=⟨rfl,rfl,rfl,by simp,fun k hk _=>heap_alloc_old w.drew _ hk⟩;obtain⟨W1,xW⟩:=e_ (w.drew.alloc (.cells ((acY.fl (M.take i)).toArray++Builtin.zeroCells (wh (.agg #[.string ⟨#[]⟩,.slice none 0 0,.int .i64 0])) (c+1-i)++Builtin.zeroCells (wh (.agg #[.string ⟨#[]⟩,.slice none 0 0,.int .i64 0])) (G-(c+1))) 33))
   have yh:∀ty,(Builtin.append_ #[22,3] ty #[.slice (some ⟨g,0,none⟩) i c,.int .i64 ((c:Int)+1-(i:Int))]).run prog w=.ok (.slice (some ⟨w.heap.size,0,none⟩) (c+1) G) W1:=fun ty=>by rw[yF,←xW];exact yf ty
   have yG:W1.heap[xb]?=w.heap[xb]?:=(by rw[←xW];exact heap_alloc_old w.drew _ yk);have yq:W1.heap[g]?=w.heap[g]?:=(by rw[←xW];exact heap_alloc_old w.drew _ yT);rw[xW] at xx xL
   obtain⟨W2,xG,own2,xo⟩:=aM W1 B w.heap.size (c+1) G 3 i (c+1-i) (G-i) 22 22 33 ⟨xb,0,none⟩ 1 1 _ (acY.cs p) underlying22 xR xx
    (by rw [bG]; have : wI 1 (c + 1 - i) = 1 := by simp only [wu]; split <;> omega
        rw[this]) (xJ W1 yG) (by rw[bG];omega) xO
   have yY:w.heap.size<W1.heap.size:=(xx.lt _ rfl).2
   have yH:W2.heap[g]?=w.heap[g]?:=(xo.block g (by omega) (fun e=>by cases e;omega)).trans yq
   obtain⟨W3,xH,xw,xp⟩:=aM W2.drew B w.heap.size (c+1) G 3 (i+1) (c+1-(i+1)) (G-(i+1)) 22 22 33 ⟨g,i*3,none⟩ (c-i) (c-i) _ (acY.fl (M.drop i)) underlying22 xR own2.drew
    (by rw[xC];congr 1;simp only[wu];split <;> omega) (fun j u hj=>by
     have h:=ea xn (i*3) j u (by rw[xQ];exact hj);rw[ww] at h ⊢;simp only[wF] at h ⊢;rw[show W2.drew.heap[g]?=w.heap[g]? from yH]
     exact h) (by rw[xC,←wt];exact wv _ (by omega)) (fun u hu=>mC _ u hu)
   have xt:=my (acY.fl (M.take i)) (acY.fl (M.drop i)) Z (acY.cs p) (by rw[yp,xC,bG];omega);rw[xF,bG,show i*3+3=(i+1)*3 by omega] at xt;rw[bG,show i*3+3=(i+1)*3 by omega,xt] at xw;have u1:¬ (G=i):=(by omega);have u2:¬ (G=i+1):=(by omega);have u3:(c:Int)<(c:Int)+1:=(by omega);have u4:G≤9223372036854775807:=(by unfold maxLen at xU;exact xU);have u5:(i:Int)≤(c:Int)+1:=(by omega);have u6:(i:Int)+1≤(c:Int)+1:=(by omega)
   have u7:IntKind.i64.wrap ((c:Int)+1-(i:Int))=(c:Int)+1-(i:Int):=IntWalk.i64_in _ (by omega)
   have HO:=h_ xw;have g2:=ex (row:=some g) xL xo (ws _);have HG:=h_ (ex (w:=w) (w1:=W2) (row:=some g) g2 (g:=w.heap.size) ⟨xp.os,xp.tape,xp.output,xp.size,xp.block⟩ (ws _));have xP:=h_ xr;have HI:=h_ xB;have yl:=h_ xG;have yn:=h_ xH;have RZ:=h_ yh;clear hx xJ xn xx own2 xw xL xo xp g2 xF xC yd xQ xO xR yG yq yH xG xH xt xr xB hn yj yf yh xW hZ yp hG yg yo xU yF ye yY;go_enter func120,ntmps120;go_wp2_with (at_builtin;refine Hid.out ?_);refine h_ ?_;refine Lib.wpList_append_run _ rfl _ _ _ _ rfl _ _ rfl rfl _ _ (RZ.out _) ?_;have xT:prog.follows Departure.mixedOrders=true:=(by kernel_rfl);have zv:=yl.out;go_wp2_with fail;go_region_law_o (refine step_copy_runI rfl _ _ 22 22 rfl _ _ (by simp[wo,wq]) (by simp[wo,wq]) (yn.out _) ?_);go_wp2_with fail;go_ret;exact⟨_,rfl,by rw[xP.out,HI.out];exact HO.out,HG.out,fun g' xD=>by(cases xD;exact .inr (ws _))⟩
theorem fx (M:List RsI):(rsY.fl M).length=M.length*6:=dq rsY M
theorem dF (M N:List RsI):rsY.fl (M++N)=rsY.fl M++rsY.fl N:=dP rsY M N
theorem n9 (p:RsI) (M:List RsI):rsY.fl (p :: M)=rsY.cs p++rsY.fl M:=rfl
theorem jO (M:List RsI) (k:Nat):rsY.fl (M.take k)=(rsY.fl M).take (k*6):=iN rsY M k
theorem fV (M:List RsI) (k:Nat):rsY.fl (M.drop k)=(rsY.fl M).drop (k*6):=pf rsY M k
theorem je (M:List RsI):∀u∈rsY.fl M,u.oneCell'=true:=dV rsY M
theorem jo (p:RsI):∀u∈rsY.cs p,u.oneCell'=true:=rsY.one p
theorem bD (p:RsI):(rsY.cs p).length=6:=rfl
theorem jS (p:RsI):rsY.fl [p]=rsY.cs p:=gW rsY p
theorem rD:rsY.fl []=[]:=rfl
theorem lV (M:List RsI) (i:Nat):M.take i++M.drop (i+1)=M.eraseIdx i:=(List.eraseIdx_eq_take_drop_succ M i).symm
def mg (B:Nat) (w:World) (v:Value) (N:List RsI) (e:Ending) (w':World):Prop:=∃v',e=.returned v'∧w'.ownsRow B 38 6 v' N.length (rsY.fl N)∧w.grownBy w' v.ownBlock∧∀g,v'.ownBlock=some g→v.ownBlock=some g∨w.heap.size≤g
theorem tD (w:World):(zeroValue 38).run prog w=.ok (.agg #[.string ⟨#[]⟩,.bool false,.int .i64 0,.slice none 0 0,.bool false,.slice none 0 0]) w:=by
 obtain⟨i0,xA,xN,xz,xI⟩:=info_parts ck
 simp[zeroValue,typeInfo,xA,xN]
theorem kf (w:World) (B g n cap i:Nat) (M:List RsI) (xn:w.ownsRow B 38 6 (.slice (some ⟨g,0,none⟩) n cap) n (rsY.fl M)) (hi:i<n):
  ∃w',(∀ty,(Builtin.clear_ #[23] ty #[.slice (some ⟨g,i*6,none⟩) (n-i) (cap-i)]).run prog w=.ok (.tuple #[]) w')∧w'.ownsRow B 38 6 (.slice (some ⟨g,0,none⟩) i cap) i (rsY.fl (M.take i))∧w.grownBy w' (some g):=by
 rw[jO];exact iM w B g n cap 6 i _ _ _ _ underlying23 tD rfl (by decide) xn hi
theorem nz {w w':World} {B n xb:Nat} {ty:TypeId} {v v':Value} {xs:List Value} {p:RsI} (xn:w.ownsRow B 38 6 v n xs) (hn:n≤100000)
  (hx:∀j u,(rsY.cs p)[j]?=some u→w.cell? ((⟨xb,0,none⟩:Addr).add j)=some u)
  (hr:(Builtin.append_ #[23,23] ty #[v,.slice (some ⟨xb,0,none⟩) 1 1]).run prog w=.ok v' w'):∀g,v'.ownBlock=some g→v.ownBlock=some g∨w.heap.size≤g:=by
 obtain⟨i0,xA,xN,xz,xI⟩:=info_parts ck
 have xO:∀u∈rsY.cs p,u.oneCell'=true:=by intro u hu;exact jo p u hu
 have hl:(rsY.cs p).length=1*i0.size:=by rw[xz];rfl
 rcases id xn.2 with ⟨rfl,rfl⟩ | ⟨g,cap,xY,rfl,zo,hg,yS,zp,yW,yX⟩
 ·have h:=run_append_nil (P:=prog) w 23 ty 38 i0 _ underlying23 xA xN ⟨xb,0,none⟩ 1 1 (rsY.cs p) hl hx (by omega) (by omega) (by rw[xI];omega)
  rw[h] at hr
  injection hr with h1 _
  subst h1;intro g hg
  cases hg
  exact .inr (ws _)
 ·by_cases hroom:n+1≤cap
  ·have h:=run_append_room (P:=prog) w 23 ty 38 i0 underlying23 xA g n cap xY hg ⟨xb,0,none⟩ 1 1 (rsY.cs p) hl hx xO hroom (by rw[hl,yW,xz,←wt];exact wv _ hroom)
   rw[h] at hr
   injection hr with h1 _
   subst h1;intro g' xD;exact .inl xD
  ·have h:=run_append_grow (P:=prog) w 23 ty 38 i0 _ underlying23 xA xN ⟨g,0,none⟩ n cap xs (by rw[xz];exact xn.1) (xn.cells (g:=g) rfl) ⟨xb,0,none⟩ 1 1 (rsY.cs p) hl hx (by omega) (by omega) (growslice_fits (by omega) (by rw[xI];omega))
   rw[h] at hr
   injection hr with h1 _
   subst h1;intro g hg
   cases hg
   exact .inr (ws _)
theorem ff (B:Nat) (v:Value) (M:List RsI) (i xb:Nat) (p:RsI) (w:World) (xn:w.ownsRow B 38 6 v M.length (rsY.fl M)) (hB:B≤w.heap.size) (hi:i≤M.length) (hM:M.length≤100000)
  (hx:w.heap[xb]?=some (.cells (rsY.cs p).toArray 38 (0,0))) (yj:v.ownBlock≠some xb):
  Calls prog 155 #[v,.int .i64 i,.slice (some ⟨xb,0,none⟩) 1 1] w (mg B w v (M.take i++p :: M.drop i)):=by
 obtain⟨i0,xA,xN,xz,xI⟩:=info_parts ck
 have xJ:∀W:World,W.heap[xb]?=w.heap[xb]?→∀j u,(rsY.cs p)[j]?=some u→W.cell? ((⟨xb,0,none⟩:Addr).add j)=some u:=fun W hW j u hj=>by
  rw[ww];simp only[wF,hW,hx,wU]
  simpa using hj
 have yk:xb<w.heap.size:=by
  rcases wA xb w.heap.size with h | h
  ·exact h
  ·rw[wV h] at hx
   cases hx
 have xr:(M.take i++p :: M.drop i).length=M.length+1:=by rw[wG,wW,wB,wC];omega
 have xB:rsY.fl (M.take i++p :: M.drop i)=rsY.fl (M.take i)++(rsY.cs p++rsY.fl (M.drop i)):=by rw[dF,n9]
 obtain⟨n,hn⟩:=e_ M.length;rw[hn] at xn hi hM xr;obtain⟨a,c,rfl,yS⟩:=aw xn
 by_cases hin:i=n
 ·subst hin
  have xq:cx 6 (.slice (some ⟨xb,0,none⟩) 1 1) 1 (rsY.cs p) w:=by
   refine⟨rfl,some ⟨xb,0,none⟩,1,rfl,(fun h=>by cases h),.inr ⟨xb,0,rfl,yk,fun j hj=>?_⟩⟩;have:=xJ w rfl j _ (wH hj);rw[ww] at this;rw[this]
  have xt:M.take i++p :: M.drop i=M++[p]:=by rw[wX (by omega),wS (by omega)]
  rw[xt] at xr xB ⊢;obtain⟨v',w',hr,xE,xS⟩:=dS (P:=prog) w B 23 23 38 i0 _ 6 88 underlying23 xA xN xz xI rfl (by omega) _ i (rsY.fl M) xn (.slice (some ⟨xb,0,none⟩) 1 1) 1 (rsY.cs p) xq (by intro u hu;exact jo p u hu) (by omega) (by omega) hB;have yy:=h_ (nz xn hM (xJ w rfl) hr)
  have yz:∀ty,(Builtin.append_ #[23,23] ty #[.slice a i c,.slice (some ⟨xb,0,none⟩) 1 1]).run prog w=.ok v' w':=fun ty=>hr
  have RR:=h_ yz;have xP:=h_ xr;have yA:=h_ xE;have HG:=h_ xS;clear xJ xt xr xB xn xq hn hx hr yz xE xS
  by_cases hci:c=i
  ·subst hci
   go_enter func155,ntmps155;go_wp2_with (at_builtin;refine Hid.out ?_);refine h_ ?_;refine Lib.wpList_append_run _ rfl _ _ _ _ rfl _ _ rfl rfl _ _ (RR.out _) ?_;go_wp2_with fail;go_ret;exact⟨v',rfl,by rw[xP.out,dF,jS];exact yA.out,HG.out,yy.out⟩
  ·have w0 : (i : Int) ≤ (c : Int) := by omega
   go_enter func155,ntmps155;go_wp2_with (at_builtin;refine Hid.out ?_);refine h_ ?_;refine Lib.wpList_append_run _ rfl _ _ _ _ rfl _ _ rfl rfl _ _ (RR.out _) ?_;go_wp2_with fail;go_ret;exact⟨v',rfl,by rw[xP.out,dF,jS];exact yA.out,HG.out,yy.out⟩
 ·have yB : i < n := by omega
  obtain⟨g,rfl,-,zk,yT⟩:=dC xn (by omega)
  have yC:g≠xb:=fun e=>yj (by rw[e];rfl)
  have xF:(rsY.fl (M.take i)).length=i*6:=by rw[fx,wB];congr 1;omega
  have xC:(rsY.fl (M.drop i)).length=(n-i)*6:=by rw[fx,wC,hn]
  have yd:rsY.fl M=rsY.fl (M.take i)++rsY.fl (M.drop i):=by rw[←dF,wY]
  have xQ:(rsY.fl M).drop (i*6)=rsY.fl (M.drop i):=(fV M i).symm
  have xO:∀u∈rsY.cs p,u.oneCell'=true:=by intro u hu;exact jo p u hu
  have xR:(prog.info? 38).map (·.size)=some 6:=by rw[xA];simp[xz]
  have yV:c≤9223372036854775807:=by
   rcases xn.2 with ⟨h,_⟩ | ⟨g',yx,xY,h,_,_,_,h4,_⟩
   ·simp at h
   ·simp only[wD] at h
    obtain⟨_,_,rfl⟩:=h;unfold maxLen at h4;exact h4
  have w1:IntKind.i64.wrap ((i:Int)+1)=(i:Int)+1:=IntWalk.i64_in _ (by omega)
  have w2:((i:Int)+1).toNat=i+1:=by omega
  have w3:(0:Int)≤(i:Int)+1:=by omega
  have w4:¬ (c=i):=by omega
  have w5:(i:Int)≤(n:Int):=by omega
  have w6:¬ ((i:Int)=(n:Int)):=by omega
  have w7:IntKind.i64.wrap ((n:Int)+1)=(n:Int)+1:=IntWalk.i64_in _ (by omega)
  have w8:((n:Int)+1).toNat=n+1:=by omega
  by_cases hroom:n+1≤c
  ·have v1 : ¬ ((c : Int) < (n : Int) + 1) := by omega
   have v2:¬ (c=i+1):=(by omega);have v3:(i:Int)≤(n:Int)+1:=(by omega);have v4:(i:Int)+1≤(n:Int)+1:=(by omega);have v5:(n:Int)+1≤(c:Int):=(by omega);obtain⟨st,hst,xK⟩:=jT xn hroom
   obtain⟨W2,xG,own2,xo⟩:=aM w.drew B g (n+1) c 6 (i+1) (n+1-(i+1)) (c-(i+1)) 23 23 38 ⟨g,i*6,none⟩ (n+1-i) (c-i) _ (rsY.fl (M.drop i)) underlying23 xR xK.drew
    (by rw[xC];congr 1;simp only[wu];split <;> omega) (fun j v hj=>ea xn (i*6) j v (by rw[xQ];exact hj)) (by rw[xC,←wt];exact wv _ (by omega)) (fun u hu=>je _ u hu)
   have yD:W2.heap[xb]?=w.heap[xb]?:=xo.block xb yk (fun e=>yC (by cases e;rfl))
   obtain⟨W3,xH,xw,xp⟩:=aM W2 B g (n+1) c 6 i (n+1-i) (c-i) 23 23 38 ⟨xb,0,none⟩ 1 1 _ (rsY.cs p) underlying23 xR own2
    (by rw [bD]; have : wI 1 (n + 1 - i) = 1 := by simp only [wu]; split <;> omega
        rw[this]) (xJ W2 yD) (by rw[bD];omega) xO
   have yE:∀lb cb,(callFunc 198 #[.slice (some ⟨xb,0,none⟩) 1 1,.slice (some ⟨g,(i+1)*6,none⟩) lb cb]).run prog w=.ok (.value (.bool false)) w:=fun lb cb=>by
    rcases xK.2 with ⟨h,_⟩ | ⟨g',yx,xY,h,_,xD,_,_,zm,_⟩
    ·simp at h
    ·simp only[wD,wy,wZ,and_true,true_and] at h
     obtain⟨rfl,rfl⟩:=h
     rw[run_callFunc_extern func198 (by kernel_rfl) (by kernel_rfl) (by kernel_rfl) (e:=Extern.SlicesOverlaps.overlaps #[23,23] #[4]) (by kernel_rfl),
      Lib.run_overlaps_apart w 23 4 38 underlying23 6 (fun w=>by simp[sizeOf,typeInfo,xA,xz]) ⟨xb,0,none⟩ ⟨g,(i+1)*6,none⟩ 1 1 lb cb (fun e=>yC e.symm) 38 38 6 xY.size (by simp only[wK,hx];rfl) (by simp only[wK,xD]) (by omega) (by simp[wL,hx]) (by simp[wL,hx])]
     rfl
   have xt:rsY.fl (M.take i)++(rsY.cs p++rsY.fl (M.drop i))=_:=(ms (rsY.fl (M.take i)) (rsY.fl (M.drop i)) st (rsY.cs p) (by rw[hst];rfl)).symm
   rw[xF,bD,←yd,show i*6+6=(i+1)*6 by omega] at xt;rw[bD,show i*6+6=(i+1)*6 by omega,←xt] at xw;have HO:=h_ xw;have HG:=h_ (dn (w:=w) (w1:=W2) ⟨xo.os,xo.tape,xo.output,xo.size,xo.block⟩ xp);have xP:=h_ xr;have HI:=h_ xB;have yl:=h_ xG;have yn:=h_ xH;have OV:=h_ yE;clear hx xJ xn xK own2 xw xo xp xF xC yd xQ xO xR hst yD xG xH xt xr xB hn yE yj;go_enter func155,ntmps155;have xT:prog.follows Departure.mixedOrders=true:=(by kernel_rfl);go_wp2_with (simp only[OV.out]);go_region_law_o (refine step_copy_runI rfl _ _ 23 23 rfl _ _ (by simp[wo,wq]) (by simp[wo,wq]) (yl.out _) ?_);have zq:=yn.out;go_wp2_with fail;go_ret;exact⟨_,rfl,by rw[xP.out,HI.out];exact HO.out,HG.out,fun g' xD=>.inl xD⟩
  ·obtain rfl : c = n := by omega
   have yF:(c:Int)+1-(i:Int)=((c+1-i:Nat):Int):=(by omega);have ye:i+(c+1-i)=c+1:=(by omega)
   have yg:(Builtin.firstCells i0.size i (.slice (some ⟨g,0,none⟩) i c)).run prog w.drew=.ok (rsY.fl (M.take i)).toArray w.drew:=by
    rw[xz]
    exact run_firstCells_some w.drew 6 i ⟨g,0,none⟩ i c (rsY.fl (M.take i)) xF (fun j u hj=>by
     have h2:(rsY.fl M)[j]?=some u:=by
      rw[yd,xd]
      ·exact hj
      ·rcases wA j (rsY.fl (M.take i)).length with h | h
       ·exact h
       ·rw[wE h] at hj;cases hj
     exact xn.cells (g:=g) rfl j u h2)
   have yf:=fun ty=>Lib.run_append_grow_zeros w 23 3 ty 38 i0 _ .i64 .i64 underlying23 underlying3 xA xN (some ⟨g,0,none⟩) i c (rsY.fl (M.take i)) yg (c+1-i) (by omega) (by omega) (by omega) (by omega) (by rw[xI];omega) (by rw[xI,ye];exact growslice_fits (by omega) (by omega))
   rw[ye] at yf;have yo:=grownCap_ge w (c+1) c 38;have xU:grownCap w (c+1) c 38≤maxLen:=grownCap_le_maxLen w (c+1) c 38 (by unfold maxLen;omega);obtain⟨G,hG⟩:=e_ (grownCap w (c+1) c 38);rw[hG] at yf yo xU;obtain⟨Z,hZ⟩:=e_ ((Builtin.zeroCells (wh (.agg #[.string ⟨#[]⟩,.bool false,.int .i64 0,.slice none 0 0,.bool false,.slice none 0 0])) (c+1-i)).toList);have yp:Z.length=(c+1-i)*6:=(by rw[←hZ,xe,size_zeroCells];rfl)
   have xx:(w.drew.alloc (.cells ((rsY.fl (M.take i)).toArray++Builtin.zeroCells (wh (.agg #[.string ⟨#[]⟩,.bool false,.int .i64 0,.slice none 0 0,.bool false,.slice none 0 0])) (c+1-i)++Builtin.zeroCells (wh (.agg #[.string ⟨#[]⟩,.bool false,.int .i64 0,.slice none 0 0,.bool false,.slice none 0 0])) (G-(c+1))) 38)).ownsRow B 38 6 (.slice (some ⟨w.heap.size,0,none⟩) (c+1) G) (c+1) (rsY.fl (M.take i)++Z):=by
    have xV:(rsY.fl (M.take i)++Z).length=(c+1)*6:=(by rw[wG,xF,yp,←wt,ye]);refine⟨xV,.inr ⟨w.heap.size,G,_,rfl,hB,heap_alloc_new w.drew _,yo,xU,?_,?_⟩⟩
    ·simp only[xf,xg,size_zeroCells,xF]
     show i*6+(c+1-i)*6+(G-(c+1))*6=G*6
     omega
    ·simp only[xh]
     rw[hZ,←xV];exact wT
   have xL:w.grownBy (w.drew.alloc (.cells ((rsY.fl (M.take i)).toArray++Builtin.zeroCells (wh (.agg #[.string ⟨#[]⟩,.bool false,.int .i64 0,.slice none 0 0,.bool false,.slice none 0 0])) (c+1-i)++Builtin.zeroCells (wh (.agg #[.string ⟨#[]⟩,.bool false,.int .i64 0,.slice none 0 0,.bool false,.slice none 0 0])) (G-(c+1))) 38)) (some g):=⟨rfl,rfl,rfl,by simp,fun k hk _=>heap_alloc_old w.drew _ hk⟩;obtain⟨W1,xW⟩:=e_ (w.drew.alloc (.cells ((rsY.fl (M.take i)).toArray++Builtin.zeroCells (wh (.agg #[.string ⟨#[]⟩,.bool false,.int .i64 0,.slice none 0 0,.bool false,.slice none 0 0])) (c+1-i)++Builtin.zeroCells (wh (.agg #[.string ⟨#[]⟩,.bool false,.int .i64 0,.slice none 0 0,.bool false,.slice none 0 0])) (G-(c+1))) 38))
   have yh:∀ty,(Builtin.append_ #[23,3] ty #[.slice (some ⟨g,0,none⟩) i c,.int .i64 ((c:Int)+1-(i:Int))]).run prog w=.ok (.slice (some ⟨w.heap.size,0,none⟩) (c+1) G) W1:=fun ty=>by rw[yF,←xW];exact yf ty
   have yG:W1.heap[xb]?=w.heap[xb]?:=(by rw[←xW];exact heap_alloc_old w.drew _ yk);have yq:W1.heap[g]?=w.heap[g]?:=(by rw[←xW];exact heap_alloc_old w.drew _ yT);rw[xW] at xx xL
   obtain⟨W2,xG,own2,xo⟩:=aM W1 B w.heap.size (c+1) G 6 i (c+1-i) (G-i) 23 23 38 ⟨xb,0,none⟩ 1 1 _ (rsY.cs p) underlying23 xR xx
    (by rw [bD]; have : wI 1 (c + 1 - i) = 1 := by simp only [wu]; split <;> omega
        rw[this]) (xJ W1 yG) (by rw[bD];omega) xO
   have yY:w.heap.size<W1.heap.size:=(xx.lt _ rfl).2
   have yH:W2.heap[g]?=w.heap[g]?:=(xo.block g (by omega) (fun e=>by cases e;omega)).trans yq
   obtain⟨W3,xH,xw,xp⟩:=aM W2.drew B w.heap.size (c+1) G 6 (i+1) (c+1-(i+1)) (G-(i+1)) 23 23 38 ⟨g,i*6,none⟩ (c-i) (c-i) _ (rsY.fl (M.drop i)) underlying23 xR own2.drew
    (by rw[xC];congr 1;simp only[wu];split <;> omega) (fun j u hj=>by
     have h:=ea xn (i*6) j u (by rw[xQ];exact hj);rw[ww] at h ⊢;simp only[wF] at h ⊢;rw[show W2.drew.heap[g]?=w.heap[g]? from yH]
     exact h) (by rw[xC,←wt];exact wv _ (by omega)) (fun u hu=>je _ u hu)
   have xt:=my (rsY.fl (M.take i)) (rsY.fl (M.drop i)) Z (rsY.cs p) (by rw[yp,xC,bD];omega);rw[xF,bD,show i*6+6=(i+1)*6 by omega] at xt;rw[bD,show i*6+6=(i+1)*6 by omega,xt] at xw;have u1:¬ (G=i):=(by omega);have u2:¬ (G=i+1):=(by omega);have u3:(c:Int)<(c:Int)+1:=(by omega);have u4:G≤9223372036854775807:=(by unfold maxLen at xU;exact xU);have u5:(i:Int)≤(c:Int)+1:=(by omega);have u6:(i:Int)+1≤(c:Int)+1:=(by omega)
   have u7:IntKind.i64.wrap ((c:Int)+1-(i:Int))=(c:Int)+1-(i:Int):=IntWalk.i64_in _ (by omega)
   have HO:=h_ xw;have g2:=ex (row:=some g) xL xo (ws _);have HG:=h_ (ex (w:=w) (w1:=W2) (row:=some g) g2 (g:=w.heap.size) ⟨xp.os,xp.tape,xp.output,xp.size,xp.block⟩ (ws _));have xP:=h_ xr;have HI:=h_ xB;have yl:=h_ xG;have yn:=h_ xH;have RZ:=h_ yh;clear hx xJ xn xx own2 xw xL xo xp g2 xF xC yd xQ xO xR yG yq yH xG xH xt xr xB hn yj yf yh xW hZ yp hG yg yo xU yF ye yY;go_enter func155,ntmps155;go_wp2_with (at_builtin;refine Hid.out ?_);refine h_ ?_;refine Lib.wpList_append_run _ rfl _ _ _ _ rfl _ _ rfl rfl _ _ (RZ.out _) ?_;have xT:prog.follows Departure.mixedOrders=true:=(by kernel_rfl);have zv:=yl.out;go_wp2_with fail;go_region_law_o (refine step_copy_runI rfl _ _ 23 23 rfl _ _ (by simp[wo,wq]) (by simp[wo,wq]) (yn.out _) ?_);go_wp2_with fail;go_ret;exact⟨_,rfl,by rw[xP.out,HI.out];exact HO.out,HG.out,fun g' xD=>by(cases xD;exact .inr (ws _))⟩
theorem kb (B:Nat) (v:Value) (M:List RsI) (i:Nat) (w:World) (xn:w.ownsRow B 38 6 v M.length (rsY.fl M)) (hi:i<M.length) (hM:M.length≤100000):
  Calls prog 96 #[v,.int .i64 i,.int .i64 ((i:Int)+1)] w (mg B w v (M.eraseIdx i)):=by
 obtain⟨i0,xA,xN,xz,xI⟩:=info_parts ck;obtain⟨n,hn⟩:=e_ M.length;rw[hn] at xn hi hM;obtain⟨a,c,rfl,yS⟩:=aw xn;obtain⟨g,rfl,-,zk,yT⟩:=dC xn (by omega)
 have xr:(M.eraseIdx i).length=n-1:=by rw[List.length_eraseIdx,if_pos (by omega),hn]
 have xF:(rsY.fl (M.take i)).length=i*6:=by rw[fx,wB];congr 1;omega
 have xC:(rsY.fl (M.drop (i+1))).length=(n-(i+1))*6:=by rw[fx,wC,hn]
 have xQ:(rsY.fl M).drop ((i+1)*6)=rsY.fl (M.drop (i+1)):=(fV M (i+1)).symm
 have yZ:(rsY.fl M).take (i*6)=rsY.fl (M.take i):=(jO M i).symm
 have ze:(rsY.fl M).drop ((n-1)*6)=rsY.fl (M.drop (n-1)):=(fV M (n-1)).symm
 have yV:c≤9223372036854775807:=by
  rcases xn.2 with ⟨h,_⟩ | ⟨g',yx,xY,h,_,_,_,h4,_⟩
  ·simp at h
  ·simp only[wD] at h
   obtain⟨_,_,rfl⟩:=h;unfold maxLen at h4;exact h4
 have xE:w.drew.ownsRow B 38 i0.size (.slice (some ⟨g,0,none⟩) n c) n (rsY.fl M):=by rw[xz];exact xn.drew
 have key:∀a':Addr,(∀j u,(rsY.fl (M.drop (i+1)))[j]?=some u→w.cell? (a'.add j)=some u)→∀cc,∃w',(∀ty,(Builtin.append_ #[23,23] ty #[.slice (some ⟨g,0,none⟩) i c,.slice (some a') (n-(i+1)) cc]).run prog w.drew=.ok (.slice (some ⟨g,0,none⟩) (n-1) c) w')∧
   w'.ownsRow B 38 6 (.slice (some ⟨g,0,none⟩) n c) n (rsY.fl (M.eraseIdx i++M.drop (n-1)))∧w.grownBy w' (some g):=fun a' ha cc=>by
  obtain⟨w',h1,h2,h3⟩:=gB w.drew B g n c i 23 38 i0 underlying23 xA a' (n-(i+1)) cc (rsY.fl M) (rsY.fl (M.drop (i+1))) xE (by rw[xC,xz]) ha (by omega) (fun u hu=>je _ u hu);rw[show i+(n-(i+1))=n-1 by omega] at h1;rw[xz,yZ,xC,show i*6+(n-(i+1))*6=(n-1)*6 by omega,ze,←dF,←dF,lV] at h2;exact⟨w',h1,h2,⟨h3.os,h3.tape,h3.output,h3.size,h3.block⟩⟩
 have w1:((i:Int)+1).toNat=i+1:=by omega
 have w2:(0:Int)≤(i:Int)+1:=by omega
 have w3:(i:Int)≤(i:Int)+1:=by omega
 have w4:(i:Int)+1≤(n:Int):=by omega
 have w5:¬ ((i:Int)=(i:Int)+1):=by omega
 have w6:(i:Int)≤(c:Int):=by omega
 have w7:((n-1:Nat):Int)≤(n:Int):=by omega
 have w8:¬ (c=n-1):=by omega
 have w9:(n:Int)≤(c:Int):=by omega
 have yU:∀W1:World,W1.ownsRow B 38 6 (.slice (some ⟨g,0,none⟩) n c) n (rsY.fl (M.eraseIdx i++M.drop (n-1)))→w.grownBy W1 (some g)→
   ∃w',(∀ty,(Builtin.clear_ #[23] ty #[.slice (some ⟨g,(n-1)*6,none⟩) (n-(n-1)) (c-(n-1))]).run prog W1=.ok (.tuple #[]) w')∧w'.ownsRow B 38 6 (.slice (some ⟨g,0,none⟩) (n-1) c) (M.eraseIdx i).length (rsY.fl (M.eraseIdx i))∧w.grownBy w' (some g):=fun W1 h1 h2=>by
  obtain⟨w',e1,e2,e3⟩:=kf W1 B g n c (n-1) _ h1 (by omega)
  have e4:(M.eraseIdx i++M.drop (n-1)).take (n-1)=M.eraseIdx i:=by rw[←xr];exact wT
  rw[e4] at e2;exact⟨w',e1,by rw[xr];exact e2,dn h2 e3⟩
 by_cases hcc:c=i+1
 ·obtain⟨W1,ap,xx,yI⟩:=key ⟨g,0,none⟩ (fun j u hj=>by
   have:M.drop (i+1)=[]:=wS (by omega)
   rw[this] at hj
   simp[rD] at hj) 0
  obtain⟨W2,cl,own2,yJ⟩:=yU W1 xx yI
  have zw:n=i+1:=by omega
  have zh:n-1=i:=by omega
  have zz:n-(n-1)=1:=by omega
  rw[zz,zh] at cl
  have zB:n-(i+1)=0:=by omega
  rw[zB,zh] at ap;rw[zh] at own2
  have hci:c-i=1:=by omega
  rw[hci] at cl;have AP:=h_ ap;have HO:=h_ own2;have HG:=h_ yJ;subst hcc;subst zw;clear ap xx yI own2 yJ key yU xn xE xr xF xC xQ yZ ze hn;go_enter func96,ntmps96
  have xT:prog.follows Departure.mixedOrders=true:=by kernel_rfl
  go_wp2_with fail;go_region_law_o (refine da rfl _ _ 23 23 rfl (.slice (some ⟨g,0,none⟩) i (i+1)) (.slice (some ⟨g,0,none⟩) 0 0) (by simp[wo,wq]) (by simp[wo,wq]) (AP.out _) ?_);have zC:=cl;go_wp2_with fail;go_ret;exact⟨_,rfl,HO.out,HG.out,fun g' xD=>.inl xD⟩
 ·obtain⟨W1,ap,xx,yI⟩:=key ⟨g,(i+1)*6,none⟩ (fun j u hj=>ea xn ((i+1)*6) j u (by rw[xQ];exact hj)) (c-(i+1))
  obtain⟨W2,cl,own2,yJ⟩:=yU W1 xx yI;have AP:=h_ ap;have HO:=h_ own2;have HG:=h_ yJ;clear ap xx yI own2 yJ key yU xn xE xr xF xC xQ yZ ze hn;go_enter func96,ntmps96
  have xT:prog.follows Departure.mixedOrders=true:=by kernel_rfl
  go_wp2_with fail;go_region_law_o (refine da rfl _ _ 23 23 rfl _ _ (by simp[wo,wq]) (by simp[wo,wq]) (AP.out _) ?_);have zC:=cl;go_wp2_with fail;go_ret;exact⟨_,rfl,HO.out,HG.out,fun g' xD=>.inl xD⟩

section
variable {α:Type}
def thO (nm:α→List UInt8) (M:List α) (t:List UInt8):Bool:=match M[poG nm M t]? with
 | some y=>decide (gy (nm y) t=0)
 | none=>false
def puO (nm:α→List UInt8) (M:List α) (x:α):List α:=if thO nm M (nm x) then M.set (poG nm M (nm x)) x else M.take (poG nm M (nm x))++x :: M.drop (poG nm M (nm x))
theorem rO {nm:α→List UInt8} {M:List α} {t:List UInt8} (h:thO nm M t=true):poG nm M t<M.length:=by
 rcases wA (poG nm M t) M.length with h1 | h1
 ·exact h1
 ·unfold thO at h
  rw[wE h1] at h
  cases h
theorem mw {nm:α→List UInt8} {M:List α} {t:List UInt8} (hc:chG nm M=true) (k:Nat) (h:k<M.length):decide (gy (nm M[k]) t<0)=decide (k<poG nm M t):=by
 rw[jp];exact cF hc k h
end
theorem mK (x:AcI) (t:List UInt8) (Ls:Nat) (w:World) (hs:Ls<w.heap.size) (cs:w.cell? ⟨Ls,1,none⟩=some cy) (zx:x.j.length≤10000) (zt:t.length≤10000) (hm:ML w):
  Calls prog 118 #[x.v,.string ⟨t.toArray⟩,.pointer (some ⟨Ls,0,none⟩)] w (Ret w (.int .i64 (gy x.j t))):=by
 have HO:=h_ fun (W:World) (m:ML W)=>show Calls prog 119 #[.string ⟨x.j.toArray⟩,.string ⟨t.toArray⟩] W (Ret W (.int .i64 (gy x.j t))) from fm ⟨x.j.toArray⟩ ⟨t.toArray⟩ W (by rw[←ab];exact zx) (by rw[←ab];exact zt) m
 have HM:=h_ hm;have en:=vk;clear hm;obtain⟨W0,hW,y0,bs⟩:=Sx.start1 w [.string ⟨x.j.toArray⟩,x.iv,.int .i64 x.ver] 33;have HW:=h_ hW;clear hW;have q:=bs.q;go_enter func118,ntmps118;have yK:=bs.b3 0;go_wp2_with fail;rw[HW.out];refine(dx x W0).mono ?_;rintro e w1 ⟨rfl,hb⟩;clear yK cs;replace bs:=bs.ret hb;replace q:=bs.q;clear hb;go_wp2_with fail;refine(HO.out w1 (HM.out.ret q)).mono ?_;rintro e w2 ⟨rfl,hb⟩;replace bs:=bs.ret hb;replace q:=bs.q;clear hb;go_wp2_with fail;go_ret;exact⟨rfl,q⟩
theorem qP:∀args w,(callFunc 118 args).run prog w=.ok (.enter 118 args) w:=enters_of func118 (by kernel_rfl) rfl
theorem pq (a:Option Addr) (c:Nat) (M:List AcI) (x:AcI) (w:World) (hv:IsL acY (.slice a M.length c) M w) (hM:M.length≤1000) (hj:∀y∈M,y.j.length≤10000) (zx:x.j.length≤10000) (hc:chG (fun x:AcI=>x.j) M=true) (hm:ML w):
  Calls prog 58 #[.agg #[.slice a M.length c,cy],x.v] w (pQ acY w (puO (fun x:AcI=>x.j) M x)):=by
 obtain⟨L,hL⟩:=e_ M.length;obtain⟨P,hP⟩:=e_ (poG (fun x:AcI=>x.j) M x.j);obtain⟨F,hF⟩:=e_ (thO (fun x:AcI=>x.j) M x.j)
 have zD:P≤L:=by rw[←hP,←hL];exact ml (nm:=(fun x:AcI=>x.j)) M x.j
 have yL:∀h:P<M.length,F=decide (gy M[P].j x.j=0):=fun h=>by
  rw[←hF];unfold thO;rw[hP,wH h]
 have yM:¬ P<M.length→F=false:=fun h=>by
  rw[←hF];unfold thO;rw[hP,wE (by omega)]
 have yi:puO (fun x:AcI=>x.j) M x=if F then M.set P x else M.take P++x :: M.drop P:=by unfold puO;rw[hF,hP]
 rw[yi]
 have xq:IsL acY (.slice a L c) M w:=by rw[←hL];exact hv
 have yN:=h_ fun (W:World) (hb:Bl w W) (Ls:Nat) (hs:Ls<W.heap.size) (cs:W.cell? ⟨Ls,1,none⟩=some cy)=>
  kQ (.slice a L c) (.func (.func 118) #[] #[.pointer (some ⟨Ls,0,none⟩)]) ⟨x.j.toArray⟩ (fun y=>gy y.j x.j) M P F W (xq.ret hb) (by omega) ⟨_,_,rfl,qP,fun y hy V hV=>mK y x.j Ls V (xi hs hV.size) (((ag hV).1 _ _ hs).trans cs) (hj y hy) zx (hm.ret (hb.trans (hV.mono hb.size)))⟩ (by omega) (fun k h=>by rw[←hP];exact mw hc k h) yL yM
 have yt:=h_ fun (W:World) (hb:Bl w W)=>gq (.slice a L c) M W (xq.ret hb) (by omega)
 have yu:F=true→P<L:=fun h=>by rw[←hP,←hL];exact rO (by rw[hF];exact h)
 have HL:=h_ hL;have en:=vk;rw[hL];clear hv hj hc hm hP hF yL yM yi xq
 cases F with
 | true=>
  have yB:=yu rfl;clear yu;simp only[if_true];obtain⟨W0,hW,y0,bs⟩:=Sx.start2 w [.slice a L c,cy] 79 [.string ⟨x.j.toArray⟩,x.iv,.int .i64 x.ver] 33;have HW:=h_ hW;clear hW;have q:=bs.q;go_enter func58,ntmps58;go_wp2_with fail;rw[HW.out];replace bs:=bs.ret (wz (bQ _));replace q:=bs.q
  have y1:W0.drew.heap.size=W0.heap.size:=rfl
  refine wp_region_held_drew (S:=fun w'=>w'.cell? ⟨w.heap.size,0,none⟩=some (.slice a L c)∧w'.cell? ⟨w.heap.size,1,none⟩=some (cy)∧w'.cell? ⟨w.heap.size+1,0,none⟩=some (.string ⟨x.j.toArray⟩)∧w'.cell? ⟨w.heap.size+1,1,none⟩=some (x.iv)∧w'.cell? ⟨w.heap.size+1,2,none⟩=some (.int .i64 x.ver)) (by kernel_rfl) ⟨bs.at 0 0,bs.at 0 1,bs.at 1 0,bs.at 1 1,bs.at 1 2⟩ (fun hH=>?_);generalize W0.drew=w1 at bs q y1 hH ⊢;refine rS [(0,some 9),(1,some 10),(2,some 11),(3,some 12),(4,some 13),(6,some 15)] ?_
  iterate 6 refine aS ?_
  refine rE ?_
  refine aC (i:=5) fun K hK=>?_
  go_simp;refine(dx x w1).mono ?_;rintro e w2 ⟨rfl,hb⟩;replace bs:=bs.ret hb;replace q:=bs.q;clear hb;go_simp;clear hH;refine hK.out _ _ ⟨bs.at 0 0,bs.at 0 1,bs.at 1 0,bs.at 1 1,bs.at 1 2⟩ (fun hH=>?_);clear hK K
  refine aC (i:=7) fun K hK=>?_
  go_simp;refine(yN.out w2 q w.heap.size (bs.lt _ (wM (i:=0) rfl)) (bs.at 0 1)).mono ?_;rintro e w3 ⟨rfl,hb⟩;replace bs:=bs.ret hb;replace q:=bs.q;clear hb;go_simp;clear hH;refine hK.out _ _ ⟨bs.at 0 0,bs.at 0 1,bs.at 1 0,bs.at 1 1,bs.at 1 2⟩ (fun hH=>?_);clear hK K;refine rS [(8,some 8),(9,some 17),(10,some 18),(11,some 5),(12,some 6)] ?_
  iterate 5 refine aS ?_
  refine rE ?_;refine aD ?_;clear hH;have yO:=bs.b2 0;go_wp2_with fail;have qs:=q.size;refine(yt.out w3 q).mono ?_;rintro e w4 ⟨a1,c1,rfl,xn,hb⟩;clear yO;replace bs:=bs.ret hb;replace q:=bs.q;clear hb;rw[HL.out] at xn;obtain⟨g,rfl,-,zi,yq⟩:=dC xn (by omega)
  have wn:(P:Int)<(L:Int):=by omega
  have xn:w4.ownsRow w.heap.size 33 3 (.slice (some ⟨g,0,none⟩) L c1) L (acY.fl M):=xn.mono qs;have HO:=h_ xn
  have xZ:P<M.length:=by rw[HL.out];exact yB
  obtain⟨y,hy⟩:=e_ (M[P])
  have i0:w4.cell? ⟨g,P*3,none⟩=some (.string ⟨y.j.toArray⟩):=by
   have:=xn.cellAt (P*3) (by omega);rw[this];have:=dh acY M P xZ 0 (by decide);rw[hy] at this;exact this
  have j0:=xn.frozenAt (P*3)
  have i1:w4.cell? ⟨g,P*3+1,none⟩=some (y.iv):=by
   have:=xn.cellAt (P*3+1) (by omega);rw[this];have:=dh acY M P xZ 1 (by decide);rw[hy] at this;exact this
  have j1:=xn.frozenAt (P*3+1)
  have i2:w4.cell? ⟨g,P*3+2,none⟩=some (.int .i64 y.ver):=by
   have:=xn.cellAt (P*3+2) (by omega);rw[this];have:=dh acY M P xZ 2 (by decide);rw[hy] at this;exact this
  have j2:=xn.frozenAt (P*3+2);have yP:=bs.b3 1;go_wp2_with fail;clear yP;go_ret;refine⟨some ⟨g,0,none⟩,c1,by rw[wN,HL.out];rfl,?_,?_⟩
  ·have:=jL HO.out HL.out P (by omega) x
   rw[wN,HL.out];exact this
  ·exact cC ([.string ⟨x.j.toArray⟩,x.iv,.int .i64 x.ver]:List Value) (g:=g) q (xk qs zi) (P*3)
 | false=>
  clear yu;simp only[xm,if_false];obtain⟨W0,hW,y0,bs⟩:=Sx.start2 w [.slice a L c,cy] 79 [.string ⟨x.j.toArray⟩,x.iv,.int .i64 x.ver] 33;have HW:=h_ hW;clear hW;have q:=bs.q;go_enter func58,ntmps58;go_wp2_with fail;rw[HW.out];replace bs:=bs.ret (wz (bQ _));replace q:=bs.q
  have y1:W0.drew.heap.size=W0.heap.size:=rfl
  refine wp_region_held_drew (S:=fun w'=>w'.cell? ⟨w.heap.size,0,none⟩=some (.slice a L c)∧w'.cell? ⟨w.heap.size,1,none⟩=some (cy)∧w'.cell? ⟨w.heap.size+1,0,none⟩=some (.string ⟨x.j.toArray⟩)∧w'.cell? ⟨w.heap.size+1,1,none⟩=some (x.iv)∧w'.cell? ⟨w.heap.size+1,2,none⟩=some (.int .i64 x.ver)) (by kernel_rfl) ⟨bs.at 0 0,bs.at 0 1,bs.at 1 0,bs.at 1 1,bs.at 1 2⟩ (fun hH=>?_);generalize W0.drew=w1 at bs q y1 hH ⊢;refine rS [(0,some 9),(1,some 10),(2,some 11),(3,some 12),(4,some 13),(6,some 15)] ?_
  iterate 6 refine aS ?_
  refine rE ?_
  refine aC (i:=5) fun K hK=>?_
  go_simp;refine(dx x w1).mono ?_;rintro e w2 ⟨rfl,hb⟩;replace bs:=bs.ret hb;replace q:=bs.q;clear hb;go_simp;clear hH;refine hK.out _ _ ⟨bs.at 0 0,bs.at 0 1,bs.at 1 0,bs.at 1 1,bs.at 1 2⟩ (fun hH=>?_);clear hK K
  refine aC (i:=7) fun K hK=>?_
  go_simp;refine(yN.out w2 q w.heap.size (bs.lt _ (wM (i:=0) rfl)) (bs.at 0 1)).mono ?_;rintro e w3 ⟨rfl,hb⟩;replace bs:=bs.ret hb;replace q:=bs.q;clear hb;go_simp;clear hH;refine hK.out _ _ ⟨bs.at 0 0,bs.at 0 1,bs.at 1 0,bs.at 1 1,bs.at 1 2⟩ (fun hH=>?_);clear hK K;refine rS [(8,some 8),(9,some 17),(10,some 18),(11,some 5),(12,some 6)] ?_
  iterate 5 refine aS ?_
  refine rE ?_;refine aD ?_;clear hH;go_wp2_with fail;replace bs:=bs.ret (wz (bQ _));replace q:=bs.q
  have y4:w3.drew.heap.size=w3.heap.size:=rfl
  refine wp_region_held_drew (S:=fun w'=>w'.cell? ⟨w.heap.size,0,none⟩=some (.slice a L c)∧w'.cell? ⟨w.heap.size,1,none⟩=some (cy)∧w'.cell? ⟨w.heap.size+1,0,none⟩=some (.string ⟨x.j.toArray⟩)∧w'.cell? ⟨w.heap.size+1,1,none⟩=some (x.iv)∧w'.cell? ⟨w.heap.size+1,2,none⟩=some (.int .i64 x.ver)) (by kernel_rfl) ⟨bs.at 0 0,bs.at 0 1,bs.at 1 0,bs.at 1 1,bs.at 1 2⟩ (fun hH=>?_);generalize w3.drew=w4 at bs q y4 hH ⊢;refine rS [(0,some 28),(1,some 29),(3,some 31),(4,some 32)] ?_
  iterate 4 refine aS ?_
  refine rE ?_;refine wpAnyH_ready (rs:=[2,5]) (by kernel_rfl) (by simp) ?_;refine az (by kernel_rfl) (fun o ho K hK=>?_) ?_
  ·simp only[wO,wP,wQ,wy] at ho
   subst ho;go_simp;refine(yt.out w4 q).mono ?_;rintro e w5 ⟨a1,c1,rfl,xn,hb⟩;have xu:=OwX.mk' bs xn;replace bs:=bs.ret hb;replace q:=bs.q;clear hb;go_simp;clear hH;refine hK.out _ _ ⟨bs.at 0 0,bs.at 0 1,bs.at 1 0,bs.at 1 1,bs.at 1 2⟩ (fun hH=>?_);clear hK K
   refine aC (i:=5) fun K hK=>?_
   go_simp;have xX:HpX (w5.heap.size) [.string ⟨x.j.toArray⟩,x.iv,.int .i64 x.ver] 33 (w5.alloc (.cells #[.string ⟨x.j.toArray⟩,x.iv,.int .i64 x.ver] 33)):=⟨by rw[←show w5.heap.size=w5.heap.size from rfl];exact wR _ _⟩;obtain⟨w6,yQ,y6,al,bs⟩:=bs.alloc (w5.heap.size) rfl [.string ⟨x.j.toArray⟩,x.iv,.int .i64 x.ver] 33;replace xu:=xu.alloc (w5.heap.size) rfl al;clear al;replace q:=bs.q;have xM:HpX (w5.heap.size) [.string ⟨x.j.toArray⟩,x.iv,.int .i64 x.ver] 33 w6:=(by rw[←yQ];exact xX);clear xX;rw[yQ];go_simp;clear hH;refine hK.out _ _ ⟨bs.at 0 0,bs.at 0 1,bs.at 1 0,bs.at 1 1,bs.at 1 2⟩ (fun hH=>?_);clear hK K
   refine aC (i:=6) fun K hK=>?_
   go_simp;have xy:=fh w.heap.size (.slice a1 M.length c1) M P (w5.heap.size) x w6 xu.1 q.size (by omega) (by omega) xM.h (fun e=>xu.2 _ e (by simp));rw[HL.out] at xy;refine xy.mono ?_;rintro e w7 ⟨v',rfl,xq,yv,yw⟩;clear xy yw;replace bs:=bs.grown yv (fun g hg=>⟨(xu.1.lt g (by rw[HL.out];exact hg)).1,xu.2 g (by rw[HL.out];exact hg)⟩);replace q:=bs.q;clear xu xM;go_simp;clear hH;refine hK.out _ _ ⟨bs.at 0 0,bs.at 0 1,bs.at 1 0,bs.at 1 1,bs.at 1 2⟩ (fun hH=>?_);clear hK K;refine rS [(7,some 4)] ?_;refine aS ?_;refine rE ?_;refine aD ?_;clear hH;obtain⟨a2,c2,rfl,-⟩:=aw xq;go_wp2_with fail;go_ret;exact⟨a2,c2,rfl,xq,q⟩
  refine az (by kernel_rfl) (fun o ho K hK=>?_) ?_
  ·simp only[wO,wP,wQ,wy] at ho
   subst ho;go_simp;have xX:HpX (w3.heap.size) [.string ⟨x.j.toArray⟩,x.iv,.int .i64 x.ver] 33 (w4.alloc (.cells #[.string ⟨x.j.toArray⟩,x.iv,.int .i64 x.ver] 33)):=⟨by rw[←show w4.heap.size=w3.heap.size from (by omega)];exact wR _ _⟩;obtain⟨w5,yR,y5,al,bs⟩:=bs.alloc (w3.heap.size) (by omega) [.string ⟨x.j.toArray⟩,x.iv,.int .i64 x.ver] 33;clear al;replace q:=bs.q;have xM:HpX (w3.heap.size) [.string ⟨x.j.toArray⟩,x.iv,.int .i64 x.ver] 33 w5:=(by rw[←yR];exact xX);clear xX;rw[yR];go_simp;clear hH;refine hK.out _ _ ⟨bs.at 0 0,bs.at 0 1,bs.at 1 0,bs.at 1 1,bs.at 1 2⟩ (fun hH=>?_);clear hK K
   refine aC (i:=2) fun K hK=>?_
   go_simp;refine(yt.out w5 q).mono ?_;rintro e w6 ⟨a1,c1,rfl,xn,hb⟩;have xu:=OwX.mk' bs xn;replace xM:=xM.ret hb;replace bs:=bs.ret hb;replace q:=bs.q;clear hb;go_simp;clear hH;refine hK.out _ _ ⟨bs.at 0 0,bs.at 0 1,bs.at 1 0,bs.at 1 1,bs.at 1 2⟩ (fun hH=>?_);clear hK K
   refine aC (i:=6) fun K hK=>?_
   go_simp;have xy:=fh w.heap.size (.slice a1 M.length c1) M P (w3.heap.size) x w6 xu.1 q.size (by omega) (by omega) xM.h (fun e=>xu.2 _ e (by simp));rw[HL.out] at xy;refine xy.mono ?_;rintro e w7 ⟨v',rfl,xq,yv,yw⟩;clear xy yw;replace bs:=bs.grown yv (fun g hg=>⟨(xu.1.lt g (by rw[HL.out];exact hg)).1,xu.2 g (by rw[HL.out];exact hg)⟩);replace q:=bs.q;clear xu xM;go_simp;clear hH;refine hK.out _ _ ⟨bs.at 0 0,bs.at 0 1,bs.at 1 0,bs.at 1 1,bs.at 1 2⟩ (fun hH=>?_);clear hK K;refine rS [(7,some 4)] ?_;refine aS ?_;refine rE ?_;refine aD ?_;clear hH;obtain⟨a2,c2,rfl,-⟩:=aw xq;go_wp2_with fail;go_ret;exact⟨a2,c2,rfl,xq,q⟩
  exact AllReadyH.nil
theorem mM (x:RsI) (t:List UInt8) (Ls:Nat) (w:World) (hs:Ls<w.heap.size) (cs:w.cell? ⟨Ls,1,none⟩=some cv) (zx:x.j.length≤10000) (zt:t.length≤10000) (hm:ML w):
  Calls prog 154 #[x.v,.string ⟨t.toArray⟩,.pointer (some ⟨Ls,0,none⟩)] w (Ret w (.int .i64 (gy x.j t))):=by
 have HO:=h_ fun (W:World) (m:ML W)=>show Calls prog 119 #[.string ⟨x.j.toArray⟩,.string ⟨t.toArray⟩] W (Ret W (.int .i64 (gy x.j t))) from fm ⟨x.j.toArray⟩ ⟨t.toArray⟩ W (by rw[←ab];exact zx) (by rw[←ab];exact zt) m
 have HM:=h_ hm;have en:=vg;clear hm;obtain⟨W0,hW,y0,bs⟩:=Sx.start1 w [.string ⟨x.j.toArray⟩,.bool x.on,.int .i64 x.pr,x.lv,.bool x.ask,x.sv] 38;have HW:=h_ hW;clear hW;have q:=bs.q;go_enter func154,ntmps154;have yK:=bs.b6 0;go_wp2_with fail;rw[HW.out];refine(dB x W0).mono ?_;rintro e w1 ⟨rfl,hb⟩;clear yK cs;replace bs:=bs.ret hb;replace q:=bs.q;clear hb;go_wp2_with fail;refine(HO.out w1 (HM.out.ret q)).mono ?_;rintro e w2 ⟨rfl,hb⟩;replace bs:=bs.ret hb;replace q:=bs.q;clear hb;go_wp2_with fail;go_ret;exact⟨rfl,q⟩
theorem qq:∀args w,(callFunc 154 args).run prog w=.ok (.enter 154 args) w:=enters_of func154 (by kernel_rfl) rfl
theorem ge (a:Option Addr) (c:Nat) (M:List RsI) (x:RsI) (w:World) (hv:IsL rsY (.slice a M.length c) M w) (hM:M.length≤1000) (hj:∀y∈M,y.j.length≤10000) (zx:x.j.length≤10000) (hc:chG (fun x:RsI=>x.j) M=true) (hm:ML w):
  Calls prog 94 #[.agg #[.slice a M.length c,cv],x.v] w (pQ rsY w (puO (fun x:RsI=>x.j) M x)):=by
 obtain⟨L,hL⟩:=e_ M.length;obtain⟨P,hP⟩:=e_ (poG (fun x:RsI=>x.j) M x.j);obtain⟨F,hF⟩:=e_ (thO (fun x:RsI=>x.j) M x.j)
 have zD:P≤L:=by rw[←hP,←hL];exact ml (nm:=(fun x:RsI=>x.j)) M x.j
 have yL:∀h:P<M.length,F=decide (gy M[P].j x.j=0):=fun h=>by
  rw[←hF];unfold thO;rw[hP,wH h]
 have yM:¬ P<M.length→F=false:=fun h=>by
  rw[←hF];unfold thO;rw[hP,wE (by omega)]
 have yi:puO (fun x:RsI=>x.j) M x=if F then M.set P x else M.take P++x :: M.drop P:=by unfold puO;rw[hF,hP]
 rw[yi]
 have xq:IsL rsY (.slice a L c) M w:=by rw[←hL];exact hv
 have yN:=h_ fun (W:World) (hb:Bl w W) (Ls:Nat) (hs:Ls<W.heap.size) (cs:W.cell? ⟨Ls,1,none⟩=some cv)=>
  kF (.slice a L c) (.func (.func 154) #[] #[.pointer (some ⟨Ls,0,none⟩)]) ⟨x.j.toArray⟩ (fun y=>gy y.j x.j) M P F W (xq.ret hb) (by omega) ⟨_,_,rfl,qq,fun y hy V hV=>mM y x.j Ls V (xi hs hV.size) (((ag hV).1 _ _ hs).trans cs) (hj y hy) zx (hm.ret (hb.trans (hV.mono hb.size)))⟩ (by omega) (fun k h=>by rw[←hP];exact mw hc k h) yL yM
 have yt:=h_ fun (W:World) (hb:Bl w W)=>fG (.slice a L c) M W (xq.ret hb) (by omega)
 have yu:F=true→P<L:=fun h=>by rw[←hP,←hL];exact rO (by rw[hF];exact h)
 have HL:=h_ hL;have en:=vg;rw[hL];clear hv hj hc hm hP hF yL yM yi xq
 cases F with
 | true=>
  have yB:=yu rfl;clear yu;simp only[if_true];obtain⟨W0,hW,y0,bs⟩:=Sx.start2 w [.slice a L c,cv] 84 [.string ⟨x.j.toArray⟩,.bool x.on,.int .i64 x.pr,x.lv,.bool x.ask,x.sv] 38;have HW:=h_ hW;clear hW;have q:=bs.q;go_enter func94,ntmps94;go_wp2_with fail;rw[HW.out];replace bs:=bs.ret (wz (bQ _));replace q:=bs.q
  have y1:W0.drew.heap.size=W0.heap.size:=rfl
  refine wp_region_held_drew (S:=fun w'=>w'.cell? ⟨w.heap.size,0,none⟩=some (.slice a L c)∧w'.cell? ⟨w.heap.size,1,none⟩=some (cv)∧w'.cell? ⟨w.heap.size+1,0,none⟩=some (.string ⟨x.j.toArray⟩)∧w'.cell? ⟨w.heap.size+1,1,none⟩=some (.bool x.on)∧w'.cell? ⟨w.heap.size+1,2,none⟩=some (.int .i64 x.pr)∧w'.cell? ⟨w.heap.size+1,3,none⟩=some (x.lv)∧w'.cell? ⟨w.heap.size+1,4,none⟩=some (.bool x.ask)∧w'.cell? ⟨w.heap.size+1,5,none⟩=some (x.sv)) (by kernel_rfl) ⟨bs.at 0 0,bs.at 0 1,bs.at 1 0,bs.at 1 1,bs.at 1 2,bs.at 1 3,bs.at 1 4,bs.at 1 5⟩ (fun hH=>?_);generalize W0.drew=w1 at bs q y1 hH ⊢;refine rS [(0,some 9),(1,some 10),(2,some 11),(3,some 12),(4,some 13),(6,some 15)] ?_
  iterate 6 refine aS ?_
  refine rE ?_
  refine aC (i:=5) fun K hK=>?_
  go_simp;refine(dB x w1).mono ?_;rintro e w2 ⟨rfl,hb⟩;replace bs:=bs.ret hb;replace q:=bs.q;clear hb;go_simp;clear hH;refine hK.out _ _ ⟨bs.at 0 0,bs.at 0 1,bs.at 1 0,bs.at 1 1,bs.at 1 2,bs.at 1 3,bs.at 1 4,bs.at 1 5⟩ (fun hH=>?_);clear hK K
  refine aC (i:=7) fun K hK=>?_
  go_simp;refine(yN.out w2 q w.heap.size (bs.lt _ (wM (i:=0) rfl)) (bs.at 0 1)).mono ?_;rintro e w3 ⟨rfl,hb⟩;replace bs:=bs.ret hb;replace q:=bs.q;clear hb;go_simp;clear hH;refine hK.out _ _ ⟨bs.at 0 0,bs.at 0 1,bs.at 1 0,bs.at 1 1,bs.at 1 2,bs.at 1 3,bs.at 1 4,bs.at 1 5⟩ (fun hH=>?_);clear hK K;refine rS [(8,some 8),(9,some 17),(10,some 18),(11,some 5),(12,some 6)] ?_
  iterate 5 refine aS ?_
  refine rE ?_;refine aD ?_;clear hH;have yO:=bs.b2 0;go_wp2_with fail;have qs:=q.size;refine(yt.out w3 q).mono ?_;rintro e w4 ⟨a1,c1,rfl,xn,hb⟩;clear yO;replace bs:=bs.ret hb;replace q:=bs.q;clear hb;rw[HL.out] at xn;obtain⟨g,rfl,-,zi,yq⟩:=dC xn (by omega)
  have wn:(P:Int)<(L:Int):=by omega
  have xn:w4.ownsRow w.heap.size 38 6 (.slice (some ⟨g,0,none⟩) L c1) L (rsY.fl M):=xn.mono qs;have HO:=h_ xn
  have xZ:P<M.length:=by rw[HL.out];exact yB
  obtain⟨y,hy⟩:=e_ (M[P])
  have i0:w4.cell? ⟨g,P*6,none⟩=some (.string ⟨y.j.toArray⟩):=by
   have:=xn.cellAt (P*6) (by omega);rw[this];have:=dh rsY M P xZ 0 (by decide);rw[hy] at this;exact this
  have j0:=xn.frozenAt (P*6)
  have i1:w4.cell? ⟨g,P*6+1,none⟩=some (.bool y.on):=by
   have:=xn.cellAt (P*6+1) (by omega);rw[this];have:=dh rsY M P xZ 1 (by decide);rw[hy] at this;exact this
  have j1:=xn.frozenAt (P*6+1)
  have i2:w4.cell? ⟨g,P*6+2,none⟩=some (.int .i64 y.pr):=by
   have:=xn.cellAt (P*6+2) (by omega);rw[this];have:=dh rsY M P xZ 2 (by decide);rw[hy] at this;exact this
  have j2:=xn.frozenAt (P*6+2)
  have i3:w4.cell? ⟨g,P*6+3,none⟩=some (y.lv):=by
   have:=xn.cellAt (P*6+3) (by omega);rw[this];have:=dh rsY M P xZ 3 (by decide);rw[hy] at this;exact this
  have j3:=xn.frozenAt (P*6+3)
  have i4:w4.cell? ⟨g,P*6+4,none⟩=some (.bool y.ask):=by
   have:=xn.cellAt (P*6+4) (by omega);rw[this];have:=dh rsY M P xZ 4 (by decide);rw[hy] at this;exact this
  have j4:=xn.frozenAt (P*6+4)
  have i5:w4.cell? ⟨g,P*6+5,none⟩=some (y.sv):=by
   have:=xn.cellAt (P*6+5) (by omega);rw[this];have:=dh rsY M P xZ 5 (by decide);rw[hy] at this;exact this
  have j5:=xn.frozenAt (P*6+5);have yP:=bs.b6 1;go_wp2_with fail;clear yP;go_ret;refine⟨some ⟨g,0,none⟩,c1,by rw[wN,HL.out];rfl,?_,?_⟩
  ·have:=jL HO.out HL.out P (by omega) x
   rw[wN,HL.out];exact this
  ·exact cC ([.string ⟨x.j.toArray⟩,.bool x.on,.int .i64 x.pr,x.lv,.bool x.ask,x.sv]:List Value) (g:=g) q (xk qs zi) (P*6)
 | false=>
  clear yu;simp only[xm,if_false];obtain⟨W0,hW,y0,bs⟩:=Sx.start2 w [.slice a L c,cv] 84 [.string ⟨x.j.toArray⟩,.bool x.on,.int .i64 x.pr,x.lv,.bool x.ask,x.sv] 38;have HW:=h_ hW;clear hW;have q:=bs.q;go_enter func94,ntmps94;go_wp2_with fail;rw[HW.out];replace bs:=bs.ret (wz (bQ _));replace q:=bs.q
  have y1:W0.drew.heap.size=W0.heap.size:=rfl
  refine wp_region_held_drew (S:=fun w'=>w'.cell? ⟨w.heap.size,0,none⟩=some (.slice a L c)∧w'.cell? ⟨w.heap.size,1,none⟩=some (cv)∧w'.cell? ⟨w.heap.size+1,0,none⟩=some (.string ⟨x.j.toArray⟩)∧w'.cell? ⟨w.heap.size+1,1,none⟩=some (.bool x.on)∧w'.cell? ⟨w.heap.size+1,2,none⟩=some (.int .i64 x.pr)∧w'.cell? ⟨w.heap.size+1,3,none⟩=some (x.lv)∧w'.cell? ⟨w.heap.size+1,4,none⟩=some (.bool x.ask)∧w'.cell? ⟨w.heap.size+1,5,none⟩=some (x.sv)) (by kernel_rfl) ⟨bs.at 0 0,bs.at 0 1,bs.at 1 0,bs.at 1 1,bs.at 1 2,bs.at 1 3,bs.at 1 4,bs.at 1 5⟩ (fun hH=>?_);generalize W0.drew=w1 at bs q y1 hH ⊢;refine rS [(0,some 9),(1,some 10),(2,some 11),(3,some 12),(4,some 13),(6,some 15)] ?_
  iterate 6 refine aS ?_
  refine rE ?_
  refine aC (i:=5) fun K hK=>?_
  go_simp;refine(dB x w1).mono ?_;rintro e w2 ⟨rfl,hb⟩;replace bs:=bs.ret hb;replace q:=bs.q;clear hb;go_simp;clear hH;refine hK.out _ _ ⟨bs.at 0 0,bs.at 0 1,bs.at 1 0,bs.at 1 1,bs.at 1 2,bs.at 1 3,bs.at 1 4,bs.at 1 5⟩ (fun hH=>?_);clear hK K
  refine aC (i:=7) fun K hK=>?_
  go_simp;refine(yN.out w2 q w.heap.size (bs.lt _ (wM (i:=0) rfl)) (bs.at 0 1)).mono ?_;rintro e w3 ⟨rfl,hb⟩;replace bs:=bs.ret hb;replace q:=bs.q;clear hb;go_simp;clear hH;refine hK.out _ _ ⟨bs.at 0 0,bs.at 0 1,bs.at 1 0,bs.at 1 1,bs.at 1 2,bs.at 1 3,bs.at 1 4,bs.at 1 5⟩ (fun hH=>?_);clear hK K;refine rS [(8,some 8),(9,some 17),(10,some 18),(11,some 5),(12,some 6)] ?_
  iterate 5 refine aS ?_
  refine rE ?_;refine aD ?_;clear hH;go_wp2_with fail;replace bs:=bs.ret (wz (bQ _));replace q:=bs.q
  have y4:w3.drew.heap.size=w3.heap.size:=rfl
  refine wp_region_held_drew (S:=fun w'=>w'.cell? ⟨w.heap.size,0,none⟩=some (.slice a L c)∧w'.cell? ⟨w.heap.size,1,none⟩=some (cv)∧w'.cell? ⟨w.heap.size+1,0,none⟩=some (.string ⟨x.j.toArray⟩)∧w'.cell? ⟨w.heap.size+1,1,none⟩=some (.bool x.on)∧w'.cell? ⟨w.heap.size+1,2,none⟩=some (.int .i64 x.pr)∧w'.cell? ⟨w.heap.size+1,3,none⟩=some (x.lv)∧w'.cell? ⟨w.heap.size+1,4,none⟩=some (.bool x.ask)∧w'.cell? ⟨w.heap.size+1,5,none⟩=some (x.sv)) (by kernel_rfl) ⟨bs.at 0 0,bs.at 0 1,bs.at 1 0,bs.at 1 1,bs.at 1 2,bs.at 1 3,bs.at 1 4,bs.at 1 5⟩ (fun hH=>?_);generalize w3.drew=w4 at bs q y4 hH ⊢;refine rS [(0,some 28),(1,some 29),(3,some 31),(4,some 32)] ?_
  iterate 4 refine aS ?_
  refine rE ?_;refine wpAnyH_ready (rs:=[2,5]) (by kernel_rfl) (by simp) ?_;refine az (by kernel_rfl) (fun o ho K hK=>?_) ?_
  ·simp only[wO,wP,wQ,wy] at ho
   subst ho;go_simp;refine(yt.out w4 q).mono ?_;rintro e w5 ⟨a1,c1,rfl,xn,hb⟩;have xu:=OwX.mk' bs xn;replace bs:=bs.ret hb;replace q:=bs.q;clear hb;go_simp;clear hH;refine hK.out _ _ ⟨bs.at 0 0,bs.at 0 1,bs.at 1 0,bs.at 1 1,bs.at 1 2,bs.at 1 3,bs.at 1 4,bs.at 1 5⟩ (fun hH=>?_);clear hK K
   refine aC (i:=5) fun K hK=>?_
   go_simp;have xX:HpX (w5.heap.size) [.string ⟨x.j.toArray⟩,.bool x.on,.int .i64 x.pr,x.lv,.bool x.ask,x.sv] 38 (w5.alloc (.cells #[.string ⟨x.j.toArray⟩,.bool x.on,.int .i64 x.pr,x.lv,.bool x.ask,x.sv] 38)):=⟨by rw[←show w5.heap.size=w5.heap.size from rfl];exact wR _ _⟩;obtain⟨w6,yQ,y6,al,bs⟩:=bs.alloc (w5.heap.size) rfl [.string ⟨x.j.toArray⟩,.bool x.on,.int .i64 x.pr,x.lv,.bool x.ask,x.sv] 38;replace xu:=xu.alloc (w5.heap.size) rfl al;clear al;replace q:=bs.q;have xM:HpX (w5.heap.size) [.string ⟨x.j.toArray⟩,.bool x.on,.int .i64 x.pr,x.lv,.bool x.ask,x.sv] 38 w6:=(by rw[←yQ];exact xX);clear xX;rw[yQ];go_simp;clear hH;refine hK.out _ _ ⟨bs.at 0 0,bs.at 0 1,bs.at 1 0,bs.at 1 1,bs.at 1 2,bs.at 1 3,bs.at 1 4,bs.at 1 5⟩ (fun hH=>?_);clear hK K
   refine aC (i:=6) fun K hK=>?_
   go_simp;have xy:=ff w.heap.size (.slice a1 M.length c1) M P (w5.heap.size) x w6 xu.1 q.size (by omega) (by omega) xM.h (fun e=>xu.2 _ e (by simp));rw[HL.out] at xy;refine xy.mono ?_;rintro e w7 ⟨v',rfl,xq,yv,yw⟩;clear xy yw;replace bs:=bs.grown yv (fun g hg=>⟨(xu.1.lt g (by rw[HL.out];exact hg)).1,xu.2 g (by rw[HL.out];exact hg)⟩);replace q:=bs.q;clear xu xM;go_simp;clear hH;refine hK.out _ _ ⟨bs.at 0 0,bs.at 0 1,bs.at 1 0,bs.at 1 1,bs.at 1 2,bs.at 1 3,bs.at 1 4,bs.at 1 5⟩ (fun hH=>?_);clear hK K;refine rS [(7,some 4)] ?_;refine aS ?_;refine rE ?_;refine aD ?_;clear hH;obtain⟨a2,c2,rfl,-⟩:=aw xq;go_wp2_with fail;go_ret;exact⟨a2,c2,rfl,xq,q⟩
  refine az (by kernel_rfl) (fun o ho K hK=>?_) ?_
  ·simp only[wO,wP,wQ,wy] at ho
   subst ho;go_simp;have xX:HpX (w3.heap.size) [.string ⟨x.j.toArray⟩,.bool x.on,.int .i64 x.pr,x.lv,.bool x.ask,x.sv] 38 (w4.alloc (.cells #[.string ⟨x.j.toArray⟩,.bool x.on,.int .i64 x.pr,x.lv,.bool x.ask,x.sv] 38)):=⟨by rw[←show w4.heap.size=w3.heap.size from (by omega)];exact wR _ _⟩;obtain⟨w5,yR,y5,al,bs⟩:=bs.alloc (w3.heap.size) (by omega) [.string ⟨x.j.toArray⟩,.bool x.on,.int .i64 x.pr,x.lv,.bool x.ask,x.sv] 38;clear al;replace q:=bs.q;have xM:HpX (w3.heap.size) [.string ⟨x.j.toArray⟩,.bool x.on,.int .i64 x.pr,x.lv,.bool x.ask,x.sv] 38 w5:=(by rw[←yR];exact xX);clear xX;rw[yR];go_simp;clear hH;refine hK.out _ _ ⟨bs.at 0 0,bs.at 0 1,bs.at 1 0,bs.at 1 1,bs.at 1 2,bs.at 1 3,bs.at 1 4,bs.at 1 5⟩ (fun hH=>?_);clear hK K
   refine aC (i:=2) fun K hK=>?_
   go_simp;refine(yt.out w5 q).mono ?_;rintro e w6 ⟨a1,c1,rfl,xn,hb⟩;have xu:=OwX.mk' bs xn;replace xM:=xM.ret hb;replace bs:=bs.ret hb;replace q:=bs.q;clear hb;go_simp;clear hH;refine hK.out _ _ ⟨bs.at 0 0,bs.at 0 1,bs.at 1 0,bs.at 1 1,bs.at 1 2,bs.at 1 3,bs.at 1 4,bs.at 1 5⟩ (fun hH=>?_);clear hK K
   refine aC (i:=6) fun K hK=>?_
   go_simp;have xy:=ff w.heap.size (.slice a1 M.length c1) M P (w3.heap.size) x w6 xu.1 q.size (by omega) (by omega) xM.h (fun e=>xu.2 _ e (by simp));rw[HL.out] at xy;refine xy.mono ?_;rintro e w7 ⟨v',rfl,xq,yv,yw⟩;clear xy yw;replace bs:=bs.grown yv (fun g hg=>⟨(xu.1.lt g (by rw[HL.out];exact hg)).1,xu.2 g (by rw[HL.out];exact hg)⟩);replace q:=bs.q;clear xu xM;go_simp;clear hH;refine hK.out _ _ ⟨bs.at 0 0,bs.at 0 1,bs.at 1 0,bs.at 1 1,bs.at 1 2,bs.at 1 3,bs.at 1 4,bs.at 1 5⟩ (fun hH=>?_);clear hK K;refine rS [(7,some 4)] ?_;refine aS ?_;refine rE ?_;refine aD ?_;clear hH;obtain⟨a2,c2,rfl,-⟩:=aw xq;go_wp2_with fail;go_ret;exact⟨a2,c2,rfl,xq,q⟩
  exact AllReadyH.nil
end Go.Proofs.YtjgeiieiinmdnaaGreatDoor
