/- HsI, HaF: put together by mergetpl.py. -/
import Derived.Test.YtjgeiieiinmdnaaGreatDoorLb
import Derived.Test.YtjgeiieiinmdnaaGreatDoorRoIn
import Derived.Test.YtjgeiieiinmdnaaGreatDoorLc
import Derived.Test.YtjgeiieiinmdnaaGreatDoorLa
open Go.Proofs.Tryz
open Go.Act renaming eval→wv,put→ww
open Go.Addr renaming add_lit→wz
open Go.RowKit.Below renaming drew→wD
open Go.Value renaming cells→wq
open Go.Value.slice renaming injEq→wK
open Go.World renaming cell?→wE,shape?→wL,frozen?→wM,alloc_heap_new→wS
open List renaming getElem?_eq_none→wC,length_append→wF,length_take→wG,length_drop→wH,getElem?_eq_getElem→wI,mem_of_getElem?→wN,length_set→wO,getElem?_toArray→wP,getElem?_cons_succ→wQ,getElem?_cons_zero→wR
open Nat renaming le_refl→ws,add_mul→wt,min_def→wu,mul_le_mul_right→wy,lt_or_ge→wA
open Option.some renaming injEq→wB
namespace Go.Proofs.YtjgeiieiinmdnaaGreatDoor
set_option maxHeartbeats 4000000
set_option maxRecDepth 100000
open Go.RowKit Go.Lib

theorem lT (M:List AcI):(acY.fl M).length=M.length*3:=dv acY M
theorem eK (M N:List AcI):acY.fl (M++N)=acY.fl M++acY.fl N:=gJ acY M N
theorem og (p:AcI) (M:List AcI):acY.fl (p :: M)=acY.cs p++acY.fl M:=rfl
theorem oC (M:List AcI) (k:Nat):acY.fl (M.drop k)=(acY.fl M).drop (k*3):=tp acY M k
theorem lQ (M:List AcI):∀u∈acY.fl M,u.oneCell'=true:=d9 acY M
theorem gZ (p:AcI):∀u∈acY.cs p,u.oneCell'=true:=acY.one p
theorem bC (p:AcI):(acY.cs p).length=3:=rfl
theorem jA (p:AcI):acY.fl [p]=acY.cs p:=uQ acY p
def qx (B:Nat) (w:World) (v:Value) (N:List AcI) (e:Ending) (w':World):Prop:=∃v',e=.returned v'∧w'.ownsRow B 33 3 v' N.length (acY.fl N)∧w.grownBy w' v.ownBlock∧∀g,v'.ownBlock=some g→v.ownBlock=some g∨w.heap.size≤g
theorem mq {w w':World} {B n xb:Nat} {ty:TypeId} {v v':Value} {xs:List Value} {p:AcI} (hown:w.ownsRow B 33 3 v n xs) (hn:n≤100000)
  (hx:∀j u,(acY.cs p)[j]?=some u→w.cell? ((⟨xb,0,none⟩:Addr).add j)=some u)
  (hr:(Builtin.append_ #[22,22] ty #[v,.slice (some ⟨xb,0,none⟩) 1 1]).run prog w=.ok v' w'):∀g,v'.ownBlock=some g→v.ownBlock=some g∨w.heap.size≤g:=by
 obtain⟨i0,hi0,hz0,hz1,hz2⟩:=info_parts dO
 have hP1:∀u∈acY.cs p,u.oneCell'=true:=by intro u hu;exact gZ p u hu
 have hl:(acY.cs p).length=1*i0.size:=by rw[hz1];rfl
 rcases id hown.2 with ⟨rfl,rfl⟩ | ⟨g,cap,cur,rfl,hbg,hg,hnc,hcm,hcs,htake⟩
 ·have h:=run_append_nil (P:=prog) w 22 ty 33 i0 _ underlying22 hi0 hz0 ⟨xb,0,none⟩ 1 1 (acY.cs p) hl hx (by omega) (by omega) (by rw[hz2];omega)
  rw[h] at hr
  injection hr with h1 _
  subst h1;intro g hg
  cases hg
  exact .inr (ws _)
 ·by_cases hroom:n+1≤cap
  ·have h:=run_append_room (P:=prog) w 22 ty 33 i0 underlying22 hi0 g n cap cur hg ⟨xb,0,none⟩ 1 1 (acY.cs p) hl hx hP1 hroom (by rw[hl,hcs,hz1,←wt];exact wy _ hroom)
   rw[h] at hr
   injection hr with h1 _
   subst h1;intro g' hg';exact .inl hg'
  ·have h:=run_append_grow (P:=prog) w 22 ty 33 i0 _ underlying22 hi0 hz0 ⟨g,0,none⟩ n cap xs (by rw[hz1];exact hown.1) (hown.cells (g:=g) rfl) ⟨xb,0,none⟩ 1 1 (acY.cs p) hl hx (by omega) (by omega) (growslice_fits (by omega) (by rw[hz2];omega))
   rw[h] at hr
   injection hr with h1 _
   subst h1;intro g hg
   cases hg
   exact .inr (ws _)
theorem eo (B:Nat) (v:Value) (M:List AcI) (i xb:Nat) (p:AcI) (w:World) (hown:w.ownsRow B 33 3 v M.length (acY.fl M)) (hB:B≤w.heap.size) (hi:i≤M.length) (hM:M.length≤100000)
  (hx:w.heap[xb]?=some (.cells (acY.cs p).toArray 33 (0,0))) (hne:v.ownBlock≠some xb):
  Calls prog 120 #[v,.int .i64 i,.slice (some ⟨xb,0,none⟩) 1 1] w (qx B w v (M.take i++p :: M.drop i)):=by
 obtain⟨i0,hi0,hz0,hz1,hz2⟩:=info_parts dO
 have hxr:∀W:World,W.heap[xb]?=w.heap[xb]?→∀j u,(acY.cs p)[j]?=some u→W.cell? ((⟨xb,0,none⟩:Addr).add j)=some u:=fun W hW j u hj=>by
  rw[wz];simp only[wE,hW,hx,Nat.zero_add]
  simpa using hj
 have hxl:xb<w.heap.size:=by
  rcases wA xb w.heap.size with h | h
  ·exact h
  ·rw[Array.getElem?_eq_none h] at hx
   cases hx
 have hlen:(M.take i++p :: M.drop i).length=M.length+1:=by rw[wF,List.length_cons,wG,wH];omega
 have hitv:acY.fl (M.take i++p :: M.drop i)=acY.fl (M.take i)++(acY.cs p++acY.fl (M.drop i)):=by rw[eK,og]
 obtain⟨n,hn⟩:=e_ M.length;rw[hn] at hown hi hM hlen;obtain⟨a,c,rfl,hnc⟩:=aq hown
 by_cases hin:i=n
 ·subst hin
  have hrow:cO 3 (.slice (some ⟨xb,0,none⟩) 1 1) 1 (acY.cs p) w:=by
   refine⟨rfl,some ⟨xb,0,none⟩,1,rfl,(fun h=>by cases h),.inr ⟨xb,0,rfl,hxl,fun j hj=>?_⟩⟩;have:=hxr w rfl j _ (wI hj);rw[wz] at this;rw[this]
  have hfin:M.take i++p :: M.drop i=M++[p]:=by rw[List.take_of_length_le (by omega),List.drop_eq_nil_of_le (by omega)]
  rw[hfin] at hlen hitv ⊢;obtain⟨v',w',hr,hown',hgrow⟩:=eP (P:=prog) w B 22 22 33 i0 _ 3 48 underlying22 hi0 hz0 hz1 hz2 rfl (by omega) _ i (acY.fl M) hown (.slice (some ⟨xb,0,none⟩) 1 1) 1 (acY.cs p) hrow (by intro u hu;exact gZ p u hu) (by omega) (by omega) hB;have HVB:=h_ (mq hown hM (hxr w rfl) hr)
  have hr2:∀ty,(Builtin.append_ #[22,22] ty #[.slice a i c,.slice (some ⟨xb,0,none⟩) 1 1]).run prog w=.ok v' w':=fun ty=>hr
  have RR:=h_ hr2;have HLN:=h_ hlen;have HO3:=h_ hown';have HG:=h_ hgrow;clear hxr hfin hlen hitv hown hrow hn hx hr hr2 hown' hgrow
  by_cases hci:c=i
  ·subst hci
   go_enter func120,ntmps120;go_wp2_with (at_builtin;refine Hid.out ?_);refine h_ ?_;refine Lib.wpList_append_run _ rfl _ _ _ _ rfl _ _ rfl rfl _ _ (RR.out _) ?_;go_wp2_with fail;go_ret;exact⟨v',rfl,by rw[HLN.out,eK,jA];exact HO3.out,HG.out,HVB.out⟩
  ·have w0 : (i : Int) ≤ (c : Int) := by omega
   go_enter func120,ntmps120;go_wp2_with (at_builtin;refine Hid.out ?_);refine h_ ?_;refine Lib.wpList_append_run _ rfl _ _ _ _ rfl _ _ rfl rfl _ _ (RR.out _) ?_;go_wp2_with fail;go_ret;exact⟨v',rfl,by rw[HLN.out,eK,jA];exact HO3.out,HG.out,HVB.out⟩
 ·have hlt : i < n := by omega
  obtain⟨g,rfl,-,hgB,hgl⟩:=gP hown (by omega)
  have hgx:g≠xb:=fun e=>hne (by rw[e];rfl)
  have hTl:(acY.fl (M.take i)).length=i*3:=by rw[lT,wG];congr 1;omega
  have hDl:(acY.fl (M.drop i)).length=(n-i)*3:=by rw[lT,wH,hn]
  have hMs:acY.fl M=acY.fl (M.take i)++acY.fl (M.drop i):=by rw[←eK,List.take_append_drop]
  have hMd:(acY.fl M).drop (i*3)=acY.fl (M.drop i):=(oC M i).symm
  have hP1:∀u∈acY.cs p,u.oneCell'=true:=by intro u hu;exact gZ p u hu
  have hsz:(prog.info? 33).map (·.size)=some 3:=by rw[hi0];simp[hz1]
  have hc63:c≤9223372036854775807:=by
   rcases hown.2 with ⟨h,_⟩ | ⟨g',cap',cur,h,_,_,_,h4,_⟩
   ·simp at h
   ·simp only[wK] at h
    obtain⟨_,_,rfl⟩:=h;unfold maxLen at h4;exact h4
  have w1:IntKind.i64.wrap ((i:Int)+1)=(i:Int)+1:=IntWalk.i64_in _ (by omega)
  have w2:((i:Int)+1).toNat=i+1:=by omega
  have w3:(0:Int)≤(i:Int)+1:=by omega
  have w4:¬ (c=i):=by omega
  have w5:(i:Int)≤(n:Int):=by omega
  have w6:¬ ((i:Int)=(n:Int)):=by omega
  have w7:IntKind.i64.wrap ((n:Int)+1)=(n:Int)+1:=IntWalk.i64_in _ (by omega)
  have w8:((n:Int)+1).toNat=n+1:=by omega
  by_cases hroom:n+1≤c
  ·have v1 : ¬ ((c : Int) < (n : Int) + 1) := by omega
   have v2:¬ (c=i+1):=(by omega);have v3:(i:Int)≤(n:Int)+1:=(by omega);have v4:(i:Int)+1≤(n:Int)+1:=(by omega);have v5:(n:Int)+1≤(c:Int):=(by omega);obtain⟨st,hst,hwide⟩:=nw hown hroom
   obtain⟨W2,hcp1,own2,grow2⟩:=bu w.drew B g (n+1) c 3 (i+1) (n+1-(i+1)) (c-(i+1)) 22 22 33 ⟨g,i*3,none⟩ (n+1-i) (c-i) _ (acY.fl (M.drop i)) underlying22 hsz hwide.drew
    (by rw[hDl];congr 1;simp only[wu];split <;> omega) (fun j v hj=>lP hown (i*3) j v (by rw[hMd];exact hj)) (by rw[hDl,←wt];exact wy _ (by omega)) (fun u hu=>lQ _ u hu)
   have hx2:W2.heap[xb]?=w.heap[xb]?:=grow2.block xb hxl (fun e=>hgx (by cases e;rfl))
   obtain⟨W3,hcp2,own3,grow3⟩:=bu W2 B g (n+1) c 3 i (n+1-i) (c-i) 22 22 33 ⟨xb,0,none⟩ 1 1 _ (acY.cs p) underlying22 hsz own2
    (by rw [bC]; have : Nat.min 1 (n + 1 - i) = 1 := by simp only [wu]; split <;> omega
        rw[this]) (hxr W2 hx2) (by rw[bC];omega) hP1
   have hov:∀lb cb,(callFunc 166 #[.slice (some ⟨xb,0,none⟩) 1 1,.slice (some ⟨g,(i+1)*3,none⟩) lb cb]).run prog w=.ok (.value (.bool false)) w:=fun lb cb=>by
    rcases hwide.2 with ⟨h,_⟩ | ⟨g',cap',cur,h,_,hg',_,_,hcs',_⟩
    ·simp at h
    ·simp only[wK,wB,Addr.mk.injEq,and_true,true_and] at h
     obtain⟨rfl,rfl⟩:=h
     rw[run_callFunc_extern func166 (by kernel_rfl) (by kernel_rfl) (by kernel_rfl) (e:=Extern.SlicesOverlaps.overlaps #[22,22] #[4]) (by kernel_rfl),
      Lib.run_overlaps_apart w 22 4 33 underlying22 3 (fun w=>by simp[sizeOf,typeInfo,hi0,hz1]) ⟨xb,0,none⟩ ⟨g,(i+1)*3,none⟩ 1 1 lb cb (fun e=>hgx e.symm) 33 33 3 cur.size (by simp only[wL,hx];rfl) (by simp only[wL,hg']) (by omega) (by simp[wM,hx]) (by simp[wM,hx])]
     rfl
   have hfin:acY.fl (M.take i)++(acY.cs p++acY.fl (M.drop i))=_:=(pX (acY.fl (M.take i)) (acY.fl (M.drop i)) st (acY.cs p) (by rw[hst];rfl)).symm
   rw[hTl,bC,←hMs,show i*3+3=(i+1)*3 by omega] at hfin;rw[bC,show i*3+3=(i+1)*3 by omega,←hfin] at own3;have HO:=h_ own3;have HG:=h_ (jZ (w:=w) (w1:=W2) ⟨grow2.os,grow2.tape,grow2.output,grow2.size,grow2.block⟩ grow3);have HLN:=h_ hlen;have HI:=h_ hitv;have CP1:=h_ hcp1;have CP2:=h_ hcp2;have OV:=h_ hov;clear hx hxr hown hwide own2 own3 grow2 grow3 hTl hDl hMs hMd hP1 hsz hst hx2 hcp1 hcp2 hfin hlen hitv hn hov hne;go_enter func120,ntmps120;have mixed:prog.follows Departure.mixedOrders=true:=(by kernel_rfl);go_wp2_with (simp only[OV.out]);go_region_law_o (refine step_copy_runI rfl _ _ 22 22 rfl _ _ (by simp[wv,ww]) (by simp[wv,ww]) (CP1.out _) ?_);have cp2:=CP2.out;go_wp2_with fail;go_ret;exact⟨_,rfl,by rw[HLN.out,HI.out];exact HO.out,HG.out,fun g' hg'=>.inl hg'⟩
  ·obtain rfl : c = n := by omega
   have hkk:(c:Int)+1-(i:Int)=((c+1-i:Nat):Int):=(by omega);have hik:i+(c+1-i)=c+1:=(by omega)
   have hold:(Builtin.firstCells i0.size i (.slice (some ⟨g,0,none⟩) i c)).run prog w.drew=.ok (acY.fl (M.take i)).toArray w.drew:=by
    rw[hz1]
    exact run_firstCells_some w.drew 3 i ⟨g,0,none⟩ i c (acY.fl (M.take i)) hTl (fun j u hj=>by
     have h2:(acY.fl M)[j]?=some u:=by
      rw[hMs,List.getElem?_append_left]
      ·exact hj
      ·rcases wA j (acY.fl (M.take i)).length with h | h
       ·exact h
       ·rw[wC h] at hj;cases hj
     exact hown.cells (g:=g) rfl j u h2)
   have hrz:=fun ty=>Lib.run_append_grow_zeros w 22 3 ty 33 i0 _ .i64 .i64 underlying22 underlying3 hi0 hz0 (some ⟨g,0,none⟩) i c (acY.fl (M.take i)) hold (c+1-i) (by omega) (by omega) (by omega) (by omega) (by rw[hz2];omega) (by rw[hz2,hik];exact growslice_fits (by omega) (by omega))
   rw[hik] at hrz;have hge:=grownCap_ge w (c+1) c 33;have hmx:grownCap w (c+1) c 33≤maxLen:=grownCap_le_maxLen w (c+1) c 33 (by unfold maxLen;omega);obtain⟨G,hG⟩:=e_ (grownCap w (c+1) c 33);rw[hG] at hrz hge hmx;obtain⟨Z,hZ⟩:=e_ ((Builtin.zeroCells (wq (.agg #[.string ⟨#[]⟩,.slice none 0 0,.int .i64 0])) (c+1-i)).toList);have hZl:Z.length=(c+1-i)*3:=(by rw[←hZ,Array.length_toList,size_zeroCells];rfl)
   have own1:(w.drew.alloc (.cells ((acY.fl (M.take i)).toArray++Builtin.zeroCells (wq (.agg #[.string ⟨#[]⟩,.slice none 0 0,.int .i64 0])) (c+1-i)++Builtin.zeroCells (wq (.agg #[.string ⟨#[]⟩,.slice none 0 0,.int .i64 0])) (G-(c+1))) 33)).ownsRow B 33 3 (.slice (some ⟨w.heap.size,0,none⟩) (c+1) G) (c+1) (acY.fl (M.take i)++Z):=by
    have hlen1:(acY.fl (M.take i)++Z).length=(c+1)*3:=(by rw[wF,hTl,hZl,←wt,hik]);refine⟨hlen1,.inr ⟨w.heap.size,G,_,rfl,hB,heap_alloc_new w.drew _,hge,hmx,?_,?_⟩⟩
    ·simp only[Array.size_append,List.size_toArray,size_zeroCells,hTl]
     show i*3+(c+1-i)*3+(G-(c+1))*3=G*3
     omega
    ·simp only[Array.toList_append]
     rw[hZ,←hlen1];exact List.take_left
   have grow1:w.grownBy (w.drew.alloc (.cells ((acY.fl (M.take i)).toArray++Builtin.zeroCells (wq (.agg #[.string ⟨#[]⟩,.slice none 0 0,.int .i64 0])) (c+1-i)++Builtin.zeroCells (wq (.agg #[.string ⟨#[]⟩,.slice none 0 0,.int .i64 0])) (G-(c+1))) 33)) (some g):=⟨rfl,rfl,rfl,by simp,fun k hk _=>heap_alloc_old w.drew _ hk⟩;obtain⟨W1,hW1⟩:=e_ (w.drew.alloc (.cells ((acY.fl (M.take i)).toArray++Builtin.zeroCells (wq (.agg #[.string ⟨#[]⟩,.slice none 0 0,.int .i64 0])) (c+1-i)++Builtin.zeroCells (wq (.agg #[.string ⟨#[]⟩,.slice none 0 0,.int .i64 0])) (G-(c+1))) 33))
   have hrz2:∀ty,(Builtin.append_ #[22,3] ty #[.slice (some ⟨g,0,none⟩) i c,.int .i64 ((c:Int)+1-(i:Int))]).run prog w=.ok (.slice (some ⟨w.heap.size,0,none⟩) (c+1) G) W1:=fun ty=>by rw[hkk,←hW1];exact hrz ty
   have hx1:W1.heap[xb]?=w.heap[xb]?:=(by rw[←hW1];exact heap_alloc_old w.drew _ hxl);have hg1:W1.heap[g]?=w.heap[g]?:=(by rw[←hW1];exact heap_alloc_old w.drew _ hgl);rw[hW1] at own1 grow1
   obtain⟨W2,hcp1,own2,grow2⟩:=bu W1 B w.heap.size (c+1) G 3 i (c+1-i) (G-i) 22 22 33 ⟨xb,0,none⟩ 1 1 _ (acY.cs p) underlying22 hsz own1
    (by rw [bC]; have : Nat.min 1 (c + 1 - i) = 1 := by simp only [wu]; split <;> omega
        rw[this]) (hxr W1 hx1) (by rw[bC];omega) hP1
   have hs1:w.heap.size<W1.heap.size:=(own1.lt _ rfl).2
   have hg2:W2.heap[g]?=w.heap[g]?:=(grow2.block g (by omega) (fun e=>by cases e;omega)).trans hg1
   obtain⟨W3,hcp2,own3,grow3⟩:=bu W2.drew B w.heap.size (c+1) G 3 (i+1) (c+1-(i+1)) (G-(i+1)) 22 22 33 ⟨g,i*3,none⟩ (c-i) (c-i) _ (acY.fl (M.drop i)) underlying22 hsz own2.drew
    (by rw[hDl];congr 1;simp only[wu];split <;> omega) (fun j u hj=>by
     have h:=lP hown (i*3) j u (by rw[hMd];exact hj);rw[wz] at h ⊢;simp only[wE] at h ⊢;rw[show W2.drew.heap[g]?=w.heap[g]? from hg2]
     exact h) (by rw[hDl,←wt];exact wy _ (by omega)) (fun u hu=>lQ _ u hu)
   have hfin:=qI (acY.fl (M.take i)) (acY.fl (M.drop i)) Z (acY.cs p) (by rw[hZl,hDl,bC];omega);rw[hTl,bC,show i*3+3=(i+1)*3 by omega] at hfin;rw[bC,show i*3+3=(i+1)*3 by omega,hfin] at own3;have u1:¬ (G=i):=(by omega);have u2:¬ (G=i+1):=(by omega);have u3:(c:Int)<(c:Int)+1:=(by omega);have u4:G≤9223372036854775807:=(by unfold maxLen at hmx;exact hmx);have u5:(i:Int)≤(c:Int)+1:=(by omega);have u6:(i:Int)+1≤(c:Int)+1:=(by omega)
   have u7:IntKind.i64.wrap ((c:Int)+1-(i:Int))=(c:Int)+1-(i:Int):=IntWalk.i64_in _ (by omega)
   have HO:=h_ own3;have g2:=jn (row:=some g) grow1 grow2 (ws _);have HG:=h_ (jn (w:=w) (w1:=W2) (row:=some g) g2 (g:=w.heap.size) ⟨grow3.os,grow3.tape,grow3.output,grow3.size,grow3.block⟩ (ws _));have HLN:=h_ hlen;have HI:=h_ hitv;have CP1:=h_ hcp1;have CP2:=h_ hcp2;have RZ:=h_ hrz2;clear hx hxr hown own1 own2 own3 grow1 grow2 grow3 g2 hTl hDl hMs hMd hP1 hsz hx1 hg1 hg2 hcp1 hcp2 hfin hlen hitv hn hne hrz hrz2 hW1 hZ hZl hG hold hge hmx hkk hik hs1;go_enter func120,ntmps120;go_wp2_with (at_builtin;refine Hid.out ?_);refine h_ ?_;refine Lib.wpList_append_run _ rfl _ _ _ _ rfl _ _ rfl rfl _ _ (RZ.out _) ?_;have mixed:prog.follows Departure.mixedOrders=true:=(by kernel_rfl);have cp1:=CP1.out;go_wp2_with fail;go_region_law_o (refine step_copy_runI rfl _ _ 22 22 rfl _ _ (by simp[wv,ww]) (by simp[wv,ww]) (CP2.out _) ?_);go_wp2_with fail;go_ret;exact⟨_,rfl,by rw[HLN.out,HI.out];exact HO.out,HG.out,fun g' hg'=>by(cases hg';exact .inr (ws _))⟩

section
variable {α:Type}
def thO (nm:α→List UInt8) (M:List α) (t:List UInt8):Bool:=match M[poG nm M t]? with
 | some y=>decide (iY (nm y) t=0)
 | none=>false
def puO (nm:α→List UInt8) (M:List α) (x:α):List α:=if thO nm M (nm x) then M.set (poG nm M (nm x)) x else M.take (poG nm M (nm x))++x :: M.drop (poG nm M (nm x))
theorem t9 {nm:α→List UInt8} {M:List α} {t:List UInt8} (h:thO nm M t=true):poG nm M t<M.length:=by
 rcases wA (poG nm M t) M.length with h1 | h1
 ·exact h1
 ·unfold thO at h
  rw[wC h1] at h
  cases h
theorem qW {nm:α→List UInt8} {M:List α} {t:List UInt8} (hc:chG nm M=true) (k:Nat) (h:k<M.length):decide (iY (nm M[k]) t<0)=decide (k<poG nm M t):=by
 rw[iW];exact bK hc k h
end
theorem mo (x:AcI) (t:List UInt8) (Ls:Nat) (w:World) (hs:Ls<w.heap.size) (cs:w.cell? ⟨Ls,1,none⟩=some cz) (zx:x.j.length≤10000) (zt:t.length≤10000) (hm:ML w):
  Calls prog 118 #[x.v,.string ⟨t.toArray⟩,.pointer (some ⟨Ls,0,none⟩)] w (Ret w (.int .i64 (iY x.j t))):=by
 have HO:=h_ fun (W:World) (m:ML W)=>show Calls prog 119 #[.string ⟨x.j.toArray⟩,.string ⟨t.toArray⟩] W (Ret W (.int .i64 (iY x.j t))) from ij ⟨x.j.toArray⟩ ⟨t.toArray⟩ W (by rw[←ab];exact zx) (by rw[←ab];exact zt) m
 have HM:=h_ hm;have en:=vk;clear hm;obtain⟨W0,hW,y0,bs⟩:=Sx.start1 w [.string ⟨x.j.toArray⟩,x.iv,.int .i64 x.ver] 33;have HW:=h_ hW;clear hW;have q:=bs.q;go_enter func118,ntmps118;have c_y0:=bs.b3 0;go_wp2_with fail;rw[HW.out];refine(dj x W0).mono ?_;rintro e w1 ⟨rfl,hb⟩;clear c_y0 cs;replace bs:=bs.ret hb;replace q:=bs.q;clear hb;go_wp2_with fail;refine(HO.out w1 (HM.out.ret q)).mono ?_;rintro e w2 ⟨rfl,hb⟩;replace bs:=bs.ret hb;replace q:=bs.q;clear hb;go_wp2_with fail;go_ret;exact⟨rfl,q⟩
theorem pF:∀args w,(callFunc 118 args).run prog w=.ok (.enter 118 args) w:=enters_of func118 (by kernel_rfl) rfl
theorem nZ (a:Option Addr) (c:Nat) (M:List AcI) (x:AcI) (w:World) (hv:IsL acY (.slice a M.length c) M w) (hM:M.length≤1000) (hj:∀y∈M,y.j.length≤10000) (zx:x.j.length≤10000) (hc:chG (fun x:AcI=>x.j) M=true) (hm:ML w):
  Calls prog 58 #[.agg #[.slice a M.length c,cz],x.v] w (qM acY w (puO (fun x:AcI=>x.j) M x)):=by
 obtain⟨L,hL⟩:=e_ M.length;obtain⟨P,hP⟩:=e_ (poG (fun x:AcI=>x.j) M x.j);obtain⟨F,hF⟩:=e_ (thO (fun x:AcI=>x.j) M x.j)
 have hPL:P≤L:=by rw[←hP,←hL];exact qi (nm:=(fun x:AcI=>x.j)) M x.j
 have hF1:∀h:P<M.length,F=decide (iY M[P].j x.j=0):=fun h=>by
  rw[←hF];unfold thO;rw[hP,wI h]
 have hF2:¬ P<M.length→F=false:=fun h=>by
  rw[←hF];unfold thO;rw[hP,wC (by omega)]
 have hres:puO (fun x:AcI=>x.j) M x=if F then M.set P x else M.take P++x :: M.drop P:=by unfold puO;rw[hF,hP]
 rw[hres]
 have hrow:IsL acY (.slice a L c) M w:=by rw[←hL];exact hv
 have BSF:=h_ fun (W:World) (hb:Bl w W) (Ls:Nat) (hs:Ls<W.heap.size) (cs:W.cell? ⟨Ls,1,none⟩=some cz)=>
  je (.slice a L c) (.func (.func 118) #[] #[.pointer (some ⟨Ls,0,none⟩)]) ⟨x.j.toArray⟩ (fun y=>iY y.j x.j) M P F W (hrow.ret hb) (by omega) ⟨_,_,rfl,pF,fun y hy V hV=>mo y x.j Ls V (Nat.lt_of_lt_of_le hs hV.size) (((af hV).1 _ _ hs).trans cs) (hj y hy) zx (hm.ret (hb.trans (hV.mono hb.size)))⟩ (by omega) (fun k h=>by rw[←hP];exact qW hc k h) hF1 hF2
 have CLN:=h_ fun (W:World) (hb:Bl w W)=>eT (.slice a L c) M W (hrow.ret hb) (by omega)
 have hFl:F=true→P<L:=fun h=>by rw[←hP,←hL];exact t9 (by rw[hF];exact h)
 have HL:=h_ hL;have en:=vk;rw[hL];clear hv hj hc hm hP hF hF1 hF2 hres hrow
 cases F with
 | true=>
  have hlt:=hFl rfl;clear hFl;simp only[if_true];obtain⟨W0,hW,y0,bs⟩:=Sx.start2 w [.slice a L c,cz] 79 [.string ⟨x.j.toArray⟩,x.iv,.int .i64 x.ver] 33;have HW:=h_ hW;clear hW;have q:=bs.q;go_enter func58,ntmps58;go_wp2_with fail;rw[HW.out];replace bs:=bs.ret (wD (bQ _));replace q:=bs.q
  have y1:W0.drew.heap.size=W0.heap.size:=rfl
  refine wp_region_held_drew (S:=fun w'=>w'.cell? ⟨w.heap.size,0,none⟩=some (.slice a L c)∧w'.cell? ⟨w.heap.size,1,none⟩=some (cz)∧w'.cell? ⟨w.heap.size+1,0,none⟩=some (.string ⟨x.j.toArray⟩)∧w'.cell? ⟨w.heap.size+1,1,none⟩=some (x.iv)∧w'.cell? ⟨w.heap.size+1,2,none⟩=some (.int .i64 x.ver)) (by kernel_rfl) ⟨bs.at 0 0,bs.at 0 1,bs.at 1 0,bs.at 1 1,bs.at 1 2⟩ (fun hH=>?_);generalize W0.drew=w1 at bs q y1 hH ⊢;refine rS [(0,some 9),(1,some 10),(2,some 11),(3,some 12),(4,some 13),(6,some 15)] ?_
  iterate 6 refine aS ?_
  refine rE ?_
  refine aC (i:=5) fun K hK=>?_
  go_simp;refine(dj x w1).mono ?_;rintro e w2 ⟨rfl,hb⟩;replace bs:=bs.ret hb;replace q:=bs.q;clear hb;go_simp;clear hH;refine hK.out _ _ ⟨bs.at 0 0,bs.at 0 1,bs.at 1 0,bs.at 1 1,bs.at 1 2⟩ (fun hH=>?_);clear hK K
  refine aC (i:=7) fun K hK=>?_
  go_simp;refine(BSF.out w2 q w.heap.size (bs.lt _ (wN (i:=0) rfl)) (bs.at 0 1)).mono ?_;rintro e w3 ⟨rfl,hb⟩;replace bs:=bs.ret hb;replace q:=bs.q;clear hb;go_simp;clear hH;refine hK.out _ _ ⟨bs.at 0 0,bs.at 0 1,bs.at 1 0,bs.at 1 1,bs.at 1 2⟩ (fun hH=>?_);clear hK K;refine rS [(8,some 8),(9,some 17),(10,some 18),(11,some 5),(12,some 6)] ?_
  iterate 5 refine aS ?_
  refine rE ?_;refine aD ?_;clear hH;have c_s0:=bs.b2 0;go_wp2_with fail;have qs:=q.size;refine(CLN.out w3 q).mono ?_;rintro e w4 ⟨a1,c1,rfl,hown,hb⟩;clear c_s0;replace bs:=bs.ret hb;replace q:=bs.q;clear hb;rw[HL.out] at hown;obtain⟨g,rfl,-,hg0,hg1⟩:=gP hown (by omega)
  have wn:(P:Int)<(L:Int):=by omega
  have hown:w4.ownsRow w.heap.size 33 3 (.slice (some ⟨g,0,none⟩) L c1) L (acY.fl M):=hown.mono qs;have HO:=h_ hown
  have hP2:P<M.length:=by rw[HL.out];exact hlt
  obtain⟨y,hy⟩:=e_ (M[P])
  have i0:w4.cell? ⟨g,P*3,none⟩=some (.string ⟨y.j.toArray⟩):=by
   have:=hown.cellAt (P*3) (by omega);rw[this];have:=fp acY M P hP2 0 (by decide);rw[hy] at this;exact this
  have j0:=hown.frozenAt (P*3)
  have i1:w4.cell? ⟨g,P*3+1,none⟩=some (y.iv):=by
   have:=hown.cellAt (P*3+1) (by omega);rw[this];have:=fp acY M P hP2 1 (by decide);rw[hy] at this;exact this
  have j1:=hown.frozenAt (P*3+1)
  have i2:w4.cell? ⟨g,P*3+2,none⟩=some (.int .i64 y.ver):=by
   have:=hown.cellAt (P*3+2) (by omega);rw[this];have:=fp acY M P hP2 2 (by decide);rw[hy] at this;exact this
  have j2:=hown.frozenAt (P*3+2);have c_x0:=bs.b3 1;go_wp2_with fail;clear c_x0;go_ret;refine⟨some ⟨g,0,none⟩,c1,by rw[wO,HL.out];rfl,?_,?_⟩
  ·have:=nv HO.out HL.out P (by omega) x
   rw[wO,HL.out];exact this
  ·exact df ([.string ⟨x.j.toArray⟩,x.iv,.int .i64 x.ver]:List Value) (g:=g) q (Nat.le_trans qs hg0) (P*3)
 | false=>
  clear hFl;simp only[Bool.false_eq_true,if_false];obtain⟨W0,hW,y0,bs⟩:=Sx.start2 w [.slice a L c,cz] 79 [.string ⟨x.j.toArray⟩,x.iv,.int .i64 x.ver] 33;have HW:=h_ hW;clear hW;have q:=bs.q;go_enter func58,ntmps58;go_wp2_with fail;rw[HW.out];replace bs:=bs.ret (wD (bQ _));replace q:=bs.q
  have y1:W0.drew.heap.size=W0.heap.size:=rfl
  refine wp_region_held_drew (S:=fun w'=>w'.cell? ⟨w.heap.size,0,none⟩=some (.slice a L c)∧w'.cell? ⟨w.heap.size,1,none⟩=some (cz)∧w'.cell? ⟨w.heap.size+1,0,none⟩=some (.string ⟨x.j.toArray⟩)∧w'.cell? ⟨w.heap.size+1,1,none⟩=some (x.iv)∧w'.cell? ⟨w.heap.size+1,2,none⟩=some (.int .i64 x.ver)) (by kernel_rfl) ⟨bs.at 0 0,bs.at 0 1,bs.at 1 0,bs.at 1 1,bs.at 1 2⟩ (fun hH=>?_);generalize W0.drew=w1 at bs q y1 hH ⊢;refine rS [(0,some 9),(1,some 10),(2,some 11),(3,some 12),(4,some 13),(6,some 15)] ?_
  iterate 6 refine aS ?_
  refine rE ?_
  refine aC (i:=5) fun K hK=>?_
  go_simp;refine(dj x w1).mono ?_;rintro e w2 ⟨rfl,hb⟩;replace bs:=bs.ret hb;replace q:=bs.q;clear hb;go_simp;clear hH;refine hK.out _ _ ⟨bs.at 0 0,bs.at 0 1,bs.at 1 0,bs.at 1 1,bs.at 1 2⟩ (fun hH=>?_);clear hK K
  refine aC (i:=7) fun K hK=>?_
  go_simp;refine(BSF.out w2 q w.heap.size (bs.lt _ (wN (i:=0) rfl)) (bs.at 0 1)).mono ?_;rintro e w3 ⟨rfl,hb⟩;replace bs:=bs.ret hb;replace q:=bs.q;clear hb;go_simp;clear hH;refine hK.out _ _ ⟨bs.at 0 0,bs.at 0 1,bs.at 1 0,bs.at 1 1,bs.at 1 2⟩ (fun hH=>?_);clear hK K;refine rS [(8,some 8),(9,some 17),(10,some 18),(11,some 5),(12,some 6)] ?_
  iterate 5 refine aS ?_
  refine rE ?_;refine aD ?_;clear hH;go_wp2_with fail;replace bs:=bs.ret (wD (bQ _));replace q:=bs.q
  have y4:w3.drew.heap.size=w3.heap.size:=rfl
  refine wp_region_held_drew (S:=fun w'=>w'.cell? ⟨w.heap.size,0,none⟩=some (.slice a L c)∧w'.cell? ⟨w.heap.size,1,none⟩=some (cz)∧w'.cell? ⟨w.heap.size+1,0,none⟩=some (.string ⟨x.j.toArray⟩)∧w'.cell? ⟨w.heap.size+1,1,none⟩=some (x.iv)∧w'.cell? ⟨w.heap.size+1,2,none⟩=some (.int .i64 x.ver)) (by kernel_rfl) ⟨bs.at 0 0,bs.at 0 1,bs.at 1 0,bs.at 1 1,bs.at 1 2⟩ (fun hH=>?_);generalize w3.drew=w4 at bs q y4 hH ⊢;refine rS [(0,some 28),(1,some 29),(3,some 31),(4,some 32)] ?_
  iterate 4 refine aS ?_
  refine rE ?_;refine wpAnyH_ready (rs:=[2,5]) (by kernel_rfl) (by simp) ?_;refine az (by kernel_rfl) (fun o ho K hK=>?_) ?_
  ·simp only[wP,wQ,wR,wB] at ho
   subst ho;go_simp;refine(CLN.out w4 q).mono ?_;rintro e w5 ⟨a1,c1,rfl,hown,hb⟩;have o_c:=OwX.mk' bs hown;replace bs:=bs.ret hb;replace q:=bs.q;clear hb;go_simp;clear hH;refine hK.out _ _ ⟨bs.at 0 0,bs.at 0 1,bs.at 1 0,bs.at 1 1,bs.at 1 2⟩ (fun hH=>?_);clear hK K
   refine aC (i:=5) fun K hK=>?_
   go_simp;have hpx:HpX (w5.heap.size) [.string ⟨x.j.toArray⟩,x.iv,.int .i64 x.ver] 33 (w5.alloc (.cells #[.string ⟨x.j.toArray⟩,x.iv,.int .i64 x.ver] 33)):=⟨by rw[←show w5.heap.size=w5.heap.size from rfl];exact wS _ _⟩;obtain⟨w6,hw6,y6,al,bs⟩:=bs.alloc (w5.heap.size) rfl [.string ⟨x.j.toArray⟩,x.iv,.int .i64 x.ver] 33;replace o_c:=o_c.alloc (w5.heap.size) rfl al;clear al;replace q:=bs.q;have o_h:HpX (w5.heap.size) [.string ⟨x.j.toArray⟩,x.iv,.int .i64 x.ver] 33 w6:=(by rw[←hw6];exact hpx);clear hpx;rw[hw6];go_simp;clear hH;refine hK.out _ _ ⟨bs.at 0 0,bs.at 0 1,bs.at 1 0,bs.at 1 1,bs.at 1 2⟩ (fun hH=>?_);clear hK K
   refine aC (i:=6) fun K hK=>?_
   go_simp;have hins:=eo w.heap.size (.slice a1 M.length c1) M P (w5.heap.size) x w6 o_c.1 q.size (by omega) (by omega) o_h.h (fun e=>o_c.2 _ e (by simp));rw[HL.out] at hins;refine hins.mono ?_;rintro e w7 ⟨v',rfl,hrow,hgr,hvb⟩;clear hins hvb;replace bs:=bs.grown hgr (fun g hg=>⟨(o_c.1.lt g (by rw[HL.out];exact hg)).1,o_c.2 g (by rw[HL.out];exact hg)⟩);replace q:=bs.q;clear o_c o_h;go_simp;clear hH;refine hK.out _ _ ⟨bs.at 0 0,bs.at 0 1,bs.at 1 0,bs.at 1 1,bs.at 1 2⟩ (fun hH=>?_);clear hK K;refine rS [(7,some 4)] ?_;refine aS ?_;refine rE ?_;refine aD ?_;clear hH;obtain⟨a2,c2,rfl,-⟩:=aq hrow;go_wp2_with fail;go_ret;exact⟨a2,c2,rfl,hrow,q⟩
  refine az (by kernel_rfl) (fun o ho K hK=>?_) ?_
  ·simp only[wP,wQ,wR,wB] at ho
   subst ho;go_simp;have hpx:HpX (w3.heap.size) [.string ⟨x.j.toArray⟩,x.iv,.int .i64 x.ver] 33 (w4.alloc (.cells #[.string ⟨x.j.toArray⟩,x.iv,.int .i64 x.ver] 33)):=⟨by rw[←show w4.heap.size=w3.heap.size from (by omega)];exact wS _ _⟩;obtain⟨w5,hw5,y5,al,bs⟩:=bs.alloc (w3.heap.size) (by omega) [.string ⟨x.j.toArray⟩,x.iv,.int .i64 x.ver] 33;clear al;replace q:=bs.q;have o_h:HpX (w3.heap.size) [.string ⟨x.j.toArray⟩,x.iv,.int .i64 x.ver] 33 w5:=(by rw[←hw5];exact hpx);clear hpx;rw[hw5];go_simp;clear hH;refine hK.out _ _ ⟨bs.at 0 0,bs.at 0 1,bs.at 1 0,bs.at 1 1,bs.at 1 2⟩ (fun hH=>?_);clear hK K
   refine aC (i:=2) fun K hK=>?_
   go_simp;refine(CLN.out w5 q).mono ?_;rintro e w6 ⟨a1,c1,rfl,hown,hb⟩;have o_c:=OwX.mk' bs hown;replace o_h:=o_h.ret hb;replace bs:=bs.ret hb;replace q:=bs.q;clear hb;go_simp;clear hH;refine hK.out _ _ ⟨bs.at 0 0,bs.at 0 1,bs.at 1 0,bs.at 1 1,bs.at 1 2⟩ (fun hH=>?_);clear hK K
   refine aC (i:=6) fun K hK=>?_
   go_simp;have hins:=eo w.heap.size (.slice a1 M.length c1) M P (w3.heap.size) x w6 o_c.1 q.size (by omega) (by omega) o_h.h (fun e=>o_c.2 _ e (by simp));rw[HL.out] at hins;refine hins.mono ?_;rintro e w7 ⟨v',rfl,hrow,hgr,hvb⟩;clear hins hvb;replace bs:=bs.grown hgr (fun g hg=>⟨(o_c.1.lt g (by rw[HL.out];exact hg)).1,o_c.2 g (by rw[HL.out];exact hg)⟩);replace q:=bs.q;clear o_c o_h;go_simp;clear hH;refine hK.out _ _ ⟨bs.at 0 0,bs.at 0 1,bs.at 1 0,bs.at 1 1,bs.at 1 2⟩ (fun hH=>?_);clear hK K;refine rS [(7,some 4)] ?_;refine aS ?_;refine rE ?_;refine aD ?_;clear hH;obtain⟨a2,c2,rfl,-⟩:=aq hrow;go_wp2_with fail;go_ret;exact⟨a2,c2,rfl,hrow,q⟩
  exact AllReadyH.nil
end Go.Proofs.YtjgeiieiinmdnaaGreatDoor
