/- HaL, HaQ: put together by mergetpl.py. -/
import Derived.Test.YtjgeiieiinmdnaaGreatDoorLd
import Derived.Test.YtjgeiieiinmdnaaGreatDoorLe
open Go.Proofs.Tryz
open Go.RowKit.Below renaming drew→ws
open Go.Value renaming slice→wB
open Go.Value.slice renaming injEq→wL
open Go.World renaming setCells→wo
open List renaming mem_of_getElem?→wq,mem_append_left→wt,mem_append→wu,getElem?_toArray→ww,getElem?_cons_succ→wy,getElem?_cons_zero→wz,length_map→wC,mem_append_right→wD,mem_cons→wE,append_nil→wG,mem_singleton→wH,getElem?_eq_getElem→wI,getElem_mem→wK,not_mem_nil→wM,take_of_length_le→wN
open Nat renaming le_of_ble_eq_true→wh,zero_le→wv,le_trans→wF,le_refl→wO
open Option.some renaming injEq→wA
namespace Go.Proofs.YtjgeiieiinmdnaaGreatDoor
set_option maxHeartbeats 16000000
set_option maxRecDepth 100000
open Go.RowKit Go.Lib

section
variable {α:Type} {Y:Ly α} {w0 w w':World} {bs:Bs} {ad:List Nat} {v:Value} {M Nn:List α} {k:Nat}
def Ow2 (Y:Ly α) (S:Nat→Prop) (v:Value) (M:List α) (w:World):Prop:=OwS S Y.e Y.n v M.length (Y.fl M) w∧∀x∈M,Y.own (fun g=>S g∧v.ownBlock≠some g) x w
theorem Ow2.own {S:Nat→Prop} (h:Ow2 Y S v M w):OwL Y S v M w:=⟨h.1,fun x hx=>Y.ownMono _ _ _ _ (h.2 x hx) fun _ _ hg=>hg.1⟩
theorem Ow2.ret {S:Nat→Prop} (h:Ow2 Y S v M w) (hb:Bl w w'):Ow2 Y S v M w':=⟨h.1.ret hb,fun x hx=>Y.ownRet _ _ _ _ (h.2 x hx) hb⟩
theorem Ow2.mono {S S':Nat→Prop} (h:Ow2 Y S v M w) (hs:∀g,g<w.heap.size→S g→S' g):Ow2 Y S' v M w:=⟨h.1.mono hs,fun x hx=>Y.ownMono _ _ _ _ (h.2 x hx) fun g hl hg=>⟨hs g hl hg.1,hg.2⟩⟩
theorem Ow2.keep {S:Nat→Prop} (h:Ow2 Y S v M w) (hk:∀k,S k→w'.heap[k]?=w.heap[k]?):Ow2 Y S v M w':=⟨h.1.keep hk,fun x hx=>Y.ownKeep _ _ _ _ (h.2 x hx) fun k xH=>hk k xH.1⟩
theorem TL.done2 (h:TL Y w0 ad v M Nn M.length w):Ow2 Y (Xd w0 ad) v Nn w:=by
 have hr:=h.row;rw[List.drop_length,wG] at hr;exact⟨by rw[h.len];exact hr,fun x hx=>Y.ownMono _ _ _ _ (h.own x hx) fun g _ hg=>⟨⟨hg.1,hg.2.1⟩,hg.2.2⟩⟩
theorem TL.ofX {ad':List Nat} (h:OwX w0 ad Y.e Y.n v M.length (Y.fl M) w) (hd:∀g,v.ownBlock=some g→g ∉ ad'):TL Y w0 (ad++ad') v M [] 0 w:=
 TL.start ⟨h.1.mono (wv _),fun g hg=>⟨(h.1.lt g hg).1,fun hm=>by
  rcases wu.1 hm with hm | hm
  ·exact h.2 g hg hm
  ·exact hd g hg hm⟩⟩
def OwY (Y:Ly α) (w0:World) (ad:List Nat) (v:Value) (M:List α) (w:World):Prop:=Ow2 Y (Xd w0 ad) v M w
theorem OwY.ret (h:OwY Y w0 ad v M w) (hb:Bl w w'):OwY Y w0 ad v M w':=Ow2.ret h hb
theorem OwY.sets (h:OwY Y w0 ad v M w) (k:Nat) {A o:Nat} {vs:List Value} (hk:ad[k]?=some A) (e':w.setCells A o vs=w'):OwY Y w0 ad v M w':=by
 subst e'
 exact Ow2.keep h fun g hg=>bT vs w A o g fun e=>hg.2 (by rw[e];exact wq hk)
theorem OwY.far (h:OwY Y w0 ad v M w) {g o:Nat} {vs:List Value} (hg:g∈ad) (e':w.setCells g o vs=w'):OwY Y w0 ad v M w':=by
 subst e'
 exact Ow2.keep h fun j hj=>bT vs w g o j fun e=>hj.2 (by rw[e];exact hg)
theorem OwY.alloc (h:OwY Y w0 ad v M w) (A:Nat) (hA:w.heap.size=A) (hb:Bl w w'):OwY Y w0 (ad++[A]) v M w':=by
 refine Ow2.ret (Ow2.mono h fun g hl hg=>⟨hg.1,fun hm=>?_⟩) hb
 rcases wu.1 hm with hm | hm
 ·exact hg.2 hm
 ·have:=wH.1 hm
  omega
theorem OwY.sub {ad':List Nat} (h:OwY Y w0 ad v M w) (hs:∀a∈ad',a∈ad):OwY Y w0 ad' v M w:=Ow2.mono h fun _ _ hg=>⟨hg.1,fun hm=>hg.2 (hs _ hm)⟩
end
theorem OwX.far {w0 w w':World} {ad:List Nat} {e:TypeId} {size n:Nat} {v:Value} {xs:List Value} (h:OwX w0 ad e size v n xs w) {g o:Nat} {vs:List Value} (hn:v.ownBlock≠some g) (e':w.setCells g o vs=w'):OwX w0 ad e size v n xs w':=by
 subst e';exact⟨jt vs h.1 hn o,h.2⟩
def obL (v:Value):List Nat:=v.ownBlock.toList
theorem lw {v:Value} {g:Nat} (h:v.ownBlock=some g):g∈obL v:=by unfold obL;rw[h];simp
theorem o8 {v:Value} {g:Nat} (h:g∈obL v):v.ownBlock=some g:=by unfold obL at h;simpa using h
theorem mW {w:World} {B C n m size xR:Nat} {e e':TypeId} {u v:Value} {xs ys:List Value} (h1:w.ownsRow B e size u n xs) (h2:w.ownsRow C e' xR v m ys) (he:e≠e'):∀g,u.ownBlock=some g→g ∉ obL v:=fun g hg hm=>by
 have hv:=o8 hm
 rcases h1.2 with ⟨rfl,_⟩ | ⟨g1,yp,yq,rfl,_⟩
 ·cases hg
 ·cases hg
  exact io h1 h2 he hv
def CoI.own2 (S:Nat→Prop) (c:CoI) (w:World):Prop:=Ow2 acY (fun g=>S g∧c.rv.ownBlock≠some g) c.av c.A w∧Ow2 rsY S c.rv c.R w
theorem CoI.own2.own {S:Nat→Prop} {c:CoI} {w:World} (h:c.own2 S w):c.own S w:=⟨OwL.mono h.1.own fun _ _ hg=>hg.1,h.2.own⟩
theorem CoI.own2.mono {S S':Nat→Prop} {c:CoI} {w:World} (h:c.own2 S w) (hs:∀g,g<w.heap.size→S g→S' g):c.own2 S' w:=⟨h.1.mono fun g hl hg=>⟨hs g hl hg.1,hg.2⟩,h.2.mono hs⟩
def TwC (w:World) (d:Co) (e:Ending) (w':World):Prop:=∃c:CoI,e=.returned c.v∧c.d=d∧c.own2 (fun g=>w.heap.size≤g) w'∧Bl w w'
theorem fJ {fn:Func} {tmps:Array Value} {W:World} {R p:Nat} {v0 v1 v2:Value} (h:fn.results=#[.cell p 25]) (h2:tmps.getD p undef=.pointer (some ⟨R,0,none⟩)) (k:Bx R [v0,v1,v2] W):
  (results fn tmps).run prog W=.ok (.agg #[v0,v1,v2]) W:=by
 have c0:=k.at 0 rfl;have c1:=k.at 1 rfl;have c2:=k.at 2 rfl;rw[aV h,h2]
 simp[go_sem,Result.andThen,c0,c1,c2]
theorem iK (c:CoI) (w:World) (hs:c.sub w) (zA:c.A.length≤1000) (zR:c.R.length≤1000) (xS:∀a∈c.A,cN a.it) (xT:∀r∈c.R,gd r):Calls prog 17 #[c.v] w (TwC w c.d):=by
 obtain⟨A,⟨aa,ac⟩,R,⟨ra,rc⟩,m⟩:=c;obtain⟨hA,hR⟩:=hs
 simp only at zA zR xS xT
 have hA:IsL acY (.slice aa A.length ac) A w:=hA;have hR:IsL rsY (.slice ra R.length rc) R w:=hR
 show Calls prog 17 #[.agg #[.slice aa A.length ac,.slice ra R.length rc,.int .i64 m]] w (TwC w (A.map AcI.d,R.map RsI.d,m))
 have CA:=h_ fun (W:World) (hb:Bl w W)=>gq (.slice aa A.length ac) A W (hA.ret hb) (by omega)
 have CR:=h_ fun (W:World) (hb:Bl w W)=>fG (.slice ra R.length rc) R W (hR.ret hb) (by omega)
 have SA:=h_ fun x hx=>hA.2.2 x hx
 have SR:=h_ fun x hx=>hR.2.2 x hx
 have FA:=h_ xS;have FR:=h_ xT;obtain⟨LA,xU⟩:=e_ A.length;obtain⟨LR,xV⟩:=e_ R.length;rw[xU] at CA zA ⊢;rw[xV] at CR zR ⊢;have HA:=h_ xU;have HR:=h_ xV;clear hA hR xS xT xU xV;obtain⟨W0,hW,y0,bs⟩:=Sx.start2 w [.slice aa LA ac,.slice ra LR rc,.int .i64 m] 25 [.slice none 0 0,.slice none 0 0,.int .i64 0] 25;have HW:=h_ hW;clear hW;have q:=bs.q;go_enter func17,ntmps17;go_wp2_with fail;rw[HW.out];go_cut [2] (fun s2 wx=>s2=.pointer (some ⟨w.heap.size+1,0,none⟩)∧∃(a1:Option Addr) (c1:Nat) (a2:Option Addr) (c2:Nat),Sx w [(w.heap.size,[.slice a1 LA c1,.slice a2 LR c2,.int .i64 m]),(w.heap.size+1,[.slice none 0 0,.slice none 0 0,.int .i64 0])] wx∧OwX w [w.heap.size,w.heap.size+1] 33 3 (.slice a1 LA c1) LA (acY.fl A) wx∧OwX w [w.heap.size,w.heap.size+1] 38 6 (.slice a2 LR c2) LR (rsY.fl R) wx)
 case first=>
  replace bs:=bs.ret (ws (bQ _));replace q:=bs.q
  have y1:W0.drew.heap.size=W0.heap.size:=rfl
  refine wp_region_held_drew (S:=fun w'=>w'.cell? ⟨w.heap.size,2,none⟩=some (.int .i64 m)) (by kernel_rfl) (bs.at 0 2) (fun hH=>?_);generalize W0.drew=w1 at bs q y1 hH ⊢;refine rS [(0,some 7),(3,some 10)] ?_
  iterate 2 refine aS ?_
  refine rE ?_;refine wpAnyH_ready (rs:=[1,4]) (by kernel_rfl) (by simp) ?_;refine az (by kernel_rfl) (fun o ho K hK=>?_) ?_
  ·simp only[ww,wy,wz,wA] at ho
   subst ho;have xn:=bs.b3 0;go_simp;clear xn;clear hH;refine hK.out _ _ (bs.at 0 2) (fun hH=>?_);clear hK K;refine wpAnyH_ready (rs:=[2,4]) (by kernel_rfl) (by simp) ?_;refine az (by kernel_rfl) (fun o ho K hK=>?_) ?_
   ·simp only[ww,wy,wz,wA] at ho
    subst ho;go_simp;refine(CA.out w1 q).mono ?_;rintro e w2 ⟨a1,c1,rfl,xF,hb⟩;have xo:=OwX.mk' bs xF;replace bs:=bs.ret hb;replace q:=bs.q;clear hb;rw[HA.out] at xo ⊢;go_simp;clear hH;refine hK.out _ _ (bs.at 0 2) (fun hH=>?_);clear hK K
    refine aC (i:=4) fun K hK=>?_
    have xn:=bs.b3 0;go_simp;clear xn;clear hH;refine hK.out _ _ (bs.at 0 2) (fun hH=>?_);clear hK K;refine rS [(6,some 13)] ?_;refine aS ?_;refine rE ?_
    refine aC (i:=5) fun K hK=>?_
    go_simp;refine(CR.out w2 q).mono ?_;rintro e w3 ⟨a2,c2,rfl,xy,hb⟩;have xp:=OwX.mk' bs xy;replace xo:=xo.ret hb;replace bs:=bs.ret hb;replace q:=bs.q;clear hb;rw[HR.out] at xp ⊢;go_simp;clear hH;refine hK.out _ _ (bs.at 0 2) (fun hH=>?_);clear hK K
    refine aC (i:=7) fun K hK=>?_
    have xn:=bs.b3 0;have xt:=bs.g3 0;go_simp;clear xn xt;obtain⟨w4,xu,y4,bs⟩:=bs.sets 0 0 [.slice a1 LA c1] rfl (wh rfl);replace xo:=xo.sets 0 rfl xu;replace xp:=xp.sets 0 rfl xu;replace q:=bs.q;simp only[wo] at xu;rw[xu];clear hH;refine hK.out _ _ (bs.at 0 2) (fun hH=>?_);clear hK K;refine rS [(8,some 14)] ?_;refine aS ?_;refine rE ?_
    refine aC (i:=9) fun K hK=>?_
    have xn:=bs.b3 0;have xt:=bs.g3 0;go_simp;clear xn xt;obtain⟨w5,xw,y5,bs⟩:=bs.sets 0 1 [.slice a2 LR c2] rfl (wh rfl);replace xo:=xo.sets 0 rfl xw;replace xp:=xp.sets 0 rfl xw;replace q:=bs.q;simp only[wo] at xw;rw[xw];clear hH;refine hK.out _ _ (bs.at 0 2) (fun hH=>?_);clear hK K;refine aD ?_;clear hH;go_wp2_with fail;go_meet;exact⟨rfl,a1,c1,a2,c2,bs,xo,xp⟩
   refine az (by kernel_rfl) (fun o ho K hK=>?_) ?_
   ·simp only[ww,wy,wz,wA] at ho
    subst ho;have xn:=bs.b3 0;go_simp;clear xn;clear hH;refine hK.out _ _ (bs.at 0 2) (fun hH=>?_);clear hK K
    refine aC (i:=2) fun K hK=>?_
    go_simp;refine(CA.out w1 q).mono ?_;rintro e w2 ⟨a1,c1,rfl,xF,hb⟩;have xo:=OwX.mk' bs xF;replace bs:=bs.ret hb;replace q:=bs.q;clear hb;rw[HA.out] at xo ⊢;go_simp;clear hH;refine hK.out _ _ (bs.at 0 2) (fun hH=>?_);clear hK K;refine rS [(6,some 13)] ?_;refine aS ?_;refine rE ?_
    refine aC (i:=5) fun K hK=>?_
    go_simp;refine(CR.out w2 q).mono ?_;rintro e w3 ⟨a2,c2,rfl,xy,hb⟩;have xp:=OwX.mk' bs xy;replace xo:=xo.ret hb;replace bs:=bs.ret hb;replace q:=bs.q;clear hb;rw[HR.out] at xp ⊢;go_simp;clear hH;refine hK.out _ _ (bs.at 0 2) (fun hH=>?_);clear hK K
    refine aC (i:=7) fun K hK=>?_
    have xn:=bs.b3 0;have xt:=bs.g3 0;go_simp;clear xn xt;obtain⟨w4,xu,y4,bs⟩:=bs.sets 0 0 [.slice a1 LA c1] rfl (wh rfl);replace xo:=xo.sets 0 rfl xu;replace xp:=xp.sets 0 rfl xu;replace q:=bs.q;simp only[wo] at xu;rw[xu];clear hH;refine hK.out _ _ (bs.at 0 2) (fun hH=>?_);clear hK K;refine rS [(8,some 14)] ?_;refine aS ?_;refine rE ?_
    refine aC (i:=9) fun K hK=>?_
    have xn:=bs.b3 0;have xt:=bs.g3 0;go_simp;clear xn xt;obtain⟨w5,xw,y5,bs⟩:=bs.sets 0 1 [.slice a2 LR c2] rfl (wh rfl);replace xo:=xo.sets 0 rfl xw;replace xp:=xp.sets 0 rfl xw;replace q:=bs.q;simp only[wo] at xw;rw[xw];clear hH;refine hK.out _ _ (bs.at 0 2) (fun hH=>?_);clear hK K;refine aD ?_;clear hH;go_wp2_with fail;go_meet;exact⟨rfl,a1,c1,a2,c2,bs,xo,xp⟩
   exact AllReadyH.nil
  refine az (by kernel_rfl) (fun o ho K hK=>?_) ?_
  ·simp only[ww,wy,wz,wA] at ho
   subst ho;have xn:=bs.b3 0;go_simp;clear xn;clear hH;refine hK.out _ _ (bs.at 0 2) (fun hH=>?_);clear hK K
   refine aC (i:=1) fun K hK=>?_
   have xn:=bs.b3 0;go_simp;clear xn;clear hH;refine hK.out _ _ (bs.at 0 2) (fun hH=>?_);clear hK K
   refine aC (i:=2) fun K hK=>?_
   go_simp;refine(CA.out w1 q).mono ?_;rintro e w2 ⟨a1,c1,rfl,xF,hb⟩;have xo:=OwX.mk' bs xF;replace bs:=bs.ret hb;replace q:=bs.q;clear hb;rw[HA.out] at xo ⊢;go_simp;clear hH;refine hK.out _ _ (bs.at 0 2) (fun hH=>?_);clear hK K;refine rS [(6,some 13)] ?_;refine aS ?_;refine rE ?_
   refine aC (i:=5) fun K hK=>?_
   go_simp;refine(CR.out w2 q).mono ?_;rintro e w3 ⟨a2,c2,rfl,xy,hb⟩;have xp:=OwX.mk' bs xy;replace xo:=xo.ret hb;replace bs:=bs.ret hb;replace q:=bs.q;clear hb;rw[HR.out] at xp ⊢;go_simp;clear hH;refine hK.out _ _ (bs.at 0 2) (fun hH=>?_);clear hK K
   refine aC (i:=7) fun K hK=>?_
   have xn:=bs.b3 0;have xt:=bs.g3 0;go_simp;clear xn xt;obtain⟨w4,xu,y4,bs⟩:=bs.sets 0 0 [.slice a1 LA c1] rfl (wh rfl);replace xo:=xo.sets 0 rfl xu;replace xp:=xp.sets 0 rfl xu;replace q:=bs.q;simp only[wo] at xu;rw[xu];clear hH;refine hK.out _ _ (bs.at 0 2) (fun hH=>?_);clear hK K;refine rS [(8,some 14)] ?_;refine aS ?_;refine rE ?_
   refine aC (i:=9) fun K hK=>?_
   have xn:=bs.b3 0;have xt:=bs.g3 0;go_simp;clear xn xt;obtain⟨w5,xw,y5,bs⟩:=bs.sets 0 1 [.slice a2 LR c2] rfl (wh rfl);replace xo:=xo.sets 0 rfl xw;replace xp:=xp.sets 0 rfl xw;replace q:=bs.q;simp only[wo] at xw;rw[xw];clear hH;refine hK.out _ _ (bs.at 0 2) (fun hH=>?_);clear hK K;refine aD ?_;clear hH;go_wp2_with fail;go_meet;exact⟨rfl,a1,c1,a2,c2,bs,xo,xp⟩
  exact AllReadyH.nil
 case rest=>
  obtain⟨rfl,a1,c1,a2,c2,yd,xo,xp⟩:=hcut;clear bs q;have bs:=yd;clear yd;have q:=bs.q;have tl:=TL.ofX (Y:=acY) (ad':=obL (.slice a2 LR c2)) (by rw[HA.out];exact xo) (mW xo.1 xp.1 (by decide));clear xo;have xn:=bs.b3 0;go_wp2_with fail;clear xn;go_loopw [18] (fun i wx=>∃(k:Nat) (Nn:List AcI),i=.int .i64 k∧k≤LA∧TL acY w ([w.heap.size,w.heap.size+1]++obL (.slice a2 LR c2)) (.slice a1 LA c1) A Nn k wx∧Nn.map AcI.d=(A.map AcI.d).take k∧OwX w [w.heap.size,w.heap.size+1] 38 6 (.slice a2 LR c2) LR (rsY.fl R) wx∧Sx w [(w.heap.size,[.slice a1 LA c1,.slice a2 LR c2,.int .i64 m]),(w.heap.size+1,[.slice none 0 0,.slice none 0 0,.int .i64 0])] wx) (fun i _=>LA-(intOf i).toNat)
  case atStart=>exact⟨0,[],rfl,wv _,tl,rfl,xp,bs⟩
  case round=>
   clear tl bs q xp;obtain⟨k,Nn,rfl,hk,tl,xB,xp,bs⟩:=hrel;have q:=bs.q
   by_cases hlt:k<LA
   ·have xC : k < A.length := by rw [HA.out]; exact hlt
    obtain⟨p,hp⟩:=e_ (A[k]);have xJ:A[k]?=some p:=(by rw[wI xC,hp]);have xG:p∈A:=(by rw[←hp];exact wK xC);obtain⟨g,c0,hv,xW,xK,yk,-⟩:=tl.form xC;rw[HA.out] at hv;simp only[wL,true_and] at hv;obtain⟨rfl,rfl⟩:=hv;have hV:wB (some ⟨g,0,none⟩) LA c1=.slice (some ⟨g,0,none⟩) A.length c1:=(by rw[HA.out]);have HV:=h_ hV;have HK:=h_ xJ;have HN:=h_ xB;have GN:=h_ xK
    have CT:=h_ fun (W:World) (hb:Bl w W)=>pC p.iv p.ver p.it W (aE.ret (SA.out p xG) hb) (FA.out p xG).1 (fun q hq=>((FA.out p xG).2 q hq).2.2.1)
    have yl:(wB a2 LR c2).ownBlock≠some g:=fun e=>GN.out (wD _ (lw e))
    clear hp xJ xG xC hV xB xK
    have i0:wr.cell? ⟨g,k*3,none⟩=some (.string ⟨p.j.toArray⟩):=(tl.cell HV.out HK.out 0 rfl).1
    have i1:wr.cell? ⟨g,k*3+1,none⟩=some (p.iv):=(tl.cell HV.out HK.out 1 rfl).1
    have i2:wr.cell? ⟨g,k*3+2,none⟩=some (.int .i64 p.ver):=(tl.cell HV.out HK.out 2 rfl).1
    have xq:=tl;clear tl;have xn:=bs.b3 0;have d0:=(bs.lit (wr.heap.size) rfl [.string ⟨p.j.toArray⟩,p.iv,.int .i64 p.ver] 33);have xD:=d0.b3 2;have xI:=d0.b3 0;go_wp2_with fail;clear xn d0 xD xI;clear i0 i1 i2;obtain⟨xL,xX,yt,al,bs⟩:=bs.alloc (wr.heap.size) rfl [.string ⟨p.j.toArray⟩,p.iv,.int .i64 p.ver] 33;replace xq:=xq.alloc (wr.heap.size) rfl al;replace xp:=xp.alloc (wr.heap.size) rfl al;clear al;replace q:=bs.q;rw[xX];replace xq:=xq.ret (ws (bQ _));replace xp:=xp.ret (ws (bQ _));replace bs:=bs.ret (ws (bQ _));replace q:=bs.q
    have ye:xL.drew.heap.size=xL.heap.size:=rfl
    refine wp_region_held_drew (S:=fun w'=>w'.cell? ⟨w.heap.size,0,none⟩=some (.slice (some ⟨g,0,none⟩) LA c1)∧w'.cell? ⟨wr.heap.size,0,none⟩=some (.string ⟨p.j.toArray⟩)∧w'.cell? ⟨wr.heap.size,1,none⟩=some (p.iv)∧w'.cell? ⟨wr.heap.size,2,none⟩=some (.int .i64 p.ver)) (by kernel_rfl) ⟨bs.at 0 0,bs.at 2 0,bs.at 2 1,bs.at 2 2⟩ (fun hH=>?_);generalize xL.drew=w102 at bs xq xp q ye hH ⊢;refine rS [(0,some 23),(1,some 24),(2,some 25),(3,some 26),(4,some 27)] ?_
    iterate 5 refine aS ?_
    refine rE ?_
    refine aC (i:=5) fun K hK=>?_
    go_simp
    have xM:∀a∈([w.heap.size,w.heap.size+1]++obL (.slice a2 LR c2))++[wr.heap.size],a<w102.heap.size:=fun a ha=>by
     rcases wu.1 ha with ha | ha
     ·rcases wu.1 ha with ha | ha
      ·have h1:=bs.lt _ (wq (i:=0) rfl)
       have h2:=bs.lt _ (wq (i:=1) rfl);simp only[wE,wM,or_false] at ha h1 h2
       rcases ha with rfl | rfl <;> assumption
      ·exact(xp.1.lt a (o8 ha)).2
     ·have h1:=bs.lt _ (wq (i:=2) rfl)
      rw[wH.1 ha];exact h1
    have far:=xq.far q xM;clear xM;refine(CT.out w102 q).mono ?_;rintro e xA ⟨a3,c3,rfl,⟨M3,xY,xx,hb⟩⟩;replace xq:=xq.ret hb;replace xp:=xp.ret hb;replace bs:=bs.ret hb;replace q:=bs.q;clear hb;have yf:(p.it.map Prod.fst).length=M3.length:=(by rw[←xY,wC]);rw[yf] at xx ⊢;have xN:acY.own (Xo w (([w.heap.size,w.heap.size+1]++obL (.slice a2 LR c2))++[wr.heap.size]) (.slice (some ⟨g,0,none⟩) LA c1)) ⟨p.j,M3,(a3,c3),p.ver⟩ xA:=OwI.mono (OwI.of xx) (fun j _ hj=>far j hj);have yn:=h_ xY;have OO:=h_ xN;clear xY xx far yf xN;go_simp;clear hH;refine hK.out _ _ ⟨bs.at 0 0,bs.at 2 0,bs.at 2 1,bs.at 2 2⟩ (fun hH=>?_);clear hK K;refine rS [(6,some 29),(7,some 30)] ?_
    iterate 2 refine aS ?_
    refine rE ?_
    refine aC (i:=8) fun K hK=>?_
    have i1:xA.cell? ⟨g,k*3+1,none⟩=some p.iv∧xA.frozen? ⟨g,k*3+1,none⟩=false:=(xq.cell HV.out HK.out 1 rfl)
    have i2:xA.cell? ⟨g,k*3+2,none⟩=some (.int .i64 p.ver)∧xA.frozen? ⟨g,k*3+2,none⟩=false:=(xq.cell HV.out HK.out 2 rfl)
    obtain⟨i1,j1⟩:=i1;obtain⟨i2,j2⟩:=i2;have wk:(k:Int)<(LA:Int):=(by omega);go_simp;clear i1 i2 j1 j2;obtain⟨V6,xz⟩:=e_ (xA.setCells g (k*3+1) [.slice a3 M3.length c3,.int .i64 p.ver]);replace bs:=bs.far xW (fun hm=>GN.out (wt _ (by simp at hm ⊢;omega))) xz;replace q:=bs.q;replace xp:=xp.far yl xz;have tl:=(TL.step (j:=1) (vs:=[.slice a3 M3.length c3,.int .i64 p.ver]) xq HV.out HK.out (wh rfl) rfl OO.out rfl xz).sub (ad':=[w.heap.size,w.heap.size+1]++obL (.slice a2 LR c2)) (fun a ha=>wt _ ha);clear xq;simp only[wo] at xz;rw[xz];clear hH;refine hK.out _ _ ⟨bs.at 0 0,bs.at 2 0,bs.at 2 1,bs.at 2 2⟩ (fun hH=>?_);clear hK K;refine aD ?_;clear hH;go_wp2_with fail;go_roundw
    case rel=>exact⟨k+1,Nn++[⟨p.j,M3,(a3,c3),p.ver⟩],by go_num,by omega,tl,ct HN.out HK.out (by show (p.j,M3.map Prod.fst,p.ver)=(p.j,p.it.map Prod.fst,p.ver);rw[yn.out]),⟨xp.1,fun g hg hm=>xp.2 g hg (wt _ hm)⟩,bs.some 2⟩
    case measure=>simp[intOf];omega
   ·obtain rfl : k = LA := by omega
    have xO:TL acY w ([w.heap.size,w.heap.size+1]++obL (.slice a2 LR c2)) (.slice a1 k c1) A Nn A.length wr:=(by rw[HA.out];exact tl);have xo:OwY acY w ([w.heap.size,w.heap.size+1]++obL (.slice a2 LR c2)) (.slice a1 k c1) Nn wr:=xO.done2;have xP:Nn.map AcI.d=A.map AcI.d:=(by rw[xB,wN (by rw[wC,HA.out];exact wO _)]);have NA:=h_ xP;have KA:=h_ tl.len;have tl:=TL.ofX (Y:=rsY) (ad':=[]) (by rw[HR.out];exact xp) (fun _ _ h=>by cases h);rw[wG] at tl;clear xO xB xP xp;have xn:=bs.b3 0;go_wp2_with fail;clear xn;go_loopw [35] (fun i wx=>∃(k2:Nat) (N2:List RsI),i=.int .i64 k2∧k2≤LR∧TL rsY w [w.heap.size,w.heap.size+1] (.slice a2 LR c2) R N2 k2 wx∧N2.map RsI.d=(R.map RsI.d).take k2∧OwY acY w ([w.heap.size,w.heap.size+1]++obL (.slice a2 LR c2)) (.slice a1 k c1) Nn wx∧Sx w [(w.heap.size,[.slice a1 k c1,.slice a2 LR c2,.int .i64 m]),(w.heap.size+1,[.slice none 0 0,.slice none 0 0,.int .i64 0])] wx) (fun i _=>LR-(intOf i).toNat)
    case atStart=>exact⟨0,[],rfl,wv _,tl,rfl,xo,bs⟩
    case round=>
     clear tl bs q xo hlt hk;obtain⟨k2,N2,rfl,hk,tl,xB,xo,bs⟩:=hrel;have q:=bs.q
     by_cases hlt:k2<LR
     ·have xC : k2 < R.length := by rw [HR.out]; exact hlt
      obtain⟨p,hp⟩:=e_ (R[k2]);have xJ:R[k2]?=some p:=(by rw[wI xC,hp]);have xG:p∈R:=(by rw[←hp];exact wK xC);obtain⟨g,c0,hv,xW,xK,yk,-⟩:=tl.form xC;rw[HR.out] at hv;simp only[wL,true_and] at hv;obtain⟨rfl,rfl⟩:=hv;have hV:wB (some ⟨g,0,none⟩) LR c2=.slice (some ⟨g,0,none⟩) R.length c2:=(by rw[HR.out]);have HV:=h_ hV;have HK:=h_ xJ;have HN:=h_ xB;have GN:=h_ xK
      have CT:=h_ fun (W:World) (hb:Bl w W)=>oW p W (rsY.subRet _ _ _ (SR.out p xG) hb) (FR.out p xG)
      clear hp xJ xG xC hV xB xK
      have i0:wr.cell? ⟨g,k2*6,none⟩=some (.string ⟨p.j.toArray⟩):=(tl.cell HV.out HK.out 0 rfl).1
      have i1:wr.cell? ⟨g,k2*6+1,none⟩=some (.bool p.on):=(tl.cell HV.out HK.out 1 rfl).1
      have i2:wr.cell? ⟨g,k2*6+2,none⟩=some (.int .i64 p.pr):=(tl.cell HV.out HK.out 2 rfl).1
      have i3:wr.cell? ⟨g,k2*6+3,none⟩=some (p.lv):=(tl.cell HV.out HK.out 3 rfl).1
      have i4:wr.cell? ⟨g,k2*6+4,none⟩=some (.bool p.ask):=(tl.cell HV.out HK.out 4 rfl).1
      have i5:wr.cell? ⟨g,k2*6+5,none⟩=some (p.sv):=(tl.cell HV.out HK.out 5 rfl).1
      have xq:=tl;clear tl;have xn:=bs.b3 0;have d0:=(bs.lit (wr.heap.size) rfl [.string ⟨p.j.toArray⟩,.bool p.on,.int .i64 p.pr,p.lv,.bool p.ask,p.sv] 38);have xD:=d0.b6 2;have xI:=d0.b3 0;go_wp2_with fail;clear xn d0 xD xI;clear i0 i1 i2 i3 i4 i5;obtain⟨xQ,xZ,yu,al,bs⟩:=bs.alloc (wr.heap.size) rfl [.string ⟨p.j.toArray⟩,.bool p.on,.int .i64 p.pr,p.lv,.bool p.ask,p.sv] 38;replace xq:=xq.alloc (wr.heap.size) rfl al;replace xo:=xo.alloc (wr.heap.size) rfl al;clear al;replace q:=bs.q;rw[xZ];replace xq:=xq.ret (ws (bQ _));replace xo:=xo.ret (ws (bQ _));replace bs:=bs.ret (ws (bQ _));replace q:=bs.q
      have yg:xQ.drew.heap.size=xQ.heap.size:=rfl
      refine wp_region_held_drew (S:=fun w'=>w'.cell? ⟨w.heap.size,1,none⟩=some (.slice (some ⟨g,0,none⟩) LR c2)∧w'.cell? ⟨wr.heap.size,0,none⟩=some (.string ⟨p.j.toArray⟩)∧w'.cell? ⟨wr.heap.size,1,none⟩=some (.bool p.on)∧w'.cell? ⟨wr.heap.size,2,none⟩=some (.int .i64 p.pr)∧w'.cell? ⟨wr.heap.size,3,none⟩=some (p.lv)∧w'.cell? ⟨wr.heap.size,4,none⟩=some (.bool p.ask)∧w'.cell? ⟨wr.heap.size,5,none⟩=some (p.sv)) (by kernel_rfl) ⟨bs.at 0 1,bs.at 2 0,bs.at 2 1,bs.at 2 2,bs.at 2 3,bs.at 2 4,bs.at 2 5⟩ (fun hH=>?_);generalize xQ.drew=w202 at bs xq xo q yg hH ⊢;refine rS [(0,some 40),(1,some 41),(2,some 42),(3,some 43)] ?_
      iterate 4 refine aS ?_
      refine rE ?_
      refine aC (i:=4) fun K hK=>?_
      go_simp
      have xM:∀a∈[w.heap.size,w.heap.size+1]++[wr.heap.size],a<w202.heap.size:=fun a ha=>by
       have h1:=bs.lt _ (wq (i:=0) rfl);have h2:=bs.lt _ (wq (i:=1) rfl);have h3:=bs.lt _ (wq (i:=2) rfl);simp only[List.cons_append,List.nil_append,wE,wM,or_false] at ha h1 h2 h3
       rcases ha with rfl | rfl | rfl <;> assumption
      have far:=xq.far q xM;clear xM;refine(CT.out w202 q).mono ?_;rintro e xr ⟨r3,rfl,yh,xx,hb⟩;replace xq:=xq.ret hb;replace xo:=xo.ret hb;replace bs:=bs.ret hb;replace q:=bs.q;clear hb;have xN:rsY.own (Xo w ([w.heap.size,w.heap.size+1]++[wr.heap.size]) (.slice (some ⟨g,0,none⟩) LR c2)) r3 xr:=rsY.ownMono _ _ _ _ xx (fun j _ hj=>far j hj);have yo:=h_ yh;have OO:=h_ xN;clear yh xx far xN;go_simp;clear hH;refine hK.out _ _ ⟨bs.at 0 1,bs.at 2 0,bs.at 2 1,bs.at 2 2,bs.at 2 3,bs.at 2 4,bs.at 2 5⟩ (fun hH=>?_);clear hK K;refine rS [(5,some 45)] ?_;refine aS ?_;refine rE ?_
      refine aC (i:=6) fun K hK=>?_
      have i0:xr.cell? ⟨g,k2*6,none⟩=some (.string ⟨p.j.toArray⟩)∧xr.frozen? ⟨g,k2*6,none⟩=false:=xq.cell HV.out HK.out 0 rfl
      obtain⟨i0,j0⟩:=i0
      have i1:xr.cell? ⟨g,k2*6+1,none⟩=some (.bool p.on)∧xr.frozen? ⟨g,k2*6+1,none⟩=false:=xq.cell HV.out HK.out 1 rfl
      obtain⟨i1,j1⟩:=i1
      have i2:xr.cell? ⟨g,k2*6+2,none⟩=some (.int .i64 p.pr)∧xr.frozen? ⟨g,k2*6+2,none⟩=false:=xq.cell HV.out HK.out 2 rfl
      obtain⟨i2,j2⟩:=i2
      have i3:xr.cell? ⟨g,k2*6+3,none⟩=some (p.lv)∧xr.frozen? ⟨g,k2*6+3,none⟩=false:=xq.cell HV.out HK.out 3 rfl
      obtain⟨i3,j3⟩:=i3
      have i4:xr.cell? ⟨g,k2*6+4,none⟩=some (.bool p.ask)∧xr.frozen? ⟨g,k2*6+4,none⟩=false:=xq.cell HV.out HK.out 4 rfl
      obtain⟨i4,j4⟩:=i4
      have i5:xr.cell? ⟨g,k2*6+5,none⟩=some (p.sv)∧xr.frozen? ⟨g,k2*6+5,none⟩=false:=xq.cell HV.out HK.out 5 rfl
      obtain⟨i5,j5⟩:=i5;have wk:(k2:Int)<(LR:Int):=(by omega);go_simp;clear i0 j0 i1 j1 i2 j2 i3 j3 i4 j4 i5 j5;obtain⟨V6,xz⟩:=e_ (xr.setCells g (k2*6) [.string ⟨r3.j.toArray⟩,.bool r3.on,.int .i64 r3.pr,r3.lv,.bool r3.ask,r3.sv]);replace bs:=bs.far xW (fun hm=>GN.out (by simp at hm ⊢;omega)) xz;replace q:=bs.q;replace xo:=xo.far (wt _ (wD _ (lw rfl))) xz;have tl:=(TL.step (j:=0) (vs:=[.string ⟨r3.j.toArray⟩,.bool r3.on,.int .i64 r3.pr,r3.lv,.bool r3.ask,r3.sv]) xq HV.out HK.out (wh rfl) rfl OO.out rfl xz).sub (ad':=[w.heap.size,w.heap.size+1]) (fun a ha=>wt _ ha);clear xq;simp only[wo] at xz;rw[xz];clear hH;refine hK.out _ _ ⟨bs.at 0 1,bs.at 2 0,bs.at 2 1,bs.at 2 2,bs.at 2 3,bs.at 2 4,bs.at 2 5⟩ (fun hH=>?_);clear hK K;refine aD ?_;clear hH;go_wp2_with fail;go_roundw
      case rel=>exact⟨k2+1,N2++[r3],by go_num,by omega,tl,ct HN.out HK.out yo.out,xo.sub (fun a ha=>wt _ ha),bs.some 2⟩
      case measure=>simp[intOf];omega
     ·obtain rfl : k2 = LR := by omega
      have xO:TL rsY w [w.heap.size,w.heap.size+1] (.slice a2 k2 c2) R N2 R.length wr:=(by rw[HR.out];exact tl);have xp:OwY rsY w [w.heap.size,w.heap.size+1] (.slice a2 k2 c2) N2 wr:=xO.done2;have xP:N2.map RsI.d=R.map RsI.d:=(by rw[xB,wN (by rw[wC,HR.out];exact wO _)]);have NR:=h_ xP;have KR:=h_ tl.len;clear xO xB xP tl;have xn:=bs.b3 0;have yi:=bs.b3 1;have yj:=bs.g3 1;go_wp2_with fail;clear xn yi yj;obtain⟨yv,xE,yw,bs⟩:=bs.sets 1 0 [.slice a1 k c1,.slice a2 k2 c2,.int .i64 m] rfl (wh rfl);replace xo:=xo.sets 1 rfl xE;replace xp:=xp.sets 1 rfl xE;replace q:=bs.q;simp only[wo,Nat.reduceAdd] at xE;rw[xE];refine bodyPost_ret (fJ rfl rfl (bs.box 1 rfl)) rfl ⟨⟨Nn,(a1,c1),N2,(a2,c2),m⟩,?_,?_,⟨?_,?_⟩,q⟩
      ·show _=Ending.returned (.agg #[.slice a1 Nn.length c1,.slice a2 N2.length c2,.int .i64 m])
       rw[KA.out,KR.out]
      ·show (Nn.map AcI.d,N2.map RsI.d,m)=_
       rw[NA.out,NR.out]
      ·show Ow2 acY (fun g=>w.heap.size≤g∧(wB a2 N2.length c2).ownBlock≠some g) (.slice a1 Nn.length c1) Nn _
       rw[KA.out,KR.out]
       exact Ow2.mono xo fun g _ hg=>⟨hg.1,fun e=>hg.2 (wD _ (lw e))⟩
      ·show Ow2 rsY _ (.slice a2 N2.length c2) N2 _
       rw[KR.out]
       exact Ow2.mono xp fun g _ hg=>hg.1

def co0:Co:=([],[],0)
def dR (p:List Nd→Bool) (c:Co) (t:List UInt8):Co×Int:=
 if aB p c then (if (fiG reN c.2.1 t).isSome then ((c.1,c.2.1.eraseP fun x=>reN x==t,c.2.2),0) else (co0,6)) else (co0,8)
def bh (p:List Nd→Bool) (c:Co) (r:Re):Co×Int:=
 if aB p c then (if (fiG reN c.2.1 r.j).isSome then (if dJ p r then ((c.1,puO reN c.2.1 r,c.2.2),0) else (co0,2)) else (co0,6)) else (co0,8)
def bn (p:List Nd→Bool) (c:Co) (a:Ac):Co×Int:=
 if aB p c then (if (fiG acN c.1 a.1).isSome then (if eU a then ((puO acN c.1 a,c.2.1,c.2.2),0) else (co0,2)) else (co0,6)) else (co0,8)
theorem aL {p:List Nd→Bool} {c:Co} (h:aB p c=true):c.1.length≤8∧c.2.1.length≤16∧0≤c.2.2∧c.2.2<cg∧c.1.all eU=true∧chG acN c.1=true∧(c.2.1.all fun r=>dJ p r&&a9 c.1 r)=true∧chG reN c.2.1=true:=by
 unfold aB dd at h;simp only[Bool.and_eq_true,decide_eq_true_eq] at h;exact h
section
variable {α β:Type} {f:α→β} {nm:β→List UInt8}
theorem jl (L:List α) (t:List UInt8):poG nm (L.map f) t=poG (fun x=>nm (f x)) L t:=by
 unfold poG;rw[List.takeWhile_map,wC]
 rfl
theorem ss (L:List α) (t:List UInt8):thO nm (L.map f) t=thO (fun x=>nm (f x)) L t:=by
 unfold thO;rw[jl,List.getElem?_map]
 cases L[poG (fun x=>nm (f x)) L t]? <;> rfl
theorem jx (L:List α) (x:α):(puO (fun x=>nm (f x)) L x).map f=puO nm (L.map f) (f x):=by
 unfold puO;rw[ss,jl]
 cases thO (fun x=>nm (f x)) L (nm (f x)) with
 | true=>simp only[if_true];rw[List.map_set]
 | false=>simp only[Bool.false_eq_true,if_false];rw[List.map_append,List.map_cons,List.map_take,List.map_drop]
theorem dr {nm:α→List UInt8} {L:List α} {x y:α} (h:y∈puO nm L x):y∈L∨y=x:=by
 unfold puO at h
 split at h
 ·exact List.mem_or_eq_of_mem_set h
 ·rcases wu.1 h with h | h
  ·exact .inl (List.mem_of_mem_take h)
  ·rcases wE.1 h with h | h
   ·exact .inr h
   ·exact .inl (List.mem_of_mem_drop h)
theorem pg {nm:α→List UInt8} {L:List α} {x:α}:(puO nm L x).length≤L.length+1:=by
 unfold puO
 split
 ·rw[List.length_set];omega
 ·rw[List.length_append,List.length_cons,List.length_take,List.length_drop];omega
end
theorem jy {α β:Type} {f:α→β} {M N:List α} (h:M.map f=N.map f) {x:α} (hx:x∈M):∃y∈N,f y=f x:=by
 have h1:f x∈N.map f:=by rw[←h];exact List.mem_map_of_mem hx
 exact List.mem_map.1 h1
theorem np {α:Type} {q:α→Bool} {L:List α} {k:Nat} (h:dc q L=k):L.eraseIdx k=L.eraseP q:=by
 unfold dc at h
 cases hf:L.findIdx? q with
 | none=>rw[hf] at h;simp at h
 | some i=>
  rw[hf] at h;simp only[Int.natCast_inj] at h;subst h;rw[List.eraseP_eq_eraseIdx,hf]
def fU (w:World) (o:Co×Int) (e:Ending) (w':World):Prop:=∃c:CoI,e=.returned (.tuple #[c.v,.int .i64 o.2])∧c.d=o.1∧c.own (fun g=>w.heap.size≤g) w'∧Bl w w'
section
variable {α:Type} {Y:Ly α} {w0 w w':World} {bs:Bs} {u v:Value} {M:List α} {B:Nat}
theorem eF {S:Nat→Prop} {x:α} (h:Y.own S x w) (hk:∀k,k<w.heap.size→S k→w'.heap[k]?=w.heap[k]?):Y.own S x w':=
 Y.ownMono _ _ _ _ (Y.ownKeep (fun g=>g<w.heap.size∧S g) x w w' (Y.ownMono _ _ _ _ h fun _ hl hg=>⟨hl,hg⟩) fun k xH=>hk k xH.1 xH.2) fun _ _ hg=>hg.2
theorem Ow2.keepLt {S:Nat→Prop} (h:Ow2 Y S v M w) (hk:∀k,k<w.heap.size→S k→w'.heap[k]?=w.heap[k]?):Ow2 Y S v M w':=
 Ow2.mono (Ow2.keep (S:=fun g=>g<w.heap.size∧S g) (Ow2.mono h fun _ hl hg=>⟨hl,hg⟩) fun k xH=>hk k xH.1 xH.2) fun _ _ hg=>hg.2
def OwU (Y:Ly α) (B:Nat) (u v:Value) (M:List α) (w:World):Prop:=Ow2 Y (fun g=>B≤g∧u.ownBlock≠some g) v M w
abbrev tp:Value:=.slice none 0 0
theorem OwU.ret (h:OwU Y B u v M w) (hb:Bl w w'):OwU Y B u v M w':=Ow2.ret h hb
theorem OwU.sets (h:OwU Y B u v M w) {A o:Nat} {vs:List Value} (hA:A<B) (e':w.setCells A o vs=w'):OwU Y B u v M w':=by
 subst e'
 exact Ow2.keep h fun g hg=>bT vs w A o g fun e=>by have:=hg.1;omega
theorem OwU.grown (h:OwU Y B u v M w) (hg:w.grownBy w' u.ownBlock):OwU Y B u v M w':=Ow2.keepLt h fun k hk hS=>hg.block k hk fun e=>hS.2 e.symm
theorem OwU.own (h:OwU Y B u v M w):OwL Y (fun g=>B≤g) v M w:=OwL.mono (Ow2.own h) fun _ _ hg=>hg.1
theorem OwU.isL (h:OwU Y B u v M w):IsL Y v M w:=(Ow2.own h).isL
theorem OwU.elem (h:OwU Y B u v M w) {x:α} (hx:x∈M):Y.own (fun g=>B≤g∧v.ownBlock≠some g) x w:=Y.ownMono _ _ _ _ (h.2 x hx) fun _ _ hg=>⟨hg.1.1,hg.2⟩
theorem OwU.of {C:Nat} (h:Ow2 Y (fun g=>C≤g∧u.ownBlock≠some g) v M w) (hB:B≤C):OwU Y B u v M w:=Ow2.mono h fun _ _ hg=>⟨wF hB hg.1,hg.2⟩
theorem OwU.ofN {C:Nat} (h:Ow2 Y (fun g=>C≤g) v M w) (hB:B≤C):OwU Y B tp v M w:=Ow2.mono h fun _ _ hg=>⟨wF hB hg,fun e=>by cases e⟩
theorem OwU.row (h:OwU Y B u v M w):w.ownsRow B Y.e Y.n v M.length (Y.fl M):=OwS.owns h.1 fun _ hg=>hg.1
theorem Sx.grownB {r:Option Nat} (h:Sx w0 bs w) (hg:w.grownBy w' r) (hr:∀g,r=Option.some g→B≤g) (hB:∀a∈bs.map Prod.fst,a<B) (h0:w0.heap.size≤B):Sx w0 bs w':=
 h.grown hg fun g e=>⟨wF h0 (hr g e),fun hm=>by have:=hB g hm;have:=hr g e;omega⟩
theorem ba {S:Nat→Prop} {xs:List Value} {n:Nat} (h:w.ownsRow B Y.e Y.n v n xs) (hn:n=M.length) (hx:xs=Y.fl M) (hS:∀g,B≤g→S g) (he:∀x∈M,Y.own S x w):OwL Y S v M w:=by
 subst hn;subst hx;exact⟨⟨h.mono (wv _),fun g hg=>hS g (h.lt g hg).1⟩,he⟩
def OwE (Y:Ly α) (B:Nat) (x:α) (w:World):Prop:=Y.own (fun g=>B≤g) x w
theorem OwE.ret {x:α} (h:OwE Y B x w) (hb:Bl w w'):OwE Y B x w':=Y.ownRet _ _ _ _ h hb
def OwV (Y:Ly α) (B:Nat) (v:Value) (M:List α) (w:World):Prop:=OwL Y (fun g=>B≤g) v M w
theorem OwV.ret (h:OwV Y B v M w) (hb:Bl w w'):OwV Y B v M w':=OwL.ret h hb
theorem OwV.sets (h:OwV Y B v M w) {A o:Nat} {vs:List Value} (hA:A<B) (e':w.setCells A o vs=w'):OwV Y B v M w':=OwL.far h (by omega) e'
end
end Go.Proofs.YtjgeiieiinmdnaaGreatDoor
