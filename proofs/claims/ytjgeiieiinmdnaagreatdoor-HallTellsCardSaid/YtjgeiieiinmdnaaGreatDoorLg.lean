/- HaL, HaQ: put together by mergetpl.py. -/
import Derived.Test.YtjgeiieiinmdnaaGreatDoorLd
import Derived.Test.YtjgeiieiinmdnaaGreatDoorLc
import Derived.Test.YtjgeiieiinmdnaaGreatDoorLe
open Go.Proofs.Tryz
open Go.RowKit.Below renaming drew→wu
open Go.Value renaming slice→wD
open Go.Value.slice renaming injEq→wM
open Go.World renaming setCells→ws
open List renaming mem_of_getElem?→wt,mem_append_left→wv,mem_append→ww,getElem?_toArray→wz,getElem?_cons_succ→wA,getElem?_cons_zero→wB,length_map→wE,mem_append_right→wF,mem_cons→wG,append_nil→wH,mem_singleton→wI,getElem?_eq_getElem→wK,getElem_mem→wL,not_mem_nil→wN,take_of_length_le→wO
open Nat renaming le_of_ble_eq_true→wq,zero_le→wy,le_refl→wP
open Option.some renaming injEq→wC
namespace Go.Proofs.YtjgeiieiinmdnaaGreatDoor
set_option maxHeartbeats 16000000
set_option maxRecDepth 100000
open Go.RowKit Go.Lib

section
variable {α:Type} {Y:Ly α} {w0 w w':World} {bs:Bs} {ad:List Nat} {v:Value} {M Nn:List α} {k:Nat}
def Ow2 (Y:Ly α) (S:Nat→Prop) (v:Value) (M:List α) (w:World):Prop:=OwS S Y.e Y.n v M.length (Y.fl M) w∧∀x∈M,Y.own (fun g=>S g∧v.ownBlock≠some g) x w
theorem Ow2.own {S:Nat→Prop} (h:Ow2 Y S v M w):OwL Y S v M w:=⟨h.1,fun x hx=>Y.ownMono _ _ _ _ (h.2 x hx) fun _ _ hg=>hg.1⟩
theorem Ow2.ret {S:Nat→Prop} (h:Ow2 Y S v M w) (hb:Bl w w'):Ow2 Y S v M w':=⟨h.1.ret hb,fun x hx=>Y.ownRet _ _ _ _ (h.2 x hx) hb⟩
theorem Ow2.mono {S S':Nat→Prop} (h:Ow2 Y S v M w) (hs:∀g,g<w.heap.size→S g→S' g):Ow2 Y S' v M w:=⟨h.1.mono hs,fun x hx=>Y.ownMono _ _ _ _ (h.2 x hx) fun g hl hg=>⟨hs g hl hg.1,hg.2⟩⟩
theorem Ow2.keep {S:Nat→Prop} (h:Ow2 Y S v M w) (hk:∀k,S k→w'.heap[k]?=w.heap[k]?):Ow2 Y S v M w':=⟨h.1.keep hk,fun x hx=>Y.ownKeep _ _ _ _ (h.2 x hx) fun k hk'=>hk k hk'.1⟩
theorem TL.done2 (h:TL Y w0 ad v M Nn M.length w):Ow2 Y (Xd w0 ad) v Nn w:=by
 have hr:=h.row;rw[List.drop_length,wH] at hr;exact⟨by rw[h.len];exact hr,fun x hx=>Y.ownMono _ _ _ _ (h.own x hx) fun g _ hg=>⟨⟨hg.1,hg.2.1⟩,hg.2.2⟩⟩
theorem TL.ofX {ad':List Nat} (h:OwX w0 ad Y.e Y.n v M.length (Y.fl M) w) (hd:∀g,v.ownBlock=some g→g ∉ ad'):TL Y w0 (ad++ad') v M [] 0 w:=
 TL.start ⟨h.1.mono (wy _),fun g hg=>⟨(h.1.lt g hg).1,fun hm=>by
  rcases ww.1 hm with hm | hm
  ·exact h.2 g hg hm
  ·exact hd g hg hm⟩⟩
def OwY (Y:Ly α) (w0:World) (ad:List Nat) (v:Value) (M:List α) (w:World):Prop:=Ow2 Y (Xd w0 ad) v M w
theorem OwY.ret (h:OwY Y w0 ad v M w) (hb:Bl w w'):OwY Y w0 ad v M w':=Ow2.ret h hb
theorem OwY.sets (h:OwY Y w0 ad v M w) (k:Nat) {A o:Nat} {vs:List Value} (hk:ad[k]?=some A) (e':w.setCells A o vs=w'):OwY Y w0 ad v M w':=by
 subst e'
 exact Ow2.keep h fun g hg=>cG vs w A o g fun e=>hg.2 (by rw[e];exact wt hk)
theorem OwY.far (h:OwY Y w0 ad v M w) {g o:Nat} {vs:List Value} (hg:g∈ad) (e':w.setCells g o vs=w'):OwY Y w0 ad v M w':=by
 subst e'
 exact Ow2.keep h fun j hj=>cG vs w g o j fun e=>hj.2 (by rw[e];exact hg)
theorem OwY.alloc (h:OwY Y w0 ad v M w) (A:Nat) (hA:w.heap.size=A) (hb:Bl w w'):OwY Y w0 (ad++[A]) v M w':=by
 refine Ow2.ret (Ow2.mono h fun g hl hg=>⟨hg.1,fun hm=>?_⟩) hb
 rcases ww.1 hm with hm | hm
 ·exact hg.2 hm
 ·have:=wI.1 hm
  omega
theorem OwY.sub {ad':List Nat} (h:OwY Y w0 ad v M w) (hs:∀a∈ad',a∈ad):OwY Y w0 ad' v M w:=Ow2.mono h fun _ _ hg=>⟨hg.1,fun hm=>hg.2 (hs _ hm)⟩
end
theorem OwX.far {w0 w w':World} {ad:List Nat} {e:TypeId} {size n:Nat} {v:Value} {xs:List Value} (h:OwX w0 ad e size v n xs w) {g o:Nat} {vs:List Value} (hn:v.ownBlock≠some g) (e':w.setCells g o vs=w'):OwX w0 ad e size v n xs w':=by
 subst e';exact⟨ip vs h.1 hn o,h.2⟩
def obL (v:Value):List Nat:=v.ownBlock.toList
theorem kW {v:Value} {g:Nat} (h:v.ownBlock=some g):g∈obL v:=by unfold obL;rw[h];simp
theorem pd {v:Value} {g:Nat} (h:g∈obL v):v.ownBlock=some g:=by unfold obL at h;simpa using h
theorem l6 {w:World} {B C n m size size':Nat} {e e':TypeId} {u v:Value} {xs ys:List Value} (h1:w.ownsRow B e size u n xs) (h2:w.ownsRow C e' size' v m ys) (he:e≠e'):∀g,u.ownBlock=some g→g ∉ obL v:=fun g hg hm=>by
 have hv:=pd hm
 rcases h1.2 with ⟨rfl,_⟩ | ⟨g1,cap1,cur1,rfl,_⟩
 ·cases hg
 ·cases hg
  exact gp h1 h2 he hv
def CoI.own2 (S:Nat→Prop) (c:CoI) (w:World):Prop:=Ow2 acY (fun g=>S g∧c.rv.ownBlock≠some g) c.av c.A w∧Ow2 rsY S c.rv c.R w
theorem CoI.own2.own {S:Nat→Prop} {c:CoI} {w:World} (h:c.own2 S w):c.own S w:=⟨OwL.mono h.1.own fun _ _ hg=>hg.1,h.2.own⟩
theorem CoI.own2.mono {S S':Nat→Prop} {c:CoI} {w:World} (h:c.own2 S w) (hs:∀g,g<w.heap.size→S g→S' g):c.own2 S' w:=⟨h.1.mono fun g hl hg=>⟨hs g hl hg.1,hg.2⟩,h.2.mono hs⟩
def TwC (w:World) (d:Co) (e:Ending) (w':World):Prop:=∃c:CoI,e=.returned c.v∧c.d=d∧c.own2 (fun g=>w.heap.size≤g) w'∧Bl w w'
theorem nr {fn:Func} {tmps:Array Value} {W:World} {R p:Nat} {v0 v1 v2:Value} (h:fn.results=#[.cell p 25]) (h2:tmps.getD p undef=.pointer (some ⟨R,0,none⟩)) (k:Bx R [v0,v1,v2] W):
  (results fn tmps).run prog W=.ok (.agg #[v0,v1,v2]) W:=by
 have c0:=k.at 0 rfl;have c1:=k.at 1 rfl;have c2:=k.at 2 rfl;rw[aP h,h2]
 simp[go_sem,Result.andThen,c0,c1,c2]
theorem su (c:CoI) (w:World) (hs:c.sub w) (zA:c.A.length≤1000) (zR:c.R.length≤1000) (hac:∀a∈c.A,cq a.it) (hrs:∀r∈c.R,kz r):Calls prog 17 #[c.v] w (TwC w c.d):=by
 obtain⟨A,⟨aa,ac⟩,R,⟨ra,rc⟩,m⟩:=c;obtain⟨hA,hR⟩:=hs
 simp only at zA zR hac hrs
 have hA:IsL acY (.slice aa A.length ac) A w:=hA;have hR:IsL rsY (.slice ra R.length rc) R w:=hR
 show Calls prog 17 #[.agg #[.slice aa A.length ac,.slice ra R.length rc,.int .i64 m]] w (TwC w (A.map AcI.d,R.map RsI.d,m))
 have CA:=h_ fun (W:World) (hb:Bl w W)=>eT (.slice aa A.length ac) A W (hA.ret hb) (by omega)
 have CR:=h_ fun (W:World) (hb:Bl w W)=>lg (.slice ra R.length rc) R W (hR.ret hb) (by omega)
 have SA:=h_ fun x hx=>hA.2.2 x hx
 have SR:=h_ fun x hx=>hR.2.2 x hx
 have FA:=h_ hac;have FR:=h_ hrs;obtain⟨LA,hLA⟩:=e_ A.length;obtain⟨LR,hLR⟩:=e_ R.length;rw[hLA] at CA zA ⊢;rw[hLR] at CR zR ⊢;have HA:=h_ hLA;have HR:=h_ hLR;clear hA hR hac hrs hLA hLR;obtain⟨W0,hW,y0,bs⟩:=Sx.start2 w [.slice aa LA ac,.slice ra LR rc,.int .i64 m] 25 [.slice none 0 0,.slice none 0 0,.int .i64 0] 25;have HW:=h_ hW;clear hW;have q:=bs.q;go_enter func17,ntmps17;go_wp2_with fail;rw[HW.out];go_cut [2] (fun s2 wx=>s2=.pointer (some ⟨w.heap.size+1,0,none⟩)∧∃(a1:Option Addr) (c1:Nat) (a2:Option Addr) (c2:Nat),Sx w [(w.heap.size,[.slice a1 LA c1,.slice a2 LR c2,.int .i64 m]),(w.heap.size+1,[.slice none 0 0,.slice none 0 0,.int .i64 0])] wx∧OwX w [w.heap.size,w.heap.size+1] 33 3 (.slice a1 LA c1) LA (acY.fl A) wx∧OwX w [w.heap.size,w.heap.size+1] 38 6 (.slice a2 LR c2) LR (rsY.fl R) wx)
 case first=>
  replace bs:=bs.ret (wu (bQ _));replace q:=bs.q
  have y1:W0.drew.heap.size=W0.heap.size:=rfl
  refine wp_region_held_drew (S:=fun w'=>w'.cell? ⟨w.heap.size,2,none⟩=some (.int .i64 m)) (by kernel_rfl) (bs.at 0 2) (fun hH=>?_);generalize W0.drew=w1 at bs q y1 hH ⊢;refine rS [(0,some 7),(3,some 10)] ?_
  iterate 2 refine aS ?_
  refine rE ?_;refine wpAnyH_ready (rs:=[1,4]) (by kernel_rfl) (by simp) ?_;refine az (by kernel_rfl) (fun o ho K hK=>?_) ?_
  ·simp only[wz,wA,wB,wC] at ho
   subst ho;have c_c0:=bs.b3 0;go_simp;clear c_c0;clear hH;refine hK.out _ _ (bs.at 0 2) (fun hH=>?_);clear hK K;refine wpAnyH_ready (rs:=[2,4]) (by kernel_rfl) (by simp) ?_;refine az (by kernel_rfl) (fun o ho K hK=>?_) ?_
   ·simp only[wz,wA,wB,wC] at ho
    subst ho;go_simp;refine(CA.out w1 q).mono ?_;rintro e w2 ⟨a1,c1,rfl,hown,hb⟩;have o_a:=OwX.mk' bs hown;replace bs:=bs.ret hb;replace q:=bs.q;clear hb;rw[HA.out] at o_a ⊢;go_simp;clear hH;refine hK.out _ _ (bs.at 0 2) (fun hH=>?_);clear hK K
    refine aC (i:=4) fun K hK=>?_
    have c_c0:=bs.b3 0;go_simp;clear c_c0;clear hH;refine hK.out _ _ (bs.at 0 2) (fun hH=>?_);clear hK K;refine rS [(6,some 13)] ?_;refine aS ?_;refine rE ?_
    refine aC (i:=5) fun K hK=>?_
    go_simp;refine(CR.out w2 q).mono ?_;rintro e w3 ⟨a2,c2,rfl,hown2,hb⟩;have o_r:=OwX.mk' bs hown2;replace o_a:=o_a.ret hb;replace bs:=bs.ret hb;replace q:=bs.q;clear hb;rw[HR.out] at o_r ⊢;go_simp;clear hH;refine hK.out _ _ (bs.at 0 2) (fun hH=>?_);clear hK K
    refine aC (i:=7) fun K hK=>?_
    have c_c0:=bs.b3 0;have f_c0:=bs.g3 0;go_simp;clear c_c0 f_c0;obtain⟨w4,hw4,y4,bs⟩:=bs.sets 0 0 [.slice a1 LA c1] rfl (wq rfl);replace o_a:=o_a.sets 0 rfl hw4;replace o_r:=o_r.sets 0 rfl hw4;replace q:=bs.q;simp only[ws] at hw4;rw[hw4];clear hH;refine hK.out _ _ (bs.at 0 2) (fun hH=>?_);clear hK K;refine rS [(8,some 14)] ?_;refine aS ?_;refine rE ?_
    refine aC (i:=9) fun K hK=>?_
    have c_c0:=bs.b3 0;have f_c0:=bs.g3 0;go_simp;clear c_c0 f_c0;obtain⟨w5,hw5,y5,bs⟩:=bs.sets 0 1 [.slice a2 LR c2] rfl (wq rfl);replace o_a:=o_a.sets 0 rfl hw5;replace o_r:=o_r.sets 0 rfl hw5;replace q:=bs.q;simp only[ws] at hw5;rw[hw5];clear hH;refine hK.out _ _ (bs.at 0 2) (fun hH=>?_);clear hK K;refine aD ?_;clear hH;go_wp2_with fail;go_meet;exact⟨rfl,a1,c1,a2,c2,bs,o_a,o_r⟩
   refine az (by kernel_rfl) (fun o ho K hK=>?_) ?_
   ·simp only[wz,wA,wB,wC] at ho
    subst ho;have c_c0:=bs.b3 0;go_simp;clear c_c0;clear hH;refine hK.out _ _ (bs.at 0 2) (fun hH=>?_);clear hK K
    refine aC (i:=2) fun K hK=>?_
    go_simp;refine(CA.out w1 q).mono ?_;rintro e w2 ⟨a1,c1,rfl,hown,hb⟩;have o_a:=OwX.mk' bs hown;replace bs:=bs.ret hb;replace q:=bs.q;clear hb;rw[HA.out] at o_a ⊢;go_simp;clear hH;refine hK.out _ _ (bs.at 0 2) (fun hH=>?_);clear hK K;refine rS [(6,some 13)] ?_;refine aS ?_;refine rE ?_
    refine aC (i:=5) fun K hK=>?_
    go_simp;refine(CR.out w2 q).mono ?_;rintro e w3 ⟨a2,c2,rfl,hown2,hb⟩;have o_r:=OwX.mk' bs hown2;replace o_a:=o_a.ret hb;replace bs:=bs.ret hb;replace q:=bs.q;clear hb;rw[HR.out] at o_r ⊢;go_simp;clear hH;refine hK.out _ _ (bs.at 0 2) (fun hH=>?_);clear hK K
    refine aC (i:=7) fun K hK=>?_
    have c_c0:=bs.b3 0;have f_c0:=bs.g3 0;go_simp;clear c_c0 f_c0;obtain⟨w4,hw4,y4,bs⟩:=bs.sets 0 0 [.slice a1 LA c1] rfl (wq rfl);replace o_a:=o_a.sets 0 rfl hw4;replace o_r:=o_r.sets 0 rfl hw4;replace q:=bs.q;simp only[ws] at hw4;rw[hw4];clear hH;refine hK.out _ _ (bs.at 0 2) (fun hH=>?_);clear hK K;refine rS [(8,some 14)] ?_;refine aS ?_;refine rE ?_
    refine aC (i:=9) fun K hK=>?_
    have c_c0:=bs.b3 0;have f_c0:=bs.g3 0;go_simp;clear c_c0 f_c0;obtain⟨w5,hw5,y5,bs⟩:=bs.sets 0 1 [.slice a2 LR c2] rfl (wq rfl);replace o_a:=o_a.sets 0 rfl hw5;replace o_r:=o_r.sets 0 rfl hw5;replace q:=bs.q;simp only[ws] at hw5;rw[hw5];clear hH;refine hK.out _ _ (bs.at 0 2) (fun hH=>?_);clear hK K;refine aD ?_;clear hH;go_wp2_with fail;go_meet;exact⟨rfl,a1,c1,a2,c2,bs,o_a,o_r⟩
   exact AllReadyH.nil
  refine az (by kernel_rfl) (fun o ho K hK=>?_) ?_
  ·simp only[wz,wA,wB,wC] at ho
   subst ho;have c_c0:=bs.b3 0;go_simp;clear c_c0;clear hH;refine hK.out _ _ (bs.at 0 2) (fun hH=>?_);clear hK K
   refine aC (i:=1) fun K hK=>?_
   have c_c0:=bs.b3 0;go_simp;clear c_c0;clear hH;refine hK.out _ _ (bs.at 0 2) (fun hH=>?_);clear hK K
   refine aC (i:=2) fun K hK=>?_
   go_simp;refine(CA.out w1 q).mono ?_;rintro e w2 ⟨a1,c1,rfl,hown,hb⟩;have o_a:=OwX.mk' bs hown;replace bs:=bs.ret hb;replace q:=bs.q;clear hb;rw[HA.out] at o_a ⊢;go_simp;clear hH;refine hK.out _ _ (bs.at 0 2) (fun hH=>?_);clear hK K;refine rS [(6,some 13)] ?_;refine aS ?_;refine rE ?_
   refine aC (i:=5) fun K hK=>?_
   go_simp;refine(CR.out w2 q).mono ?_;rintro e w3 ⟨a2,c2,rfl,hown2,hb⟩;have o_r:=OwX.mk' bs hown2;replace o_a:=o_a.ret hb;replace bs:=bs.ret hb;replace q:=bs.q;clear hb;rw[HR.out] at o_r ⊢;go_simp;clear hH;refine hK.out _ _ (bs.at 0 2) (fun hH=>?_);clear hK K
   refine aC (i:=7) fun K hK=>?_
   have c_c0:=bs.b3 0;have f_c0:=bs.g3 0;go_simp;clear c_c0 f_c0;obtain⟨w4,hw4,y4,bs⟩:=bs.sets 0 0 [.slice a1 LA c1] rfl (wq rfl);replace o_a:=o_a.sets 0 rfl hw4;replace o_r:=o_r.sets 0 rfl hw4;replace q:=bs.q;simp only[ws] at hw4;rw[hw4];clear hH;refine hK.out _ _ (bs.at 0 2) (fun hH=>?_);clear hK K;refine rS [(8,some 14)] ?_;refine aS ?_;refine rE ?_
   refine aC (i:=9) fun K hK=>?_
   have c_c0:=bs.b3 0;have f_c0:=bs.g3 0;go_simp;clear c_c0 f_c0;obtain⟨w5,hw5,y5,bs⟩:=bs.sets 0 1 [.slice a2 LR c2] rfl (wq rfl);replace o_a:=o_a.sets 0 rfl hw5;replace o_r:=o_r.sets 0 rfl hw5;replace q:=bs.q;simp only[ws] at hw5;rw[hw5];clear hH;refine hK.out _ _ (bs.at 0 2) (fun hH=>?_);clear hK K;refine aD ?_;clear hH;go_wp2_with fail;go_meet;exact⟨rfl,a1,c1,a2,c2,bs,o_a,o_r⟩
  exact AllReadyH.nil
 case rest=>
  obtain⟨rfl,a1,c1,a2,c2,bs1,o_a,o_r⟩:=hcut;clear bs q;have bs:=bs1;clear bs1;have q:=bs.q;have tl:=TL.ofX (Y:=acY) (ad':=obL (.slice a2 LR c2)) (by rw[HA.out];exact o_a) (l6 o_a.1 o_r.1 (by decide));clear o_a;have c_c0:=bs.b3 0;go_wp2_with fail;clear c_c0;go_loopw [18] (fun i wx=>∃(k:Nat) (Nn:List AcI),i=.int .i64 k∧k≤LA∧TL acY w ([w.heap.size,w.heap.size+1]++obL (.slice a2 LR c2)) (.slice a1 LA c1) A Nn k wx∧Nn.map AcI.d=(A.map AcI.d).take k∧OwX w [w.heap.size,w.heap.size+1] 38 6 (.slice a2 LR c2) LR (rsY.fl R) wx∧Sx w [(w.heap.size,[.slice a1 LA c1,.slice a2 LR c2,.int .i64 m]),(w.heap.size+1,[.slice none 0 0,.slice none 0 0,.int .i64 0])] wx) (fun i _=>LA-(intOf i).toNat)
  case atStart=>exact⟨0,[],rfl,wy _,tl,rfl,o_r,bs⟩
  case round=>
   clear tl bs q o_r;obtain⟨k,Nn,rfl,hk,tl,hNn,o_r,bs⟩:=hrel;have q:=bs.q
   by_cases hlt:k<LA
   ·have hkM : k < A.length := by rw [HA.out]; exact hlt
    obtain⟨p,hp⟩:=e_ (A[k]);have hkp:A[k]?=some p:=(by rw[wK hkM,hp]);have hpm:p∈A:=(by rw[←hp];exact wL hkM);obtain⟨g,c0,hv,hg0,hgn,hgl,-⟩:=tl.form hkM;rw[HA.out] at hv;simp only[wM,true_and] at hv;obtain⟨rfl,rfl⟩:=hv;have hV:wD (some ⟨g,0,none⟩) LA c1=.slice (some ⟨g,0,none⟩) A.length c1:=(by rw[HA.out]);have HV:=h_ hV;have HK:=h_ hkp;have HN:=h_ hNn;have GN:=h_ hgn
    have CT:=h_ fun (W:World) (hb:Bl w W)=>oP p.iv p.ver p.it W (aw.ret (SA.out p hpm) hb) (FA.out p hpm).1 (fun q hq=>((FA.out p hpm).2 q hq).2.2.1)
    have hnr:(wD a2 LR c2).ownBlock≠some g:=fun e=>GN.out (wF _ (kW e))
    clear hp hkp hpm hkM hV hNn hgn
    have i0:wr.cell? ⟨g,k*3,none⟩=some (.string ⟨p.j.toArray⟩):=(tl.cell HV.out HK.out 0 rfl).1
    have i1:wr.cell? ⟨g,k*3+1,none⟩=some (p.iv):=(tl.cell HV.out HK.out 1 rfl).1
    have i2:wr.cell? ⟨g,k*3+2,none⟩=some (.int .i64 p.ver):=(tl.cell HV.out HK.out 2 rfl).1
    have o_t:=tl;clear tl;have c_c0:=bs.b3 0;have d0:=(bs.lit (wr.heap.size) rfl [.string ⟨p.j.toArray⟩,p.iv,.int .i64 p.ver] 33);have c0_n00:=d0.b3 2;have c0_c0:=d0.b3 0;go_wp2_with fail;clear c_c0 d0 c0_n00 c0_c0;clear i0 i1 i2;obtain⟨w101,hw101,y101,al,bs⟩:=bs.alloc (wr.heap.size) rfl [.string ⟨p.j.toArray⟩,p.iv,.int .i64 p.ver] 33;replace o_t:=o_t.alloc (wr.heap.size) rfl al;replace o_r:=o_r.alloc (wr.heap.size) rfl al;clear al;replace q:=bs.q;rw[hw101];replace o_t:=o_t.ret (wu (bQ _));replace o_r:=o_r.ret (wu (bQ _));replace bs:=bs.ret (wu (bQ _));replace q:=bs.q
    have y102:w101.drew.heap.size=w101.heap.size:=rfl
    refine wp_region_held_drew (S:=fun w'=>w'.cell? ⟨w.heap.size,0,none⟩=some (.slice (some ⟨g,0,none⟩) LA c1)∧w'.cell? ⟨wr.heap.size,0,none⟩=some (.string ⟨p.j.toArray⟩)∧w'.cell? ⟨wr.heap.size,1,none⟩=some (p.iv)∧w'.cell? ⟨wr.heap.size,2,none⟩=some (.int .i64 p.ver)) (by kernel_rfl) ⟨bs.at 0 0,bs.at 2 0,bs.at 2 1,bs.at 2 2⟩ (fun hH=>?_);generalize w101.drew=w102 at bs o_t o_r q y102 hH ⊢;refine rS [(0,some 23),(1,some 24),(2,some 25),(3,some 26),(4,some 27)] ?_
    iterate 5 refine aS ?_
    refine rE ?_
    refine aC (i:=5) fun K hK=>?_
    go_simp
    have hsz:∀a∈([w.heap.size,w.heap.size+1]++obL (.slice a2 LR c2))++[wr.heap.size],a<w102.heap.size:=fun a ha=>by
     rcases ww.1 ha with ha | ha
     ·rcases ww.1 ha with ha | ha
      ·have h1:=bs.lt _ (wt (i:=0) rfl)
       have h2:=bs.lt _ (wt (i:=1) rfl);simp only[wG,wN,or_false] at ha h1 h2
       rcases ha with rfl | rfl <;> assumption
      ·exact(o_r.1.lt a (pd ha)).2
     ·have h1:=bs.lt _ (wt (i:=2) rfl)
      rw[wI.1 ha];exact h1
    have far:=o_t.far q hsz;clear hsz;refine(CT.out w102 q).mono ?_;rintro e w103 ⟨a3,c3,rfl,⟨M3,hM3,hown3,hb⟩⟩;replace o_t:=o_t.ret hb;replace o_r:=o_r.ret hb;replace bs:=bs.ret hb;replace q:=bs.q;clear hb;have hl3:(p.it.map Prod.fst).length=M3.length:=(by rw[←hM3,wE]);rw[hl3] at hown3 ⊢;have ho3:acY.own (Xo w (([w.heap.size,w.heap.size+1]++obL (.slice a2 LR c2))++[wr.heap.size]) (.slice (some ⟨g,0,none⟩) LA c1)) ⟨p.j,M3,(a3,c3),p.ver⟩ w103:=OwI.mono (OwI.of hown3) (fun j _ hj=>far j hj);have HM3:=h_ hM3;have OO:=h_ ho3;clear hM3 hown3 far hl3 ho3;go_simp;clear hH;refine hK.out _ _ ⟨bs.at 0 0,bs.at 2 0,bs.at 2 1,bs.at 2 2⟩ (fun hH=>?_);clear hK K;refine rS [(6,some 29),(7,some 30)] ?_
    iterate 2 refine aS ?_
    refine rE ?_
    refine aC (i:=8) fun K hK=>?_
    have i1:w103.cell? ⟨g,k*3+1,none⟩=some p.iv∧w103.frozen? ⟨g,k*3+1,none⟩=false:=(o_t.cell HV.out HK.out 1 rfl)
    have i2:w103.cell? ⟨g,k*3+2,none⟩=some (.int .i64 p.ver)∧w103.frozen? ⟨g,k*3+2,none⟩=false:=(o_t.cell HV.out HK.out 2 rfl)
    obtain⟨i1,j1⟩:=i1;obtain⟨i2,j2⟩:=i2;have wk:(k:Int)<(LA:Int):=(by omega);go_simp;clear i1 i2 j1 j2;obtain⟨V6,hV6⟩:=e_ (w103.setCells g (k*3+1) [.slice a3 M3.length c3,.int .i64 p.ver]);replace bs:=bs.far hg0 (fun hm=>GN.out (wv _ (by simp at hm ⊢;omega))) hV6;replace q:=bs.q;replace o_r:=o_r.far hnr hV6;have tl:=(TL.step (j:=1) (vs:=[.slice a3 M3.length c3,.int .i64 p.ver]) o_t HV.out HK.out (wq rfl) rfl OO.out rfl hV6).sub (ad':=[w.heap.size,w.heap.size+1]++obL (.slice a2 LR c2)) (fun a ha=>wv _ ha);clear o_t;simp only[ws] at hV6;rw[hV6];clear hH;refine hK.out _ _ ⟨bs.at 0 0,bs.at 2 0,bs.at 2 1,bs.at 2 2⟩ (fun hH=>?_);clear hK K;refine aD ?_;clear hH;go_wp2_with fail;go_roundw
    case rel=>exact⟨k+1,Nn++[⟨p.j,M3,(a3,c3),p.ver⟩],by go_num,by omega,tl,cj HN.out HK.out (by show (p.j,M3.map Prod.fst,p.ver)=(p.j,p.it.map Prod.fst,p.ver);rw[HM3.out]),⟨o_r.1,fun g hg hm=>o_r.2 g hg (wv _ hm)⟩,bs.some 2⟩
    case measure=>simp[intOf];omega
   ·obtain rfl : k = LA := by omega
    have tl2:TL acY w ([w.heap.size,w.heap.size+1]++obL (.slice a2 LR c2)) (.slice a1 k c1) A Nn A.length wr:=(by rw[HA.out];exact tl);have o_a:OwY acY w ([w.heap.size,w.heap.size+1]++obL (.slice a2 LR c2)) (.slice a1 k c1) Nn wr:=tl2.done2;have hN2:Nn.map AcI.d=A.map AcI.d:=(by rw[hNn,wO (by rw[wE,HA.out];exact wP _)]);have NA:=h_ hN2;have KA:=h_ tl.len;have tl:=TL.ofX (Y:=rsY) (ad':=[]) (by rw[HR.out];exact o_r) (fun _ _ h=>by cases h);rw[wH] at tl;clear tl2 hNn hN2 o_r;have c_c0:=bs.b3 0;go_wp2_with fail;clear c_c0;go_loopw [35] (fun i wx=>∃(k2:Nat) (N2:List RsI),i=.int .i64 k2∧k2≤LR∧TL rsY w [w.heap.size,w.heap.size+1] (.slice a2 LR c2) R N2 k2 wx∧N2.map RsI.d=(R.map RsI.d).take k2∧OwY acY w ([w.heap.size,w.heap.size+1]++obL (.slice a2 LR c2)) (.slice a1 k c1) Nn wx∧Sx w [(w.heap.size,[.slice a1 k c1,.slice a2 LR c2,.int .i64 m]),(w.heap.size+1,[.slice none 0 0,.slice none 0 0,.int .i64 0])] wx) (fun i _=>LR-(intOf i).toNat)
    case atStart=>exact⟨0,[],rfl,wy _,tl,rfl,o_a,bs⟩
    case round=>
     clear tl bs q o_a hlt hk;obtain⟨k2,N2,rfl,hk,tl,hNn,o_a,bs⟩:=hrel;have q:=bs.q
     by_cases hlt:k2<LR
     ·have hkM : k2 < R.length := by rw [HR.out]; exact hlt
      obtain⟨p,hp⟩:=e_ (R[k2]);have hkp:R[k2]?=some p:=(by rw[wK hkM,hp]);have hpm:p∈R:=(by rw[←hp];exact wL hkM);obtain⟨g,c0,hv,hg0,hgn,hgl,-⟩:=tl.form hkM;rw[HR.out] at hv;simp only[wM,true_and] at hv;obtain⟨rfl,rfl⟩:=hv;have hV:wD (some ⟨g,0,none⟩) LR c2=.slice (some ⟨g,0,none⟩) R.length c2:=(by rw[HR.out]);have HV:=h_ hV;have HK:=h_ hkp;have HN:=h_ hNn;have GN:=h_ hgn
      have CT:=h_ fun (W:World) (hb:Bl w W)=>oQ p W (rsY.subRet _ _ _ (SR.out p hpm) hb) (FR.out p hpm)
      clear hp hkp hpm hkM hV hNn hgn
      have i0:wr.cell? ⟨g,k2*6,none⟩=some (.string ⟨p.j.toArray⟩):=(tl.cell HV.out HK.out 0 rfl).1
      have i1:wr.cell? ⟨g,k2*6+1,none⟩=some (.bool p.on):=(tl.cell HV.out HK.out 1 rfl).1
      have i2:wr.cell? ⟨g,k2*6+2,none⟩=some (.int .i64 p.pr):=(tl.cell HV.out HK.out 2 rfl).1
      have i3:wr.cell? ⟨g,k2*6+3,none⟩=some (p.lv):=(tl.cell HV.out HK.out 3 rfl).1
      have i4:wr.cell? ⟨g,k2*6+4,none⟩=some (.bool p.ask):=(tl.cell HV.out HK.out 4 rfl).1
      have i5:wr.cell? ⟨g,k2*6+5,none⟩=some (p.sv):=(tl.cell HV.out HK.out 5 rfl).1
      have o_t:=tl;clear tl;have c_c0:=bs.b3 0;have d0:=(bs.lit (wr.heap.size) rfl [.string ⟨p.j.toArray⟩,.bool p.on,.int .i64 p.pr,p.lv,.bool p.ask,p.sv] 38);have c0_n00:=d0.b6 2;have c0_c0:=d0.b3 0;go_wp2_with fail;clear c_c0 d0 c0_n00 c0_c0;clear i0 i1 i2 i3 i4 i5;obtain⟨w201,hw201,y201,al,bs⟩:=bs.alloc (wr.heap.size) rfl [.string ⟨p.j.toArray⟩,.bool p.on,.int .i64 p.pr,p.lv,.bool p.ask,p.sv] 38;replace o_t:=o_t.alloc (wr.heap.size) rfl al;replace o_a:=o_a.alloc (wr.heap.size) rfl al;clear al;replace q:=bs.q;rw[hw201];replace o_t:=o_t.ret (wu (bQ _));replace o_a:=o_a.ret (wu (bQ _));replace bs:=bs.ret (wu (bQ _));replace q:=bs.q
      have y202:w201.drew.heap.size=w201.heap.size:=rfl
      refine wp_region_held_drew (S:=fun w'=>w'.cell? ⟨w.heap.size,1,none⟩=some (.slice (some ⟨g,0,none⟩) LR c2)∧w'.cell? ⟨wr.heap.size,0,none⟩=some (.string ⟨p.j.toArray⟩)∧w'.cell? ⟨wr.heap.size,1,none⟩=some (.bool p.on)∧w'.cell? ⟨wr.heap.size,2,none⟩=some (.int .i64 p.pr)∧w'.cell? ⟨wr.heap.size,3,none⟩=some (p.lv)∧w'.cell? ⟨wr.heap.size,4,none⟩=some (.bool p.ask)∧w'.cell? ⟨wr.heap.size,5,none⟩=some (p.sv)) (by kernel_rfl) ⟨bs.at 0 1,bs.at 2 0,bs.at 2 1,bs.at 2 2,bs.at 2 3,bs.at 2 4,bs.at 2 5⟩ (fun hH=>?_);generalize w201.drew=w202 at bs o_t o_a q y202 hH ⊢;refine rS [(0,some 40),(1,some 41),(2,some 42),(3,some 43)] ?_
      iterate 4 refine aS ?_
      refine rE ?_
      refine aC (i:=4) fun K hK=>?_
      go_simp
      have hsz:∀a∈[w.heap.size,w.heap.size+1]++[wr.heap.size],a<w202.heap.size:=fun a ha=>by
       have h1:=bs.lt _ (wt (i:=0) rfl);have h2:=bs.lt _ (wt (i:=1) rfl);have h3:=bs.lt _ (wt (i:=2) rfl);simp only[List.cons_append,List.nil_append,wG,wN,or_false] at ha h1 h2 h3
       rcases ha with rfl | rfl | rfl <;> assumption
      have far:=o_t.far q hsz;clear hsz;refine(CT.out w202 q).mono ?_;rintro e w203 ⟨r3,rfl,hd3,hown3,hb⟩;replace o_t:=o_t.ret hb;replace o_a:=o_a.ret hb;replace bs:=bs.ret hb;replace q:=bs.q;clear hb;have ho3:rsY.own (Xo w ([w.heap.size,w.heap.size+1]++[wr.heap.size]) (.slice (some ⟨g,0,none⟩) LR c2)) r3 w203:=rsY.ownMono _ _ _ _ hown3 (fun j _ hj=>far j hj);have HD3:=h_ hd3;have OO:=h_ ho3;clear hd3 hown3 far ho3;go_simp;clear hH;refine hK.out _ _ ⟨bs.at 0 1,bs.at 2 0,bs.at 2 1,bs.at 2 2,bs.at 2 3,bs.at 2 4,bs.at 2 5⟩ (fun hH=>?_);clear hK K;refine rS [(5,some 45)] ?_;refine aS ?_;refine rE ?_
      refine aC (i:=6) fun K hK=>?_
      have i0:w203.cell? ⟨g,k2*6,none⟩=some (.string ⟨p.j.toArray⟩)∧w203.frozen? ⟨g,k2*6,none⟩=false:=o_t.cell HV.out HK.out 0 rfl
      obtain⟨i0,j0⟩:=i0
      have i1:w203.cell? ⟨g,k2*6+1,none⟩=some (.bool p.on)∧w203.frozen? ⟨g,k2*6+1,none⟩=false:=o_t.cell HV.out HK.out 1 rfl
      obtain⟨i1,j1⟩:=i1
      have i2:w203.cell? ⟨g,k2*6+2,none⟩=some (.int .i64 p.pr)∧w203.frozen? ⟨g,k2*6+2,none⟩=false:=o_t.cell HV.out HK.out 2 rfl
      obtain⟨i2,j2⟩:=i2
      have i3:w203.cell? ⟨g,k2*6+3,none⟩=some (p.lv)∧w203.frozen? ⟨g,k2*6+3,none⟩=false:=o_t.cell HV.out HK.out 3 rfl
      obtain⟨i3,j3⟩:=i3
      have i4:w203.cell? ⟨g,k2*6+4,none⟩=some (.bool p.ask)∧w203.frozen? ⟨g,k2*6+4,none⟩=false:=o_t.cell HV.out HK.out 4 rfl
      obtain⟨i4,j4⟩:=i4
      have i5:w203.cell? ⟨g,k2*6+5,none⟩=some (p.sv)∧w203.frozen? ⟨g,k2*6+5,none⟩=false:=o_t.cell HV.out HK.out 5 rfl
      obtain⟨i5,j5⟩:=i5;have wk:(k2:Int)<(LR:Int):=(by omega);go_simp;clear i0 j0 i1 j1 i2 j2 i3 j3 i4 j4 i5 j5;obtain⟨V6,hV6⟩:=e_ (w203.setCells g (k2*6) [.string ⟨r3.j.toArray⟩,.bool r3.on,.int .i64 r3.pr,r3.lv,.bool r3.ask,r3.sv]);replace bs:=bs.far hg0 (fun hm=>GN.out (by simp at hm ⊢;omega)) hV6;replace q:=bs.q;replace o_a:=o_a.far (wv _ (wF _ (kW rfl))) hV6;have tl:=(TL.step (j:=0) (vs:=[.string ⟨r3.j.toArray⟩,.bool r3.on,.int .i64 r3.pr,r3.lv,.bool r3.ask,r3.sv]) o_t HV.out HK.out (wq rfl) rfl OO.out rfl hV6).sub (ad':=[w.heap.size,w.heap.size+1]) (fun a ha=>wv _ ha);clear o_t;simp only[ws] at hV6;rw[hV6];clear hH;refine hK.out _ _ ⟨bs.at 0 1,bs.at 2 0,bs.at 2 1,bs.at 2 2,bs.at 2 3,bs.at 2 4,bs.at 2 5⟩ (fun hH=>?_);clear hK K;refine aD ?_;clear hH;go_wp2_with fail;go_roundw
      case rel=>exact⟨k2+1,N2++[r3],by go_num,by omega,tl,cj HN.out HK.out HD3.out,o_a.sub (fun a ha=>wv _ ha),bs.some 2⟩
      case measure=>simp[intOf];omega
     ·obtain rfl : k2 = LR := by omega
      have tl2:TL rsY w [w.heap.size,w.heap.size+1] (.slice a2 k2 c2) R N2 R.length wr:=(by rw[HR.out];exact tl);have o_r:OwY rsY w [w.heap.size,w.heap.size+1] (.slice a2 k2 c2) N2 wr:=tl2.done2;have hN2:N2.map RsI.d=R.map RsI.d:=(by rw[hNn,wO (by rw[wE,HR.out];exact wP _)]);have NR:=h_ hN2;have KR:=h_ tl.len;clear tl2 hNn hN2 tl;have c_c0:=bs.b3 0;have c_z0:=bs.b3 1;have f_z0:=bs.g3 1;go_wp2_with fail;clear c_c0 c_z0 f_z0;obtain⟨w251,hw251,y251,bs⟩:=bs.sets 1 0 [.slice a1 k c1,.slice a2 k2 c2,.int .i64 m] rfl (wq rfl);replace o_a:=o_a.sets 1 rfl hw251;replace o_r:=o_r.sets 1 rfl hw251;replace q:=bs.q;simp only[ws,Nat.reduceAdd] at hw251;rw[hw251];refine bodyPost_ret (nr rfl rfl (bs.box 1 rfl)) rfl ⟨⟨Nn,(a1,c1),N2,(a2,c2),m⟩,?_,?_,⟨?_,?_⟩,q⟩
      ·show _=Ending.returned (.agg #[.slice a1 Nn.length c1,.slice a2 N2.length c2,.int .i64 m])
       rw[KA.out,KR.out]
      ·show (Nn.map AcI.d,N2.map RsI.d,m)=_
       rw[NA.out,NR.out]
      ·show Ow2 acY (fun g=>w.heap.size≤g∧(wD a2 N2.length c2).ownBlock≠some g) (.slice a1 Nn.length c1) Nn _
       rw[KA.out,KR.out]
       exact Ow2.mono o_a fun g _ hg=>⟨hg.1,fun e=>hg.2 (wF _ (kW e))⟩
      ·show Ow2 rsY _ (.slice a2 N2.length c2) N2 _
       rw[KR.out]
       exact Ow2.mono o_r fun g _ hg=>hg.1

def co0:Co:=([],[],0)
section
variable {α β:Type} {f:α→β} {nm:β→List UInt8}
theorem oM (L:List α) (t:List UInt8):poG nm (L.map f) t=poG (fun x=>nm (f x)) L t:=by
 unfold poG;rw[List.takeWhile_map,wE]
 rfl
theorem sZ (L:List α) (t:List UInt8):thO nm (L.map f) t=thO (fun x=>nm (f x)) L t:=by
 unfold thO;rw[oM,List.getElem?_map]
 cases L[poG (fun x=>nm (f x)) L t]? <;> rfl
theorem sC (L:List α) (x:α):(puO (fun x=>nm (f x)) L x).map f=puO nm (L.map f) (f x):=by
 unfold puO;rw[sZ,oM]
 cases thO (fun x=>nm (f x)) L (nm (f x)) with
 | true=>simp only[if_true];rw[List.map_set]
 | false=>simp only[Bool.false_eq_true,if_false];rw[List.map_append,List.map_cons,List.map_take,List.map_drop]
theorem im {nm:α→List UInt8} {L:List α} {x y:α} (h:y∈puO nm L x):y∈L∨y=x:=by
 unfold puO at h
 split at h
 ·exact List.mem_or_eq_of_mem_set h
 ·rcases ww.1 h with h | h
  ·exact .inl (List.mem_of_mem_take h)
  ·rcases wG.1 h with h | h
   ·exact .inr h
   ·exact .inl (List.mem_of_mem_drop h)
theorem oE {nm:α→List UInt8} {L:List α} {x:α}:(puO nm L x).length≤L.length+1:=by
 unfold puO
 split
 ·rw[List.length_set];omega
 ·rw[List.length_append,List.length_cons,List.length_take,List.length_drop];omega
end
def rH (w:World) (o:Co×Int) (e:Ending) (w':World):Prop:=∃c:CoI,e=.returned (.tuple #[c.v,.int .i64 o.2])∧c.d=o.1∧c.own (fun g=>w.heap.size≤g) w'∧Bl w w'
section
variable {α:Type} {Y:Ly α} {w0 w w':World} {bs:Bs} {u v:Value} {M:List α} {B:Nat}
theorem eV {S:Nat→Prop} {x:α} (h:Y.own S x w) (hk:∀k,k<w.heap.size→S k→w'.heap[k]?=w.heap[k]?):Y.own S x w':=
 Y.ownMono _ _ _ _ (Y.ownKeep (fun g=>g<w.heap.size∧S g) x w w' (Y.ownMono _ _ _ _ h fun _ hl hg=>⟨hl,hg⟩) fun k hk'=>hk k hk'.1 hk'.2) fun _ _ hg=>hg.2
def OwU (Y:Ly α) (B:Nat) (u v:Value) (M:List α) (w:World):Prop:=Ow2 Y (fun g=>B≤g∧u.ownBlock≠some g) v M w
abbrev vT:Value:=.slice none 0 0
theorem OwU.ret (h:OwU Y B u v M w) (hb:Bl w w'):OwU Y B u v M w':=Ow2.ret h hb
theorem OwU.sets (h:OwU Y B u v M w) {A o:Nat} {vs:List Value} (hA:A<B) (e':w.setCells A o vs=w'):OwU Y B u v M w':=by
 subst e'
 exact Ow2.keep h fun g hg=>cG vs w A o g fun e=>by have:=hg.1;omega
theorem OwU.own (h:OwU Y B u v M w):OwL Y (fun g=>B≤g) v M w:=OwL.mono (Ow2.own h) fun _ _ hg=>hg.1
theorem OwU.isL (h:OwU Y B u v M w):IsL Y v M w:=(Ow2.own h).isL
theorem OwU.elem (h:OwU Y B u v M w) {x:α} (hx:x∈M):Y.own (fun g=>B≤g∧v.ownBlock≠some g) x w:=Y.ownMono _ _ _ _ (h.2 x hx) fun _ _ hg=>⟨hg.1.1,hg.2⟩
theorem Sx.grownB {r:Option Nat} (h:Sx w0 bs w) (hg:w.grownBy w' r) (hr:∀g,r=Option.some g→B≤g) (hB:∀a∈bs.map Prod.fst,a<B) (h0:w0.heap.size≤B):Sx w0 bs w':=
 h.grown hg fun g e=>⟨Nat.le_trans h0 (hr g e),fun hm=>by have:=hB g hm;have:=hr g e;omega⟩
theorem cV {S:Nat→Prop} {xs:List Value} {n:Nat} (h:w.ownsRow B Y.e Y.n v n xs) (hn:n=M.length) (hx:xs=Y.fl M) (hS:∀g,B≤g→S g) (he:∀x∈M,Y.own S x w):OwL Y S v M w:=by
 subst hn;subst hx;exact⟨⟨h.mono (wy _),fun g hg=>hS g (h.lt g hg).1⟩,he⟩
def OwE (Y:Ly α) (B:Nat) (x:α) (w:World):Prop:=Y.own (fun g=>B≤g) x w
theorem OwE.ret {x:α} (h:OwE Y B x w) (hb:Bl w w'):OwE Y B x w':=Y.ownRet _ _ _ _ h hb
def OwV (Y:Ly α) (B:Nat) (v:Value) (M:List α) (w:World):Prop:=OwL Y (fun g=>B≤g) v M w
theorem OwV.ret (h:OwV Y B v M w) (hb:Bl w w'):OwV Y B v M w':=OwL.ret h hb
theorem OwV.sets (h:OwV Y B v M w) {A o:Nat} {vs:List Value} (hA:A<B) (e':w.setCells A o vs=w'):OwV Y B v M w':=OwL.far h (by omega) e'
end
end Go.Proofs.YtjgeiieiinmdnaaGreatDoor
