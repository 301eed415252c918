/- DcT, DcL, DcR, DcW, DcX: put together by mergetpl.py. -/
import Derived.Test.YtjgeiieiinmdnaaGreatDoorLg
import Derived.Test.YtjgeiieiinmdnaaGreatDoorLh
import Derived.Test.YtjgeiieiinmdnaaGreatDoorLb
import Derived.Test.YtjgeiieiinmdnaaGreatDoorLd
import Derived.Test.YtjgeiieiinmdnaaGreatDoorKp
open Go.Proofs.Tryz
open Go.RowKit.Below renaming drew→wE
open Go.Value.slice renaming injEq→wH
open Go.World renaming setCells→wt,ownsRow_nil→wM,ownsRow→wQ
open List renaming length_append→wq,mem_of_getElem?→wu,getElem?_toArray→wv,getElem?_cons_succ→ww,getElem?_cons_zero→wy,length_map→wA,mem_singleton→wB,getElem?_eq_getElem→wF,getElem_mem→wG,take_of_length_le→wI,mem_append→wL,nil_append→wO
open Nat renaming le_of_ble_eq_true→ws,zero_le→wC,le_trans→wD,le_refl→wK,zero_add→wN,le_succ→wP
open Option.some renaming injEq→wz
namespace Go.Proofs.YtjgeiieiinmdnaaGreatDoor
set_option maxHeartbeats 8000000
set_option maxRecDepth 100000
open Go.RowKit Go.Lib

theorem bF {w:World} {B C n m size size':Nat} {e e':TypeId} {u v:Value} {xs ys:List Value} (h1:w.ownsRow B e size u n xs) (h2:w.ownsRow C e' size' v m ys) (he:e≠e'):u.ownBlock=none∨u.ownBlock≠v.ownBlock:=by
 cases hu:u.ownBlock with
 | none=>exact .inl rfl
 | some g=>
  refine .inr fun hv=>?_
  rcases h1.2 with ⟨rfl,_⟩ | ⟨g1,cap1,cur1,rfl,_⟩
  ·cases hu
  ·cases hu
   exact gp h1 h2 he hv.symm
def RwU (w0:World) (v:Value) (Nn:List NdI) (w:World):Prop:=w.ownsRow w0.heap.size 114 6 v Nn.length (ndY.fl Nn)∧∀p∈Nn,w.ownsRow w0.heap.size 160 3 (ndV p) (ndA p).length (atY.fl (ndA p))
theorem RwU.ret {w0 w w':World} {v:Value} {Nn:List NdI} (h:RwU w0 v Nn w) (hb:Bl w w'):RwU w0 v Nn w':=⟨aI h.1 hb,fun p hp=>aI (h.2 p hp) hb⟩
theorem RwU.snoc {w0 w w':World} {v v':Value} {Nn:List NdI} {p:NdI} (h:RwU w0 v Nn w) (hg:w.grownBy w' v.ownBlock) (hr:w'.ownsRow w0.heap.size 114 6 v' (Nn.length+1) (ndY.fl Nn++ndY.cs p)) (hp:w.ownsRow w0.heap.size 160 3 (ndV p) (ndA p).length (atY.fl (ndA p))):RwU w0 v' (Nn++[p]) w':=by
 refine⟨?_,fun q hq=>?_⟩
 ·rw[wq,show ndY.fl (Nn++[p])=ndY.fl Nn++ndY.cs p by simp[Ly.fl]]
  exact hr
 ·have hq':w.ownsRow w0.heap.size 160 3 (ndV q) (ndA q).length (atY.fl (ndA q)):=by
   rcases wL.1 hq with hq | hq
   ·exact h.2 q hq
   ·rw[wB.1 hq];exact hp
  exact hq'.kept hg (bF hq' h.1 (by decide))
theorem RwU.own {w0 w:World} {v:Value} {Nn:List NdI} (h:RwU w0 v Nn w):OwL ndY (fun g=>w0.heap.size≤g) v Nn w:=
 cV h.1 rfl rfl (fun _ hg=>hg) fun p hp=>cV (h.2 p hp) rfl rfl (fun _ hg=>hg) fun _ _=>trivial
theorem pZ (T:TrI) (w:World) (h:IsL ndY (trV T) T.1 w) (hz:T.1.length≤100000) (ha:∀x∈T.1,(ndA x).length≤100000):Calls prog 162 #[trV T] w (TwT w (trD T)):=by
 obtain⟨M,⟨a,cap⟩⟩:=T;have h:IsL ndY (.slice a M.length cap) M w:=h;have hz:M.length≤100000:=hz;have ha:∀x∈M,(ndA x).length≤100000:=ha
 show Calls prog 162 #[.slice a M.length cap] w (TwT w (M.map Prod.fst))
 obtain⟨L,hL⟩:=e_ M.length;rw[hL] at h hz ⊢;obtain⟨i0,hi,hz0,hz1,hz2⟩:=info_parts lJ;obtain⟨j0,hj,hy0,hy1,hy2⟩:=info_parts lU;have HV:=h_ h;have HL:=h_ hL;have HA:=h_ ha;clear h hL ha;go_enter func162,ntmps162;go_wp2_with fail;go_loopw [3,4] (fun lv i wx=>∃Nn:List NdI,i=.int .i64 Nn.length∧Nn.length≤L∧Nn.map Prod.fst=(M.map Prod.fst).take Nn.length∧RwU w lv Nn wx∧Bl w wx) (fun _ i _=>L-(intOf i).toNat)
 case atStart=>exact⟨[],rfl,wC _,rfl,⟨wM _ _ _ _,fun p hp=>by cases hp⟩,bQ _⟩
 case round=>
  obtain⟨Nn,rfl,hk,hnm,hrw,hbw⟩:=hrel;obtain⟨k,hnn⟩:=e_ Nn.length;rw[hnn] at hk hnm ⊢;have hsz:=hbw.size
  by_cases hlt:k<L
  ·have wl : (k : Int) < (L : Int) := by omega
   have hkM:k<M.length:=(by rw[HL.out];exact hlt);obtain⟨p,hp⟩:=e_ (M[k]);have hkp:M[k]?=some p:=(by rw[wF hkM,hp]);have hpm:p∈M:=(by rw[←hp];exact wG hkM);have hgr:IsL atY (ndV p) (ndA p) w:=HV.out.2.2 p hpm;have hgz:=HA.out p hpm
   have hnx:∀p':NdI,p'.1=p.1→(Nn++[p']).map Prod.fst=(M.map Prod.fst).take (k+1):=fun p' e=>cj hnm hkp e
   obtain⟨b,off,cp,hf,-,hc⟩:=HV.out.cells hkp;rw[HL.out] at hf;simp only[wH,true_and] at hf;obtain⟨rfl,rfl⟩:=hf;obtain⟨⟨nk,nn,ns,na,nt,nl⟩,ga,gc⟩:=p;obtain⟨al,hal⟩:=e_ na.length;obtain⟨n1,hn1⟩:=e_ (ByteArray.mk nn.toArray);obtain⟨n2,hn2⟩:=e_ (ByteArray.mk ns.toArray);obtain⟨n3,hn3⟩:=e_ (ByteArray.mk nt.toArray);have hgz:na.length≤100000:=hgz;have hgr:cO 3 (.slice ga na.length gc) na.length (atY.fl na) w:=hgr.1;rw[hal] at hgr hgz;have HGR:=h_ hgr;have HNX:=h_ hnx;have NN:=h_ hnn;have HAL:=h_ hal;have HBW:=h_ hbw
   have HCS:Hid (∀(g':Option Addr) (c':Nat),ndY.cs ((nk,nn,ns,na,nt,nl),g',c')=[.int .u8 nk,.string n1,.string n2,.slice g' al c',.string n3,.int .i64 nl]):=h_ (fun g' c'=>by rw[←hal,←hn1,←hn2,←hn3];rfl)
   obtain⟨la,lc,rfl,-⟩:=aq hrw.1;have hrw2:RwU w (.slice la k lc) Nn wr:=(by rw[←NN.out];exact hrw);have HRW:=h_ hrw2;rw[NN.out];clear hrw2;obtain⟨i0a,i1a,i2a,i3a,i4a,i5a⟩:wr.cell? ⟨b,off+k*6,none⟩=some (.int .u8 nk)∧wr.cell? ⟨b,off+k*6+1,none⟩=some (.string n1)∧wr.cell? ⟨b,off+k*6+2,none⟩=some (.string n2)∧wr.cell? ⟨b,off+k*6+3,none⟩=some (.slice ga al gc)∧wr.cell? ⟨b,off+k*6+4,none⟩=some (.string n3)∧wr.cell? ⟨b,off+k*6+5,none⟩=some (.int .i64 nl):=(by rw[←hal,←hn1,←hn2,←hn3];exact⟨hc wr hbw 0 _ rfl,hc wr hbw 1 _ rfl,hc wr hbw 2 _ rfl,hc wr hbw 3 _ rfl,hc wr hbw 4 _ rfl,hc wr hbw 5 _ rfl⟩);clear hrw hbw hp hkp hpm hgr hnx hnn hal hn1 hn2 hn3 hc hnm hkM;have bs:=Sx.start wr;have q:=bs.q;have d0:=((bs.lit (wr.heap.size) rfl [.int .u8 nk,.string n1,.string n2,.slice ga al gc,.string n3,.int .i64 nl] 114).lit (wr.heap.size+1) (by simp) [] 160);have c3:=d0.at 0 3;go_wp2_with (at_builtin;refine Hid.out ?_);clear d0 c3 i0a i1a i2a i3a i4a i5a;obtain⟨w21,hw21,y21,al,bs⟩:=bs.alloc (wr.heap.size) rfl [.int .u8 nk,.string n1,.string n2,.slice ga al gc,.string n3,.int .i64 nl] 114;clear al;replace q:=bs.q;obtain⟨w22,hw22,y22,al,bs⟩:=bs.alloc (wr.heap.size+1) (by omega) [] 160;clear al;replace q:=bs.q;rw[hw21];rw[hw22];replace bs:=bs.some 1;replace q:=bs.q
   have hE:w22.ownsRow (wr.heap.size+1) 160 3 (.slice (some ⟨wr.heap.size+1,0,none⟩) 0 0) 0 []:=by
    rw[←hw22];have h:=bf (size:=3) (e:=160) w21 (B:=wr.heap.size+1) (by omega);rw[show w21.heap.size=wr.heap.size+1 by omega] at h;exact h
   refine ai rfl _ _ _ rfl (wr.heap.size+1) 160 j0 _ 3 48 underlying112 hj hy0 hy1 hy2 rfl (by omega) (.slice (some ⟨wr.heap.size+1,0,none⟩) 0 0) 0 [] (by rfl) hE (.slice ga al gc) (by rfl) al (atY.fl _) (HGR.out.ret (HBW.out.trans (q.mono hsz))) (by intro u hu;obtain⟨y,hy,hu⟩:=List.mem_flatMap.1 hu;exact atY.one y u hu) (by omega) (by omega) (by omega) ?_;intro v' w' hown' hgrow;rw[wN,wO] at hown';replace bs:=bs.grown hgrow (fun g hg=>by cases hg;exact⟨wP _,by simp⟩);have o_a:OwX wr [wr.heap.size] 160 3 v' al (atY.fl na) w':=⟨hown'.mono (wP _),fun g hg hm=>by have:=(hown'.lt g hg).1;have:=wB.1 hm;omega⟩;replace q:=bs.q;obtain⟨a',c',rfl,-⟩:=aq hown';clear hown' hgrow hE;have c_n3:=bs.at 0 3;have f_n3:=bs.fz 0 3;go_upto_region 7 with fail;clear c_n3 f_n3;obtain⟨w23,hw23,y23,bs⟩:=bs.sets 0 3 [.slice a' al c'] rfl (ws rfl);replace o_a:=o_a.sets 0 rfl hw23;replace q:=bs.q;simp only[wt] at hw23;rw[hw23];have c_x0:=bs.b6 0;go_wp2_with (at_builtin;refine Hid.out ?_);clear c_x0;obtain⟨w24,hw24,y24,al,bs⟩:=bs.alloc (w'.heap.size) (by omega) [.int .u8 nk,.string n1,.string n2,.slice a' al c',.string n3,.int .i64 nl] 114;replace o_a:=o_a.alloc (w'.heap.size) (by omega) al;clear al;replace q:=bs.q;rw[hw24];have o3:=(HRW.out.ret q).1;rw[NN.out] at o3;refine ai rfl _ _ _ rfl w.heap.size 114 i0 _ 6 88 underlying108 hi hz0 hz1 hz2 rfl (by omega) _ k (ndY.fl Nn) rfl o3 _ (by rfl) 1 [.int .u8 nk,.string n1,.string n2,.slice a' al c',.string n3,.int .i64 nl] ((bs.box 1 rfl).row rfl) (by rw[←HCS.out a' c'];exact ndY.one _) (by omega) (by omega) (by have:=q.size;omega) ?_;intro v4 w4 hown4 hgr4;have RW:=h_ (RwU.snoc (p:=((nk,nn,ns,na,nt,nl),a',c')) (HRW.out.ret q) hgr4 (by rw[NN.out,HCS.out];exact hown4) (by show wQ _ _ _ _ (.slice a' na.length c') na.length _;rw[HAL.out];exact o_a.1.mono hsz))
   have B4:=h_ ((HBW.out.trans (q.mono hsz)).grown hgr4 (by have:=q.size;omega) (fun g hg=>(o3.lt g hg).1));clear o3 o_a q bs hgr4 hown4;go_wp2_with fail;go_roundw
   case rel=>exact⟨Nn++[((nk,nn,ns,na,nt,nl),a',c')],by rw[wq,NN.out];go_num,by rw[wq,NN.out];exact hlt,by rw[wq,NN.out];exact HNX.out _ rfl,RW.out,B4.out⟩
   case measure=>simp[intOf];omega
  ·have wl : ¬ (k : Int) < (L : Int) := by omega
   have hnm2:Nn.map Prod.fst=M.map Prod.fst:=(by rw[hnm,wI (by rw[wA,HL.out];omega)]);obtain⟨a,c,rfl,-⟩:=aq hrw.1;have HRW:=h_ hrw;have HNM:=h_ hnm2;have HBW:=h_ hbw;have NN:=h_ hnn;clear hrw hnm2 hbw hnm hnn;go_wp2_with fail;go_ret;exact⟨(Nn,(a,c)),rfl,HNM.out,RwU.own HRW.out,HBW.out⟩

theorem gq {w:World} {S:Nat→Prop} {B n size:Nat} {e:TypeId} {v:Value} {xs:List Value} {T:TrI} (h:trY.own S T w) (h1:w.ownsRow B e size v n xs) (he:114≠e) (he2:160≠e):trY.own (fun g=>S g∧v.ownBlock≠some g) T w:=by
 have h:OwL ndY S (trV T) T.1 w:=h;refine(⟨⟨h.1.1,fun g hg=>⟨h.1.2 g hg,?_⟩⟩,fun p hp=>?_⟩:OwL ndY (fun g=>S g∧v.ownBlock≠some g) (trV T) T.1 w)
 ·rcases bF h.1.1 h1 he with h2 | h2
  ·rw[h2] at hg;cases hg
  ·rw[hg] at h2;exact fun e=>h2 e.symm
 ·have hp':OwL atY S (ndV p) (ndA p) w:=h.2 p hp
  refine(⟨⟨hp'.1.1,fun g hg=>⟨hp'.1.2 g hg,?_⟩⟩,fun _ _=>trivial⟩:OwL atY (fun g=>S g∧v.ownBlock≠some g) (ndV p) (ndA p) w)
  rcases bF hp'.1.1 h1 he2 with h2 | h2
  ·rw[h2] at hg;cases hg
  ·rw[hg] at h2;exact fun e=>h2 e.symm
def RwT (w0:World) (v:Value) (Nn:List TrI) (w:World):Prop:=w.ownsRow w0.heap.size 108 1 v Nn.length (trY.fl Nn)∧∀p∈Nn,trY.own (fun g=>w0.heap.size≤g) p w
theorem RwT.ret {w0 w w':World} {v:Value} {Nn:List TrI} (h:RwT w0 v Nn w) (hb:Bl w w'):RwT w0 v Nn w':=⟨aI h.1 hb,fun p hp=>trY.ownRet _ _ _ _ (h.2 p hp) hb⟩
theorem RwT.snoc {w0 w w':World} {v v':Value} {Nn:List TrI} {p:TrI} (h:RwT w0 v Nn w) (hg:w.grownBy w' v.ownBlock) (hr:w'.ownsRow w0.heap.size 108 1 v' (Nn.length+1) (trY.fl Nn++trY.cs p)) (hp:trY.own (fun g=>w0.heap.size≤g) p w):RwT w0 v' (Nn++[p]) w':=by
 refine⟨?_,fun q hq=>?_⟩
 ·rw[wq,show trY.fl (Nn++[p])=trY.fl Nn++trY.cs p by simp[Ly.fl]]
  exact hr
 ·have hq':trY.own (fun g=>w0.heap.size≤g) q w:=by
   rcases wL.1 hq with hq | hq
   ·exact h.2 q hq
   ·rw[wB.1 hq];exact hp
  exact trY.ownMono _ _ _ _ (eV (gq hq' h.1 (by decide) (by decide)) fun k hk hS=>hg.block k hk fun e=>hS.2 e.symm) fun _ _ hg=>hg.1
theorem RwT.own {w0 w:World} {v:Value} {Nn:List TrI} (h:RwT w0 v Nn w):OwL trY (fun g=>w0.heap.size≤g) v Nn w:=
 cV h.1 rfl rfl (fun _ hg=>hg) h.2
def TwL (w:World) (l:List (List Nd)) (e:Ending) (w':World):Prop:=∃(ld:List TrI) (a:Option Addr) (c:Nat),e=.returned (.slice a ld.length c)∧ld.map trD=l∧OwL trY (fun g=>w.heap.size≤g) (.slice a ld.length c) ld w'∧Bl w w'
theorem oV:(prog.info? 108).map (fun i=>(i.zero,i.size,i.bytes))=some (some (.slice none 0 0),1,24):=by kernel_rfl
theorem jU (M:List TrI) (a:Option Addr) (cap:Nat) (w:World) (h:IsL trY (.slice a M.length cap) M w) (hz:M.length≤100000) (ha:∀t∈M,t.1.length≤100000∧∀x∈t.1,(ndA x).length≤100000):Calls prog 103 #[.slice a M.length cap] w (TwL w (M.map trD)):=by
 obtain⟨L,hL⟩:=e_ M.length;rw[hL] at h hz ⊢;obtain⟨i0,hi,hz0,hz1,hz2⟩:=info_parts oV;have HV:=h_ h;have HL:=h_ hL
 have CT:=h_ fun (p:TrI) (hp:p∈M) (W:World) (hb:Bl w W)=>pZ p W (IsL.ret (h.2.2 p hp) hb) (ha p hp).1 (ha p hp).2
 clear h hL ha;go_enter func103,ntmps103;go_wp2_with fail;go_loopw [3,4] (fun lv i wx=>∃Nn:List TrI,i=.int .i64 Nn.length∧Nn.length≤L∧Nn.map trD=(M.map trD).take Nn.length∧RwT w lv Nn wx∧Bl w wx) (fun _ i _=>L-(intOf i).toNat)
 case atStart=>exact⟨[],rfl,wC _,rfl,⟨wM _ _ _ _,fun p hp=>by cases hp⟩,bQ _⟩
 case round=>
  obtain⟨Nn,rfl,hk,hnm,hrw,hbw⟩:=hrel;obtain⟨k,hnn⟩:=e_ Nn.length;rw[hnn] at hk hnm ⊢;have hsz:=hbw.size
  by_cases hlt:k<L
  ·have wl : (k : Int) < (L : Int) := by omega
   have hkM:k<M.length:=(by rw[HL.out];exact hlt);obtain⟨p,hp⟩:=e_ (M[k]);have hkp:M[k]?=some p:=(by rw[wF hkM,hp]);have hpm:p∈M:=(by rw[←hp];exact wG hkM)
   have hnx:∀p':TrI,trD p'=trD p→(Nn++[p']).map trD=(M.map trD).take (k+1):=fun p' e=>cj hnm hkp e
   have CT1:=fun (W:World) (hb:Bl wr W)=>CT.out p hpm W (hbw.trans (hb.mono hsz))
   obtain⟨b,off,cp,hf,-,hc⟩:=HV.out.cells hkp;rw[HL.out] at hf;simp only[wH,true_and] at hf;obtain⟨rfl,rfl⟩:=hf;obtain⟨tl,ta,tc⟩:=p;obtain⟨D,hD⟩:=e_ (trD (tl,ta,tc));rw[hD] at hnx CT1;obtain⟨al,hal⟩:=e_ tl.length;have CT2:∀W,Bl wr W→Calls prog 162 #[.slice ta al tc] W (TwT W D):=(by rw[←hal];exact CT1)
   have i0a:wr.cell? ⟨b,off+k,none⟩=some (.slice ta al tc):=by
    have h:=hc wr hbw 0 _ rfl;rw[←hal]
    rwa [show off+k*trY.n+0=off+k from (by show off+k*1+0=off+k;omega)] at h
   have HNX:=h_ hnx;have NN:=h_ hnn;have CT2:=h_ CT2;have HBW:=h_ hbw;obtain⟨la,lc,rfl,-⟩:=aq hrw.1;have o_r:RwT w (.slice la k lc) Nn wr:=(by rw[←NN.out];exact hrw);rw[NN.out];clear hrw hbw hp hkp hpm hnx hnn hal hc hnm hkM hD CT1;have bs:=Sx.start wr;have q:=bs.q;go_wp2_with fail;refine(CT2.out wr q).mono ?_;rintro e w21 ⟨T',rfl,hd,ho,hb⟩;replace o_r:=o_r.ret hb;replace bs:=bs.ret hb;replace q:=bs.q;clear hb
   have o_t:OwE trY w.heap.size T' w21:=trY.ownMono (fun g=>wr.heap.size≤g) _ _ _ (show trY.own _ T' w21 from ho) fun g _ hg=>wD hsz hg
   clear ho;obtain⟨tl',ta',tc'⟩:=T';obtain⟨bl,hbl⟩:=e_ tl'.length;have e9:trV (tl',ta',tc')=.slice ta' bl tc':=(by show Value.slice ta' tl'.length tc'=_;rw[hbl]);rw[e9];clear e9;have HBL:=h_ hbl;clear hbl;go_wp2_with (at_builtin;refine Hid.out ?_);obtain⟨w22,hw22,y22,al,bs⟩:=bs.alloc (w21.heap.size) rfl [(.slice ta' bl tc')] 108;replace o_r:=o_r.ret al;replace o_t:=o_t.ret al;clear al;replace q:=bs.q;rw[hw22];have o3:=o_r.1;rw[NN.out] at o3;refine ai rfl _ _ _ rfl w.heap.size 108 i0 _ 1 24 underlying36 hi hz0 hz1 hz2 rfl (by omega) _ k (trY.fl Nn) rfl o3 _ (by rfl) 1 [.slice ta' bl tc'] ((bs.box 0 rfl).row rfl) (by intro u hu;cases wB.1 hu;rfl) (by omega) (by omega) (by have:=q.size;omega) ?_;intro v4 w4 hown4 hgr4;have RW:=h_ (RwT.snoc (p:=(tl',ta',tc')) o_r hgr4 (by rw[NN.out];show wQ _ _ _ _ _ _ (trY.fl Nn++[.slice ta' tl'.length tc']);rw[HBL.out];exact hown4) o_t);have B4:=h_ ((HBW.out.trans (q.mono hsz)).grown hgr4 (by have:=q.size;omega) (fun g hg=>(o3.lt g hg).1));have HD:=h_ hd;clear o3 o_r o_t q bs hgr4 hown4 hd;go_wp2_with fail;go_roundw
   case rel=>exact⟨Nn++[(tl',ta',tc')],by rw[wq,NN.out];go_num,by rw[wq,NN.out];exact hlt,by rw[wq,NN.out];exact HNX.out _ HD.out,RW.out,B4.out⟩
   case measure=>simp[intOf];omega
  ·have wl : ¬ (k : Int) < (L : Int) := by omega
   have hnm2:Nn.map trD=M.map trD:=(by rw[hnm,wI (by rw[wA,HL.out];omega)]);obtain⟨a,c,rfl,-⟩:=aq hrw.1;have HRW:=h_ hrw;have HNM:=h_ hnm2;have HBW:=h_ hbw;clear hrw hnm2 hbw hnm hnn;go_wp2_with fail;go_ret;exact⟨Nn,a,c,rfl,HNM.out,RwT.own HRW.out,HBW.out⟩

theorem tI {fn:Func} {tmps:Array Value} {W:World} {R p:Nat} {v0 v1 v2 v3 v4 v5:Value} (h:fn.results=#[.cell p 38]) (h2:tmps.getD p undef=.pointer (some ⟨R,0,none⟩)) (k:Bx R [v0,v1,v2,v3,v4,v5] W):
  (results fn tmps).run prog W=.ok (.agg #[v0,v1,v2,v3,v4,v5]) W:=by
 have c0:=k.at 0 rfl;have c1:=k.at 1 rfl;have c2:=k.at 2 rfl;have c3:=k.at 3 rfl;have c4:=k.at 4 rfl;have c5:=k.at 5 rfl;rw[aP h,h2]
 simp[go_sem,Result.andThen,c0,c1,c2,c3,c4,c5]
theorem kZ (r:RsI) (w:World) (h:rsY.sub r w) (hf:kz r):Calls prog 49 #[r.v] w (TwR w r.d):=by
 obtain⟨xj,on1,pr1,xl,⟨la1,lb1⟩,ask1,xs,⟨sa1,sb1⟩⟩:=r;have hL:IsL trY (.slice la1 xl.length lb1) xl w:=h.1;have hS:aB (.slice sa1 xs.length sb1) xs w:=h.2
 have CL:=h_ fun (W:World) (hb:Bl w W)=>jU xl la1 lb1 W (hL.ret hb) hf.1 hf.2.2
 have hz:xs.length≤100000:=hf.2.1;have hrow:=cO.of_vals hS.1;rw[aj] at hrow
 show Calls _ _ #[.agg #[.string ⟨xj.toArray⟩,.bool on1,.int .i64 pr1,.slice la1 xl.length lb1,.bool ask1,.slice sa1 xs.length sb1]] w _
 obtain⟨ll,hll⟩:=e_ xl.length;obtain⟨sl,hsl⟩:=e_ xs.length;obtain⟨jb,hjb⟩:=e_ (ByteArray.mk xj.toArray);obtain⟨D,hD⟩:=e_ (xl.map trD);rw[hll,hD] at CL;rw[hsl] at hrow hz;rw[hll,hsl,hjb];obtain⟨j0,hj,hy0,hy1,hy2⟩:=info_parts be;have HR:=h_ hrow;have HSL:=h_ hsl;have HJB:=h_ hjb;have HD:=h_ hD;clear h hf hL hS hrow hll hsl hjb hD;obtain⟨W0,hW,y0,bs⟩:=Sx.start2 w [.string jb,.bool on1,.int .i64 pr1,.slice la1 ll lb1,.bool ask1,.slice sa1 sl sb1] 38 [.string ⟨#[]⟩,.bool false,.int .i64 0,.slice none 0 0,.bool false,.slice none 0 0] 38;have HW:=h_ hW;clear hW;have q:=bs.q;go_enter func49,ntmps49;have c_r0:=bs.b6 0;go_wp2_with fail;rw[HW.out];refine(CL.out W0 q).mono ?_;rintro e w1 ⟨ld',a',c',rfl,hd,ho,hb⟩;clear c_r0;have o_l:=OwZ.mk' bs ho;replace bs:=bs.ret hb;replace q:=bs.q;clear hb;obtain⟨l',hl'⟩:=e_ ld'.length;rw[hl'] at o_l ⊢;have HL':=h_ hl';have HD':=h_ hd;clear hl' hd;have c_n3:=bs.at 0 3;have f_n3:=bs.fz 0 3;go_upto_region 2 with fail;clear c_n3 f_n3;obtain⟨w2,hw2,y2,bs⟩:=bs.sets 0 3 [.slice a' l' c'] rfl (ws rfl);replace o_l:=o_l.sets 0 rfl hw2;replace q:=bs.q;simp only[wt] at hw2;rw[hw2];have d0:=bs.lit (w2.heap.size) rfl [] 9;have c5:=d0.at 0 5;go_wp2_with (at_builtin;refine Hid.out ?_);clear d0 c5;refine ai rfl _ _ _ rfl w2.heap.size 9 j0 _ 1 16 underlying26 hj hy0 hy1 hy2 rfl (by omega) (.slice (some ⟨w1.heap.size,0,none⟩) 0 0) 0 [] (by rfl) (by have h:=bf (size:=1) (e:=9) w2 (wK _);rw[y2] at h ⊢;exact h) (.slice sa1 sl sb1) (by rfl) sl (aY xs) (HR.out.ret (q.alloc q.size (.cells #[] 9))) (iL _) (by omega) (by omega) (by simp) ?_;intro v' w' hown' hgrow;rw[wN,wO] at hown';have hb:Bl w2 w':=((bR w2).alloc (wK _) (.cells #[] 9)).grown hgrow (by simp) (fun k hk=>by cases hk;exact Nat.le_of_eq y2)
 obtain⟨a2,c2,rfl,-⟩:=aq hown';have o_s:=OwX.mk' bs hown';clear hown' hgrow;replace o_l:=o_l.ret hb;replace bs:=bs.ret hb;replace q:=bs.q;clear hb;have c_n5:=bs.at 0 5;have f_n5:=bs.fz 0 5;go_upto_region 3 with fail;clear c_n5 f_n5;obtain⟨w3,hw3,y3,bs⟩:=bs.sets 0 5 [.slice a2 sl c2] rfl (ws rfl);replace o_l:=o_l.sets 0 rfl hw3;replace o_s:=o_s.sets 0 rfl hw3;replace q:=bs.q;simp only[wt] at hw3;rw[hw3];have c_r0:=bs.b6 0;have c_z0:=bs.b6 1;have f_z0:=bs.g6 1;go_wp2_with fail;clear c_r0 c_z0 f_z0;obtain⟨w4,hw4,y4,bs⟩:=bs.sets 1 0 [.string jb,.bool on1,.int .i64 pr1,.slice a' l' c',.bool ask1,.slice a2 sl c2] rfl (ws rfl);replace o_l:=o_l.sets 1 rfl hw4;replace o_s:=o_s.sets 1 rfl hw4;replace q:=bs.q;simp only[wt,Nat.reduceAdd] at hw4;rw[hw4];refine bodyPost_ret (tI rfl rfl (bs.box 1 rfl)) rfl ?_;refine⟨⟨xj,on1,pr1,ld',(a',c'),ask1,xs,(a2,c2)⟩,?_,?_,⟨?_,?_⟩,q⟩
 ·show _=Ending.returned (.agg #[.string ⟨xj.toArray⟩,.bool on1,.int .i64 pr1,.slice a' ld'.length c',.bool ask1,.slice a2 xs.length c2])
  rw[HJB.out,HL'.out,HSL.out]
 ·show (xj,on1,pr1,ld'.map trD,ask1,xs)=_
  rw[HD'.out,←HD.out]
 ·show OwL trY _ (.slice a' ld'.length c') ld' _
  rw[HL'.out]
  exact OwL.mono o_l fun _ _ hg=>hg.1
 ·show OwS _ 9 1 (.slice a2 xs.length c2) xs.length (aY xs) _
  rw[HSL.out];exact⟨o_s.1.mono (wC _),fun g hg=>(o_s.1.lt g hg).1⟩

theorem db {w:World} {S:Nat→Prop} {B n m size size':Nat} {e e':TypeId} {u v:Value} {xs ys:List Value} (h:OwS S e size u n xs w) (h1:w.ownsRow B e' size' v m ys) (he:e≠e'):OwS (fun g=>S g∧v.ownBlock≠some g) e size u n xs w:=⟨h.1,fun g hg=>⟨h.2 g hg,by
 rcases bF h.1 h1 he with h2 | h2
 ·rw[h2] at hg;cases hg
 ·rw[hg] at h2;exact fun e=>h2 e.symm⟩⟩
theorem eG {w:World} {S:Nat→Prop} {B m size':Nat} {e':TypeId} {v:Value} {ys:List Value} {r:RsI} (h:rsY.own S r w) (h1:w.ownsRow B e' size' v m ys) (h2:108≠e') (h3:114≠e') (h4:160≠e') (h5:9≠e'):rsY.own (fun g=>S g∧v.ownBlock≠some g) r w:=by
 have h:OwL trY S r.lv r.ld w∧OwG S r.sv r.st w:=h;exact(⟨⟨db h.1.1 h1 h2,fun T hT=>gq (h.1.2 T hT) h1 h3 h4⟩,db h.2 h1 h5⟩:OwL trY (fun g=>S g∧v.ownBlock≠some g) r.lv r.ld w∧OwG (fun g=>S g∧v.ownBlock≠some g) r.sv r.st w)
theorem ck {w:World} {S:Nat→Prop} {B m size':Nat} {e':TypeId} {v:Value} {ys:List Value} {a:AcI} (h:acY.own S a w) (h1:w.ownsRow B e' size' v m ys) (h2:99≠e') (h5:9≠e'):acY.own (fun g=>S g∧v.ownBlock≠some g) a w:=by
 have h:OwI S a.iv a.it w:=h;exact(⟨db h.1 h1 h2,fun p hp=>db (h.2 p hp) h1 h5⟩:OwI (fun g=>S g∧v.ownBlock≠some g) a.iv a.it w)
section
variable {α:Type} {Y:Ly α} {w w':World} {u v v':Value} {M:List α} {B:Nat} {p:α}
theorem OwV.snoc (ap:∀x:α,Y.own (fun g=>B≤g) x w→Y.own (fun g=>B≤g∧v.ownBlock≠some g) x w) (h:OwV Y B v M w) (hg:w.grownBy w' v.ownBlock) (hr:w'.ownsRow B Y.e Y.n v' (M.length+1) (Y.fl M++Y.cs p)) (hp:OwE Y B p w):OwV Y B v' (M++[p]) w':=by
 refine cV (n:=M.length+1) (xs:=Y.fl M++Y.cs p) hr (by rw[wq];rfl) (by simp[Ly.fl]) (fun _ hg=>hg) fun q hq=>?_
 have hq':Y.own (fun g=>B≤g) q w:=by
  rcases wL.1 hq with hq | hq
  ·exact h.2 q hq
  ·rw[wB.1 hq];exact hp
 exact Y.ownMono _ _ _ _ (eV (ap q hq') fun k hk hS=>hg.block k hk fun e=>hS.2 e.symm) fun _ _ hg=>hg.1
theorem OwV.other (ap:∀x:α,Y.own (fun g=>B≤g) x w→Y.own (fun g=>B≤g∧v.ownBlock≠some g) x w) (h:OwV Y B u M w) (hg:w.grownBy w' v.ownBlock) {C n size:Nat} {e:TypeId} {xs:List Value} (h1:w.ownsRow C e size v n xs) (he:Y.e≠e):OwV Y B u M w':=by
 refine cV (B:=B) (n:=M.length) (xs:=Y.fl M) ((OwS.owns h.1 fun _ hg=>hg).kept hg (bF h.1.1 h1 he)) rfl rfl (fun _ hg=>hg) fun q hq=>?_
 exact Y.ownMono _ _ _ _ (eV (ap q (h.2 q hq)) fun k hk hS=>hg.block k hk fun e=>hS.2 e.symm) fun _ _ hg=>hg.1
end
theorem OwV.rs2 {w:World} {v:Value} {M:List RsI} {B:Nat} (h:OwV rsY B v M w):Ow2 rsY (fun g=>B≤g) v M w:=⟨h.1,fun x hx=>eG (h.2 x hx) h.1.1 (by decide) (by decide) (by decide) (by decide)⟩
theorem tH {w:World} {c:CoI} {B:Nat} (hA:OwV acY B c.av c.A w) (hR:OwV rsY B c.rv c.R w):c.own2 (fun g=>B≤g) w:=by
 refine⟨?_,hR.rs2⟩;refine(⟨db hA.1 hR.1.1 (by decide),fun x hx=>?_⟩:Ow2 acY (fun g=>B≤g∧c.rv.ownBlock≠some g) c.av c.A w)
 exact acY.ownMono _ _ _ _ (ck (ck (hA.2 x hx) hR.1.1 (by decide) (by decide)) hA.1.1 (by decide) (by decide)) fun _ _ hg=>hg

theorem oK (x:AcI) (w:World) (h:acY.sub x w) (hs:cq x.it):Calls prog 48 #[.agg #[x.iv,.int .i64 x.ver]] w (fun e w'=>∃(M':List Im) (a2:Option Addr) (c2:Nat),e=.returned (.agg #[.slice a2 x.it.length c2,.int .i64 x.ver])∧M'.length=x.it.length∧M'.map Prod.fst=x.it.map Prod.fst∧acY.own (fun g=>w.heap.size≤g) ⟨x.j,M',(a2,c2),x.ver⟩ w'∧Bl w w'):=by
 refine(ql x.iv x.ver x.it w h hs.1 (fun p hp=>(hs.2 p hp).2.2.1)).mono ?_;rintro e w' ⟨a2,c2,rfl,M',hM,ho,hb⟩;rw[wA] at ho ⊢
 have hl:M'.length=x.it.length:=by rw[←wA (f:=Prod.fst),hM,wA]
 exact⟨M',a2,c2,rfl,hl,hM,(by show OwI _ (.slice a2 M'.length c2) M' w';rw[hl];exact OwI.of ho),hb⟩
theorem p5 (c:CoI) (w:World) (hs:c.sub w) (zA:c.A.length≤1000) (zR:c.R.length≤1000) (hac:∀a∈c.A,cq a.it) (hrs:∀r∈c.R,kz r):Calls prog 10 #[c.v] w (TwC w c.d):=by
 obtain⟨A,⟨a1,b1⟩,R,⟨r1,s1⟩,m1⟩:=c;have hA:IsL acY (.slice a1 A.length b1) A w:=hs.1;have hR:IsL rsY (.slice r1 R.length s1) R w:=hs.2;have zA:A.length≤1000:=zA;have zR:R.length≤1000:=zR
 have CA:=h_ fun (x:AcI) (hx:x∈A) (W:World) (hb:Bl w W)=>oK x W (acY.subRet _ _ _ (hA.2.2 x hx) hb) (hac x hx)
 have CR:=h_ fun (x:RsI) (hx:x∈R) (W:World) (hb:Bl w W)=>kZ x W (rsY.subRet _ _ _ (hR.2.2 x hx) hb) (hrs x hx)
 show Calls _ _ #[.agg #[.slice a1 A.length b1,.slice r1 R.length s1,.int .i64 m1]] w (TwC w (A.map AcI.d,R.map RsI.d,m1))
 obtain⟨LA1,hLA⟩:=e_ A.length;obtain⟨LR1,hLR⟩:=e_ R.length;rw[hLA] at hA zA ⊢;rw[hLR] at hR zR ⊢;obtain⟨i0',hi,hz0,hz1,hz2⟩:=info_parts dO;obtain⟨j0',hj,hy0,hy1,hy2⟩:=info_parts lF;have HA:=h_ hA;have HR:=h_ hR;have HLA:=h_ hLA;have HLR:=h_ hLR;clear hs hA hR hac hrs hLA hLR;obtain⟨W0,hW,y0,bs⟩:=Sx.start2 w [.slice a1 LA1 b1,.slice r1 LR1 s1,.int .i64 m1] 25 [.slice none 0 0,.slice none 0 0,.int .i64 0] 25;have HW:=h_ hW;clear hW;have q:=bs.q;go_enter func10,ntmps10;have c_c0:=bs.b3 0;have d0:=(bs.lit (w.heap.size+2) (by omega) [.slice none 0 0,.slice none 0 0,.int .i64 m1] 25);have c0_n00:=d0.b3 2;have c0_c0:=d0.b3 0;go_wp2_with fail;rw[HW.out];clear c_c0 d0 c0_n00 c0_c0;obtain⟨w1,hw1,y1,al,bs⟩:=bs.alloc (w.heap.size+2) (by omega) [.slice none 0 0,.slice none 0 0,.int .i64 m1] 25;clear al;replace q:=bs.q;rw[hw1];go_loopw [4] (fun i wx=>∃(Nn:List AcI) (v1:Option Addr) (c1:Nat),i=.int .i64 Nn.length∧Nn.length≤LA1∧Nn.map AcI.d=(A.map AcI.d).take Nn.length∧OwV acY (w.heap.size+3) (.slice v1 Nn.length c1) Nn wx∧Sx w [(w.heap.size,[.slice a1 LA1 b1,.slice r1 LR1 s1,.int .i64 m1]),(w.heap.size+1,[.slice none 0 0,.slice none 0 0,.int .i64 0]),(w.heap.size+2,[.slice v1 Nn.length c1,.slice none 0 0,.int .i64 m1])] wx) (fun i _=>LA1-(intOf i).toNat)
 case atStart=>exact⟨[],none,0,rfl,wC _,rfl,OwL.nil _ _ _,bs⟩
 case round=>
  clear bs q;obtain⟨Nn,v1,c1,rfl,hk,hnm,o_n,bs⟩:=hrel;obtain⟨k,hnn⟩:=e_ Nn.length;rw[hnn] at hk hnm o_n bs ⊢;have q:=bs.q
  by_cases hlt:k<LA1
  ·have wl : (k : Int) < (LA1 : Int) := by omega
   have hkM:k<A.length:=(by rw[HLA.out];exact hlt);obtain⟨x,hx⟩:=e_ (A[k]);have hkx:A[k]?=some x:=(by rw[wF hkM,hx]);have hxm:x∈A:=(by rw[←hx];exact wG hkM)
   have HNX:=h_ fun (p':AcI) (e:p'.d=x.d)=>cj (f:=AcI.d) (by rw[hnm]:Nn.map AcI.d=(A.map AcI.d).take k) hkx e
   have C1:=CA.out x hxm;obtain⟨b,off,cp,hf,-,hc⟩:=HA.out.cells hkx;rw[HLA.out] at hf;simp only[wH,true_and] at hf;obtain⟨rfl,rfl⟩:=hf;obtain⟨xj,xit,⟨xa,xc⟩,xver⟩:=x;obtain⟨xl,hxl⟩:=e_ xit.length;obtain⟨D,hD⟩:=e_ (xit.map Prod.fst);obtain⟨jb,hjb⟩:=e_ (ByteArray.mk xj.toArray);simp only[AcI.iv,hxl,hD] at C1;have C2:=C1;have HXL:=h_ hxl;have HDD:=h_ hD;have C2:=h_ C2;have HJB:=h_ hjb;have NN:=h_ hnn
   have HC0:Hid (∀W',Bl w W'→W'.cell? ⟨b,off+k*3,none⟩=some (.string jb)):=h_ (fun W' hb=>by(try rw[←hjb]);(try rw[←hxl]);exact hc W' hb 0 _ rfl)
   have HC1:Hid (∀W',Bl w W'→W'.cell? ⟨b,off+k*3+1,none⟩=some (.slice xa xl xc)):=h_ (fun W' hb=>by(try rw[←hjb]);(try rw[←hxl]);exact hc W' hb 1 _ rfl)
   have HC2:Hid (∀W',Bl w W'→W'.cell? ⟨b,off+k*3+2,none⟩=some (.int .i64 xver)):=h_ (fun W' hb=>by(try rw[←hjb]);(try rw[←hxl]);exact hc W' hb 2 _ rfl)
   clear hx hkx hxm hkM hc hxl hD hjb hnn hnm C1;have c_c0:=bs.b3 0;go_upto_region 5 with fail;clear c_c0;replace o_n:=o_n.ret (wE (bQ _));replace bs:=bs.ret (wE (bQ _));replace q:=bs.q
   have y21:wr.drew.heap.size=wr.heap.size:=rfl
   refine wp_region_held_drew (S:=fun w'=>w'.cell? ⟨w.heap.size,0,none⟩=some (.slice (some ⟨b,off,none⟩) LA1 b1)∧w'.cell? ⟨b,off+k*3,none⟩=some (.string jb)∧w'.cell? ⟨b,off+k*3+1,none⟩=some (.slice xa xl xc)∧w'.cell? ⟨b,off+k*3+2,none⟩=some (.int .i64 xver)) (by kernel_rfl) ⟨bs.at 0 0,HC0.out _ q,HC1.out _ q,HC2.out _ q⟩ (fun hH=>?_);generalize wr.drew=w21 at bs o_n q y21 hH ⊢;have HSZ:Hid ((w.heap.size+3)≤w21.heap.size):=h_ (by have:=bs.lt _ (wu (i:=2) rfl);exact this);refine rS [(0,some 16),(2,some 18),(3,some 19),(4,some 20),(5,some 21),(6,some 22),(7,some 23),(8,some 24),(9,some 25),(10,some 26),(11,some 27),(12,some 28),(13,some 29)] ?_
   iterate 13 refine aS ?_
   refine rE ?_;refine wpAnyH_ready (rs:=[1,14]) (by kernel_rfl) (by simp) ?_;refine az (by kernel_rfl) (fun o ho K hK=>?_) ?_
   ·simp only[wv,ww,wy,wz] at ho
    subst ho;have c_o0:=bs.b3 2;go_simp;clear c_o0;clear hH;refine hK.out _ _ ⟨bs.at 0 0,HC0.out _ q,HC1.out _ q,HC2.out _ q⟩ (fun hH=>?_);clear hK K
    refine aC (i:=14) fun K hK=>?_
    go_simp;refine(C2.out w21 q).mono ?_;rintro e w22 ⟨M',a2,c2,rfl,hml,hmd,ho,hb⟩;replace o_n:=o_n.ret hb;replace bs:=bs.ret hb;replace q:=bs.q;clear hb;obtain⟨P',hP'⟩:∃P:AcI,(⟨xj,M',(a2,c2),xver⟩:AcI)=P:=⟨_,rfl⟩
    have HCS:Hid (acY.cs P'=[.string jb,.slice a2 xl c2,.int .i64 xver]):=h_ (by rw[←hP',←HJB.out,←hml];rfl)
    have HPD:Hid (P'.d=(xj,D,xver)):=h_ (by rw[←hP',←hmd])
    rw[hP'] at ho
    have o_p:OwE acY (w.heap.size+3) P' w22:=acY.ownMono _ _ _ _ ho fun g _ hg=>wD HSZ.out hg
    clear ho hP' hml hmd;go_simp;clear hH;refine hK.out _ _ ⟨bs.at 0 0,HC0.out _ q,HC1.out _ q,HC2.out _ q⟩ (fun hH=>?_);clear hK K;refine rS [(15,some 31)] ?_;refine aS ?_;refine rE ?_
    refine aC (i:=16) fun K hK=>?_
    go_simp;obtain⟨w23,hw23,y23,al,bs⟩:=bs.alloc (w22.heap.size) rfl [.string jb,.slice a2 xl c2,.int .i64 xver] 33;replace o_n:=o_n.ret al;replace o_p:=o_p.ret al;clear al;replace q:=bs.q;rw[hw23];clear hH;refine hK.out _ _ ⟨bs.at 0 0,HC0.out _ q,HC1.out _ q,HC2.out _ q⟩ (fun hH=>?_);clear hK K
    refine aC (i:=17) fun K hK=>?_
    have o3:w23.ownsRow (w.heap.size+3) 33 3 (.slice v1 k c1) k (acY.fl Nn):=(by rw[←NN.out];exact OwS.owns (by rw[NN.out];have h:=o_n.1;rw[NN.out] at h;exact h) fun _ h=>h);refine bi _ _ _ (by rfl) (w.heap.size+3) 33 i0' _ 3 48 underlying22 hi hz0 hz1 hz2 rfl (by omega) (.slice v1 k c1) k (acY.fl Nn) (by rfl) o3 _ (by rfl) 1 [.string jb,.slice a2 xl c2,.int .i64 xver] ((bs.box 3 rfl).row rfl) (by intro u hu;rw[←HCS.out] at hu;exact acY.one _ u hu) (by omega) (by omega) (by have h:=bs.lt _ (wu (i:=2) rfl);exact h) ?_;intro v' w' hown hgr;have o_n2:OwV acY (w.heap.size+3) v' (Nn++[P']) w':=OwV.snoc (v:=.slice v1 k c1) (fun y hy=>ck hy o3 (by decide) (by decide)) (by rw[←NN.out];rw[NN.out];exact o_n) hgr (by rw[NN.out];have e:=HCS.out;rw[e];exact hown) o_p;replace bs:=(bs.some 3).grownB (B:=(w.heap.size+3)) hgr (fun g hg=>(o3.lt g hg).1) (by simp) (by omega);replace q:=bs.q;obtain⟨v2,c2',rfl,-⟩:=aq hown;clear o3 o_n o_p hown hgr;have o_n:=o_n2;clear o_n2;clear hH;refine hK.out _ _ ⟨bs.at 0 0,HC0.out _ q,HC1.out _ q,HC2.out _ q⟩ (fun hH=>?_);clear hK K;refine rS [(18,some 34)] ?_;refine aS ?_;refine rE ?_
    refine aC (i:=19) fun K hK=>?_
    have c_o0:=bs.b3 2;have f_o0:=bs.g3 2;go_simp;clear c_o0 f_o0;obtain⟨w24,hw24,y24,bs⟩:=bs.sets 2 0 [(.slice v2 (k+1) c2')] rfl (ws rfl);replace o_n:=o_n.sets (by omega) hw24;replace q:=bs.q;simp only[wt] at hw24;rw[hw24];clear hH;refine hK.out _ _ ⟨bs.at 0 0,HC0.out _ q,HC1.out _ q,HC2.out _ q⟩ (fun hH=>?_);clear hK K;refine aD ?_;clear hH;go_wp2_with fail;go_roundw
    case rel=>exact⟨Nn++[P'],v2,c2',by rw[wq,NN.out];go_num,by rw[wq,NN.out];exact hlt,by rw[wq,NN.out];exact HNX.out _ (by rw[HPD.out,←HDD.out]),by rw[wq,NN.out];exact o_n,by rw[wq,NN.out];exact bs⟩
    case measure=>simp[intOf];omega
   refine az (by kernel_rfl) (fun o ho K hK=>?_) ?_
   ·simp only[wv,ww,wy,wz] at ho
    subst ho;go_simp;refine(C2.out w21 q).mono ?_;rintro e w22 ⟨M',a2,c2,rfl,hml,hmd,ho,hb⟩;replace o_n:=o_n.ret hb;replace bs:=bs.ret hb;replace q:=bs.q;clear hb;obtain⟨P',hP'⟩:∃P:AcI,(⟨xj,M',(a2,c2),xver⟩:AcI)=P:=⟨_,rfl⟩
    have HCS:Hid (acY.cs P'=[.string jb,.slice a2 xl c2,.int .i64 xver]):=h_ (by rw[←hP',←HJB.out,←hml];rfl)
    have HPD:Hid (P'.d=(xj,D,xver)):=h_ (by rw[←hP',←hmd])
    rw[hP'] at ho
    have o_p:OwE acY (w.heap.size+3) P' w22:=acY.ownMono _ _ _ _ ho fun g _ hg=>wD HSZ.out hg
    clear ho hP' hml hmd;go_simp;clear hH;refine hK.out _ _ ⟨bs.at 0 0,HC0.out _ q,HC1.out _ q,HC2.out _ q⟩ (fun hH=>?_);clear hK K;refine rS [(15,some 31)] ?_;refine aS ?_;refine rE ?_;refine wpAnyH_ready (rs:=[1,16]) (by kernel_rfl) (by simp) ?_;refine az (by kernel_rfl) (fun o ho K hK=>?_) ?_
    ·simp only[wv,ww,wy,wz] at ho
     subst ho;have c_o0:=bs.b3 2;go_simp;clear c_o0;clear hH;refine hK.out _ _ ⟨bs.at 0 0,HC0.out _ q,HC1.out _ q,HC2.out _ q⟩ (fun hH=>?_);clear hK K
     refine aC (i:=16) fun K hK=>?_
     go_simp;obtain⟨w23,hw23,y23,al,bs⟩:=bs.alloc (w22.heap.size) rfl [.string jb,.slice a2 xl c2,.int .i64 xver] 33;replace o_n:=o_n.ret al;replace o_p:=o_p.ret al;clear al;replace q:=bs.q;rw[hw23];clear hH;refine hK.out _ _ ⟨bs.at 0 0,HC0.out _ q,HC1.out _ q,HC2.out _ q⟩ (fun hH=>?_);clear hK K
     refine aC (i:=17) fun K hK=>?_
     have o3:w23.ownsRow (w.heap.size+3) 33 3 (.slice v1 k c1) k (acY.fl Nn):=(by rw[←NN.out];exact OwS.owns (by rw[NN.out];have h:=o_n.1;rw[NN.out] at h;exact h) fun _ h=>h);refine bi _ _ _ (by rfl) (w.heap.size+3) 33 i0' _ 3 48 underlying22 hi hz0 hz1 hz2 rfl (by omega) (.slice v1 k c1) k (acY.fl Nn) (by rfl) o3 _ (by rfl) 1 [.string jb,.slice a2 xl c2,.int .i64 xver] ((bs.box 3 rfl).row rfl) (by intro u hu;rw[←HCS.out] at hu;exact acY.one _ u hu) (by omega) (by omega) (by have h:=bs.lt _ (wu (i:=2) rfl);exact h) ?_;intro v' w' hown hgr;have o_n2:OwV acY (w.heap.size+3) v' (Nn++[P']) w':=OwV.snoc (v:=.slice v1 k c1) (fun y hy=>ck hy o3 (by decide) (by decide)) (by rw[←NN.out];rw[NN.out];exact o_n) hgr (by rw[NN.out];have e:=HCS.out;rw[e];exact hown) o_p;replace bs:=(bs.some 3).grownB (B:=(w.heap.size+3)) hgr (fun g hg=>(o3.lt g hg).1) (by simp) (by omega);replace q:=bs.q;obtain⟨v2,c2',rfl,-⟩:=aq hown;clear o3 o_n o_p hown hgr;have o_n:=o_n2;clear o_n2;clear hH;refine hK.out _ _ ⟨bs.at 0 0,HC0.out _ q,HC1.out _ q,HC2.out _ q⟩ (fun hH=>?_);clear hK K;refine rS [(18,some 34)] ?_;refine aS ?_;refine rE ?_
     refine aC (i:=19) fun K hK=>?_
     have c_o0:=bs.b3 2;have f_o0:=bs.g3 2;go_simp;clear c_o0 f_o0;obtain⟨w24,hw24,y24,bs⟩:=bs.sets 2 0 [(.slice v2 (k+1) c2')] rfl (ws rfl);replace o_n:=o_n.sets (by omega) hw24;replace q:=bs.q;simp only[wt] at hw24;rw[hw24];clear hH;refine hK.out _ _ ⟨bs.at 0 0,HC0.out _ q,HC1.out _ q,HC2.out _ q⟩ (fun hH=>?_);clear hK K;refine aD ?_;clear hH;go_wp2_with fail;go_roundw
     case rel=>exact⟨Nn++[P'],v2,c2',by rw[wq,NN.out];go_num,by rw[wq,NN.out];exact hlt,by rw[wq,NN.out];exact HNX.out _ (by rw[HPD.out,←HDD.out]),by rw[wq,NN.out];exact o_n,by rw[wq,NN.out];exact bs⟩
     case measure=>simp[intOf];omega
    refine az (by kernel_rfl) (fun o ho K hK=>?_) ?_
    ·simp only[wv,ww,wy,wz] at ho
     subst ho;go_simp;obtain⟨w23,hw23,y23,al,bs⟩:=bs.alloc (w22.heap.size) rfl [.string jb,.slice a2 xl c2,.int .i64 xver] 33;replace o_n:=o_n.ret al;replace o_p:=o_p.ret al;clear al;replace q:=bs.q;rw[hw23];clear hH;refine hK.out _ _ ⟨bs.at 0 0,HC0.out _ q,HC1.out _ q,HC2.out _ q⟩ (fun hH=>?_);clear hK K
     refine aC (i:=1) fun K hK=>?_
     have c_o0:=bs.b3 2;go_simp;clear c_o0;clear hH;refine hK.out _ _ ⟨bs.at 0 0,HC0.out _ q,HC1.out _ q,HC2.out _ q⟩ (fun hH=>?_);clear hK K
     refine aC (i:=17) fun K hK=>?_
     have o3:w23.ownsRow (w.heap.size+3) 33 3 (.slice v1 k c1) k (acY.fl Nn):=(by rw[←NN.out];exact OwS.owns (by rw[NN.out];have h:=o_n.1;rw[NN.out] at h;exact h) fun _ h=>h);refine bi _ _ _ (by rfl) (w.heap.size+3) 33 i0' _ 3 48 underlying22 hi hz0 hz1 hz2 rfl (by omega) (.slice v1 k c1) k (acY.fl Nn) (by rfl) o3 _ (by rfl) 1 [.string jb,.slice a2 xl c2,.int .i64 xver] ((bs.box 3 rfl).row rfl) (by intro u hu;rw[←HCS.out] at hu;exact acY.one _ u hu) (by omega) (by omega) (by have h:=bs.lt _ (wu (i:=2) rfl);exact h) ?_;intro v' w' hown hgr;have o_n2:OwV acY (w.heap.size+3) v' (Nn++[P']) w':=OwV.snoc (v:=.slice v1 k c1) (fun y hy=>ck hy o3 (by decide) (by decide)) (by rw[←NN.out];rw[NN.out];exact o_n) hgr (by rw[NN.out];have e:=HCS.out;rw[e];exact hown) o_p;replace bs:=(bs.some 3).grownB (B:=(w.heap.size+3)) hgr (fun g hg=>(o3.lt g hg).1) (by simp) (by omega);replace q:=bs.q;obtain⟨v2,c2',rfl,-⟩:=aq hown;clear o3 o_n o_p hown hgr;have o_n:=o_n2;clear o_n2;clear hH;refine hK.out _ _ ⟨bs.at 0 0,HC0.out _ q,HC1.out _ q,HC2.out _ q⟩ (fun hH=>?_);clear hK K;refine rS [(18,some 34)] ?_;refine aS ?_;refine rE ?_
     refine aC (i:=19) fun K hK=>?_
     have c_o0:=bs.b3 2;have f_o0:=bs.g3 2;go_simp;clear c_o0 f_o0;obtain⟨w24,hw24,y24,bs⟩:=bs.sets 2 0 [(.slice v2 (k+1) c2')] rfl (ws rfl);replace o_n:=o_n.sets (by omega) hw24;replace q:=bs.q;simp only[wt] at hw24;rw[hw24];clear hH;refine hK.out _ _ ⟨bs.at 0 0,HC0.out _ q,HC1.out _ q,HC2.out _ q⟩ (fun hH=>?_);clear hK K;refine aD ?_;clear hH;go_wp2_with fail;go_roundw
     case rel=>exact⟨Nn++[P'],v2,c2',by rw[wq,NN.out];go_num,by rw[wq,NN.out];exact hlt,by rw[wq,NN.out];exact HNX.out _ (by rw[HPD.out,←HDD.out]),by rw[wq,NN.out];exact o_n,by rw[wq,NN.out];exact bs⟩
     case measure=>simp[intOf];omega
    exact AllReadyH.nil
   exact AllReadyH.nil
  ·have wl : ¬ (k : Int) < (LA1 : Int) := by omega
   have hkL:LA1=k:=(by omega);subst hkL;have hn2:Nn.map AcI.d=A.map AcI.d:=(by rw[hnm,wI (by rw[wA,HLA.out];exact wK _)]);have HN2:=h_ hn2;have HNL:=h_ hnn;clear hn2 hnm hnn wl hlt hk;have o_a:=o_n;clear o_n;obtain⟨Na,hNa⟩:=e_ Nn;rw[hNa] at o_a HN2 HNL;have HNA:=HN2;clear HN2 hNa;obtain⟨av,hav⟩:=e_ v1;obtain⟨ac,hac⟩:=e_ c1;rw[hav,hac] at o_a bs;clear hav hac;have c_c0:=bs.b3 0;have c_o0:=bs.b3 2;go_wp2_with fail;clear c_c0 c_o0;go_loopw [5] (fun i wx=>∃(Nn:List RsI) (v1:Option Addr) (c1:Nat),i=.int .i64 Nn.length∧Nn.length≤LR1∧Nn.map RsI.d=(R.map RsI.d).take Nn.length∧OwV acY (w.heap.size+3) (.slice av LA1 ac) Na wx∧OwV rsY (w.heap.size+3) (.slice v1 Nn.length c1) Nn wx∧Sx w [(w.heap.size,[.slice a1 LA1 b1,.slice r1 LR1 s1,.int .i64 m1]),(w.heap.size+1,[.slice none 0 0,.slice none 0 0,.int .i64 0]),(w.heap.size+2,[.slice av LA1 ac,.slice v1 Nn.length c1,.int .i64 m1])] wx) (fun i _=>LR1-(intOf i).toNat)
   case atStart=>exact⟨[],none,0,rfl,wC _,rfl,o_a,OwL.nil _ _ _,bs⟩
   case round=>
    clear bs q o_a;obtain⟨Nn,v1,c1,rfl,hk,hnm,o_a,o_n,bs⟩:=hrel;obtain⟨k,hnn⟩:=e_ Nn.length;rw[hnn] at hk hnm o_n bs ⊢;have q:=bs.q
    by_cases hlt:k<LR1
    ·have wl : (k : Int) < (LR1 : Int) := by omega
     have hkM:k<R.length:=(by rw[HLR.out];exact hlt);obtain⟨x,hx⟩:=e_ (R[k]);have hkx:R[k]?=some x:=(by rw[wF hkM,hx]);have hxm:x∈R:=(by rw[←hx];exact wG hkM)
     have HNX:=h_ fun (p':RsI) (e:p'.d=x.d)=>cj (f:=RsI.d) (by rw[hnm]:Nn.map RsI.d=(R.map RsI.d).take k) hkx e
     have C1:=CR.out x hxm;obtain⟨b,off,cp,hf,-,hc⟩:=HR.out.cells hkx;rw[HLR.out] at hf;simp only[wH,true_and] at hf;obtain⟨rfl,rfl⟩:=hf;obtain⟨D,hD⟩:=e_ x.d;rw[hD] at HNX C1;obtain⟨xj,on1,pr1,xl,⟨la1,lb1⟩,ask1,xs,⟨sa1,sb1⟩⟩:=x;obtain⟨ll,hll⟩:=e_ xl.length;obtain⟨sl,hsl⟩:=e_ xs.length;obtain⟨jb,hjb⟩:=e_ (ByteArray.mk xj.toArray);have C2:∀W,Bl w W→Calls prog 49 #[.agg #[.string jb,.bool on1,.int .i64 pr1,.slice la1 ll lb1,.bool ask1,.slice sa1 sl sb1]] W (TwR W D):=(by rw[←hjb,←hll,←hsl];exact C1);have C2:=h_ C2;have HJB:=h_ hjb;have NN:=h_ hnn
     have HC0:Hid (∀W',Bl w W'→W'.cell? ⟨b,off+k*6,none⟩=some (.string jb)):=h_ (fun W' hb=>by(try rw[←hjb]);(try rw[←hll]);(try rw[←hsl]);exact hc W' hb 0 _ rfl)
     have HC1:Hid (∀W',Bl w W'→W'.cell? ⟨b,off+k*6+1,none⟩=some (.bool on1)):=h_ (fun W' hb=>by(try rw[←hjb]);(try rw[←hll]);(try rw[←hsl]);exact hc W' hb 1 _ rfl)
     have HC2:Hid (∀W',Bl w W'→W'.cell? ⟨b,off+k*6+2,none⟩=some (.int .i64 pr1)):=h_ (fun W' hb=>by(try rw[←hjb]);(try rw[←hll]);(try rw[←hsl]);exact hc W' hb 2 _ rfl)
     have HC3:Hid (∀W',Bl w W'→W'.cell? ⟨b,off+k*6+3,none⟩=some (.slice la1 ll lb1)):=h_ (fun W' hb=>by(try rw[←hjb]);(try rw[←hll]);(try rw[←hsl]);exact hc W' hb 3 _ rfl)
     have HC4:Hid (∀W',Bl w W'→W'.cell? ⟨b,off+k*6+4,none⟩=some (.bool ask1)):=h_ (fun W' hb=>by(try rw[←hjb]);(try rw[←hll]);(try rw[←hsl]);exact hc W' hb 4 _ rfl)
     have HC5:Hid (∀W',Bl w W'→W'.cell? ⟨b,off+k*6+5,none⟩=some (.slice sa1 sl sb1)):=h_ (fun W' hb=>by(try rw[←hjb]);(try rw[←hll]);(try rw[←hsl]);exact hc W' hb 5 _ rfl)
     clear hx hkx hxm hkM hc hll hsl hD hjb hnn hnm C1;have c_c0:=bs.b3 0;go_upto_region 9 with fail;clear c_c0;replace o_n:=o_n.ret (wE (bQ _));replace o_a:=o_a.ret (wE (bQ _));replace bs:=bs.ret (wE (bQ _));replace q:=bs.q
     have y21:wr.drew.heap.size=wr.heap.size:=rfl
     refine wp_region_held_drew (S:=fun w'=>w'.cell? ⟨w.heap.size,1,none⟩=some (.slice (some ⟨b,off,none⟩) LR1 s1)∧w'.cell? ⟨b,off+k*6,none⟩=some (.string jb)∧w'.cell? ⟨b,off+k*6+1,none⟩=some (.bool on1)∧w'.cell? ⟨b,off+k*6+2,none⟩=some (.int .i64 pr1)∧w'.cell? ⟨b,off+k*6+3,none⟩=some (.slice la1 ll lb1)∧w'.cell? ⟨b,off+k*6+4,none⟩=some (.bool ask1)∧w'.cell? ⟨b,off+k*6+5,none⟩=some (.slice sa1 sl sb1)) (by kernel_rfl) ⟨bs.at 0 1,HC0.out _ q,HC1.out _ q,HC2.out _ q,HC3.out _ q,HC4.out _ q,HC5.out _ q⟩ (fun hH=>?_);generalize wr.drew=w21 at bs o_n o_a q y21 hH ⊢;have HSZ:Hid ((w.heap.size+3)≤w21.heap.size):=h_ (by have:=bs.lt _ (wu (i:=2) rfl);exact this);refine rS [(0,some 42),(2,some 44),(3,some 45),(4,some 46),(5,some 47),(6,some 48)] ?_
     iterate 6 refine aS ?_
     refine rE ?_;refine wpAnyH_ready (rs:=[1,7]) (by kernel_rfl) (by simp) ?_;refine az (by kernel_rfl) (fun o ho K hK=>?_) ?_
     ·simp only[wv,ww,wy,wz] at ho
      subst ho;have c_o0:=bs.b3 2;go_simp;clear c_o0;clear hH;refine hK.out _ _ ⟨bs.at 0 1,HC0.out _ q,HC1.out _ q,HC2.out _ q,HC3.out _ q,HC4.out _ q,HC5.out _ q⟩ (fun hH=>?_);clear hK K
      refine aC (i:=7) fun K hK=>?_
      go_simp;refine(C2.out w21 q).mono ?_;rintro e w22 ⟨P',rfl,hd,ho,hb⟩;replace o_n:=o_n.ret hb;replace o_a:=o_a.ret hb;replace bs:=bs.ret hb;replace q:=bs.q;clear hb;obtain⟨pj,on2,pr2,pl,⟨la2,lb2⟩,ask2,ps,⟨sa2,sb2⟩⟩:=P';obtain⟨P',hP'⟩:∃P:RsI,(⟨pj,on2,pr2,pl,(la2,lb2),ask2,ps,(sa2,sb2)⟩:RsI)=P:=⟨_,rfl⟩;obtain⟨pll,hpl⟩:=e_ pl.length;obtain⟨psl,hps⟩:=e_ ps.length;obtain⟨pb,hpb⟩:=e_ (ByteArray.mk pj.toArray)
      have HCS:Hid (rsY.cs P'=[.string pb,.bool on2,.int .i64 pr2,.slice la2 pll lb2,.bool ask2,.slice sa2 psl sb2]):=h_ (by rw[←hP',←hpl,←hps,←hpb];rfl)
      have e9:RsI.v ⟨pj,on2,pr2,pl,(la2,lb2),ask2,ps,(sa2,sb2)⟩=.agg #[.string pb,.bool on2,.int .i64 pr2,.slice la2 pll lb2,.bool ask2,.slice sa2 psl sb2]:=(by rw[←hpl,←hps,←hpb]);rw[e9];rw[hP'] at hd ho;have HPD:=h_ hd
      have o_p:OwE rsY (w.heap.size+3) P' w22:=rsY.ownMono _ _ _ _ ho fun g _ hg=>wD HSZ.out hg
      clear ho e9 hP' hpl hps hpb hd;go_simp;clear hH;refine hK.out _ _ ⟨bs.at 0 1,HC0.out _ q,HC1.out _ q,HC2.out _ q,HC3.out _ q,HC4.out _ q,HC5.out _ q⟩ (fun hH=>?_);clear hK K
      refine aC (i:=8) fun K hK=>?_
      go_simp;obtain⟨w23,hw23,y23,al,bs⟩:=bs.alloc (w22.heap.size) rfl [.string pb,.bool on2,.int .i64 pr2,.slice la2 pll lb2,.bool ask2,.slice sa2 psl sb2] 38;replace o_n:=o_n.ret al;replace o_a:=o_a.ret al;replace o_p:=o_p.ret al;clear al;replace q:=bs.q;rw[hw23];clear hH;refine hK.out _ _ ⟨bs.at 0 1,HC0.out _ q,HC1.out _ q,HC2.out _ q,HC3.out _ q,HC4.out _ q,HC5.out _ q⟩ (fun hH=>?_);clear hK K
      refine aC (i:=9) fun K hK=>?_
      have o3:w23.ownsRow (w.heap.size+3) 38 6 (.slice v1 k c1) k (rsY.fl Nn):=(by rw[←NN.out];exact OwS.owns (by rw[NN.out];have h:=o_n.1;rw[NN.out] at h;exact h) fun _ h=>h);refine bi _ _ _ (by rfl) (w.heap.size+3) 38 j0' _ 6 88 underlying23 hj hy0 hy1 hy2 rfl (by omega) (.slice v1 k c1) k (rsY.fl Nn) (by rfl) o3 _ (by rfl) 1 [.string pb,.bool on2,.int .i64 pr2,.slice la2 pll lb2,.bool ask2,.slice sa2 psl sb2] ((bs.box 3 rfl).row rfl) (by intro u hu;rw[←HCS.out] at hu;exact rsY.one _ u hu) (by omega) (by omega) (by have h:=bs.lt _ (wu (i:=2) rfl);exact h) ?_;intro v' w' hown hgr;have o_n2:OwV rsY (w.heap.size+3) v' (Nn++[P']) w':=OwV.snoc (v:=.slice v1 k c1) (fun y hy=>eG hy o3 (by decide) (by decide) (by decide) (by decide)) (by rw[←NN.out];rw[NN.out];exact o_n) hgr (by rw[NN.out];have e:=HCS.out;rw[e];exact hown) o_p;replace o_a:=OwV.other (v:=.slice v1 k c1) (fun y hy=>ck hy o3 (by decide) (by decide)) o_a hgr o3 (by decide);replace bs:=(bs.some 3).grownB (B:=(w.heap.size+3)) hgr (fun g hg=>(o3.lt g hg).1) (by simp) (by omega);replace q:=bs.q;obtain⟨v2,c2',rfl,-⟩:=aq hown;clear o3 o_n o_p hown hgr;have o_n:=o_n2;clear o_n2;clear hH;refine hK.out _ _ ⟨bs.at 0 1,HC0.out _ q,HC1.out _ q,HC2.out _ q,HC3.out _ q,HC4.out _ q,HC5.out _ q⟩ (fun hH=>?_);clear hK K;refine rS [(10,some 52)] ?_;refine aS ?_;refine rE ?_
      refine aC (i:=11) fun K hK=>?_
      have c_o0:=bs.b3 2;have f_o0:=bs.g3 2;go_simp;clear c_o0 f_o0;obtain⟨w24,hw24,y24,bs⟩:=bs.sets 2 1 [(.slice v2 (k+1) c2')] rfl (ws rfl);replace o_n:=o_n.sets (by omega) hw24;replace o_a:=o_a.sets (by omega) hw24;replace q:=bs.q;simp only[wt] at hw24;rw[hw24];clear hH;refine hK.out _ _ ⟨bs.at 0 1,HC0.out _ q,HC1.out _ q,HC2.out _ q,HC3.out _ q,HC4.out _ q,HC5.out _ q⟩ (fun hH=>?_);clear hK K;refine aD ?_;clear hH;go_wp2_with fail;go_roundw
      case rel=>exact⟨Nn++[P'],v2,c2',by rw[wq,NN.out];go_num,by rw[wq,NN.out];exact hlt,by rw[wq,NN.out];exact HNX.out _ HPD.out,o_a,by rw[wq,NN.out];exact o_n,by rw[wq,NN.out];exact bs⟩
      case measure=>simp[intOf];omega
     refine az (by kernel_rfl) (fun o ho K hK=>?_) ?_
     ·simp only[wv,ww,wy,wz] at ho
      subst ho;go_simp;refine(C2.out w21 q).mono ?_;rintro e w22 ⟨P',rfl,hd,ho,hb⟩;replace o_n:=o_n.ret hb;replace o_a:=o_a.ret hb;replace bs:=bs.ret hb;replace q:=bs.q;clear hb;obtain⟨pj,on2,pr2,pl,⟨la2,lb2⟩,ask2,ps,⟨sa2,sb2⟩⟩:=P';obtain⟨P',hP'⟩:∃P:RsI,(⟨pj,on2,pr2,pl,(la2,lb2),ask2,ps,(sa2,sb2)⟩:RsI)=P:=⟨_,rfl⟩;obtain⟨pll,hpl⟩:=e_ pl.length;obtain⟨psl,hps⟩:=e_ ps.length;obtain⟨pb,hpb⟩:=e_ (ByteArray.mk pj.toArray)
      have HCS:Hid (rsY.cs P'=[.string pb,.bool on2,.int .i64 pr2,.slice la2 pll lb2,.bool ask2,.slice sa2 psl sb2]):=h_ (by rw[←hP',←hpl,←hps,←hpb];rfl)
      have e9:RsI.v ⟨pj,on2,pr2,pl,(la2,lb2),ask2,ps,(sa2,sb2)⟩=.agg #[.string pb,.bool on2,.int .i64 pr2,.slice la2 pll lb2,.bool ask2,.slice sa2 psl sb2]:=(by rw[←hpl,←hps,←hpb]);rw[e9];rw[hP'] at hd ho;have HPD:=h_ hd
      have o_p:OwE rsY (w.heap.size+3) P' w22:=rsY.ownMono _ _ _ _ ho fun g _ hg=>wD HSZ.out hg
      clear ho e9 hP' hpl hps hpb hd;go_simp;clear hH;refine hK.out _ _ ⟨bs.at 0 1,HC0.out _ q,HC1.out _ q,HC2.out _ q,HC3.out _ q,HC4.out _ q,HC5.out _ q⟩ (fun hH=>?_);clear hK K;refine wpAnyH_ready (rs:=[1,8]) (by kernel_rfl) (by simp) ?_;refine az (by kernel_rfl) (fun o ho K hK=>?_) ?_
      ·simp only[wv,ww,wy,wz] at ho
       subst ho;have c_o0:=bs.b3 2;go_simp;clear c_o0;clear hH;refine hK.out _ _ ⟨bs.at 0 1,HC0.out _ q,HC1.out _ q,HC2.out _ q,HC3.out _ q,HC4.out _ q,HC5.out _ q⟩ (fun hH=>?_);clear hK K
       refine aC (i:=8) fun K hK=>?_
       go_simp;obtain⟨w23,hw23,y23,al,bs⟩:=bs.alloc (w22.heap.size) rfl [.string pb,.bool on2,.int .i64 pr2,.slice la2 pll lb2,.bool ask2,.slice sa2 psl sb2] 38;replace o_n:=o_n.ret al;replace o_a:=o_a.ret al;replace o_p:=o_p.ret al;clear al;replace q:=bs.q;rw[hw23];clear hH;refine hK.out _ _ ⟨bs.at 0 1,HC0.out _ q,HC1.out _ q,HC2.out _ q,HC3.out _ q,HC4.out _ q,HC5.out _ q⟩ (fun hH=>?_);clear hK K
       refine aC (i:=9) fun K hK=>?_
       have o3:w23.ownsRow (w.heap.size+3) 38 6 (.slice v1 k c1) k (rsY.fl Nn):=(by rw[←NN.out];exact OwS.owns (by rw[NN.out];have h:=o_n.1;rw[NN.out] at h;exact h) fun _ h=>h);refine bi _ _ _ (by rfl) (w.heap.size+3) 38 j0' _ 6 88 underlying23 hj hy0 hy1 hy2 rfl (by omega) (.slice v1 k c1) k (rsY.fl Nn) (by rfl) o3 _ (by rfl) 1 [.string pb,.bool on2,.int .i64 pr2,.slice la2 pll lb2,.bool ask2,.slice sa2 psl sb2] ((bs.box 3 rfl).row rfl) (by intro u hu;rw[←HCS.out] at hu;exact rsY.one _ u hu) (by omega) (by omega) (by have h:=bs.lt _ (wu (i:=2) rfl);exact h) ?_;intro v' w' hown hgr;have o_n2:OwV rsY (w.heap.size+3) v' (Nn++[P']) w':=OwV.snoc (v:=.slice v1 k c1) (fun y hy=>eG hy o3 (by decide) (by decide) (by decide) (by decide)) (by rw[←NN.out];rw[NN.out];exact o_n) hgr (by rw[NN.out];have e:=HCS.out;rw[e];exact hown) o_p;replace o_a:=OwV.other (v:=.slice v1 k c1) (fun y hy=>ck hy o3 (by decide) (by decide)) o_a hgr o3 (by decide);replace bs:=(bs.some 3).grownB (B:=(w.heap.size+3)) hgr (fun g hg=>(o3.lt g hg).1) (by simp) (by omega);replace q:=bs.q;obtain⟨v2,c2',rfl,-⟩:=aq hown;clear o3 o_n o_p hown hgr;have o_n:=o_n2;clear o_n2;clear hH;refine hK.out _ _ ⟨bs.at 0 1,HC0.out _ q,HC1.out _ q,HC2.out _ q,HC3.out _ q,HC4.out _ q,HC5.out _ q⟩ (fun hH=>?_);clear hK K;refine rS [(10,some 52)] ?_;refine aS ?_;refine rE ?_
       refine aC (i:=11) fun K hK=>?_
       have c_o0:=bs.b3 2;have f_o0:=bs.g3 2;go_simp;clear c_o0 f_o0;obtain⟨w24,hw24,y24,bs⟩:=bs.sets 2 1 [(.slice v2 (k+1) c2')] rfl (ws rfl);replace o_n:=o_n.sets (by omega) hw24;replace o_a:=o_a.sets (by omega) hw24;replace q:=bs.q;simp only[wt] at hw24;rw[hw24];clear hH;refine hK.out _ _ ⟨bs.at 0 1,HC0.out _ q,HC1.out _ q,HC2.out _ q,HC3.out _ q,HC4.out _ q,HC5.out _ q⟩ (fun hH=>?_);clear hK K;refine aD ?_;clear hH;go_wp2_with fail;go_roundw
       case rel=>exact⟨Nn++[P'],v2,c2',by rw[wq,NN.out];go_num,by rw[wq,NN.out];exact hlt,by rw[wq,NN.out];exact HNX.out _ HPD.out,o_a,by rw[wq,NN.out];exact o_n,by rw[wq,NN.out];exact bs⟩
       case measure=>simp[intOf];omega
      refine az (by kernel_rfl) (fun o ho K hK=>?_) ?_
      ·simp only[wv,ww,wy,wz] at ho
       subst ho;go_simp;obtain⟨w23,hw23,y23,al,bs⟩:=bs.alloc (w22.heap.size) rfl [.string pb,.bool on2,.int .i64 pr2,.slice la2 pll lb2,.bool ask2,.slice sa2 psl sb2] 38;replace o_n:=o_n.ret al;replace o_a:=o_a.ret al;replace o_p:=o_p.ret al;clear al;replace q:=bs.q;rw[hw23];clear hH;refine hK.out _ _ ⟨bs.at 0 1,HC0.out _ q,HC1.out _ q,HC2.out _ q,HC3.out _ q,HC4.out _ q,HC5.out _ q⟩ (fun hH=>?_);clear hK K
       refine aC (i:=1) fun K hK=>?_
       have c_o0:=bs.b3 2;go_simp;clear c_o0;clear hH;refine hK.out _ _ ⟨bs.at 0 1,HC0.out _ q,HC1.out _ q,HC2.out _ q,HC3.out _ q,HC4.out _ q,HC5.out _ q⟩ (fun hH=>?_);clear hK K
       refine aC (i:=9) fun K hK=>?_
       have o3:w23.ownsRow (w.heap.size+3) 38 6 (.slice v1 k c1) k (rsY.fl Nn):=(by rw[←NN.out];exact OwS.owns (by rw[NN.out];have h:=o_n.1;rw[NN.out] at h;exact h) fun _ h=>h);refine bi _ _ _ (by rfl) (w.heap.size+3) 38 j0' _ 6 88 underlying23 hj hy0 hy1 hy2 rfl (by omega) (.slice v1 k c1) k (rsY.fl Nn) (by rfl) o3 _ (by rfl) 1 [.string pb,.bool on2,.int .i64 pr2,.slice la2 pll lb2,.bool ask2,.slice sa2 psl sb2] ((bs.box 3 rfl).row rfl) (by intro u hu;rw[←HCS.out] at hu;exact rsY.one _ u hu) (by omega) (by omega) (by have h:=bs.lt _ (wu (i:=2) rfl);exact h) ?_;intro v' w' hown hgr;have o_n2:OwV rsY (w.heap.size+3) v' (Nn++[P']) w':=OwV.snoc (v:=.slice v1 k c1) (fun y hy=>eG hy o3 (by decide) (by decide) (by decide) (by decide)) (by rw[←NN.out];rw[NN.out];exact o_n) hgr (by rw[NN.out];have e:=HCS.out;rw[e];exact hown) o_p;replace o_a:=OwV.other (v:=.slice v1 k c1) (fun y hy=>ck hy o3 (by decide) (by decide)) o_a hgr o3 (by decide);replace bs:=(bs.some 3).grownB (B:=(w.heap.size+3)) hgr (fun g hg=>(o3.lt g hg).1) (by simp) (by omega);replace q:=bs.q;obtain⟨v2,c2',rfl,-⟩:=aq hown;clear o3 o_n o_p hown hgr;have o_n:=o_n2;clear o_n2;clear hH;refine hK.out _ _ ⟨bs.at 0 1,HC0.out _ q,HC1.out _ q,HC2.out _ q,HC3.out _ q,HC4.out _ q,HC5.out _ q⟩ (fun hH=>?_);clear hK K;refine rS [(10,some 52)] ?_;refine aS ?_;refine rE ?_
       refine aC (i:=11) fun K hK=>?_
       have c_o0:=bs.b3 2;have f_o0:=bs.g3 2;go_simp;clear c_o0 f_o0;obtain⟨w24,hw24,y24,bs⟩:=bs.sets 2 1 [(.slice v2 (k+1) c2')] rfl (ws rfl);replace o_n:=o_n.sets (by omega) hw24;replace o_a:=o_a.sets (by omega) hw24;replace q:=bs.q;simp only[wt] at hw24;rw[hw24];clear hH;refine hK.out _ _ ⟨bs.at 0 1,HC0.out _ q,HC1.out _ q,HC2.out _ q,HC3.out _ q,HC4.out _ q,HC5.out _ q⟩ (fun hH=>?_);clear hK K;refine aD ?_;clear hH;go_wp2_with fail;go_roundw
       case rel=>exact⟨Nn++[P'],v2,c2',by rw[wq,NN.out];go_num,by rw[wq,NN.out];exact hlt,by rw[wq,NN.out];exact HNX.out _ HPD.out,o_a,by rw[wq,NN.out];exact o_n,by rw[wq,NN.out];exact bs⟩
       case measure=>simp[intOf];omega
      exact AllReadyH.nil
     exact AllReadyH.nil
    ·have wl : ¬ (k : Int) < (LR1 : Int) := by omega
     have hkL:LR1=k:=(by omega);subst hkL;have hn2:Nn.map RsI.d=R.map RsI.d:=(by rw[hnm,wI (by rw[wA,HLR.out];exact wK _)]);have HN2:=h_ hn2;have HML:=h_ hnn;clear hn2 hnm hnn wl hlt hk;have c_c0:=bs.b3 0;have c_o0:=bs.b3 2;have c_z0:=bs.b3 1;have f_z0:=bs.g3 1;go_wp2_with fail;clear c_c0 c_o0 c_z0 f_z0;obtain⟨w161,hw161,y161,bs⟩:=bs.sets 1 0 [.slice av LA1 ac,.slice v1 LR1 c1,.int .i64 m1] rfl (ws rfl);replace o_a:=o_a.sets (by omega) hw161;replace o_n:=o_n.sets (by omega) hw161;replace q:=bs.q;simp only[wt,Nat.reduceAdd] at hw161;rw[hw161];refine bodyPost_ret (nr rfl rfl (bs.box 1 rfl)) rfl ?_;refine⟨⟨Na,(av,ac),Nn,(v1,c1),m1⟩,?_,?_,?_,q⟩
     ·show _=Ending.returned (.agg #[.slice av Na.length ac,.slice v1 Nn.length c1,.int .i64 m1])
      rw[HNL.out,HML.out]
     ·show (Na.map AcI.d,Nn.map RsI.d,m1)=_
      rw[HNA.out,HN2.out]
     ·refine CoI.own2.mono (tH (B := (w.heap.size + 3)) (c := ⟨Na, (av, ac), Nn, (v1, c1), m1⟩) ?_ ?_) fun g _ hg => by omega
      ·show OwV acY _ (.slice av Na.length ac) Na _
       rw[HNL.out];exact o_a
      ·show OwV rsY _ (.slice v1 Nn.length c1) Nn _
       rw[HML.out];exact o_n
end Go.Proofs.YtjgeiieiinmdnaaGreatDoor
