/- DcT, DcL, DcR, DcW, DcX: put together by mergetpl.py. -/
import Derived.Test.YtjgeiieiinmdnaaGreatDoorLg
import Derived.Test.YtjgeiieiinmdnaaGreatDoorLh
open Go.Proofs.Tryz
open Go.RowKit.Below renaming drew→wC
open Go.Value.slice renaming injEq→wF
open Go.World renaming setCells→wq,ownsRow_nil→wK,ownsRow→wO
open List renaming length_append→wh,mem_of_getElem?→ws,getElem?_toArray→wt,getElem?_cons_succ→wu,getElem?_cons_zero→wv,length_map→wy,mem_singleton→wz,getElem?_eq_getElem→wD,getElem_mem→wE,take_of_length_le→wG,mem_append→wI,nil_append→wM
open Nat renaming le_of_ble_eq_true→wo,zero_le→wA,le_trans→wB,le_refl→wH,zero_add→wL,le_succ→wN
open Option.some renaming injEq→ww
namespace Go.Proofs.YtjgeiieiinmdnaaGreatDoor
set_option maxHeartbeats 8000000
set_option maxRecDepth 100000
open Go.RowKit Go.Lib

theorem bI {w:World} {B C n m size xO:Nat} {e e':TypeId} {u v:Value} {xs ys:List Value} (h1:w.ownsRow B e size u n xs) (h2:w.ownsRow C e' xO v m ys) (he:e≠e'):u.ownBlock=none∨u.ownBlock≠v.ownBlock:=by
 cases hu:u.ownBlock with
 | none=>exact .inl rfl
 | some g=>
  refine .inr fun hv=>?_
  rcases h1.2 with ⟨rfl,_⟩ | ⟨g1,AV,AW,rfl,_⟩
  ·cases hu
  ·cases hu
   exact io h1 h2 he hv.symm
def RwU (w0:World) (v:Value) (Nn:List NdI) (w:World):Prop:=w.ownsRow w0.heap.size 114 6 v Nn.length (ndY.fl Nn)∧∀p∈Nn,w.ownsRow w0.heap.size 160 3 (ndV p) (ndA p).length (atY.fl (ndA p))
theorem RwU.ret {w0 w w':World} {v:Value} {Nn:List NdI} (h:RwU w0 v Nn w) (hb:Bl w w'):RwU w0 v Nn w':=⟨aQ h.1 hb,fun p hp=>aQ (h.2 p hp) hb⟩
theorem RwU.snoc {w0 w w':World} {v v':Value} {Nn:List NdI} {p:NdI} (h:RwU w0 v Nn w) (hg:w.grownBy w' v.ownBlock) (hr:w'.ownsRow w0.heap.size 114 6 v' (Nn.length+1) (ndY.fl Nn++ndY.cs p)) (hp:w.ownsRow w0.heap.size 160 3 (ndV p) (ndA p).length (atY.fl (ndA p))):RwU w0 v' (Nn++[p]) w':=by
 refine⟨?_,fun q hq=>?_⟩
 ·rw[wh,show ndY.fl (Nn++[p])=ndY.fl Nn++ndY.cs p by simp[Ly.fl]]
  exact hr
 ·have yW:w.ownsRow w0.heap.size 160 3 (ndV q) (ndA q).length (atY.fl (ndA q)):=by
   rcases wI.1 hq with hq | hq
   ·exact h.2 q hq
   ·rw[wz.1 hq];exact hp
  exact yW.kept hg (bI yW h.1 (by decide))
theorem RwU.own {w0 w:World} {v:Value} {Nn:List NdI} (h:RwU w0 v Nn w):OwL ndY (fun g=>w0.heap.size≤g) v Nn w:=
 ba h.1 rfl rfl (fun _ hg=>hg) fun p hp=>ba (h.2 p hp) rfl rfl (fun _ hg=>hg) fun _ _=>trivial
theorem ro (T:TrI) (w:World) (h:IsL ndY (trV T) T.1 w) (hz:T.1.length≤100000) (ha:∀x∈T.1,(ndA x).length≤100000):Calls prog 162 #[trV T] w (TwT w (trD T)):=by
 obtain⟨M,⟨a,cap⟩⟩:=T;have h:IsL ndY (.slice a M.length cap) M w:=h;have hz:M.length≤100000:=hz;have ha:∀x∈M,(ndA x).length≤100000:=ha
 show Calls prog 162 #[.slice a M.length cap] w (TwT w (M.map Prod.fst))
 obtain⟨L,hL⟩:=e_ M.length;rw[hL] at h hz ⊢;obtain⟨i0,hi,yH,yI,yJ⟩:=info_parts mf;obtain⟨j0,hj,yK,yL,yM⟩:=info_parts l8;have HV:=h_ h;have HL:=h_ hL;have HA:=h_ ha;clear h hL ha;go_enter func162,ntmps162;go_wp2_with fail;go_loopw [3,4] (fun lv i wx=>∃Nn:List NdI,i=.int .i64 Nn.length∧Nn.length≤L∧Nn.map Prod.fst=(M.map Prod.fst).take Nn.length∧RwU w lv Nn wx∧Bl w wx) (fun _ i _=>L-(intOf i).toNat)
 case atStart=>exact⟨[],rfl,wA _,rfl,⟨wK _ _ _ _,fun p hp=>by cases hp⟩,bQ _⟩
 case round=>
  obtain⟨Nn,rfl,hk,xA,yd,xG⟩:=hrel;obtain⟨k,xD⟩:=e_ Nn.length;rw[xD] at hk xA ⊢;have yN:=xG.size
  by_cases hlt:k<L
  ·have wl : (k : Int) < (L : Int) := by omega
   have xP:k<M.length:=(by rw[HL.out];exact hlt);obtain⟨p,hp⟩:=e_ (M[k]);have yO:M[k]?=some p:=(by rw[wD xP,hp]);have yX:p∈M:=(by rw[←hp];exact wE xP);have xt:IsL atY (ndV p) (ndA p) w:=HV.out.2.2 p yX;have zW:=HA.out p yX
   have yY:∀p':NdI,p'.1=p.1→(Nn++[p']).map Prod.fst=(M.map Prod.fst).take (k+1):=fun p' e=>ct xA yO e
   obtain⟨b,off,cp,hf,-,hc⟩:=HV.out.cells yO;rw[HL.out] at hf;simp only[wF,true_and] at hf;obtain⟨rfl,rfl⟩:=hf;obtain⟨⟨nk,nn,ns,na,nt,nl⟩,ga,gc⟩:=p;obtain⟨al,yv⟩:=e_ na.length;obtain⟨n1,zZ⟩:=e_ (ByteArray.mk nn.toArray);obtain⟨n2,yw⟩:=e_ (ByteArray.mk ns.toArray);obtain⟨n3,z8⟩:=e_ (ByteArray.mk nt.toArray);have zW:na.length≤100000:=zW;have xt:cx 3 (.slice ga na.length gc) na.length (atY.fl na) w:=xt.1;rw[yv] at xt zW;have AF:=h_ xt;have yg:=h_ yY;have NN:=h_ xD;have AG:=h_ yv;have yz:=h_ xG
   have xI:Hid (∀(g':Option Addr) (c':Nat),ndY.cs ((nk,nn,ns,na,nt,nl),g',c')=[.int .u8 nk,.string n1,.string n2,.slice g' al c',.string n3,.int .i64 nl]):=h_ (fun g' c'=>by rw[←yv,←zZ,←yw,←z8];rfl)
   obtain⟨la,lc,rfl,-⟩:=aw yd.1;have zV:RwU w (.slice la k lc) Nn wr:=(by rw[←NN.out];exact yd);have yZ:=h_ zV;rw[NN.out];clear zV;obtain⟨Ar,AH,AI,AJ,AK,AM⟩:wr.cell? ⟨b,off+k*6,none⟩=some (.int .u8 nk)∧wr.cell? ⟨b,off+k*6+1,none⟩=some (.string n1)∧wr.cell? ⟨b,off+k*6+2,none⟩=some (.string n2)∧wr.cell? ⟨b,off+k*6+3,none⟩=some (.slice ga al gc)∧wr.cell? ⟨b,off+k*6+4,none⟩=some (.string n3)∧wr.cell? ⟨b,off+k*6+5,none⟩=some (.int .i64 nl):=(by rw[←yv,←zZ,←yw,←z8];exact⟨hc wr xG 0 _ rfl,hc wr xG 1 _ rfl,hc wr xG 2 _ rfl,hc wr xG 3 _ rfl,hc wr xG 4 _ rfl,hc wr xG 5 _ rfl⟩);clear yd xG hp yO yX xt yY xD yv zZ yw z8 hc xA xP;have bs:=Sx.start wr;have q:=bs.q;have d0:=((bs.lit (wr.heap.size) rfl [.int .u8 nk,.string n1,.string n2,.slice ga al gc,.string n3,.int .i64 nl] 114).lit (wr.heap.size+1) (by simp) [] 160);have c3:=d0.at 0 3;go_wp2_with (at_builtin;refine Hid.out ?_);clear d0 c3 Ar AH AI AJ AK AM;obtain⟨w21,As,zO,al,bs⟩:=bs.alloc (wr.heap.size) rfl [.int .u8 nk,.string n1,.string n2,.slice ga al gc,.string n3,.int .i64 nl] 114;clear al;replace q:=bs.q;obtain⟨xM,yU,AN,al,bs⟩:=bs.alloc (wr.heap.size+1) (by omega) [] 160;clear al;replace q:=bs.q;rw[As];rw[yU];replace bs:=bs.some 1;replace q:=bs.q
   have hE:xM.ownsRow (wr.heap.size+1) 160 3 (.slice (some ⟨wr.heap.size+1,0,none⟩) 0 0) 0 []:=by
    rw[←yU];have h:=bb (size:=3) (e:=160) w21 (B:=wr.heap.size+1) (by omega);rw[show w21.heap.size=wr.heap.size+1 by omega] at h;exact h
   refine am rfl _ _ _ rfl (wr.heap.size+1) 160 j0 _ 3 48 underlying112 hj yK yL yM rfl (by omega) (.slice (some ⟨wr.heap.size+1,0,none⟩) 0 0) 0 [] (by rfl) hE (.slice ga al gc) (by rfl) al (atY.fl _) (AF.out.ret (yz.out.trans (q.mono yN))) (by intro u hu;obtain⟨y,hy,hu⟩:=List.mem_flatMap.1 hu;exact atY.one y u hu) (by omega) (by omega) (by omega) ?_;intro v' w' xF yj;rw[wL,wM] at xF;replace bs:=bs.grown yj (fun g hg=>by cases hg;exact⟨wN _,by simp⟩);have xo:OwX wr [wr.heap.size] 160 3 v' al (atY.fl na) w':=⟨xF.mono (wN _),fun g hg hm=>by have:=(xF.lt g hg).1;have:=wz.1 hm;omega⟩;replace q:=bs.q;obtain⟨a',c',rfl,-⟩:=aw xF;clear xF yj hE;have zq:=bs.at 0 3;have zv:=bs.fz 0 3;go_upto_region 7 with fail;clear zq zv;obtain⟨yh,xB,ze,bs⟩:=bs.sets 0 3 [.slice a' al c'] rfl (wo rfl);replace xo:=xo.sets 0 rfl xB;replace q:=bs.q;simp only[wq] at xB;rw[xB];have Au:=bs.b6 0;go_wp2_with (at_builtin;refine Hid.out ?_);clear Au;obtain⟨zh,xp,zi,al,bs⟩:=bs.alloc (w'.heap.size) (by omega) [.int .u8 nk,.string n1,.string n2,.slice a' al c',.string n3,.int .i64 nl] 114;replace xo:=xo.alloc (w'.heap.size) (by omega) al;clear al;replace q:=bs.q;rw[xp];have o3:=(yZ.out.ret q).1;rw[NN.out] at o3;refine am rfl _ _ _ rfl w.heap.size 114 i0 _ 6 88 underlying108 hi yH yI yJ rfl (by omega) _ k (ndY.fl Nn) rfl o3 _ (by rfl) 1 [.int .u8 nk,.string n1,.string n2,.slice a' al c',.string n3,.int .i64 nl] ((bs.box 1 rfl).row rfl) (by rw[←xI.out a' c'];exact ndY.one _) (by omega) (by omega) (by have:=q.size;omega) ?_;intro v4 w4 yk yl;have RW:=h_ (RwU.snoc (p:=((nk,nn,ns,na,nt,nl),a',c')) (yZ.out.ret q) yl (by rw[NN.out,xI.out];exact yk) (by show wO _ _ _ _ (.slice a' na.length c') na.length _;rw[AG.out];exact xo.1.mono yN))
   have B4:=h_ ((yz.out.trans (q.mono yN)).grown yl (by have:=q.size;omega) (fun g hg=>(o3.lt g hg).1));clear o3 xo q bs yl yk;go_wp2_with fail;go_roundw
   case rel=>exact⟨Nn++[((nk,nn,ns,na,nt,nl),a',c')],by rw[wh,NN.out];go_num,by rw[wh,NN.out];exact hlt,by rw[wh,NN.out];exact yg.out _ rfl,RW.out,B4.out⟩
   case measure=>simp[intOf];omega
  ·have wl : ¬ (k : Int) < (L : Int) := by omega
   have yA:Nn.map Prod.fst=M.map Prod.fst:=(by rw[xA,wG (by rw[wy,HL.out];omega)]);obtain⟨a,c,rfl,-⟩:=aw yd.1;have yZ:=h_ yd;have z9:=h_ yA;have yz:=h_ xG;have NN:=h_ xD;clear yd yA xG xA xD;go_wp2_with fail;go_ret;exact⟨(Nn,(a,c)),rfl,z9.out,RwU.own yZ.out,yz.out⟩

theorem il {w:World} {S:Nat→Prop} {B n size:Nat} {e:TypeId} {v:Value} {xs:List Value} {T:TrI} (h:trY.own S T w) (h1:w.ownsRow B e size v n xs) (he:114≠e) (AO:160≠e):trY.own (fun g=>S g∧v.ownBlock≠some g) T w:=by
 have h:OwL ndY S (trV T) T.1 w:=h;refine(⟨⟨h.1.1,fun g hg=>⟨h.1.2 g hg,?_⟩⟩,fun p hp=>?_⟩:OwL ndY (fun g=>S g∧v.ownBlock≠some g) (trV T) T.1 w)
 ·rcases bI h.1.1 h1 he with h2 | h2
  ·rw[h2] at hg;cases hg
  ·rw[hg] at h2;exact fun e=>h2 e.symm
 ·have Aa:OwL atY S (ndV p) (ndA p) w:=h.2 p hp
  refine(⟨⟨Aa.1.1,fun g hg=>⟨Aa.1.2 g hg,?_⟩⟩,fun _ _=>trivial⟩:OwL atY (fun g=>S g∧v.ownBlock≠some g) (ndV p) (ndA p) w)
  rcases bI Aa.1.1 h1 AO with h2 | h2
  ·rw[h2] at hg;cases hg
  ·rw[hg] at h2;exact fun e=>h2 e.symm
def RwT (w0:World) (v:Value) (Nn:List TrI) (w:World):Prop:=w.ownsRow w0.heap.size 108 1 v Nn.length (trY.fl Nn)∧∀p∈Nn,trY.own (fun g=>w0.heap.size≤g) p w
theorem RwT.ret {w0 w w':World} {v:Value} {Nn:List TrI} (h:RwT w0 v Nn w) (hb:Bl w w'):RwT w0 v Nn w':=⟨aQ h.1 hb,fun p hp=>trY.ownRet _ _ _ _ (h.2 p hp) hb⟩
theorem RwT.snoc {w0 w w':World} {v v':Value} {Nn:List TrI} {p:TrI} (h:RwT w0 v Nn w) (hg:w.grownBy w' v.ownBlock) (hr:w'.ownsRow w0.heap.size 108 1 v' (Nn.length+1) (trY.fl Nn++trY.cs p)) (hp:trY.own (fun g=>w0.heap.size≤g) p w):RwT w0 v' (Nn++[p]) w':=by
 refine⟨?_,fun q hq=>?_⟩
 ·rw[wh,show trY.fl (Nn++[p])=trY.fl Nn++trY.cs p by simp[Ly.fl]]
  exact hr
 ·have yW:trY.own (fun g=>w0.heap.size≤g) q w:=by
   rcases wI.1 hq with hq | hq
   ·exact h.2 q hq
   ·rw[wz.1 hq];exact hp
  exact trY.ownMono _ _ _ _ (eF (il yW h.1 (by decide) (by decide)) fun k hk hS=>hg.block k hk fun e=>hS.2 e.symm) fun _ _ hg=>hg.1
theorem RwT.own {w0 w:World} {v:Value} {Nn:List TrI} (h:RwT w0 v Nn w):OwL trY (fun g=>w0.heap.size≤g) v Nn w:=
 ba h.1 rfl rfl (fun _ hg=>hg) h.2
def TwL (w:World) (l:List (List Nd)) (e:Ending) (w':World):Prop:=∃(ld:List TrI) (a:Option Addr) (c:Nat),e=.returned (.slice a ld.length c)∧ld.map trD=l∧OwL trY (fun g=>w.heap.size≤g) (.slice a ld.length c) ld w'∧Bl w w'
theorem oH:(prog.info? 108).map (fun i=>(i.zero,i.size,i.bytes))=some (some (.slice none 0 0),1,24):=by kernel_rfl
theorem jF (M:List TrI) (a:Option Addr) (cap:Nat) (w:World) (h:IsL trY (.slice a M.length cap) M w) (hz:M.length≤100000) (ha:∀t∈M,t.1.length≤100000∧∀x∈t.1,(ndA x).length≤100000):Calls prog 103 #[.slice a M.length cap] w (TwL w (M.map trD)):=by
 obtain⟨L,hL⟩:=e_ M.length;rw[hL] at h hz ⊢;obtain⟨i0,hi,yH,yI,yJ⟩:=info_parts oH;have HV:=h_ h;have HL:=h_ hL
 have CT:=h_ fun (p:TrI) (hp:p∈M) (W:World) (hb:Bl w W)=>ro p W (IsL.ret (h.2.2 p hp) hb) (ha p hp).1 (ha p hp).2
 clear h hL ha;go_enter func103,ntmps103;go_wp2_with fail;go_loopw [3,4] (fun lv i wx=>∃Nn:List TrI,i=.int .i64 Nn.length∧Nn.length≤L∧Nn.map trD=(M.map trD).take Nn.length∧RwT w lv Nn wx∧Bl w wx) (fun _ i _=>L-(intOf i).toNat)
 case atStart=>exact⟨[],rfl,wA _,rfl,⟨wK _ _ _ _,fun p hp=>by cases hp⟩,bQ _⟩
 case round=>
  obtain⟨Nn,rfl,hk,xA,yd,xG⟩:=hrel;obtain⟨k,xD⟩:=e_ Nn.length;rw[xD] at hk xA ⊢;have yN:=xG.size
  by_cases hlt:k<L
  ·have wl : (k : Int) < (L : Int) := by omega
   have xP:k<M.length:=(by rw[HL.out];exact hlt);obtain⟨p,hp⟩:=e_ (M[k]);have yO:M[k]?=some p:=(by rw[wD xP,hp]);have yX:p∈M:=(by rw[←hp];exact wE xP)
   have yY:∀p':TrI,trD p'=trD p→(Nn++[p']).map trD=(M.map trD).take (k+1):=fun p' e=>ct xA yO e
   have Ab:=fun (W:World) (hb:Bl wr W)=>CT.out p yX W (xG.trans (hb.mono yN))
   obtain⟨b,off,cp,hf,-,hc⟩:=HV.out.cells yO;rw[HL.out] at hf;simp only[wF,true_and] at hf;obtain⟨rfl,rfl⟩:=hf;obtain⟨tl,ta,tc⟩:=p;obtain⟨D,hD⟩:=e_ (trD (tl,ta,tc));rw[hD] at yY Ab;obtain⟨al,yv⟩:=e_ tl.length;have Ad:∀W,Bl wr W→Calls prog 162 #[.slice ta al tc] W (TwT W D):=(by rw[←yv];exact Ab)
   have Ar:wr.cell? ⟨b,off+k,none⟩=some (.slice ta al tc):=by
    have h:=hc wr xG 0 _ rfl;rw[←yv]
    rwa [show off+k*trY.n+0=off+k from (by show off+k*1+0=off+k;omega)] at h
   have yg:=h_ yY;have NN:=h_ xD;have Ad:=h_ Ad;have yz:=h_ xG;obtain⟨la,lc,rfl,-⟩:=aw yd.1;have yP:RwT w (.slice la k lc) Nn wr:=(by rw[←NN.out];exact yd);rw[NN.out];clear yd xG hp yO yX yY xD yv hc xA xP hD Ab;have bs:=Sx.start wr;have q:=bs.q;go_wp2_with fail;refine(Ad.out wr q).mono ?_;rintro e w21 ⟨T',rfl,hd,ho,hb⟩;replace yP:=yP.ret hb;replace bs:=bs.ret hb;replace q:=bs.q;clear hb
   have zP:OwE trY w.heap.size T' w21:=trY.ownMono (fun g=>wr.heap.size≤g) _ _ _ (show trY.own _ T' w21 from ho) fun g _ hg=>wB yN hg
   clear ho;obtain⟨zk,yB,yC⟩:=T';obtain⟨bl,Ae⟩:=e_ zk.length;have e9:trV (zk,yB,yC)=.slice yB bl yC:=(by show Value.slice yB zk.length yC=_;rw[Ae]);rw[e9];clear e9;have AQ:=h_ Ae;clear Ae;go_wp2_with (at_builtin;refine Hid.out ?_);obtain⟨xM,yU,AN,al,bs⟩:=bs.alloc (w21.heap.size) rfl [(.slice yB bl yC)] 108;replace yP:=yP.ret al;replace zP:=zP.ret al;clear al;replace q:=bs.q;rw[yU];have o3:=yP.1;rw[NN.out] at o3;refine am rfl _ _ _ rfl w.heap.size 108 i0 _ 1 24 underlying36 hi yH yI yJ rfl (by omega) _ k (trY.fl Nn) rfl o3 _ (by rfl) 1 [.slice yB bl yC] ((bs.box 0 rfl).row rfl) (by intro u hu;cases wz.1 hu;rfl) (by omega) (by omega) (by have:=q.size;omega) ?_;intro v4 w4 yk yl;have RW:=h_ (RwT.snoc (p:=(zk,yB,yC)) yP yl (by rw[NN.out];show wO _ _ _ _ _ _ (trY.fl Nn++[.slice yB zk.length yC]);rw[AQ.out];exact yk) zP);have B4:=h_ ((yz.out.trans (q.mono yN)).grown yl (by have:=q.size;omega) (fun g hg=>(o3.lt g hg).1));have HD:=h_ hd;clear o3 yP zP q bs yl yk hd;go_wp2_with fail;go_roundw
   case rel=>exact⟨Nn++[(zk,yB,yC)],by rw[wh,NN.out];go_num,by rw[wh,NN.out];exact hlt,by rw[wh,NN.out];exact yg.out _ HD.out,RW.out,B4.out⟩
   case measure=>simp[intOf];omega
  ·have wl : ¬ (k : Int) < (L : Int) := by omega
   have yA:Nn.map trD=M.map trD:=(by rw[xA,wG (by rw[wy,HL.out];omega)]);obtain⟨a,c,rfl,-⟩:=aw yd.1;have yZ:=h_ yd;have z9:=h_ yA;have yz:=h_ xG;clear yd yA xG xA xD;go_wp2_with fail;go_ret;exact⟨Nn,a,c,rfl,z9.out,RwT.own yZ.out,yz.out⟩

theorem uc {fn:Func} {tmps:Array Value} {W:World} {R p:Nat} {v0 v1 v2 v3 v4 v5:Value} (h:fn.results=#[.cell p 38]) (h2:tmps.getD p undef=.pointer (some ⟨R,0,none⟩)) (k:Bx R [v0,v1,v2,v3,v4,v5] W):
  (results fn tmps).run prog W=.ok (.agg #[v0,v1,v2,v3,v4,v5]) W:=by
 have c0:=k.at 0 rfl;have c1:=k.at 1 rfl;have c2:=k.at 2 rfl;have c3:=k.at 3 rfl;have c4:=k.at 4 rfl;have c5:=k.at 5 rfl;rw[aV h,h2]
 simp[go_sem,Result.andThen,c0,c1,c2,c3,c4,c5]
theorem lO (r:RsI) (w:World) (h:rsY.sub r w) (hf:gd r):Calls prog 49 #[r.v] w (TwR w r.d):=by
 obtain⟨xj,yq,yt,xl,⟨yD,yE⟩,xN,xs,⟨yF,yG⟩⟩:=r;have hL:IsL trY (.slice yD xl.length yE) xl w:=h.1;have hS:be (.slice yF xs.length yG) xs w:=h.2
 have CL:=h_ fun (W:World) (hb:Bl w W)=>jF xl yD yE W (hL.ret hb) hf.1 hf.2.2
 have hz:xs.length≤100000:=hf.2.1;have yV:=cx.of_vals hS.1;rw[aq] at yV
 show Calls _ _ #[.agg #[.string ⟨xj.toArray⟩,.bool yq,.int .i64 yt,.slice yD xl.length yE,.bool xN,.slice yF xs.length yG]] w _
 obtain⟨ll,yi⟩:=e_ xl.length;obtain⟨sl,ye⟩:=e_ xs.length;obtain⟨jb,xH⟩:=e_ (ByteArray.mk xj.toArray);obtain⟨D,hD⟩:=e_ (xl.map trD);rw[yi,hD] at CL;rw[ye] at yV hz;rw[yi,ye,xH];obtain⟨j0,hj,yK,yL,yM⟩:=info_parts fE;have HR:=h_ yV;have Av:=h_ ye;have zw:=h_ xH;have HD:=h_ hD;clear h hf hL hS yV yi ye xH hD;obtain⟨W0,hW,y0,bs⟩:=Sx.start2 w [.string jb,.bool yq,.int .i64 yt,.slice yD ll yE,.bool xN,.slice yF sl yG] 38 [.string ⟨#[]⟩,.bool false,.int .i64 0,.slice none 0 0,.bool false,.slice none 0 0] 38;have HW:=h_ hW;clear hW;have q:=bs.q;go_enter func49,ntmps49;have zz:=bs.b6 0;go_wp2_with fail;rw[HW.out];refine(CL.out W0 q).mono ?_;rintro e w1 ⟨zm,a',c',rfl,hd,ho,hb⟩;clear zz;have yu:=OwZ.mk' bs ho;replace bs:=bs.ret hb;replace q:=bs.q;clear hb;obtain⟨l',Af⟩:=e_ zm.length;rw[Af] at yu ⊢;have Aw:=h_ Af;have AS:=h_ hd;clear Af hd;have zq:=bs.at 0 3;have zv:=bs.fz 0 3;go_upto_region 2 with fail;clear zq zv;obtain⟨w2,Ag,y2,bs⟩:=bs.sets 0 3 [.slice a' l' c'] rfl (wo rfl);replace yu:=yu.sets 0 rfl Ag;replace q:=bs.q;simp only[wq] at Ag;rw[Ag];have d0:=bs.lit (w2.heap.size) rfl [] 9;have c5:=d0.at 0 5;go_wp2_with (at_builtin;refine Hid.out ?_);clear d0 c5;refine am rfl _ _ _ rfl w2.heap.size 9 j0 _ 1 16 underlying26 hj yK yL yM rfl (by omega) (.slice (some ⟨w1.heap.size,0,none⟩) 0 0) 0 [] (by rfl) (by have h:=bb (size:=1) (e:=9) w2 (wH _);rw[y2] at h ⊢;exact h) (.slice yF sl yG) (by rfl) sl (cJ xs) (HR.out.ret (q.alloc q.size (.cells #[] 9))) (iJ _) (by omega) (by omega) (by simp) ?_;intro v' w' xF yj;rw[wL,wM] at xF;have hb:Bl w2 w':=((bR w2).alloc (wH _) (.cells #[] 9)).grown yj (by simp) (fun k hk=>by cases hk;exact Nat.le_of_eq y2)
 obtain⟨a2,c2,rfl,-⟩:=aw xF;have zo:=OwX.mk' bs xF;clear xF yj;replace yu:=yu.ret hb;replace bs:=bs.ret hb;replace q:=bs.q;clear hb;have Ax:=bs.at 0 5;have Ay:=bs.fz 0 5;go_upto_region 3 with fail;clear Ax Ay;obtain⟨w3,zQ,y3,bs⟩:=bs.sets 0 5 [.slice a2 sl c2] rfl (wo rfl);replace yu:=yu.sets 0 rfl zQ;replace zo:=zo.sets 0 rfl zQ;replace q:=bs.q;simp only[wq] at zQ;rw[zQ];have zz:=bs.b6 0;have zB:=bs.b6 1;have zC:=bs.g6 1;go_wp2_with fail;clear zz zB zC;obtain⟨w4,zT,y4,bs⟩:=bs.sets 1 0 [.string jb,.bool yq,.int .i64 yt,.slice a' l' c',.bool xN,.slice a2 sl c2] rfl (wo rfl);replace yu:=yu.sets 1 rfl zT;replace zo:=zo.sets 1 rfl zT;replace q:=bs.q;simp only[wq,Nat.reduceAdd] at zT;rw[zT];refine bodyPost_ret (uc rfl rfl (bs.box 1 rfl)) rfl ?_;refine⟨⟨xj,yq,yt,zm,(a',c'),xN,xs,(a2,c2)⟩,?_,?_,⟨?_,?_⟩,q⟩
 ·show _=Ending.returned (.agg #[.string ⟨xj.toArray⟩,.bool yq,.int .i64 yt,.slice a' zm.length c',.bool xN,.slice a2 xs.length c2])
  rw[zw.out,Aw.out,Av.out]
 ·show (xj,yq,yt,zm.map trD,xN,xs)=_
  rw[AS.out,←HD.out]
 ·show OwL trY _ (.slice a' zm.length c') zm _
  rw[Aw.out]
  exact OwL.mono yu fun _ _ hg=>hg.1
 ·show OwS _ 9 1 (.slice a2 xs.length c2) xs.length (cJ xs) _
  rw[Av.out];exact⟨zo.1.mono (wA _),fun g hg=>(zo.1.lt g hg).1⟩

theorem dt {w:World} {S:Nat→Prop} {B n m size xO:Nat} {e e':TypeId} {u v:Value} {xs ys:List Value} (h:OwS S e size u n xs w) (h1:w.ownsRow B e' xO v m ys) (he:e≠e'):OwS (fun g=>S g∧v.ownBlock≠some g) e size u n xs w:=⟨h.1,fun g hg=>⟨h.2 g hg,by
 rcases bI h.1 h1 he with h2 | h2
 ·rw[h2] at hg;cases hg
 ·rw[hg] at h2;exact fun e=>h2 e.symm⟩⟩
theorem fC {w:World} {S:Nat→Prop} {B m xO:Nat} {e':TypeId} {v:Value} {ys:List Value} {r:RsI} (h:rsY.own S r w) (h1:w.ownsRow B e' xO v m ys) (h2:108≠e') (h3:114≠e') (h4:160≠e') (h5:9≠e'):rsY.own (fun g=>S g∧v.ownBlock≠some g) r w:=by
 have h:OwL trY S r.lv r.ld w∧OwG S r.sv r.st w:=h;exact(⟨⟨dt h.1.1 h1 h2,fun T hT=>il (h.1.2 T hT) h1 h3 h4⟩,dt h.2 h1 h5⟩:OwL trY (fun g=>S g∧v.ownBlock≠some g) r.lv r.ld w∧OwG (fun g=>S g∧v.ownBlock≠some g) r.sv r.st w)
theorem cj {w:World} {S:Nat→Prop} {B m xO:Nat} {e':TypeId} {v:Value} {ys:List Value} {a:AcI} (h:acY.own S a w) (h1:w.ownsRow B e' xO v m ys) (h2:99≠e') (h5:9≠e'):acY.own (fun g=>S g∧v.ownBlock≠some g) a w:=by
 have h:OwI S a.iv a.it w:=h;exact(⟨dt h.1 h1 h2,fun p hp=>dt (h.2 p hp) h1 h5⟩:OwI (fun g=>S g∧v.ownBlock≠some g) a.iv a.it w)
section
variable {α:Type} {Y:Ly α} {w w':World} {u v v':Value} {M:List α} {B:Nat} {p:α}
theorem OwV.snoc (ap:∀x:α,Y.own (fun g=>B≤g) x w→Y.own (fun g=>B≤g∧v.ownBlock≠some g) x w) (h:OwV Y B v M w) (hg:w.grownBy w' v.ownBlock) (hr:w'.ownsRow B Y.e Y.n v' (M.length+1) (Y.fl M++Y.cs p)) (hp:OwE Y B p w):OwV Y B v' (M++[p]) w':=by
 refine ba (n:=M.length+1) (xs:=Y.fl M++Y.cs p) hr (by rw[wh];rfl) (by simp[Ly.fl]) (fun _ hg=>hg) fun q hq=>?_
 have yW:Y.own (fun g=>B≤g) q w:=by
  rcases wI.1 hq with hq | hq
  ·exact h.2 q hq
  ·rw[wz.1 hq];exact hp
 exact Y.ownMono _ _ _ _ (eF (ap q yW) fun k hk hS=>hg.block k hk fun e=>hS.2 e.symm) fun _ _ hg=>hg.1
theorem OwV.other (ap:∀x:α,Y.own (fun g=>B≤g) x w→Y.own (fun g=>B≤g∧v.ownBlock≠some g) x w) (h:OwV Y B u M w) (hg:w.grownBy w' v.ownBlock) {C n size:Nat} {e:TypeId} {xs:List Value} (h1:w.ownsRow C e size v n xs) (he:Y.e≠e):OwV Y B u M w':=by
 refine ba (B:=B) (n:=M.length) (xs:=Y.fl M) ((OwS.owns h.1 fun _ hg=>hg).kept hg (bI h.1.1 h1 he)) rfl rfl (fun _ hg=>hg) fun q hq=>?_
 exact Y.ownMono _ _ _ _ (eF (ap q (h.2 q hq)) fun k hk hS=>hg.block k hk fun e=>hS.2 e.symm) fun _ _ hg=>hg.1
end
theorem OwV.rs2 {w:World} {v:Value} {M:List RsI} {B:Nat} (h:OwV rsY B v M w):Ow2 rsY (fun g=>B≤g) v M w:=⟨h.1,fun x hx=>fC (h.2 x hx) h.1.1 (by decide) (by decide) (by decide) (by decide)⟩
theorem tY {w:World} {c:CoI} {B:Nat} (hA:OwV acY B c.av c.A w) (hR:OwV rsY B c.rv c.R w):c.own2 (fun g=>B≤g) w:=by
 refine⟨?_,hR.rs2⟩;refine(⟨dt hA.1 hR.1.1 (by decide),fun x hx=>?_⟩:Ow2 acY (fun g=>B≤g∧c.rv.ownBlock≠some g) c.av c.A w)
 exact acY.ownMono _ _ _ _ (cj (cj (hA.2 x hx) hR.1.1 (by decide) (by decide)) hA.1.1 (by decide) (by decide)) fun _ _ hg=>hg

theorem ow (x:AcI) (w:World) (h:acY.sub x w) (hs:cN x.it):Calls prog 48 #[.agg #[x.iv,.int .i64 x.ver]] w (fun e w'=>∃(M':List Im) (a2:Option Addr) (c2:Nat),e=.returned (.agg #[.slice a2 x.it.length c2,.int .i64 x.ver])∧M'.length=x.it.length∧M'.map Prod.fst=x.it.map Prod.fst∧acY.own (fun g=>w.heap.size≤g) ⟨x.j,M',(a2,c2),x.ver⟩ w'∧Bl w w'):=by
 refine(qY x.iv x.ver x.it w h hs.1 (fun p hp=>(hs.2 p hp).2.2.1)).mono ?_;rintro e w' ⟨a2,c2,rfl,M',hM,ho,hb⟩;rw[wy] at ho ⊢
 have hl:M'.length=x.it.length:=by rw[←wy (f:=Prod.fst),hM,wy]
 exact⟨M',a2,c2,rfl,hl,hM,(by show OwI _ (.slice a2 M'.length c2) M' w';rw[hl];exact OwI.of ho),hb⟩
theorem ez (c:CoI) (w:World) (hs:c.sub w) (zA:c.A.length≤1000) (zR:c.R.length≤1000) (zD:∀a∈c.A,cN a.it) (Az:∀r∈c.R,gd r):Calls prog 10 #[c.v] w (TwC w c.d):=by
 obtain⟨A,⟨a1,b1⟩,R,⟨r1,s1⟩,m1⟩:=c;have hA:IsL acY (.slice a1 A.length b1) A w:=hs.1;have hR:IsL rsY (.slice r1 R.length s1) R w:=hs.2;have zA:A.length≤1000:=zA;have zR:R.length≤1000:=zR
 have CA:=h_ fun (x:AcI) (hx:x∈A) (W:World) (hb:Bl w W)=>ow x W (acY.subRet _ _ _ (hA.2.2 x hx) hb) (zD x hx)
 have CR:=h_ fun (x:RsI) (hx:x∈R) (W:World) (hb:Bl w W)=>lO x W (rsY.subRet _ _ _ (hR.2.2 x hx) hb) (Az x hx)
 show Calls _ _ #[.agg #[.slice a1 A.length b1,.slice r1 R.length s1,.int .i64 m1]] w (TwC w (A.map AcI.d,R.map RsI.d,m1))
 obtain⟨yf,Ah⟩:=e_ A.length;obtain⟨yn,Ai⟩:=e_ R.length;rw[Ah] at hA zA ⊢;rw[Ai] at hR zR ⊢;obtain⟨Aj,hi,yH,yI,yJ⟩:=info_parts es;obtain⟨Ak,hj,yK,yL,yM⟩:=info_parts ck;have HA:=h_ hA;have HR:=h_ hR;have Al:=h_ Ah;have Am:=h_ Ai;clear hs hA hR zD Az Ah Ai;obtain⟨W0,hW,y0,bs⟩:=Sx.start2 w [.slice a1 yf b1,.slice r1 yn s1,.int .i64 m1] 25 [.slice none 0 0,.slice none 0 0,.int .i64 0] 25;have HW:=h_ hW;clear hW;have q:=bs.q;go_enter func10,ntmps10;have xZ:=bs.b3 0;have d0:=(bs.lit (w.heap.size+2) (by omega) [.slice none 0 0,.slice none 0 0,.int .i64 m1] 25);have zU:=d0.b3 2;have An:=d0.b3 0;go_wp2_with fail;rw[HW.out];clear xZ d0 zU An;obtain⟨w1,AT,y1,al,bs⟩:=bs.alloc (w.heap.size+2) (by omega) [.slice none 0 0,.slice none 0 0,.int .i64 m1] 25;clear al;replace q:=bs.q;rw[AT];go_loopw [4] (fun i wx=>∃(Nn:List AcI) (v1:Option Addr) (c1:Nat),i=.int .i64 Nn.length∧Nn.length≤yf∧Nn.map AcI.d=(A.map AcI.d).take Nn.length∧OwV acY (w.heap.size+3) (.slice v1 Nn.length c1) Nn wx∧Sx w [(w.heap.size,[.slice a1 yf b1,.slice r1 yn s1,.int .i64 m1]),(w.heap.size+1,[.slice none 0 0,.slice none 0 0,.int .i64 0]),(w.heap.size+2,[.slice v1 Nn.length c1,.slice none 0 0,.int .i64 m1])] wx) (fun i _=>yf-(intOf i).toNat)
 case atStart=>exact⟨[],none,0,rfl,wA _,rfl,OwL.nil _ _ _,bs⟩
 case round=>
  clear bs q;obtain⟨Nn,v1,c1,rfl,hk,xA,xn,bs⟩:=hrel;obtain⟨k,xD⟩:=e_ Nn.length;rw[xD] at hk xA xn bs ⊢;have q:=bs.q
  by_cases hlt:k<yf
  ·have wl : (k : Int) < (yf : Int) := by omega
   have xP:k<A.length:=(by rw[Al.out];exact hlt);obtain⟨x,hx⟩:=e_ (A[k]);have yQ:A[k]?=some x:=(by rw[wD xP,hx]);have zE:x∈A:=(by rw[←hx];exact wE xP)
   have yg:=h_ fun (p':AcI) (e:p'.d=x.d)=>ct (f:=AcI.d) (by rw[xA]:Nn.map AcI.d=(A.map AcI.d).take k) yQ e
   have C1:=CA.out x zE;obtain⟨b,off,cp,hf,-,hc⟩:=HA.out.cells yQ;rw[Al.out] at hf;simp only[wF,true_and] at hf;obtain⟨rfl,rfl⟩:=hf;obtain⟨xj,AA,⟨xa,xc⟩,xE⟩:=x;obtain⟨xl,zp⟩:=e_ AA.length;obtain⟨D,hD⟩:=e_ (AA.map Prod.fst);obtain⟨jb,xH⟩:=e_ (ByteArray.mk xj.toArray);simp only[AcI.iv,zp,hD] at C1;have C2:=C1;have AZ:=h_ zp;have Ao:=h_ hD;have C2:=h_ C2;have zw:=h_ xH;have NN:=h_ xD
   have xu:Hid (∀W',Bl w W'→W'.cell? ⟨b,off+k*3,none⟩=some (.string jb)):=h_ (fun W' hb=>by(try rw[←xH]);(try rw[←zp]);exact hc W' hb 0 _ rfl)
   have xw:Hid (∀W',Bl w W'→W'.cell? ⟨b,off+k*3+1,none⟩=some (.slice xa xl xc)):=h_ (fun W' hb=>by(try rw[←xH]);(try rw[←zp]);exact hc W' hb 1 _ rfl)
   have xx:Hid (∀W',Bl w W'→W'.cell? ⟨b,off+k*3+2,none⟩=some (.int .i64 xE)):=h_ (fun W' hb=>by(try rw[←xH]);(try rw[←zp]);exact hc W' hb 2 _ rfl)
   clear hx yQ zE xP hc zp hD xH xD xA C1;have xZ:=bs.b3 0;go_upto_region 5 with fail;clear xZ;replace xn:=xn.ret (wC (bQ _));replace bs:=bs.ret (wC (bQ _));replace q:=bs.q
   have zO:wr.drew.heap.size=wr.heap.size:=rfl
   refine wp_region_held_drew (S:=fun w'=>w'.cell? ⟨w.heap.size,0,none⟩=some (.slice (some ⟨b,off,none⟩) yf b1)∧w'.cell? ⟨b,off+k*3,none⟩=some (.string jb)∧w'.cell? ⟨b,off+k*3+1,none⟩=some (.slice xa xl xc)∧w'.cell? ⟨b,off+k*3+2,none⟩=some (.int .i64 xE)) (by kernel_rfl) ⟨bs.at 0 0,xu.out _ q,xw.out _ q,xx.out _ q⟩ (fun hH=>?_);generalize wr.drew=w21 at bs xn q zO hH ⊢;have zF:Hid ((w.heap.size+3)≤w21.heap.size):=h_ (by have:=bs.lt _ (ws (i:=2) rfl);exact this);refine rS [(0,some 16),(2,some 18),(3,some 19),(4,some 20),(5,some 21),(6,some 22),(7,some 23),(8,some 24),(9,some 25),(10,some 26),(11,some 27),(12,some 28),(13,some 29)] ?_
   iterate 13 refine aS ?_
   refine rE ?_;refine wpAnyH_ready (rs:=[1,14]) (by kernel_rfl) (by simp) ?_;refine az (by kernel_rfl) (fun o ho K hK=>?_) ?_
   ·simp only[wt,wu,wv,ww] at ho
    subst ho;have xq:=bs.b3 2;go_simp;clear xq;clear hH;refine hK.out _ _ ⟨bs.at 0 0,xu.out _ q,xw.out _ q,xx.out _ q⟩ (fun hH=>?_);clear hK K
    refine aC (i:=14) fun K hK=>?_
    go_simp;refine(C2.out w21 q).mono ?_;rintro e xM ⟨M',a2,c2,rfl,zG,zH,ho,hb⟩;replace xn:=xn.ret hb;replace bs:=bs.ret hb;replace q:=bs.q;clear hb;obtain⟨P',xJ⟩:∃P:AcI,(⟨xj,M',(a2,c2),xE⟩:AcI)=P:=⟨_,rfl⟩
    have xI:Hid (acY.cs P'=[.string jb,.slice a2 xl c2,.int .i64 xE]):=h_ (by rw[←xJ,←zw.out,←zG];rfl)
    have yx:Hid (P'.d=(xj,D,xE)):=h_ (by rw[←xJ,←zH])
    rw[xJ] at ho
    have xy:OwE acY (w.heap.size+3) P' xM:=acY.ownMono _ _ _ _ ho fun g _ hg=>wB zF.out hg
    clear ho xJ zG zH;go_simp;clear hH;refine hK.out _ _ ⟨bs.at 0 0,xu.out _ q,xw.out _ q,xx.out _ q⟩ (fun hH=>?_);clear hK K;refine rS [(15,some 31)] ?_;refine aS ?_;refine rE ?_
    refine aC (i:=16) fun K hK=>?_
    go_simp;obtain⟨yh,xB,ze,al,bs⟩:=bs.alloc (xM.heap.size) rfl [.string jb,.slice a2 xl c2,.int .i64 xE] 33;replace xn:=xn.ret al;replace xy:=xy.ret al;clear al;replace q:=bs.q;rw[xB];clear hH;refine hK.out _ _ ⟨bs.at 0 0,xu.out _ q,xw.out _ q,xx.out _ q⟩ (fun hH=>?_);clear hK K
    refine aC (i:=17) fun K hK=>?_
    have o3:yh.ownsRow (w.heap.size+3) 33 3 (.slice v1 k c1) k (acY.fl Nn):=(by rw[←NN.out];exact OwS.owns (by rw[NN.out];have h:=xn.1;rw[NN.out] at h;exact h) fun _ h=>h);refine bv _ _ _ (by rfl) (w.heap.size+3) 33 Aj _ 3 48 underlying22 hi yH yI yJ rfl (by omega) (.slice v1 k c1) k (acY.fl Nn) (by rfl) o3 _ (by rfl) 1 [.string jb,.slice a2 xl c2,.int .i64 xE] ((bs.box 3 rfl).row rfl) (by intro u hu;rw[←xI.out] at hu;exact acY.one _ u hu) (by omega) (by omega) (by have h:=bs.lt _ (ws (i:=2) rfl);exact h) ?_;intro v' w' xr xt;have xz:OwV acY (w.heap.size+3) v' (Nn++[P']) w':=OwV.snoc (v:=.slice v1 k c1) (fun y hy=>cj hy o3 (by decide) (by decide)) (by rw[←NN.out];rw[NN.out];exact xn) xt (by rw[NN.out];have e:=xI.out;rw[e];exact xr) xy;replace bs:=(bs.some 3).grownB (B:=(w.heap.size+3)) xt (fun g hg=>(o3.lt g hg).1) (by simp) (by omega);replace q:=bs.q;obtain⟨v2,xK,rfl,-⟩:=aw xr;clear o3 xn xy xr xt;have xn:=xz;clear xz;clear hH;refine hK.out _ _ ⟨bs.at 0 0,xu.out _ q,xw.out _ q,xx.out _ q⟩ (fun hH=>?_);clear hK K;refine rS [(18,some 34)] ?_;refine aS ?_;refine rE ?_
    refine aC (i:=19) fun K hK=>?_
    have xq:=bs.b3 2;have xL:=bs.g3 2;go_simp;clear xq xL;obtain⟨zh,xp,zi,bs⟩:=bs.sets 2 0 [(.slice v2 (k+1) xK)] rfl (wo rfl);replace xn:=xn.sets (by omega) xp;replace q:=bs.q;simp only[wq] at xp;rw[xp];clear hH;refine hK.out _ _ ⟨bs.at 0 0,xu.out _ q,xw.out _ q,xx.out _ q⟩ (fun hH=>?_);clear hK K;refine aD ?_;clear hH;go_wp2_with fail;go_roundw
    case rel=>exact⟨Nn++[P'],v2,xK,by rw[wh,NN.out];go_num,by rw[wh,NN.out];exact hlt,by rw[wh,NN.out];exact yg.out _ (by rw[yx.out,←Ao.out]),by rw[wh,NN.out];exact xn,by rw[wh,NN.out];exact bs⟩
    case measure=>simp[intOf];omega
   refine az (by kernel_rfl) (fun o ho K hK=>?_) ?_
   ·simp only[wt,wu,wv,ww] at ho
    subst ho;go_simp;refine(C2.out w21 q).mono ?_;rintro e xM ⟨M',a2,c2,rfl,zG,zH,ho,hb⟩;replace xn:=xn.ret hb;replace bs:=bs.ret hb;replace q:=bs.q;clear hb;obtain⟨P',xJ⟩:∃P:AcI,(⟨xj,M',(a2,c2),xE⟩:AcI)=P:=⟨_,rfl⟩
    have xI:Hid (acY.cs P'=[.string jb,.slice a2 xl c2,.int .i64 xE]):=h_ (by rw[←xJ,←zw.out,←zG];rfl)
    have yx:Hid (P'.d=(xj,D,xE)):=h_ (by rw[←xJ,←zH])
    rw[xJ] at ho
    have xy:OwE acY (w.heap.size+3) P' xM:=acY.ownMono _ _ _ _ ho fun g _ hg=>wB zF.out hg
    clear ho xJ zG zH;go_simp;clear hH;refine hK.out _ _ ⟨bs.at 0 0,xu.out _ q,xw.out _ q,xx.out _ q⟩ (fun hH=>?_);clear hK K;refine rS [(15,some 31)] ?_;refine aS ?_;refine rE ?_;refine wpAnyH_ready (rs:=[1,16]) (by kernel_rfl) (by simp) ?_;refine az (by kernel_rfl) (fun o ho K hK=>?_) ?_
    ·simp only[wt,wu,wv,ww] at ho
     subst ho;have xq:=bs.b3 2;go_simp;clear xq;clear hH;refine hK.out _ _ ⟨bs.at 0 0,xu.out _ q,xw.out _ q,xx.out _ q⟩ (fun hH=>?_);clear hK K
     refine aC (i:=16) fun K hK=>?_
     go_simp;obtain⟨yh,xB,ze,al,bs⟩:=bs.alloc (xM.heap.size) rfl [.string jb,.slice a2 xl c2,.int .i64 xE] 33;replace xn:=xn.ret al;replace xy:=xy.ret al;clear al;replace q:=bs.q;rw[xB];clear hH;refine hK.out _ _ ⟨bs.at 0 0,xu.out _ q,xw.out _ q,xx.out _ q⟩ (fun hH=>?_);clear hK K
     refine aC (i:=17) fun K hK=>?_
     have o3:yh.ownsRow (w.heap.size+3) 33 3 (.slice v1 k c1) k (acY.fl Nn):=(by rw[←NN.out];exact OwS.owns (by rw[NN.out];have h:=xn.1;rw[NN.out] at h;exact h) fun _ h=>h);refine bv _ _ _ (by rfl) (w.heap.size+3) 33 Aj _ 3 48 underlying22 hi yH yI yJ rfl (by omega) (.slice v1 k c1) k (acY.fl Nn) (by rfl) o3 _ (by rfl) 1 [.string jb,.slice a2 xl c2,.int .i64 xE] ((bs.box 3 rfl).row rfl) (by intro u hu;rw[←xI.out] at hu;exact acY.one _ u hu) (by omega) (by omega) (by have h:=bs.lt _ (ws (i:=2) rfl);exact h) ?_;intro v' w' xr xt;have xz:OwV acY (w.heap.size+3) v' (Nn++[P']) w':=OwV.snoc (v:=.slice v1 k c1) (fun y hy=>cj hy o3 (by decide) (by decide)) (by rw[←NN.out];rw[NN.out];exact xn) xt (by rw[NN.out];have e:=xI.out;rw[e];exact xr) xy;replace bs:=(bs.some 3).grownB (B:=(w.heap.size+3)) xt (fun g hg=>(o3.lt g hg).1) (by simp) (by omega);replace q:=bs.q;obtain⟨v2,xK,rfl,-⟩:=aw xr;clear o3 xn xy xr xt;have xn:=xz;clear xz;clear hH;refine hK.out _ _ ⟨bs.at 0 0,xu.out _ q,xw.out _ q,xx.out _ q⟩ (fun hH=>?_);clear hK K;refine rS [(18,some 34)] ?_;refine aS ?_;refine rE ?_
     refine aC (i:=19) fun K hK=>?_
     have xq:=bs.b3 2;have xL:=bs.g3 2;go_simp;clear xq xL;obtain⟨zh,xp,zi,bs⟩:=bs.sets 2 0 [(.slice v2 (k+1) xK)] rfl (wo rfl);replace xn:=xn.sets (by omega) xp;replace q:=bs.q;simp only[wq] at xp;rw[xp];clear hH;refine hK.out _ _ ⟨bs.at 0 0,xu.out _ q,xw.out _ q,xx.out _ q⟩ (fun hH=>?_);clear hK K;refine aD ?_;clear hH;go_wp2_with fail;go_roundw
     case rel=>exact⟨Nn++[P'],v2,xK,by rw[wh,NN.out];go_num,by rw[wh,NN.out];exact hlt,by rw[wh,NN.out];exact yg.out _ (by rw[yx.out,←Ao.out]),by rw[wh,NN.out];exact xn,by rw[wh,NN.out];exact bs⟩
     case measure=>simp[intOf];omega
    refine az (by kernel_rfl) (fun o ho K hK=>?_) ?_
    ·simp only[wt,wu,wv,ww] at ho
     subst ho;go_simp;obtain⟨yh,xB,ze,al,bs⟩:=bs.alloc (xM.heap.size) rfl [.string jb,.slice a2 xl c2,.int .i64 xE] 33;replace xn:=xn.ret al;replace xy:=xy.ret al;clear al;replace q:=bs.q;rw[xB];clear hH;refine hK.out _ _ ⟨bs.at 0 0,xu.out _ q,xw.out _ q,xx.out _ q⟩ (fun hH=>?_);clear hK K
     refine aC (i:=1) fun K hK=>?_
     have xq:=bs.b3 2;go_simp;clear xq;clear hH;refine hK.out _ _ ⟨bs.at 0 0,xu.out _ q,xw.out _ q,xx.out _ q⟩ (fun hH=>?_);clear hK K
     refine aC (i:=17) fun K hK=>?_
     have o3:yh.ownsRow (w.heap.size+3) 33 3 (.slice v1 k c1) k (acY.fl Nn):=(by rw[←NN.out];exact OwS.owns (by rw[NN.out];have h:=xn.1;rw[NN.out] at h;exact h) fun _ h=>h);refine bv _ _ _ (by rfl) (w.heap.size+3) 33 Aj _ 3 48 underlying22 hi yH yI yJ rfl (by omega) (.slice v1 k c1) k (acY.fl Nn) (by rfl) o3 _ (by rfl) 1 [.string jb,.slice a2 xl c2,.int .i64 xE] ((bs.box 3 rfl).row rfl) (by intro u hu;rw[←xI.out] at hu;exact acY.one _ u hu) (by omega) (by omega) (by have h:=bs.lt _ (ws (i:=2) rfl);exact h) ?_;intro v' w' xr xt;have xz:OwV acY (w.heap.size+3) v' (Nn++[P']) w':=OwV.snoc (v:=.slice v1 k c1) (fun y hy=>cj hy o3 (by decide) (by decide)) (by rw[←NN.out];rw[NN.out];exact xn) xt (by rw[NN.out];have e:=xI.out;rw[e];exact xr) xy;replace bs:=(bs.some 3).grownB (B:=(w.heap.size+3)) xt (fun g hg=>(o3.lt g hg).1) (by simp) (by omega);replace q:=bs.q;obtain⟨v2,xK,rfl,-⟩:=aw xr;clear o3 xn xy xr xt;have xn:=xz;clear xz;clear hH;refine hK.out _ _ ⟨bs.at 0 0,xu.out _ q,xw.out _ q,xx.out _ q⟩ (fun hH=>?_);clear hK K;refine rS [(18,some 34)] ?_;refine aS ?_;refine rE ?_
     refine aC (i:=19) fun K hK=>?_
     have xq:=bs.b3 2;have xL:=bs.g3 2;go_simp;clear xq xL;obtain⟨zh,xp,zi,bs⟩:=bs.sets 2 0 [(.slice v2 (k+1) xK)] rfl (wo rfl);replace xn:=xn.sets (by omega) xp;replace q:=bs.q;simp only[wq] at xp;rw[xp];clear hH;refine hK.out _ _ ⟨bs.at 0 0,xu.out _ q,xw.out _ q,xx.out _ q⟩ (fun hH=>?_);clear hK K;refine aD ?_;clear hH;go_wp2_with fail;go_roundw
     case rel=>exact⟨Nn++[P'],v2,xK,by rw[wh,NN.out];go_num,by rw[wh,NN.out];exact hlt,by rw[wh,NN.out];exact yg.out _ (by rw[yx.out,←Ao.out]),by rw[wh,NN.out];exact xn,by rw[wh,NN.out];exact bs⟩
     case measure=>simp[intOf];omega
    exact AllReadyH.nil
   exact AllReadyH.nil
  ·have wl : ¬ (k : Int) < (yf : Int) := by omega
   have Ap:yf=k:=(by omega);subst Ap;have yw:Nn.map AcI.d=A.map AcI.d:=(by rw[xA,wG (by rw[wy,Al.out];exact wH _)]);have zJ:=h_ yw;have Aq:=h_ xD;clear yw xA xD wl hlt hk;have xo:=xn;clear xn;obtain⟨Na,AB⟩:=e_ Nn;rw[AB] at xo zJ Aq;have AU:=zJ;clear zJ AB;obtain⟨av,AC⟩:=e_ v1;obtain⟨ac,zD⟩:=e_ c1;rw[AC,zD] at xo bs;clear AC zD;have xZ:=bs.b3 0;have xq:=bs.b3 2;go_wp2_with fail;clear xZ xq;go_loopw [5] (fun i wx=>∃(Nn:List RsI) (v1:Option Addr) (c1:Nat),i=.int .i64 Nn.length∧Nn.length≤yn∧Nn.map RsI.d=(R.map RsI.d).take Nn.length∧OwV acY (w.heap.size+3) (.slice av yf ac) Na wx∧OwV rsY (w.heap.size+3) (.slice v1 Nn.length c1) Nn wx∧Sx w [(w.heap.size,[.slice a1 yf b1,.slice r1 yn s1,.int .i64 m1]),(w.heap.size+1,[.slice none 0 0,.slice none 0 0,.int .i64 0]),(w.heap.size+2,[.slice av yf ac,.slice v1 Nn.length c1,.int .i64 m1])] wx) (fun i _=>yn-(intOf i).toNat)
   case atStart=>exact⟨[],none,0,rfl,wA _,rfl,xo,OwL.nil _ _ _,bs⟩
   case round=>
    clear bs q xo;obtain⟨Nn,v1,c1,rfl,hk,xA,xo,xn,bs⟩:=hrel;obtain⟨k,xD⟩:=e_ Nn.length;rw[xD] at hk xA xn bs ⊢;have q:=bs.q
    by_cases hlt:k<yn
    ·have wl : (k : Int) < (yn : Int) := by omega
     have xP:k<R.length:=(by rw[Am.out];exact hlt);obtain⟨x,hx⟩:=e_ (R[k]);have yQ:R[k]?=some x:=(by rw[wD xP,hx]);have zE:x∈R:=(by rw[←hx];exact wE xP)
     have yg:=h_ fun (p':RsI) (e:p'.d=x.d)=>ct (f:=RsI.d) (by rw[xA]:Nn.map RsI.d=(R.map RsI.d).take k) yQ e
     have C1:=CR.out x zE;obtain⟨b,off,cp,hf,-,hc⟩:=HR.out.cells yQ;rw[Am.out] at hf;simp only[wF,true_and] at hf;obtain⟨rfl,rfl⟩:=hf;obtain⟨D,hD⟩:=e_ x.d;rw[hD] at yg C1;obtain⟨xj,yq,yt,xl,⟨yD,yE⟩,xN,xs,⟨yF,yG⟩⟩:=x;obtain⟨ll,yi⟩:=e_ xl.length;obtain⟨sl,ye⟩:=e_ xs.length;obtain⟨jb,xH⟩:=e_ (ByteArray.mk xj.toArray);have C2:∀W,Bl w W→Calls prog 49 #[.agg #[.string jb,.bool yq,.int .i64 yt,.slice yD ll yE,.bool xN,.slice yF sl yG]] W (TwR W D):=(by rw[←xH,←yi,←ye];exact C1);have C2:=h_ C2;have zw:=h_ xH;have NN:=h_ xD
     have xu:Hid (∀W',Bl w W'→W'.cell? ⟨b,off+k*6,none⟩=some (.string jb)):=h_ (fun W' hb=>by(try rw[←xH]);(try rw[←yi]);(try rw[←ye]);exact hc W' hb 0 _ rfl)
     have xw:Hid (∀W',Bl w W'→W'.cell? ⟨b,off+k*6+1,none⟩=some (.bool yq)):=h_ (fun W' hb=>by(try rw[←xH]);(try rw[←yi]);(try rw[←ye]);exact hc W' hb 1 _ rfl)
     have xx:Hid (∀W',Bl w W'→W'.cell? ⟨b,off+k*6+2,none⟩=some (.int .i64 yt)):=h_ (fun W' hb=>by(try rw[←xH]);(try rw[←yi]);(try rw[←ye]);exact hc W' hb 2 _ rfl)
     have xQ:Hid (∀W',Bl w W'→W'.cell? ⟨b,off+k*6+3,none⟩=some (.slice yD ll yE)):=h_ (fun W' hb=>by(try rw[←xH]);(try rw[←yi]);(try rw[←ye]);exact hc W' hb 3 _ rfl)
     have xR:Hid (∀W',Bl w W'→W'.cell? ⟨b,off+k*6+4,none⟩=some (.bool xN)):=h_ (fun W' hb=>by(try rw[←xH]);(try rw[←yi]);(try rw[←ye]);exact hc W' hb 4 _ rfl)
     have xS:Hid (∀W',Bl w W'→W'.cell? ⟨b,off+k*6+5,none⟩=some (.slice yF sl yG)):=h_ (fun W' hb=>by(try rw[←xH]);(try rw[←yi]);(try rw[←ye]);exact hc W' hb 5 _ rfl)
     clear hx yQ zE xP hc yi ye hD xH xD xA C1;have xZ:=bs.b3 0;go_upto_region 9 with fail;clear xZ;replace xn:=xn.ret (wC (bQ _));replace xo:=xo.ret (wC (bQ _));replace bs:=bs.ret (wC (bQ _));replace q:=bs.q
     have zO:wr.drew.heap.size=wr.heap.size:=rfl
     refine wp_region_held_drew (S:=fun w'=>w'.cell? ⟨w.heap.size,1,none⟩=some (.slice (some ⟨b,off,none⟩) yn s1)∧w'.cell? ⟨b,off+k*6,none⟩=some (.string jb)∧w'.cell? ⟨b,off+k*6+1,none⟩=some (.bool yq)∧w'.cell? ⟨b,off+k*6+2,none⟩=some (.int .i64 yt)∧w'.cell? ⟨b,off+k*6+3,none⟩=some (.slice yD ll yE)∧w'.cell? ⟨b,off+k*6+4,none⟩=some (.bool xN)∧w'.cell? ⟨b,off+k*6+5,none⟩=some (.slice yF sl yG)) (by kernel_rfl) ⟨bs.at 0 1,xu.out _ q,xw.out _ q,xx.out _ q,xQ.out _ q,xR.out _ q,xS.out _ q⟩ (fun hH=>?_);generalize wr.drew=w21 at bs xn xo q zO hH ⊢;have zF:Hid ((w.heap.size+3)≤w21.heap.size):=h_ (by have:=bs.lt _ (ws (i:=2) rfl);exact this);refine rS [(0,some 42),(2,some 44),(3,some 45),(4,some 46),(5,some 47),(6,some 48)] ?_
     iterate 6 refine aS ?_
     refine rE ?_;refine wpAnyH_ready (rs:=[1,7]) (by kernel_rfl) (by simp) ?_;refine az (by kernel_rfl) (fun o ho K hK=>?_) ?_
     ·simp only[wt,wu,wv,ww] at ho
      subst ho;have xq:=bs.b3 2;go_simp;clear xq;clear hH;refine hK.out _ _ ⟨bs.at 0 1,xu.out _ q,xw.out _ q,xx.out _ q,xQ.out _ q,xR.out _ q,xS.out _ q⟩ (fun hH=>?_);clear hK K
      refine aC (i:=7) fun K hK=>?_
      go_simp;refine(C2.out w21 q).mono ?_;rintro e xM ⟨P',rfl,hd,ho,hb⟩;replace xn:=xn.ret hb;replace xo:=xo.ret hb;replace bs:=bs.ret hb;replace q:=bs.q;clear hb;obtain⟨pj,xT,xU,pl,⟨xV,xW⟩,xC,ps,⟨xX,xY⟩⟩:=P';obtain⟨P',xJ⟩:∃P:RsI,(⟨pj,xT,xU,pl,(xV,xW),xC,ps,(xX,xY)⟩:RsI)=P:=⟨_,rfl⟩;obtain⟨yo,yR⟩:=e_ pl.length;obtain⟨yp,yS⟩:=e_ ps.length;obtain⟨pb,yT⟩:=e_ (ByteArray.mk pj.toArray)
      have xI:Hid (rsY.cs P'=[.string pb,.bool xT,.int .i64 xU,.slice xV yo xW,.bool xC,.slice xX yp xY]):=h_ (by rw[←xJ,←yR,←yS,←yT];rfl)
      have e9:RsI.v ⟨pj,xT,xU,pl,(xV,xW),xC,ps,(xX,xY)⟩=.agg #[.string pb,.bool xT,.int .i64 xU,.slice xV yo xW,.bool xC,.slice xX yp xY]:=(by rw[←yR,←yS,←yT]);rw[e9];rw[xJ] at hd ho;have yx:=h_ hd
      have xy:OwE rsY (w.heap.size+3) P' xM:=rsY.ownMono _ _ _ _ ho fun g _ hg=>wB zF.out hg
      clear ho e9 xJ yR yS yT hd;go_simp;clear hH;refine hK.out _ _ ⟨bs.at 0 1,xu.out _ q,xw.out _ q,xx.out _ q,xQ.out _ q,xR.out _ q,xS.out _ q⟩ (fun hH=>?_);clear hK K
      refine aC (i:=8) fun K hK=>?_
      go_simp;obtain⟨yh,xB,ze,al,bs⟩:=bs.alloc (xM.heap.size) rfl [.string pb,.bool xT,.int .i64 xU,.slice xV yo xW,.bool xC,.slice xX yp xY] 38;replace xn:=xn.ret al;replace xo:=xo.ret al;replace xy:=xy.ret al;clear al;replace q:=bs.q;rw[xB];clear hH;refine hK.out _ _ ⟨bs.at 0 1,xu.out _ q,xw.out _ q,xx.out _ q,xQ.out _ q,xR.out _ q,xS.out _ q⟩ (fun hH=>?_);clear hK K
      refine aC (i:=9) fun K hK=>?_
      have o3:yh.ownsRow (w.heap.size+3) 38 6 (.slice v1 k c1) k (rsY.fl Nn):=(by rw[←NN.out];exact OwS.owns (by rw[NN.out];have h:=xn.1;rw[NN.out] at h;exact h) fun _ h=>h);refine bv _ _ _ (by rfl) (w.heap.size+3) 38 Ak _ 6 88 underlying23 hj yK yL yM rfl (by omega) (.slice v1 k c1) k (rsY.fl Nn) (by rfl) o3 _ (by rfl) 1 [.string pb,.bool xT,.int .i64 xU,.slice xV yo xW,.bool xC,.slice xX yp xY] ((bs.box 3 rfl).row rfl) (by intro u hu;rw[←xI.out] at hu;exact rsY.one _ u hu) (by omega) (by omega) (by have h:=bs.lt _ (ws (i:=2) rfl);exact h) ?_;intro v' w' xr xt;have xz:OwV rsY (w.heap.size+3) v' (Nn++[P']) w':=OwV.snoc (v:=.slice v1 k c1) (fun y hy=>fC hy o3 (by decide) (by decide) (by decide) (by decide)) (by rw[←NN.out];rw[NN.out];exact xn) xt (by rw[NN.out];have e:=xI.out;rw[e];exact xr) xy;replace xo:=OwV.other (v:=.slice v1 k c1) (fun y hy=>cj hy o3 (by decide) (by decide)) xo xt o3 (by decide);replace bs:=(bs.some 3).grownB (B:=(w.heap.size+3)) xt (fun g hg=>(o3.lt g hg).1) (by simp) (by omega);replace q:=bs.q;obtain⟨v2,xK,rfl,-⟩:=aw xr;clear o3 xn xy xr xt;have xn:=xz;clear xz;clear hH;refine hK.out _ _ ⟨bs.at 0 1,xu.out _ q,xw.out _ q,xx.out _ q,xQ.out _ q,xR.out _ q,xS.out _ q⟩ (fun hH=>?_);clear hK K;refine rS [(10,some 52)] ?_;refine aS ?_;refine rE ?_
      refine aC (i:=11) fun K hK=>?_
      have xq:=bs.b3 2;have xL:=bs.g3 2;go_simp;clear xq xL;obtain⟨zh,xp,zi,bs⟩:=bs.sets 2 1 [(.slice v2 (k+1) xK)] rfl (wo rfl);replace xn:=xn.sets (by omega) xp;replace xo:=xo.sets (by omega) xp;replace q:=bs.q;simp only[wq] at xp;rw[xp];clear hH;refine hK.out _ _ ⟨bs.at 0 1,xu.out _ q,xw.out _ q,xx.out _ q,xQ.out _ q,xR.out _ q,xS.out _ q⟩ (fun hH=>?_);clear hK K;refine aD ?_;clear hH;go_wp2_with fail;go_roundw
      case rel=>exact⟨Nn++[P'],v2,xK,by rw[wh,NN.out];go_num,by rw[wh,NN.out];exact hlt,by rw[wh,NN.out];exact yg.out _ yx.out,xo,by rw[wh,NN.out];exact xn,by rw[wh,NN.out];exact bs⟩
      case measure=>simp[intOf];omega
     refine az (by kernel_rfl) (fun o ho K hK=>?_) ?_
     ·simp only[wt,wu,wv,ww] at ho
      subst ho;go_simp;refine(C2.out w21 q).mono ?_;rintro e xM ⟨P',rfl,hd,ho,hb⟩;replace xn:=xn.ret hb;replace xo:=xo.ret hb;replace bs:=bs.ret hb;replace q:=bs.q;clear hb;obtain⟨pj,xT,xU,pl,⟨xV,xW⟩,xC,ps,⟨xX,xY⟩⟩:=P';obtain⟨P',xJ⟩:∃P:RsI,(⟨pj,xT,xU,pl,(xV,xW),xC,ps,(xX,xY)⟩:RsI)=P:=⟨_,rfl⟩;obtain⟨yo,yR⟩:=e_ pl.length;obtain⟨yp,yS⟩:=e_ ps.length;obtain⟨pb,yT⟩:=e_ (ByteArray.mk pj.toArray)
      have xI:Hid (rsY.cs P'=[.string pb,.bool xT,.int .i64 xU,.slice xV yo xW,.bool xC,.slice xX yp xY]):=h_ (by rw[←xJ,←yR,←yS,←yT];rfl)
      have e9:RsI.v ⟨pj,xT,xU,pl,(xV,xW),xC,ps,(xX,xY)⟩=.agg #[.string pb,.bool xT,.int .i64 xU,.slice xV yo xW,.bool xC,.slice xX yp xY]:=(by rw[←yR,←yS,←yT]);rw[e9];rw[xJ] at hd ho;have yx:=h_ hd
      have xy:OwE rsY (w.heap.size+3) P' xM:=rsY.ownMono _ _ _ _ ho fun g _ hg=>wB zF.out hg
      clear ho e9 xJ yR yS yT hd;go_simp;clear hH;refine hK.out _ _ ⟨bs.at 0 1,xu.out _ q,xw.out _ q,xx.out _ q,xQ.out _ q,xR.out _ q,xS.out _ q⟩ (fun hH=>?_);clear hK K;refine wpAnyH_ready (rs:=[1,8]) (by kernel_rfl) (by simp) ?_;refine az (by kernel_rfl) (fun o ho K hK=>?_) ?_
      ·simp only[wt,wu,wv,ww] at ho
       subst ho;have xq:=bs.b3 2;go_simp;clear xq;clear hH;refine hK.out _ _ ⟨bs.at 0 1,xu.out _ q,xw.out _ q,xx.out _ q,xQ.out _ q,xR.out _ q,xS.out _ q⟩ (fun hH=>?_);clear hK K
       refine aC (i:=8) fun K hK=>?_
       go_simp;obtain⟨yh,xB,ze,al,bs⟩:=bs.alloc (xM.heap.size) rfl [.string pb,.bool xT,.int .i64 xU,.slice xV yo xW,.bool xC,.slice xX yp xY] 38;replace xn:=xn.ret al;replace xo:=xo.ret al;replace xy:=xy.ret al;clear al;replace q:=bs.q;rw[xB];clear hH;refine hK.out _ _ ⟨bs.at 0 1,xu.out _ q,xw.out _ q,xx.out _ q,xQ.out _ q,xR.out _ q,xS.out _ q⟩ (fun hH=>?_);clear hK K
       refine aC (i:=9) fun K hK=>?_
       have o3:yh.ownsRow (w.heap.size+3) 38 6 (.slice v1 k c1) k (rsY.fl Nn):=(by rw[←NN.out];exact OwS.owns (by rw[NN.out];have h:=xn.1;rw[NN.out] at h;exact h) fun _ h=>h);refine bv _ _ _ (by rfl) (w.heap.size+3) 38 Ak _ 6 88 underlying23 hj yK yL yM rfl (by omega) (.slice v1 k c1) k (rsY.fl Nn) (by rfl) o3 _ (by rfl) 1 [.string pb,.bool xT,.int .i64 xU,.slice xV yo xW,.bool xC,.slice xX yp xY] ((bs.box 3 rfl).row rfl) (by intro u hu;rw[←xI.out] at hu;exact rsY.one _ u hu) (by omega) (by omega) (by have h:=bs.lt _ (ws (i:=2) rfl);exact h) ?_;intro v' w' xr xt;have xz:OwV rsY (w.heap.size+3) v' (Nn++[P']) w':=OwV.snoc (v:=.slice v1 k c1) (fun y hy=>fC hy o3 (by decide) (by decide) (by decide) (by decide)) (by rw[←NN.out];rw[NN.out];exact xn) xt (by rw[NN.out];have e:=xI.out;rw[e];exact xr) xy;replace xo:=OwV.other (v:=.slice v1 k c1) (fun y hy=>cj hy o3 (by decide) (by decide)) xo xt o3 (by decide);replace bs:=(bs.some 3).grownB (B:=(w.heap.size+3)) xt (fun g hg=>(o3.lt g hg).1) (by simp) (by omega);replace q:=bs.q;obtain⟨v2,xK,rfl,-⟩:=aw xr;clear o3 xn xy xr xt;have xn:=xz;clear xz;clear hH;refine hK.out _ _ ⟨bs.at 0 1,xu.out _ q,xw.out _ q,xx.out _ q,xQ.out _ q,xR.out _ q,xS.out _ q⟩ (fun hH=>?_);clear hK K;refine rS [(10,some 52)] ?_;refine aS ?_;refine rE ?_
       refine aC (i:=11) fun K hK=>?_
       have xq:=bs.b3 2;have xL:=bs.g3 2;go_simp;clear xq xL;obtain⟨zh,xp,zi,bs⟩:=bs.sets 2 1 [(.slice v2 (k+1) xK)] rfl (wo rfl);replace xn:=xn.sets (by omega) xp;replace xo:=xo.sets (by omega) xp;replace q:=bs.q;simp only[wq] at xp;rw[xp];clear hH;refine hK.out _ _ ⟨bs.at 0 1,xu.out _ q,xw.out _ q,xx.out _ q,xQ.out _ q,xR.out _ q,xS.out _ q⟩ (fun hH=>?_);clear hK K;refine aD ?_;clear hH;go_wp2_with fail;go_roundw
       case rel=>exact⟨Nn++[P'],v2,xK,by rw[wh,NN.out];go_num,by rw[wh,NN.out];exact hlt,by rw[wh,NN.out];exact yg.out _ yx.out,xo,by rw[wh,NN.out];exact xn,by rw[wh,NN.out];exact bs⟩
       case measure=>simp[intOf];omega
      refine az (by kernel_rfl) (fun o ho K hK=>?_) ?_
      ·simp only[wt,wu,wv,ww] at ho
       subst ho;go_simp;obtain⟨yh,xB,ze,al,bs⟩:=bs.alloc (xM.heap.size) rfl [.string pb,.bool xT,.int .i64 xU,.slice xV yo xW,.bool xC,.slice xX yp xY] 38;replace xn:=xn.ret al;replace xo:=xo.ret al;replace xy:=xy.ret al;clear al;replace q:=bs.q;rw[xB];clear hH;refine hK.out _ _ ⟨bs.at 0 1,xu.out _ q,xw.out _ q,xx.out _ q,xQ.out _ q,xR.out _ q,xS.out _ q⟩ (fun hH=>?_);clear hK K
       refine aC (i:=1) fun K hK=>?_
       have xq:=bs.b3 2;go_simp;clear xq;clear hH;refine hK.out _ _ ⟨bs.at 0 1,xu.out _ q,xw.out _ q,xx.out _ q,xQ.out _ q,xR.out _ q,xS.out _ q⟩ (fun hH=>?_);clear hK K
       refine aC (i:=9) fun K hK=>?_
       have o3:yh.ownsRow (w.heap.size+3) 38 6 (.slice v1 k c1) k (rsY.fl Nn):=(by rw[←NN.out];exact OwS.owns (by rw[NN.out];have h:=xn.1;rw[NN.out] at h;exact h) fun _ h=>h);refine bv _ _ _ (by rfl) (w.heap.size+3) 38 Ak _ 6 88 underlying23 hj yK yL yM rfl (by omega) (.slice v1 k c1) k (rsY.fl Nn) (by rfl) o3 _ (by rfl) 1 [.string pb,.bool xT,.int .i64 xU,.slice xV yo xW,.bool xC,.slice xX yp xY] ((bs.box 3 rfl).row rfl) (by intro u hu;rw[←xI.out] at hu;exact rsY.one _ u hu) (by omega) (by omega) (by have h:=bs.lt _ (ws (i:=2) rfl);exact h) ?_;intro v' w' xr xt;have xz:OwV rsY (w.heap.size+3) v' (Nn++[P']) w':=OwV.snoc (v:=.slice v1 k c1) (fun y hy=>fC hy o3 (by decide) (by decide) (by decide) (by decide)) (by rw[←NN.out];rw[NN.out];exact xn) xt (by rw[NN.out];have e:=xI.out;rw[e];exact xr) xy;replace xo:=OwV.other (v:=.slice v1 k c1) (fun y hy=>cj hy o3 (by decide) (by decide)) xo xt o3 (by decide);replace bs:=(bs.some 3).grownB (B:=(w.heap.size+3)) xt (fun g hg=>(o3.lt g hg).1) (by simp) (by omega);replace q:=bs.q;obtain⟨v2,xK,rfl,-⟩:=aw xr;clear o3 xn xy xr xt;have xn:=xz;clear xz;clear hH;refine hK.out _ _ ⟨bs.at 0 1,xu.out _ q,xw.out _ q,xx.out _ q,xQ.out _ q,xR.out _ q,xS.out _ q⟩ (fun hH=>?_);clear hK K;refine rS [(10,some 52)] ?_;refine aS ?_;refine rE ?_
       refine aC (i:=11) fun K hK=>?_
       have xq:=bs.b3 2;have xL:=bs.g3 2;go_simp;clear xq xL;obtain⟨zh,xp,zi,bs⟩:=bs.sets 2 1 [(.slice v2 (k+1) xK)] rfl (wo rfl);replace xn:=xn.sets (by omega) xp;replace xo:=xo.sets (by omega) xp;replace q:=bs.q;simp only[wq] at xp;rw[xp];clear hH;refine hK.out _ _ ⟨bs.at 0 1,xu.out _ q,xw.out _ q,xx.out _ q,xQ.out _ q,xR.out _ q,xS.out _ q⟩ (fun hH=>?_);clear hK K;refine aD ?_;clear hH;go_wp2_with fail;go_roundw
       case rel=>exact⟨Nn++[P'],v2,xK,by rw[wh,NN.out];go_num,by rw[wh,NN.out];exact hlt,by rw[wh,NN.out];exact yg.out _ yx.out,xo,by rw[wh,NN.out];exact xn,by rw[wh,NN.out];exact bs⟩
       case measure=>simp[intOf];omega
      exact AllReadyH.nil
     exact AllReadyH.nil
    ·have wl : ¬ (k : Int) < (yn : Int) := by omega
     have Ap:yn=k:=(by omega);subst Ap;have yw:Nn.map RsI.d=R.map RsI.d:=(by rw[xA,wG (by rw[wy,Am.out];exact wH _)]);have zJ:=h_ yw;have AE:=h_ xD;clear yw xA xD wl hlt hk;have xZ:=bs.b3 0;have xq:=bs.b3 2;have zB:=bs.b3 1;have zC:=bs.g3 1;go_wp2_with fail;clear xZ xq zB zC;obtain⟨AX,yy,AY,bs⟩:=bs.sets 1 0 [.slice av yf ac,.slice v1 yn c1,.int .i64 m1] rfl (wo rfl);replace xo:=xo.sets (by omega) yy;replace xn:=xn.sets (by omega) yy;replace q:=bs.q;simp only[wq,Nat.reduceAdd] at yy;rw[yy];refine bodyPost_ret (fJ rfl rfl (bs.box 1 rfl)) rfl ?_;refine⟨⟨Na,(av,ac),Nn,(v1,c1),m1⟩,?_,?_,?_,q⟩
     ·show _=Ending.returned (.agg #[.slice av Na.length ac,.slice v1 Nn.length c1,.int .i64 m1])
      rw[Aq.out,AE.out]
     ·show (Na.map AcI.d,Nn.map RsI.d,m1)=_
      rw[AU.out,zJ.out]
     ·refine CoI.own2.mono (tY (B := (w.heap.size + 3)) (c := ⟨Na, (av, ac), Nn, (v1, c1), m1⟩) ?_ ?_) fun g _ hg => by omega
      ·show OwV acY _ (.slice av Na.length ac) Na _
       rw[Aq.out];exact xo
      ·show OwV rsY _ (.slice v1 Nn.length c1) Nn _
       rw[AE.out];exact xn
end Go.Proofs.YtjgeiieiinmdnaaGreatDoor
