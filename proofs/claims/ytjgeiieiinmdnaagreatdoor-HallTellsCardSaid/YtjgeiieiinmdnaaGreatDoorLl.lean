/- HaU, HaX, HaY, HaZ: put together by mergetpl.py. -/
import Derived.Test.YtjgeiieiinmdnaaGreatDoorLg
import Derived.Test.YtjgeiieiinmdnaaGreatDoorLi
import Derived.Test.YtjgeiieiinmdnaaGreatDoorLc
import Derived.Test.YtjgeiieiinmdnaaGreatDoorKl
import Derived.Test.YtjgeiieiinmdnaaGreatDoorLj
import Derived.Test.YtjgeiieiinmdnaaGreatDoorLk
import Derived.Test.YtjgeiieiinmdnaaGreatDoorLh
open Go.Proofs.Tryz
open Bool renaming true_and→wu,false_and→ww
open Go.World renaming setCells→ws
open List renaming all_append→wt,getElem_mem→wv,length_take→wz,take_append_drop→wA
open Nat renaming le_of_ble_eq_true→wq,zero_le→wy
namespace Go.Proofs.YtjgeiieiinmdnaaGreatDoor
set_option maxHeartbeats 1000000
set_option maxRecDepth 100000
open Go.RowKit Go.Lib

theorem vB {α:Type} [Inhabited α] {nm:α→List UInt8} {L:List α} {t:List UInt8} (hL:∀y∈L,bz (nm y)=true) (ht:bz t=true):thO nm L t=thG nm L t:=by
 unfold thO thG
 rcases Nat.lt_or_ge (poG nm L t) L.length with h | h
 ·rw[List.getElem?_eq_getElem h,decide_eq_true h,wu]
  have hg:L.getD (poG nm L t) default=L[poG nm L t]:=by simp[List.getD,h]
  rw[hg];have hy:=hL _ (wv h);generalize L[poG nm L t]=y at hy
  show decide (iY (nm y) t=0)=(nm y==t)
  rw[Bool.eq_iff_iff,decide_eq_true_eq,beq_iff_eq];unfold iY
  constructor
  ·intro h0
   cases h1:ao (nm y) t with
   | true=>rw[h1] at h0;simp at h0
   | false=>
    cases h2:ao t (nm y) with
    | true=>rw[h1,h2] at h0;simp at h0
    | false=>exact ix hy ht (iR h1 h2)
  ·intro e
   rw[e,bw]
   simp
 ·rw[List.getElem?_eq_none h,decide_eq_false (by omega),ww]
theorem tP {α:Type} [Inhabited α] {nm:α→List UInt8} {L:List α} {x:α} (hL:∀y∈L,bz (nm y)=true) (hx:bz (nm x)=true):puO nm L x=puG nm L x:=by
 unfold puO puG;rw[vB hL hx]
def dw (l:List (List UInt8)):List Ac:=l.foldl (fun A s=>puO acN A (s,[],0)) []
def mT (l:List (List UInt8)):Co×Int:=if decide (l.length≤8)&&(l.all bg&&aV l) then ((dw l,[],0),0) else (co0,2)
theorem bT {s:List UInt8} (h:bg s=true):bz s=true:=by
 unfold bg at h;rw[Bool.and_eq_true] at h;exact h.1
structure NewOk (l:List (List UInt8)) (A:List Ac):Prop where
 ch:chG acN A=true
 ad:∀a∈A,bz (acN a)=true
 mem:∀a∈A,acN a∈l
 len:A.length≤l.length
theorem NewOk.snoc {l:List (List UInt8)} {A:List Ac} {s:List UInt8} (h:NewOk l A) (hs:bg s=true):NewOk (l++[s]) (puO acN A (s,[],0)):=by
 have e:puO acN A (s,[],0)=puG acN A (s,[],0):=tP h.ad (bT hs)
 refine⟨?_,fun a ha=>?_,fun a ha=>?_,?_⟩
 ·rw[e]
  exact dX h.ch h.ad (bT hs)
 ·rcases im ha with h1 | h1
  ·exact h.ad a h1
  ·rw[h1];exact bT hs
 ·rcases im ha with h1 | h1
  ·exact List.mem_append_left _ (h.mem a h1)
  ·rw[h1];exact List.mem_append_right _ (List.mem_singleton.2 rfl)
 ·have:=oE (nm:=acN) (L:=A) (x:=(s,[],0))
  rw[List.length_append,List.length_singleton];have:=h.len
  omega
theorem cY (l:List (List UInt8)) (s:List UInt8):dw (l++[s])=puO acN (dw l) (s,[],0):=by unfold dw;rw[List.foldl_append];rfl
theorem um (v:Value) (l:List (List UInt8)) (w:World) (hv:aB v l w) (hz:l.length≤1000) (hx:∀s∈l,s.length≤10000) (hm:ML w):Calls prog 15 #[v] w (rH w (mT l)):=by
 obtain⟨hv0,av,cv,rfl,hcap⟩:=hv;obtain⟨Z,hZ⟩:=e_ (mT l);rw[hZ];unfold mT at hZ;obtain⟨L,hL⟩:=e_ l.length;rw[hL] at hz hcap hZ ⊢;have HV:=h_ hv0;have HL:=h_ hL;have HX:=h_ hx;have HM:=h_ hm;clear hv0 hL hx hm
 by_cases h8:L≤8
 ·rw[decide_eq_true h8,wu] at hZ
  have w8:¬ (8:Int)<(L:Int):=by omega
  have HZ:=h_ hZ;clear hZ;obtain⟨W0,hW,y0,bs⟩:=Sx.start1 w [.slice none 0 0,.slice none 0 0,.int .i64 0] 25;have HW:=h_ hW;clear hW;have q:=bs.q;go_enter func15,ntmps15;go_wp2_with fail;rw[HW.out];go_loopw [12] (fun i wx=>∃(k:Nat) (A:List AcI) (a:Option Addr) (c n:Nat),k≤L∧i=.int .i64 k∧(l.take k).all bg=true∧aV (l.take k)=true∧A.length=n∧A.map AcI.d=dw (l.take k)∧NewOk (l.take k) (dw (l.take k))∧OwU acY (w.heap.size+1) vT (.slice a n c) A wx∧Sx w [(w.heap.size,[.slice a n c,.slice none 0 0,.int .i64 0])] wx) (fun i _=>L-(intOf i).toNat)
  case atStart=>exact⟨0,[],none,0,0,wy _,rfl,rfl,rfl,rfl,rfl,⟨rfl,(fun a ha=>by cases ha),(fun a ha=>by cases ha),Nat.le_refl _⟩,⟨OwS.nil _ _ _ _,fun x hx=>by cases hx⟩,bs⟩
  case round=>
   clear bs q;obtain⟨k,A,a,c,n,hk,rfl,hall,honce,hn,hA,hok,o_a,bs⟩:=hrel;have q:=bs.q
   by_cases hlt:k<L
   ·have hkg : k < l.length := by rw [HL.out]; exact hlt
    have hkc:k≤cv:=(by omega);have hV:=HV.out.ret q;obtain⟨b,off,cp,hf,hb0,hc⟩:=bn hV (k:=k) (by rw[aj];exact hkg);rw[aj,HL.out] at hf;simp only[Value.slice.injEq,true_and] at hf;obtain⟨rfl,rfl⟩:=hf;have hck:=hc k (by rw[aj];exact hkg);have hT:=hV.take k (by rw[aj];omega) (some ⟨b,off,none⟩) L cv (by rw[HL.out]);rw[fk] at hT
    have e1:(aY l)[k]'(by rw[aj];exact hkg)=.string ⟨(l[k]).toArray⟩:=by simp[aY]
    rw[e1] at hck;obtain⟨s,hs⟩:=e_ (l[k]);have hsn:(l.take (k+1))=l.take k++[s]:=(by rw[←hs];exact List.take_succ_eq_append_getElem hkg);have hxs:s.length≤10000:=(by rw[←hs];exact HX.out _ (wv hkg));rw[hs] at hck
    have CMI:=fun (W:World) (hb:Bl w W)=>kN ⟨s.toArray⟩ W (by rw[←ab];exact hxs) (HM.out.ret hb)
    have CC:=fun (W:World) (hb:Bl wr W)=>cL (.slice (some ⟨b,off,none⟩) k cv) (l.take k) s W (hT.ret hb) (by rw[wz];omega)
    have hm2:decide (s∈l.take k)=(l.take k).contains s:=(by simp);rw[hm2] at CC
    have hl1:bg s=false→Z=(co0,2):=fun h=>by
     rw[←HZ.out]
     have:l.all bg=false:=by
      rw[←wA (k+1) l,wt,hsn,wt]
      simp[h]
     rw[this]
     rfl
    have hl2:(l.take k).contains s=true→Z=(co0,2):=fun h=>by
     rw[←HZ.out]
     have:aV l=false:=by
      rw[←wA (k+1) l];exact cB (by rw[hsn,aJ,h];simp)
     rw[this,Bool.and_false]
     rfl
    have hs1:bg s=true→(l.take (k+1)).all bg=true:=fun h=>by
     rw[hsn,wt,hall]
     simp[h]
    have hs2:(l.take k).contains s=false→aV (l.take (k+1))=true:=fun h=>by
     rw[hsn,aJ,h,honce];rfl
    have hs3:bg s=true→NewOk (l.take (k+1)) (dw (l.take (k+1))):=fun h=>by
     rw[hsn,cY];exact hok.snoc h
    have hs4:dw (l.take (k+1))=puO acN (dw (l.take k)) (s,[],0):=(by rw[hsn,cY]);obtain⟨P1,hP1⟩:=e_ (bg s);obtain⟨P2,hP2⟩:=e_ ((l.take k).contains s)
    have hdl:(⟨s.toArray⟩:ByteArray).data.toList=s:=rfl
    rw[hP1] at hl1 hs1 hs3;rw[hP2] at hl2 hs2 CC
    have CMJ:=fun W hb=>show Calls _ _ _ W (Ret W (.bool P1)) from (by have:=CMI W hb;rw[hdl,hP1] at this;exact this)
    have WH:=h_ CMJ;have CC:=h_ CC;have L1:=h_ hl1;have L2:=h_ hl2;have S1:=h_ hs1;have S2:=h_ hs2;have S3:=h_ hs3;have S4:=h_ hs4;have HA:=h_ hA;have HOK:=h_ hok;have HN:=h_ hn;have n8:n≤8:=(by have h1:=hok.len;rw[←hA,List.length_map,wz] at h1;omega);clear CMI CMJ hl1 hl2 hs1 hs2 hs3 hs4 hP1 hP2 hsn hm2 hT hV hc e1 hs hall honce hA hok hn hdl
    cases P1 with
    | false=>
     have:=L1.out (by first | exact rfl | exact trivial);subst this;go_wp2_with fail;refine(WH.out wr q).mono ?_;rintro e w31 ⟨rfl,hb⟩;replace o_a:=o_a.ret hb;replace bs:=bs.ret hb;replace q:=bs.q;clear hb;have c_z0:=bs.b3 0;have f_z0:=bs.g3 0;go_wp2_with fail;clear c_z0 f_z0;obtain⟨w32,hw32,y32,bs⟩:=bs.sets 0 0 [.slice none 0 0,.slice none 0 0,.int .i64 0] rfl (wq rfl);replace o_a:=o_a.sets (by omega) hw32;replace q:=bs.q;simp only[ws,Nat.reduceAdd] at hw32;rw[hw32];exact bodyPost_ret (cZ rfl rfl rfl (bs.box 0 rfl)) rfl (kQ 2 q)
    | true=>
     have q0:=bR wr;go_wp2_with fail;refine(WH.out wr q).mono ?_;rintro e w31 ⟨rfl,hb⟩;replace o_a:=o_a.ret hb;replace bs:=bs.ret hb;replace q:=bs.q;have C1:=h_ (CC.out _ hb);clear hb
     cases P2 with
     | true=>
      have:=L2.out (by first | exact rfl | exact trivial);subst this;go_wp2_with fail;refine(C1.out).mono ?_;rintro e w32 ⟨rfl,hb⟩;replace o_a:=o_a.ret hb;replace bs:=bs.ret hb;replace q:=bs.q;clear hb;have c_z0:=bs.b3 0;have f_z0:=bs.g3 0;go_wp2_with fail;clear c_z0 f_z0;obtain⟨w33,hw33,y33,bs⟩:=bs.sets 0 0 [.slice none 0 0,.slice none 0 0,.int .i64 0] rfl (wq rfl);replace o_a:=o_a.sets (by omega) hw33;replace q:=bs.q;simp only[ws,Nat.reduceAdd] at hw33;rw[hw33];exact bodyPost_ret (cZ rfl rfl rfl (bs.box 0 rfl)) rfl (kQ 2 q)
     | false=>
      go_wp2_with fail;refine(C1.out).mono ?_;rintro e w32 ⟨rfl,hb⟩;replace o_a:=o_a.ret hb;replace bs:=bs.ret hb;replace q:=bs.q;clear hb;have c_z0:=bs.b3 0;go_wp2_with fail;refine(aX a none n c 0 0 0 w32).mono ?_;rintro e w33 ⟨rfl,hb⟩;clear c_z0;replace o_a:=o_a.ret hb;replace bs:=bs.ret hb;replace q:=bs.q;clear hb
      have hB:w.heap.size+1≤w33.heap.size:=bs.lt _ (List.mem_of_getElem? (i:=0) rfl)
      obtain⟨r3,hr3⟩:∃r3:AcI,r3=⟨s,[],(none,0),0⟩:=⟨_,rfl⟩;have hrv:Value.agg #[.string ⟨s.toArray⟩,.slice none 0 0,.int .i64 0]=r3.v:=(by rw[hr3];rfl)
      have hcall:=nZ a c A r3 w33 (by have:=o_a.isL;rw[HN.out];exact this) (by rw[HN.out];omega) (fun y hy=>by
       have h1:y.d∈dw (l.take k):=(by rw[←HA.out];exact List.mem_map_of_mem hy)
       exact HX.out _ (List.mem_of_mem_take (HOK.out.mem _ h1))) (by rw[hr3];exact hxs) (by
       have:=HOK.out.ch;rw[←HA.out,iz] at this;exact this) (HM.out.ret q)
      rw[HN.out] at hcall;have HCA:=h_ hcall;have HR3:=h_ hr3;clear hcall hr3
      have o_e:∀y∈A,acY.own (fun g=>w.heap.size+1≤g∧g<w33.heap.size) y w33:=fun y hy=>acY.ownMono _ _ _ _ (o_a.elem hy) fun _ hl hg=>⟨hg.1,hl⟩
      have c_z0:=bs.b3 0;go_wp2_with fail;refine HCA.out.mono ?_;rintro e w90 ⟨a5,c5,rfl,hown5,hb⟩;clear c_z0
      replace o_e:=fun y hy=>acY.ownRet _ _ _ _ (o_e y hy) hb
      replace o_a:=o_a.ret hb;replace bs:=bs.ret hb;replace q:=bs.q;obtain⟨N5,hN5⟩:=e_ (puO (fun y:AcI=>y.j) A r3);rw[hN5] at hown5 ⊢
      have e5:N5.map AcI.d=dw (l.take (k+1)):=by
       rw[←hN5,S4.out,←HA.out,HR3.out];exact sC (f:=AcI.d) (nm:=acN) A ⟨s,[],(none,0),0⟩
      have o_v:OwU acY (w.heap.size+1) vT (.slice a5 N5.length c5) N5 w90:=by
       refine⟨⟨hown5.mono (wy _),fun g hg=>⟨Nat.le_trans hB (hown5.lt g hg).1,fun e=>by cases e⟩⟩,fun y hy=>?_⟩;rw[←hN5] at hy
       rcases im hy with h | h
       ·exact acY.ownMono _ _ _ _ (o_e y h) fun g _ hg=>⟨⟨hg.1,fun e=>by cases e⟩,fun e=>by have:=(hown5.lt g e).1;have:=hg.2;omega⟩
       ·rw[h,HR3.out];exact⟨OwS.nil _ _ _ _,fun p hp=>by cases hp⟩
      obtain⟨L5,hL5⟩:=e_ N5.length;rw[hL5] at o_v ⊢;have HE5:=h_ e5;have HL5:=h_ hL5;clear hb hB hown5 hN5 e5 hL5 hrv HCA o_a o_e;have c_z0:=bs.b3 0;have f_z0:=bs.g3 0;go_wp2_with fail;clear c_z0 f_z0;obtain⟨w91,hw91,y91,bs⟩:=bs.sets 0 0 [.slice a5 L5 c5] rfl (wq rfl);replace o_v:=o_v.sets (by omega) hw91;replace q:=bs.q;simp only[ws] at hw91;rw[hw91];go_roundw
      case rel=>exact⟨k+1,N5,a5,c5,L5,by omega,by go_num,S1.out (by first | exact rfl | exact trivial),S2.out (by first | exact rfl | exact trivial),HL5.out,HE5.out,S3.out (by first | exact rfl | exact trivial),o_v,bs⟩
      case measure=>simp[intOf];omega
   ·have e:l.take k=l:=List.take_of_length_le (by rw[HL.out];omega)
    rw[e] at hall honce hA;have hZ:=HZ.out;rw[hall,honce] at hZ
    have hZ2:((dw l,[],0),0)=Z:=hZ
    subst hZ2;have HA:=h_ hA;have HN:=h_ hn;clear hall honce e HZ hZ hA hok hn;have c_z0:=bs.b3 0;have f_z0:=bs.g3 0;go_wp2_with fail;clear c_z0 f_z0;obtain⟨w61,hw61,y61,bs⟩:=bs.sets 0 0 [.slice a n c,.slice none 0 0,.int .i64 0] rfl (wq rfl);replace o_a:=o_a.sets (by omega) hw61;replace q:=bs.q;simp only[ws,Nat.reduceAdd] at hw61;rw[hw61];refine bodyPost_ret (cZ rfl rfl rfl (bs.box 0 rfl)) rfl ⟨⟨A,(a,c),[],(none,0),0⟩,?_,?_,⟨?_,OwL.nil _ _ _⟩,q⟩
    ·show _=Ending.returned (.tuple #[.agg #[.slice a A.length c,.slice none 0 0,.int .i64 0],.int .i64 0])
     rw[HN.out]
     rfl
    ·show (A.map AcI.d,[],0)=_
     rw[HA.out]
    ·show OwL acY _ (.slice a A.length c) A _
     rw[HN.out]
     exact OwL.mono o_a.own fun g _ hg=>by omega
 ·rw[decide_eq_false h8,ww] at hZ
  have hZ2:(co0,2)=Z:=hZ
  subst hZ2
  have w8:(8:Int)<(L:Int):=by omega
  clear hZ;obtain⟨W0,hW,y0,bs⟩:=Sx.start1 w [.slice none 0 0,.slice none 0 0,.int .i64 0] 25;have HW:=h_ hW;clear hW;have q:=bs.q;go_enter func15,ntmps15;go_wp2_with fail;rw[HW.out];exact bodyPost_ret (cZ rfl rfl rfl (bs.box 0 rfl)) rfl (kQ 2 q)


section
variable {w0 w w':World} {bs:Bs} {ad:List Nat} {c:CoI}
end

end Go.Proofs.YtjgeiieiinmdnaaGreatDoor
