/- The document's SameAttrs, Same of trees, SameLoad, SameRes. PRINTED BY PROGRAM (gen_gre.py). -/
import Derived.Test.YtjgeiieiinmdnaaGreatDoorLk
import Derived.Test.YtjgeiieiinmdnaaGreatDoorLk
open Go.Proofs.Tryz
open Bool renaming false_eq_true→wF
open Go.Act renaming put→wq
open Go.RowKit.Below renaming drew→wz
open Go.Value.slice renaming injEq→wB
open Go.World renaming drewN_drewN→wG
open List renaming setIfInBounds_toArray→ws,set_cons_zero→wt,set_cons_succ→wu,getElem_map→ww,length_map→wy,getElem?_eq_getElem→wA,getElem_mem→wC,take_of_length_le→wD,length→wI,map_id→wK
open Nat renaming zero_le→wH
open Option renaming getD_some→wE
open Option.some renaming inj→wv
namespace Go.Proofs.YtjgeiieiinmdnaaGreatDoor
set_option maxHeartbeats 4000000
set_option maxRecDepth 100000
open Go.RowKit Go.Lib

def vx (w:World) (v:Value) (e:Ending) (w':World):Prop:=e=.returned v∧∃m,w'=w.drewN m
theorem vx.ret {P:Program} {f:FuncId} {args:Array Value} {w:World} {v:Value} (h:Calls P f args w (vx w v)):Calls P f args w (Ret w v):=h.mono fun e w' ⟨h1,m,h2⟩=>⟨h1,by rw[h2];exact below_drewN w m⟩
section
variable {P:Program} {ops:Array Oper} {Q:Exit→Act→World→Prop} {md:Region.Mode} {S:World→Prop}
theorem aT {i:Nat} {d:Option Tmp} {r:List (Nat×Option Tmp)} {fuel:Nat} {listed:Array Bool} {a:Act} {w:World} (hd:(ops[i]?).map (fun o=>(o.dst,Region.wanted o (yielded ops a.tmps)))=some (d,false))
  (hc:(Region.noSelect ops&&(Region.free md ops listed i&&(Region.ready md ops listed).contains i))=true)
  (hQ:∀c a' w',Q (.panic c) (a'.put d undef) w'→Q (.panic c) a' w') (hS:S w)
  (h:mR r (wpAnyH P md ops Q S fuel (listed.setIfInBounds i true) (a.put d undef) w)):mR ((i,d) :: r) (wpAnyH P md ops Q S (fuel+1) listed a w):=by
 simp only[Bool.and_eq_true] at hc;exact rz d hd hc.1 hc.2.1 hc.2.2 hQ hS h
end
theorem fi (a b:List UInt8):((⟨a.toArray⟩:ByteArray).toList==(⟨b.toArray⟩:ByteArray).toList)=decide (a=b):=by by_cases h:a=b <;> simp[h]
theorem fN (v u:Value) (M K:List At) (w:World) (hv:IsL atY v M w) (hu:IsL atY u K w) (hM:M.length≤100000) (hK:K.length≤100000):
  Calls prog 169 #[v,u] w (vx w (.bool (decide (M.map id=K.map id)))):=by
 obtain⟨a,ca,hf1,-⟩:=hv.form;obtain⟨b,cb,hf2,-⟩:=hu.form;obtain⟨O,hO⟩:=e_ (decide (M.map id=K.map id));obtain⟨L,hL⟩:=e_ M.length;obtain⟨L',hL'⟩:=e_ K.length;rw[hL] at hf1 hM;rw[hL'] at hf2 hK;rw[hO];subst hf1 hf2
 by_cases hlen:L=L'
 ·subst hlen
  have HO:=h_ hO;have HL:=h_ hL;have HL':=h_ hL';have HV:=h_ hv;have HU:=h_ hu;clear hO hL hL' hv hu;go_enter func169,ntmps169;go_wp2_with fail;go_loopw [5] (fun i wx=>∃k:Nat,k≤L∧i=.int .i64 k∧(M.map id).take k=(K.map id).take k∧∃m,wx=w.drewN m) (fun i _=>L-(intOf i).toNat)
  case atStart=>exact⟨0,wH _,rfl,rfl,0,rfl⟩
  case round=>
   obtain⟨k,hk,rfl,htk,m,hm⟩:=hrel;have q:Bl w wr:=(by rw[hm];exact below_drewN w m);have HM:=h_ hm;clear hm
   by_cases hlt:k<L
   ·have hkM : k < M.length := by rw [HL.out]; exact hlt
    have hkK:k<K.length:=(by rw[HL'.out];exact hlt);obtain⟨x,hx⟩:=e_ (M[k]);obtain⟨y,hy⟩:=e_ (K[k]);obtain⟨B,off,cp,hf,-,hc⟩:=HV.out.cells (k:=k) (x:=x) (by rw[wA hkM,hx]);rw[HL.out] at hf;simp only[wB,true_and] at hf;obtain⟨rfl,rfl⟩:=hf;obtain⟨B',off',cp',hf,-,he⟩:=HU.out.cells (k:=k) (x:=y) (by rw[wA hkK,hy]);rw[HL'.out] at hf;simp only[wB,true_and] at hf;obtain⟨rfl,rfl⟩:=hf;have hxm:x∈M:=(by rw[←hx];exact wC hkM);have hym:y∈K:=(by rw[←hy];exact wC hkK);have hkm:k<(M.map id).length:=(by simpa using hkM);have hkk:k<(K.map id).length:=(by simpa using hkK)
    have hst:id x=id y→(M.map id).take (k+1)=(K.map id).take (k+1):=fun h=>cg hkm hkk htk (by rw[ww,ww,hx,hy];exact h)
    have hno:id x≠id y→O=false:=fun h=>by
     rw[←HO.out];exact decide_eq_false (ek hkm hkk (by rw[ww,ww,hx,hy];exact h))
    have HC:=h_ hc;have HE:=h_ he;have HS:=h_ hst;have HN:=h_ hno;have wl:(k:Int)<(L:Int):=(by omega);clear hc he hx hy hkm hkk htk hkM hkK hst hno
    have c0:wr.cell? ⟨B,off+k*3,none⟩=some (.string ⟨x.1.toArray⟩):=HC.out wr q 0 _ rfl
    have c1:wr.cell? ⟨B,off+k*3+1,none⟩=some (.string ⟨x.2.1.toArray⟩):=HC.out wr q 1 _ rfl
    have c2:wr.cell? ⟨B,off+k*3+2,none⟩=some (.string ⟨x.2.2.toArray⟩):=HC.out wr q 2 _ rfl
    have e0:wr.cell? ⟨B',off'+k*3,none⟩=some (.string ⟨y.1.toArray⟩):=HE.out wr q 0 _ rfl
    have e1:wr.cell? ⟨B',off'+k*3+1,none⟩=some (.string ⟨y.2.1.toArray⟩):=HE.out wr q 1 _ rfl
    have e2:wr.cell? ⟨B',off'+k*3+2,none⟩=some (.string ⟨y.2.2.toArray⟩):=HE.out wr q 2 _ rfl
    have eqx:x=y↔x.1=y.1∧x.2.1=y.2.1∧x.2.2=y.2.2:=⟨fun h=>by rw[h];exact⟨rfl,rfl,rfl⟩,fun ⟨h1,h2,h3⟩=>Prod.ext h1 (Prod.ext h2 h3)⟩
    have EX:=h_ eqx;clear eqx
    by_cases g0:x.1=y.1
    ·skip
     by_cases g1:x.2.1=y.2.1
     ·skip
      by_cases g2:x.2.2=y.2.2
      ·skip
       have HT:=h_ (HS.out (EX.out.2 ⟨g0,g1,g2⟩));go_wp2_with fail;go_quiet (fail);go_wp2_with fail;go_roundw
       case rel=>exact⟨k+1,by omega,by go_num,HT.out,m+nq,by rw[HM.out,wG]⟩
       case measure=>simp[intOf];omega
      ·have hOf:=HN.out (fun h=>g2 (EX.out.1 h).2.2)
       subst hOf;go_wp2_with fail;go_quiet (fail);go_wp2_with fail;go_ret;exact⟨rfl,m+nq,by rw[HM.out,wG]⟩
     ·have hOf:=HN.out (fun h=>g1 (EX.out.1 h).2.1)
      subst hOf;go_wp2_with fail;go_quiet (fail);go_wp2_with fail;go_ret;exact⟨rfl,m+nq,by rw[HM.out,wG]⟩
    ·have hOf:=HN.out (fun h=>g0 (EX.out.1 h).1)
     subst hOf;go_wp2_with fail;go_quiet (fail);go_wp2_with fail;go_ret;exact⟨rfl,m+nq,by rw[HM.out,wG]⟩
   ·have e1:(M.map id).take k=M.map id:=wD (by rw[wy,HL.out];omega)
    have e2:(K.map id).take k=K.map id:=wD (by rw[wy,HL'.out];omega)
    rw[e1,e2] at htk;have:O=true:=(by rw[←HO.out];exact decide_eq_true htk);subst this;clear e1 e2 htk;go_wp2_with fail;go_ret;exact⟨rfl,m,HM.out⟩
 ·have:O=false:=by
   rw[←hO]
   refine decide_eq_false fun h=>hlen ?_
   have:=congrArg wI h;rw[wy,wy,hL,hL'] at this;exact this
  subst this
  have wl:¬ (L:Int)=(L':Int):=by omega
  clear hO hL hL' hv hu;go_enter func169,ntmps169;go_wp2_with fail;go_ret;exact⟨rfl,0,rfl⟩
theorem iD (v u:Value) (M K:List At) (w:World) (hv:IsL atY v M w) (hu:IsL atY u K w) (hM:M.length≤100000) (hK:K.length≤100000):
  Calls prog 169 #[v,u] w (vx w (.bool (decide (M=K)))):=by
 have h:=fN v u M K w hv hu hM hK;rw[wK,wK] at h;exact h
def dE (n:Nat):Code→Option (Array Oper)
 | .region id ops _=>if id==n then some ops else none
 | .seq a b=>match dE n a with
  | some x=>some x
  | none=>dE n b
 | .cond _ a b=>match dE n a with
  | some x=>some x
  | none=>dE n b
 | .block _ b=>dE n b
 | .loop b=>dE n b
 | .scope b=>dE n b
 | _=>none
noncomputable def opsS:Array Oper:=(dE 6 (Tryz.f125.body.getD .skip)).getD #[]
theorem mh {P:Program} {c c':Code} {Q:Exit→Act→World→Prop} {a:Act} {w:World} (h:c=c') (hw:Code.wp P c Q a w):Code.wp P c' Q a w:=h ▸ hw
theorem p8 {Kc:Exit→Act→World→Prop} {x2 x3 x4 x6 x7 x8 x9 x10 x11 x12 x13 x14 x15 x16 x17 x18 x19 x20 x21 x22 x23 x24 x25 x26 x27 x28 x29 x30 x31 x32 x33 x34 x35 x36 x37 x38 x39 x40 x41 x42 x43 x44 x45 x46 x47 x48 x49 x50 x51 x52 x53 x54 x55 x56 x57 x58 x59 x60 x61 x62 x63 x64 x65 x66 x67 x68 x69 x70 x71 x72 x73 x74 x75 x76 x77 x78 x79 x80 x81 x82 x83 x84 x85 x86 x87 x88 x89 x90 x91 x92 x93:Value} {w wr:World} {B off L ca B' off' cb k XL xc YL yc:Nat} {xa ya:Option Addr} {a1 n1 a2 n2:Int} {s1 s2 s3 s4 s5 s6:ByteArray}
  (HC2:Hid (∀w',Bl w w'→w'.cell? ⟨B,off+k*6,none⟩=some (.int .u8 a1)∧w'.cell? ⟨B,off+k*6+1,none⟩=some (.string s1)∧w'.cell? ⟨B,off+k*6+2,none⟩=some (.string s3)∧w'.cell? ⟨B,off+k*6+3,none⟩=some (.slice xa XL xc)∧w'.cell? ⟨B,off+k*6+4,none⟩=some (.string s5)∧w'.cell? ⟨B,off+k*6+5,none⟩=some (.int .i64 n1))) (HE2:Hid (∀w',Bl w w'→w'.cell? ⟨B',off'+k*6,none⟩=some (.int .u8 a2)∧w'.cell? ⟨B',off'+k*6+1,none⟩=some (.string s2)∧w'.cell? ⟨B',off'+k*6+2,none⟩=some (.string s4)∧w'.cell? ⟨B',off'+k*6+3,none⟩=some (.slice ya YL yc)∧w'.cell? ⟨B',off'+k*6+4,none⟩=some (.string s6)∧w'.cell? ⟨B',off'+k*6+5,none⟩=some (.int .i64 n2))) (bs:Sx w [] wr) (wl:(k:Int)<(L:Int)) (e1:(a1==a2)=false)
  (hp:∀c (a:Act) t v w',Kc (.panic c) (a.put (some t) v) w'→Kc (.panic c) a w') (h:∀y17 y18 y19 y20 y21 y22 y23 y24 y25 y26 y27 y28 y29 y30 y31 y32 y33 y34 y35 y36 y37 y38 y39 y40 y41 y42 y43 y44 y45 y46 y47 y48 y49 y50 y51 y52 y53 y54 y55 y56 y57 y58 y59 y60 y61 y62 y63 y64 y65 y66 y67 y68 y69 y70 y71 y72 y73 y74 y75 y76 y77 y78 y79 y80 y81 y82 y83 y84 y85 y86 y87 y88 y89 y90 y91 y92 w',Sx w [] w'→Kc .normal {tmps:=#[.slice (some ⟨B,off,none⟩) L ca,.slice (some ⟨B',off',none⟩) L cb,x2,x3,x4,.int .i64 k,x6,x7,x8,x9,x10,x11,x12,x13,x14,x15,x16,y17,y18,y19,y20,y21,y22,y23,y24,y25,y26,y27,y28,y29,y30,y31,y32,y33,y34,y35,y36,y37,y38,y39,y40,y41,y42,y43,y44,y45,y46,y47,y48,y49,y50,y51,y52,y53,y54,y55,y56,y57,y58,y59,y60,y61,y62,y63,y64,y65,y66,y67,y68,y69,y70,y71,y72,y73,y74,y75,y76,y77,y78,y79,y80,y81,y82,y83,y84,y85,y86,y87,y88,y89,y90,y91,y92,.bool true],defers:=[]} w'):Code.wp prog (Code.region 6 opsS true) Kc {tmps:=#[.slice (some ⟨B,off,none⟩) L ca,.slice (some ⟨B',off',none⟩) L cb,x2,x3,x4,.int .i64 k,x6,x7,x8,x9,x10,x11,x12,x13,x14,x15,x16,x17,x18,x19,x20,x21,x22,x23,x24,x25,x26,x27,x28,x29,x30,x31,x32,x33,x34,x35,x36,x37,x38,x39,x40,x41,x42,x43,x44,x45,x46,x47,x48,x49,x50,x51,x52,x53,x54,x55,x56,x57,x58,x59,x60,x61,x62,x63,x64,x65,x66,x67,x68,x69,x70,x71,x72,x73,x74,x75,x76,x77,x78,x79,x80,x81,x82,x83,x84,x85,x86,x87,x88,x89,x90,x91,x92,x93],defers:=[]} wr:=by
 have q:=bs.q;have h:=h_ h;have hp:=h_ hp;unfold opsS;simp only[Tryz.f125,wE,dE,Nat.reduceBEq,wF,if_false,if_true]
 have f1:(a1 != a2)=true:=by rw[bne,e1];rfl
 replace bs:=bs.ret (wz (bQ _));replace q:=bs.q
 have y11:wr.drew.heap.size=wr.heap.size:=rfl
 refine wp_region_held_drew (S:=fun w'=>w'.cell? ⟨B,off+k*6,none⟩=some (.int .u8 a1)∧w'.cell? ⟨B,off+k*6+1,none⟩=some (.string s1)∧w'.cell? ⟨B,off+k*6+2,none⟩=some (.string s3)∧w'.cell? ⟨B,off+k*6+3,none⟩=some (.slice xa XL xc)∧w'.cell? ⟨B,off+k*6+4,none⟩=some (.string s5)∧w'.cell? ⟨B,off+k*6+5,none⟩=some (.int .i64 n1)∧w'.cell? ⟨B',off'+k*6,none⟩=some (.int .u8 a2)∧w'.cell? ⟨B',off'+k*6+1,none⟩=some (.string s2)∧w'.cell? ⟨B',off'+k*6+2,none⟩=some (.string s4)∧w'.cell? ⟨B',off'+k*6+3,none⟩=some (.slice ya YL yc)∧w'.cell? ⟨B',off'+k*6+4,none⟩=some (.string s6)∧w'.cell? ⟨B',off'+k*6+5,none⟩=some (.int .i64 n2)) (by kernel_rfl) ⟨(HC2.out _ q).1,(HC2.out _ q).2.1,(HC2.out _ q).2.2.1,(HC2.out _ q).2.2.2.1,(HC2.out _ q).2.2.2.2.1,(HC2.out _ q).2.2.2.2.2,(HE2.out _ q).1,(HE2.out _ q).2.1,(HE2.out _ q).2.2.1,(HE2.out _ q).2.2.2.1,(HE2.out _ q).2.2.2.2.1,(HE2.out _ q).2.2.2.2.2⟩ (fun hH=>?_);generalize wr.drew=w11 at bs q y11 hH ⊢;refine rS [(0,some 17),(1,some 18),(2,some 19),(3,some 20),(4,some 21),(5,some 22),(6,some 23),(7,some 24),(8,some 25),(9,some 26),(10,some 27),(11,some 28)] ?_
 iterate 12
  refine aG (v:=?_) (by kernel_rfl) (by kernel_rfl) (fun c a2 w2=>hp.out c a2 _ _ w2) (by assumption) (fun o ho w' hSw=>?_) ?_;rotate_left
  ·have ho2:=wv (show some _=some o from ho);subst ho2;(try dsimp only at hSw);go_simp;try with_reducible rfl
  simp only[wq,ws,wt,wu]
 refine rE ?_;refine rS [(12,some 29),(13,some 30),(14,some 31),(15,some 32),(16,some 33),(17,some 34),(18,some 35),(19,some 36),(20,some 37),(21,some 38),(22,some 39)] ?_
 iterate 11
  refine aT (by kernel_rfl) (by kernel_rfl) (fun c a2 w2=>hp.out c a2 _ _ w2) (by assumption) ?_;simp only[wq,ws,wt,wu]
 refine rE ?_;refine rS [(23,some 40),(24,some 41)] ?_
 iterate 2
  refine aG (v:=?_) (by kernel_rfl) (by kernel_rfl) (fun c a2 w2=>hp.out c a2 _ _ w2) (by assumption) (fun o ho w' hSw=>?_) ?_;rotate_left
  ·have ho2:=wv (show some _=some o from ho);subst ho2;(try dsimp only at hSw);go_simp;try with_reducible rfl
  simp only[wq,ws,wt,wu]
 refine rE ?_;refine rS [(25,some 42),(26,some 43),(27,some 44),(28,some 45),(29,some 46),(30,some 47),(31,some 48),(32,some 49),(33,some 50),(34,some 51),(35,some 52)] ?_
 iterate 11
  refine aT (by kernel_rfl) (by kernel_rfl) (fun c a2 w2=>hp.out c a2 _ _ w2) (by assumption) ?_;simp only[wq,ws,wt,wu]
 refine rE ?_;refine rS [(36,some 53),(37,some 54)] ?_
 iterate 2
  refine aG (v:=?_) (by kernel_rfl) (by kernel_rfl) (fun c a2 w2=>hp.out c a2 _ _ w2) (by assumption) (fun o ho w' hSw=>?_) ?_;rotate_left
  ·have ho2:=wv (show some _=some o from ho);subst ho2;(try dsimp only at hSw);go_simp;try with_reducible rfl
  simp only[wq,ws,wt,wu]
 refine rE ?_;refine rS [(38,some 55),(39,some 56),(40,some 57),(41,some 58),(42,some 59),(43,some 60),(44,some 61),(45,some 62),(46,some 63),(47,some 64),(48,some 65)] ?_
 iterate 11
  refine aT (by kernel_rfl) (by kernel_rfl) (fun c a2 w2=>hp.out c a2 _ _ w2) (by assumption) ?_;simp only[wq,ws,wt,wu]
 refine rE ?_;refine rS [(49,some 66),(50,some 67)] ?_
 iterate 2
  refine aG (v:=?_) (by kernel_rfl) (by kernel_rfl) (fun c a2 w2=>hp.out c a2 _ _ w2) (by assumption) (fun o ho w' hSw=>?_) ?_;rotate_left
  ·have ho2:=wv (show some _=some o from ho);subst ho2;(try dsimp only at hSw);go_simp;try with_reducible rfl
  simp only[wq,ws,wt,wu]
 refine rE ?_;refine rS [(51,some 68),(52,some 69),(53,some 70),(54,some 71),(55,some 72),(56,some 73),(57,some 74),(58,some 75),(59,some 76),(60,some 77),(61,some 78)] ?_
 iterate 11
  refine aT (by kernel_rfl) (by kernel_rfl) (fun c a2 w2=>hp.out c a2 _ _ w2) (by assumption) ?_;simp only[wq,ws,wt,wu]
 refine rE ?_;refine rS [(62,some 79),(63,some 80)] ?_
 iterate 2
  refine aG (v:=?_) (by kernel_rfl) (by kernel_rfl) (fun c a2 w2=>hp.out c a2 _ _ w2) (by assumption) (fun o ho w' hSw=>?_) ?_;rotate_left
  ·have ho2:=wv (show some _=some o from ho);subst ho2;(try dsimp only at hSw);go_simp;try with_reducible rfl
  simp only[wq,ws,wt,wu]
 refine rE ?_;refine rS [(64,some 81),(65,some 82),(66,some 83),(67,some 84),(68,some 85),(69,some 86),(70,some 87),(71,some 88),(72,some 89),(73,some 90),(74,some 91),(75,some 92)] ?_
 iterate 12
  refine aT (by kernel_rfl) (by kernel_rfl) (fun c a2 w2=>hp.out c a2 _ _ w2) (by assumption) ?_;simp only[wq,ws,wt,wu]
 refine rE ?_;refine ja (i:=76) (some 93) (v:=?_) (by kernel_rfl) (by kernel_rfl) (by kernel_rfl) (by kernel_rfl) (fun c a2 w2=>hp.out c a2 _ _ w2) (by assumption) (fun o ho w' hSw=>?_) ?_;rotate_left
 ·(have ho2:=wv (show some _=some o from ho);subst ho2;(try dsimp only at hSw);go_simp;try with_reducible rfl)
 simp only[wq,ws,wt,wu];refine aD ?_;clear hH;exact h.out _ _ _ _ _ _ _ _ _ _ _ _ _ _ _ _ _ _ _ _ _ _ _ _ _ _ _ _ _ _ _ _ _ _ _ _ _ _ _ _ _ _ _ _ _ _ _ _ _ _ _ _ _ _ _ _ _ _ _ _ _ _ _ _ _ _ _ _ _ _ _ _ _ _ _ _ _ bs
theorem qZ {Kc:Exit→Act→World→Prop} {x2 x3 x4 x6 x7 x8 x9 x10 x11 x12 x13 x14 x15 x16 x17 x18 x19 x20 x21 x22 x23 x24 x25 x26 x27 x28 x29 x30 x31 x32 x33 x34 x35 x36 x37 x38 x39 x40 x41 x42 x43 x44 x45 x46 x47 x48 x49 x50 x51 x52 x53 x54 x55 x56 x57 x58 x59 x60 x61 x62 x63 x64 x65 x66 x67 x68 x69 x70 x71 x72 x73 x74 x75 x76 x77 x78 x79 x80 x81 x82 x83 x84 x85 x86 x87 x88 x89 x90 x91 x92 x93:Value} {w wr:World} {B off L ca B' off' cb k XL xc YL yc:Nat} {xa ya:Option Addr} {a1 n1 a2 n2:Int} {s1 s2 s3 s4 s5 s6:ByteArray}
  (HC2:Hid (∀w',Bl w w'→w'.cell? ⟨B,off+k*6,none⟩=some (.int .u8 a1)∧w'.cell? ⟨B,off+k*6+1,none⟩=some (.string s1)∧w'.cell? ⟨B,off+k*6+2,none⟩=some (.string s3)∧w'.cell? ⟨B,off+k*6+3,none⟩=some (.slice xa XL xc)∧w'.cell? ⟨B,off+k*6+4,none⟩=some (.string s5)∧w'.cell? ⟨B,off+k*6+5,none⟩=some (.int .i64 n1))) (HE2:Hid (∀w',Bl w w'→w'.cell? ⟨B',off'+k*6,none⟩=some (.int .u8 a2)∧w'.cell? ⟨B',off'+k*6+1,none⟩=some (.string s2)∧w'.cell? ⟨B',off'+k*6+2,none⟩=some (.string s4)∧w'.cell? ⟨B',off'+k*6+3,none⟩=some (.slice ya YL yc)∧w'.cell? ⟨B',off'+k*6+4,none⟩=some (.string s6)∧w'.cell? ⟨B',off'+k*6+5,none⟩=some (.int .i64 n2))) (bs:Sx w [] wr) (wl:(k:Int)<(L:Int)) (e1:(a1==a2)=true) (e2:(s1.toList==s2.toList)=false)
  (hp:∀c (a:Act) t v w',Kc (.panic c) (a.put (some t) v) w'→Kc (.panic c) a w') (h:∀y17 y18 y19 y20 y21 y22 y23 y24 y25 y26 y27 y28 y29 y30 y31 y32 y33 y34 y35 y36 y37 y38 y39 y40 y41 y42 y43 y44 y45 y46 y47 y48 y49 y50 y51 y52 y53 y54 y55 y56 y57 y58 y59 y60 y61 y62 y63 y64 y65 y66 y67 y68 y69 y70 y71 y72 y73 y74 y75 y76 y77 y78 y79 y80 y81 y82 y83 y84 y85 y86 y87 y88 y89 y90 y91 y92 w',Sx w [] w'→Kc .normal {tmps:=#[.slice (some ⟨B,off,none⟩) L ca,.slice (some ⟨B',off',none⟩) L cb,x2,x3,x4,.int .i64 k,x6,x7,x8,x9,x10,x11,x12,x13,x14,x15,x16,y17,y18,y19,y20,y21,y22,y23,y24,y25,y26,y27,y28,y29,y30,y31,y32,y33,y34,y35,y36,y37,y38,y39,y40,y41,y42,y43,y44,y45,y46,y47,y48,y49,y50,y51,y52,y53,y54,y55,y56,y57,y58,y59,y60,y61,y62,y63,y64,y65,y66,y67,y68,y69,y70,y71,y72,y73,y74,y75,y76,y77,y78,y79,y80,y81,y82,y83,y84,y85,y86,y87,y88,y89,y90,y91,y92,.bool true],defers:=[]} w'):Code.wp prog (Code.region 6 opsS true) Kc {tmps:=#[.slice (some ⟨B,off,none⟩) L ca,.slice (some ⟨B',off',none⟩) L cb,x2,x3,x4,.int .i64 k,x6,x7,x8,x9,x10,x11,x12,x13,x14,x15,x16,x17,x18,x19,x20,x21,x22,x23,x24,x25,x26,x27,x28,x29,x30,x31,x32,x33,x34,x35,x36,x37,x38,x39,x40,x41,x42,x43,x44,x45,x46,x47,x48,x49,x50,x51,x52,x53,x54,x55,x56,x57,x58,x59,x60,x61,x62,x63,x64,x65,x66,x67,x68,x69,x70,x71,x72,x73,x74,x75,x76,x77,x78,x79,x80,x81,x82,x83,x84,x85,x86,x87,x88,x89,x90,x91,x92,x93],defers:=[]} wr:=by
 have q:=bs.q;have h:=h_ h;have hp:=h_ hp;unfold opsS;simp only[Tryz.f125,wE,dE,Nat.reduceBEq,wF,if_false,if_true]
 have f1:(a1 != a2)=false:=by rw[bne,e1];rfl
 have f2:(s1.toList != s2.toList)=true:=by rw[bne,e2];rfl
 replace bs:=bs.ret (wz (bQ _));replace q:=bs.q
 have y11:wr.drew.heap.size=wr.heap.size:=rfl
 refine wp_region_held_drew (S:=fun w'=>w'.cell? ⟨B,off+k*6,none⟩=some (.int .u8 a1)∧w'.cell? ⟨B,off+k*6+1,none⟩=some (.string s1)∧w'.cell? ⟨B,off+k*6+2,none⟩=some (.string s3)∧w'.cell? ⟨B,off+k*6+3,none⟩=some (.slice xa XL xc)∧w'.cell? ⟨B,off+k*6+4,none⟩=some (.string s5)∧w'.cell? ⟨B,off+k*6+5,none⟩=some (.int .i64 n1)∧w'.cell? ⟨B',off'+k*6,none⟩=some (.int .u8 a2)∧w'.cell? ⟨B',off'+k*6+1,none⟩=some (.string s2)∧w'.cell? ⟨B',off'+k*6+2,none⟩=some (.string s4)∧w'.cell? ⟨B',off'+k*6+3,none⟩=some (.slice ya YL yc)∧w'.cell? ⟨B',off'+k*6+4,none⟩=some (.string s6)∧w'.cell? ⟨B',off'+k*6+5,none⟩=some (.int .i64 n2)) (by kernel_rfl) ⟨(HC2.out _ q).1,(HC2.out _ q).2.1,(HC2.out _ q).2.2.1,(HC2.out _ q).2.2.2.1,(HC2.out _ q).2.2.2.2.1,(HC2.out _ q).2.2.2.2.2,(HE2.out _ q).1,(HE2.out _ q).2.1,(HE2.out _ q).2.2.1,(HE2.out _ q).2.2.2.1,(HE2.out _ q).2.2.2.2.1,(HE2.out _ q).2.2.2.2.2⟩ (fun hH=>?_);generalize wr.drew=w11 at bs q y11 hH ⊢;refine rS [(0,some 17),(1,some 18),(2,some 19),(3,some 20),(4,some 21),(5,some 22),(6,some 23),(7,some 24),(8,some 25),(9,some 26),(10,some 27),(11,some 28),(12,some 29),(13,some 30),(14,some 31),(15,some 32),(16,some 33),(17,some 34),(18,some 35),(19,some 36),(20,some 37),(21,some 38),(22,some 39),(23,some 40),(24,some 41)] ?_
 iterate 25
  refine aG (v:=?_) (by kernel_rfl) (by kernel_rfl) (fun c a2 w2=>hp.out c a2 _ _ w2) (by assumption) (fun o ho w' hSw=>?_) ?_;rotate_left
  ·have ho2:=wv (show some _=some o from ho);subst ho2;(try dsimp only at hSw);go_simp;try with_reducible rfl
  simp only[wq,ws,wt,wu]
 refine rE ?_;refine rS [(25,some 42),(26,some 43),(27,some 44),(28,some 45),(29,some 46),(30,some 47),(31,some 48),(32,some 49),(33,some 50),(34,some 51),(35,some 52)] ?_
 iterate 11
  refine aT (by kernel_rfl) (by kernel_rfl) (fun c a2 w2=>hp.out c a2 _ _ w2) (by assumption) ?_;simp only[wq,ws,wt,wu]
 refine rE ?_;refine rS [(36,some 53),(37,some 54)] ?_
 iterate 2
  refine aG (v:=?_) (by kernel_rfl) (by kernel_rfl) (fun c a2 w2=>hp.out c a2 _ _ w2) (by assumption) (fun o ho w' hSw=>?_) ?_;rotate_left
  ·have ho2:=wv (show some _=some o from ho);subst ho2;(try dsimp only at hSw);go_simp;try with_reducible rfl
  simp only[wq,ws,wt,wu]
 refine rE ?_;refine rS [(38,some 55),(39,some 56),(40,some 57),(41,some 58),(42,some 59),(43,some 60),(44,some 61),(45,some 62),(46,some 63),(47,some 64),(48,some 65)] ?_
 iterate 11
  refine aT (by kernel_rfl) (by kernel_rfl) (fun c a2 w2=>hp.out c a2 _ _ w2) (by assumption) ?_;simp only[wq,ws,wt,wu]
 refine rE ?_;refine rS [(49,some 66),(50,some 67)] ?_
 iterate 2
  refine aG (v:=?_) (by kernel_rfl) (by kernel_rfl) (fun c a2 w2=>hp.out c a2 _ _ w2) (by assumption) (fun o ho w' hSw=>?_) ?_;rotate_left
  ·have ho2:=wv (show some _=some o from ho);subst ho2;(try dsimp only at hSw);go_simp;try with_reducible rfl
  simp only[wq,ws,wt,wu]
 refine rE ?_;refine rS [(51,some 68),(52,some 69),(53,some 70),(54,some 71),(55,some 72),(56,some 73),(57,some 74),(58,some 75),(59,some 76),(60,some 77),(61,some 78)] ?_
 iterate 11
  refine aT (by kernel_rfl) (by kernel_rfl) (fun c a2 w2=>hp.out c a2 _ _ w2) (by assumption) ?_;simp only[wq,ws,wt,wu]
 refine rE ?_;refine rS [(62,some 79),(63,some 80)] ?_
 iterate 2
  refine aG (v:=?_) (by kernel_rfl) (by kernel_rfl) (fun c a2 w2=>hp.out c a2 _ _ w2) (by assumption) (fun o ho w' hSw=>?_) ?_;rotate_left
  ·have ho2:=wv (show some _=some o from ho);subst ho2;(try dsimp only at hSw);go_simp;try with_reducible rfl
  simp only[wq,ws,wt,wu]
 refine rE ?_;refine rS [(64,some 81),(65,some 82),(66,some 83),(67,some 84),(68,some 85),(69,some 86),(70,some 87),(71,some 88),(72,some 89),(73,some 90),(74,some 91),(75,some 92)] ?_
 iterate 12
  refine aT (by kernel_rfl) (by kernel_rfl) (fun c a2 w2=>hp.out c a2 _ _ w2) (by assumption) ?_;simp only[wq,ws,wt,wu]
 refine rE ?_;refine ja (i:=76) (some 93) (v:=?_) (by kernel_rfl) (by kernel_rfl) (by kernel_rfl) (by kernel_rfl) (fun c a2 w2=>hp.out c a2 _ _ w2) (by assumption) (fun o ho w' hSw=>?_) ?_;rotate_left
 ·(have ho2:=wv (show some _=some o from ho);subst ho2;(try dsimp only at hSw);go_simp;try with_reducible rfl)
 simp only[wq,ws,wt,wu];refine aD ?_;clear hH;exact h.out _ _ _ _ _ _ _ _ _ _ _ _ _ _ _ _ _ _ _ _ _ _ _ _ _ _ _ _ _ _ _ _ _ _ _ _ _ _ _ _ _ _ _ _ _ _ _ _ _ _ _ _ _ _ _ _ _ _ _ _ _ _ _ _ _ _ _ _ _ _ _ _ _ _ _ _ _ bs
theorem qn {Kc:Exit→Act→World→Prop} {x2 x3 x4 x6 x7 x8 x9 x10 x11 x12 x13 x14 x15 x16 x17 x18 x19 x20 x21 x22 x23 x24 x25 x26 x27 x28 x29 x30 x31 x32 x33 x34 x35 x36 x37 x38 x39 x40 x41 x42 x43 x44 x45 x46 x47 x48 x49 x50 x51 x52 x53 x54 x55 x56 x57 x58 x59 x60 x61 x62 x63 x64 x65 x66 x67 x68 x69 x70 x71 x72 x73 x74 x75 x76 x77 x78 x79 x80 x81 x82 x83 x84 x85 x86 x87 x88 x89 x90 x91 x92 x93:Value} {w wr:World} {B off L ca B' off' cb k XL xc YL yc:Nat} {xa ya:Option Addr} {a1 n1 a2 n2:Int} {s1 s2 s3 s4 s5 s6:ByteArray}
  (HC2:Hid (∀w',Bl w w'→w'.cell? ⟨B,off+k*6,none⟩=some (.int .u8 a1)∧w'.cell? ⟨B,off+k*6+1,none⟩=some (.string s1)∧w'.cell? ⟨B,off+k*6+2,none⟩=some (.string s3)∧w'.cell? ⟨B,off+k*6+3,none⟩=some (.slice xa XL xc)∧w'.cell? ⟨B,off+k*6+4,none⟩=some (.string s5)∧w'.cell? ⟨B,off+k*6+5,none⟩=some (.int .i64 n1))) (HE2:Hid (∀w',Bl w w'→w'.cell? ⟨B',off'+k*6,none⟩=some (.int .u8 a2)∧w'.cell? ⟨B',off'+k*6+1,none⟩=some (.string s2)∧w'.cell? ⟨B',off'+k*6+2,none⟩=some (.string s4)∧w'.cell? ⟨B',off'+k*6+3,none⟩=some (.slice ya YL yc)∧w'.cell? ⟨B',off'+k*6+4,none⟩=some (.string s6)∧w'.cell? ⟨B',off'+k*6+5,none⟩=some (.int .i64 n2))) (bs:Sx w [] wr) (wl:(k:Int)<(L:Int)) (e1:(a1==a2)=true) (e2:(s1.toList==s2.toList)=true) (e3:(s3.toList==s4.toList)=false)
  (hp:∀c (a:Act) t v w',Kc (.panic c) (a.put (some t) v) w'→Kc (.panic c) a w') (h:∀y17 y18 y19 y20 y21 y22 y23 y24 y25 y26 y27 y28 y29 y30 y31 y32 y33 y34 y35 y36 y37 y38 y39 y40 y41 y42 y43 y44 y45 y46 y47 y48 y49 y50 y51 y52 y53 y54 y55 y56 y57 y58 y59 y60 y61 y62 y63 y64 y65 y66 y67 y68 y69 y70 y71 y72 y73 y74 y75 y76 y77 y78 y79 y80 y81 y82 y83 y84 y85 y86 y87 y88 y89 y90 y91 y92 w',Sx w [] w'→Kc .normal {tmps:=#[.slice (some ⟨B,off,none⟩) L ca,.slice (some ⟨B',off',none⟩) L cb,x2,x3,x4,.int .i64 k,x6,x7,x8,x9,x10,x11,x12,x13,x14,x15,x16,y17,y18,y19,y20,y21,y22,y23,y24,y25,y26,y27,y28,y29,y30,y31,y32,y33,y34,y35,y36,y37,y38,y39,y40,y41,y42,y43,y44,y45,y46,y47,y48,y49,y50,y51,y52,y53,y54,y55,y56,y57,y58,y59,y60,y61,y62,y63,y64,y65,y66,y67,y68,y69,y70,y71,y72,y73,y74,y75,y76,y77,y78,y79,y80,y81,y82,y83,y84,y85,y86,y87,y88,y89,y90,y91,y92,.bool true],defers:=[]} w'):Code.wp prog (Code.region 6 opsS true) Kc {tmps:=#[.slice (some ⟨B,off,none⟩) L ca,.slice (some ⟨B',off',none⟩) L cb,x2,x3,x4,.int .i64 k,x6,x7,x8,x9,x10,x11,x12,x13,x14,x15,x16,x17,x18,x19,x20,x21,x22,x23,x24,x25,x26,x27,x28,x29,x30,x31,x32,x33,x34,x35,x36,x37,x38,x39,x40,x41,x42,x43,x44,x45,x46,x47,x48,x49,x50,x51,x52,x53,x54,x55,x56,x57,x58,x59,x60,x61,x62,x63,x64,x65,x66,x67,x68,x69,x70,x71,x72,x73,x74,x75,x76,x77,x78,x79,x80,x81,x82,x83,x84,x85,x86,x87,x88,x89,x90,x91,x92,x93],defers:=[]} wr:=by
 have q:=bs.q;have h:=h_ h;have hp:=h_ hp;unfold opsS;simp only[Tryz.f125,wE,dE,Nat.reduceBEq,wF,if_false,if_true]
 have f1:(a1 != a2)=false:=by rw[bne,e1];rfl
 have f2:(s1.toList != s2.toList)=false:=by rw[bne,e2];rfl
 have f3:(s3.toList != s4.toList)=true:=by rw[bne,e3];rfl
 replace bs:=bs.ret (wz (bQ _));replace q:=bs.q
 have y11:wr.drew.heap.size=wr.heap.size:=rfl
 refine wp_region_held_drew (S:=fun w'=>w'.cell? ⟨B,off+k*6,none⟩=some (.int .u8 a1)∧w'.cell? ⟨B,off+k*6+1,none⟩=some (.string s1)∧w'.cell? ⟨B,off+k*6+2,none⟩=some (.string s3)∧w'.cell? ⟨B,off+k*6+3,none⟩=some (.slice xa XL xc)∧w'.cell? ⟨B,off+k*6+4,none⟩=some (.string s5)∧w'.cell? ⟨B,off+k*6+5,none⟩=some (.int .i64 n1)∧w'.cell? ⟨B',off'+k*6,none⟩=some (.int .u8 a2)∧w'.cell? ⟨B',off'+k*6+1,none⟩=some (.string s2)∧w'.cell? ⟨B',off'+k*6+2,none⟩=some (.string s4)∧w'.cell? ⟨B',off'+k*6+3,none⟩=some (.slice ya YL yc)∧w'.cell? ⟨B',off'+k*6+4,none⟩=some (.string s6)∧w'.cell? ⟨B',off'+k*6+5,none⟩=some (.int .i64 n2)) (by kernel_rfl) ⟨(HC2.out _ q).1,(HC2.out _ q).2.1,(HC2.out _ q).2.2.1,(HC2.out _ q).2.2.2.1,(HC2.out _ q).2.2.2.2.1,(HC2.out _ q).2.2.2.2.2,(HE2.out _ q).1,(HE2.out _ q).2.1,(HE2.out _ q).2.2.1,(HE2.out _ q).2.2.2.1,(HE2.out _ q).2.2.2.2.1,(HE2.out _ q).2.2.2.2.2⟩ (fun hH=>?_);generalize wr.drew=w11 at bs q y11 hH ⊢;refine rS [(0,some 17),(1,some 18),(2,some 19),(3,some 20),(4,some 21),(5,some 22),(6,some 23),(7,some 24),(8,some 25),(9,some 26),(10,some 27),(11,some 28),(12,some 29),(13,some 30),(14,some 31),(15,some 32),(16,some 33),(17,some 34),(18,some 35),(19,some 36),(20,some 37),(21,some 38),(22,some 39),(23,some 40),(24,some 41),(25,some 42),(26,some 43),(27,some 44),(28,some 45),(29,some 46),(30,some 47),(31,some 48),(32,some 49),(33,some 50),(34,some 51),(35,some 52),(36,some 53),(37,some 54)] ?_
 iterate 38
  refine aG (v:=?_) (by kernel_rfl) (by kernel_rfl) (fun c a2 w2=>hp.out c a2 _ _ w2) (by assumption) (fun o ho w' hSw=>?_) ?_;rotate_left
  ·have ho2:=wv (show some _=some o from ho);subst ho2;(try dsimp only at hSw);go_simp;try with_reducible rfl
  simp only[wq,ws,wt,wu]
 refine rE ?_;refine rS [(38,some 55),(39,some 56),(40,some 57),(41,some 58),(42,some 59),(43,some 60),(44,some 61),(45,some 62),(46,some 63),(47,some 64),(48,some 65)] ?_
 iterate 11
  refine aT (by kernel_rfl) (by kernel_rfl) (fun c a2 w2=>hp.out c a2 _ _ w2) (by assumption) ?_;simp only[wq,ws,wt,wu]
 refine rE ?_;refine rS [(49,some 66),(50,some 67)] ?_
 iterate 2
  refine aG (v:=?_) (by kernel_rfl) (by kernel_rfl) (fun c a2 w2=>hp.out c a2 _ _ w2) (by assumption) (fun o ho w' hSw=>?_) ?_;rotate_left
  ·have ho2:=wv (show some _=some o from ho);subst ho2;(try dsimp only at hSw);go_simp;try with_reducible rfl
  simp only[wq,ws,wt,wu]
 refine rE ?_;refine rS [(51,some 68),(52,some 69),(53,some 70),(54,some 71),(55,some 72),(56,some 73),(57,some 74),(58,some 75),(59,some 76),(60,some 77),(61,some 78)] ?_
 iterate 11
  refine aT (by kernel_rfl) (by kernel_rfl) (fun c a2 w2=>hp.out c a2 _ _ w2) (by assumption) ?_;simp only[wq,ws,wt,wu]
 refine rE ?_;refine rS [(62,some 79),(63,some 80)] ?_
 iterate 2
  refine aG (v:=?_) (by kernel_rfl) (by kernel_rfl) (fun c a2 w2=>hp.out c a2 _ _ w2) (by assumption) (fun o ho w' hSw=>?_) ?_;rotate_left
  ·have ho2:=wv (show some _=some o from ho);subst ho2;(try dsimp only at hSw);go_simp;try with_reducible rfl
  simp only[wq,ws,wt,wu]
 refine rE ?_;refine rS [(64,some 81),(65,some 82),(66,some 83),(67,some 84),(68,some 85),(69,some 86),(70,some 87),(71,some 88),(72,some 89),(73,some 90),(74,some 91),(75,some 92)] ?_
 iterate 12
  refine aT (by kernel_rfl) (by kernel_rfl) (fun c a2 w2=>hp.out c a2 _ _ w2) (by assumption) ?_;simp only[wq,ws,wt,wu]
 refine rE ?_;refine ja (i:=76) (some 93) (v:=?_) (by kernel_rfl) (by kernel_rfl) (by kernel_rfl) (by kernel_rfl) (fun c a2 w2=>hp.out c a2 _ _ w2) (by assumption) (fun o ho w' hSw=>?_) ?_;rotate_left
 ·(have ho2:=wv (show some _=some o from ho);subst ho2;(try dsimp only at hSw);go_simp;try with_reducible rfl)
 simp only[wq,ws,wt,wu];refine aD ?_;clear hH;exact h.out _ _ _ _ _ _ _ _ _ _ _ _ _ _ _ _ _ _ _ _ _ _ _ _ _ _ _ _ _ _ _ _ _ _ _ _ _ _ _ _ _ _ _ _ _ _ _ _ _ _ _ _ _ _ _ _ _ _ _ _ _ _ _ _ _ _ _ _ _ _ _ _ _ _ _ _ _ bs
theorem rf {Kc:Exit→Act→World→Prop} {x2 x3 x4 x6 x7 x8 x9 x10 x11 x12 x13 x14 x15 x16 x17 x18 x19 x20 x21 x22 x23 x24 x25 x26 x27 x28 x29 x30 x31 x32 x33 x34 x35 x36 x37 x38 x39 x40 x41 x42 x43 x44 x45 x46 x47 x48 x49 x50 x51 x52 x53 x54 x55 x56 x57 x58 x59 x60 x61 x62 x63 x64 x65 x66 x67 x68 x69 x70 x71 x72 x73 x74 x75 x76 x77 x78 x79 x80 x81 x82 x83 x84 x85 x86 x87 x88 x89 x90 x91 x92 x93:Value} {w wr:World} {B off L ca B' off' cb k XL xc YL yc:Nat} {xa ya:Option Addr} {a1 n1 a2 n2:Int} {s1 s2 s3 s4 s5 s6:ByteArray}
  (HC2:Hid (∀w',Bl w w'→w'.cell? ⟨B,off+k*6,none⟩=some (.int .u8 a1)∧w'.cell? ⟨B,off+k*6+1,none⟩=some (.string s1)∧w'.cell? ⟨B,off+k*6+2,none⟩=some (.string s3)∧w'.cell? ⟨B,off+k*6+3,none⟩=some (.slice xa XL xc)∧w'.cell? ⟨B,off+k*6+4,none⟩=some (.string s5)∧w'.cell? ⟨B,off+k*6+5,none⟩=some (.int .i64 n1))) (HE2:Hid (∀w',Bl w w'→w'.cell? ⟨B',off'+k*6,none⟩=some (.int .u8 a2)∧w'.cell? ⟨B',off'+k*6+1,none⟩=some (.string s2)∧w'.cell? ⟨B',off'+k*6+2,none⟩=some (.string s4)∧w'.cell? ⟨B',off'+k*6+3,none⟩=some (.slice ya YL yc)∧w'.cell? ⟨B',off'+k*6+4,none⟩=some (.string s6)∧w'.cell? ⟨B',off'+k*6+5,none⟩=some (.int .i64 n2))) (bs:Sx w [] wr) (wl:(k:Int)<(L:Int)) (e1:(a1==a2)=true) (e2:(s1.toList==s2.toList)=true) (e3:(s3.toList==s4.toList)=true) (e4:(s5.toList==s6.toList)=false)
  (hp:∀c (a:Act) t v w',Kc (.panic c) (a.put (some t) v) w'→Kc (.panic c) a w') (h:∀y17 y18 y19 y20 y21 y22 y23 y24 y25 y26 y27 y28 y29 y30 y31 y32 y33 y34 y35 y36 y37 y38 y39 y40 y41 y42 y43 y44 y45 y46 y47 y48 y49 y50 y51 y52 y53 y54 y55 y56 y57 y58 y59 y60 y61 y62 y63 y64 y65 y66 y67 y68 y69 y70 y71 y72 y73 y74 y75 y76 y77 y78 y79 y80 y81 y82 y83 y84 y85 y86 y87 y88 y89 y90 y91 y92 w',Sx w [] w'→Kc .normal {tmps:=#[.slice (some ⟨B,off,none⟩) L ca,.slice (some ⟨B',off',none⟩) L cb,x2,x3,x4,.int .i64 k,x6,x7,x8,x9,x10,x11,x12,x13,x14,x15,x16,y17,y18,y19,y20,y21,y22,y23,y24,y25,y26,y27,y28,y29,y30,y31,y32,y33,y34,y35,y36,y37,y38,y39,y40,y41,y42,y43,y44,y45,y46,y47,y48,y49,y50,y51,y52,y53,y54,y55,y56,y57,y58,y59,y60,y61,y62,y63,y64,y65,y66,y67,y68,y69,y70,y71,y72,y73,y74,y75,y76,y77,y78,y79,y80,y81,y82,y83,y84,y85,y86,y87,y88,y89,y90,y91,y92,.bool true],defers:=[]} w'):Code.wp prog (Code.region 6 opsS true) Kc {tmps:=#[.slice (some ⟨B,off,none⟩) L ca,.slice (some ⟨B',off',none⟩) L cb,x2,x3,x4,.int .i64 k,x6,x7,x8,x9,x10,x11,x12,x13,x14,x15,x16,x17,x18,x19,x20,x21,x22,x23,x24,x25,x26,x27,x28,x29,x30,x31,x32,x33,x34,x35,x36,x37,x38,x39,x40,x41,x42,x43,x44,x45,x46,x47,x48,x49,x50,x51,x52,x53,x54,x55,x56,x57,x58,x59,x60,x61,x62,x63,x64,x65,x66,x67,x68,x69,x70,x71,x72,x73,x74,x75,x76,x77,x78,x79,x80,x81,x82,x83,x84,x85,x86,x87,x88,x89,x90,x91,x92,x93],defers:=[]} wr:=by
 have q:=bs.q;have h:=h_ h;have hp:=h_ hp;unfold opsS;simp only[Tryz.f125,wE,dE,Nat.reduceBEq,wF,if_false,if_true]
 have f1:(a1 != a2)=false:=by rw[bne,e1];rfl
 have f2:(s1.toList != s2.toList)=false:=by rw[bne,e2];rfl
 have f3:(s3.toList != s4.toList)=false:=by rw[bne,e3];rfl
 have f4:(s5.toList != s6.toList)=true:=by rw[bne,e4];rfl
 replace bs:=bs.ret (wz (bQ _));replace q:=bs.q
 have y11:wr.drew.heap.size=wr.heap.size:=rfl
 refine wp_region_held_drew (S:=fun w'=>w'.cell? ⟨B,off+k*6,none⟩=some (.int .u8 a1)∧w'.cell? ⟨B,off+k*6+1,none⟩=some (.string s1)∧w'.cell? ⟨B,off+k*6+2,none⟩=some (.string s3)∧w'.cell? ⟨B,off+k*6+3,none⟩=some (.slice xa XL xc)∧w'.cell? ⟨B,off+k*6+4,none⟩=some (.string s5)∧w'.cell? ⟨B,off+k*6+5,none⟩=some (.int .i64 n1)∧w'.cell? ⟨B',off'+k*6,none⟩=some (.int .u8 a2)∧w'.cell? ⟨B',off'+k*6+1,none⟩=some (.string s2)∧w'.cell? ⟨B',off'+k*6+2,none⟩=some (.string s4)∧w'.cell? ⟨B',off'+k*6+3,none⟩=some (.slice ya YL yc)∧w'.cell? ⟨B',off'+k*6+4,none⟩=some (.string s6)∧w'.cell? ⟨B',off'+k*6+5,none⟩=some (.int .i64 n2)) (by kernel_rfl) ⟨(HC2.out _ q).1,(HC2.out _ q).2.1,(HC2.out _ q).2.2.1,(HC2.out _ q).2.2.2.1,(HC2.out _ q).2.2.2.2.1,(HC2.out _ q).2.2.2.2.2,(HE2.out _ q).1,(HE2.out _ q).2.1,(HE2.out _ q).2.2.1,(HE2.out _ q).2.2.2.1,(HE2.out _ q).2.2.2.2.1,(HE2.out _ q).2.2.2.2.2⟩ (fun hH=>?_);generalize wr.drew=w11 at bs q y11 hH ⊢;refine rS [(0,some 17),(1,some 18),(2,some 19),(3,some 20),(4,some 21),(5,some 22),(6,some 23),(7,some 24),(8,some 25),(9,some 26),(10,some 27),(11,some 28),(12,some 29),(13,some 30),(14,some 31),(15,some 32),(16,some 33),(17,some 34),(18,some 35),(19,some 36),(20,some 37),(21,some 38),(22,some 39),(23,some 40),(24,some 41),(25,some 42),(26,some 43),(27,some 44),(28,some 45),(29,some 46),(30,some 47),(31,some 48),(32,some 49),(33,some 50),(34,some 51),(35,some 52),(36,some 53),(37,some 54),(38,some 55),(39,some 56)] ?_
 iterate 40
  refine aG (v:=?_) (by kernel_rfl) (by kernel_rfl) (fun c a2 w2=>hp.out c a2 _ _ w2) (by assumption) (fun o ho w' hSw=>?_) ?_;rotate_left
  ·have ho2:=wv (show some _=some o from ho);subst ho2;(try dsimp only at hSw);go_simp;try with_reducible rfl
  simp only[wq,ws,wt,wu]
 refine rE ?_;refine rS [(40,some 57),(41,some 58),(42,some 59),(43,some 60),(44,some 61),(45,some 62),(46,some 63),(47,some 64),(48,some 65),(49,some 66),(50,some 67)] ?_
 iterate 11
  refine aG (v:=?_) (by kernel_rfl) (by kernel_rfl) (fun c a2 w2=>hp.out c a2 _ _ w2) (by assumption) (fun o ho w' hSw=>?_) ?_;rotate_left
  ·have ho2:=wv (show some _=some o from ho);subst ho2;(try dsimp only at hSw);go_simp;try with_reducible rfl
  simp only[wq,ws,wt,wu]
 refine rE ?_;refine rS [(51,some 68),(52,some 69),(53,some 70),(54,some 71),(55,some 72),(56,some 73),(57,some 74),(58,some 75),(59,some 76),(60,some 77),(61,some 78)] ?_
 iterate 11
  refine aT (by kernel_rfl) (by kernel_rfl) (fun c a2 w2=>hp.out c a2 _ _ w2) (by assumption) ?_;simp only[wq,ws,wt,wu]
 refine rE ?_;refine rS [(62,some 79),(63,some 80)] ?_
 iterate 2
  refine aG (v:=?_) (by kernel_rfl) (by kernel_rfl) (fun c a2 w2=>hp.out c a2 _ _ w2) (by assumption) (fun o ho w' hSw=>?_) ?_;rotate_left
  ·have ho2:=wv (show some _=some o from ho);subst ho2;(try dsimp only at hSw);go_simp;try with_reducible rfl
  simp only[wq,ws,wt,wu]
 refine rE ?_;refine rS [(64,some 81),(65,some 82),(66,some 83),(67,some 84),(68,some 85),(69,some 86),(70,some 87),(71,some 88),(72,some 89),(73,some 90),(74,some 91),(75,some 92)] ?_
 iterate 12
  refine aT (by kernel_rfl) (by kernel_rfl) (fun c a2 w2=>hp.out c a2 _ _ w2) (by assumption) ?_;simp only[wq,ws,wt,wu]
 refine rE ?_;refine ja (i:=76) (some 93) (v:=?_) (by kernel_rfl) (by kernel_rfl) (by kernel_rfl) (by kernel_rfl) (fun c a2 w2=>hp.out c a2 _ _ w2) (by assumption) (fun o ho w' hSw=>?_) ?_;rotate_left
 ·(have ho2:=wv (show some _=some o from ho);subst ho2;(try dsimp only at hSw);go_simp;try with_reducible rfl)
 simp only[wq,ws,wt,wu];refine aD ?_;clear hH;exact h.out _ _ _ _ _ _ _ _ _ _ _ _ _ _ _ _ _ _ _ _ _ _ _ _ _ _ _ _ _ _ _ _ _ _ _ _ _ _ _ _ _ _ _ _ _ _ _ _ _ _ _ _ _ _ _ _ _ _ _ _ _ _ _ _ _ _ _ _ _ _ _ _ _ _ _ _ _ bs
theorem qQ {Kc:Exit→Act→World→Prop} {x2 x3 x4 x6 x7 x8 x9 x10 x11 x12 x13 x14 x15 x16 x17 x18 x19 x20 x21 x22 x23 x24 x25 x26 x27 x28 x29 x30 x31 x32 x33 x34 x35 x36 x37 x38 x39 x40 x41 x42 x43 x44 x45 x46 x47 x48 x49 x50 x51 x52 x53 x54 x55 x56 x57 x58 x59 x60 x61 x62 x63 x64 x65 x66 x67 x68 x69 x70 x71 x72 x73 x74 x75 x76 x77 x78 x79 x80 x81 x82 x83 x84 x85 x86 x87 x88 x89 x90 x91 x92 x93:Value} {w wr:World} {B off L ca B' off' cb k XL xc YL yc:Nat} {xa ya:Option Addr} {a1 n1 a2 n2:Int} {s1 s2 s3 s4 s5 s6:ByteArray}
  (HC2:Hid (∀w',Bl w w'→w'.cell? ⟨B,off+k*6,none⟩=some (.int .u8 a1)∧w'.cell? ⟨B,off+k*6+1,none⟩=some (.string s1)∧w'.cell? ⟨B,off+k*6+2,none⟩=some (.string s3)∧w'.cell? ⟨B,off+k*6+3,none⟩=some (.slice xa XL xc)∧w'.cell? ⟨B,off+k*6+4,none⟩=some (.string s5)∧w'.cell? ⟨B,off+k*6+5,none⟩=some (.int .i64 n1))) (HE2:Hid (∀w',Bl w w'→w'.cell? ⟨B',off'+k*6,none⟩=some (.int .u8 a2)∧w'.cell? ⟨B',off'+k*6+1,none⟩=some (.string s2)∧w'.cell? ⟨B',off'+k*6+2,none⟩=some (.string s4)∧w'.cell? ⟨B',off'+k*6+3,none⟩=some (.slice ya YL yc)∧w'.cell? ⟨B',off'+k*6+4,none⟩=some (.string s6)∧w'.cell? ⟨B',off'+k*6+5,none⟩=some (.int .i64 n2))) (bs:Sx w [] wr) (wl:(k:Int)<(L:Int)) (e1:(a1==a2)=true) (e2:(s1.toList==s2.toList)=true) (e3:(s3.toList==s4.toList)=true) (e4:(s5.toList==s6.toList)=true) (e5:(n1==n2)=false)
  (hp:∀c (a:Act) t v w',Kc (.panic c) (a.put (some t) v) w'→Kc (.panic c) a w') (h:∀y17 y18 y19 y20 y21 y22 y23 y24 y25 y26 y27 y28 y29 y30 y31 y32 y33 y34 y35 y36 y37 y38 y39 y40 y41 y42 y43 y44 y45 y46 y47 y48 y49 y50 y51 y52 y53 y54 y55 y56 y57 y58 y59 y60 y61 y62 y63 y64 y65 y66 y67 y68 y69 y70 y71 y72 y73 y74 y75 y76 y77 y78 y79 y80 y81 y82 y83 y84 y85 y86 y87 y88 y89 y90 y91 y92 w',Sx w [] w'→Kc .normal {tmps:=#[.slice (some ⟨B,off,none⟩) L ca,.slice (some ⟨B',off',none⟩) L cb,x2,x3,x4,.int .i64 k,x6,x7,x8,x9,x10,x11,x12,x13,x14,x15,x16,y17,y18,y19,y20,y21,y22,y23,y24,y25,y26,y27,y28,y29,y30,y31,y32,y33,y34,y35,y36,y37,y38,y39,y40,y41,y42,y43,y44,y45,y46,y47,y48,y49,y50,y51,y52,y53,y54,y55,y56,y57,y58,y59,y60,y61,y62,y63,y64,y65,y66,y67,y68,y69,y70,y71,y72,y73,y74,y75,y76,y77,y78,y79,y80,y81,y82,y83,y84,y85,y86,y87,y88,y89,y90,y91,y92,.bool true],defers:=[]} w'):Code.wp prog (Code.region 6 opsS true) Kc {tmps:=#[.slice (some ⟨B,off,none⟩) L ca,.slice (some ⟨B',off',none⟩) L cb,x2,x3,x4,.int .i64 k,x6,x7,x8,x9,x10,x11,x12,x13,x14,x15,x16,x17,x18,x19,x20,x21,x22,x23,x24,x25,x26,x27,x28,x29,x30,x31,x32,x33,x34,x35,x36,x37,x38,x39,x40,x41,x42,x43,x44,x45,x46,x47,x48,x49,x50,x51,x52,x53,x54,x55,x56,x57,x58,x59,x60,x61,x62,x63,x64,x65,x66,x67,x68,x69,x70,x71,x72,x73,x74,x75,x76,x77,x78,x79,x80,x81,x82,x83,x84,x85,x86,x87,x88,x89,x90,x91,x92,x93],defers:=[]} wr:=by
 have q:=bs.q;have h:=h_ h;have hp:=h_ hp;unfold opsS;simp only[Tryz.f125,wE,dE,Nat.reduceBEq,wF,if_false,if_true]
 have f1:(a1 != a2)=false:=by rw[bne,e1];rfl
 have f2:(s1.toList != s2.toList)=false:=by rw[bne,e2];rfl
 have f3:(s3.toList != s4.toList)=false:=by rw[bne,e3];rfl
 have f4:(s5.toList != s6.toList)=false:=by rw[bne,e4];rfl
 have f5:(n1 != n2)=true:=by rw[bne,e5];rfl
 replace bs:=bs.ret (wz (bQ _));replace q:=bs.q
 have y11:wr.drew.heap.size=wr.heap.size:=rfl
 refine wp_region_held_drew (S:=fun w'=>w'.cell? ⟨B,off+k*6,none⟩=some (.int .u8 a1)∧w'.cell? ⟨B,off+k*6+1,none⟩=some (.string s1)∧w'.cell? ⟨B,off+k*6+2,none⟩=some (.string s3)∧w'.cell? ⟨B,off+k*6+3,none⟩=some (.slice xa XL xc)∧w'.cell? ⟨B,off+k*6+4,none⟩=some (.string s5)∧w'.cell? ⟨B,off+k*6+5,none⟩=some (.int .i64 n1)∧w'.cell? ⟨B',off'+k*6,none⟩=some (.int .u8 a2)∧w'.cell? ⟨B',off'+k*6+1,none⟩=some (.string s2)∧w'.cell? ⟨B',off'+k*6+2,none⟩=some (.string s4)∧w'.cell? ⟨B',off'+k*6+3,none⟩=some (.slice ya YL yc)∧w'.cell? ⟨B',off'+k*6+4,none⟩=some (.string s6)∧w'.cell? ⟨B',off'+k*6+5,none⟩=some (.int .i64 n2)) (by kernel_rfl) ⟨(HC2.out _ q).1,(HC2.out _ q).2.1,(HC2.out _ q).2.2.1,(HC2.out _ q).2.2.2.1,(HC2.out _ q).2.2.2.2.1,(HC2.out _ q).2.2.2.2.2,(HE2.out _ q).1,(HE2.out _ q).2.1,(HE2.out _ q).2.2.1,(HE2.out _ q).2.2.2.1,(HE2.out _ q).2.2.2.2.1,(HE2.out _ q).2.2.2.2.2⟩ (fun hH=>?_);generalize wr.drew=w11 at bs q y11 hH ⊢;refine rS [(0,some 17),(1,some 18),(2,some 19),(3,some 20),(4,some 21),(5,some 22),(6,some 23),(7,some 24),(8,some 25),(9,some 26),(10,some 27),(11,some 28),(12,some 29),(13,some 30),(14,some 31),(15,some 32),(16,some 33),(17,some 34),(18,some 35),(19,some 36),(20,some 37),(21,some 38),(22,some 39),(23,some 40),(24,some 41),(25,some 42),(26,some 43),(27,some 44),(28,some 45),(29,some 46),(30,some 47),(31,some 48),(32,some 49),(33,some 50),(34,some 51),(35,some 52),(36,some 53),(37,some 54),(38,some 55),(39,some 56)] ?_
 iterate 40
  refine aG (v:=?_) (by kernel_rfl) (by kernel_rfl) (fun c a2 w2=>hp.out c a2 _ _ w2) (by assumption) (fun o ho w' hSw=>?_) ?_;rotate_left
  ·have ho2:=wv (show some _=some o from ho);subst ho2;(try dsimp only at hSw);go_simp;try with_reducible rfl
  simp only[wq,ws,wt,wu]
 refine rE ?_;refine rS [(40,some 57),(41,some 58),(42,some 59),(43,some 60),(44,some 61),(45,some 62),(46,some 63),(47,some 64),(48,some 65),(49,some 66),(50,some 67),(51,some 68),(52,some 69),(53,some 70),(54,some 71),(55,some 72),(56,some 73),(57,some 74),(58,some 75),(59,some 76),(60,some 77),(61,some 78),(62,some 79),(63,some 80)] ?_
 iterate 24
  refine aG (v:=?_) (by kernel_rfl) (by kernel_rfl) (fun c a2 w2=>hp.out c a2 _ _ w2) (by assumption) (fun o ho w' hSw=>?_) ?_;rotate_left
  ·have ho2:=wv (show some _=some o from ho);subst ho2;(try dsimp only at hSw);go_simp;try with_reducible rfl
  simp only[wq,ws,wt,wu]
 refine rE ?_;refine rS [(64,some 81),(65,some 82),(66,some 83),(67,some 84),(68,some 85),(69,some 86),(70,some 87),(71,some 88),(72,some 89),(73,some 90),(74,some 91),(75,some 92)] ?_
 iterate 12
  refine aT (by kernel_rfl) (by kernel_rfl) (fun c a2 w2=>hp.out c a2 _ _ w2) (by assumption) ?_;simp only[wq,ws,wt,wu]
 refine rE ?_;refine ja (i:=76) (some 93) (v:=?_) (by kernel_rfl) (by kernel_rfl) (by kernel_rfl) (by kernel_rfl) (fun c a2 w2=>hp.out c a2 _ _ w2) (by assumption) (fun o ho w' hSw=>?_) ?_;rotate_left
 ·(have ho2:=wv (show some _=some o from ho);subst ho2;(try dsimp only at hSw);go_simp;try with_reducible rfl)
 simp only[wq,ws,wt,wu];refine aD ?_;clear hH;exact h.out _ _ _ _ _ _ _ _ _ _ _ _ _ _ _ _ _ _ _ _ _ _ _ _ _ _ _ _ _ _ _ _ _ _ _ _ _ _ _ _ _ _ _ _ _ _ _ _ _ _ _ _ _ _ _ _ _ _ _ _ _ _ _ _ _ _ _ _ _ _ _ _ _ _ _ _ _ bs
theorem qR {Kc:Exit→Act→World→Prop} {x2 x3 x4 x6 x7 x8 x9 x10 x11 x12 x13 x14 x15 x16 x17 x18 x19 x20 x21 x22 x23 x24 x25 x26 x27 x28 x29 x30 x31 x32 x33 x34 x35 x36 x37 x38 x39 x40 x41 x42 x43 x44 x45 x46 x47 x48 x49 x50 x51 x52 x53 x54 x55 x56 x57 x58 x59 x60 x61 x62 x63 x64 x65 x66 x67 x68 x69 x70 x71 x72 x73 x74 x75 x76 x77 x78 x79 x80 x81 x82 x83 x84 x85 x86 x87 x88 x89 x90 x91 x92 x93:Value} {w wr:World} {B off L ca B' off' cb k XL xc YL yc:Nat} {xa ya:Option Addr} {a1 n1 a2 n2:Int} {s1 s2 s3 s4 s5 s6:ByteArray} {E6:Bool}
  (HC2:Hid (∀w',Bl w w'→w'.cell? ⟨B,off+k*6,none⟩=some (.int .u8 a1)∧w'.cell? ⟨B,off+k*6+1,none⟩=some (.string s1)∧w'.cell? ⟨B,off+k*6+2,none⟩=some (.string s3)∧w'.cell? ⟨B,off+k*6+3,none⟩=some (.slice xa XL xc)∧w'.cell? ⟨B,off+k*6+4,none⟩=some (.string s5)∧w'.cell? ⟨B,off+k*6+5,none⟩=some (.int .i64 n1))) (HE2:Hid (∀w',Bl w w'→w'.cell? ⟨B',off'+k*6,none⟩=some (.int .u8 a2)∧w'.cell? ⟨B',off'+k*6+1,none⟩=some (.string s2)∧w'.cell? ⟨B',off'+k*6+2,none⟩=some (.string s4)∧w'.cell? ⟨B',off'+k*6+3,none⟩=some (.slice ya YL yc)∧w'.cell? ⟨B',off'+k*6+4,none⟩=some (.string s6)∧w'.cell? ⟨B',off'+k*6+5,none⟩=some (.int .i64 n2))) (bs:Sx w [] wr) (wl:(k:Int)<(L:Int)) (e1:(a1==a2)=true) (e2:(s1.toList==s2.toList)=true) (e3:(s3.toList==s4.toList)=true) (e4:(s5.toList==s6.toList)=true) (e5:(n1==n2)=true) (CC:Hid (∀W,Bl w W→Calls prog 169 #[.slice xa XL xc,.slice ya YL yc] W (Ret W (.bool E6))))
  (hp:∀c (a:Act) t v w',Kc (.panic c) (a.put (some t) v) w'→Kc (.panic c) a w') (h:∀y17 y18 y19 y20 y21 y22 y23 y24 y25 y26 y27 y28 y29 y30 y31 y32 y33 y34 y35 y36 y37 y38 y39 y40 y41 y42 y43 y44 y45 y46 y47 y48 y49 y50 y51 y52 y53 y54 y55 y56 y57 y58 y59 y60 y61 y62 y63 y64 y65 y66 y67 y68 y69 y70 y71 y72 y73 y74 y75 y76 y77 y78 y79 y80 y81 y82 y83 y84 y85 y86 y87 y88 y89 y90 y91 y92 w',Sx w [] w'→Kc .normal {tmps:=#[.slice (some ⟨B,off,none⟩) L ca,.slice (some ⟨B',off',none⟩) L cb,x2,x3,x4,.int .i64 k,x6,x7,x8,x9,x10,x11,x12,x13,x14,x15,x16,y17,y18,y19,y20,y21,y22,y23,y24,y25,y26,y27,y28,y29,y30,y31,y32,y33,y34,y35,y36,y37,y38,y39,y40,y41,y42,y43,y44,y45,y46,y47,y48,y49,y50,y51,y52,y53,y54,y55,y56,y57,y58,y59,y60,y61,y62,y63,y64,y65,y66,y67,y68,y69,y70,y71,y72,y73,y74,y75,y76,y77,y78,y79,y80,y81,y82,y83,y84,y85,y86,y87,y88,y89,y90,y91,y92,.bool (!E6)],defers:=[]} w'):Code.wp prog (Code.region 6 opsS true) Kc {tmps:=#[.slice (some ⟨B,off,none⟩) L ca,.slice (some ⟨B',off',none⟩) L cb,x2,x3,x4,.int .i64 k,x6,x7,x8,x9,x10,x11,x12,x13,x14,x15,x16,x17,x18,x19,x20,x21,x22,x23,x24,x25,x26,x27,x28,x29,x30,x31,x32,x33,x34,x35,x36,x37,x38,x39,x40,x41,x42,x43,x44,x45,x46,x47,x48,x49,x50,x51,x52,x53,x54,x55,x56,x57,x58,x59,x60,x61,x62,x63,x64,x65,x66,x67,x68,x69,x70,x71,x72,x73,x74,x75,x76,x77,x78,x79,x80,x81,x82,x83,x84,x85,x86,x87,x88,x89,x90,x91,x92,x93],defers:=[]} wr:=by
 have q:=bs.q;have h:=h_ h;have hp:=h_ hp;unfold opsS;simp only[Tryz.f125,wE,dE,Nat.reduceBEq,wF,if_false,if_true]
 have f1:(a1 != a2)=false:=by rw[bne,e1];rfl
 have f2:(s1.toList != s2.toList)=false:=by rw[bne,e2];rfl
 have f3:(s3.toList != s4.toList)=false:=by rw[bne,e3];rfl
 have f4:(s5.toList != s6.toList)=false:=by rw[bne,e4];rfl
 have f5:(n1 != n2)=false:=by rw[bne,e5];rfl
 replace bs:=bs.ret (wz (bQ _));replace q:=bs.q
 have y11:wr.drew.heap.size=wr.heap.size:=rfl
 refine wp_region_held_drew (S:=fun w'=>w'.cell? ⟨B,off+k*6,none⟩=some (.int .u8 a1)∧w'.cell? ⟨B,off+k*6+1,none⟩=some (.string s1)∧w'.cell? ⟨B,off+k*6+2,none⟩=some (.string s3)∧w'.cell? ⟨B,off+k*6+3,none⟩=some (.slice xa XL xc)∧w'.cell? ⟨B,off+k*6+4,none⟩=some (.string s5)∧w'.cell? ⟨B,off+k*6+5,none⟩=some (.int .i64 n1)∧w'.cell? ⟨B',off'+k*6,none⟩=some (.int .u8 a2)∧w'.cell? ⟨B',off'+k*6+1,none⟩=some (.string s2)∧w'.cell? ⟨B',off'+k*6+2,none⟩=some (.string s4)∧w'.cell? ⟨B',off'+k*6+3,none⟩=some (.slice ya YL yc)∧w'.cell? ⟨B',off'+k*6+4,none⟩=some (.string s6)∧w'.cell? ⟨B',off'+k*6+5,none⟩=some (.int .i64 n2)) (by kernel_rfl) ⟨(HC2.out _ q).1,(HC2.out _ q).2.1,(HC2.out _ q).2.2.1,(HC2.out _ q).2.2.2.1,(HC2.out _ q).2.2.2.2.1,(HC2.out _ q).2.2.2.2.2,(HE2.out _ q).1,(HE2.out _ q).2.1,(HE2.out _ q).2.2.1,(HE2.out _ q).2.2.2.1,(HE2.out _ q).2.2.2.2.1,(HE2.out _ q).2.2.2.2.2⟩ (fun hH=>?_);generalize wr.drew=w11 at bs q y11 hH ⊢;refine rS [(0,some 17),(1,some 18),(2,some 19),(3,some 20),(4,some 21),(5,some 22),(6,some 23),(7,some 24),(8,some 25),(9,some 26),(10,some 27),(11,some 28),(12,some 29),(13,some 30),(14,some 31),(15,some 32),(16,some 33),(17,some 34),(18,some 35),(19,some 36),(20,some 37),(21,some 38),(22,some 39),(23,some 40),(24,some 41),(25,some 42),(26,some 43),(27,some 44),(28,some 45),(29,some 46),(30,some 47),(31,some 48),(32,some 49),(33,some 50),(34,some 51),(35,some 52),(36,some 53),(37,some 54),(38,some 55),(39,some 56)] ?_
 iterate 40
  refine aG (v:=?_) (by kernel_rfl) (by kernel_rfl) (fun c a2 w2=>hp.out c a2 _ _ w2) (by assumption) (fun o ho w' hSw=>?_) ?_;rotate_left
  ·have ho2:=wv (show some _=some o from ho);subst ho2;(try dsimp only at hSw);go_simp;try with_reducible rfl
  simp only[wq,ws,wt,wu]
 refine rE ?_;refine rS [(40,some 57),(41,some 58),(42,some 59),(43,some 60),(44,some 61),(45,some 62),(46,some 63),(47,some 64),(48,some 65),(49,some 66),(50,some 67),(51,some 68),(52,some 69),(53,some 70),(54,some 71),(55,some 72),(56,some 73),(57,some 74),(58,some 75),(59,some 76),(60,some 77),(61,some 78),(62,some 79),(63,some 80),(64,some 81),(65,some 82),(66,some 83),(67,some 84),(68,some 85),(69,some 86),(70,some 87),(71,some 88),(72,some 89),(73,some 90)] ?_
 iterate 34
  refine aG (v:=?_) (by kernel_rfl) (by kernel_rfl) (fun c a2 w2=>hp.out c a2 _ _ w2) (by assumption) (fun o ho w' hSw=>?_) ?_;rotate_left
  ·have ho2:=wv (show some _=some o from ho);subst ho2;(try dsimp only at hSw);go_simp;try with_reducible rfl
  simp only[wq,ws,wt,wu]
 refine rE ?_;refine iy (i:=74) (by kernel_rfl) (by kernel_rfl) (fun o ho K hK=>?_);have ho2:=wv (show some _=some o from ho);subst ho2;go_simp;refine(CC.out w11 q).mono ?_;rintro e w12 ⟨rfl,hb⟩;replace bs:=bs.ret hb;replace q:=bs.q;clear hb;go_simp;clear hH;refine hK.out _ _ ⟨(HC2.out _ q).1,(HC2.out _ q).2.1,(HC2.out _ q).2.2.1,(HC2.out _ q).2.2.2.1,(HC2.out _ q).2.2.2.2.1,(HC2.out _ q).2.2.2.2.2,(HE2.out _ q).1,(HE2.out _ q).2.1,(HE2.out _ q).2.2.1,(HE2.out _ q).2.2.2.1,(HE2.out _ q).2.2.2.2.1,(HE2.out _ q).2.2.2.2.2⟩ (fun hH=>?_);clear hK K;refine rS [(75,some 92),(76,some 93)] ?_
 iterate 2
  refine aG (v:=?_) (by kernel_rfl) (by kernel_rfl) (fun c a2 w2=>hp.out c a2 _ _ w2) (by assumption) (fun o ho w' hSw=>?_) ?_;rotate_left
  ·have ho2:=wv (show some _=some o from ho);subst ho2;(try dsimp only at hSw);go_simp;try with_reducible rfl
  simp only[wq,ws,wt,wu]
 refine rE ?_;refine aD ?_;clear hH;exact h.out _ _ _ _ _ _ _ _ _ _ _ _ _ _ _ _ _ _ _ _ _ _ _ _ _ _ _ _ _ _ _ _ _ _ _ _ _ _ _ _ _ _ _ _ _ _ _ _ _ _ _ _ _ _ _ _ _ _ _ _ _ _ _ _ _ _ _ _ _ _ _ _ _ _ _ _ _ bs
theorem oJ (v u:Value) (M K:List NdI) (w:World) (hv:IsL ndY v M w) (hu:IsL ndY u K w) (hM:M.length≤100000) (hK:K.length≤100000) (hc0:∀x∈M,∀y∈K,∀W,Bl w W→Calls prog 169 #[ndV x,ndV y] W (Ret W (.bool (decide (x.1.2.2.2.1=y.1.2.2.2.1))))):
  Calls prog 125 #[v,u] w (Ret w (.bool (decide (M.map Prod.fst=K.map Prod.fst)))):=by
 obtain⟨a,ca,hf1,-⟩:=hv.form;obtain⟨b,cb,hf2,-⟩:=hu.form;obtain⟨O,hO⟩:=e_ (decide (M.map Prod.fst=K.map Prod.fst));obtain⟨L,hL⟩:=e_ M.length;obtain⟨L',hL'⟩:=e_ K.length;rw[hL] at hf1 hM;rw[hL'] at hf2 hK;rw[hO];subst hf1 hf2
 by_cases hlen:L=L'
 ·subst hlen
  have HO:=h_ hO;have HL:=h_ hL;have HL':=h_ hL';have HV:=h_ hv;have HU:=h_ hu;have HC0:=h_ hc0;clear hc0;clear hO hL hL' hv hu;go_enter func125,ntmps125;go_wp2_with fail;go_loopw [5] (fun i wx=>∃k:Nat,k≤L∧i=.int .i64 k∧(M.map Prod.fst).take k=(K.map Prod.fst).take k∧Sx w [] wx) (fun i _=>L-(intOf i).toNat)
  case atStart=>exact⟨0,wH _,rfl,rfl,Sx.start w⟩
  case round=>
   obtain⟨k,hk,rfl,htk,bs⟩:=hrel;have q:=bs.q
   by_cases hlt:k<L
   ·have hkM : k < M.length := by rw [HL.out]; exact hlt
    have hkK:k<K.length:=(by rw[HL'.out];exact hlt);obtain⟨x,hx⟩:=e_ (M[k]);obtain⟨y,hy⟩:=e_ (K[k]);obtain⟨B,off,cp,hf,-,hc⟩:=HV.out.cells (k:=k) (x:=x) (by rw[wA hkM,hx]);rw[HL.out] at hf;simp only[wB,true_and] at hf;obtain⟨rfl,rfl⟩:=hf;obtain⟨B',off',cp',hf,-,he⟩:=HU.out.cells (k:=k) (x:=y) (by rw[wA hkK,hy]);rw[HL'.out] at hf;simp only[wB,true_and] at hf;obtain⟨rfl,rfl⟩:=hf;have hxm:x∈M:=(by rw[←hx];exact wC hkM);have hym:y∈K:=(by rw[←hy];exact wC hkK);have hkm:k<(M.map Prod.fst).length:=(by simpa using hkM);have hkk:k<(K.map Prod.fst).length:=(by simpa using hkK)
    have hst:Prod.fst x=Prod.fst y→(M.map Prod.fst).take (k+1)=(K.map Prod.fst).take (k+1):=fun h=>cg hkm hkk htk (by rw[ww,ww,hx,hy];exact h)
    have hno:Prod.fst x≠Prod.fst y→O=false:=fun h=>by
     rw[←HO.out];exact decide_eq_false (ek hkm hkk (by rw[ww,ww,hx,hy];exact h))
    have HC:=h_ hc;have HE:=h_ he;have HS:=h_ hst;have HN:=h_ hno;have wl:(k:Int)<(L:Int):=(by omega);clear hc he hx hy hkm hkk htk hkM hkK hst hno;have hnd:=vg x.1 y.1;have CC:=HC0.out x hxm y hym;obtain⟨s1,t1⟩:=e_ (ByteArray.mk x.1.2.1.toArray);obtain⟨s2,t2⟩:=e_ (ByteArray.mk y.1.2.1.toArray);obtain⟨s3,t3⟩:=e_ (ByteArray.mk x.1.2.2.1.toArray);obtain⟨s4,t4⟩:=e_ (ByteArray.mk y.1.2.2.1.toArray);obtain⟨s5,t5⟩:=e_ (ByteArray.mk x.1.2.2.2.2.1.toArray);obtain⟨s6,t6⟩:=e_ (ByteArray.mk y.1.2.2.2.2.1.toArray);obtain⟨a1,u1⟩:=e_ x.1.1;obtain⟨a2,u2⟩:=e_ y.1.1;obtain⟨n1,u3⟩:=e_ x.1.2.2.2.2.2;obtain⟨n2,u4⟩:=e_ y.1.2.2.2.2.2;obtain⟨E1,h1⟩:=e_ ((x.1.1==y.1.1));obtain⟨E2,h2⟩:=e_ (decide (x.1.2.1=y.1.2.1));obtain⟨E3,h3⟩:=e_ (decide (x.1.2.2.1=y.1.2.2.1));obtain⟨E4,h4⟩:=e_ (decide (x.1.2.2.2.2.1=y.1.2.2.2.2.1));obtain⟨E5,h5⟩:=e_ ((x.1.2.2.2.2.2==y.1.2.2.2.2.2));obtain⟨E6,h6⟩:=e_ (decide (x.1.2.2.2.1=y.1.2.2.2.1));rw[h1,h2,h3,h4,h5,h6] at hnd;rw[h6] at CC;have k2:(s1.toList==s2.toList)=E2:=(by rw[←h2,←t1,←t2];exact fi _ _);have k3:(s3.toList==s4.toList)=E3:=(by rw[←h3,←t3,←t4];exact fi _ _);have k4:(s5.toList==s6.toList)=E4:=(by rw[←h4,←t5,←t6];exact fi _ _);have j2:(s1.toList != s2.toList)=!E2:=(by rw[←k2];rfl);have j3:(s3.toList != s4.toList)=!E3:=(by rw[←k3];rfl);have j4:(s5.toList != s6.toList)=!E4:=(by rw[←k4];rfl);have CC:=h_ CC
    have HC2:=h_ fun (w':World) (hb:Bl w w')=>show w'.cell? ⟨B,off+k*6,none⟩=some (.int .u8 a1)∧w'.cell? ⟨B,off+k*6+1,none⟩=some (.string s1)∧w'.cell? ⟨B,off+k*6+2,none⟩=some (.string s3)∧w'.cell? ⟨B,off+k*6+3,none⟩=some (ndV x)∧w'.cell? ⟨B,off+k*6+4,none⟩=some (.string s5)∧w'.cell? ⟨B,off+k*6+5,none⟩=some (.int .i64 n1) from (by rw[←t1,←t3,←t5,←u1,←u3];exact⟨HC.out w' hb 0 _ rfl,HC.out w' hb 1 _ rfl,HC.out w' hb 2 _ rfl,HC.out w' hb 3 _ rfl,HC.out w' hb 4 _ rfl,HC.out w' hb 5 _ rfl⟩)
    have HE2:=h_ fun (w':World) (hb:Bl w w')=>show w'.cell? ⟨B',off'+k*6,none⟩=some (.int .u8 a2)∧w'.cell? ⟨B',off'+k*6+1,none⟩=some (.string s2)∧w'.cell? ⟨B',off'+k*6+2,none⟩=some (.string s4)∧w'.cell? ⟨B',off'+k*6+3,none⟩=some (ndV y)∧w'.cell? ⟨B',off'+k*6+4,none⟩=some (.string s6)∧w'.cell? ⟨B',off'+k*6+5,none⟩=some (.int .i64 n2) from (by rw[←t2,←t4,←t6,←u2,←u4];exact⟨HE.out w' hb 0 _ rfl,HE.out w' hb 1 _ rfl,HE.out w' hb 2 _ rfl,HE.out w' hb 3 _ rfl,HE.out w' hb 4 _ rfl,HE.out w' hb 5 _ rfl⟩)
    rw[u1,u2] at h1;rw[u3,u4] at h5;have j1:(a1 != a2)=!E1:=(by rw[←h1];rfl);have j5:(n1 != n2)=!E5:=(by rw[←h5];rfl);obtain⟨QQ,hQ⟩:=e_ (decide (x.1=y.1));rw[hQ] at hnd;have HQ:=h_ hQ;have HND:=h_ hnd;clear h2 h3 h4 h6 hQ hnd hxm hym t1 t2 t3 t4 t5 t6 u1 u2 u3 u4
    cases E1 with
    | false=>
     have hq:x.1≠y.1:=of_decide_eq_false (HQ.out.trans (HND.out.trans (by simp)));have hOf:=HN.out hq;subst hOf;obtain⟨m0,m1,m2,m3,m4,m5⟩:=HC2.out wr q;obtain⟨l0,l1,l2,l3,l4,l5⟩:=HE2.out wr q;go_wp2_with fail;clear m0 m1 m2 m3 m4 m5 l0 l1 l2 l3 l4 l5;refine mh (c:=Code.region 6 opsS true) (by kernel_rfl) ?_;refine p8 HC2 HE2 bs wl h1 (fun _ _ _ _ _ h=>h) ?_;clear bs q;intro y17 y18 y19 y20 y21 y22 y23 y24 y25 y26 y27 y28 y29 y30 y31 y32 y33 y34 y35 y36 y37 y38 y39 y40 y41 y42 y43 y44 y45 y46 y47 y48 y49 y50 y51 y52 y53 y54 y55 y56 y57 y58 y59 y60 y61 y62 y63 y64 y65 y66 y67 y68 y69 y70 y71 y72 y73 y74 y75 y76 y77 y78 y79 y80 y81 y82 y83 y84 y85 y86 y87 y88 y89 y90 y91 y92 w9 bs;have q:=bs.q;go_wp2_with fail;go_ret;exact⟨rfl,q⟩
    | true=>
     cases E2 with
     | false=>
      have hq:x.1≠y.1:=of_decide_eq_false (HQ.out.trans (HND.out.trans (by simp)));have hOf:=HN.out hq;subst hOf;obtain⟨m0,m1,m2,m3,m4,m5⟩:=HC2.out wr q;obtain⟨l0,l1,l2,l3,l4,l5⟩:=HE2.out wr q;go_wp2_with fail;clear m0 m1 m2 m3 m4 m5 l0 l1 l2 l3 l4 l5;refine mh (c:=Code.region 6 opsS true) (by kernel_rfl) ?_;refine qZ HC2 HE2 bs wl h1 k2 (fun _ _ _ _ _ h=>h) ?_;clear bs q;intro y17 y18 y19 y20 y21 y22 y23 y24 y25 y26 y27 y28 y29 y30 y31 y32 y33 y34 y35 y36 y37 y38 y39 y40 y41 y42 y43 y44 y45 y46 y47 y48 y49 y50 y51 y52 y53 y54 y55 y56 y57 y58 y59 y60 y61 y62 y63 y64 y65 y66 y67 y68 y69 y70 y71 y72 y73 y74 y75 y76 y77 y78 y79 y80 y81 y82 y83 y84 y85 y86 y87 y88 y89 y90 y91 y92 w9 bs;have q:=bs.q;go_wp2_with fail;go_ret;exact⟨rfl,q⟩
     | true=>
      cases E3 with
      | false=>
       have hq:x.1≠y.1:=of_decide_eq_false (HQ.out.trans (HND.out.trans (by simp)));have hOf:=HN.out hq;subst hOf;obtain⟨m0,m1,m2,m3,m4,m5⟩:=HC2.out wr q;obtain⟨l0,l1,l2,l3,l4,l5⟩:=HE2.out wr q;go_wp2_with fail;clear m0 m1 m2 m3 m4 m5 l0 l1 l2 l3 l4 l5;refine mh (c:=Code.region 6 opsS true) (by kernel_rfl) ?_;refine qn HC2 HE2 bs wl h1 k2 k3 (fun _ _ _ _ _ h=>h) ?_;clear bs q;intro y17 y18 y19 y20 y21 y22 y23 y24 y25 y26 y27 y28 y29 y30 y31 y32 y33 y34 y35 y36 y37 y38 y39 y40 y41 y42 y43 y44 y45 y46 y47 y48 y49 y50 y51 y52 y53 y54 y55 y56 y57 y58 y59 y60 y61 y62 y63 y64 y65 y66 y67 y68 y69 y70 y71 y72 y73 y74 y75 y76 y77 y78 y79 y80 y81 y82 y83 y84 y85 y86 y87 y88 y89 y90 y91 y92 w9 bs;have q:=bs.q;go_wp2_with fail;go_ret;exact⟨rfl,q⟩
      | true=>
       cases E4 with
       | false=>
        have hq:x.1≠y.1:=of_decide_eq_false (HQ.out.trans (HND.out.trans (by simp)));have hOf:=HN.out hq;subst hOf;obtain⟨m0,m1,m2,m3,m4,m5⟩:=HC2.out wr q;obtain⟨l0,l1,l2,l3,l4,l5⟩:=HE2.out wr q;go_wp2_with fail;clear m0 m1 m2 m3 m4 m5 l0 l1 l2 l3 l4 l5;refine mh (c:=Code.region 6 opsS true) (by kernel_rfl) ?_;refine rf HC2 HE2 bs wl h1 k2 k3 k4 (fun _ _ _ _ _ h=>h) ?_;clear bs q;intro y17 y18 y19 y20 y21 y22 y23 y24 y25 y26 y27 y28 y29 y30 y31 y32 y33 y34 y35 y36 y37 y38 y39 y40 y41 y42 y43 y44 y45 y46 y47 y48 y49 y50 y51 y52 y53 y54 y55 y56 y57 y58 y59 y60 y61 y62 y63 y64 y65 y66 y67 y68 y69 y70 y71 y72 y73 y74 y75 y76 y77 y78 y79 y80 y81 y82 y83 y84 y85 y86 y87 y88 y89 y90 y91 y92 w9 bs;have q:=bs.q;go_wp2_with fail;go_ret;exact⟨rfl,q⟩
       | true=>
        cases E5 with
        | false=>
         have hq:x.1≠y.1:=of_decide_eq_false (HQ.out.trans (HND.out.trans (by simp)));have hOf:=HN.out hq;subst hOf;obtain⟨m0,m1,m2,m3,m4,m5⟩:=HC2.out wr q;obtain⟨l0,l1,l2,l3,l4,l5⟩:=HE2.out wr q;go_wp2_with fail;clear m0 m1 m2 m3 m4 m5 l0 l1 l2 l3 l4 l5;refine mh (c:=Code.region 6 opsS true) (by kernel_rfl) ?_;refine qQ HC2 HE2 bs wl h1 k2 k3 k4 h5 (fun _ _ _ _ _ h=>h) ?_;clear bs q;intro y17 y18 y19 y20 y21 y22 y23 y24 y25 y26 y27 y28 y29 y30 y31 y32 y33 y34 y35 y36 y37 y38 y39 y40 y41 y42 y43 y44 y45 y46 y47 y48 y49 y50 y51 y52 y53 y54 y55 y56 y57 y58 y59 y60 y61 y62 y63 y64 y65 y66 y67 y68 y69 y70 y71 y72 y73 y74 y75 y76 y77 y78 y79 y80 y81 y82 y83 y84 y85 y86 y87 y88 y89 y90 y91 y92 w9 bs;have q:=bs.q;go_wp2_with fail;go_ret;exact⟨rfl,q⟩
        | true=>
         obtain⟨m0,m1,m2,m3,m4,m5⟩:=HC2.out wr q;obtain⟨l0,l1,l2,l3,l4,l5⟩:=HE2.out wr q;go_wp2_with fail;clear m0 m1 m2 m3 m4 m5 l0 l1 l2 l3 l4 l5;refine mh (c:=Code.region 6 opsS true) (by kernel_rfl) ?_;refine qR HC2 HE2 bs wl h1 k2 k3 k4 h5 CC (fun _ _ _ _ _ h=>h) ?_;clear bs q;intro y17 y18 y19 y20 y21 y22 y23 y24 y25 y26 y27 y28 y29 y30 y31 y32 y33 y34 y35 y36 y37 y38 y39 y40 y41 y42 y43 y44 y45 y46 y47 y48 y49 y50 y51 y52 y53 y54 y55 y56 y57 y58 y59 y60 y61 y62 y63 y64 y65 y66 y67 y68 y69 y70 y71 y72 y73 y74 y75 y76 y77 y78 y79 y80 y81 y82 y83 y84 y85 y86 y87 y88 y89 y90 y91 y92 w9 bs;have q:=bs.q
         cases E6 with
         | true=>
          have HT:=h_ (HS.out (of_decide_eq_true (HQ.out.trans HND.out)));go_wp2_with fail;go_roundw
          case rel=>exact⟨k+1,by omega,by go_num,HT.out,bs⟩
          case measure=>simp[intOf];omega
         | false=>
          have hOf:=HN.out (of_decide_eq_false (HQ.out.trans (HND.out.trans (by simp))));subst hOf;go_wp2_with fail;go_ret;exact⟨rfl,q⟩
   ·have e1:(M.map Prod.fst).take k=M.map Prod.fst:=wD (by rw[wy,HL.out];omega)
    have e2:(K.map Prod.fst).take k=K.map Prod.fst:=wD (by rw[wy,HL'.out];omega)
    rw[e1,e2] at htk;have:O=true:=(by rw[←HO.out];exact decide_eq_true htk);subst this;clear e1 e2 htk;go_wp2_with fail;go_ret;exact⟨rfl,q⟩
 ·have:O=false:=by
   rw[←hO]
   refine decide_eq_false fun h=>hlen ?_
   have:=congrArg wI h;rw[wy,wy,hL,hL'] at this;exact this
  subst this
  have wl:¬ (L:Int)=(L':Int):=by omega
  clear hO hL hL' hv hu;go_enter func125,ntmps125;go_wp2_with fail;go_ret;exact⟨rfl,bQ _⟩
theorem qo (X Y:TrI) (w:World) (hx:trY.sub X w) (hy:trY.sub Y w) (zx:X.1.length≤100000∧∀p∈X.1,(ndA p).length≤100000) (zy:Y.1.length≤100000∧∀p∈Y.1,(ndA p).length≤100000):
  Calls prog 125 #[trV X,trV Y] w (Ret w (.bool (decide (trD X=trD Y)))):=
 oJ (trV X) (trV Y) X.1 Y.1 w hx hy zx.1 zy.1 fun x hxm y hym W hb=>
  vx.ret (iD (ndV x) (ndV y) (ndA x) (ndA y) W (IsL.ret (show IsL atY (ndV x) (ndA x) w from hx.2.2 x hxm) hb) (IsL.ret (show IsL atY (ndV y) (ndA y) w from hy.2.2 y hym) hb) (zx.2 x hxm) (zy.2 y hym))
theorem gM (v u:Value) (M K:List TrI) (w:World) (hv:IsL trY v M w) (hu:IsL trY u K w) (hM:M.length≤100000) (hK:K.length≤100000) (hc0:∀x∈M,∀y∈K,∀W,Bl w W→Calls prog 125 #[trV x,trV y] W (Ret W (.bool (decide (trD x=trD y))))):
  Calls prog 64 #[v,u] w (Ret w (.bool (decide (M.map trD=K.map trD)))):=by
 obtain⟨a,ca,hf1,-⟩:=hv.form;obtain⟨b,cb,hf2,-⟩:=hu.form;obtain⟨O,hO⟩:=e_ (decide (M.map trD=K.map trD));obtain⟨L,hL⟩:=e_ M.length;obtain⟨L',hL'⟩:=e_ K.length;rw[hL] at hf1 hM;rw[hL'] at hf2 hK;rw[hO];subst hf1 hf2
 by_cases hlen:L=L'
 ·subst hlen
  have HO:=h_ hO;have HL:=h_ hL;have HL':=h_ hL';have HV:=h_ hv;have HU:=h_ hu;have HC0:=h_ hc0;clear hc0;clear hO hL hL' hv hu;go_enter func64,ntmps64;go_wp2_with fail;go_loopw [5] (fun i wx=>∃k:Nat,k≤L∧i=.int .i64 k∧(M.map trD).take k=(K.map trD).take k∧Sx w [] wx) (fun i _=>L-(intOf i).toNat)
  case atStart=>exact⟨0,wH _,rfl,rfl,Sx.start w⟩
  case round=>
   obtain⟨k,hk,rfl,htk,bs⟩:=hrel;have q:=bs.q
   by_cases hlt:k<L
   ·have hkM : k < M.length := by rw [HL.out]; exact hlt
    have hkK:k<K.length:=(by rw[HL'.out];exact hlt);obtain⟨x,hx⟩:=e_ (M[k]);obtain⟨y,hy⟩:=e_ (K[k]);obtain⟨B,off,cp,hf,-,hc⟩:=HV.out.cells (k:=k) (x:=x) (by rw[wA hkM,hx]);rw[HL.out] at hf;simp only[wB,true_and] at hf;obtain⟨rfl,rfl⟩:=hf;obtain⟨B',off',cp',hf,-,he⟩:=HU.out.cells (k:=k) (x:=y) (by rw[wA hkK,hy]);rw[HL'.out] at hf;simp only[wB,true_and] at hf;obtain⟨rfl,rfl⟩:=hf;have hxm:x∈M:=(by rw[←hx];exact wC hkM);have hym:y∈K:=(by rw[←hy];exact wC hkK);have hkm:k<(M.map trD).length:=(by simpa using hkM);have hkk:k<(K.map trD).length:=(by simpa using hkK)
    have hst:trD x=trD y→(M.map trD).take (k+1)=(K.map trD).take (k+1):=fun h=>cg hkm hkk htk (by rw[ww,ww,hx,hy];exact h)
    have hno:trD x≠trD y→O=false:=fun h=>by
     rw[←HO.out];exact decide_eq_false (ek hkm hkk (by rw[ww,ww,hx,hy];exact h))
    have HC:=h_ hc;have HE:=h_ he;have HS:=h_ hst;have HN:=h_ hno;have wl:(k:Int)<(L:Int):=(by omega);clear hc he hx hy hkm hkk htk hkM hkK hst hno;have CC:=HC0.out x hxm y hym;obtain⟨E,hE⟩:=e_ (decide (trD x=trD y));rw[hE] at CC;have CC:=h_ CC
    have c0:wr.cell? ⟨B,off+k,none⟩=some (trV x):=by
     have h:=HC.out wr q 0 _ rfl
     rwa [show off+k*trY.n+0=off+k from (by show off+k*1+0=off+k;omega)] at h
    have e0:wr.cell? ⟨B',off'+k,none⟩=some (trV y):=by
     have h:=HE.out wr q 0 _ rfl
     rwa [show off'+k*trY.n+0=off'+k from (by show off'+k*1+0=off'+k;omega)] at h
    clear c0 e0
    have HC1:=h_ fun (w':World) (hb:Bl w w')=>show w'.cell? ⟨B,off+k,none⟩=some (trV x) by
     have h:=HC.out w' hb 0 _ rfl
     rwa [show off+k*trY.n+0=off+k from (by show off+k*1+0=off+k;omega)] at h
    have HE1:=h_ fun (w':World) (hb:Bl w w')=>show w'.cell? ⟨B',off'+k,none⟩=some (trV y) by
     have h:=HE.out w' hb 0 _ rfl
     rwa [show off'+k*trY.n+0=off'+k from (by show off'+k*1+0=off'+k;omega)] at h
    cases E with
    | true=>
     have HT:=h_ (HS.out (of_decide_eq_true hE));clear hE;have c0:=HC1.out wr q;have e0:=HE1.out wr q;go_wp2_with fail;clear c0 e0;replace bs:=bs.ret (wz (bQ _));replace q:=bs.q
     have y11:wr.drew.heap.size=wr.heap.size:=rfl
     refine wp_region_held_drew (S:=fun w'=>w'.cell? ⟨B,off+k,none⟩=some (trV x)∧w'.cell? ⟨B',off'+k,none⟩=some (trV y)) (by kernel_rfl) ⟨(HC1.out _ q),(HE1.out _ q)⟩ (fun hH=>?_);generalize wr.drew=w11 at bs q y11 hH ⊢;refine rS [(0,some 17),(1,some 18),(2,some 19),(3,some 20),(4,some 21),(5,some 22),(6,some 23),(7,some 24)] ?_
     iterate 8
      refine aG (v:=?_) (by kernel_rfl) (by kernel_rfl) (fun _ _ _ h=>h) (by assumption) (fun o ho w' hSw=>?_) ?_;rotate_left
      ·have ho2:=wv (show some _=some o from ho);subst ho2;(try dsimp only at hSw);go_simp;try with_reducible rfl
      simp only[wq,ws,wt,wu]
     refine rE ?_;refine iy (i:=8) (by kernel_rfl) (by kernel_rfl) (fun o ho K hK=>?_);have ho2:=wv (show some _=some o from ho);subst ho2;go_simp;refine(CC.out w11 q).mono ?_;rintro e w12 ⟨rfl,hb⟩;replace bs:=bs.ret hb;replace q:=bs.q;clear hb;go_simp;clear hH;refine hK.out _ _ ⟨(HC1.out _ q),(HE1.out _ q)⟩ (fun hH=>?_);clear hK K;refine ja (i:=9) (some 26) (v:=?_) (by kernel_rfl) (by kernel_rfl) (by kernel_rfl) (by kernel_rfl) (fun _ _ _ h=>h) (by assumption) (fun o ho w' hSw=>?_) ?_;rotate_left
     ·(have ho2:=wv (show some _=some o from ho);subst ho2;(try dsimp only at hSw);go_simp;try with_reducible rfl)
     simp only[wq,ws,wt,wu];refine aD ?_;clear hH;go_wp2_with fail;go_roundw
     case rel=>exact⟨k+1,by omega,by go_num,HT.out,bs⟩
     case measure=>simp[intOf];omega
    | false=>
     have hOf:=HN.out (of_decide_eq_false hE);subst hOf;clear hE;have c0:=HC1.out wr q;have e0:=HE1.out wr q;go_wp2_with fail;clear c0 e0;replace bs:=bs.ret (wz (bQ _));replace q:=bs.q
     have y11:wr.drew.heap.size=wr.heap.size:=rfl
     refine wp_region_held_drew (S:=fun w'=>w'.cell? ⟨B,off+k,none⟩=some (trV x)∧w'.cell? ⟨B',off'+k,none⟩=some (trV y)) (by kernel_rfl) ⟨(HC1.out _ q),(HE1.out _ q)⟩ (fun hH=>?_);generalize wr.drew=w11 at bs q y11 hH ⊢;refine rS [(0,some 17),(1,some 18),(2,some 19),(3,some 20),(4,some 21),(5,some 22),(6,some 23),(7,some 24)] ?_
     iterate 8
      refine aG (v:=?_) (by kernel_rfl) (by kernel_rfl) (fun _ _ _ h=>h) (by assumption) (fun o ho w' hSw=>?_) ?_;rotate_left
      ·have ho2:=wv (show some _=some o from ho);subst ho2;(try dsimp only at hSw);go_simp;try with_reducible rfl
      simp only[wq,ws,wt,wu]
     refine rE ?_;refine iy (i:=8) (by kernel_rfl) (by kernel_rfl) (fun o ho K hK=>?_);have ho2:=wv (show some _=some o from ho);subst ho2;go_simp;refine(CC.out w11 q).mono ?_;rintro e w12 ⟨rfl,hb⟩;replace bs:=bs.ret hb;replace q:=bs.q;clear hb;go_simp;clear hH;refine hK.out _ _ ⟨(HC1.out _ q),(HE1.out _ q)⟩ (fun hH=>?_);clear hK K;refine ja (i:=9) (some 26) (v:=?_) (by kernel_rfl) (by kernel_rfl) (by kernel_rfl) (by kernel_rfl) (fun _ _ _ h=>h) (by assumption) (fun o ho w' hSw=>?_) ?_;rotate_left
     ·(have ho2:=wv (show some _=some o from ho);subst ho2;(try dsimp only at hSw);go_simp;try with_reducible rfl)
     simp only[wq,ws,wt,wu];refine aD ?_;clear hH;go_wp2_with fail;go_ret;exact⟨rfl,q⟩
   ·have e1:(M.map trD).take k=M.map trD:=wD (by rw[wy,HL.out];omega)
    have e2:(K.map trD).take k=K.map trD:=wD (by rw[wy,HL'.out];omega)
    rw[e1,e2] at htk;have:O=true:=(by rw[←HO.out];exact decide_eq_true htk);subst this;clear e1 e2 htk;go_wp2_with fail;go_ret;exact⟨rfl,q⟩
 ·have:O=false:=by
   rw[←hO]
   refine decide_eq_false fun h=>hlen ?_
   have:=congrArg wI h;rw[wy,wy,hL,hL'] at this;exact this
  subst this
  have wl:¬ (L:Int)=(L':Int):=by omega
  clear hO hL hL' hv hu;go_enter func64,ntmps64;go_wp2_with fail;go_ret;exact⟨rfl,bQ _⟩
theorem jo (v u:Value) (M K:List TrI) (w:World) (hv:IsL trY v M w) (hu:IsL trY u K w) (hM:M.length≤100000) (hK:K.length≤100000) (zM:∀t∈M,EqT t) (zK:∀t∈K,EqT t):
  Calls prog 64 #[v,u] w (Ret w (.bool (decide (M.map trD=K.map trD)))):=
 gM v u M K w hv hu hM hK fun x hx y hy W hb=>qo x y W (trY.subRet _ _ _ (hv.2.2 x hx) hb) (trY.subRet _ _ _ (hu.2.2 y hy) hb) (zM x hx) (zK y hy)
theorem il (j j':ByteArray) (on on' ask ask':Bool) (pr pr':Int) (lv lv' sv sv':Value) (E1 E2 E3 E4 G H:Bool) (w:World) (h1:(j.toList==j'.toList)=E1) (h2:(on==on')=E2) (h3:(pr==pr')=E3) (h4:(ask==ask')=E4)
  (CG:∀W,Bl w W→Calls prog 21 #[sv,sv'] W (Ret W (.bool G)))
  (CH:∀W,Bl w W→Calls prog 64 #[lv,lv'] W (Ret W (.bool H))):
  Calls prog 19 #[.agg #[.string j,.bool on,.int .i64 pr,lv,.bool ask,sv],.agg #[.string j',.bool on',.int .i64 pr',lv',.bool ask',sv']] w (Ret w (.bool (E1&&(E2&&(E3&&(E4&&(G&&H))))))):=by
 have CG:=h_ CG;have CH:=h_ CH
 cases E1 with
 | false=>
  obtain⟨W0,hW,y0,bs⟩:=Sx.start2 w [.string j,.bool on,.int .i64 pr,lv,.bool ask,sv] 38 [.string j',.bool on',.int .i64 pr',lv',.bool ask',sv'] 38;have HW:=h_ hW;clear hW;have q:=bs.q;go_enter func19,ntmps19;go_wp2_with fail;rw[HW.out];have c_x0:=bs.b6 0;have c_y0:=bs.b6 1;go_wp2_with fail;go_ret;exact⟨rfl,q⟩
 | true=>
  cases E2 with
  | false=>
   obtain⟨W0,hW,y0,bs⟩:=Sx.start2 w [.string j,.bool on,.int .i64 pr,lv,.bool ask,sv] 38 [.string j',.bool on',.int .i64 pr',lv',.bool ask',sv'] 38;have HW:=h_ hW;clear hW;have q:=bs.q;go_enter func19,ntmps19;go_wp2_with fail;rw[HW.out];have c_x0:=bs.b6 0;have c_y0:=bs.b6 1;go_wp2_with fail;go_ret;exact⟨rfl,q⟩
  | true=>
   cases E3 with
   | false=>
    obtain⟨W0,hW,y0,bs⟩:=Sx.start2 w [.string j,.bool on,.int .i64 pr,lv,.bool ask,sv] 38 [.string j',.bool on',.int .i64 pr',lv',.bool ask',sv'] 38;have HW:=h_ hW;clear hW;have q:=bs.q;go_enter func19,ntmps19;go_wp2_with fail;rw[HW.out];have c_x0:=bs.b6 0;have c_y0:=bs.b6 1;go_wp2_with fail;go_ret;exact⟨rfl,q⟩
   | true=>
    cases E4 with
    | false=>
     obtain⟨W0,hW,y0,bs⟩:=Sx.start2 w [.string j,.bool on,.int .i64 pr,lv,.bool ask,sv] 38 [.string j',.bool on',.int .i64 pr',lv',.bool ask',sv'] 38;have HW:=h_ hW;clear hW;have q:=bs.q;go_enter func19,ntmps19;go_wp2_with fail;rw[HW.out];have c_x0:=bs.b6 0;have c_y0:=bs.b6 1;go_wp2_with fail;go_ret;exact⟨rfl,q⟩
    | true=>
     cases G with
     | false=>
      obtain⟨W0,hW,y0,bs⟩:=Sx.start2 w [.string j,.bool on,.int .i64 pr,lv,.bool ask,sv] 38 [.string j',.bool on',.int .i64 pr',lv',.bool ask',sv'] 38;have HW:=h_ hW;clear hW;have q:=bs.q;go_enter func19,ntmps19;go_wp2_with fail;rw[HW.out];have c_x0:=bs.b6 0;have c_y0:=bs.b6 1;go_wp2_with fail;refine(CG.out W0 q).mono ?_;rintro e w1 ⟨rfl,hb⟩;clear c_x0 c_y0;replace bs:=bs.ret hb;replace q:=bs.q;clear hb;have c_x0:=bs.b6 0;have c_y0:=bs.b6 1;go_wp2_with fail;go_ret;exact⟨rfl,q⟩
     | true=>
      cases H with
      | false=>
       obtain⟨W0,hW,y0,bs⟩:=Sx.start2 w [.string j,.bool on,.int .i64 pr,lv,.bool ask,sv] 38 [.string j',.bool on',.int .i64 pr',lv',.bool ask',sv'] 38;have HW:=h_ hW;clear hW;have q:=bs.q;go_enter func19,ntmps19;go_wp2_with fail;rw[HW.out];have c_x0:=bs.b6 0;have c_y0:=bs.b6 1;go_wp2_with fail;refine(CG.out W0 q).mono ?_;rintro e w1 ⟨rfl,hb⟩;clear c_x0 c_y0;replace bs:=bs.ret hb;replace q:=bs.q;clear hb;have c_x0:=bs.b6 0;have c_y0:=bs.b6 1;go_wp2_with fail;refine(CH.out w1 q).mono ?_;rintro e w2 ⟨rfl,hb⟩;clear c_x0 c_y0;replace bs:=bs.ret hb;replace q:=bs.q;clear hb;have c_x0:=bs.b6 0;have c_y0:=bs.b6 1;go_wp2_with fail;go_ret;exact⟨rfl,q⟩
      | true=>
       obtain⟨W0,hW,y0,bs⟩:=Sx.start2 w [.string j,.bool on,.int .i64 pr,lv,.bool ask,sv] 38 [.string j',.bool on',.int .i64 pr',lv',.bool ask',sv'] 38;have HW:=h_ hW;clear hW;have q:=bs.q;go_enter func19,ntmps19;go_wp2_with fail;rw[HW.out];have c_x0:=bs.b6 0;have c_y0:=bs.b6 1;go_wp2_with fail;refine(CG.out W0 q).mono ?_;rintro e w1 ⟨rfl,hb⟩;clear c_x0 c_y0;replace bs:=bs.ret hb;replace q:=bs.q;clear hb;have c_x0:=bs.b6 0;have c_y0:=bs.b6 1;go_wp2_with fail;refine(CH.out w1 q).mono ?_;rintro e w2 ⟨rfl,hb⟩;clear c_x0 c_y0;replace bs:=bs.ret hb;replace q:=bs.q;clear hb;have c_x0:=bs.b6 0;have c_y0:=bs.b6 1;go_wp2_with fail;go_ret;exact⟨rfl,q⟩
theorem fo (v u:Value) (xs ys:List (List UInt8)) (w:World) (hv:aB v xs w) (hu:aB u ys w) (hl:xs.length≤1000000):Calls prog 21 #[v,u] w (Ret w (.bool (decide (xs=ys)))):=om v u xs ys w hv.1 hu.1 hl
theorem eY (x y:RsI) (w:World) (hx:rsY.sub x w) (hy:rsY.sub y w) (zx:EqR x) (zy:EqR y):Calls prog 19 #[x.v,y.v] w (Ret w (.bool (decide (x.d=y.d)))):=by
 rw[uC]
 exact il ⟨x.j.toArray⟩ ⟨y.j.toArray⟩ x.on y.on x.ask y.ask x.pr y.pr x.lv y.lv x.sv y.sv _ _ _ _ _ _ w (fi _ _) rfl rfl rfl
  (fun W hb=>fo x.sv y.sv x.st y.st W (aB.ret hx.2 hb) (aB.ret hy.2 hb) (by have:=zx.2.1;omega)) (fun W hb=>jo x.lv y.lv x.ld y.ld W (hx.1.ret hb) (hy.1.ret hb) zx.1 zy.1 zx.2.2 zy.2.2)
end Go.Proofs.YtjgeiieiinmdnaaGreatDoor
