/- GrE, DdC: put together by mergetpl.py. -/
import Derived.Test.YtjgeiieiinmdnaaGreatDoorLk
import Derived.Test.YtjgeiieiinmdnaaGreatDoorLs
open Go.Proofs.Tryz
open Bool renaming false_eq_true→wD
open Go.Act renaming put→wh
open Go.RowKit.Below renaming drew→ww
open Go.Value.slice renaming injEq→wz
open Go.World renaming drewN_drewN→wG
open List renaming setIfInBounds_toArray→wo,set_cons_zero→wq,set_cons_succ→ws,length_map→wu,getElem_map→wv,getElem?_eq_getElem→wy,getElem_mem→wA,take_of_length_le→wB,length→wF,map_id→wH,getElem?_map→wI
open Nat renaming zero_le→wE
open Option renaming getD_some→wC
open Option.some renaming inj→wt
namespace Go.Proofs.YtjgeiieiinmdnaaGreatDoor
set_option maxHeartbeats 8000000
set_option maxRecDepth 100000
open Go.RowKit Go.Lib

def vu (w:World) (v:Value) (e:Ending) (w':World):Prop:=e=.returned v∧∃m,w'=w.drewN m
theorem vu.ret {P:Program} {f:FuncId} {args:Array Value} {w:World} {v:Value} (h:Calls P f args w (vu w v)):Calls P f args w (Ret w v):=h.mono fun e w' ⟨h1,m,h2⟩=>⟨h1,by rw[h2];exact below_drewN w m⟩
section
variable {P:Program} {ops:Array Oper} {Q:Exit→Act→World→Prop} {md:Region.Mode} {S:World→Prop}
theorem aT {i:Nat} {d:Option Tmp} {r:List (Nat×Option Tmp)} {zH:Nat} {xR:Array Bool} {a:Act} {w:World} (hd:(ops[i]?).map (fun o=>(o.dst,Region.wanted o (yielded ops a.tmps)))=some (d,false))
  (hc:(Region.noSelect ops&&(Region.free md ops xR i&&(Region.ready md ops xR).contains i))=true)
  (hQ:∀c a' w',Q (.panic c) (a'.put d undef) w'→Q (.panic c) a' w') (hS:S w)
  (h:nH r (wpAnyH P md ops Q S zH (xR.setIfInBounds i true) (a.put d undef) w)):nH ((i,d) :: r) (wpAnyH P md ops Q S (zH+1) xR a w):=by
 simp only[Bool.and_eq_true] at hc;exact sk d hd hc.1 hc.2.1 hc.2.2 hQ hS h
end
theorem gt (a b:List UInt8):((⟨a.toArray⟩:ByteArray).toList==(⟨b.toArray⟩:ByteArray).toList)=decide (a=b):=by by_cases h:a=b <;> simp[h]
theorem gT (v u:Value) (M K:List At) (w:World) (hv:IsL atY v M w) (hu:IsL atY u K w) (hM:M.length≤100000) (hK:K.length≤100000):
  Calls prog 169 #[v,u] w (vu w (.bool (decide (M.map id=K.map id)))):=by
 obtain⟨a,ca,yE,-⟩:=hv.form;obtain⟨b,cb,yF,-⟩:=hu.form;obtain⟨O,hO⟩:=e_ (decide (M.map id=K.map id));obtain⟨L,hL⟩:=e_ M.length;obtain⟨L',xB⟩:=e_ K.length;rw[hL] at yE hM;rw[xB] at yF hK;rw[hO];subst yE yF
 by_cases hlen:L=L'
 ·subst hlen
  have HO:=h_ hO;have HL:=h_ hL;have xS:=h_ xB;have HV:=h_ hv;have HU:=h_ hu;clear hO hL xB hv hu;go_enter func169,ntmps169;go_wp2_with fail;go_loopw [5] (fun i wx=>∃k:Nat,k≤L∧i=.int .i64 k∧(M.map id).take k=(K.map id).take k∧∃m,wx=w.drewN m) (fun i _=>L-(intOf i).toNat)
  case atStart=>exact⟨0,wE _,rfl,rfl,0,rfl⟩
  case round=>
   obtain⟨k,hk,rfl,xC,m,hm⟩:=hrel;have q:Bl w wr:=(by rw[hm];exact below_drewN w m);have HM:=h_ hm;clear hm
   by_cases hlt:k<L
   ·have xF : k < M.length := by rw [HL.out]; exact hlt
    have xG:k<K.length:=(by rw[xS.out];exact hlt);obtain⟨x,hx⟩:=e_ (M[k]);obtain⟨y,hy⟩:=e_ (K[k]);obtain⟨B,off,cp,hf,-,hc⟩:=HV.out.cells (k:=k) (x:=x) (by rw[wy xF,hx]);rw[HL.out] at hf;simp only[wz,true_and] at hf;obtain⟨rfl,rfl⟩:=hf;obtain⟨B',xn,Ax,hf,-,he⟩:=HU.out.cells (k:=k) (x:=y) (by rw[wy xG,hy]);rw[xS.out] at hf;simp only[wz,true_and] at hf;obtain⟨rfl,rfl⟩:=hf;have yG:x∈M:=(by rw[←hx];exact wA xF);have yH:y∈K:=(by rw[←hy];exact wA xG);have xT:k<(M.map id).length:=(by simpa using xF);have xU:k<(K.map id).length:=(by simpa using xG)
    have hst:id x=id y→(M.map id).take (k+1)=(K.map id).take (k+1):=fun h=>jA xT xU xC (by rw[wv,wv,hx,hy];exact h)
    have yI:id x≠id y→O=false:=fun h=>by
     rw[←HO.out];exact decide_eq_false (nS xT xU (by rw[wv,wv,hx,hy];exact h))
    have HC:=h_ hc;have HE:=h_ he;have HS:=h_ hst;have HN:=h_ yI;have wl:(k:Int)<(L:Int):=(by omega);clear hc he hx hy xT xU xC xF xG hst yI
    have c0:wr.cell? ⟨B,off+k*3,none⟩=some (.string ⟨x.1.toArray⟩):=HC.out wr q 0 _ rfl
    have c1:wr.cell? ⟨B,off+k*3+1,none⟩=some (.string ⟨x.2.1.toArray⟩):=HC.out wr q 1 _ rfl
    have c2:wr.cell? ⟨B,off+k*3+2,none⟩=some (.string ⟨x.2.2.toArray⟩):=HC.out wr q 2 _ rfl
    have e0:wr.cell? ⟨B',xn+k*3,none⟩=some (.string ⟨y.1.toArray⟩):=HE.out wr q 0 _ rfl
    have e1:wr.cell? ⟨B',xn+k*3+1,none⟩=some (.string ⟨y.2.1.toArray⟩):=HE.out wr q 1 _ rfl
    have e2:wr.cell? ⟨B',xn+k*3+2,none⟩=some (.string ⟨y.2.2.toArray⟩):=HE.out wr q 2 _ rfl
    have Ay:x=y↔x.1=y.1∧x.2.1=y.2.1∧x.2.2=y.2.2:=⟨fun h=>by rw[h];exact⟨rfl,rfl,rfl⟩,fun ⟨h1,h2,h3⟩=>Prod.ext h1 (Prod.ext h2 h3)⟩
    have EX:=h_ Ay;clear Ay
    by_cases g0:x.1=y.1
    ·skip
     by_cases g1:x.2.1=y.2.1
     ·skip
      by_cases g2:x.2.2=y.2.2
      ·skip
       have HT:=h_ (HS.out (EX.out.2 ⟨g0,g1,g2⟩));go_wp2_with fail;go_quiet (fail);go_wp2_with fail;go_roundw
       case rel=>exact⟨k+1,by omega,by go_num,HT.out,m+nq,by rw[HM.out,wG]⟩
       case measure=>simp[intOf];omega
      ·have xA:=HN.out (fun h=>g2 (EX.out.1 h).2.2)
       subst xA;go_wp2_with fail;go_quiet (fail);go_wp2_with fail;go_ret;exact⟨rfl,m+nq,by rw[HM.out,wG]⟩
     ·have xA:=HN.out (fun h=>g1 (EX.out.1 h).2.1)
      subst xA;go_wp2_with fail;go_quiet (fail);go_wp2_with fail;go_ret;exact⟨rfl,m+nq,by rw[HM.out,wG]⟩
    ·have xA:=HN.out (fun h=>g0 (EX.out.1 h).1)
     subst xA;go_wp2_with fail;go_quiet (fail);go_wp2_with fail;go_ret;exact⟨rfl,m+nq,by rw[HM.out,wG]⟩
   ·have e1:(M.map id).take k=M.map id:=wB (by rw[wu,HL.out];omega)
    have e2:(K.map id).take k=K.map id:=wB (by rw[wu,xS.out];omega)
    rw[e1,e2] at xC;have:O=true:=(by rw[←HO.out];exact decide_eq_true xC);subst this;clear e1 e2 xC;go_wp2_with fail;go_ret;exact⟨rfl,m,HM.out⟩
 ·have:O=false:=by
   rw[←hO]
   refine decide_eq_false fun h=>hlen ?_
   have:=congrArg wF h;rw[wu,wu,hL,xB] at this;exact this
  subst this
  have wl:¬ (L:Int)=(L':Int):=by omega
  clear hO hL xB hv hu;go_enter func169,ntmps169;go_wp2_with fail;go_ret;exact⟨rfl,0,rfl⟩
theorem ju (v u:Value) (M K:List At) (w:World) (hv:IsL atY v M w) (hu:IsL atY u K w) (hM:M.length≤100000) (hK:K.length≤100000):
  Calls prog 169 #[v,u] w (vu w (.bool (decide (M=K)))):=by
 have h:=gT v u M K w hv hu hM hK;rw[wH,wH] at h;exact h
def eG (n:Nat):Code→Option (Array Oper)
 | .region id ops _=>if id==n then some ops else none
 | .seq a b=>match eG n a with
  | some x=>some x
  | none=>eG n b
 | .cond _ a b=>match eG n a with
  | some x=>some x
  | none=>eG n b
 | .block _ b=>eG n b
 | .loop b=>eG n b
 | .scope b=>eG n b
 | _=>none
noncomputable def opsS:Array Oper:=(eG 6 (Tryz.f125.body.getD .skip)).getD #[]
theorem nj {P:Program} {c c':Code} {Q:Exit→Act→World→Prop} {a:Act} {w:World} (h:c=c') (hw:Code.wp P c Q a w):Code.wp P c' Q a w:=h ▸ hw
theorem qg {Kc:Exit→Act→World→Prop} {x2 x3 x4 x6 x7 x8 x9 x10 x11 x12 x13 x14 x15 x16 x17 x18 x19 x20 x21 x22 x23 x24 x25 x26 x27 x28 x29 x30 x31 x32 x33 x34 x35 x36 x37 x38 x39 x40 x41 x42 x43 x44 x45 x46 x47 x48 x49 x50 x51 x52 x53 x54 x55 x56 x57 x58 x59 x60 x61 x62 x63 x64 x65 x66 x67 x68 x69 x70 x71 x72 x73 x74 x75 x76 x77 x78 xV xW xX xY xZ yd ye yf yg yh yi yj yk yl yn:Value} {w wr:World} {B off L ca B' xn cb k XL xc YL yc:Nat} {xa ya:Option Addr} {a1 n1 a2 n2:Int} {s1 s2 s3 s4 s5 s6:ByteArray}
  (xp:Hid (∀w',Bl w w'→w'.cell? ⟨B,off+k*6,none⟩=some (.int .u8 a1)∧w'.cell? ⟨B,off+k*6+1,none⟩=some (.string s1)∧w'.cell? ⟨B,off+k*6+2,none⟩=some (.string s3)∧w'.cell? ⟨B,off+k*6+3,none⟩=some (.slice xa XL xc)∧w'.cell? ⟨B,off+k*6+4,none⟩=some (.string s5)∧w'.cell? ⟨B,off+k*6+5,none⟩=some (.int .i64 n1))) (xq:Hid (∀w',Bl w w'→w'.cell? ⟨B',xn+k*6,none⟩=some (.int .u8 a2)∧w'.cell? ⟨B',xn+k*6+1,none⟩=some (.string s2)∧w'.cell? ⟨B',xn+k*6+2,none⟩=some (.string s4)∧w'.cell? ⟨B',xn+k*6+3,none⟩=some (.slice ya YL yc)∧w'.cell? ⟨B',xn+k*6+4,none⟩=some (.string s6)∧w'.cell? ⟨B',xn+k*6+5,none⟩=some (.int .i64 n2))) (bs:Sx w [] wr) (wl:(k:Int)<(L:Int)) (e1:(a1==a2)=false)
  (hp:∀c (a:Act) t v w',Kc (.panic c) (a.put (some t) v) w'→Kc (.panic c) a w') (h:∀y17 y18 y19 y20 y21 y22 y23 y24 y25 y26 y27 y28 y29 y30 y31 y32 y33 y34 y35 y36 y37 y38 y39 y40 y41 y42 y43 y44 y45 y46 y47 y48 y49 y50 y51 y52 y53 y54 y55 y56 y57 y58 y59 y60 y61 y62 y63 y64 y65 y66 y67 y68 y69 y70 y71 y72 y73 y74 y75 y76 y77 y78 y79 y80 y81 y82 y83 y84 y85 y86 y87 y88 y89 y90 y91 y92 w',Sx w [] w'→Kc .normal {tmps:=#[.slice (some ⟨B,off,none⟩) L ca,.slice (some ⟨B',xn,none⟩) L cb,x2,x3,x4,.int .i64 k,x6,x7,x8,x9,x10,x11,x12,x13,x14,x15,x16,y17,y18,y19,y20,y21,y22,y23,y24,y25,y26,y27,y28,y29,y30,y31,y32,y33,y34,y35,y36,y37,y38,y39,y40,y41,y42,y43,y44,y45,y46,y47,y48,y49,y50,y51,y52,y53,y54,y55,y56,y57,y58,y59,y60,y61,y62,y63,y64,y65,y66,y67,y68,y69,y70,y71,y72,y73,y74,y75,y76,y77,y78,y79,y80,y81,y82,y83,y84,y85,y86,y87,y88,y89,y90,y91,y92,.bool true],defers:=[]} w'):Code.wp prog (Code.region 6 opsS true) Kc {tmps:=#[.slice (some ⟨B,off,none⟩) L ca,.slice (some ⟨B',xn,none⟩) L cb,x2,x3,x4,.int .i64 k,x6,x7,x8,x9,x10,x11,x12,x13,x14,x15,x16,x17,x18,x19,x20,x21,x22,x23,x24,x25,x26,x27,x28,x29,x30,x31,x32,x33,x34,x35,x36,x37,x38,x39,x40,x41,x42,x43,x44,x45,x46,x47,x48,x49,x50,x51,x52,x53,x54,x55,x56,x57,x58,x59,x60,x61,x62,x63,x64,x65,x66,x67,x68,x69,x70,x71,x72,x73,x74,x75,x76,x77,x78,xV,xW,xX,xY,xZ,yd,ye,yf,yg,yh,yi,yj,yk,yl,yn],defers:=[]} wr:=by
 have q:=bs.q;have h:=h_ h;have hp:=h_ hp;unfold opsS;simp only[Tryz.f125,wC,eG,Nat.reduceBEq,wD,if_false,if_true]
 have f1:(a1 != a2)=true:=by rw[bne,e1];rfl
 replace bs:=bs.ret (ww (bQ _));replace q:=bs.q
 have xE:wr.drew.heap.size=wr.heap.size:=rfl
 refine wp_region_held_drew (S:=fun w'=>w'.cell? ⟨B,off+k*6,none⟩=some (.int .u8 a1)∧w'.cell? ⟨B,off+k*6+1,none⟩=some (.string s1)∧w'.cell? ⟨B,off+k*6+2,none⟩=some (.string s3)∧w'.cell? ⟨B,off+k*6+3,none⟩=some (.slice xa XL xc)∧w'.cell? ⟨B,off+k*6+4,none⟩=some (.string s5)∧w'.cell? ⟨B,off+k*6+5,none⟩=some (.int .i64 n1)∧w'.cell? ⟨B',xn+k*6,none⟩=some (.int .u8 a2)∧w'.cell? ⟨B',xn+k*6+1,none⟩=some (.string s2)∧w'.cell? ⟨B',xn+k*6+2,none⟩=some (.string s4)∧w'.cell? ⟨B',xn+k*6+3,none⟩=some (.slice ya YL yc)∧w'.cell? ⟨B',xn+k*6+4,none⟩=some (.string s6)∧w'.cell? ⟨B',xn+k*6+5,none⟩=some (.int .i64 n2)) (by kernel_rfl) ⟨(xp.out _ q).1,(xp.out _ q).2.1,(xp.out _ q).2.2.1,(xp.out _ q).2.2.2.1,(xp.out _ q).2.2.2.2.1,(xp.out _ q).2.2.2.2.2,(xq.out _ q).1,(xq.out _ q).2.1,(xq.out _ q).2.2.1,(xq.out _ q).2.2.2.1,(xq.out _ q).2.2.2.2.1,(xq.out _ q).2.2.2.2.2⟩ (fun hH=>?_);generalize wr.drew=w11 at bs q xE hH ⊢;refine rS [(0,some 17),(1,some 18),(2,some 19),(3,some 20),(4,some 21),(5,some 22),(6,some 23),(7,some 24),(8,some 25),(9,some 26),(10,some 27),(11,some 28)] ?_
 iterate 12
  refine aH (v:=?_) (by kernel_rfl) (by kernel_rfl) (fun c a2 w2=>hp.out c a2 _ _ w2) (by assumption) (fun o ho w' xr=>?_) ?_;rotate_left
  ·have xo:=wt (show some _=some o from ho);subst xo;(try dsimp only at xr);go_simp;try with_reducible rfl
  simp only[wh,wo,wq,ws]
 refine rE ?_;refine rS [(12,some 29),(13,some 30),(14,some 31),(15,some 32),(16,some 33),(17,some 34),(18,some 35),(19,some 36),(20,some 37),(21,some 38),(22,some 39)] ?_
 iterate 11
  refine aT (by kernel_rfl) (by kernel_rfl) (fun c a2 w2=>hp.out c a2 _ _ w2) (by assumption) ?_;simp only[wh,wo,wq,ws]
 refine rE ?_;refine rS [(23,some 40),(24,some 41)] ?_
 iterate 2
  refine aH (v:=?_) (by kernel_rfl) (by kernel_rfl) (fun c a2 w2=>hp.out c a2 _ _ w2) (by assumption) (fun o ho w' xr=>?_) ?_;rotate_left
  ·have xo:=wt (show some _=some o from ho);subst xo;(try dsimp only at xr);go_simp;try with_reducible rfl
  simp only[wh,wo,wq,ws]
 refine rE ?_;refine rS [(25,some 42),(26,some 43),(27,some 44),(28,some 45),(29,some 46),(30,some 47),(31,some 48),(32,some 49),(33,some 50),(34,some 51),(35,some 52)] ?_
 iterate 11
  refine aT (by kernel_rfl) (by kernel_rfl) (fun c a2 w2=>hp.out c a2 _ _ w2) (by assumption) ?_;simp only[wh,wo,wq,ws]
 refine rE ?_;refine rS [(36,some 53),(37,some 54)] ?_
 iterate 2
  refine aH (v:=?_) (by kernel_rfl) (by kernel_rfl) (fun c a2 w2=>hp.out c a2 _ _ w2) (by assumption) (fun o ho w' xr=>?_) ?_;rotate_left
  ·have xo:=wt (show some _=some o from ho);subst xo;(try dsimp only at xr);go_simp;try with_reducible rfl
  simp only[wh,wo,wq,ws]
 refine rE ?_;refine rS [(38,some 55),(39,some 56),(40,some 57),(41,some 58),(42,some 59),(43,some 60),(44,some 61),(45,some 62),(46,some 63),(47,some 64),(48,some 65)] ?_
 iterate 11
  refine aT (by kernel_rfl) (by kernel_rfl) (fun c a2 w2=>hp.out c a2 _ _ w2) (by assumption) ?_;simp only[wh,wo,wq,ws]
 refine rE ?_;refine rS [(49,some 66),(50,some 67)] ?_
 iterate 2
  refine aH (v:=?_) (by kernel_rfl) (by kernel_rfl) (fun c a2 w2=>hp.out c a2 _ _ w2) (by assumption) (fun o ho w' xr=>?_) ?_;rotate_left
  ·have xo:=wt (show some _=some o from ho);subst xo;(try dsimp only at xr);go_simp;try with_reducible rfl
  simp only[wh,wo,wq,ws]
 refine rE ?_;refine rS [(51,some 68),(52,some 69),(53,some 70),(54,some 71),(55,some 72),(56,some 73),(57,some 74),(58,some 75),(59,some 76),(60,some 77),(61,some 78)] ?_
 iterate 11
  refine aT (by kernel_rfl) (by kernel_rfl) (fun c a2 w2=>hp.out c a2 _ _ w2) (by assumption) ?_;simp only[wh,wo,wq,ws]
 refine rE ?_;refine rS [(62,some 79),(63,some 80)] ?_
 iterate 2
  refine aH (v:=?_) (by kernel_rfl) (by kernel_rfl) (fun c a2 w2=>hp.out c a2 _ _ w2) (by assumption) (fun o ho w' xr=>?_) ?_;rotate_left
  ·have xo:=wt (show some _=some o from ho);subst xo;(try dsimp only at xr);go_simp;try with_reducible rfl
  simp only[wh,wo,wq,ws]
 refine rE ?_;refine rS [(64,some 81),(65,some 82),(66,some 83),(67,some 84),(68,some 85),(69,some 86),(70,some 87),(71,some 88),(72,some 89),(73,some 90),(74,some 91),(75,some 92)] ?_
 iterate 12
  refine aT (by kernel_rfl) (by kernel_rfl) (fun c a2 w2=>hp.out c a2 _ _ w2) (by assumption) ?_;simp only[wh,wo,wq,ws]
 refine rE ?_;refine kt (i:=76) (some 93) (v:=?_) (by kernel_rfl) (by kernel_rfl) (by kernel_rfl) (by kernel_rfl) (fun c a2 w2=>hp.out c a2 _ _ w2) (by assumption) (fun o ho w' xr=>?_) ?_;rotate_left
 ·(have xo:=wt (show some _=some o from ho);subst xo;(try dsimp only at xr);go_simp;try with_reducible rfl)
 simp only[wh,wo,wq,ws];refine aD ?_;clear hH;exact h.out _ _ _ _ _ _ _ _ _ _ _ _ _ _ _ _ _ _ _ _ _ _ _ _ _ _ _ _ _ _ _ _ _ _ _ _ _ _ _ _ _ _ _ _ _ _ _ _ _ _ _ _ _ _ _ _ _ _ _ _ _ _ _ _ _ _ _ _ _ _ _ _ _ _ _ _ _ bs
theorem qc {Kc:Exit→Act→World→Prop} {x2 x3 x4 x6 x7 x8 x9 x10 x11 x12 x13 x14 x15 x16 x17 x18 x19 x20 x21 x22 x23 x24 x25 x26 x27 x28 x29 x30 x31 x32 x33 x34 x35 x36 x37 x38 x39 x40 x41 x42 x43 x44 x45 x46 x47 x48 x49 x50 x51 x52 x53 x54 x55 x56 x57 x58 x59 x60 x61 x62 x63 x64 x65 x66 x67 x68 x69 x70 x71 x72 x73 x74 x75 x76 x77 x78 xV xW xX xY xZ yd ye yf yg yh yi yj yk yl yn:Value} {w wr:World} {B off L ca B' xn cb k XL xc YL yc:Nat} {xa ya:Option Addr} {a1 n1 a2 n2:Int} {s1 s2 s3 s4 s5 s6:ByteArray}
  (xp:Hid (∀w',Bl w w'→w'.cell? ⟨B,off+k*6,none⟩=some (.int .u8 a1)∧w'.cell? ⟨B,off+k*6+1,none⟩=some (.string s1)∧w'.cell? ⟨B,off+k*6+2,none⟩=some (.string s3)∧w'.cell? ⟨B,off+k*6+3,none⟩=some (.slice xa XL xc)∧w'.cell? ⟨B,off+k*6+4,none⟩=some (.string s5)∧w'.cell? ⟨B,off+k*6+5,none⟩=some (.int .i64 n1))) (xq:Hid (∀w',Bl w w'→w'.cell? ⟨B',xn+k*6,none⟩=some (.int .u8 a2)∧w'.cell? ⟨B',xn+k*6+1,none⟩=some (.string s2)∧w'.cell? ⟨B',xn+k*6+2,none⟩=some (.string s4)∧w'.cell? ⟨B',xn+k*6+3,none⟩=some (.slice ya YL yc)∧w'.cell? ⟨B',xn+k*6+4,none⟩=some (.string s6)∧w'.cell? ⟨B',xn+k*6+5,none⟩=some (.int .i64 n2))) (bs:Sx w [] wr) (wl:(k:Int)<(L:Int)) (e1:(a1==a2)=true) (e2:(s1.toList==s2.toList)=false)
  (hp:∀c (a:Act) t v w',Kc (.panic c) (a.put (some t) v) w'→Kc (.panic c) a w') (h:∀y17 y18 y19 y20 y21 y22 y23 y24 y25 y26 y27 y28 y29 y30 y31 y32 y33 y34 y35 y36 y37 y38 y39 y40 y41 y42 y43 y44 y45 y46 y47 y48 y49 y50 y51 y52 y53 y54 y55 y56 y57 y58 y59 y60 y61 y62 y63 y64 y65 y66 y67 y68 y69 y70 y71 y72 y73 y74 y75 y76 y77 y78 y79 y80 y81 y82 y83 y84 y85 y86 y87 y88 y89 y90 y91 y92 w',Sx w [] w'→Kc .normal {tmps:=#[.slice (some ⟨B,off,none⟩) L ca,.slice (some ⟨B',xn,none⟩) L cb,x2,x3,x4,.int .i64 k,x6,x7,x8,x9,x10,x11,x12,x13,x14,x15,x16,y17,y18,y19,y20,y21,y22,y23,y24,y25,y26,y27,y28,y29,y30,y31,y32,y33,y34,y35,y36,y37,y38,y39,y40,y41,y42,y43,y44,y45,y46,y47,y48,y49,y50,y51,y52,y53,y54,y55,y56,y57,y58,y59,y60,y61,y62,y63,y64,y65,y66,y67,y68,y69,y70,y71,y72,y73,y74,y75,y76,y77,y78,y79,y80,y81,y82,y83,y84,y85,y86,y87,y88,y89,y90,y91,y92,.bool true],defers:=[]} w'):Code.wp prog (Code.region 6 opsS true) Kc {tmps:=#[.slice (some ⟨B,off,none⟩) L ca,.slice (some ⟨B',xn,none⟩) L cb,x2,x3,x4,.int .i64 k,x6,x7,x8,x9,x10,x11,x12,x13,x14,x15,x16,x17,x18,x19,x20,x21,x22,x23,x24,x25,x26,x27,x28,x29,x30,x31,x32,x33,x34,x35,x36,x37,x38,x39,x40,x41,x42,x43,x44,x45,x46,x47,x48,x49,x50,x51,x52,x53,x54,x55,x56,x57,x58,x59,x60,x61,x62,x63,x64,x65,x66,x67,x68,x69,x70,x71,x72,x73,x74,x75,x76,x77,x78,xV,xW,xX,xY,xZ,yd,ye,yf,yg,yh,yi,yj,yk,yl,yn],defers:=[]} wr:=by
 have q:=bs.q;have h:=h_ h;have hp:=h_ hp;unfold opsS;simp only[Tryz.f125,wC,eG,Nat.reduceBEq,wD,if_false,if_true]
 have f1:(a1 != a2)=false:=by rw[bne,e1];rfl
 have f2:(s1.toList != s2.toList)=true:=by rw[bne,e2];rfl
 replace bs:=bs.ret (ww (bQ _));replace q:=bs.q
 have xE:wr.drew.heap.size=wr.heap.size:=rfl
 refine wp_region_held_drew (S:=fun w'=>w'.cell? ⟨B,off+k*6,none⟩=some (.int .u8 a1)∧w'.cell? ⟨B,off+k*6+1,none⟩=some (.string s1)∧w'.cell? ⟨B,off+k*6+2,none⟩=some (.string s3)∧w'.cell? ⟨B,off+k*6+3,none⟩=some (.slice xa XL xc)∧w'.cell? ⟨B,off+k*6+4,none⟩=some (.string s5)∧w'.cell? ⟨B,off+k*6+5,none⟩=some (.int .i64 n1)∧w'.cell? ⟨B',xn+k*6,none⟩=some (.int .u8 a2)∧w'.cell? ⟨B',xn+k*6+1,none⟩=some (.string s2)∧w'.cell? ⟨B',xn+k*6+2,none⟩=some (.string s4)∧w'.cell? ⟨B',xn+k*6+3,none⟩=some (.slice ya YL yc)∧w'.cell? ⟨B',xn+k*6+4,none⟩=some (.string s6)∧w'.cell? ⟨B',xn+k*6+5,none⟩=some (.int .i64 n2)) (by kernel_rfl) ⟨(xp.out _ q).1,(xp.out _ q).2.1,(xp.out _ q).2.2.1,(xp.out _ q).2.2.2.1,(xp.out _ q).2.2.2.2.1,(xp.out _ q).2.2.2.2.2,(xq.out _ q).1,(xq.out _ q).2.1,(xq.out _ q).2.2.1,(xq.out _ q).2.2.2.1,(xq.out _ q).2.2.2.2.1,(xq.out _ q).2.2.2.2.2⟩ (fun hH=>?_);generalize wr.drew=w11 at bs q xE hH ⊢;refine rS [(0,some 17),(1,some 18),(2,some 19),(3,some 20),(4,some 21),(5,some 22),(6,some 23),(7,some 24),(8,some 25),(9,some 26),(10,some 27),(11,some 28),(12,some 29),(13,some 30),(14,some 31),(15,some 32),(16,some 33),(17,some 34),(18,some 35),(19,some 36),(20,some 37),(21,some 38),(22,some 39),(23,some 40),(24,some 41)] ?_
 iterate 25
  refine aH (v:=?_) (by kernel_rfl) (by kernel_rfl) (fun c a2 w2=>hp.out c a2 _ _ w2) (by assumption) (fun o ho w' xr=>?_) ?_;rotate_left
  ·have xo:=wt (show some _=some o from ho);subst xo;(try dsimp only at xr);go_simp;try with_reducible rfl
  simp only[wh,wo,wq,ws]
 refine rE ?_;refine rS [(25,some 42),(26,some 43),(27,some 44),(28,some 45),(29,some 46),(30,some 47),(31,some 48),(32,some 49),(33,some 50),(34,some 51),(35,some 52)] ?_
 iterate 11
  refine aT (by kernel_rfl) (by kernel_rfl) (fun c a2 w2=>hp.out c a2 _ _ w2) (by assumption) ?_;simp only[wh,wo,wq,ws]
 refine rE ?_;refine rS [(36,some 53),(37,some 54)] ?_
 iterate 2
  refine aH (v:=?_) (by kernel_rfl) (by kernel_rfl) (fun c a2 w2=>hp.out c a2 _ _ w2) (by assumption) (fun o ho w' xr=>?_) ?_;rotate_left
  ·have xo:=wt (show some _=some o from ho);subst xo;(try dsimp only at xr);go_simp;try with_reducible rfl
  simp only[wh,wo,wq,ws]
 refine rE ?_;refine rS [(38,some 55),(39,some 56),(40,some 57),(41,some 58),(42,some 59),(43,some 60),(44,some 61),(45,some 62),(46,some 63),(47,some 64),(48,some 65)] ?_
 iterate 11
  refine aT (by kernel_rfl) (by kernel_rfl) (fun c a2 w2=>hp.out c a2 _ _ w2) (by assumption) ?_;simp only[wh,wo,wq,ws]
 refine rE ?_;refine rS [(49,some 66),(50,some 67)] ?_
 iterate 2
  refine aH (v:=?_) (by kernel_rfl) (by kernel_rfl) (fun c a2 w2=>hp.out c a2 _ _ w2) (by assumption) (fun o ho w' xr=>?_) ?_;rotate_left
  ·have xo:=wt (show some _=some o from ho);subst xo;(try dsimp only at xr);go_simp;try with_reducible rfl
  simp only[wh,wo,wq,ws]
 refine rE ?_;refine rS [(51,some 68),(52,some 69),(53,some 70),(54,some 71),(55,some 72),(56,some 73),(57,some 74),(58,some 75),(59,some 76),(60,some 77),(61,some 78)] ?_
 iterate 11
  refine aT (by kernel_rfl) (by kernel_rfl) (fun c a2 w2=>hp.out c a2 _ _ w2) (by assumption) ?_;simp only[wh,wo,wq,ws]
 refine rE ?_;refine rS [(62,some 79),(63,some 80)] ?_
 iterate 2
  refine aH (v:=?_) (by kernel_rfl) (by kernel_rfl) (fun c a2 w2=>hp.out c a2 _ _ w2) (by assumption) (fun o ho w' xr=>?_) ?_;rotate_left
  ·have xo:=wt (show some _=some o from ho);subst xo;(try dsimp only at xr);go_simp;try with_reducible rfl
  simp only[wh,wo,wq,ws]
 refine rE ?_;refine rS [(64,some 81),(65,some 82),(66,some 83),(67,some 84),(68,some 85),(69,some 86),(70,some 87),(71,some 88),(72,some 89),(73,some 90),(74,some 91),(75,some 92)] ?_
 iterate 12
  refine aT (by kernel_rfl) (by kernel_rfl) (fun c a2 w2=>hp.out c a2 _ _ w2) (by assumption) ?_;simp only[wh,wo,wq,ws]
 refine rE ?_;refine kt (i:=76) (some 93) (v:=?_) (by kernel_rfl) (by kernel_rfl) (by kernel_rfl) (by kernel_rfl) (fun c a2 w2=>hp.out c a2 _ _ w2) (by assumption) (fun o ho w' xr=>?_) ?_;rotate_left
 ·(have xo:=wt (show some _=some o from ho);subst xo;(try dsimp only at xr);go_simp;try with_reducible rfl)
 simp only[wh,wo,wq,ws];refine aD ?_;clear hH;exact h.out _ _ _ _ _ _ _ _ _ _ _ _ _ _ _ _ _ _ _ _ _ _ _ _ _ _ _ _ _ _ _ _ _ _ _ _ _ _ _ _ _ _ _ _ _ _ _ _ _ _ _ _ _ _ _ _ _ _ _ _ _ _ _ _ _ _ _ _ _ _ _ _ _ _ _ _ _ bs
theorem qG {Kc:Exit→Act→World→Prop} {x2 x3 x4 x6 x7 x8 x9 x10 x11 x12 x13 x14 x15 x16 x17 x18 x19 x20 x21 x22 x23 x24 x25 x26 x27 x28 x29 x30 x31 x32 x33 x34 x35 x36 x37 x38 x39 x40 x41 x42 x43 x44 x45 x46 x47 x48 x49 x50 x51 x52 x53 x54 x55 x56 x57 x58 x59 x60 x61 x62 x63 x64 x65 x66 x67 x68 x69 x70 x71 x72 x73 x74 x75 x76 x77 x78 xV xW xX xY xZ yd ye yf yg yh yi yj yk yl yn:Value} {w wr:World} {B off L ca B' xn cb k XL xc YL yc:Nat} {xa ya:Option Addr} {a1 n1 a2 n2:Int} {s1 s2 s3 s4 s5 s6:ByteArray}
  (xp:Hid (∀w',Bl w w'→w'.cell? ⟨B,off+k*6,none⟩=some (.int .u8 a1)∧w'.cell? ⟨B,off+k*6+1,none⟩=some (.string s1)∧w'.cell? ⟨B,off+k*6+2,none⟩=some (.string s3)∧w'.cell? ⟨B,off+k*6+3,none⟩=some (.slice xa XL xc)∧w'.cell? ⟨B,off+k*6+4,none⟩=some (.string s5)∧w'.cell? ⟨B,off+k*6+5,none⟩=some (.int .i64 n1))) (xq:Hid (∀w',Bl w w'→w'.cell? ⟨B',xn+k*6,none⟩=some (.int .u8 a2)∧w'.cell? ⟨B',xn+k*6+1,none⟩=some (.string s2)∧w'.cell? ⟨B',xn+k*6+2,none⟩=some (.string s4)∧w'.cell? ⟨B',xn+k*6+3,none⟩=some (.slice ya YL yc)∧w'.cell? ⟨B',xn+k*6+4,none⟩=some (.string s6)∧w'.cell? ⟨B',xn+k*6+5,none⟩=some (.int .i64 n2))) (bs:Sx w [] wr) (wl:(k:Int)<(L:Int)) (e1:(a1==a2)=true) (e2:(s1.toList==s2.toList)=true) (e3:(s3.toList==s4.toList)=false)
  (hp:∀c (a:Act) t v w',Kc (.panic c) (a.put (some t) v) w'→Kc (.panic c) a w') (h:∀y17 y18 y19 y20 y21 y22 y23 y24 y25 y26 y27 y28 y29 y30 y31 y32 y33 y34 y35 y36 y37 y38 y39 y40 y41 y42 y43 y44 y45 y46 y47 y48 y49 y50 y51 y52 y53 y54 y55 y56 y57 y58 y59 y60 y61 y62 y63 y64 y65 y66 y67 y68 y69 y70 y71 y72 y73 y74 y75 y76 y77 y78 y79 y80 y81 y82 y83 y84 y85 y86 y87 y88 y89 y90 y91 y92 w',Sx w [] w'→Kc .normal {tmps:=#[.slice (some ⟨B,off,none⟩) L ca,.slice (some ⟨B',xn,none⟩) L cb,x2,x3,x4,.int .i64 k,x6,x7,x8,x9,x10,x11,x12,x13,x14,x15,x16,y17,y18,y19,y20,y21,y22,y23,y24,y25,y26,y27,y28,y29,y30,y31,y32,y33,y34,y35,y36,y37,y38,y39,y40,y41,y42,y43,y44,y45,y46,y47,y48,y49,y50,y51,y52,y53,y54,y55,y56,y57,y58,y59,y60,y61,y62,y63,y64,y65,y66,y67,y68,y69,y70,y71,y72,y73,y74,y75,y76,y77,y78,y79,y80,y81,y82,y83,y84,y85,y86,y87,y88,y89,y90,y91,y92,.bool true],defers:=[]} w'):Code.wp prog (Code.region 6 opsS true) Kc {tmps:=#[.slice (some ⟨B,off,none⟩) L ca,.slice (some ⟨B',xn,none⟩) L cb,x2,x3,x4,.int .i64 k,x6,x7,x8,x9,x10,x11,x12,x13,x14,x15,x16,x17,x18,x19,x20,x21,x22,x23,x24,x25,x26,x27,x28,x29,x30,x31,x32,x33,x34,x35,x36,x37,x38,x39,x40,x41,x42,x43,x44,x45,x46,x47,x48,x49,x50,x51,x52,x53,x54,x55,x56,x57,x58,x59,x60,x61,x62,x63,x64,x65,x66,x67,x68,x69,x70,x71,x72,x73,x74,x75,x76,x77,x78,xV,xW,xX,xY,xZ,yd,ye,yf,yg,yh,yi,yj,yk,yl,yn],defers:=[]} wr:=by
 have q:=bs.q;have h:=h_ h;have hp:=h_ hp;unfold opsS;simp only[Tryz.f125,wC,eG,Nat.reduceBEq,wD,if_false,if_true]
 have f1:(a1 != a2)=false:=by rw[bne,e1];rfl
 have f2:(s1.toList != s2.toList)=false:=by rw[bne,e2];rfl
 have f3:(s3.toList != s4.toList)=true:=by rw[bne,e3];rfl
 replace bs:=bs.ret (ww (bQ _));replace q:=bs.q
 have xE:wr.drew.heap.size=wr.heap.size:=rfl
 refine wp_region_held_drew (S:=fun w'=>w'.cell? ⟨B,off+k*6,none⟩=some (.int .u8 a1)∧w'.cell? ⟨B,off+k*6+1,none⟩=some (.string s1)∧w'.cell? ⟨B,off+k*6+2,none⟩=some (.string s3)∧w'.cell? ⟨B,off+k*6+3,none⟩=some (.slice xa XL xc)∧w'.cell? ⟨B,off+k*6+4,none⟩=some (.string s5)∧w'.cell? ⟨B,off+k*6+5,none⟩=some (.int .i64 n1)∧w'.cell? ⟨B',xn+k*6,none⟩=some (.int .u8 a2)∧w'.cell? ⟨B',xn+k*6+1,none⟩=some (.string s2)∧w'.cell? ⟨B',xn+k*6+2,none⟩=some (.string s4)∧w'.cell? ⟨B',xn+k*6+3,none⟩=some (.slice ya YL yc)∧w'.cell? ⟨B',xn+k*6+4,none⟩=some (.string s6)∧w'.cell? ⟨B',xn+k*6+5,none⟩=some (.int .i64 n2)) (by kernel_rfl) ⟨(xp.out _ q).1,(xp.out _ q).2.1,(xp.out _ q).2.2.1,(xp.out _ q).2.2.2.1,(xp.out _ q).2.2.2.2.1,(xp.out _ q).2.2.2.2.2,(xq.out _ q).1,(xq.out _ q).2.1,(xq.out _ q).2.2.1,(xq.out _ q).2.2.2.1,(xq.out _ q).2.2.2.2.1,(xq.out _ q).2.2.2.2.2⟩ (fun hH=>?_);generalize wr.drew=w11 at bs q xE hH ⊢;refine rS [(0,some 17),(1,some 18),(2,some 19),(3,some 20),(4,some 21),(5,some 22),(6,some 23),(7,some 24),(8,some 25),(9,some 26),(10,some 27),(11,some 28),(12,some 29),(13,some 30),(14,some 31),(15,some 32),(16,some 33),(17,some 34),(18,some 35),(19,some 36),(20,some 37),(21,some 38),(22,some 39),(23,some 40),(24,some 41),(25,some 42),(26,some 43),(27,some 44),(28,some 45),(29,some 46),(30,some 47),(31,some 48),(32,some 49),(33,some 50),(34,some 51),(35,some 52),(36,some 53),(37,some 54)] ?_
 iterate 38
  refine aH (v:=?_) (by kernel_rfl) (by kernel_rfl) (fun c a2 w2=>hp.out c a2 _ _ w2) (by assumption) (fun o ho w' xr=>?_) ?_;rotate_left
  ·have xo:=wt (show some _=some o from ho);subst xo;(try dsimp only at xr);go_simp;try with_reducible rfl
  simp only[wh,wo,wq,ws]
 refine rE ?_;refine rS [(38,some 55),(39,some 56),(40,some 57),(41,some 58),(42,some 59),(43,some 60),(44,some 61),(45,some 62),(46,some 63),(47,some 64),(48,some 65)] ?_
 iterate 11
  refine aT (by kernel_rfl) (by kernel_rfl) (fun c a2 w2=>hp.out c a2 _ _ w2) (by assumption) ?_;simp only[wh,wo,wq,ws]
 refine rE ?_;refine rS [(49,some 66),(50,some 67)] ?_
 iterate 2
  refine aH (v:=?_) (by kernel_rfl) (by kernel_rfl) (fun c a2 w2=>hp.out c a2 _ _ w2) (by assumption) (fun o ho w' xr=>?_) ?_;rotate_left
  ·have xo:=wt (show some _=some o from ho);subst xo;(try dsimp only at xr);go_simp;try with_reducible rfl
  simp only[wh,wo,wq,ws]
 refine rE ?_;refine rS [(51,some 68),(52,some 69),(53,some 70),(54,some 71),(55,some 72),(56,some 73),(57,some 74),(58,some 75),(59,some 76),(60,some 77),(61,some 78)] ?_
 iterate 11
  refine aT (by kernel_rfl) (by kernel_rfl) (fun c a2 w2=>hp.out c a2 _ _ w2) (by assumption) ?_;simp only[wh,wo,wq,ws]
 refine rE ?_;refine rS [(62,some 79),(63,some 80)] ?_
 iterate 2
  refine aH (v:=?_) (by kernel_rfl) (by kernel_rfl) (fun c a2 w2=>hp.out c a2 _ _ w2) (by assumption) (fun o ho w' xr=>?_) ?_;rotate_left
  ·have xo:=wt (show some _=some o from ho);subst xo;(try dsimp only at xr);go_simp;try with_reducible rfl
  simp only[wh,wo,wq,ws]
 refine rE ?_;refine rS [(64,some 81),(65,some 82),(66,some 83),(67,some 84),(68,some 85),(69,some 86),(70,some 87),(71,some 88),(72,some 89),(73,some 90),(74,some 91),(75,some 92)] ?_
 iterate 12
  refine aT (by kernel_rfl) (by kernel_rfl) (fun c a2 w2=>hp.out c a2 _ _ w2) (by assumption) ?_;simp only[wh,wo,wq,ws]
 refine rE ?_;refine kt (i:=76) (some 93) (v:=?_) (by kernel_rfl) (by kernel_rfl) (by kernel_rfl) (by kernel_rfl) (fun c a2 w2=>hp.out c a2 _ _ w2) (by assumption) (fun o ho w' xr=>?_) ?_;rotate_left
 ·(have xo:=wt (show some _=some o from ho);subst xo;(try dsimp only at xr);go_simp;try with_reducible rfl)
 simp only[wh,wo,wq,ws];refine aD ?_;clear hH;exact h.out _ _ _ _ _ _ _ _ _ _ _ _ _ _ _ _ _ _ _ _ _ _ _ _ _ _ _ _ _ _ _ _ _ _ _ _ _ _ _ _ _ _ _ _ _ _ _ _ _ _ _ _ _ _ _ _ _ _ _ _ _ _ _ _ _ _ _ _ _ _ _ _ _ _ _ _ _ bs
theorem rg {Kc:Exit→Act→World→Prop} {x2 x3 x4 x6 x7 x8 x9 x10 x11 x12 x13 x14 x15 x16 x17 x18 x19 x20 x21 x22 x23 x24 x25 x26 x27 x28 x29 x30 x31 x32 x33 x34 x35 x36 x37 x38 x39 x40 x41 x42 x43 x44 x45 x46 x47 x48 x49 x50 x51 x52 x53 x54 x55 x56 x57 x58 x59 x60 x61 x62 x63 x64 x65 x66 x67 x68 x69 x70 x71 x72 x73 x74 x75 x76 x77 x78 xV xW xX xY xZ yd ye yf yg yh yi yj yk yl yn:Value} {w wr:World} {B off L ca B' xn cb k XL xc YL yc:Nat} {xa ya:Option Addr} {a1 n1 a2 n2:Int} {s1 s2 s3 s4 s5 s6:ByteArray}
  (xp:Hid (∀w',Bl w w'→w'.cell? ⟨B,off+k*6,none⟩=some (.int .u8 a1)∧w'.cell? ⟨B,off+k*6+1,none⟩=some (.string s1)∧w'.cell? ⟨B,off+k*6+2,none⟩=some (.string s3)∧w'.cell? ⟨B,off+k*6+3,none⟩=some (.slice xa XL xc)∧w'.cell? ⟨B,off+k*6+4,none⟩=some (.string s5)∧w'.cell? ⟨B,off+k*6+5,none⟩=some (.int .i64 n1))) (xq:Hid (∀w',Bl w w'→w'.cell? ⟨B',xn+k*6,none⟩=some (.int .u8 a2)∧w'.cell? ⟨B',xn+k*6+1,none⟩=some (.string s2)∧w'.cell? ⟨B',xn+k*6+2,none⟩=some (.string s4)∧w'.cell? ⟨B',xn+k*6+3,none⟩=some (.slice ya YL yc)∧w'.cell? ⟨B',xn+k*6+4,none⟩=some (.string s6)∧w'.cell? ⟨B',xn+k*6+5,none⟩=some (.int .i64 n2))) (bs:Sx w [] wr) (wl:(k:Int)<(L:Int)) (e1:(a1==a2)=true) (e2:(s1.toList==s2.toList)=true) (e3:(s3.toList==s4.toList)=true) (e4:(s5.toList==s6.toList)=false)
  (hp:∀c (a:Act) t v w',Kc (.panic c) (a.put (some t) v) w'→Kc (.panic c) a w') (h:∀y17 y18 y19 y20 y21 y22 y23 y24 y25 y26 y27 y28 y29 y30 y31 y32 y33 y34 y35 y36 y37 y38 y39 y40 y41 y42 y43 y44 y45 y46 y47 y48 y49 y50 y51 y52 y53 y54 y55 y56 y57 y58 y59 y60 y61 y62 y63 y64 y65 y66 y67 y68 y69 y70 y71 y72 y73 y74 y75 y76 y77 y78 y79 y80 y81 y82 y83 y84 y85 y86 y87 y88 y89 y90 y91 y92 w',Sx w [] w'→Kc .normal {tmps:=#[.slice (some ⟨B,off,none⟩) L ca,.slice (some ⟨B',xn,none⟩) L cb,x2,x3,x4,.int .i64 k,x6,x7,x8,x9,x10,x11,x12,x13,x14,x15,x16,y17,y18,y19,y20,y21,y22,y23,y24,y25,y26,y27,y28,y29,y30,y31,y32,y33,y34,y35,y36,y37,y38,y39,y40,y41,y42,y43,y44,y45,y46,y47,y48,y49,y50,y51,y52,y53,y54,y55,y56,y57,y58,y59,y60,y61,y62,y63,y64,y65,y66,y67,y68,y69,y70,y71,y72,y73,y74,y75,y76,y77,y78,y79,y80,y81,y82,y83,y84,y85,y86,y87,y88,y89,y90,y91,y92,.bool true],defers:=[]} w'):Code.wp prog (Code.region 6 opsS true) Kc {tmps:=#[.slice (some ⟨B,off,none⟩) L ca,.slice (some ⟨B',xn,none⟩) L cb,x2,x3,x4,.int .i64 k,x6,x7,x8,x9,x10,x11,x12,x13,x14,x15,x16,x17,x18,x19,x20,x21,x22,x23,x24,x25,x26,x27,x28,x29,x30,x31,x32,x33,x34,x35,x36,x37,x38,x39,x40,x41,x42,x43,x44,x45,x46,x47,x48,x49,x50,x51,x52,x53,x54,x55,x56,x57,x58,x59,x60,x61,x62,x63,x64,x65,x66,x67,x68,x69,x70,x71,x72,x73,x74,x75,x76,x77,x78,xV,xW,xX,xY,xZ,yd,ye,yf,yg,yh,yi,yj,yk,yl,yn],defers:=[]} wr:=by
 have q:=bs.q;have h:=h_ h;have hp:=h_ hp;unfold opsS;simp only[Tryz.f125,wC,eG,Nat.reduceBEq,wD,if_false,if_true]
 have f1:(a1 != a2)=false:=by rw[bne,e1];rfl
 have f2:(s1.toList != s2.toList)=false:=by rw[bne,e2];rfl
 have f3:(s3.toList != s4.toList)=false:=by rw[bne,e3];rfl
 have f4:(s5.toList != s6.toList)=true:=by rw[bne,e4];rfl
 replace bs:=bs.ret (ww (bQ _));replace q:=bs.q
 have xE:wr.drew.heap.size=wr.heap.size:=rfl
 refine wp_region_held_drew (S:=fun w'=>w'.cell? ⟨B,off+k*6,none⟩=some (.int .u8 a1)∧w'.cell? ⟨B,off+k*6+1,none⟩=some (.string s1)∧w'.cell? ⟨B,off+k*6+2,none⟩=some (.string s3)∧w'.cell? ⟨B,off+k*6+3,none⟩=some (.slice xa XL xc)∧w'.cell? ⟨B,off+k*6+4,none⟩=some (.string s5)∧w'.cell? ⟨B,off+k*6+5,none⟩=some (.int .i64 n1)∧w'.cell? ⟨B',xn+k*6,none⟩=some (.int .u8 a2)∧w'.cell? ⟨B',xn+k*6+1,none⟩=some (.string s2)∧w'.cell? ⟨B',xn+k*6+2,none⟩=some (.string s4)∧w'.cell? ⟨B',xn+k*6+3,none⟩=some (.slice ya YL yc)∧w'.cell? ⟨B',xn+k*6+4,none⟩=some (.string s6)∧w'.cell? ⟨B',xn+k*6+5,none⟩=some (.int .i64 n2)) (by kernel_rfl) ⟨(xp.out _ q).1,(xp.out _ q).2.1,(xp.out _ q).2.2.1,(xp.out _ q).2.2.2.1,(xp.out _ q).2.2.2.2.1,(xp.out _ q).2.2.2.2.2,(xq.out _ q).1,(xq.out _ q).2.1,(xq.out _ q).2.2.1,(xq.out _ q).2.2.2.1,(xq.out _ q).2.2.2.2.1,(xq.out _ q).2.2.2.2.2⟩ (fun hH=>?_);generalize wr.drew=w11 at bs q xE hH ⊢;refine rS [(0,some 17),(1,some 18),(2,some 19),(3,some 20),(4,some 21),(5,some 22),(6,some 23),(7,some 24),(8,some 25),(9,some 26),(10,some 27),(11,some 28),(12,some 29),(13,some 30),(14,some 31),(15,some 32),(16,some 33),(17,some 34),(18,some 35),(19,some 36),(20,some 37),(21,some 38),(22,some 39),(23,some 40),(24,some 41),(25,some 42),(26,some 43),(27,some 44),(28,some 45),(29,some 46),(30,some 47),(31,some 48),(32,some 49),(33,some 50),(34,some 51),(35,some 52),(36,some 53),(37,some 54),(38,some 55),(39,some 56)] ?_
 iterate 40
  refine aH (v:=?_) (by kernel_rfl) (by kernel_rfl) (fun c a2 w2=>hp.out c a2 _ _ w2) (by assumption) (fun o ho w' xr=>?_) ?_;rotate_left
  ·have xo:=wt (show some _=some o from ho);subst xo;(try dsimp only at xr);go_simp;try with_reducible rfl
  simp only[wh,wo,wq,ws]
 refine rE ?_;refine rS [(40,some 57),(41,some 58),(42,some 59),(43,some 60),(44,some 61),(45,some 62),(46,some 63),(47,some 64),(48,some 65),(49,some 66),(50,some 67)] ?_
 iterate 11
  refine aH (v:=?_) (by kernel_rfl) (by kernel_rfl) (fun c a2 w2=>hp.out c a2 _ _ w2) (by assumption) (fun o ho w' xr=>?_) ?_;rotate_left
  ·have xo:=wt (show some _=some o from ho);subst xo;(try dsimp only at xr);go_simp;try with_reducible rfl
  simp only[wh,wo,wq,ws]
 refine rE ?_;refine rS [(51,some 68),(52,some 69),(53,some 70),(54,some 71),(55,some 72),(56,some 73),(57,some 74),(58,some 75),(59,some 76),(60,some 77),(61,some 78)] ?_
 iterate 11
  refine aT (by kernel_rfl) (by kernel_rfl) (fun c a2 w2=>hp.out c a2 _ _ w2) (by assumption) ?_;simp only[wh,wo,wq,ws]
 refine rE ?_;refine rS [(62,some 79),(63,some 80)] ?_
 iterate 2
  refine aH (v:=?_) (by kernel_rfl) (by kernel_rfl) (fun c a2 w2=>hp.out c a2 _ _ w2) (by assumption) (fun o ho w' xr=>?_) ?_;rotate_left
  ·have xo:=wt (show some _=some o from ho);subst xo;(try dsimp only at xr);go_simp;try with_reducible rfl
  simp only[wh,wo,wq,ws]
 refine rE ?_;refine rS [(64,some 81),(65,some 82),(66,some 83),(67,some 84),(68,some 85),(69,some 86),(70,some 87),(71,some 88),(72,some 89),(73,some 90),(74,some 91),(75,some 92)] ?_
 iterate 12
  refine aT (by kernel_rfl) (by kernel_rfl) (fun c a2 w2=>hp.out c a2 _ _ w2) (by assumption) ?_;simp only[wh,wo,wq,ws]
 refine rE ?_;refine kt (i:=76) (some 93) (v:=?_) (by kernel_rfl) (by kernel_rfl) (by kernel_rfl) (by kernel_rfl) (fun c a2 w2=>hp.out c a2 _ _ w2) (by assumption) (fun o ho w' xr=>?_) ?_;rotate_left
 ·(have xo:=wt (show some _=some o from ho);subst xo;(try dsimp only at xr);go_simp;try with_reducible rfl)
 simp only[wh,wo,wq,ws];refine aD ?_;clear hH;exact h.out _ _ _ _ _ _ _ _ _ _ _ _ _ _ _ _ _ _ _ _ _ _ _ _ _ _ _ _ _ _ _ _ _ _ _ _ _ _ _ _ _ _ _ _ _ _ _ _ _ _ _ _ _ _ _ _ _ _ _ _ _ _ _ _ _ _ _ _ _ _ _ _ _ _ _ _ _ bs
theorem p9 {Kc:Exit→Act→World→Prop} {x2 x3 x4 x6 x7 x8 x9 x10 x11 x12 x13 x14 x15 x16 x17 x18 x19 x20 x21 x22 x23 x24 x25 x26 x27 x28 x29 x30 x31 x32 x33 x34 x35 x36 x37 x38 x39 x40 x41 x42 x43 x44 x45 x46 x47 x48 x49 x50 x51 x52 x53 x54 x55 x56 x57 x58 x59 x60 x61 x62 x63 x64 x65 x66 x67 x68 x69 x70 x71 x72 x73 x74 x75 x76 x77 x78 xV xW xX xY xZ yd ye yf yg yh yi yj yk yl yn:Value} {w wr:World} {B off L ca B' xn cb k XL xc YL yc:Nat} {xa ya:Option Addr} {a1 n1 a2 n2:Int} {s1 s2 s3 s4 s5 s6:ByteArray}
  (xp:Hid (∀w',Bl w w'→w'.cell? ⟨B,off+k*6,none⟩=some (.int .u8 a1)∧w'.cell? ⟨B,off+k*6+1,none⟩=some (.string s1)∧w'.cell? ⟨B,off+k*6+2,none⟩=some (.string s3)∧w'.cell? ⟨B,off+k*6+3,none⟩=some (.slice xa XL xc)∧w'.cell? ⟨B,off+k*6+4,none⟩=some (.string s5)∧w'.cell? ⟨B,off+k*6+5,none⟩=some (.int .i64 n1))) (xq:Hid (∀w',Bl w w'→w'.cell? ⟨B',xn+k*6,none⟩=some (.int .u8 a2)∧w'.cell? ⟨B',xn+k*6+1,none⟩=some (.string s2)∧w'.cell? ⟨B',xn+k*6+2,none⟩=some (.string s4)∧w'.cell? ⟨B',xn+k*6+3,none⟩=some (.slice ya YL yc)∧w'.cell? ⟨B',xn+k*6+4,none⟩=some (.string s6)∧w'.cell? ⟨B',xn+k*6+5,none⟩=some (.int .i64 n2))) (bs:Sx w [] wr) (wl:(k:Int)<(L:Int)) (e1:(a1==a2)=true) (e2:(s1.toList==s2.toList)=true) (e3:(s3.toList==s4.toList)=true) (e4:(s5.toList==s6.toList)=true) (e5:(n1==n2)=false)
  (hp:∀c (a:Act) t v w',Kc (.panic c) (a.put (some t) v) w'→Kc (.panic c) a w') (h:∀y17 y18 y19 y20 y21 y22 y23 y24 y25 y26 y27 y28 y29 y30 y31 y32 y33 y34 y35 y36 y37 y38 y39 y40 y41 y42 y43 y44 y45 y46 y47 y48 y49 y50 y51 y52 y53 y54 y55 y56 y57 y58 y59 y60 y61 y62 y63 y64 y65 y66 y67 y68 y69 y70 y71 y72 y73 y74 y75 y76 y77 y78 y79 y80 y81 y82 y83 y84 y85 y86 y87 y88 y89 y90 y91 y92 w',Sx w [] w'→Kc .normal {tmps:=#[.slice (some ⟨B,off,none⟩) L ca,.slice (some ⟨B',xn,none⟩) L cb,x2,x3,x4,.int .i64 k,x6,x7,x8,x9,x10,x11,x12,x13,x14,x15,x16,y17,y18,y19,y20,y21,y22,y23,y24,y25,y26,y27,y28,y29,y30,y31,y32,y33,y34,y35,y36,y37,y38,y39,y40,y41,y42,y43,y44,y45,y46,y47,y48,y49,y50,y51,y52,y53,y54,y55,y56,y57,y58,y59,y60,y61,y62,y63,y64,y65,y66,y67,y68,y69,y70,y71,y72,y73,y74,y75,y76,y77,y78,y79,y80,y81,y82,y83,y84,y85,y86,y87,y88,y89,y90,y91,y92,.bool true],defers:=[]} w'):Code.wp prog (Code.region 6 opsS true) Kc {tmps:=#[.slice (some ⟨B,off,none⟩) L ca,.slice (some ⟨B',xn,none⟩) L cb,x2,x3,x4,.int .i64 k,x6,x7,x8,x9,x10,x11,x12,x13,x14,x15,x16,x17,x18,x19,x20,x21,x22,x23,x24,x25,x26,x27,x28,x29,x30,x31,x32,x33,x34,x35,x36,x37,x38,x39,x40,x41,x42,x43,x44,x45,x46,x47,x48,x49,x50,x51,x52,x53,x54,x55,x56,x57,x58,x59,x60,x61,x62,x63,x64,x65,x66,x67,x68,x69,x70,x71,x72,x73,x74,x75,x76,x77,x78,xV,xW,xX,xY,xZ,yd,ye,yf,yg,yh,yi,yj,yk,yl,yn],defers:=[]} wr:=by
 have q:=bs.q;have h:=h_ h;have hp:=h_ hp;unfold opsS;simp only[Tryz.f125,wC,eG,Nat.reduceBEq,wD,if_false,if_true]
 have f1:(a1 != a2)=false:=by rw[bne,e1];rfl
 have f2:(s1.toList != s2.toList)=false:=by rw[bne,e2];rfl
 have f3:(s3.toList != s4.toList)=false:=by rw[bne,e3];rfl
 have f4:(s5.toList != s6.toList)=false:=by rw[bne,e4];rfl
 have f5:(n1 != n2)=true:=by rw[bne,e5];rfl
 replace bs:=bs.ret (ww (bQ _));replace q:=bs.q
 have xE:wr.drew.heap.size=wr.heap.size:=rfl
 refine wp_region_held_drew (S:=fun w'=>w'.cell? ⟨B,off+k*6,none⟩=some (.int .u8 a1)∧w'.cell? ⟨B,off+k*6+1,none⟩=some (.string s1)∧w'.cell? ⟨B,off+k*6+2,none⟩=some (.string s3)∧w'.cell? ⟨B,off+k*6+3,none⟩=some (.slice xa XL xc)∧w'.cell? ⟨B,off+k*6+4,none⟩=some (.string s5)∧w'.cell? ⟨B,off+k*6+5,none⟩=some (.int .i64 n1)∧w'.cell? ⟨B',xn+k*6,none⟩=some (.int .u8 a2)∧w'.cell? ⟨B',xn+k*6+1,none⟩=some (.string s2)∧w'.cell? ⟨B',xn+k*6+2,none⟩=some (.string s4)∧w'.cell? ⟨B',xn+k*6+3,none⟩=some (.slice ya YL yc)∧w'.cell? ⟨B',xn+k*6+4,none⟩=some (.string s6)∧w'.cell? ⟨B',xn+k*6+5,none⟩=some (.int .i64 n2)) (by kernel_rfl) ⟨(xp.out _ q).1,(xp.out _ q).2.1,(xp.out _ q).2.2.1,(xp.out _ q).2.2.2.1,(xp.out _ q).2.2.2.2.1,(xp.out _ q).2.2.2.2.2,(xq.out _ q).1,(xq.out _ q).2.1,(xq.out _ q).2.2.1,(xq.out _ q).2.2.2.1,(xq.out _ q).2.2.2.2.1,(xq.out _ q).2.2.2.2.2⟩ (fun hH=>?_);generalize wr.drew=w11 at bs q xE hH ⊢;refine rS [(0,some 17),(1,some 18),(2,some 19),(3,some 20),(4,some 21),(5,some 22),(6,some 23),(7,some 24),(8,some 25),(9,some 26),(10,some 27),(11,some 28),(12,some 29),(13,some 30),(14,some 31),(15,some 32),(16,some 33),(17,some 34),(18,some 35),(19,some 36),(20,some 37),(21,some 38),(22,some 39),(23,some 40),(24,some 41),(25,some 42),(26,some 43),(27,some 44),(28,some 45),(29,some 46),(30,some 47),(31,some 48),(32,some 49),(33,some 50),(34,some 51),(35,some 52),(36,some 53),(37,some 54),(38,some 55),(39,some 56)] ?_
 iterate 40
  refine aH (v:=?_) (by kernel_rfl) (by kernel_rfl) (fun c a2 w2=>hp.out c a2 _ _ w2) (by assumption) (fun o ho w' xr=>?_) ?_;rotate_left
  ·have xo:=wt (show some _=some o from ho);subst xo;(try dsimp only at xr);go_simp;try with_reducible rfl
  simp only[wh,wo,wq,ws]
 refine rE ?_;refine rS [(40,some 57),(41,some 58),(42,some 59),(43,some 60),(44,some 61),(45,some 62),(46,some 63),(47,some 64),(48,some 65),(49,some 66),(50,some 67),(51,some 68),(52,some 69),(53,some 70),(54,some 71),(55,some 72),(56,some 73),(57,some 74),(58,some 75),(59,some 76),(60,some 77),(61,some 78),(62,some 79),(63,some 80)] ?_
 iterate 24
  refine aH (v:=?_) (by kernel_rfl) (by kernel_rfl) (fun c a2 w2=>hp.out c a2 _ _ w2) (by assumption) (fun o ho w' xr=>?_) ?_;rotate_left
  ·have xo:=wt (show some _=some o from ho);subst xo;(try dsimp only at xr);go_simp;try with_reducible rfl
  simp only[wh,wo,wq,ws]
 refine rE ?_;refine rS [(64,some 81),(65,some 82),(66,some 83),(67,some 84),(68,some 85),(69,some 86),(70,some 87),(71,some 88),(72,some 89),(73,some 90),(74,some 91),(75,some 92)] ?_
 iterate 12
  refine aT (by kernel_rfl) (by kernel_rfl) (fun c a2 w2=>hp.out c a2 _ _ w2) (by assumption) ?_;simp only[wh,wo,wq,ws]
 refine rE ?_;refine kt (i:=76) (some 93) (v:=?_) (by kernel_rfl) (by kernel_rfl) (by kernel_rfl) (by kernel_rfl) (fun c a2 w2=>hp.out c a2 _ _ w2) (by assumption) (fun o ho w' xr=>?_) ?_;rotate_left
 ·(have xo:=wt (show some _=some o from ho);subst xo;(try dsimp only at xr);go_simp;try with_reducible rfl)
 simp only[wh,wo,wq,ws];refine aD ?_;clear hH;exact h.out _ _ _ _ _ _ _ _ _ _ _ _ _ _ _ _ _ _ _ _ _ _ _ _ _ _ _ _ _ _ _ _ _ _ _ _ _ _ _ _ _ _ _ _ _ _ _ _ _ _ _ _ _ _ _ _ _ _ _ _ _ _ _ _ _ _ _ _ _ _ _ _ _ _ _ _ _ bs
theorem p8 {Kc:Exit→Act→World→Prop} {x2 x3 x4 x6 x7 x8 x9 x10 x11 x12 x13 x14 x15 x16 x17 x18 x19 x20 x21 x22 x23 x24 x25 x26 x27 x28 x29 x30 x31 x32 x33 x34 x35 x36 x37 x38 x39 x40 x41 x42 x43 x44 x45 x46 x47 x48 x49 x50 x51 x52 x53 x54 x55 x56 x57 x58 x59 x60 x61 x62 x63 x64 x65 x66 x67 x68 x69 x70 x71 x72 x73 x74 x75 x76 x77 x78 xV xW xX xY xZ yd ye yf yg yh yi yj yk yl yn:Value} {w wr:World} {B off L ca B' xn cb k XL xc YL yc:Nat} {xa ya:Option Addr} {a1 n1 a2 n2:Int} {s1 s2 s3 s4 s5 s6:ByteArray} {E6:Bool}
  (xp:Hid (∀w',Bl w w'→w'.cell? ⟨B,off+k*6,none⟩=some (.int .u8 a1)∧w'.cell? ⟨B,off+k*6+1,none⟩=some (.string s1)∧w'.cell? ⟨B,off+k*6+2,none⟩=some (.string s3)∧w'.cell? ⟨B,off+k*6+3,none⟩=some (.slice xa XL xc)∧w'.cell? ⟨B,off+k*6+4,none⟩=some (.string s5)∧w'.cell? ⟨B,off+k*6+5,none⟩=some (.int .i64 n1))) (xq:Hid (∀w',Bl w w'→w'.cell? ⟨B',xn+k*6,none⟩=some (.int .u8 a2)∧w'.cell? ⟨B',xn+k*6+1,none⟩=some (.string s2)∧w'.cell? ⟨B',xn+k*6+2,none⟩=some (.string s4)∧w'.cell? ⟨B',xn+k*6+3,none⟩=some (.slice ya YL yc)∧w'.cell? ⟨B',xn+k*6+4,none⟩=some (.string s6)∧w'.cell? ⟨B',xn+k*6+5,none⟩=some (.int .i64 n2))) (bs:Sx w [] wr) (wl:(k:Int)<(L:Int)) (e1:(a1==a2)=true) (e2:(s1.toList==s2.toList)=true) (e3:(s3.toList==s4.toList)=true) (e4:(s5.toList==s6.toList)=true) (e5:(n1==n2)=true) (CC:Hid (∀W,Bl w W→Calls prog 169 #[.slice xa XL xc,.slice ya YL yc] W (Ret W (.bool E6))))
  (hp:∀c (a:Act) t v w',Kc (.panic c) (a.put (some t) v) w'→Kc (.panic c) a w') (h:∀y17 y18 y19 y20 y21 y22 y23 y24 y25 y26 y27 y28 y29 y30 y31 y32 y33 y34 y35 y36 y37 y38 y39 y40 y41 y42 y43 y44 y45 y46 y47 y48 y49 y50 y51 y52 y53 y54 y55 y56 y57 y58 y59 y60 y61 y62 y63 y64 y65 y66 y67 y68 y69 y70 y71 y72 y73 y74 y75 y76 y77 y78 y79 y80 y81 y82 y83 y84 y85 y86 y87 y88 y89 y90 y91 y92 w',Sx w [] w'→Kc .normal {tmps:=#[.slice (some ⟨B,off,none⟩) L ca,.slice (some ⟨B',xn,none⟩) L cb,x2,x3,x4,.int .i64 k,x6,x7,x8,x9,x10,x11,x12,x13,x14,x15,x16,y17,y18,y19,y20,y21,y22,y23,y24,y25,y26,y27,y28,y29,y30,y31,y32,y33,y34,y35,y36,y37,y38,y39,y40,y41,y42,y43,y44,y45,y46,y47,y48,y49,y50,y51,y52,y53,y54,y55,y56,y57,y58,y59,y60,y61,y62,y63,y64,y65,y66,y67,y68,y69,y70,y71,y72,y73,y74,y75,y76,y77,y78,y79,y80,y81,y82,y83,y84,y85,y86,y87,y88,y89,y90,y91,y92,.bool (!E6)],defers:=[]} w'):Code.wp prog (Code.region 6 opsS true) Kc {tmps:=#[.slice (some ⟨B,off,none⟩) L ca,.slice (some ⟨B',xn,none⟩) L cb,x2,x3,x4,.int .i64 k,x6,x7,x8,x9,x10,x11,x12,x13,x14,x15,x16,x17,x18,x19,x20,x21,x22,x23,x24,x25,x26,x27,x28,x29,x30,x31,x32,x33,x34,x35,x36,x37,x38,x39,x40,x41,x42,x43,x44,x45,x46,x47,x48,x49,x50,x51,x52,x53,x54,x55,x56,x57,x58,x59,x60,x61,x62,x63,x64,x65,x66,x67,x68,x69,x70,x71,x72,x73,x74,x75,x76,x77,x78,xV,xW,xX,xY,xZ,yd,ye,yf,yg,yh,yi,yj,yk,yl,yn],defers:=[]} wr:=by
 have q:=bs.q;have h:=h_ h;have hp:=h_ hp;unfold opsS;simp only[Tryz.f125,wC,eG,Nat.reduceBEq,wD,if_false,if_true]
 have f1:(a1 != a2)=false:=by rw[bne,e1];rfl
 have f2:(s1.toList != s2.toList)=false:=by rw[bne,e2];rfl
 have f3:(s3.toList != s4.toList)=false:=by rw[bne,e3];rfl
 have f4:(s5.toList != s6.toList)=false:=by rw[bne,e4];rfl
 have f5:(n1 != n2)=false:=by rw[bne,e5];rfl
 replace bs:=bs.ret (ww (bQ _));replace q:=bs.q
 have xE:wr.drew.heap.size=wr.heap.size:=rfl
 refine wp_region_held_drew (S:=fun w'=>w'.cell? ⟨B,off+k*6,none⟩=some (.int .u8 a1)∧w'.cell? ⟨B,off+k*6+1,none⟩=some (.string s1)∧w'.cell? ⟨B,off+k*6+2,none⟩=some (.string s3)∧w'.cell? ⟨B,off+k*6+3,none⟩=some (.slice xa XL xc)∧w'.cell? ⟨B,off+k*6+4,none⟩=some (.string s5)∧w'.cell? ⟨B,off+k*6+5,none⟩=some (.int .i64 n1)∧w'.cell? ⟨B',xn+k*6,none⟩=some (.int .u8 a2)∧w'.cell? ⟨B',xn+k*6+1,none⟩=some (.string s2)∧w'.cell? ⟨B',xn+k*6+2,none⟩=some (.string s4)∧w'.cell? ⟨B',xn+k*6+3,none⟩=some (.slice ya YL yc)∧w'.cell? ⟨B',xn+k*6+4,none⟩=some (.string s6)∧w'.cell? ⟨B',xn+k*6+5,none⟩=some (.int .i64 n2)) (by kernel_rfl) ⟨(xp.out _ q).1,(xp.out _ q).2.1,(xp.out _ q).2.2.1,(xp.out _ q).2.2.2.1,(xp.out _ q).2.2.2.2.1,(xp.out _ q).2.2.2.2.2,(xq.out _ q).1,(xq.out _ q).2.1,(xq.out _ q).2.2.1,(xq.out _ q).2.2.2.1,(xq.out _ q).2.2.2.2.1,(xq.out _ q).2.2.2.2.2⟩ (fun hH=>?_);generalize wr.drew=w11 at bs q xE hH ⊢;refine rS [(0,some 17),(1,some 18),(2,some 19),(3,some 20),(4,some 21),(5,some 22),(6,some 23),(7,some 24),(8,some 25),(9,some 26),(10,some 27),(11,some 28),(12,some 29),(13,some 30),(14,some 31),(15,some 32),(16,some 33),(17,some 34),(18,some 35),(19,some 36),(20,some 37),(21,some 38),(22,some 39),(23,some 40),(24,some 41),(25,some 42),(26,some 43),(27,some 44),(28,some 45),(29,some 46),(30,some 47),(31,some 48),(32,some 49),(33,some 50),(34,some 51),(35,some 52),(36,some 53),(37,some 54),(38,some 55),(39,some 56)] ?_
 iterate 40
  refine aH (v:=?_) (by kernel_rfl) (by kernel_rfl) (fun c a2 w2=>hp.out c a2 _ _ w2) (by assumption) (fun o ho w' xr=>?_) ?_;rotate_left
  ·have xo:=wt (show some _=some o from ho);subst xo;(try dsimp only at xr);go_simp;try with_reducible rfl
  simp only[wh,wo,wq,ws]
 refine rE ?_;refine rS [(40,some 57),(41,some 58),(42,some 59),(43,some 60),(44,some 61),(45,some 62),(46,some 63),(47,some 64),(48,some 65),(49,some 66),(50,some 67),(51,some 68),(52,some 69),(53,some 70),(54,some 71),(55,some 72),(56,some 73),(57,some 74),(58,some 75),(59,some 76),(60,some 77),(61,some 78),(62,some 79),(63,some 80),(64,some 81),(65,some 82),(66,some 83),(67,some 84),(68,some 85),(69,some 86),(70,some 87),(71,some 88),(72,some 89),(73,some 90)] ?_
 iterate 34
  refine aH (v:=?_) (by kernel_rfl) (by kernel_rfl) (fun c a2 w2=>hp.out c a2 _ _ w2) (by assumption) (fun o ho w' xr=>?_) ?_;rotate_left
  ·have xo:=wt (show some _=some o from ho);subst xo;(try dsimp only at xr);go_simp;try with_reducible rfl
  simp only[wh,wo,wq,ws]
 refine rE ?_;refine iO (i:=74) (by kernel_rfl) (by kernel_rfl) (fun o ho K hK=>?_);have xo:=wt (show some _=some o from ho);subst xo;go_simp;refine(CC.out w11 q).mono ?_;rintro e Az ⟨rfl,hb⟩;replace bs:=bs.ret hb;replace q:=bs.q;clear hb;go_simp;clear hH;refine hK.out _ _ ⟨(xp.out _ q).1,(xp.out _ q).2.1,(xp.out _ q).2.2.1,(xp.out _ q).2.2.2.1,(xp.out _ q).2.2.2.2.1,(xp.out _ q).2.2.2.2.2,(xq.out _ q).1,(xq.out _ q).2.1,(xq.out _ q).2.2.1,(xq.out _ q).2.2.2.1,(xq.out _ q).2.2.2.2.1,(xq.out _ q).2.2.2.2.2⟩ (fun hH=>?_);clear hK K;refine rS [(75,some 92),(76,some 93)] ?_
 iterate 2
  refine aH (v:=?_) (by kernel_rfl) (by kernel_rfl) (fun c a2 w2=>hp.out c a2 _ _ w2) (by assumption) (fun o ho w' xr=>?_) ?_;rotate_left
  ·have xo:=wt (show some _=some o from ho);subst xo;(try dsimp only at xr);go_simp;try with_reducible rfl
  simp only[wh,wo,wq,ws]
 refine rE ?_;refine aD ?_;clear hH;exact h.out _ _ _ _ _ _ _ _ _ _ _ _ _ _ _ _ _ _ _ _ _ _ _ _ _ _ _ _ _ _ _ _ _ _ _ _ _ _ _ _ _ _ _ _ _ _ _ _ _ _ _ _ _ _ _ _ _ _ _ _ _ _ _ _ _ _ _ _ _ _ _ _ _ _ _ _ _ bs
theorem ou (v u:Value) (M K:List NdI) (w:World) (hv:IsL ndY v M w) (hu:IsL ndY u K w) (hM:M.length≤100000) (hK:K.length≤100000) (yW:∀x∈M,∀y∈K,∀W,Bl w W→Calls prog 169 #[ndV x,ndV y] W (Ret W (.bool (decide (x.1.2.2.2.1=y.1.2.2.2.1))))):
  Calls prog 125 #[v,u] w (Ret w (.bool (decide (M.map Prod.fst=K.map Prod.fst)))):=by
 obtain⟨a,ca,yE,-⟩:=hv.form;obtain⟨b,cb,yF,-⟩:=hu.form;obtain⟨O,hO⟩:=e_ (decide (M.map Prod.fst=K.map Prod.fst));obtain⟨L,hL⟩:=e_ M.length;obtain⟨L',xB⟩:=e_ K.length;rw[hL] at yE hM;rw[xB] at yF hK;rw[hO];subst yE yF
 by_cases hlen:L=L'
 ·subst hlen
  have HO:=h_ hO;have HL:=h_ hL;have xS:=h_ xB;have HV:=h_ hv;have HU:=h_ hu;have zV:=h_ yW;clear yW;clear hO hL xB hv hu;go_enter func125,ntmps125;go_wp2_with fail;go_loopw [5] (fun i wx=>∃k:Nat,k≤L∧i=.int .i64 k∧(M.map Prod.fst).take k=(K.map Prod.fst).take k∧Sx w [] wx) (fun i _=>L-(intOf i).toNat)
  case atStart=>exact⟨0,wE _,rfl,rfl,Sx.start w⟩
  case round=>
   obtain⟨k,hk,rfl,xC,bs⟩:=hrel;have q:=bs.q
   by_cases hlt:k<L
   ·have xF : k < M.length := by rw [HL.out]; exact hlt
    have xG:k<K.length:=(by rw[xS.out];exact hlt);obtain⟨x,hx⟩:=e_ (M[k]);obtain⟨y,hy⟩:=e_ (K[k]);obtain⟨B,off,cp,hf,-,hc⟩:=HV.out.cells (k:=k) (x:=x) (by rw[wy xF,hx]);rw[HL.out] at hf;simp only[wz,true_and] at hf;obtain⟨rfl,rfl⟩:=hf;obtain⟨B',xn,Ax,hf,-,he⟩:=HU.out.cells (k:=k) (x:=y) (by rw[wy xG,hy]);rw[xS.out] at hf;simp only[wz,true_and] at hf;obtain⟨rfl,rfl⟩:=hf;have yG:x∈M:=(by rw[←hx];exact wA xF);have yH:y∈K:=(by rw[←hy];exact wA xG);have xT:k<(M.map Prod.fst).length:=(by simpa using xF);have xU:k<(K.map Prod.fst).length:=(by simpa using xG)
    have hst:Prod.fst x=Prod.fst y→(M.map Prod.fst).take (k+1)=(K.map Prod.fst).take (k+1):=fun h=>jA xT xU xC (by rw[wv,wv,hx,hy];exact h)
    have yI:Prod.fst x≠Prod.fst y→O=false:=fun h=>by
     rw[←HO.out];exact decide_eq_false (nS xT xU (by rw[wv,wv,hx,hy];exact h))
    have HC:=h_ hc;have HE:=h_ he;have HS:=h_ hst;have HN:=h_ yI;have wl:(k:Int)<(L:Int):=(by omega);clear hc he hx hy xT xU xC xF xG hst yI;have zw:=vm x.1 y.1;have CC:=zV.out x yG y yH;obtain⟨s1,t1⟩:=e_ (ByteArray.mk x.1.2.1.toArray);obtain⟨s2,t2⟩:=e_ (ByteArray.mk y.1.2.1.toArray);obtain⟨s3,t3⟩:=e_ (ByteArray.mk x.1.2.2.1.toArray);obtain⟨s4,t4⟩:=e_ (ByteArray.mk y.1.2.2.1.toArray);obtain⟨s5,t5⟩:=e_ (ByteArray.mk x.1.2.2.2.2.1.toArray);obtain⟨s6,t6⟩:=e_ (ByteArray.mk y.1.2.2.2.2.1.toArray);obtain⟨a1,u1⟩:=e_ x.1.1;obtain⟨a2,u2⟩:=e_ y.1.1;obtain⟨n1,u3⟩:=e_ x.1.2.2.2.2.2;obtain⟨n2,u4⟩:=e_ y.1.2.2.2.2.2;obtain⟨E1,h1⟩:=e_ ((x.1.1==y.1.1));obtain⟨E2,h2⟩:=e_ (decide (x.1.2.1=y.1.2.1));obtain⟨E3,h3⟩:=e_ (decide (x.1.2.2.1=y.1.2.2.1));obtain⟨E4,h4⟩:=e_ (decide (x.1.2.2.2.2.1=y.1.2.2.2.2.1));obtain⟨E5,h5⟩:=e_ ((x.1.2.2.2.2.2==y.1.2.2.2.2.2));obtain⟨E6,h6⟩:=e_ (decide (x.1.2.2.2.1=y.1.2.2.2.1));rw[h1,h2,h3,h4,h5,h6] at zw;rw[h6] at CC;have k2:(s1.toList==s2.toList)=E2:=(by rw[←h2,←t1,←t2];exact gt _ _);have k3:(s3.toList==s4.toList)=E3:=(by rw[←h3,←t3,←t4];exact gt _ _);have k4:(s5.toList==s6.toList)=E4:=(by rw[←h4,←t5,←t6];exact gt _ _);have j2:(s1.toList != s2.toList)=!E2:=(by rw[←k2];rfl);have j3:(s3.toList != s4.toList)=!E3:=(by rw[←k3];rfl);have j4:(s5.toList != s6.toList)=!E4:=(by rw[←k4];rfl);have CC:=h_ CC
    have xp:=h_ fun (w':World) (hb:Bl w w')=>show w'.cell? ⟨B,off+k*6,none⟩=some (.int .u8 a1)∧w'.cell? ⟨B,off+k*6+1,none⟩=some (.string s1)∧w'.cell? ⟨B,off+k*6+2,none⟩=some (.string s3)∧w'.cell? ⟨B,off+k*6+3,none⟩=some (ndV x)∧w'.cell? ⟨B,off+k*6+4,none⟩=some (.string s5)∧w'.cell? ⟨B,off+k*6+5,none⟩=some (.int .i64 n1) from (by rw[←t1,←t3,←t5,←u1,←u3];exact⟨HC.out w' hb 0 _ rfl,HC.out w' hb 1 _ rfl,HC.out w' hb 2 _ rfl,HC.out w' hb 3 _ rfl,HC.out w' hb 4 _ rfl,HC.out w' hb 5 _ rfl⟩)
    have xq:=h_ fun (w':World) (hb:Bl w w')=>show w'.cell? ⟨B',xn+k*6,none⟩=some (.int .u8 a2)∧w'.cell? ⟨B',xn+k*6+1,none⟩=some (.string s2)∧w'.cell? ⟨B',xn+k*6+2,none⟩=some (.string s4)∧w'.cell? ⟨B',xn+k*6+3,none⟩=some (ndV y)∧w'.cell? ⟨B',xn+k*6+4,none⟩=some (.string s6)∧w'.cell? ⟨B',xn+k*6+5,none⟩=some (.int .i64 n2) from (by rw[←t2,←t4,←t6,←u2,←u4];exact⟨HE.out w' hb 0 _ rfl,HE.out w' hb 1 _ rfl,HE.out w' hb 2 _ rfl,HE.out w' hb 3 _ rfl,HE.out w' hb 4 _ rfl,HE.out w' hb 5 _ rfl⟩)
    rw[u1,u2] at h1;rw[u3,u4] at h5;have j1:(a1 != a2)=!E1:=(by rw[←h1];rfl);have j5:(n1 != n2)=!E5:=(by rw[←h5];rfl);obtain⟨QQ,hQ⟩:=e_ (decide (x.1=y.1));rw[hQ] at zw;have HQ:=h_ hQ;have yO:=h_ zw;clear h2 h3 h4 h6 hQ zw yG yH t1 t2 t3 t4 t5 t6 u1 u2 u3 u4
    cases E1 with
    | false=>
     have hq:x.1≠y.1:=of_decide_eq_false (HQ.out.trans (yO.out.trans (by simp)));have xA:=HN.out hq;subst xA;obtain⟨m0,m1,m2,m3,m4,m5⟩:=xp.out wr q;obtain⟨l0,l1,l2,l3,l4,l5⟩:=xq.out wr q;go_wp2_with fail;clear m0 m1 m2 m3 m4 m5 l0 l1 l2 l3 l4 l5;refine nj (c:=Code.region 6 opsS true) (by kernel_rfl) ?_;refine qg xp xq bs wl h1 (fun _ _ _ _ _ h=>h) ?_;clear bs q;intro y17 y18 y19 y20 y21 y22 y23 y24 y25 y26 y27 y28 y29 y30 y31 y32 y33 y34 y35 y36 y37 y38 y39 y40 y41 y42 y43 y44 y45 y46 y47 y48 y49 y50 y51 y52 y53 y54 y55 y56 y57 y58 y59 y60 y61 y62 y63 y64 y65 y66 y67 y68 y69 y70 y71 y72 y73 y74 y75 y76 y77 y78 y79 y80 y81 y82 y83 y84 y85 y86 y87 y88 y89 y90 y91 y92 w9 bs;have q:=bs.q;go_wp2_with fail;go_ret;exact⟨rfl,q⟩
    | true=>
     cases E2 with
     | false=>
      have hq:x.1≠y.1:=of_decide_eq_false (HQ.out.trans (yO.out.trans (by simp)));have xA:=HN.out hq;subst xA;obtain⟨m0,m1,m2,m3,m4,m5⟩:=xp.out wr q;obtain⟨l0,l1,l2,l3,l4,l5⟩:=xq.out wr q;go_wp2_with fail;clear m0 m1 m2 m3 m4 m5 l0 l1 l2 l3 l4 l5;refine nj (c:=Code.region 6 opsS true) (by kernel_rfl) ?_;refine qc xp xq bs wl h1 k2 (fun _ _ _ _ _ h=>h) ?_;clear bs q;intro y17 y18 y19 y20 y21 y22 y23 y24 y25 y26 y27 y28 y29 y30 y31 y32 y33 y34 y35 y36 y37 y38 y39 y40 y41 y42 y43 y44 y45 y46 y47 y48 y49 y50 y51 y52 y53 y54 y55 y56 y57 y58 y59 y60 y61 y62 y63 y64 y65 y66 y67 y68 y69 y70 y71 y72 y73 y74 y75 y76 y77 y78 y79 y80 y81 y82 y83 y84 y85 y86 y87 y88 y89 y90 y91 y92 w9 bs;have q:=bs.q;go_wp2_with fail;go_ret;exact⟨rfl,q⟩
     | true=>
      cases E3 with
      | false=>
       have hq:x.1≠y.1:=of_decide_eq_false (HQ.out.trans (yO.out.trans (by simp)));have xA:=HN.out hq;subst xA;obtain⟨m0,m1,m2,m3,m4,m5⟩:=xp.out wr q;obtain⟨l0,l1,l2,l3,l4,l5⟩:=xq.out wr q;go_wp2_with fail;clear m0 m1 m2 m3 m4 m5 l0 l1 l2 l3 l4 l5;refine nj (c:=Code.region 6 opsS true) (by kernel_rfl) ?_;refine qG xp xq bs wl h1 k2 k3 (fun _ _ _ _ _ h=>h) ?_;clear bs q;intro y17 y18 y19 y20 y21 y22 y23 y24 y25 y26 y27 y28 y29 y30 y31 y32 y33 y34 y35 y36 y37 y38 y39 y40 y41 y42 y43 y44 y45 y46 y47 y48 y49 y50 y51 y52 y53 y54 y55 y56 y57 y58 y59 y60 y61 y62 y63 y64 y65 y66 y67 y68 y69 y70 y71 y72 y73 y74 y75 y76 y77 y78 y79 y80 y81 y82 y83 y84 y85 y86 y87 y88 y89 y90 y91 y92 w9 bs;have q:=bs.q;go_wp2_with fail;go_ret;exact⟨rfl,q⟩
      | true=>
       cases E4 with
       | false=>
        have hq:x.1≠y.1:=of_decide_eq_false (HQ.out.trans (yO.out.trans (by simp)));have xA:=HN.out hq;subst xA;obtain⟨m0,m1,m2,m3,m4,m5⟩:=xp.out wr q;obtain⟨l0,l1,l2,l3,l4,l5⟩:=xq.out wr q;go_wp2_with fail;clear m0 m1 m2 m3 m4 m5 l0 l1 l2 l3 l4 l5;refine nj (c:=Code.region 6 opsS true) (by kernel_rfl) ?_;refine rg xp xq bs wl h1 k2 k3 k4 (fun _ _ _ _ _ h=>h) ?_;clear bs q;intro y17 y18 y19 y20 y21 y22 y23 y24 y25 y26 y27 y28 y29 y30 y31 y32 y33 y34 y35 y36 y37 y38 y39 y40 y41 y42 y43 y44 y45 y46 y47 y48 y49 y50 y51 y52 y53 y54 y55 y56 y57 y58 y59 y60 y61 y62 y63 y64 y65 y66 y67 y68 y69 y70 y71 y72 y73 y74 y75 y76 y77 y78 y79 y80 y81 y82 y83 y84 y85 y86 y87 y88 y89 y90 y91 y92 w9 bs;have q:=bs.q;go_wp2_with fail;go_ret;exact⟨rfl,q⟩
       | true=>
        cases E5 with
        | false=>
         have hq:x.1≠y.1:=of_decide_eq_false (HQ.out.trans (yO.out.trans (by simp)));have xA:=HN.out hq;subst xA;obtain⟨m0,m1,m2,m3,m4,m5⟩:=xp.out wr q;obtain⟨l0,l1,l2,l3,l4,l5⟩:=xq.out wr q;go_wp2_with fail;clear m0 m1 m2 m3 m4 m5 l0 l1 l2 l3 l4 l5;refine nj (c:=Code.region 6 opsS true) (by kernel_rfl) ?_;refine p9 xp xq bs wl h1 k2 k3 k4 h5 (fun _ _ _ _ _ h=>h) ?_;clear bs q;intro y17 y18 y19 y20 y21 y22 y23 y24 y25 y26 y27 y28 y29 y30 y31 y32 y33 y34 y35 y36 y37 y38 y39 y40 y41 y42 y43 y44 y45 y46 y47 y48 y49 y50 y51 y52 y53 y54 y55 y56 y57 y58 y59 y60 y61 y62 y63 y64 y65 y66 y67 y68 y69 y70 y71 y72 y73 y74 y75 y76 y77 y78 y79 y80 y81 y82 y83 y84 y85 y86 y87 y88 y89 y90 y91 y92 w9 bs;have q:=bs.q;go_wp2_with fail;go_ret;exact⟨rfl,q⟩
        | true=>
         obtain⟨m0,m1,m2,m3,m4,m5⟩:=xp.out wr q;obtain⟨l0,l1,l2,l3,l4,l5⟩:=xq.out wr q;go_wp2_with fail;clear m0 m1 m2 m3 m4 m5 l0 l1 l2 l3 l4 l5;refine nj (c:=Code.region 6 opsS true) (by kernel_rfl) ?_;refine p8 xp xq bs wl h1 k2 k3 k4 h5 CC (fun _ _ _ _ _ h=>h) ?_;clear bs q;intro y17 y18 y19 y20 y21 y22 y23 y24 y25 y26 y27 y28 y29 y30 y31 y32 y33 y34 y35 y36 y37 y38 y39 y40 y41 y42 y43 y44 y45 y46 y47 y48 y49 y50 y51 y52 y53 y54 y55 y56 y57 y58 y59 y60 y61 y62 y63 y64 y65 y66 y67 y68 y69 y70 y71 y72 y73 y74 y75 y76 y77 y78 y79 y80 y81 y82 y83 y84 y85 y86 y87 y88 y89 y90 y91 y92 w9 bs;have q:=bs.q
         cases E6 with
         | true=>
          have HT:=h_ (HS.out (of_decide_eq_true (HQ.out.trans yO.out)));go_wp2_with fail;go_roundw
          case rel=>exact⟨k+1,by omega,by go_num,HT.out,bs⟩
          case measure=>simp[intOf];omega
         | false=>
          have xA:=HN.out (of_decide_eq_false (HQ.out.trans (yO.out.trans (by simp))));subst xA;go_wp2_with fail;go_ret;exact⟨rfl,q⟩
   ·have e1:(M.map Prod.fst).take k=M.map Prod.fst:=wB (by rw[wu,HL.out];omega)
    have e2:(K.map Prod.fst).take k=K.map Prod.fst:=wB (by rw[wu,xS.out];omega)
    rw[e1,e2] at xC;have:O=true:=(by rw[←HO.out];exact decide_eq_true xC);subst this;clear e1 e2 xC;go_wp2_with fail;go_ret;exact⟨rfl,q⟩
 ·have:O=false:=by
   rw[←hO]
   refine decide_eq_false fun h=>hlen ?_
   have:=congrArg wF h;rw[wu,wu,hL,xB] at this;exact this
  subst this
  have wl:¬ (L:Int)=(L':Int):=by omega
  clear hO hL xB hv hu;go_enter func125,ntmps125;go_wp2_with fail;go_ret;exact⟨rfl,bQ _⟩
theorem qK (X Y:TrI) (w:World) (hx:trY.sub X w) (hy:trY.sub Y w) (zx:X.1.length≤100000∧∀p∈X.1,(ndA p).length≤100000) (zy:Y.1.length≤100000∧∀p∈Y.1,(ndA p).length≤100000):
  Calls prog 125 #[trV X,trV Y] w (Ret w (.bool (decide (trD X=trD Y)))):=
 ou (trV X) (trV Y) X.1 Y.1 w hx hy zx.1 zy.1 fun x yG y yH W hb=>
  vu.ret (ju (ndV x) (ndV y) (ndA x) (ndA y) W (IsL.ret (show IsL atY (ndV x) (ndA x) w from hx.2.2 x yG) hb) (IsL.ret (show IsL atY (ndV y) (ndA y) w from hy.2.2 y yH) hb) (zx.2 x yG) (zy.2 y yH))
theorem jE (v u:Value) (M K:List TrI) (w:World) (hv:IsL trY v M w) (hu:IsL trY u K w) (hM:M.length≤100000) (hK:K.length≤100000) (yW:∀x∈M,∀y∈K,∀W,Bl w W→Calls prog 125 #[trV x,trV y] W (Ret W (.bool (decide (trD x=trD y))))):
  Calls prog 64 #[v,u] w (Ret w (.bool (decide (M.map trD=K.map trD)))):=by
 obtain⟨a,ca,yE,-⟩:=hv.form;obtain⟨b,cb,yF,-⟩:=hu.form;obtain⟨O,hO⟩:=e_ (decide (M.map trD=K.map trD));obtain⟨L,hL⟩:=e_ M.length;obtain⟨L',xB⟩:=e_ K.length;rw[hL] at yE hM;rw[xB] at yF hK;rw[hO];subst yE yF
 by_cases hlen:L=L'
 ·subst hlen
  have HO:=h_ hO;have HL:=h_ hL;have xS:=h_ xB;have HV:=h_ hv;have HU:=h_ hu;have zV:=h_ yW;clear yW;clear hO hL xB hv hu;go_enter func64,ntmps64;go_wp2_with fail;go_loopw [5] (fun i wx=>∃k:Nat,k≤L∧i=.int .i64 k∧(M.map trD).take k=(K.map trD).take k∧Sx w [] wx) (fun i _=>L-(intOf i).toNat)
  case atStart=>exact⟨0,wE _,rfl,rfl,Sx.start w⟩
  case round=>
   obtain⟨k,hk,rfl,xC,bs⟩:=hrel;have q:=bs.q
   by_cases hlt:k<L
   ·have xF : k < M.length := by rw [HL.out]; exact hlt
    have xG:k<K.length:=(by rw[xS.out];exact hlt);obtain⟨x,hx⟩:=e_ (M[k]);obtain⟨y,hy⟩:=e_ (K[k]);obtain⟨B,off,cp,hf,-,hc⟩:=HV.out.cells (k:=k) (x:=x) (by rw[wy xF,hx]);rw[HL.out] at hf;simp only[wz,true_and] at hf;obtain⟨rfl,rfl⟩:=hf;obtain⟨B',xn,Ax,hf,-,he⟩:=HU.out.cells (k:=k) (x:=y) (by rw[wy xG,hy]);rw[xS.out] at hf;simp only[wz,true_and] at hf;obtain⟨rfl,rfl⟩:=hf;have yG:x∈M:=(by rw[←hx];exact wA xF);have yH:y∈K:=(by rw[←hy];exact wA xG);have xT:k<(M.map trD).length:=(by simpa using xF);have xU:k<(K.map trD).length:=(by simpa using xG)
    have hst:trD x=trD y→(M.map trD).take (k+1)=(K.map trD).take (k+1):=fun h=>jA xT xU xC (by rw[wv,wv,hx,hy];exact h)
    have yI:trD x≠trD y→O=false:=fun h=>by
     rw[←HO.out];exact decide_eq_false (nS xT xU (by rw[wv,wv,hx,hy];exact h))
    have HC:=h_ hc;have HE:=h_ he;have HS:=h_ hst;have HN:=h_ yI;have wl:(k:Int)<(L:Int):=(by omega);clear hc he hx hy xT xU xC xF xG hst yI;have CC:=zV.out x yG y yH;obtain⟨E,hE⟩:=e_ (decide (trD x=trD y));rw[hE] at CC;have CC:=h_ CC
    have c0:wr.cell? ⟨B,off+k,none⟩=some (trV x):=by
     have h:=HC.out wr q 0 _ rfl
     rwa [show off+k*trY.n+0=off+k from (by show off+k*1+0=off+k;omega)] at h
    have e0:wr.cell? ⟨B',xn+k,none⟩=some (trV y):=by
     have h:=HE.out wr q 0 _ rfl
     rwa [show xn+k*trY.n+0=xn+k from (by show xn+k*1+0=xn+k;omega)] at h
    clear c0 e0
    have yT:=h_ fun (w':World) (hb:Bl w w')=>show w'.cell? ⟨B,off+k,none⟩=some (trV x) by
     have h:=HC.out w' hb 0 _ rfl
     rwa [show off+k*trY.n+0=off+k from (by show off+k*1+0=off+k;omega)] at h
    have yU:=h_ fun (w':World) (hb:Bl w w')=>show w'.cell? ⟨B',xn+k,none⟩=some (trV y) by
     have h:=HE.out w' hb 0 _ rfl
     rwa [show xn+k*trY.n+0=xn+k from (by show xn+k*1+0=xn+k;omega)] at h
    cases E with
    | true=>
     have HT:=h_ (HS.out (of_decide_eq_true hE));clear hE;have c0:=yT.out wr q;have e0:=yU.out wr q;go_wp2_with fail;clear c0 e0;replace bs:=bs.ret (ww (bQ _));replace q:=bs.q
     have xE:wr.drew.heap.size=wr.heap.size:=rfl
     refine wp_region_held_drew (S:=fun w'=>w'.cell? ⟨B,off+k,none⟩=some (trV x)∧w'.cell? ⟨B',xn+k,none⟩=some (trV y)) (by kernel_rfl) ⟨(yT.out _ q),(yU.out _ q)⟩ (fun hH=>?_);generalize wr.drew=w11 at bs q xE hH ⊢;refine rS [(0,some 17),(1,some 18),(2,some 19),(3,some 20),(4,some 21),(5,some 22),(6,some 23),(7,some 24)] ?_
     iterate 8
      refine aH (v:=?_) (by kernel_rfl) (by kernel_rfl) (fun _ _ _ h=>h) (by assumption) (fun o ho w' xr=>?_) ?_;rotate_left
      ·have xo:=wt (show some _=some o from ho);subst xo;(try dsimp only at xr);go_simp;try with_reducible rfl
      simp only[wh,wo,wq,ws]
     refine rE ?_;refine iO (i:=8) (by kernel_rfl) (by kernel_rfl) (fun o ho K hK=>?_);have xo:=wt (show some _=some o from ho);subst xo;go_simp;refine(CC.out w11 q).mono ?_;rintro e Az ⟨rfl,hb⟩;replace bs:=bs.ret hb;replace q:=bs.q;clear hb;go_simp;clear hH;refine hK.out _ _ ⟨(yT.out _ q),(yU.out _ q)⟩ (fun hH=>?_);clear hK K;refine kt (i:=9) (some 26) (v:=?_) (by kernel_rfl) (by kernel_rfl) (by kernel_rfl) (by kernel_rfl) (fun _ _ _ h=>h) (by assumption) (fun o ho w' xr=>?_) ?_;rotate_left
     ·(have xo:=wt (show some _=some o from ho);subst xo;(try dsimp only at xr);go_simp;try with_reducible rfl)
     simp only[wh,wo,wq,ws];refine aD ?_;clear hH;go_wp2_with fail;go_roundw
     case rel=>exact⟨k+1,by omega,by go_num,HT.out,bs⟩
     case measure=>simp[intOf];omega
    | false=>
     have xA:=HN.out (of_decide_eq_false hE);subst xA;clear hE;have c0:=yT.out wr q;have e0:=yU.out wr q;go_wp2_with fail;clear c0 e0;replace bs:=bs.ret (ww (bQ _));replace q:=bs.q
     have xE:wr.drew.heap.size=wr.heap.size:=rfl
     refine wp_region_held_drew (S:=fun w'=>w'.cell? ⟨B,off+k,none⟩=some (trV x)∧w'.cell? ⟨B',xn+k,none⟩=some (trV y)) (by kernel_rfl) ⟨(yT.out _ q),(yU.out _ q)⟩ (fun hH=>?_);generalize wr.drew=w11 at bs q xE hH ⊢;refine rS [(0,some 17),(1,some 18),(2,some 19),(3,some 20),(4,some 21),(5,some 22),(6,some 23),(7,some 24)] ?_
     iterate 8
      refine aH (v:=?_) (by kernel_rfl) (by kernel_rfl) (fun _ _ _ h=>h) (by assumption) (fun o ho w' xr=>?_) ?_;rotate_left
      ·have xo:=wt (show some _=some o from ho);subst xo;(try dsimp only at xr);go_simp;try with_reducible rfl
      simp only[wh,wo,wq,ws]
     refine rE ?_;refine iO (i:=8) (by kernel_rfl) (by kernel_rfl) (fun o ho K hK=>?_);have xo:=wt (show some _=some o from ho);subst xo;go_simp;refine(CC.out w11 q).mono ?_;rintro e Az ⟨rfl,hb⟩;replace bs:=bs.ret hb;replace q:=bs.q;clear hb;go_simp;clear hH;refine hK.out _ _ ⟨(yT.out _ q),(yU.out _ q)⟩ (fun hH=>?_);clear hK K;refine kt (i:=9) (some 26) (v:=?_) (by kernel_rfl) (by kernel_rfl) (by kernel_rfl) (by kernel_rfl) (fun _ _ _ h=>h) (by assumption) (fun o ho w' xr=>?_) ?_;rotate_left
     ·(have xo:=wt (show some _=some o from ho);subst xo;(try dsimp only at xr);go_simp;try with_reducible rfl)
     simp only[wh,wo,wq,ws];refine aD ?_;clear hH;go_wp2_with fail;go_ret;exact⟨rfl,q⟩
   ·have e1:(M.map trD).take k=M.map trD:=wB (by rw[wu,HL.out];omega)
    have e2:(K.map trD).take k=K.map trD:=wB (by rw[wu,xS.out];omega)
    rw[e1,e2] at xC;have:O=true:=(by rw[←HO.out];exact decide_eq_true xC);subst this;clear e1 e2 xC;go_wp2_with fail;go_ret;exact⟨rfl,q⟩
 ·have:O=false:=by
   rw[←hO]
   refine decide_eq_false fun h=>hlen ?_
   have:=congrArg wF h;rw[wu,wu,hL,xB] at this;exact this
  subst this
  have wl:¬ (L:Int)=(L':Int):=by omega
  clear hO hL xB hv hu;go_enter func64,ntmps64;go_wp2_with fail;go_ret;exact⟨rfl,bQ _⟩
theorem jP (v u:Value) (M K:List TrI) (w:World) (hv:IsL trY v M w) (hu:IsL trY u K w) (hM:M.length≤100000) (hK:K.length≤100000) (zM:∀t∈M,EqT t) (zK:∀t∈K,EqT t):
  Calls prog 64 #[v,u] w (Ret w (.bool (decide (M.map trD=K.map trD)))):=
 jE v u M K w hv hu hM hK fun x hx y hy W hb=>qK x y W (trY.subRet _ _ _ (hv.2.2 x hx) hb) (trY.subRet _ _ _ (hu.2.2 y hy) hb) (zM x hx) (zK y hy)
theorem iZ (j j':ByteArray) (on yy ask xH:Bool) (pr yz:Int) (lv yA sv yB:Value) (E1 E2 E3 E4 G H:Bool) (w:World) (h1:(j.toList==j'.toList)=E1) (h2:(on==yy)=E2) (h3:(pr==yz)=E3) (h4:(ask==xH)=E4)
  (CG:∀W,Bl w W→Calls prog 21 #[sv,yB] W (Ret W (.bool G)))
  (CH:∀W,Bl w W→Calls prog 64 #[lv,yA] W (Ret W (.bool H))):
  Calls prog 19 #[.agg #[.string j,.bool on,.int .i64 pr,lv,.bool ask,sv],.agg #[.string j',.bool yy,.int .i64 yz,yA,.bool xH,yB]] w (Ret w (.bool (E1&&(E2&&(E3&&(E4&&(G&&H))))))):=by
 have CG:=h_ CG;have CH:=h_ CH
 cases E1 with
 | false=>
  obtain⟨W0,hW,y0,bs⟩:=Sx.start2 w [.string j,.bool on,.int .i64 pr,lv,.bool ask,sv] 38 [.string j',.bool yy,.int .i64 yz,yA,.bool xH,yB] 38;have HW:=h_ hW;clear hW;have q:=bs.q;go_enter func19,ntmps19;go_wp2_with fail;rw[HW.out];have xt:=bs.b6 0;have xu:=bs.b6 1;go_wp2_with fail;go_ret;exact⟨rfl,q⟩
 | true=>
  cases E2 with
  | false=>
   obtain⟨W0,hW,y0,bs⟩:=Sx.start2 w [.string j,.bool on,.int .i64 pr,lv,.bool ask,sv] 38 [.string j',.bool yy,.int .i64 yz,yA,.bool xH,yB] 38;have HW:=h_ hW;clear hW;have q:=bs.q;go_enter func19,ntmps19;go_wp2_with fail;rw[HW.out];have xt:=bs.b6 0;have xu:=bs.b6 1;go_wp2_with fail;go_ret;exact⟨rfl,q⟩
  | true=>
   cases E3 with
   | false=>
    obtain⟨W0,hW,y0,bs⟩:=Sx.start2 w [.string j,.bool on,.int .i64 pr,lv,.bool ask,sv] 38 [.string j',.bool yy,.int .i64 yz,yA,.bool xH,yB] 38;have HW:=h_ hW;clear hW;have q:=bs.q;go_enter func19,ntmps19;go_wp2_with fail;rw[HW.out];have xt:=bs.b6 0;have xu:=bs.b6 1;go_wp2_with fail;go_ret;exact⟨rfl,q⟩
   | true=>
    cases E4 with
    | false=>
     obtain⟨W0,hW,y0,bs⟩:=Sx.start2 w [.string j,.bool on,.int .i64 pr,lv,.bool ask,sv] 38 [.string j',.bool yy,.int .i64 yz,yA,.bool xH,yB] 38;have HW:=h_ hW;clear hW;have q:=bs.q;go_enter func19,ntmps19;go_wp2_with fail;rw[HW.out];have xt:=bs.b6 0;have xu:=bs.b6 1;go_wp2_with fail;go_ret;exact⟨rfl,q⟩
    | true=>
     cases G with
     | false=>
      obtain⟨W0,hW,y0,bs⟩:=Sx.start2 w [.string j,.bool on,.int .i64 pr,lv,.bool ask,sv] 38 [.string j',.bool yy,.int .i64 yz,yA,.bool xH,yB] 38;have HW:=h_ hW;clear hW;have q:=bs.q;go_enter func19,ntmps19;go_wp2_with fail;rw[HW.out];have xt:=bs.b6 0;have xu:=bs.b6 1;go_wp2_with fail;refine(CG.out W0 q).mono ?_;rintro e w1 ⟨rfl,hb⟩;clear xt xu;replace bs:=bs.ret hb;replace q:=bs.q;clear hb;have xt:=bs.b6 0;have xu:=bs.b6 1;go_wp2_with fail;go_ret;exact⟨rfl,q⟩
     | true=>
      cases H with
      | false=>
       obtain⟨W0,hW,y0,bs⟩:=Sx.start2 w [.string j,.bool on,.int .i64 pr,lv,.bool ask,sv] 38 [.string j',.bool yy,.int .i64 yz,yA,.bool xH,yB] 38;have HW:=h_ hW;clear hW;have q:=bs.q;go_enter func19,ntmps19;go_wp2_with fail;rw[HW.out];have xt:=bs.b6 0;have xu:=bs.b6 1;go_wp2_with fail;refine(CG.out W0 q).mono ?_;rintro e w1 ⟨rfl,hb⟩;clear xt xu;replace bs:=bs.ret hb;replace q:=bs.q;clear hb;have xt:=bs.b6 0;have xu:=bs.b6 1;go_wp2_with fail;refine(CH.out w1 q).mono ?_;rintro e w2 ⟨rfl,hb⟩;clear xt xu;replace bs:=bs.ret hb;replace q:=bs.q;clear hb;have xt:=bs.b6 0;have xu:=bs.b6 1;go_wp2_with fail;go_ret;exact⟨rfl,q⟩
      | true=>
       obtain⟨W0,hW,y0,bs⟩:=Sx.start2 w [.string j,.bool on,.int .i64 pr,lv,.bool ask,sv] 38 [.string j',.bool yy,.int .i64 yz,yA,.bool xH,yB] 38;have HW:=h_ hW;clear hW;have q:=bs.q;go_enter func19,ntmps19;go_wp2_with fail;rw[HW.out];have xt:=bs.b6 0;have xu:=bs.b6 1;go_wp2_with fail;refine(CG.out W0 q).mono ?_;rintro e w1 ⟨rfl,hb⟩;clear xt xu;replace bs:=bs.ret hb;replace q:=bs.q;clear hb;have xt:=bs.b6 0;have xu:=bs.b6 1;go_wp2_with fail;refine(CH.out w1 q).mono ?_;rintro e w2 ⟨rfl,hb⟩;clear xt xu;replace bs:=bs.ret hb;replace q:=bs.q;clear hb;have xt:=bs.b6 0;have xu:=bs.b6 1;go_wp2_with fail;go_ret;exact⟨rfl,q⟩
theorem lU (v u:Value) (xs ys:List (List UInt8)) (w:World) (hv:be v xs w) (hu:be u ys w) (hl:xs.length≤1000000):Calls prog 21 #[v,u] w (Ret w (.bool (decide (xs=ys)))):=ov v u xs ys w hv.1 hu.1 hl
theorem lx (x y:RsI) (w:World) (hx:rsY.sub x w) (hy:rsY.sub y w) (zx:EqR x) (zy:EqR y):Calls prog 19 #[x.v,y.v] w (Ret w (.bool (decide (x.d=y.d)))):=by
 rw[vq]
 exact iZ ⟨x.j.toArray⟩ ⟨y.j.toArray⟩ x.on y.on x.ask y.ask x.pr y.pr x.lv y.lv x.sv y.sv _ _ _ _ _ _ w (gt _ _) rfl rfl rfl
  (fun W hb=>lU x.sv y.sv x.st y.st W (be.ret hx.2 hb) (be.ret hy.2 hb) (by have:=zx.2.1;omega)) (fun W hb=>jP x.lv y.lv x.ld y.ld W (hx.1.ret hb) (hy.1.ret hb) zx.1 zy.1 zx.2.2 zy.2.2)

theorem rZ {α β:Type} {f:α→β} {A A':List α} {k:Nat} {p q:α} (h1:A[k]?=some p) (h2:A'[k]?=some q) (h:f p≠f q):A.map f≠A'.map f:=fun e=>h (by
 have:=congrArg (fun l:List β=>l[k]?) e
 simpa [h1,h2] using this)
theorem rN {α β:Type} {f:α→β} {A A':List α} {k:Nat} {p q:α} (h1:A[k]?=some p) (h2:A'[k]?=some q) (ht:(A.map f).take k=(A'.map f).take k) (h:f p=f q):(A.map f).take (k+1)=(A'.map f).take (k+1):=by
 rw[a8 (l:=A.map f) (x:=f p) (by rw[wI,h1];rfl),a8 (l:=A'.map f) (x:=f q) (by rw[wI,h2];rfl),ht,h]
theorem sn {α β:Type} {f:α→β} {A A':List α} {k:Nat} (h1:A.length≤k) (h2:A'.length≤k) (ht:(A.map f).take k=(A'.map f).take k):A.map f=A'.map f:=by
 rwa [wB (by rw[wu];exact h1),wB (by rw[wu];exact h2)] at ht
theorem qW (x y:CoI) (w:World) (hx:x.sub w) (hy:y.sub w) (zx:EqC x) (zy:EqC y):Calls prog 20 #[x.v,y.v] w (Ret w (.bool (decide (x.d=y.d)))):=by
 obtain⟨A1,⟨a1,b1⟩,R1,⟨r1,s1⟩,m1⟩:=x;obtain⟨A2,⟨a2,b2⟩,R2,⟨r2,s2⟩,m2⟩:=y;have zz:IsL acY (.slice a1 A1.length b1) A1 w:=hx.1;have zB:IsL rsY (.slice r1 R1.length s1) R1 w:=hx.2;have zC:IsL acY (.slice a2 A2.length b2) A2 w:=hy.1;have zD:IsL rsY (.slice r2 R2.length s2) R2 w:=hy.2;have AC:A1.length≤100000:=zx.1;have AE:R1.length≤100000:=zx.2.1
 have CA:=h_ fun (p:AcI) (hp:p∈A1) (q:AcI) (hq:q∈A2) (W:World) (hb:Bl w W)=>rI p.iv q.iv p.it q.it W (aE.ret (zz.2.2 p hp) hb) (aE.ret (zC.2.2 q hq) hb) (zx.2.2.1 p hp).1 (zy.2.2.1 q hq).1 (zx.2.2.1 p hp).2 (zy.2.2.1 q hq).2 p.ver q.ver
 have CR:=h_ fun (p:RsI) (hp:p∈R1) (q:RsI) (hq:q∈R2) (W:World) (hb:Bl w W)=>lx p q W (rsY.subRet _ _ _ (zB.2.2 p hp) hb) (rsY.subRet _ _ _ (zD.2.2 q hq) hb) (zx.2.2.2 p hp) (zy.2.2.2 q hq)
 show Calls _ _ #[.agg #[.slice a1 A1.length b1,.slice r1 R1.length s1,.int .i64 m1],.agg #[.slice a2 A2.length b2,.slice r2 R2.length s2,.int .i64 m2]] w (Ret w (.bool (decide ((A1.map AcI.d,R1.map RsI.d,m1)=(A2.map AcI.d,R2.map RsI.d,m2)))))
 obtain⟨O,hO⟩:=e_ (decide ((A1.map AcI.d,R1.map RsI.d,m1)=(A2.map AcI.d,R2.map RsI.d,m2)));rw[hO]
 have hA:A1.map AcI.d≠A2.map AcI.d→O=false:=fun h=>by rw[←hO];exact decide_eq_false fun e=>h (Prod.mk.inj e).1
 have hR:R1.map RsI.d≠R2.map RsI.d→O=false:=fun h=>by rw[←hO];exact decide_eq_false fun e=>h (Prod.mk.inj (Prod.mk.inj e).2).1
 have hM:m1≠m2→O=false:=fun h=>by rw[←hO];exact decide_eq_false fun e=>h (Prod.mk.inj (Prod.mk.inj e).2).2
 have hE:A1.map AcI.d=A2.map AcI.d→R1.map RsI.d=R2.map RsI.d→m1=m2→O=true:=fun h1 h2 h3=>by rw[←hO,h1,h2,h3];exact decide_eq_true rfl
 have zE:A1.length≠A2.length→O=false:=fun h=>hA fun e=>h (by have:=congrArg wF e;rwa [wu,wu] at this)
 have zF:R1.length≠R2.length→O=false:=fun h=>hR fun e=>h (by have:=congrArg wF e;rwa [wu,wu] at this)
 obtain⟨xD,yX⟩:=e_ A1.length;obtain⟨xI,yY⟩:=e_ R1.length;obtain⟨zW,yZ⟩:=e_ A2.length;obtain⟨zZ,ze⟩:=e_ R2.length;rw[yX] at zz zE AC ⊢;rw[yY] at zB zF AE ⊢;rw[yZ] at zC zE ⊢;rw[ze] at zD zF ⊢;have AF:=h_ zz;have AG:=h_ zC;have AH:=h_ zB;have AI:=h_ zD;have zh:=h_ yX;have zi:=h_ yZ;have zk:=h_ yY;have zm:=h_ ze;have AJ:=h_ hA;have AK:=h_ hR;have HE:=h_ hE;have AM:=h_ zE;have AN:=h_ zF;have HM:=h_ hM;clear hx hy zx zy zz zB zC zD hO hA hR hM hE zE zF yX yZ yY ze;obtain⟨W0,hW,y0,bs⟩:=Sx.start2 w [.slice a1 xD b1,.slice r1 xI s1,.int .i64 m1] 25 [.slice a2 zW b2,.slice r2 zZ s2,.int .i64 m2] 25;have HW:=h_ hW;clear hW;have q:=bs.q;go_enter func20,ntmps20;go_upto_region 1 with fail;rw[HW.out]
 by_cases hla:xD=zW
 rotate_left
 ·have AX : ((xD : Int) != zW) = true := by simp [bne]; omega
  have HB:=h_ (AM.out hla);clear hla;have xt:=bs.b3 0;have xu:=bs.b3 1;go_wp2_with fail;go_ret;exact⟨by rw[HB.out];first | done | rfl,q⟩
 ·subst hla
  by_cases hlr:xI=zZ
  rotate_left
  ·have AY : ((xI : Int) != zZ) = true := by simp [bne]; omega
   have HB:=h_ (AN.out hlr);clear hlr;have xt:=bs.b3 0;have xu:=bs.b3 1;go_wp2_with fail;go_ret;exact⟨by rw[HB.out];first | done | rfl,q⟩
  ·subst hlr
   by_cases hmm:m1=m2
   rotate_left
   ·have AZ : (m1 != m2) = true := by simp [bne]; exact hmm
    have HB:=h_ (HM.out hmm);clear hmm;have xt:=bs.b3 0;have xu:=bs.b3 1;go_wp2_with fail;go_ret;exact⟨by rw[HB.out];first | done | rfl,q⟩
   ·subst hmm
    have xt:=bs.b3 0;have xu:=bs.b3 1;go_wp2_with fail;clear xt xu;go_loopw [5] (fun i wx=>∃k:Nat,i=.int .i64 k∧k≤xD∧(A1.map AcI.d).take k=(A2.map AcI.d).take k∧Sx w [(w.heap.size,[.slice a1 xD b1,.slice r1 xI s1,.int .i64 m1]),(w.heap.size+1,[.slice a2 xD b2,.slice r2 xI s2,.int .i64 m1])] wx) (fun i _=>xD-(intOf i).toNat)
    case atStart=>exact⟨0,rfl,wE _,rfl,bs⟩
    case round=>
     clear bs q;obtain⟨k,rfl,hk,hT,bs⟩:=hrel;have q:=bs.q
     by_cases hlt:k<xD
     ·have wl : (k : Int) < (xD : Int) := by omega
      have yo:k<A1.length:=(by rw[zh.out];exact hlt);obtain⟨p1,yP⟩:=e_ (A1[k]);have xJ:A1[k]?=some p1:=(by rw[wy yo,yP]);have yJ:p1∈A1:=(by rw[←yP];exact wA yo);obtain⟨e1,xw,AO,hf,-,xP⟩:=AF.out.cells xJ;rw[zh.out] at hf;simp only[wz,true_and] at hf;obtain⟨rfl,rfl⟩:=hf;have yp:k<A2.length:=(by rw[zi.out];exact hlt);obtain⟨p2,yQ⟩:=e_ (A2[k]);have xK:A2[k]?=some p2:=(by rw[wy yp,yQ]);have yK:p2∈A2:=(by rw[←yQ];exact wA yp);obtain⟨e2,xx,AQ,hf,-,xQ⟩:=AG.out.cells xK;rw[zi.out] at hf;simp only[wz,true_and] at hf;obtain⟨rfl,rfl⟩:=hf;have z8:=h_ (rN xJ xK hT)
      have zG:=h_ fun h=>AJ.out (rZ xJ xK h)
      have yL:=CA.out p1 yJ p2 yK;obtain⟨G,hG⟩:=e_ ((decide (p1.it.map Prod.fst=p2.it.map Prod.fst)&&p1.ver==p2.ver));rw[hG] at yL;obtain⟨D,hD⟩:=e_ (decide (p1.j=p2.j));have hE:decide (p1.d=p2.d)=(D&&G):=(by rw[vl,←hD,←hG]);have yV:=h_ hE;clear hE hG;obtain⟨z9,AA,⟨Aa,Ab⟩,yR⟩:=p1;obtain⟨zo,yM⟩:=e_ AA.length;obtain⟨yC,xy⟩:=e_ (ByteArray.mk z9.toArray);obtain⟨Ad,AB,⟨Ae,Af⟩,yS⟩:=p2;obtain⟨zp,yN⟩:=e_ AB.length;obtain⟨yD,xz⟩:=e_ (ByteArray.mk Ad.toArray);have hj:(yC.toList==yD.toList)=D:=(by rw[←xy,←xz,←hD,gt]);have A3:(yC.toList != yD.toList)=!D:=(by unfold bne;rw[hj]);simp only[AcI.iv,yM,yN] at yL;have CX:=h_ yL;clear yL hD
      have yq:Hid (∀W',Bl w W'→W'.cell? ⟨e1,xw+k*3,none⟩=some (.string yC)):=h_ (fun W' hb=>by(try rw[←xy]);(try rw[←yM]);exact xP W' hb 0 _ rfl)
      have yt:Hid (∀W',Bl w W'→W'.cell? ⟨e1,xw+k*3+1,none⟩=some (.slice Aa zo Ab)):=h_ (fun W' hb=>by(try rw[←xy]);(try rw[←yM]);exact xP W' hb 1 _ rfl)
      have yu:Hid (∀W',Bl w W'→W'.cell? ⟨e1,xw+k*3+2,none⟩=some (.int .i64 yR)):=h_ (fun W' hb=>by(try rw[←xy]);(try rw[←yM]);exact xP W' hb 2 _ rfl)
      have yv:Hid (∀W',Bl w W'→W'.cell? ⟨e2,xx+k*3,none⟩=some (.string yD)):=h_ (fun W' hb=>by(try rw[←xz]);(try rw[←yN]);exact xQ W' hb 0 _ rfl)
      have yw:Hid (∀W',Bl w W'→W'.cell? ⟨e2,xx+k*3+1,none⟩=some (.slice Ae zp Af)):=h_ (fun W' hb=>by(try rw[←xz]);(try rw[←yN]);exact xQ W' hb 1 _ rfl)
      have yx:Hid (∀W',Bl w W'→W'.cell? ⟨e2,xx+k*3+2,none⟩=some (.int .i64 yS)):=h_ (fun W' hb=>by(try rw[←xz]);(try rw[←yN]);exact xQ W' hb 2 _ rfl)
      clear yP xJ yJ yo xP xy yM yQ xK yK yp xQ xz yN hT
      cases D with
      | false=>
       have xt:=bs.b3 0;have xu:=bs.b3 1;go_upto_region 6 with fail;clear xt xu;replace bs:=bs.ret (ww (bQ _));replace q:=bs.q
       have y21:wr.drew.heap.size=wr.heap.size:=rfl
       refine wp_region_held_drew (S:=fun w'=>w'.cell? ⟨w.heap.size,0,none⟩=some (.slice (some ⟨e1,xw,none⟩) xD b1)∧w'.cell? ⟨w.heap.size+1,0,none⟩=some (.slice (some ⟨e2,xx,none⟩) xD b2)∧w'.cell? ⟨e1,xw+k*3,none⟩=some (.string yC)∧w'.cell? ⟨e1,xw+k*3+1,none⟩=some (.slice Aa zo Ab)∧w'.cell? ⟨e1,xw+k*3+2,none⟩=some (.int .i64 yR)∧w'.cell? ⟨e2,xx+k*3,none⟩=some (.string yD)∧w'.cell? ⟨e2,xx+k*3+1,none⟩=some (.slice Ae zp Af)∧w'.cell? ⟨e2,xx+k*3+2,none⟩=some (.int .i64 yS)) (by kernel_rfl) ⟨bs.at 0 0,bs.at 1 0,yq.out _ q,yt.out _ q,yu.out _ q,yv.out _ q,yw.out _ q,yx.out _ q⟩ (fun hH=>?_);generalize wr.drew=w21 at bs q y21 hH ⊢;refine rS [(0,some 37),(1,some 38),(2,some 39),(3,some 40),(4,some 41),(5,some 42),(6,some 43),(7,some 44),(8,some 45),(9,some 46),(10,some 47),(11,some 48),(12,some 49),(13,some 50)] ?_
       iterate 14 refine aS ?_
       refine rE ?_;refine rS [(14,some 51),(15,some 52),(16,some 53),(17,some 54),(18,some 55),(19,some 56),(20,some 57),(21,some 58),(22,some 59),(23,some 60),(24,some 61),(25,some 62),(26,some 63),(27,some 64)] ?_
       iterate 14 refine aF ?_
       refine rE ?_;refine rS [(28,some 65)] ?_;refine aS ?_;refine rE ?_;refine aD ?_;clear hH;have HB:=h_ (zG.out (of_decide_eq_false yV.out));go_wp2_with fail;go_ret;exact⟨by rw[HB.out];first | done | rfl,q⟩
      | true=>
       have xt:=bs.b3 0;have xu:=bs.b3 1;go_upto_region 6 with fail;clear xt xu;replace bs:=bs.ret (ww (bQ _));replace q:=bs.q
       have y21:wr.drew.heap.size=wr.heap.size:=rfl
       refine wp_region_held_drew (S:=fun w'=>w'.cell? ⟨w.heap.size,0,none⟩=some (.slice (some ⟨e1,xw,none⟩) xD b1)∧w'.cell? ⟨w.heap.size+1,0,none⟩=some (.slice (some ⟨e2,xx,none⟩) xD b2)∧w'.cell? ⟨e1,xw+k*3,none⟩=some (.string yC)∧w'.cell? ⟨e1,xw+k*3+1,none⟩=some (.slice Aa zo Ab)∧w'.cell? ⟨e1,xw+k*3+2,none⟩=some (.int .i64 yR)∧w'.cell? ⟨e2,xx+k*3,none⟩=some (.string yD)∧w'.cell? ⟨e2,xx+k*3+1,none⟩=some (.slice Ae zp Af)∧w'.cell? ⟨e2,xx+k*3+2,none⟩=some (.int .i64 yS)) (by kernel_rfl) ⟨bs.at 0 0,bs.at 1 0,yq.out _ q,yt.out _ q,yu.out _ q,yv.out _ q,yw.out _ q,yx.out _ q⟩ (fun hH=>?_);generalize wr.drew=w21 at bs q y21 hH ⊢;refine rS [(0,some 37),(1,some 38),(2,some 39),(3,some 40),(4,some 41),(5,some 42),(6,some 43),(7,some 44),(8,some 45),(9,some 46),(10,some 47),(11,some 48),(12,some 49),(13,some 50),(14,some 51),(15,some 52),(16,some 53),(17,some 54),(18,some 55),(19,some 56),(20,some 57),(21,some 58),(22,some 59),(23,some 60),(24,some 61),(25,some 62)] ?_
       iterate 26 refine aS ?_
       refine rE ?_
       refine aC (i:=26) fun K hK=>?_
       go_simp;refine(CX.out w21 q).mono ?_;rintro e AS ⟨rfl,hb⟩;replace bs:=bs.ret hb;replace q:=bs.q;clear hb;go_simp;clear hH;refine hK.out _ _ ⟨bs.at 0 0,bs.at 1 0,yq.out _ q,yt.out _ q,yu.out _ q,yv.out _ q,yw.out _ q,yx.out _ q⟩ (fun hH=>?_);clear hK K;refine rS [(27,some 64),(28,some 65)] ?_
       iterate 2 refine aS ?_
       refine rE ?_;refine aD ?_;clear hH
       cases G with
       | false=>
        have HB:=h_ (zG.out (of_decide_eq_false yV.out));go_wp2_with fail;go_ret;exact⟨by rw[HB.out];first | done | rfl,q⟩
       | true=>
        have HB:=h_ (z8.out (of_decide_eq_true yV.out));go_wp2_with fail;go_roundw
        case rel=>exact⟨k+1,by go_num,by omega,HB.out,bs⟩
        case measure=>simp[intOf];omega
     ·have wl : ¬ (k : Int) < (xD : Int) := by omega
      have AT:=h_ (sn (by rw[zh.out];omega) (by rw[zi.out];omega) hT);clear hT hk;have xt:=bs.b3 0;have xu:=bs.b3 1;go_wp2_with fail;clear xt xu;go_loopw [6] (fun i wx=>∃k:Nat,i=.int .i64 k∧k≤xI∧(R1.map RsI.d).take k=(R2.map RsI.d).take k∧Sx w [(w.heap.size,[.slice a1 xD b1,.slice r1 xI s1,.int .i64 m1]),(w.heap.size+1,[.slice a2 xD b2,.slice r2 xI s2,.int .i64 m1])] wx) (fun i _=>xI-(intOf i).toNat)
      case atStart=>exact⟨0,rfl,wE _,rfl,bs⟩
      case round=>
       clear bs q;obtain⟨k,rfl,hk,hT,bs⟩:=hrel;have q:=bs.q
       by_cases hlt:k<xI
       ·have wl : (k : Int) < (xI : Int) := by omega
        have yo:k<R1.length:=(by rw[zk.out];exact hlt);obtain⟨p1,yP⟩:=e_ (R1[k]);have xJ:R1[k]?=some p1:=(by rw[wy yo,yP]);have yJ:p1∈R1:=(by rw[←yP];exact wA yo);obtain⟨e1,xw,AO,hf,-,xP⟩:=AH.out.cells xJ;rw[zk.out] at hf;simp only[wz,true_and] at hf;obtain⟨rfl,rfl⟩:=hf;have yp:k<R2.length:=(by rw[zm.out];exact hlt);obtain⟨p2,yQ⟩:=e_ (R2[k]);have xK:R2[k]?=some p2:=(by rw[wy yp,yQ]);have yK:p2∈R2:=(by rw[←yQ];exact wA yp);obtain⟨e2,xx,AQ,hf,-,xQ⟩:=AI.out.cells xK;rw[zm.out] at hf;simp only[wz,true_and] at hf;obtain⟨rfl,rfl⟩:=hf;have z8:=h_ (rN xJ xK hT)
        have zG:=h_ fun h=>AK.out (rZ xJ xK h)
        have yL:=CR.out p1 yJ p2 yK;obtain⟨E,hE⟩:=e_ (decide (p1.d=p2.d));rw[hE] at yL;have yV:=h_ hE;clear hE;obtain⟨z9,Ag,Ah,zo,⟨Ai,Aj⟩,zq,AU,⟨Ak,Al⟩⟩:=p1;obtain⟨Am,xL⟩:=e_ zo.length;obtain⟨An,xM⟩:=e_ AU.length;obtain⟨yC,xy⟩:=e_ (ByteArray.mk z9.toArray);obtain⟨Ad,Ao,Ap,zp,⟨Aq,Ar⟩,zv,AV,⟨As,Au⟩⟩:=p2;obtain⟨Av,xN⟩:=e_ zp.length;obtain⟨Aw,xO⟩:=e_ AV.length;obtain⟨yD,xz⟩:=e_ (ByteArray.mk Ad.toArray);have CX:∀W,Bl w W→Calls prog 19 #[.agg #[.string yC,.bool Ag,.int .i64 Ah,.slice Ai Am Aj,.bool zq,.slice Ak An Al],.agg #[.string yD,.bool Ao,.int .i64 Ap,.slice Aq Av Ar,.bool zv,.slice As Aw Au]] W (Ret W (.bool E)):=(by rw[←xy,←xL,←xM,←xz,←xN,←xO];exact yL);replace CX:=h_ CX;clear yL
        have yq:Hid (∀W',Bl w W'→W'.cell? ⟨e1,xw+k*6,none⟩=some (.string yC)):=h_ (fun W' hb=>by(try rw[←xy]);(try rw[←xL]);(try rw[←xM]);exact xP W' hb 0 _ rfl)
        have yt:Hid (∀W',Bl w W'→W'.cell? ⟨e1,xw+k*6+1,none⟩=some (.bool Ag)):=h_ (fun W' hb=>by(try rw[←xy]);(try rw[←xL]);(try rw[←xM]);exact xP W' hb 1 _ rfl)
        have yu:Hid (∀W',Bl w W'→W'.cell? ⟨e1,xw+k*6+2,none⟩=some (.int .i64 Ah)):=h_ (fun W' hb=>by(try rw[←xy]);(try rw[←xL]);(try rw[←xM]);exact xP W' hb 2 _ rfl)
        have zJ:Hid (∀W',Bl w W'→W'.cell? ⟨e1,xw+k*6+3,none⟩=some (.slice Ai Am Aj)):=h_ (fun W' hb=>by(try rw[←xy]);(try rw[←xL]);(try rw[←xM]);exact xP W' hb 3 _ rfl)
        have zO:Hid (∀W',Bl w W'→W'.cell? ⟨e1,xw+k*6+4,none⟩=some (.bool zq)):=h_ (fun W' hb=>by(try rw[←xy]);(try rw[←xL]);(try rw[←xM]);exact xP W' hb 4 _ rfl)
        have zP:Hid (∀W',Bl w W'→W'.cell? ⟨e1,xw+k*6+5,none⟩=some (.slice Ak An Al)):=h_ (fun W' hb=>by(try rw[←xy]);(try rw[←xL]);(try rw[←xM]);exact xP W' hb 5 _ rfl)
        have yv:Hid (∀W',Bl w W'→W'.cell? ⟨e2,xx+k*6,none⟩=some (.string yD)):=h_ (fun W' hb=>by(try rw[←xz]);(try rw[←xN]);(try rw[←xO]);exact xQ W' hb 0 _ rfl)
        have yw:Hid (∀W',Bl w W'→W'.cell? ⟨e2,xx+k*6+1,none⟩=some (.bool Ao)):=h_ (fun W' hb=>by(try rw[←xz]);(try rw[←xN]);(try rw[←xO]);exact xQ W' hb 1 _ rfl)
        have yx:Hid (∀W',Bl w W'→W'.cell? ⟨e2,xx+k*6+2,none⟩=some (.int .i64 Ap)):=h_ (fun W' hb=>by(try rw[←xz]);(try rw[←xN]);(try rw[←xO]);exact xQ W' hb 2 _ rfl)
        have zQ:Hid (∀W',Bl w W'→W'.cell? ⟨e2,xx+k*6+3,none⟩=some (.slice Aq Av Ar)):=h_ (fun W' hb=>by(try rw[←xz]);(try rw[←xN]);(try rw[←xO]);exact xQ W' hb 3 _ rfl)
        have zT:Hid (∀W',Bl w W'→W'.cell? ⟨e2,xx+k*6+4,none⟩=some (.bool zv)):=h_ (fun W' hb=>by(try rw[←xz]);(try rw[←xN]);(try rw[←xO]);exact xQ W' hb 4 _ rfl)
        have zU:Hid (∀W',Bl w W'→W'.cell? ⟨e2,xx+k*6+5,none⟩=some (.slice As Aw Au)):=h_ (fun W' hb=>by(try rw[←xz]);(try rw[←xN]);(try rw[←xO]);exact xQ W' hb 5 _ rfl)
        clear yP xJ yJ yo xP xy xL xM yQ xK yK yp xQ xz xN xO hT;have xt:=bs.b3 0;have xu:=bs.b3 1;go_upto_region 11 with fail;clear xt xu;replace bs:=bs.ret (ww (bQ _));replace q:=bs.q
        have y21:wr.drew.heap.size=wr.heap.size:=rfl
        refine wp_region_held_drew (S:=fun w'=>w'.cell? ⟨w.heap.size,1,none⟩=some (.slice (some ⟨e1,xw,none⟩) xI s1)∧w'.cell? ⟨w.heap.size+1,1,none⟩=some (.slice (some ⟨e2,xx,none⟩) xI s2)∧w'.cell? ⟨e1,xw+k*6,none⟩=some (.string yC)∧w'.cell? ⟨e1,xw+k*6+1,none⟩=some (.bool Ag)∧w'.cell? ⟨e1,xw+k*6+2,none⟩=some (.int .i64 Ah)∧w'.cell? ⟨e1,xw+k*6+3,none⟩=some (.slice Ai Am Aj)∧w'.cell? ⟨e1,xw+k*6+4,none⟩=some (.bool zq)∧w'.cell? ⟨e1,xw+k*6+5,none⟩=some (.slice Ak An Al)∧w'.cell? ⟨e2,xx+k*6,none⟩=some (.string yD)∧w'.cell? ⟨e2,xx+k*6+1,none⟩=some (.bool Ao)∧w'.cell? ⟨e2,xx+k*6+2,none⟩=some (.int .i64 Ap)∧w'.cell? ⟨e2,xx+k*6+3,none⟩=some (.slice Aq Av Ar)∧w'.cell? ⟨e2,xx+k*6+4,none⟩=some (.bool zv)∧w'.cell? ⟨e2,xx+k*6+5,none⟩=some (.slice As Aw Au)) (by kernel_rfl) ⟨bs.at 0 1,bs.at 1 1,yq.out _ q,yt.out _ q,yu.out _ q,zJ.out _ q,zO.out _ q,zP.out _ q,yv.out _ q,yw.out _ q,yx.out _ q,zQ.out _ q,zT.out _ q,zU.out _ q⟩ (fun hH=>?_);generalize wr.drew=w21 at bs q y21 hH ⊢;refine rS [(0,some 73),(1,some 74),(2,some 75),(3,some 76),(4,some 77),(5,some 78),(6,some 79),(7,some 80),(8,some 81),(9,some 82)] ?_
        iterate 10 refine aS ?_
        refine rE ?_
        refine aC (i:=10) fun K hK=>?_
        go_simp;refine(CX.out w21 q).mono ?_;rintro e AS ⟨rfl,hb⟩;replace bs:=bs.ret hb;replace q:=bs.q;clear hb;go_simp;clear hH;refine hK.out _ _ ⟨bs.at 0 1,bs.at 1 1,yq.out _ q,yt.out _ q,yu.out _ q,zJ.out _ q,zO.out _ q,zP.out _ q,yv.out _ q,yw.out _ q,yx.out _ q,zQ.out _ q,zT.out _ q,zU.out _ q⟩ (fun hH=>?_);clear hK K;refine rS [(11,some 84)] ?_;refine aS ?_;refine rE ?_;refine aD ?_;clear hH
        cases E with
        | false=>
         have HB:=h_ (zG.out (of_decide_eq_false yV.out));go_wp2_with fail;go_ret;exact⟨by rw[HB.out];first | done | rfl,q⟩
        | true=>
         have HB:=h_ (z8.out (of_decide_eq_true yV.out));go_wp2_with fail;go_roundw
         case rel=>exact⟨k+1,by go_num,by omega,HB.out,bs⟩
         case measure=>simp[intOf];omega
       ·have wl : ¬ (k : Int) < (xI : Int) := by omega
        have AW:=h_ (sn (by rw[zk.out];omega) (by rw[zm.out];omega) hT);clear hT hk;have HB:=h_ (HE.out AT.out AW.out (by first | rfl | trivial));have xt:=bs.b3 0;have xu:=bs.b3 1;go_wp2_with fail;go_ret;exact⟨by rw[HB.out];first | done | rfl,q⟩
end Go.Proofs.YtjgeiieiinmdnaaGreatDoor
