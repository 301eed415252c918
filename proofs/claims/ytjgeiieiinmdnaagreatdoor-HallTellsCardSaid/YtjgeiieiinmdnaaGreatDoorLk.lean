/- HsE, HtB, HaR: put together by mergetpl.py. -/
import Derived.Test.YtjgeiieiinmdnaaGreatDoorLb
import Derived.Test.YtjgeiieiinmdnaaGreatDoorKm
import Derived.Test.YtjgeiieiinmdnaaGreatDoorKy
import Derived.Test.YtjgeiieiinmdnaaGreatDoorLd
import Derived.Test.YtjgeiieiinmdnaaGreatDoorVq
open Go.Proofs.Tryz
open Bool renaming eq_iff_iff→wC,and_eq_true→wD
open Go.Value.slice renaming injEq→wu
open List renaming getElem_map→wq,length_map→ws,getElem?_eq_getElem→wt,getElem_mem→wv,take_of_length_le→wy,length→wA,take_succ_eq_append_getElem→wE
open Nat renaming le_trans→ww,zero_le→wz,le_refl→wB
namespace Go.Proofs.YtjgeiieiinmdnaaGreatDoor
set_option maxHeartbeats 4000000
set_option maxRecDepth 100000
open Go.RowKit Go.Lib

instance atDec:DecidableEq At:=by refine @instDecidableEqProd _ _ ?_ (@instDecidableEqProd _ _ ?_ ?_) <;> infer_instance
instance ndDec:DecidableEq Nd:=by refine @instDecidableEqProd _ _ ?_ (@instDecidableEqProd _ _ ?_ (@instDecidableEqProd _ _ ?_ (@instDecidableEqProd _ _ ?_ (@instDecidableEqProd _ _ ?_ ?_)))) <;> infer_instance
instance reDec:DecidableEq Re:=by refine @instDecidableEqProd _ _ ?_ (@instDecidableEqProd _ _ ?_ (@instDecidableEqProd _ _ ?_ (@instDecidableEqProd _ _ ?_ (@instDecidableEqProd _ _ ?_ ?_)))) <;> infer_instance
instance acDec:DecidableEq Ac:=by refine @instDecidableEqProd _ _ ?_ (@instDecidableEqProd _ _ ?_ ?_) <;> infer_instance
def EqL {α δ:Type} [DecidableEq δ] (val:α→Value) (d:α→δ) (f:Value) (M K:List α) (w:World):Prop:=∃g lb,f=.func (.func g) #[] lb∧(∀args w,(callFunc g args).run prog w=.ok (.enter g args) w)∧∀x∈M,∀y∈K,∀W,Bl w W→Calls prog g (#[val x,val y]++lb) W (Ret W (.bool (decide (d x=d y))))
theorem cg {α:Type} {A B:List α} {k:Nat} (hA:k<A.length) (hB:k<B.length) (h:A.take k=B.take k) (he:A[k]=B[k]):A.take (k+1)=B.take (k+1):=by
 rw[wE hA,wE hB,h,he]
theorem ek {α:Type} {A B:List α} {k:Nat} (hA:k<A.length) (hB:k<B.length) (he:A[k]≠B[k]):A≠B:=fun h=>by
 subst h;exact he rfl
theorem lj (v u f:Value) (M K:List AcI) (w:World) (hv:IsL acY v M w) (hu:IsL acY u K w) (hM:M.length≤100000) (hK:K.length≤100000) (hf:EqL (fun x:AcI=>x.v) AcI.d f M K w):
  Calls prog 89 #[v,u,f] w (Ret w (.bool (decide (M.map AcI.d=K.map AcI.d)))):=by
 obtain⟨a,ca,hf1,-⟩:=hv.form;obtain⟨b,cb,hf2,-⟩:=hu.form;obtain⟨g,lb,rfl,eg,hg⟩:=hf;obtain⟨O,hO⟩:=e_ (decide (M.map AcI.d=K.map AcI.d));obtain⟨L,hL⟩:=e_ M.length;obtain⟨L',hL'⟩:=e_ K.length;rw[hL] at hf1 hM;rw[hL'] at hf2 hK;rw[hO];subst hf1 hf2
 by_cases hlen:L=L'
 ·subst hlen
  have HO:=h_ hO;have HL:=h_ hL;have HL':=h_ hL';have HV:=h_ hv;have HU:=h_ hu;have HG:=h_ hg;clear hO hL hL' hv hu hg;go_enter func89,ntmps89;go_wp2_with fail;go_loopw [17] (fun i wx=>∃k:Nat,k≤L∧i=.int .i64 k∧(M.map AcI.d).take k=(K.map AcI.d).take k∧Bl w wx) (fun i _=>L-(intOf i).toNat)
  case atStart=>exact⟨0,wz _,rfl,rfl,bQ _⟩
  case round=>
   obtain⟨k,hk,rfl,htk,hbw⟩:=hrel;have hsz:=hbw.size
   by_cases hlt:k<L
   ·have hkM : k < M.length := by rw [HL.out]; exact hlt
    have hkK:k<K.length:=(by rw[HL'.out];exact hlt);obtain⟨x,hx⟩:=e_ (M[k]);obtain⟨y,hy⟩:=e_ (K[k]);obtain⟨B,off,cp,hf,-,hc⟩:=(HV.out.ret hbw).cells (k:=k) (x:=x) (by rw[wt hkM,hx]);rw[HL.out] at hf;simp only[wu,true_and] at hf;obtain⟨rfl,rfl⟩:=hf;obtain⟨B',off',cp',hf,-,he⟩:=(HU.out.ret hbw).cells (k:=k) (x:=y) (by rw[wt hkK,hy]);rw[HL'.out] at hf;simp only[wu,true_and] at hf;obtain⟨rfl,rfl⟩:=hf;have hkm:k<(M.map AcI.d).length:=(by simpa using hkM);have hkk:k<(K.map AcI.d).length:=(by simpa using hkK)
    have hst:AcI.d x=AcI.d y→(M.map AcI.d).take (k+1)=(K.map AcI.d).take (k+1):=fun h=>cg hkm hkk htk (by rw[wq,wq,hx,hy];exact h)
    have hno:AcI.d x≠AcI.d y→O=false:=fun h=>by
     rw[←HO.out];exact decide_eq_false (ek hkm hkk (by rw[wq,wq,hx,hy];exact h))
    have C:=fun (w':World) (hb:Bl w w')=>HG.out x (by rw[←hx];exact wv hkM) y (by rw[←hy];exact wv hkK) w' hb
    have c0:wr.cell? ⟨B,off+k*3,none⟩=some (.string ⟨x.j.toArray⟩):=hc wr (bQ _) 0 _ rfl
    have c1:wr.cell? ⟨B,off+k*3+1,none⟩=some (x.iv):=hc wr (bQ _) 1 _ rfl
    have c2:wr.cell? ⟨B,off+k*3+2,none⟩=some (.int .i64 x.ver):=hc wr (bQ _) 2 _ rfl
    have al:=(bR wr).alloc (wB _) (.cells #[.string ⟨x.j.toArray⟩,x.iv,.int .i64 x.ver] 33)
    have e0:(wr.alloc (.cells #[.string ⟨x.j.toArray⟩,x.iv,.int .i64 x.ver] 33)).cell? ⟨B',off'+k*3,none⟩=some (.string ⟨y.j.toArray⟩):=he _ al 0 _ rfl
    have e1:(wr.alloc (.cells #[.string ⟨x.j.toArray⟩,x.iv,.int .i64 x.ver] 33)).cell? ⟨B',off'+k*3+1,none⟩=some (y.iv):=he _ al 1 _ rfl
    have e2:(wr.alloc (.cells #[.string ⟨x.j.toArray⟩,x.iv,.int .i64 x.ver] 33)).cell? ⟨B',off'+k*3+2,none⟩=some (.int .i64 y.ver):=he _ al 2 _ rfl
    clear hc he hx hy hkm hkk htk hkM hkK
    by_cases hq:AcI.d x=AcI.d y
    ·rw[decide_eq_true hq] at C
     have HT:=h_ (hst hq);have C:=h_ C;clear hst hno hq;have al2:=al.alloc al.size (.cells #[.string ⟨y.j.toArray⟩,y.iv,.int .i64 y.ver] 33);have CC:=h_ (C.out _ (hbw.trans (al2.mono hsz)));go_wp2_with (go_at_fn g;refine CC.out.mono ?_;rintro e w2 ⟨rfl,hb⟩);have q2:=(hbw.trans (al2.mono hsz)).trans (hb.mono (ww hsz al2.size));clear hb al2 al;go_wp2_with fail;go_roundw
     case rel=>exact⟨k+1,by omega,by go_num,HT.out,q2⟩
     case measure=>simp[intOf];omega
    ·rw[decide_eq_false hq] at C
     have:=hno hq;subst this;have C:=h_ C;clear hst hno hq;have al2:=al.alloc al.size (.cells #[.string ⟨y.j.toArray⟩,y.iv,.int .i64 y.ver] 33);have CC:=h_ (C.out _ (hbw.trans (al2.mono hsz)));go_wp2_with (go_at_fn g;refine CC.out.mono ?_;rintro e w2 ⟨rfl,hb⟩);have q2:=(hbw.trans (al2.mono hsz)).trans (hb.mono (ww hsz al2.size));clear hb al2 al;go_wp2_with fail;go_ret;exact⟨rfl,q2⟩
   ·have e1:(M.map AcI.d).take k=M.map AcI.d:=wy (by rw[ws,HL.out];omega)
    have e2:(K.map AcI.d).take k=K.map AcI.d:=wy (by rw[ws,HL'.out];omega)
    rw[e1,e2] at htk;have:O=true:=(by rw[←HO.out];exact decide_eq_true htk);subst this;clear e1 e2 htk;go_wp2_with fail;go_ret;exact⟨rfl,hbw⟩
 ·have:O=false:=by
   rw[←hO]
   refine decide_eq_false fun h=>hlen ?_
   have:=congrArg wA h;rw[ws,ws,hL,hL'] at this;exact this
  subst this
  have wl:¬ (L:Int)=(L':Int):=by omega
  clear hO hL hL' hv hu hg;go_enter func89,ntmps89;go_wp2_with fail;go_ret;exact⟨rfl,bQ _⟩
theorem lh (v u f:Value) (M K:List RsI) (w:World) (hv:IsL rsY v M w) (hu:IsL rsY u K w) (hM:M.length≤100000) (hK:K.length≤100000) (hf:EqL (fun x:RsI=>x.v) RsI.d f M K w):
  Calls prog 90 #[v,u,f] w (Ret w (.bool (decide (M.map RsI.d=K.map RsI.d)))):=by
 obtain⟨a,ca,hf1,-⟩:=hv.form;obtain⟨b,cb,hf2,-⟩:=hu.form;obtain⟨g,lb,rfl,eg,hg⟩:=hf;obtain⟨O,hO⟩:=e_ (decide (M.map RsI.d=K.map RsI.d));obtain⟨L,hL⟩:=e_ M.length;obtain⟨L',hL'⟩:=e_ K.length;rw[hL] at hf1 hM;rw[hL'] at hf2 hK;rw[hO];subst hf1 hf2
 by_cases hlen:L=L'
 ·subst hlen
  have HO:=h_ hO;have HL:=h_ hL;have HL':=h_ hL';have HV:=h_ hv;have HU:=h_ hu;have HG:=h_ hg;clear hO hL hL' hv hu hg;go_enter func90,ntmps90;go_wp2_with fail;go_loopw [17] (fun i wx=>∃k:Nat,k≤L∧i=.int .i64 k∧(M.map RsI.d).take k=(K.map RsI.d).take k∧Bl w wx) (fun i _=>L-(intOf i).toNat)
  case atStart=>exact⟨0,wz _,rfl,rfl,bQ _⟩
  case round=>
   obtain⟨k,hk,rfl,htk,hbw⟩:=hrel;have hsz:=hbw.size
   by_cases hlt:k<L
   ·have hkM : k < M.length := by rw [HL.out]; exact hlt
    have hkK:k<K.length:=(by rw[HL'.out];exact hlt);obtain⟨x,hx⟩:=e_ (M[k]);obtain⟨y,hy⟩:=e_ (K[k]);obtain⟨B,off,cp,hf,-,hc⟩:=(HV.out.ret hbw).cells (k:=k) (x:=x) (by rw[wt hkM,hx]);rw[HL.out] at hf;simp only[wu,true_and] at hf;obtain⟨rfl,rfl⟩:=hf;obtain⟨B',off',cp',hf,-,he⟩:=(HU.out.ret hbw).cells (k:=k) (x:=y) (by rw[wt hkK,hy]);rw[HL'.out] at hf;simp only[wu,true_and] at hf;obtain⟨rfl,rfl⟩:=hf;have hkm:k<(M.map RsI.d).length:=(by simpa using hkM);have hkk:k<(K.map RsI.d).length:=(by simpa using hkK)
    have hst:RsI.d x=RsI.d y→(M.map RsI.d).take (k+1)=(K.map RsI.d).take (k+1):=fun h=>cg hkm hkk htk (by rw[wq,wq,hx,hy];exact h)
    have hno:RsI.d x≠RsI.d y→O=false:=fun h=>by
     rw[←HO.out];exact decide_eq_false (ek hkm hkk (by rw[wq,wq,hx,hy];exact h))
    have C:=fun (w':World) (hb:Bl w w')=>HG.out x (by rw[←hx];exact wv hkM) y (by rw[←hy];exact wv hkK) w' hb
    have c0:wr.cell? ⟨B,off+k*6,none⟩=some (.string ⟨x.j.toArray⟩):=hc wr (bQ _) 0 _ rfl
    have c1:wr.cell? ⟨B,off+k*6+1,none⟩=some (.bool x.on):=hc wr (bQ _) 1 _ rfl
    have c2:wr.cell? ⟨B,off+k*6+2,none⟩=some (.int .i64 x.pr):=hc wr (bQ _) 2 _ rfl
    have c3:wr.cell? ⟨B,off+k*6+3,none⟩=some (x.lv):=hc wr (bQ _) 3 _ rfl
    have c4:wr.cell? ⟨B,off+k*6+4,none⟩=some (.bool x.ask):=hc wr (bQ _) 4 _ rfl
    have c5:wr.cell? ⟨B,off+k*6+5,none⟩=some (x.sv):=hc wr (bQ _) 5 _ rfl
    have al:=(bR wr).alloc (wB _) (.cells #[.string ⟨x.j.toArray⟩,.bool x.on,.int .i64 x.pr,x.lv,.bool x.ask,x.sv] 38)
    have e0:(wr.alloc (.cells #[.string ⟨x.j.toArray⟩,.bool x.on,.int .i64 x.pr,x.lv,.bool x.ask,x.sv] 38)).cell? ⟨B',off'+k*6,none⟩=some (.string ⟨y.j.toArray⟩):=he _ al 0 _ rfl
    have e1:(wr.alloc (.cells #[.string ⟨x.j.toArray⟩,.bool x.on,.int .i64 x.pr,x.lv,.bool x.ask,x.sv] 38)).cell? ⟨B',off'+k*6+1,none⟩=some (.bool y.on):=he _ al 1 _ rfl
    have e2:(wr.alloc (.cells #[.string ⟨x.j.toArray⟩,.bool x.on,.int .i64 x.pr,x.lv,.bool x.ask,x.sv] 38)).cell? ⟨B',off'+k*6+2,none⟩=some (.int .i64 y.pr):=he _ al 2 _ rfl
    have e3:(wr.alloc (.cells #[.string ⟨x.j.toArray⟩,.bool x.on,.int .i64 x.pr,x.lv,.bool x.ask,x.sv] 38)).cell? ⟨B',off'+k*6+3,none⟩=some (y.lv):=he _ al 3 _ rfl
    have e4:(wr.alloc (.cells #[.string ⟨x.j.toArray⟩,.bool x.on,.int .i64 x.pr,x.lv,.bool x.ask,x.sv] 38)).cell? ⟨B',off'+k*6+4,none⟩=some (.bool y.ask):=he _ al 4 _ rfl
    have e5:(wr.alloc (.cells #[.string ⟨x.j.toArray⟩,.bool x.on,.int .i64 x.pr,x.lv,.bool x.ask,x.sv] 38)).cell? ⟨B',off'+k*6+5,none⟩=some (y.sv):=he _ al 5 _ rfl
    clear hc he hx hy hkm hkk htk hkM hkK
    by_cases hq:RsI.d x=RsI.d y
    ·rw[decide_eq_true hq] at C
     have HT:=h_ (hst hq);have C:=h_ C;clear hst hno hq;have al2:=al.alloc al.size (.cells #[.string ⟨y.j.toArray⟩,.bool y.on,.int .i64 y.pr,y.lv,.bool y.ask,y.sv] 38);have CC:=h_ (C.out _ (hbw.trans (al2.mono hsz)));go_wp2_with (go_at_fn g;refine CC.out.mono ?_;rintro e w2 ⟨rfl,hb⟩);have q2:=(hbw.trans (al2.mono hsz)).trans (hb.mono (ww hsz al2.size));clear hb al2 al;go_wp2_with fail;go_roundw
     case rel=>exact⟨k+1,by omega,by go_num,HT.out,q2⟩
     case measure=>simp[intOf];omega
    ·rw[decide_eq_false hq] at C
     have:=hno hq;subst this;have C:=h_ C;clear hst hno hq;have al2:=al.alloc al.size (.cells #[.string ⟨y.j.toArray⟩,.bool y.on,.int .i64 y.pr,y.lv,.bool y.ask,y.sv] 38);have CC:=h_ (C.out _ (hbw.trans (al2.mono hsz)));go_wp2_with (go_at_fn g;refine CC.out.mono ?_;rintro e w2 ⟨rfl,hb⟩);have q2:=(hbw.trans (al2.mono hsz)).trans (hb.mono (ww hsz al2.size));clear hb al2 al;go_wp2_with fail;go_ret;exact⟨rfl,q2⟩
   ·have e1:(M.map RsI.d).take k=M.map RsI.d:=wy (by rw[ws,HL.out];omega)
    have e2:(K.map RsI.d).take k=K.map RsI.d:=wy (by rw[ws,HL'.out];omega)
    rw[e1,e2] at htk;have:O=true:=(by rw[←HO.out];exact decide_eq_true htk);subst this;clear e1 e2 htk;go_wp2_with fail;go_ret;exact⟨rfl,hbw⟩
 ·have:O=false:=by
   rw[←hO]
   refine decide_eq_false fun h=>hlen ?_
   have:=congrArg wA h;rw[ws,ws,hL,hL'] at this;exact this
  subst this
  have wl:¬ (L:Int)=(L':Int):=by omega
  clear hO hL hL' hv hu hg;go_enter func90,ntmps90;go_wp2_with fail;go_ret;exact⟨rfl,bQ _⟩
theorem lr (v u f:Value) (M K:List NdI) (w:World) (hv:IsL ndY v M w) (hu:IsL ndY u K w) (hM:M.length≤100000) (hK:K.length≤100000) (hf:EqL (fun x:NdI=>ndG x) Prod.fst f M K w):
  Calls prog 184 #[v,u,f] w (Ret w (.bool (decide (M.map Prod.fst=K.map Prod.fst)))):=by
 obtain⟨a,ca,hf1,-⟩:=hv.form;obtain⟨b,cb,hf2,-⟩:=hu.form;obtain⟨g,lb,rfl,eg,hg⟩:=hf;obtain⟨O,hO⟩:=e_ (decide (M.map Prod.fst=K.map Prod.fst));obtain⟨L,hL⟩:=e_ M.length;obtain⟨L',hL'⟩:=e_ K.length;rw[hL] at hf1 hM;rw[hL'] at hf2 hK;rw[hO];subst hf1 hf2
 by_cases hlen:L=L'
 ·subst hlen
  have HO:=h_ hO;have HL:=h_ hL;have HL':=h_ hL';have HV:=h_ hv;have HU:=h_ hu;have HG:=h_ hg;clear hO hL hL' hv hu hg;go_enter func184,ntmps184;go_wp2_with fail;go_loopw [17] (fun i wx=>∃k:Nat,k≤L∧i=.int .i64 k∧(M.map Prod.fst).take k=(K.map Prod.fst).take k∧Bl w wx) (fun i _=>L-(intOf i).toNat)
  case atStart=>exact⟨0,wz _,rfl,rfl,bQ _⟩
  case round=>
   obtain⟨k,hk,rfl,htk,hbw⟩:=hrel;have hsz:=hbw.size
   by_cases hlt:k<L
   ·have hkM : k < M.length := by rw [HL.out]; exact hlt
    have hkK:k<K.length:=(by rw[HL'.out];exact hlt);obtain⟨x,hx⟩:=e_ (M[k]);obtain⟨y,hy⟩:=e_ (K[k]);obtain⟨B,off,cp,hf,-,hc⟩:=(HV.out.ret hbw).cells (k:=k) (x:=x) (by rw[wt hkM,hx]);rw[HL.out] at hf;simp only[wu,true_and] at hf;obtain⟨rfl,rfl⟩:=hf;obtain⟨B',off',cp',hf,-,he⟩:=(HU.out.ret hbw).cells (k:=k) (x:=y) (by rw[wt hkK,hy]);rw[HL'.out] at hf;simp only[wu,true_and] at hf;obtain⟨rfl,rfl⟩:=hf;have hkm:k<(M.map Prod.fst).length:=(by simpa using hkM);have hkk:k<(K.map Prod.fst).length:=(by simpa using hkK)
    have hst:Prod.fst x=Prod.fst y→(M.map Prod.fst).take (k+1)=(K.map Prod.fst).take (k+1):=fun h=>cg hkm hkk htk (by rw[wq,wq,hx,hy];exact h)
    have hno:Prod.fst x≠Prod.fst y→O=false:=fun h=>by
     rw[←HO.out];exact decide_eq_false (ek hkm hkk (by rw[wq,wq,hx,hy];exact h))
    have C:=fun (w':World) (hb:Bl w w')=>HG.out x (by rw[←hx];exact wv hkM) y (by rw[←hy];exact wv hkK) w' hb
    have c0:wr.cell? ⟨B,off+k*6,none⟩=some (.int .u8 x.1.1):=hc wr (bQ _) 0 _ rfl
    have c1:wr.cell? ⟨B,off+k*6+1,none⟩=some (.string ⟨x.1.2.1.toArray⟩):=hc wr (bQ _) 1 _ rfl
    have c2:wr.cell? ⟨B,off+k*6+2,none⟩=some (.string ⟨x.1.2.2.1.toArray⟩):=hc wr (bQ _) 2 _ rfl
    have c3:wr.cell? ⟨B,off+k*6+3,none⟩=some (ndV x):=hc wr (bQ _) 3 _ rfl
    have c4:wr.cell? ⟨B,off+k*6+4,none⟩=some (.string ⟨x.1.2.2.2.2.1.toArray⟩):=hc wr (bQ _) 4 _ rfl
    have c5:wr.cell? ⟨B,off+k*6+5,none⟩=some (.int .i64 x.1.2.2.2.2.2):=hc wr (bQ _) 5 _ rfl
    have al:=(bR wr).alloc (wB _) (.cells #[.int .u8 x.1.1,.string ⟨x.1.2.1.toArray⟩,.string ⟨x.1.2.2.1.toArray⟩,ndV x,.string ⟨x.1.2.2.2.2.1.toArray⟩,.int .i64 x.1.2.2.2.2.2] 114)
    have e0:(wr.alloc (.cells #[.int .u8 x.1.1,.string ⟨x.1.2.1.toArray⟩,.string ⟨x.1.2.2.1.toArray⟩,ndV x,.string ⟨x.1.2.2.2.2.1.toArray⟩,.int .i64 x.1.2.2.2.2.2] 114)).cell? ⟨B',off'+k*6,none⟩=some (.int .u8 y.1.1):=he _ al 0 _ rfl
    have e1:(wr.alloc (.cells #[.int .u8 x.1.1,.string ⟨x.1.2.1.toArray⟩,.string ⟨x.1.2.2.1.toArray⟩,ndV x,.string ⟨x.1.2.2.2.2.1.toArray⟩,.int .i64 x.1.2.2.2.2.2] 114)).cell? ⟨B',off'+k*6+1,none⟩=some (.string ⟨y.1.2.1.toArray⟩):=he _ al 1 _ rfl
    have e2:(wr.alloc (.cells #[.int .u8 x.1.1,.string ⟨x.1.2.1.toArray⟩,.string ⟨x.1.2.2.1.toArray⟩,ndV x,.string ⟨x.1.2.2.2.2.1.toArray⟩,.int .i64 x.1.2.2.2.2.2] 114)).cell? ⟨B',off'+k*6+2,none⟩=some (.string ⟨y.1.2.2.1.toArray⟩):=he _ al 2 _ rfl
    have e3:(wr.alloc (.cells #[.int .u8 x.1.1,.string ⟨x.1.2.1.toArray⟩,.string ⟨x.1.2.2.1.toArray⟩,ndV x,.string ⟨x.1.2.2.2.2.1.toArray⟩,.int .i64 x.1.2.2.2.2.2] 114)).cell? ⟨B',off'+k*6+3,none⟩=some (ndV y):=he _ al 3 _ rfl
    have e4:(wr.alloc (.cells #[.int .u8 x.1.1,.string ⟨x.1.2.1.toArray⟩,.string ⟨x.1.2.2.1.toArray⟩,ndV x,.string ⟨x.1.2.2.2.2.1.toArray⟩,.int .i64 x.1.2.2.2.2.2] 114)).cell? ⟨B',off'+k*6+4,none⟩=some (.string ⟨y.1.2.2.2.2.1.toArray⟩):=he _ al 4 _ rfl
    have e5:(wr.alloc (.cells #[.int .u8 x.1.1,.string ⟨x.1.2.1.toArray⟩,.string ⟨x.1.2.2.1.toArray⟩,ndV x,.string ⟨x.1.2.2.2.2.1.toArray⟩,.int .i64 x.1.2.2.2.2.2] 114)).cell? ⟨B',off'+k*6+5,none⟩=some (.int .i64 y.1.2.2.2.2.2):=he _ al 5 _ rfl
    clear hc he hx hy hkm hkk htk hkM hkK
    by_cases hq:Prod.fst x=Prod.fst y
    ·rw[decide_eq_true hq] at C
     have HT:=h_ (hst hq);have C:=h_ C;clear hst hno hq;have al2:=al.alloc al.size (.cells #[.int .u8 y.1.1,.string ⟨y.1.2.1.toArray⟩,.string ⟨y.1.2.2.1.toArray⟩,ndV y,.string ⟨y.1.2.2.2.2.1.toArray⟩,.int .i64 y.1.2.2.2.2.2] 114);have CC:=h_ (C.out _ (hbw.trans (al2.mono hsz)));go_wp2_with (go_at_fn g;refine CC.out.mono ?_;rintro e w2 ⟨rfl,hb⟩);have q2:=(hbw.trans (al2.mono hsz)).trans (hb.mono (ww hsz al2.size));clear hb al2 al;go_wp2_with fail;go_roundw
     case rel=>exact⟨k+1,by omega,by go_num,HT.out,q2⟩
     case measure=>simp[intOf];omega
    ·rw[decide_eq_false hq] at C
     have:=hno hq;subst this;have C:=h_ C;clear hst hno hq;have al2:=al.alloc al.size (.cells #[.int .u8 y.1.1,.string ⟨y.1.2.1.toArray⟩,.string ⟨y.1.2.2.1.toArray⟩,ndV y,.string ⟨y.1.2.2.2.2.1.toArray⟩,.int .i64 y.1.2.2.2.2.2] 114);have CC:=h_ (C.out _ (hbw.trans (al2.mono hsz)));go_wp2_with (go_at_fn g;refine CC.out.mono ?_;rintro e w2 ⟨rfl,hb⟩);have q2:=(hbw.trans (al2.mono hsz)).trans (hb.mono (ww hsz al2.size));clear hb al2 al;go_wp2_with fail;go_ret;exact⟨rfl,q2⟩
   ·have e1:(M.map Prod.fst).take k=M.map Prod.fst:=wy (by rw[ws,HL.out];omega)
    have e2:(K.map Prod.fst).take k=K.map Prod.fst:=wy (by rw[ws,HL'.out];omega)
    rw[e1,e2] at htk;have:O=true:=(by rw[←HO.out];exact decide_eq_true htk);subst this;clear e1 e2 htk;go_wp2_with fail;go_ret;exact⟨rfl,hbw⟩
 ·have:O=false:=by
   rw[←hO]
   refine decide_eq_false fun h=>hlen ?_
   have:=congrArg wA h;rw[ws,ws,hL,hL'] at this;exact this
  subst this
  have wl:¬ (L:Int)=(L':Int):=by omega
  clear hO hL hL' hv hu hg;go_enter func184,ntmps184;go_wp2_with fail;go_ret;exact⟨rfl,bQ _⟩
theorem kV (v u f:Value) (M K:List At) (w:World) (hv:IsL atY v M w) (hu:IsL atY u K w) (hM:M.length≤100000) (hK:K.length≤100000) (hf:EqL (fun x:At=>atG x) id f M K w):
  Calls prog 185 #[v,u,f] w (Ret w (.bool (decide (M.map id=K.map id)))):=by
 obtain⟨a,ca,hf1,-⟩:=hv.form;obtain⟨b,cb,hf2,-⟩:=hu.form;obtain⟨g,lb,rfl,eg,hg⟩:=hf;obtain⟨O,hO⟩:=e_ (decide (M.map id=K.map id));obtain⟨L,hL⟩:=e_ M.length;obtain⟨L',hL'⟩:=e_ K.length;rw[hL] at hf1 hM;rw[hL'] at hf2 hK;rw[hO];subst hf1 hf2
 by_cases hlen:L=L'
 ·subst hlen
  have HO:=h_ hO;have HL:=h_ hL;have HL':=h_ hL';have HV:=h_ hv;have HU:=h_ hu;have HG:=h_ hg;clear hO hL hL' hv hu hg;go_enter func185,ntmps185;go_wp2_with fail;go_loopw [17] (fun i wx=>∃k:Nat,k≤L∧i=.int .i64 k∧(M.map id).take k=(K.map id).take k∧Bl w wx) (fun i _=>L-(intOf i).toNat)
  case atStart=>exact⟨0,wz _,rfl,rfl,bQ _⟩
  case round=>
   obtain⟨k,hk,rfl,htk,hbw⟩:=hrel;have hsz:=hbw.size
   by_cases hlt:k<L
   ·have hkM : k < M.length := by rw [HL.out]; exact hlt
    have hkK:k<K.length:=(by rw[HL'.out];exact hlt);obtain⟨x,hx⟩:=e_ (M[k]);obtain⟨y,hy⟩:=e_ (K[k]);obtain⟨B,off,cp,hf,-,hc⟩:=(HV.out.ret hbw).cells (k:=k) (x:=x) (by rw[wt hkM,hx]);rw[HL.out] at hf;simp only[wu,true_and] at hf;obtain⟨rfl,rfl⟩:=hf;obtain⟨B',off',cp',hf,-,he⟩:=(HU.out.ret hbw).cells (k:=k) (x:=y) (by rw[wt hkK,hy]);rw[HL'.out] at hf;simp only[wu,true_and] at hf;obtain⟨rfl,rfl⟩:=hf;have hkm:k<(M.map id).length:=(by simpa using hkM);have hkk:k<(K.map id).length:=(by simpa using hkK)
    have hst:id x=id y→(M.map id).take (k+1)=(K.map id).take (k+1):=fun h=>cg hkm hkk htk (by rw[wq,wq,hx,hy];exact h)
    have hno:id x≠id y→O=false:=fun h=>by
     rw[←HO.out];exact decide_eq_false (ek hkm hkk (by rw[wq,wq,hx,hy];exact h))
    have C:=fun (w':World) (hb:Bl w w')=>HG.out x (by rw[←hx];exact wv hkM) y (by rw[←hy];exact wv hkK) w' hb
    have c0:wr.cell? ⟨B,off+k*3,none⟩=some (.string ⟨x.1.toArray⟩):=hc wr (bQ _) 0 _ rfl
    have c1:wr.cell? ⟨B,off+k*3+1,none⟩=some (.string ⟨x.2.1.toArray⟩):=hc wr (bQ _) 1 _ rfl
    have c2:wr.cell? ⟨B,off+k*3+2,none⟩=some (.string ⟨x.2.2.toArray⟩):=hc wr (bQ _) 2 _ rfl
    have al:=(bR wr).alloc (wB _) (.cells #[.string ⟨x.1.toArray⟩,.string ⟨x.2.1.toArray⟩,.string ⟨x.2.2.toArray⟩] 160)
    have e0:(wr.alloc (.cells #[.string ⟨x.1.toArray⟩,.string ⟨x.2.1.toArray⟩,.string ⟨x.2.2.toArray⟩] 160)).cell? ⟨B',off'+k*3,none⟩=some (.string ⟨y.1.toArray⟩):=he _ al 0 _ rfl
    have e1:(wr.alloc (.cells #[.string ⟨x.1.toArray⟩,.string ⟨x.2.1.toArray⟩,.string ⟨x.2.2.toArray⟩] 160)).cell? ⟨B',off'+k*3+1,none⟩=some (.string ⟨y.2.1.toArray⟩):=he _ al 1 _ rfl
    have e2:(wr.alloc (.cells #[.string ⟨x.1.toArray⟩,.string ⟨x.2.1.toArray⟩,.string ⟨x.2.2.toArray⟩] 160)).cell? ⟨B',off'+k*3+2,none⟩=some (.string ⟨y.2.2.toArray⟩):=he _ al 2 _ rfl
    clear hc he hx hy hkm hkk htk hkM hkK
    by_cases hq:id x=id y
    ·rw[decide_eq_true hq] at C
     have HT:=h_ (hst hq);have C:=h_ C;clear hst hno hq;have al2:=al.alloc al.size (.cells #[.string ⟨y.1.toArray⟩,.string ⟨y.2.1.toArray⟩,.string ⟨y.2.2.toArray⟩] 160);have CC:=h_ (C.out _ (hbw.trans (al2.mono hsz)));go_wp2_with (go_at_fn g;refine CC.out.mono ?_;rintro e w2 ⟨rfl,hb⟩);have q2:=(hbw.trans (al2.mono hsz)).trans (hb.mono (ww hsz al2.size));clear hb al2 al;go_wp2_with fail;go_roundw
     case rel=>exact⟨k+1,by omega,by go_num,HT.out,q2⟩
     case measure=>simp[intOf];omega
    ·rw[decide_eq_false hq] at C
     have:=hno hq;subst this;have C:=h_ C;clear hst hno hq;have al2:=al.alloc al.size (.cells #[.string ⟨y.1.toArray⟩,.string ⟨y.2.1.toArray⟩,.string ⟨y.2.2.toArray⟩] 160);have CC:=h_ (C.out _ (hbw.trans (al2.mono hsz)));go_wp2_with (go_at_fn g;refine CC.out.mono ?_;rintro e w2 ⟨rfl,hb⟩);have q2:=(hbw.trans (al2.mono hsz)).trans (hb.mono (ww hsz al2.size));clear hb al2 al;go_wp2_with fail;go_ret;exact⟨rfl,q2⟩
   ·have e1:(M.map id).take k=M.map id:=wy (by rw[ws,HL.out];omega)
    have e2:(K.map id).take k=K.map id:=wy (by rw[ws,HL'.out];omega)
    rw[e1,e2] at htk;have:O=true:=(by rw[←HO.out];exact decide_eq_true htk);subst this;clear e1 e2 htk;go_wp2_with fail;go_ret;exact⟨rfl,hbw⟩
 ·have:O=false:=by
   rw[←hO]
   refine decide_eq_false fun h=>hlen ?_
   have:=congrArg wA h;rw[ws,ws,hL,hL'] at this;exact this
  subst this
  have wl:¬ (L:Int)=(L':Int):=by omega
  clear hO hL hL' hv hu hg;go_enter func185,ntmps185;go_wp2_with fail;go_ret;exact⟨rfl,bQ _⟩
theorem kn (v u f:Value) (M K:List TrI) (w:World) (hv:IsL trY v M w) (hu:IsL trY u K w) (hM:M.length≤100000) (hK:K.length≤100000) (hf:EqL (fun x:TrI=>trV x) trD f M K w):
  Calls prog 87 #[v,u,f] w (Ret w (.bool (decide (M.map trD=K.map trD)))):=by
 obtain⟨a,ca,hf1,-⟩:=hv.form;obtain⟨b,cb,hf2,-⟩:=hu.form;obtain⟨g,lb,rfl,eg,hg⟩:=hf;obtain⟨O,hO⟩:=e_ (decide (M.map trD=K.map trD));obtain⟨L,hL⟩:=e_ M.length;obtain⟨L',hL'⟩:=e_ K.length;rw[hL] at hf1 hM;rw[hL'] at hf2 hK;rw[hO];subst hf1 hf2
 by_cases hlen:L=L'
 ·subst hlen
  have HO:=h_ hO;have HL:=h_ hL;have HL':=h_ hL';have HV:=h_ hv;have HU:=h_ hu;have HG:=h_ hg;clear hO hL hL' hv hu hg;go_enter func87,ntmps87;go_wp2_with fail;go_loopw [17] (fun i wx=>∃k:Nat,k≤L∧i=.int .i64 k∧(M.map trD).take k=(K.map trD).take k∧Bl w wx) (fun i _=>L-(intOf i).toNat)
  case atStart=>exact⟨0,wz _,rfl,rfl,bQ _⟩
  case round=>
   obtain⟨k,hk,rfl,htk,hbw⟩:=hrel;have hsz:=hbw.size
   by_cases hlt:k<L
   ·have hkM : k < M.length := by rw [HL.out]; exact hlt
    have hkK:k<K.length:=(by rw[HL'.out];exact hlt);obtain⟨x,hx⟩:=e_ (M[k]);obtain⟨y,hy⟩:=e_ (K[k]);obtain⟨B,off,cp,hf,-,hc⟩:=(HV.out.ret hbw).cells (k:=k) (x:=x) (by rw[wt hkM,hx]);rw[HL.out] at hf;simp only[wu,true_and] at hf;obtain⟨rfl,rfl⟩:=hf;obtain⟨B',off',cp',hf,-,he⟩:=(HU.out.ret hbw).cells (k:=k) (x:=y) (by rw[wt hkK,hy]);rw[HL'.out] at hf;simp only[wu,true_and] at hf;obtain⟨rfl,rfl⟩:=hf;have hkm:k<(M.map trD).length:=(by simpa using hkM);have hkk:k<(K.map trD).length:=(by simpa using hkK)
    have hst:trD x=trD y→(M.map trD).take (k+1)=(K.map trD).take (k+1):=fun h=>cg hkm hkk htk (by rw[wq,wq,hx,hy];exact h)
    have hno:trD x≠trD y→O=false:=fun h=>by
     rw[←HO.out];exact decide_eq_false (ek hkm hkk (by rw[wq,wq,hx,hy];exact h))
    have C:=fun (w':World) (hb:Bl w w')=>HG.out x (by rw[←hx];exact wv hkM) y (by rw[←hy];exact wv hkK) w' hb
    have c0:wr.cell? ⟨B,off+k,none⟩=some (trV x):=by
     have h:=hc wr (bQ _) 0 _ rfl
     rwa [show off+k*trY.n+0=off+k from (by show off+k*1+0=off+k;omega)] at h
    have e0:wr.cell? ⟨B',off'+k,none⟩=some (trV y):=by
     have h:=he wr (bQ _) 0 _ rfl
     rwa [show off'+k*trY.n+0=off'+k from (by show off'+k*1+0=off'+k;omega)] at h
    clear hc he hx hy hkm hkk htk hkM hkK
    by_cases hq:trD x=trD y
    ·rw[decide_eq_true hq] at C
     have HT:=h_ (hst hq);have C:=h_ C;clear hst hno hq;have al2:=bR wr;have CC:=h_ (C.out _ (hbw.trans (al2.mono hsz)));go_wp2_with (go_at_fn g;refine CC.out.mono ?_;rintro e w2 ⟨rfl,hb⟩);have q2:=(hbw.trans (al2.mono hsz)).trans (hb.mono (ww hsz al2.size));clear hb al2;go_wp2_with fail;go_roundw
     case rel=>exact⟨k+1,by omega,by go_num,HT.out,q2⟩
     case measure=>simp[intOf];omega
    ·rw[decide_eq_false hq] at C
     have:=hno hq;subst this;have C:=h_ C;clear hst hno hq;have al2:=bR wr;have CC:=h_ (C.out _ (hbw.trans (al2.mono hsz)));go_wp2_with (go_at_fn g;refine CC.out.mono ?_;rintro e w2 ⟨rfl,hb⟩);have q2:=(hbw.trans (al2.mono hsz)).trans (hb.mono (ww hsz al2.size));clear hb al2;go_wp2_with fail;go_ret;exact⟨rfl,q2⟩
   ·have e1:(M.map trD).take k=M.map trD:=wy (by rw[ws,HL.out];omega)
    have e2:(K.map trD).take k=K.map trD:=wy (by rw[ws,HL'.out];omega)
    rw[e1,e2] at htk;have:O=true:=(by rw[←HO.out];exact decide_eq_true htk);subst this;clear e1 e2 htk;go_wp2_with fail;go_ret;exact⟨rfl,hbw⟩
 ·have:O=false:=by
   rw[←hO]
   refine decide_eq_false fun h=>hlen ?_
   have:=congrArg wA h;rw[ws,ws,hL,hL'] at this;exact this
  subst this
  have wl:¬ (L:Int)=(L':Int):=by omega
  clear hO hL hL' hv hu hg;go_enter func87,ntmps87;go_wp2_with fail;go_ret;exact⟨rfl,bQ _⟩

theorem vz (a b:At) (w:World):(Op.equalIn 10000 160 (atG a) (atG b)).run prog w=.ok (decide (a=b)) w:=by
 have u3:=underlying9
 have hS:prog.underlying 160=some (.struct (prog.fieldsOf 160)):=by kernel_rfl
 have hp:prog.stoodInHeld 160=false:=by kernel_rfl
 obtain⟨a1,a2,a3⟩:=a;obtain⟨b1,b2,b3⟩:=b;rw[show (10000:Nat)=9999+1 from rfl,run_equalIn_agg w 9999 160 _ _ hS hp];simp only[Program.fieldsOf,underlying160];go_simp;clear u3 hS hp
 by_cases h1:a1=b1 <;> by_cases h2:a2=b2 <;> by_cases h3:a3=b3 <;> simp[*]
theorem vI:prog.eqGuardType prog.depth 160=false:=by kernel_rfl
theorem uk (a b:At) (w:World):(binOp .eql 160 (atG a) (atG b)).run prog w=.ok (.bool (decide (a=b))) w:=by
 rw[run_eql_struct,vz]
 rfl
theorem pM (x y:At) (w:World):Calls prog 143 #[atG x,atG y] w (Ret w (.bool (decide (x=y)))):=by
 have EQ:=uk x y;have EG:=vI;obtain⟨O,hO⟩:=e_ (decide (x=y));rw[hO] at EQ ⊢;clear hO;obtain⟨W0,hW,y0,bs⟩:=Sx.start2 w [.string ⟨x.1.toArray⟩,.string ⟨x.2.1.toArray⟩,.string ⟨x.2.2.toArray⟩] 160 [.string ⟨y.1.toArray⟩,.string ⟨y.2.1.toArray⟩,.string ⟨y.2.2.toArray⟩] 160;have HW:=h_ hW;clear hW;have q:=bs.q;go_enter func143,ntmps143;go_wp2_with fail;rw[HW.out];go_ret;exact⟨rfl,q⟩
theorem qq:∀args w,(callFunc 143 args).run prog w=.ok (.enter 143 args) w:=enters_of func143 (by kernel_rfl) rfl
theorem mt (v u f:Value) (M K:List At) (w:World) (hv:IsL atY v M w) (hu:IsL atY u K w) (hM:M.length≤100000) (hK:K.length≤100000) (hf:EqL (fun x:At=>atG x) id f M K w):
  Calls prog 146 #[v,u,f] w (Ret w (.bool (decide (M.map id=K.map id)))):=by
 have C:=h_ (kV v u f M K w hv hu hM hK hf);obtain⟨O,hO⟩:=e_ (decide (M.map id=K.map id));rw[hO] at C ⊢;obtain⟨g,lb,rfl,-,-⟩:=hf;obtain⟨a,ca,rfl,-⟩:=hv.form;obtain⟨b,cb,rfl,-⟩:=hu.form;clear hO hv hu hM hK;go_enter func146,ntmps146;go_wp2_with fail;refine C.out.mono ?_;rintro e w1 ⟨rfl,hb⟩;go_wp2_with fail;go_ret;exact⟨rfl,hb⟩
theorem l9 (v u f:Value) (M K:List NdI) (w:World) (hv:IsL ndY v M w) (hu:IsL ndY u K w) (hM:M.length≤100000) (hK:K.length≤100000) (hf:EqL (fun x:NdI=>ndG x) Prod.fst f M K w):
  Calls prog 144 #[v,u,f] w (Ret w (.bool (decide (M.map Prod.fst=K.map Prod.fst)))):=by
 have C:=h_ (lr v u f M K w hv hu hM hK hf);obtain⟨O,hO⟩:=e_ (decide (M.map Prod.fst=K.map Prod.fst));rw[hO] at C ⊢;obtain⟨g,lb,rfl,-,-⟩:=hf;obtain⟨a,ca,rfl,-⟩:=hv.form;obtain⟨b,cb,rfl,-⟩:=hu.form;clear hO hv hu hM hK;go_enter func144,ntmps144;go_wp2_with fail;refine C.out.mono ?_;rintro e w1 ⟨rfl,hb⟩;go_wp2_with fail;go_ret;exact⟨rfl,hb⟩
theorem mC (k k' m m':Int) (s n t s' n' t':ByteArray) (a a':Option Addr) (L c L' c' Lf:Nat) (E1 E2 E3 E4 E5 G:Bool) (w:World) (h1:(k==k')=E1) (h2:(s.toList==s'.toList)=E2) (h3:(n.toList==n'.toList)=E3) (h4:(t.toList==t'.toList)=E4) (h5:(m==m')=E5)
  (hl:Lf<w.heap.size) (cs:w.cell? ⟨Lf,0,none⟩=some (.func (.func 143) #[] #[]))
  (CG:∀W:World,Bl w W→Calls prog 146 #[.slice a L c,.slice a' L' c',.func (.func 143) #[] #[]] W (Ret W (.bool G))):
  Calls prog 145 #[.agg #[.int .u8 k,.string s,.string n,.slice a L c,.string t,.int .i64 m],.agg #[.int .u8 k',.string s',.string n',.slice a' L' c',.string t',.int .i64 m'],.pointer (some ⟨Lf,0,none⟩)] w (Ret w (.bool (E1&&(E2&&(E3&&(E4&&(E5&&G))))))):=by
 have CG:=h_ CG
 cases E1 with
 | false=>
  obtain⟨W0,hW,y0,bs⟩:=Sx.start2 w [.int .u8 k,.string s,.string n,.slice a L c,.string t,.int .i64 m] 114 [.int .u8 k',.string s',.string n',.slice a' L' c',.string t',.int .i64 m'] 114;have HW:=h_ hW;clear hW;have q:=bs.q;go_enter func145,ntmps145;go_wp2_with fail;rw[HW.out];go_ret;exact⟨by first | rfl | simp,q⟩
 | true=>
  cases E2 with
  | false=>
   obtain⟨W0,hW,y0,bs⟩:=Sx.start2 w [.int .u8 k,.string s,.string n,.slice a L c,.string t,.int .i64 m] 114 [.int .u8 k',.string s',.string n',.slice a' L' c',.string t',.int .i64 m'] 114;have HW:=h_ hW;clear hW;have q:=bs.q;go_enter func145,ntmps145;go_wp2_with fail;rw[HW.out];go_ret;exact⟨by first | rfl | simp,q⟩
  | true=>
   cases E3 with
   | false=>
    obtain⟨W0,hW,y0,bs⟩:=Sx.start2 w [.int .u8 k,.string s,.string n,.slice a L c,.string t,.int .i64 m] 114 [.int .u8 k',.string s',.string n',.slice a' L' c',.string t',.int .i64 m'] 114;have HW:=h_ hW;clear hW;have q:=bs.q;go_enter func145,ntmps145;go_wp2_with fail;rw[HW.out];go_ret;exact⟨by first | rfl | simp,q⟩
   | true=>
    cases E4 with
    | false=>
     obtain⟨W0,hW,y0,bs⟩:=Sx.start2 w [.int .u8 k,.string s,.string n,.slice a L c,.string t,.int .i64 m] 114 [.int .u8 k',.string s',.string n',.slice a' L' c',.string t',.int .i64 m'] 114;have HW:=h_ hW;clear hW;have q:=bs.q;go_enter func145,ntmps145;go_wp2_with fail;rw[HW.out];go_ret;exact⟨by first | rfl | simp,q⟩
    | true=>
     cases E5 with
     | false=>
      obtain⟨W0,hW,y0,bs⟩:=Sx.start2 w [.int .u8 k,.string s,.string n,.slice a L c,.string t,.int .i64 m] 114 [.int .u8 k',.string s',.string n',.slice a' L' c',.string t',.int .i64 m'] 114;have HW:=h_ hW;clear hW;have q:=bs.q;go_enter func145,ntmps145;go_wp2_with fail;rw[HW.out];go_ret;exact⟨by first | rfl | simp,q⟩
     | true=>
      obtain⟨W0,hW,y0,bs⟩:=Sx.start2 w [.int .u8 k,.string s,.string n,.slice a L c,.string t,.int .i64 m] 114 [.int .u8 k',.string s',.string n',.slice a' L' c',.string t',.int .i64 m'] 114;have HW:=h_ hW;clear hW;have q:=bs.q;go_enter func145,ntmps145;go_wp2_with fail;rw[HW.out];refine(CG.out W0 q).mono ?_;rintro e w1 ⟨rfl,hb⟩;replace bs:=bs.ret hb;replace q:=bs.q;clear hb;go_wp2_with fail;go_ret;exact⟨by first | rfl | simp,q⟩
theorem vg (x y:Nd):decide (x=y)=((x.1==y.1)&&(decide (x.2.1=y.2.1)&&(decide (x.2.2.1=y.2.2.1)&&(decide (x.2.2.2.2.1=y.2.2.2.2.1)&&((x.2.2.2.2.2==y.2.2.2.2.2)&&decide (x.2.2.2.1=y.2.2.2.1)))))):=by
 obtain⟨k,s,n,l,t,m⟩:=x;obtain⟨k',s',n',l',t',m'⟩:=y;rw[wC];simp only[decide_eq_true_eq,wD,beq_iff_eq,Prod.mk.injEq]
 constructor
 ·rintro ⟨h1,h2,h3,h4,h5,h6⟩
  exact⟨h1,h2,h3,h5,h6,h4⟩
 ·rintro ⟨h1,h2,h3,h4,h5,h6⟩
  exact⟨h1,h2,h3,h6,h4,h5⟩
theorem rh:∀args w,(callFunc 145 args).run prog w=.ok (.enter 145 args) w:=enters_of func145 (by kernel_rfl) rfl
theorem rb (x y:NdI) (Lf:Nat) (w:World) (hx:ndY.sub x w) (hy:ndY.sub y w) (zx:(ndA x).length≤100000) (zy:(ndA y).length≤100000) (hl:Lf<w.heap.size) (cs:w.cell? ⟨Lf,0,none⟩=some (.func (.func 143) #[] #[])):
  Calls prog 145 #[ndG x,ndG y,.pointer (some ⟨Lf,0,none⟩)] w (Ret w (.bool (decide (x.1=y.1)))):=by
 have CG:=fun (W:World) (hb:Bl w W)=>mt (ndV x) (ndV y) (.func (.func 143) #[] #[]) (ndA x) (ndA y) W (IsL.ret hx hb) (IsL.ret hy hb) zx zy ⟨_,_,rfl,qq,fun a _ b _ V _=>pM a b V⟩
 simp only[List.map_id] at CG;rw[vg,←gR,←gR,←gR];exact mC _ _ _ _ _ _ _ _ _ _ _ _ _ _ _ _ _ _ _ _ _ _ _ w rfl rfl rfl rfl rfl hl cs CG
theorem rZ (X Y:TrI) (w:World) (hx:trY.sub X w) (hy:trY.sub Y w) (zx:X.1.length≤100000∧∀p∈X.1,(ndA p).length≤100000) (zy:Y.1.length≤100000∧∀p∈Y.1,(ndA p).length≤100000):
  Calls prog 88 #[trV X,trV Y] w (Ret w (.bool (decide (trD X=trD Y)))):=by
 have CS:=h_ fun (W:World) (hb:Bl w W) (Lf:Nat) (hl:Lf<W.heap.size) (cs:W.cell? ⟨Lf,0,none⟩=some (.func (.func 143) #[] #[]))=>
  l9 (trV X) (trV Y) (.func (.func 145) #[] #[.pointer (some ⟨Lf,0,none⟩)]) X.1 Y.1 W (IsL.ret hx hb) (IsL.ret hy hb) zx.1 zy.1 ⟨_,_,rfl,rh,fun a ha b hb2 V hV=>rb a b Lf V (IsL.ret (hx.2.2 a ha) (hb.trans (hV.mono hb.size))) (IsL.ret (hy.2.2 b hb2) (hb.trans (hV.mono hb.size))) (zx.2 a ha) (zy.2 b hb2) (Nat.lt_of_lt_of_le hl hV.size) (((af hV).1 _ _ hl).trans cs)⟩
 obtain⟨O,hO⟩:=e_ (decide (trD X=trD Y))
 have CS2:=fun W hb Lf hl cs=>CS.out W hb Lf hl cs
 rw[show decide (X.1.map Prod.fst=Y.1.map Prod.fst)=O from hO] at CS2;rw[hO];have CS:=h_ CS2;obtain⟨M,a,c⟩:=X;obtain⟨K,b,d⟩:=Y;simp only[trV] at CS ⊢;obtain⟨L,hL⟩:=e_ M.length;obtain⟨L',hL'⟩:=e_ K.length;rw[hL,hL'] at CS ⊢;clear CS2 hO hx hy zx zy hL hL';have bs:=Sx.start w;have q:=bs.q;go_enter func88,ntmps88;have d0:=(bs.lit (w.heap.size) rfl [.func (.func 143) #[] #[]] 161);have c0_n00:=d0.at 0 0;go_wp2_with fail;clear d0 c0_n00;obtain⟨w1,hw1,y1,al,bs⟩:=bs.alloc (w.heap.size) rfl [.func (.func 143) #[] #[]] 161;clear al;replace q:=bs.q;rw[hw1];refine(CS.out w1 q w.heap.size (bs.lt _ (List.mem_of_getElem? (i:=0) rfl)) (bs.at 0 0)).mono ?_;rintro e w2 ⟨rfl,hb⟩;replace bs:=bs.ret hb;replace q:=bs.q;clear hb;go_wp2_with fail;go_ret;exact⟨rfl,q⟩

def EqA (a:AcI):Prop:=a.it.length≤10000∧∀p∈a.it,p.1.g.length≤10000
def EqT (t:TrI):Prop:=t.1.length≤100000∧∀p∈t.1,(ndA p).length≤100000
def EqR (r:RsI):Prop:=r.ld.length≤100000∧r.st.length≤100000∧∀t∈r.ld,EqT t
def EqC (c:CoI):Prop:=c.A.length≤100000∧c.R.length≤100000∧(∀a∈c.A,EqA a)∧∀r∈c.R,EqR r
theorem mx (j j':ByteArray) (a a':Option Addr) (L c L' c':Nat) (x y:Int) (E G:Bool) (w:World) (h1:(j.toList==j'.toList)=E)
  (CG:∀W:World,Bl w W→Calls prog 84 #[.agg #[.slice a L c,.int .i64 x],.agg #[.slice a' L' c',.int .i64 y]] W (Ret W (.bool G))):
  Calls prog 83 #[.agg #[.string j,.slice a L c,.int .i64 x],.agg #[.string j',.slice a' L' c',.int .i64 y]] w (Ret w (.bool (E&&G))):=by
 have CG:=h_ CG
 cases E with
 | false=>
  obtain⟨W0,hW,y0,bs⟩:=Sx.start2 w [.string j,.slice a L c,.int .i64 x] 33 [.string j',.slice a' L' c',.int .i64 y] 33;have HW:=h_ hW;clear hW;have q:=bs.q;go_enter func83,ntmps83;go_wp2_with fail;rw[HW.out];go_ret;exact⟨by first | rfl | simp,q⟩
 | true=>
  obtain⟨W0,hW,y0,bs⟩:=Sx.start2 w [.string j,.slice a L c,.int .i64 x] 33 [.string j',.slice a' L' c',.int .i64 y] 33;have HW:=h_ hW;clear hW;have q:=bs.q;go_enter func83,ntmps83;go_wp2_with fail;rw[HW.out];refine(CG.out W0 q).mono ?_;rintro e w1 ⟨rfl,hb⟩;replace bs:=bs.ret hb;replace q:=bs.q;clear hb;go_wp2_with fail;go_ret;exact⟨by first | rfl | simp,q⟩
theorem uu (x y:Ac):decide (x=y)=(decide (x.1=y.1)&&(decide (x.2.1=y.2.1)&&x.2.2==y.2.2)):=by
 obtain⟨a,b,c⟩:=x;obtain⟨a',b',c'⟩:=y;rw[wC];simp only[decide_eq_true_eq,wD,beq_iff_eq,Prod.mk.injEq]
theorem qP (x y:AcI) (w:World) (hx:acY.sub x w) (hy:acY.sub y w) (zx:EqA x) (zy:EqA y):Calls prog 83 #[x.v,y.v] w (Ret w (.bool (decide (x.d=y.d)))):=by
 have CG:=fun (W:World) (hb:Bl w W)=>te x.iv y.iv x.it y.it W (aw.ret hx hb) (aw.ret hy hb) zx.1 zy.1 zx.2 zy.2 x.ver y.ver
 rw[uu]
 show Calls _ _ _ w (Ret w (.bool (decide (x.j=y.j)&&_)))
 rw[←gR];exact mx _ _ _ _ _ _ _ _ _ _ _ _ w rfl CG
theorem p9:∀args w,(callFunc 83 args).run prog w=.ok (.enter 83 args) w:=enters_of func83 (by kernel_rfl) rfl
theorem mE (j j':ByteArray) (on on' ask ask':Bool) (pr pr':Int) (la la' sa sa':Option Addr) (L lc L' lc' n sc n' sc':Nat) (E1 E2 E3 E4 G H:Bool) (w:World) (h1:(j.toList==j'.toList)=E1) (h2:(on==on')=E2) (h3:(pr==pr')=E3) (h4:(ask==ask')=E4)
  (CG:∀W:World,Bl w W→Calls prog 86 #[.slice sa n sc,.slice sa' n' sc'] W (Ret W (.bool G)))
  (CH:∀W:World,Bl w W→Calls prog 87 #[.slice la L lc,.slice la' L' lc',.func (.func 88) #[] #[]] W (Ret W (.bool H))):
  Calls prog 85 #[.agg #[.string j,.bool on,.int .i64 pr,.slice la L lc,.bool ask,.slice sa n sc],.agg #[.string j',.bool on',.int .i64 pr',.slice la' L' lc',.bool ask',.slice sa' n' sc']] w (Ret w (.bool (E1&&(E2&&(E3&&(E4&&(G&&H))))))):=by
 have CG:=h_ CG;have CH:=h_ CH
 cases E1 with
 | false=>
  obtain⟨W0,hW,y0,bs⟩:=Sx.start2 w [.string j,.bool on,.int .i64 pr,.slice la L lc,.bool ask,.slice sa n sc] 38 [.string j',.bool on',.int .i64 pr',.slice la' L' lc',.bool ask',.slice sa' n' sc'] 38;have HW:=h_ hW;clear hW;have q:=bs.q;go_enter func85,ntmps85;go_wp2_with fail;rw[HW.out];go_ret;exact⟨by first | rfl | simp,q⟩
 | true=>
  cases E2 with
  | false=>
   obtain⟨W0,hW,y0,bs⟩:=Sx.start2 w [.string j,.bool on,.int .i64 pr,.slice la L lc,.bool ask,.slice sa n sc] 38 [.string j',.bool on',.int .i64 pr',.slice la' L' lc',.bool ask',.slice sa' n' sc'] 38;have HW:=h_ hW;clear hW;have q:=bs.q;go_enter func85,ntmps85;go_wp2_with fail;rw[HW.out];go_ret;exact⟨by first | rfl | simp,q⟩
  | true=>
   cases E3 with
   | false=>
    obtain⟨W0,hW,y0,bs⟩:=Sx.start2 w [.string j,.bool on,.int .i64 pr,.slice la L lc,.bool ask,.slice sa n sc] 38 [.string j',.bool on',.int .i64 pr',.slice la' L' lc',.bool ask',.slice sa' n' sc'] 38;have HW:=h_ hW;clear hW;have q:=bs.q;go_enter func85,ntmps85;go_wp2_with fail;rw[HW.out];go_ret;exact⟨by first | rfl | simp,q⟩
   | true=>
    cases E4 with
    | false=>
     obtain⟨W0,hW,y0,bs⟩:=Sx.start2 w [.string j,.bool on,.int .i64 pr,.slice la L lc,.bool ask,.slice sa n sc] 38 [.string j',.bool on',.int .i64 pr',.slice la' L' lc',.bool ask',.slice sa' n' sc'] 38;have HW:=h_ hW;clear hW;have q:=bs.q;go_enter func85,ntmps85;go_wp2_with fail;rw[HW.out];go_ret;exact⟨by first | rfl | simp,q⟩
    | true=>
     cases G with
     | false=>
      obtain⟨W0,hW,y0,bs⟩:=Sx.start2 w [.string j,.bool on,.int .i64 pr,.slice la L lc,.bool ask,.slice sa n sc] 38 [.string j',.bool on',.int .i64 pr',.slice la' L' lc',.bool ask',.slice sa' n' sc'] 38;have HW:=h_ hW;clear hW;have q:=bs.q;go_enter func85,ntmps85;go_wp2_with fail;rw[HW.out];refine(CG.out W0 q).mono ?_;rintro e w1 ⟨rfl,hb⟩;replace bs:=bs.ret hb;replace q:=bs.q;clear hb;have c_x0:=bs.b6 0;have c_y0:=bs.b6 1;go_wp2_with fail;go_ret;exact⟨by first | rfl | simp,q⟩
     | true=>
      obtain⟨W0,hW,y0,bs⟩:=Sx.start2 w [.string j,.bool on,.int .i64 pr,.slice la L lc,.bool ask,.slice sa n sc] 38 [.string j',.bool on',.int .i64 pr',.slice la' L' lc',.bool ask',.slice sa' n' sc'] 38;have HW:=h_ hW;clear hW;have q:=bs.q;go_enter func85,ntmps85;go_wp2_with fail;rw[HW.out];refine(CG.out W0 q).mono ?_;rintro e w1 ⟨rfl,hb⟩;replace bs:=bs.ret hb;replace q:=bs.q;clear hb;have c_x0:=bs.b6 0;have c_y0:=bs.b6 1;go_wp2_with fail;refine(CH.out w1 q).mono ?_;rintro e w2 ⟨rfl,hb⟩;clear c_x0 c_y0;replace bs:=bs.ret hb;replace q:=bs.q;clear hb;have c_x0:=bs.b6 0;have c_y0:=bs.b6 1;go_wp2_with fail;go_ret;exact⟨by first | rfl | simp,q⟩
theorem uC (x y:Re):decide (x=y)=(decide (x.j=y.j)&&((x.on==y.on)&&((x.pr==y.pr)&&((x.ask==y.ask)&&(decide (x.st=y.st)&&decide (x.ld=y.ld)))))):=by
 obtain⟨a,b,c,d,e,f⟩:=x;obtain⟨a',b',c',d',e',f'⟩:=y;rw[wC];simp only[decide_eq_true_eq,wD,beq_iff_eq,Prod.mk.injEq]
 constructor
 ·rintro ⟨h1,h2,h3,h4,h5,h6⟩
  exact⟨h1,h2,h3,h5,h6,h4⟩
 ·rintro ⟨h1,h2,h3,h4,h5,h6⟩
  exact⟨h1,h2,h3,h6,h4,h5⟩
theorem td:∀args w,(callFunc 88 args).run prog w=.ok (.enter 88 args) w:=enters_of func88 (by kernel_rfl) rfl
theorem qC:∀args w,(callFunc 85 args).run prog w=.ok (.enter 85 args) w:=enters_of func85 (by kernel_rfl) rfl
theorem qj (x y:RsI) (w:World) (hx:rsY.sub x w) (hy:rsY.sub y w) (zx:EqR x) (zy:EqR y):Calls prog 85 #[x.v,y.v] w (Ret w (.bool (decide (x.d=y.d)))):=by
 have CG:=fun (W:World) (hb:Bl w W)=>gm x.sv y.sv x.st y.st W (aB.ret hx.2 hb).1 (aB.ret hy.2 hb).1 (by have:=zx.2.1;omega) (by have:=zy.2.1;omega)
 have CH:=fun (W:World) (hb:Bl w W)=>kn x.lv y.lv (.func (.func 88) #[] #[]) x.ld y.ld W (IsL.ret hx.1 hb) (IsL.ret hy.1 hb) zx.1 zy.1 ⟨_,_,rfl,td,fun a ha b hb2 V hV=>rZ a b V (trY.subRet _ _ _ (hx.1.2.2 a ha) (hb.trans (hV.mono hb.size))) (trY.subRet _ _ _ (hy.1.2.2 b hb2) (hb.trans (hV.mono hb.size))) (zx.2.2 a ha) (zy.2.2 b hb2)⟩
 rw[uC]
 show Calls _ _ _ w (Ret w (.bool (decide (x.j=y.j)&&_)))
 rw[←gR];exact mE _ _ _ _ _ _ _ _ _ _ _ _ _ _ _ _ _ _ _ _ _ _ _ _ _ _ w rfl rfl rfl rfl CG CH
theorem mV (aa ra aa' ra':Option Addr) (LA ac LR rc LA' ac' LR' rc':Nat) (m m':Int) (G H:Bool) (w:World)
  (CG:∀W:World,Bl w W→Calls prog 89 #[.slice aa LA ac,.slice aa' LA' ac',.func (.func 83) #[] #[]] W (Ret W (.bool G)))
  (CH:∀W:World,Bl w W→Calls prog 90 #[.slice ra LR rc,.slice ra' LR' rc',.func (.func 85) #[] #[]] W (Ret W (.bool H))):
  Calls prog 32 #[.agg #[.slice aa LA ac,.slice ra LR rc,.int .i64 m],.agg #[.slice aa' LA' ac',.slice ra' LR' rc',.int .i64 m']] w (Ret w (.bool (G&&(H&&(m==m'))))):=by
 have CG:=h_ CG;have CH:=h_ CH
 cases G with
 | false=>
  obtain⟨W0,hW,y0,bs⟩:=Sx.start2 w [.slice aa LA ac,.slice ra LR rc,.int .i64 m] 25 [.slice aa' LA' ac',.slice ra' LR' rc',.int .i64 m'] 25;have HW:=h_ hW;clear hW;have q:=bs.q;go_enter func32,ntmps32;go_wp2_with fail;rw[HW.out];refine(CG.out W0 q).mono ?_;rintro e w1 ⟨rfl,hb⟩;replace bs:=bs.ret hb;replace q:=bs.q;clear hb;have c_x0:=bs.b3 0;have c_y0:=bs.b3 1;go_wp2_with fail;go_ret;exact⟨by first | rfl | simp,q⟩
 | true=>
  cases H with
  | false=>
   obtain⟨W0,hW,y0,bs⟩:=Sx.start2 w [.slice aa LA ac,.slice ra LR rc,.int .i64 m] 25 [.slice aa' LA' ac',.slice ra' LR' rc',.int .i64 m'] 25;have HW:=h_ hW;clear hW;have q:=bs.q;go_enter func32,ntmps32;go_wp2_with fail;rw[HW.out];refine(CG.out W0 q).mono ?_;rintro e w1 ⟨rfl,hb⟩;replace bs:=bs.ret hb;replace q:=bs.q;clear hb;have c_x0:=bs.b3 0;have c_y0:=bs.b3 1;go_wp2_with fail;refine(CH.out w1 q).mono ?_;rintro e w2 ⟨rfl,hb⟩;clear c_x0 c_y0;replace bs:=bs.ret hb;replace q:=bs.q;clear hb;have c_x0:=bs.b3 0;have c_y0:=bs.b3 1;go_wp2_with fail;go_ret;exact⟨by first | rfl | simp,q⟩
  | true=>
   obtain⟨W0,hW,y0,bs⟩:=Sx.start2 w [.slice aa LA ac,.slice ra LR rc,.int .i64 m] 25 [.slice aa' LA' ac',.slice ra' LR' rc',.int .i64 m'] 25;have HW:=h_ hW;clear hW;have q:=bs.q;go_enter func32,ntmps32;go_wp2_with fail;rw[HW.out];refine(CG.out W0 q).mono ?_;rintro e w1 ⟨rfl,hb⟩;replace bs:=bs.ret hb;replace q:=bs.q;clear hb;have c_x0:=bs.b3 0;have c_y0:=bs.b3 1;go_wp2_with fail;refine(CH.out w1 q).mono ?_;rintro e w2 ⟨rfl,hb⟩;clear c_x0 c_y0;replace bs:=bs.ret hb;replace q:=bs.q;clear hb;have c_x0:=bs.b3 0;have c_y0:=bs.b3 1;go_wp2_with fail;go_ret;exact⟨by first | rfl | simp,q⟩
theorem mZ (x y:CoI) (w:World) (hx:x.sub w) (hy:y.sub w) (zx:EqC x) (zy:EqC y):Calls prog 32 #[x.v,y.v] w (Ret w (.bool (decide (x.d=y.d)))):=by
 have CG:=fun (W:World) (hb:Bl w W)=>lj x.av y.av (.func (.func 83) #[] #[]) x.A y.A W (IsL.ret hx.1 hb) (IsL.ret hy.1 hb) zx.1 zy.1 ⟨_,_,rfl,p9,fun a ha b hb2 V hV=>qP a b V (acY.subRet _ _ _ (hx.1.2.2 a ha) (hb.trans (hV.mono hb.size))) (acY.subRet _ _ _ (hy.1.2.2 b hb2) (hb.trans (hV.mono hb.size))) (zx.2.2.1 a ha) (zy.2.2.1 b hb2)⟩
 have CH:=fun (W:World) (hb:Bl w W)=>lh x.rv y.rv (.func (.func 85) #[] #[]) x.R y.R W (IsL.ret hx.2 hb) (IsL.ret hy.2 hb) zx.2.1 zy.2.1 ⟨_,_,rfl,qC,fun a ha b hb2 V hV=>qj a b V (rsY.subRet _ _ _ (hx.2.2.2 a ha) (hb.trans (hV.mono hb.size))) (rsY.subRet _ _ _ (hy.2.2.2 b hb2) (hb.trans (hV.mono hb.size))) (zx.2.2.2 a ha) (zy.2.2.2 b hb2)⟩
 have e:decide (x.d=y.d)=(decide (x.A.map AcI.d=y.A.map AcI.d)&&(decide (x.R.map RsI.d=y.R.map RsI.d)&&(x.m==y.m))):=by
  rw[wC];simp only[decide_eq_true_eq,wD,beq_iff_eq,CoI.d,Prod.mk.injEq]
 rw[e];exact mV _ _ _ _ _ _ _ _ _ _ _ _ _ _ _ _ w CG CH
end Go.Proofs.YtjgeiieiinmdnaaGreatDoor
