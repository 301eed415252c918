/- HtA, HaE, HaO: put together by mergetpl.py. -/
import Derived.Laws.MakeOwn
import Derived.Test.YtjgeiieiinmdnaaGreatDoorLb
import Derived.Test.YtjgeiieiinmdnaaGreatDoorRoIn
open Go.Proofs.Tryz
open Array renaming length_toList→wE
open Go.Value renaming slice→wC
open Go.Value.slice renaming injEq→wB
open Go.World renaming setCells→wv
open List renaming getElem?_eq_getElem→ws,take_of_length_le→wu,mem_map→ww,getElem?_eq_none→wz,getElem_mem→wA,length_map→wD
open List.Pairwise renaming nil→wF
open Nat renaming le_refl→wh,zero_le→wo,le_of_ble_eq_true→wq,mul_one→wt,lt_or_ge→wy
namespace Go.Proofs.YtjgeiieiinmdnaaGreatDoor
set_option maxHeartbeats 4000000
set_option maxRecDepth 100000
open Go.RowKit Go.Lib

theorem TL.of_new {α:Type} {Y:Ly α} {w0 w w':World} {bs:Bs} {v:Value} {M:List α} (h:Sx w0 bs w) (ho:w'.ownsRow w.heap.size Y.e Y.n v M.length (Y.fl M)):TL Y w0 (bs.map Prod.fst) v M [] 0 w':=
 TL.start ⟨ho.mono (wo _),fun g hg=>⟨Nat.le_trans h.q.size (ho.lt g hg).1,fun hm=>by
  obtain⟨b,hb,e⟩:=ww.1 hm;have:=h.lt b hb;have:=(ho.lt g hg).1
  omega⟩⟩
theorem Sx.some {w0 w:World} {bs:Bs} (h:Sx w0 bs w) (k:Nat):Sx w0 (bs.take k) w:=⟨fun b hb=>h.bx b (List.mem_of_mem_take hb),h.pw.sublist (List.take_sublist _ _),h.q⟩
theorem Sx.ads {w0 w:World} {bs:Bs} (h:Sx w0 bs w):∀a∈bs.map Prod.fst,a<w.heap.size:=fun a ha=>by
 obtain⟨b,hb,e⟩:=ww.1 ha;have:=h.lt b hb
 omega
def TwT (w:World) (t:List Nd) (e:Ending) (w':World):Prop:=∃T':TrI,e=.returned (trV T')∧trD T'=t∧OwL ndY (fun g=>w.heap.size≤g) (trV T') T'.1 w'∧Bl w w'
theorem OwL.seen {α:Type} {Y:Ly α} {w0 w:World} {v:Value} {M:List α} (h:OwL Y (Xd w0 []) v M w):OwL Y (fun g=>w0.heap.size≤g) v M w:=OwL.mono h fun _ _ hg=>hg.1
theorem ct {α β:Type} {f:α→β} {M N:List α} {k:Nat} {p p':α} (hN:N.map f=(M.map f).take k) (hk:M[k]?=some p) (hp:f p'=f p):(N++[p']).map f=(M.map f).take (k+1):=by
 have xL:k<M.length:=by
  rcases wy k M.length with h1 | h1
  ·exact h1
  ·rw[wz h1] at hk;cases hk
 have hM:M[k]=p:=by rw[ws xL] at hk;exact Option.some.inj hk
 rw[List.map_append,hN,List.take_succ_eq_append_getElem (by simpa using xL),List.getElem_map,hM]
 simp[hp]
theorem t9 (T:TrI) (w:World) (h:IsL ndY (trV T) T.1 w) (hz:T.1.length≤100000) (ha:∀x∈T.1,(ndA x).length≤100000):Calls prog 112 #[trV T] w (TwT w (trD T)):=by
 obtain⟨M,a,cap⟩:=T
 simp only at h hz ha
 obtain⟨L,hL⟩:=e_ M.length;have CL:=ls (.slice a M.length cap) M w h hz
 have HS:=h_ fun x hx=>h.2.2 x hx
 rw[hL] at CL hz;have CL:=h_ CL;have HL:=h_ hL;have HA:=h_ ha
 show Calls prog 112 #[.slice a M.length cap] w _
 rw[hL];clear h hL ha;go_enter func112,ntmps112;go_wp2_with fail;refine CL.out.mono ?_;rintro e w1 ⟨a1,c1,rfl,xo,hb⟩;have tl:=TL.of_new (Y:=ndY) (M:=M) (Sx.start w) xo;rw[HL.out] at tl ⊢;clear xo CL;go_wp2_with fail;go_loopw [10] (fun i wx=>∃(k:Nat) (Nn:List NdI),i=.int .i64 k∧k≤L∧TL ndY w [] (.slice a1 L c1) M Nn k wx∧Nn.map Prod.fst=(M.map Prod.fst).take k∧Bl w wx) (fun i _=>L-(intOf i).toNat)
 case atStart=>exact⟨0,[],rfl,wo _,tl,rfl,hb⟩
 case round=>
  clear tl hb;obtain⟨k,Nn,rfl,hk,tl,xq,q0⟩:=hrel
  by_cases hlt:k<L
  ·have xt : k < M.length := by rw [HL.out]; exact hlt
   obtain⟨p,hp⟩:=e_ (M[k]);have xB:M[k]?=some p:=(by rw[ws xt,hp]);have xu:p∈M:=(by rw[←hp];exact wA xt);obtain⟨g,c,hv,xX,-,yg,-⟩:=tl.form xt;rw[HL.out] at hv;simp only[wB,true_and] at hv;obtain⟨rfl,rfl⟩:=hv;have hV:wC (some ⟨g,0,none⟩) L c1=.slice (some ⟨g,0,none⟩) M.length c1:=(by rw[HL.out]);have bs:Sx w [] wr:=⟨fun b hb=>by(cases hb),wF,q0⟩;have q:=bs.q
   have CA:=h_ fun (W:World) (hb:Bl w W)=>lN (ndV p) (ndA p) W (IsL.ret (HS.out p xu) hb) (HA.out p xu)
   have wk:(k:Int)<(L:Int):=(by omega);have HV:=h_ hV;have HK:=h_ xB;have HN:=h_ xq;clear hp xu xB xt hV xq q0
   have i0:wr.cell? ⟨g,k*6,none⟩=some (.int .u8 p.1.1):=(tl.cell HV.out HK.out 0 rfl).1
   have i1:wr.cell? ⟨g,k*6+1,none⟩=some (.string ⟨p.1.2.1.toArray⟩):=(tl.cell HV.out HK.out 1 rfl).1
   have i2:wr.cell? ⟨g,k*6+2,none⟩=some (.string ⟨p.1.2.2.1.toArray⟩):=(tl.cell HV.out HK.out 2 rfl).1
   have i3:wr.cell? ⟨g,k*6+3,none⟩=some (ndV p):=(tl.cell HV.out HK.out 3 rfl).1
   have i4:wr.cell? ⟨g,k*6+4,none⟩=some (.string ⟨p.1.2.2.2.2.1.toArray⟩):=(tl.cell HV.out HK.out 4 rfl).1
   have i5:wr.cell? ⟨g,k*6+5,none⟩=some (.int .i64 p.1.2.2.2.2.2):=(tl.cell HV.out HK.out 5 rfl).1
   have xn:=tl;clear tl;have d0:=(bs.lit (wr.heap.size) rfl [.int .u8 p.1.1,.string ⟨p.1.2.1.toArray⟩,.string ⟨p.1.2.2.1.toArray⟩,ndV p,.string ⟨p.1.2.2.2.2.1.toArray⟩,.int .i64 p.1.2.2.2.2.2] 114);have xG:=d0.b6 0;go_wp2_with fail;clear d0 xG;clear i0 i1 i2 i3 i4 i5;obtain⟨w3,xY,y3,al,bs⟩:=bs.alloc (wr.heap.size) rfl [.int .u8 p.1.1,.string ⟨p.1.2.1.toArray⟩,.string ⟨p.1.2.2.1.toArray⟩,ndV p,.string ⟨p.1.2.2.2.2.1.toArray⟩,.int .i64 p.1.2.2.2.2.2] 114;replace xn:=xn.alloc (wr.heap.size) rfl al;clear al;replace q:=bs.q;rw[xY];have far:=xn.far q (bs.ads);refine(CA.out w3 q).mono ?_;rintro e w4 ⟨a2,c2,rfl,xp,hb⟩;replace xn:=xn.ret hb;replace bs:=bs.ret hb;replace q:=bs.q;clear hb;have xC:ndY.own (Xo w [wr.heap.size] (.slice (some ⟨g,0,none⟩) L c1)) (p.1,(a2,c2)) w4:=⟨⟨xp.mono (wo _),fun j hj=>far j (xp.lt j hj).1⟩,fun _ _=>trivial⟩
   have c3:w4.cell? ⟨g,k*6+3,none⟩=some (ndV p):=(xn.cell HV.out HK.out 3 rfl).1
   have f3:w4.frozen? ⟨g,k*6+3,none⟩=false:=(xn.cell HV.out HK.out 3 rfl).2
   have CC:=h_ xn;have OO:=h_ xC;have QQ:=h_ q;clear xn xC xp far q;go_wp2_with fail;go_roundw
   case rel=>exact⟨k+1,Nn++[(p.1,(a2,c2))],by go_num,by omega,(TL.step (j:=3) (vs:=[.slice a2 (ndA p).length c2]) CC.out HV.out HK.out (wq rfl) rfl OO.out rfl rfl).sub (fun _ h=>by cases h),ct HN.out HK.out rfl,QQ.out.setCell (p:=⟨g,k*6+3,none⟩) xX _⟩
   case measure=>simp[intOf];omega
  ·obtain rfl : k = L := by omega
   have xD:TL ndY w [] (.slice a1 k c1) M Nn M.length wr:=(by rw[HL.out];exact tl);have hd:=xD.done
   have hl:Nn.length=k:=tl.len
   have xE:Nn.map Prod.fst=M.map Prod.fst:=(by rw[xq,wu (by rw[wD,HL.out];exact wh _)]);have HD:=h_ hd;have HN:=h_ xE;have HB:=h_ q0;clear hd xE xD tl xq q0;go_wp2_with fail;go_ret;exact⟨(Nn,(a1,c1)),by rw[←hl];rfl,HN.out,by have:=HD.out.seen;rw[←hl] at this;exact this,HB.out⟩

theorem mA:(prog.info? 108).map (fun i=>(i.zero,i.size,i.bytes))=some (some (.slice none 0 0),1,24):=by kernel_rfl
def ui (n:Nat):Array Value:=madeCells #[.slice none 0 0] n
theorem fO (n:Nat):(ui n).size=n:=by
 unfold ui madeCells
 simp
theorem vo (n:Nat) (hn:n≤100000) (w:World):(Instr.makeSlice 36 (.int .i64 n) (.int .i64 n)).run prog w=.ok (.slice (some ⟨w.heap.size,0,none⟩) n n) (w.alloc (.cells (ui n) 108)):=by
 obtain⟨i0,hi,xM,xH,xN⟩:=info_parts mA;have h:=run_makeSlice (P:=prog) w 36 108 i0 (.slice none 0 0) underlying36 hi xM .i64 .i64 n n (by omega) (Int.le_refl _) (by rw[xH];simp;omega) (by rw[xN];omega) (by omega);rw[xH] at h;simp only[Int.toNat_natCast,wt] at h;exact h
theorem rC (n:Nat) (hn:n≤100000) (w:World):(w.alloc (.cells (ui n) 108)).ownsRow w.heap.size 108 1 (.slice (some ⟨w.heap.size,0,none⟩) n n) n (ui n).toList:=by
 refine⟨by rw[wE,fO,wt],.inr ⟨w.heap.size,n,_,rfl,wh _,World.alloc_heap_new _ _,wh _,by unfold maxLen;omega,by rw[fO,wt],?_⟩⟩;rw[wu (by rw[wE,fO];omega)]
theorem vN (w:World) (B g n cap:Nat) (a:Option Addr) (M:List TrI) (xs:List Value) (xo:w.ownsRow B 108 1 (.slice (some ⟨g,0,none⟩) n n) n xs) (hs:IsL trY (.slice a n cap) M w) (hn:M.length=n):
  ∃w',(∀ty,(Builtin.copy_ #[36,36] ty #[.slice (some ⟨g,0,none⟩) n n,.slice a n cap]).run prog w=.ok (goInt n) w')∧w'.ownsRow B 108 1 (.slice (some ⟨g,0,none⟩) n n) n (trY.fl M)∧w.grownBy w' (some g):=by
 obtain⟨i0,hi,xM,xH,xN⟩:=info_parts mA
 have xK:(trY.fl M).length=n:=by
  rw[dq,hn];exact wt n
 cases a with
 | none=>
  obtain⟨h1,h2⟩:=IsL.none hs;subst h1;subst h2
  have h0:n=0:=by rw[←hn];rfl
  subst h0;refine⟨w,fun ty=>?_,?_,⟨rfl,rfl,rfl,wh _,fun _ _ _=>rfl⟩⟩
  ·simp[Builtin.copy_,run_underlying underlying36,Builtin.lenOf,Builtin.firstCells,sizeOf,typeInfo,hi,storeCells,Result.andThen]
  ·have:xs=[]:=List.eq_nil_of_length_eq_zero (by rw[xo.1])
   subst this;exact xo
 | some ad=>
  have hc:=hs.1;obtain⟨hl,a',yf,he,-,h3⟩:=hc;simp only[wB] at he;obtain⟨rfl,_,rfl⟩:=he
  have xO:∀j v,(trY.fl M)[j]?=some v→w.cell? (ad.add j)=some v:=fun j v hj=>by
   have xI:j<(trY.fl M).length:=by
    rcases wy j (trY.fl M).length with h | h
    ·exact h
    ·rw[wz h] at hj;cases hj
   rcases h3 with h3 | ⟨b,off,h4,_,h5⟩
   ·rw[dq,h3] at xI
    simp at xI
   ·cases h4
    rw[Addr.add_lit,h5 j xI,←ws xI];exact hj
  obtain⟨w',h1,h2,h3⟩:=aM (P:=prog) w B g n n 1 0 n n 36 36 108 ad n cap xs (trY.fl M) underlying36 (by rw[hi];simp[xH]) xo (by rw[xK];simp) xO (by rw[xK];omega) (dV trY M);refine⟨w',fun ty=>?_,?_,h3⟩
  ·have:=h1 ty
   simpa using this
  ·have e:xs.take (0*1)++trY.fl M++xs.drop (0*1+(trY.fl M).length)=trY.fl M:=by
    rw[List.drop_eq_nil_of_le (by rw[xo.1,xK];omega)]
    simp
   rw[e] at h2;exact h2
theorem rK {fn:Func} {tmps:Array Value} {W:World} {R p:Nat} {v0 v1 v2 v3 v4 v5:Value} (h:fn.results=#[.cell p 38]) (h2:tmps.getD p undef=.pointer (some ⟨R,0,none⟩)) (k:Bx R [v0,v1,v2,v3,v4,v5] W):
  (results fn tmps).run prog W=.ok (.agg #[v0,v1,v2,v3,v4,v5]) W:=by
 have c0:=k.at 0 rfl;have c1:=k.at 1 rfl;have c2:=k.at 2 rfl;have c3:=k.at 3 rfl;have c4:=k.at 4 rfl;have c5:=k.at 5 rfl;rw[aV h,h2]
 simp[go_sem,Result.andThen,c0,c1,c2,c3,c4,c5]
def TwR (w:World) (r:Re) (e:Ending) (w':World):Prop:=∃r':RsI,e=.returned r'.v∧r'.d=r∧rsY.own (fun g=>w.heap.size≤g) r' w'∧Bl w w'
def gd (r:RsI):Prop:=r.ld.length≤100000∧r.st.length≤100000∧∀t∈r.ld,t.1.length≤100000∧∀x∈t.1,(ndA x).length≤100000
theorem oW (r:RsI) (w:World) (h:rsY.sub r w) (hf:gd r):Calls prog 55 #[r.v] w (TwR w r.d):=by
 obtain⟨j,on,pr,M,⟨la,lc⟩,ask,st,⟨sa,sc⟩⟩:=r;obtain⟨hz,hs,ht⟩:=hf;obtain⟨xJ,hst⟩:=h
 simp only at hz hs ht xJ hst
 obtain⟨L,hL⟩:=e_ M.length;obtain⟨n,hn⟩:=e_ st.length
 have HS:=h_ fun t ht=>xJ.2.2 t ht
 have HT:=h_ ht
 show Calls prog 55 #[.agg #[.string ⟨j.toArray⟩,.bool on,.int .i64 pr,.slice la M.length lc,.bool ask,.slice sa st.length sc]] w _
 have xF:IsL trY (.slice la M.length lc) M w:=xJ
 have CS:=h_ fun (W:World) (hb:Bl w W)=>kM (.slice sa st.length sc) st W (be.ret hst hb) (by omega)
 rw[hL] at xF hz;rw[hn] at CS hs;rw[hL,hn];have xZ:=h_ xF;have HL:=h_ hL;have HN:=h_ hn;have mk:=vo L (by omega);clear hL hn ht xJ hst xF;obtain⟨W0,hW,y0,bs⟩:=Sx.start2 w [.string ⟨j.toArray⟩,.bool on,.int .i64 pr,.slice la L lc,.bool ask,.slice sa n sc] 38 [.string ⟨#[]⟩,.bool false,.int .i64 0,.slice none 0 0,.bool false,.slice none 0 0] 38;have HW:=h_ hW;clear hW;have q:=bs.q;go_enter func55,ntmps55;have al:=(bR W0).alloc (wh _) (.cells (ui L) 108);have b1:=bs.ret al;obtain⟨w2,cp,own2,xP⟩:=vN _ _ _ L lc la M _ (rC L (by omega) W0) (xZ.out.ret b1.q) HL.out;have xQ:=al.grown xP (by simp) (fun k hk=>by cases hk;exact wh _);have tl:=TL.of_new (Y:=trY) (M:=M) bs (by rw[HL.out];exact own2);rw[y0] at cp tl;have xR:=b1.at 0 3;go_wp2_with fail;rw[HW.out];simp only[Nat.add_assoc,Nat.reduceAdd];rw[cp];go_simp;have xw:=bs.b6 0;go_wp2_with fail;clear xw;clear xR b1 al own2 xP mk cp;replace bs:=bs.ret xQ;replace q:=bs.q;clear xQ;go_loopw [16] (fun i wx=>∃(k:Nat) (Nn:List TrI),i=.int .i64 k∧k≤L∧TL trY w [w.heap.size,w.heap.size+1] (.slice (some ⟨w.heap.size+2,0,none⟩) L L) M Nn k wx∧Nn.map trD=(M.map trD).take k∧Sx w [(w.heap.size,[.string ⟨j.toArray⟩,.bool on,.int .i64 pr,.slice la L lc,.bool ask,.slice sa n sc]),(w.heap.size+1,[.string ⟨#[]⟩,.bool false,.int .i64 0,.slice none 0 0,.bool false,.slice none 0 0])] wx) (fun i _=>L-(intOf i).toNat)
 case atStart=>exact⟨0,[],rfl,wo _,tl,rfl,bs⟩
 case round=>
  clear tl bs q;obtain⟨k,Nn,rfl,hk,tl,xq,bs⟩:=hrel;have q:=bs.q
  by_cases hlt:k<L
  ·have xt : k < M.length := by rw [HL.out]; exact hlt
   obtain⟨p,hp⟩:=e_ (M[k]);have xB:M[k]?=some p:=(by rw[ws xt,hp]);have xu:p∈M:=(by rw[←hp];exact wA xt);have hV:wC (some ⟨w.heap.size+2,0,none⟩) L L=.slice (some ⟨w.heap.size+2,0,none⟩) M.length L:=(by rw[HL.out])
   have CA:=h_ fun (W:World) (hb:Bl w W)=>t9 p W (IsL.ret (HS.out p xu) hb) (HT.out p xu).1 (HT.out p xu).2
   have HV:=h_ hV;have HK:=h_ xB;have yd:=h_ xq;clear hp xu xB xt hV xq
   have i0:wr.cell? ⟨w.heap.size+2,k,none⟩=some (trV p):=by
    have h:=(tl.cell HV.out HK.out 0 rfl).1
    rwa [show k*trY.n+0=k from (by show k*1+0=k;omega)] at h
   have far:=tl.far q (bs.ads);have xn:=tl;clear tl;go_wp2_with fail;clear i0;refine(CA.out wr q).mono ?_;rintro e yh ⟨T2,rfl,xS,xT,hb⟩;replace xn:=xn.ret hb;replace bs:=bs.ret hb;replace q:=bs.q;clear hb;have xC:=OwL.mono xT (fun g _ hg=>far g hg);have i0:=(xn.cell HV.out HK.out 0 rfl).1;have f0:=(xn.cell HV.out HK.out 0 rfl).2;rw[show k*trY.n+0=k from (by show k*1+0=k;omega)] at i0 f0;have CC:=h_ xn;have OO:=h_ xC;have BB:=h_ bs;have HD:=h_ xS;clear xn xC xT far q bs xS;go_wp2_with fail;go_roundw
   case rel=>exact⟨k+1,Nn++[T2],by go_num,by omega,TL.step (j:=0) (o:=k) (vs:=[trV T2]) CC.out HV.out HK.out (wq rfl) rfl OO.out (by show k=k*1+0;omega) rfl,ct yd.out HK.out HD.out,BB.out.far (o:=k) (vs:=[trV T2]) (by omega) (by simp) rfl⟩
   case measure=>simp[intOf];omega
  ·obtain rfl : k = L := by omega
   have xD:TL trY w [w.heap.size,w.heap.size+1] (.slice (some ⟨w.heap.size+2,0,none⟩) k k) M Nn M.length wr:=(by rw[HL.out];exact tl)
   have hl:Nn.length=k:=tl.len
   have xE:Nn.map trD=M.map trD:=(by rw[xq,wu (by rw[wD,HL.out];exact wh _)]);have xr:OwZ trY w [w.heap.size,w.heap.size+1] (.slice (some ⟨w.heap.size+2,0,none⟩) k k) Nn wr:=xD.done;have ye:=h_ xE;have HD:=h_ hl;clear xE xD tl xq hl;have xw:=bs.b6 0;go_wp2_with fail;refine(CS.out wr q).mono ?_;rintro e yi ⟨a2,c2,rfl,xp,hb⟩;clear xw;have xx:=OwX.mk' bs xp;replace xr:=xr.ret hb;replace bs:=bs.ret hb;replace q:=bs.q;clear hb;have xw:=bs.b6 0;have xU:=bs.g6 0;have xV:=bs.b6 1;have xW:=bs.g6 1;go_wp2_with fail;clear xw xU xV xW;obtain⟨yj,xy,yk,bs⟩:=bs.sets 0 3 [.slice (some ⟨w.heap.size+2,0,none⟩) k k] rfl (wq rfl);replace xr:=xr.sets 0 rfl xy;replace xx:=xx.sets 0 rfl xy;obtain⟨yl,xz,yn,bs⟩:=bs.sets 0 5 [.slice a2 st.length c2] rfl (wq rfl);replace xr:=xr.sets 0 rfl xz;replace xx:=xx.sets 0 rfl xz;obtain⟨yo,xA,yp,bs⟩:=bs.sets 1 0 [.string ⟨j.toArray⟩,.bool on,.int .i64 pr,.slice (some ⟨w.heap.size+2,0,none⟩) k k,.bool ask,.slice a2 st.length c2] rfl (wq rfl);replace xr:=xr.sets 1 rfl xA;replace xx:=xx.sets 1 rfl xA;replace q:=bs.q;simp only[wv] at xy;rw[xy];simp only[wv] at xz;rw[xz];simp only[wv,Nat.reduceAdd] at xA;rw[xA];refine bodyPost_ret (rK rfl rfl (bs.box 1 rfl)) rfl ⟨⟨j,on,pr,Nn,(some ⟨w.heap.size+2,0,none⟩,k),ask,st,(a2,c2)⟩,?_,?_,⟨?_,?_⟩,q⟩
   ·show _=Ending.returned (.agg #[.string ⟨j.toArray⟩,.bool on,.int .i64 pr,.slice _ Nn.length k,.bool ask,.slice a2 st.length c2])
    rw[HD.out]
   ·show (j,on,pr,Nn.map trD,ask,st)=(j,on,pr,M.map trD,ask,st)
    rw[ye.out]
   ·show OwL trY _ (.slice _ Nn.length k) Nn _
    rw[HD.out];exact xr.own
   ·exact⟨xx.1.mono (wo _),fun g hg=>(xx.1.lt g hg).1⟩

def ka (p:List Nd→Bool) (T:TrI) (w:World):Prop:=∀W,Bl w W→Calls prog 134 #[trV T] W (Ret W (.int .i64 (if p (trD T) then 0 else 8)))
theorem ka.ret {p:List Nd→Bool} {T:TrI} {w w':World} (h:ka p T w) (hb:Bl w w'):ka p T w':=fun W hW=>h W (hb.trans (hW.mono hb.size))
structure RsFit (p:List Nd→Bool) (x:RsI) (w:World):Prop where
 sub:rsY.sub x w
 j:x.j.length≤10000
 st:x.st.length≤1000
 sx:∀s∈x.st,s.length≤10000
 ld:x.ld.length≤1000
 tr:∀t∈x.ld,ka p t w
theorem RsFit.ret {p:List Nd→Bool} {x:RsI} {w w':World} (h:RsFit p x w) (hb:Bl w w'):RsFit p x w':=⟨rsY.subRet _ _ _ h.sub hb,h.j,h.st,h.sx,h.ld,fun t ht=>(h.tr t ht).ret hb⟩
structure CoI where
 A:List AcI
 aa:Option Addr×Nat
 R:List RsI
 ra:Option Addr×Nat
 m:Int
abbrev CoI.v (c:CoI):Value:=.agg #[.slice c.aa.1 c.A.length c.aa.2,.slice c.ra.1 c.R.length c.ra.2,.int .i64 c.m]
abbrev CoI.av (c:CoI):Value:=.slice c.aa.1 c.A.length c.aa.2
abbrev CoI.rv (c:CoI):Value:=.slice c.ra.1 c.R.length c.ra.2
abbrev Co:=List Ac×List Re×Int
abbrev CoI.d (c:CoI):Co:=(c.A.map AcI.d,c.R.map RsI.d,c.m)
def CoI.sub (c:CoI) (w:World):Prop:=IsL acY c.av c.A w∧IsL rsY c.rv c.R w
def CoI.own (S:Nat→Prop) (c:CoI) (w:World):Prop:=OwL acY S c.av c.A w∧OwL rsY S c.rv c.R w
theorem CoI.sub.ret {c:CoI} {w w':World} (h:c.sub w) (hb:Bl w w'):c.sub w':=⟨h.1.ret hb,h.2.ret hb⟩
theorem CoI.own.sub {S:Nat→Prop} {c:CoI} {w:World} (h:c.own S w):c.sub w:=⟨h.1.isL,h.2.isL⟩
structure CoFit (p:List Nd→Bool) (c:CoI) (w:World):Prop where
 sub:c.sub w
 zA:c.A.length≤1000
 zR:c.R.length≤1000
 ac:∀a∈c.A,a.j.length≤10000∧cN a.it
 rs:∀r∈c.R,RsFit p r w∧gd r
theorem CoFit.ret {p:List Nd→Bool} {c:CoI} {w w':World} (h:CoFit p c w) (hb:Bl w w'):CoFit p c w':=⟨h.sub.ret hb,h.zA,h.zR,h.ac,fun r hr=>⟨(h.rs r hr).1.ret hb,(h.rs r hr).2⟩⟩
def aB (p:List Nd→Bool) (c:Co):Bool:=dd p c.1 c.2.1 c.2.2
end Go.Proofs.YtjgeiieiinmdnaaGreatDoor
