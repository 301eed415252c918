/- RoG, RoH, RoI, RoJ: put together by mergetpl.py. -/
import Derived.Test.YtjgeiieiinmdnaaGreatDoorKk
import Derived.Test.YtjgeiieiinmdnaaGreatDoorGb
open Go.Proofs.Tryz
open Go.Value.slice renaming injEq→wv
open List renaming getElem_map→ws,getElem_mem→wt,length_map→wu,take_of_length_le→ww,take_succ_eq_append_getElem→wA,findIdx?_eq_some_iff_getElem→wB,any_eq_false→wC,findIdx?_eq_none_iff→wD,length→wE
open Nat renaming le_refl→wq,le_trans→wy,zero_le→wz
namespace Go.Proofs.YtjgeiieiinmdnaaGreatDoor
set_option maxHeartbeats 4000000
set_option maxRecDepth 100000
open Go.RowKit Go.Lib

def rK (f:Value) (q:It→Bool) (M:List Im) (w:World):Prop:=∃g lb,f=.func (.func g) #[] lb∧(∀args w,(callFunc g args).run prog w=.ok (.enter g args) w)∧∀p∈M,∀W,Bl w W→Calls prog g (#[itA p]++lb) W (Ret W (.bool (q p.1)))
def oO (q:It→Bool) (L:List It):Int:=match L.findIdx? q with
 | some i=>i
 | none=>-1
theorem ti {q:It→Bool} {L:List It} {k:Nat} (hk:k<L.length) (hn:(L.take k).any q=false) (h:q L[k]=true):oO q L=k:=by
 unfold oO
 have:L.findIdx? q=some k:=by
  rw[wB];refine⟨hk,h,fun j hj=>?_⟩
  have:=wC.1 hn (L[j]'(by omega)) (by
   rw[List.mem_iff_getElem];exact⟨j,by rw[List.length_take];omega,by rw[List.getElem_take]⟩)
  simpa using this
 rw[this]
theorem pn {q:It→Bool} {L:List It} (h:L.any q=false):oO q L=-1:=by
 unfold oO
 have:L.findIdx? q=none:=by
  rw[wD];intro x hx;have:=wC.1 h x hx
  simpa using this
 rw[this]
theorem jG (v f:Value) (q:It→Bool) (M:List Im) (w:World) (hv:aw v M w) (hM:M.length≤100000) (hf:rK f q M w):
  Calls prog 130 #[v,f] w (Ret w (.int .i64 (oO q (M.map Prod.fst)))):=by
 obtain⟨a,cap,hfo,-⟩:=hv.form;obtain⟨g,lb,rfl,eg,hg⟩:=hf;obtain⟨O,hO⟩:=e_ (oO q (M.map Prod.fst));obtain⟨L,hL⟩:=e_ M.length;rw[hL] at hfo hM;rw[hO];subst hfo;have HO:=h_ hO;have HL:=h_ hL;have HV:=h_ hv;have HG:=h_ hg;clear hO hL hv hg;go_enter func130,ntmps130;go_wp2_with fail;go_loopw [8] (fun i wx=>∃k:Nat,k≤L∧i=.int .i64 k∧((M.map Prod.fst).take k).any q=false∧Bl w wx) (fun i _=>L-(intOf i).toNat)
 case atStart=>exact⟨0,wz _,rfl,rfl,bQ _⟩
 case round=>
  obtain⟨k,hk,rfl,hany,hbw⟩:=hrel;have hsz:=hbw.size
  by_cases hlt:k<L
  ·have hkM : k < M.length := by rw [HL.out]; exact hlt
   have hV:=HV.out.ret hbw;obtain⟨b,off,cp,hf,hb0,hc⟩:=hV.cell hkM;rw[HL.out] at hf;simp only[wv,true_and] at hf;obtain⟨rfl,rfl⟩:=hf;have hkm:k<(M.map Prod.fst).length:=(by simpa using hkM)
   have hsn:((M.map Prod.fst).take (k+1)).any q=q M[k].1:=by
    rw[wA hkm,List.any_append,hany]
    simp
   have hat:q M[k].1=true→O=k:=fun h=>by rw[←HO.out];exact ti hkm hany (by rw[ws];exact h)
   have hcall:=HG.out M[k] (wt hkM) wr hbw;obtain⟨p,hp⟩:=e_ (M[k]);rw[hp] at hc hsn hat hcall;obtain⟨c0,c1,c2,c3,c4,c5,c6,c7⟩:=hc;have CH:=h_ hcall;obtain⟨x,hx⟩:=e_ (q p.1);rw[hx] at hsn hat CH;have HS:=h_ hsn;have HA:=h_ hat;clear hp hV hkm hsn hat hcall hx hany
   cases x with
   | true=>
    have:=HA.out (by first | exact rfl | exact trivial);subst this;go_wp2_with (go_at_fn g;refine CH.out.mono ?_;rintro e w1 ⟨rfl,hb⟩);go_wp2_with fail;go_ret;exact⟨rfl,hbw.trans (hb.mono hsz)⟩
   | false=>
    go_wp2_with (go_at_fn g;refine CH.out.mono ?_;rintro e w1 ⟨rfl,hb⟩);have hb2:=hbw.trans (hb.mono hsz);clear hb;go_wp2_with fail;go_roundw
    case rel=>exact⟨k+1,by omega,by go_num,HS.out,hb2⟩
    case measure=>simp[intOf];omega
  ·have he:(M.map Prod.fst).take k=M.map Prod.fst:=ww (by rw[wu,HL.out];omega)
   rw[he] at hany;have:O=-1:=(by rw[←HO.out];exact pn hany);subst this;clear he hany;go_wp2_with fail;go_ret;exact⟨rfl,hbw⟩
theorem qe (p:Im) (Lb:Nat) (t:ByteArray) (w:World) (hc:w.cell? ⟨Lb,0,none⟩=some (.string t)) (hl:Lb<w.heap.size):Calls prog 131 #[itA p,.pointer (some ⟨Lb,0,none⟩)] w (Ret w (.bool (p.1.j==t.data.toList))):=by
 have q0:=(bR w).alloc (wq _) (.cells (itC p).toArray 99);obtain⟨O,hO⟩:=e_ ((p.1.j==t.data.toList))
 have h2:(p.1.j==t.toList)=O:=by rw[Lib.toList_data];exact hO
 rw[hO];clear hO
 have hne:Lb≠w.heap.size:=by omega
 go_enter func131,ntmps131;go_wp2_with fail;go_ret;exact⟨by first | rfl | simp[h2],q0⟩
theorem sq:∀args w,(callFunc 131 args).run prog w=.ok (.enter 131 args) w:=enters_of func131 (by kernel_rfl) rfl
theorem ph (Lb:Nat) (t:ByteArray) (M:List Im) (w:World) (hc:w.cell? ⟨Lb,0,none⟩=some (.string t)) (hl:Lb<w.heap.size):rK (.func (.func 131) #[] #[.pointer (some ⟨Lb,0,none⟩)]) (fun x=>x.j==t.data.toList) M w:=
 ⟨_,_,rfl,sq,fun p _ W hW=>qe p Lb t W (((af hW).1 _ _ hl).trans hc) (Nat.lt_of_lt_of_le hl hW.size)⟩
theorem qD (L:List It) (t:List UInt8):(oO (fun x=>x.j==t) L<0→bO L t=none)∧(0≤oO (fun x=>x.j==t) L→∃k,∃h:k<L.length,oO (fun x=>x.j==t) L=k∧bO L t=some L[k]):=by
 unfold oO bO
 cases h:L.findIdx? fun x=>x.j==t with
 | none=>
  rw[wD] at h;refine⟨fun _=>?_,fun h2=>by simp at h2⟩;rw[List.find?_eq_none];intro x hx;have:=h x hx;rw[this]
  decide
 | some k=>
  refine⟨fun h2=>by simp at h2;omega,fun _=>?_⟩;obtain⟨hk,h1,h2⟩:=wB.1 h;refine⟨k,hk,rfl,?_⟩;rw[List.find?_eq_some_iff_getElem];exact⟨h1,k,hk,rfl,fun j hj=>by simpa using h2 j hj⟩

def tG (w:World) (L:List It) (t:List UInt8) (e:Ending) (w':World):Prop:=
 ∃a c,e=.returned (.tuple #[itA ((bO L t).getD it0,(a,c)),.bool (bO L t).isSome])∧w'.ownsRow w.heap.size 9 1 (.slice a ((bO L t).getD it0).g.length c) ((bO L t).getD it0).g.length (aY ((bO L t).getD it0).g)∧Bl w w'
theorem r9 (v:Value) (ver:Int) (M:List Im) (t:ByteArray) (w:World) (hv:aw v M w) (hM:M.length≤1000) (hg:∀p∈M,p.1.g.length≤1000):
  Calls prog 71 #[.agg #[v,.int .i64 ver],.string t] w (tG w (M.map Prod.fst) t.data.toList):=by
 obtain⟨a0,cap0,hf,-⟩:=hv.form;obtain⟨L,hL⟩:=e_ M.length;rw[hL] at hf hM;subst hf;have r0:=Two.new w (.slice a0 L cap0) (.int .i64 ver) 31;have q0:=(bR w).alloc (wq _) (.cells #[.slice a0 L cap0,.int .i64 ver] 31);obtain⟨W0,hW0⟩:=e_ (w.alloc (.cells #[.slice a0 L cap0,.int .i64 ver] 31))
 have s0:W0.heap.size=w.heap.size+1:=by rw[←hW0];simp
 rw[hW0] at r0 q0;have al:=(bR W0).alloc (wq _) (.cells #[.string t] 9)
 have t1:(W0.alloc (.cells #[.string t] 9)).cell? ⟨w.heap.size+1,0,none⟩=some (.string t):=by rw[←s0];simp
 have r1:=r0.ret al;have q1:=q0.trans (al.mono q0.size);obtain⟨W1,hW1⟩:=e_ (W0.alloc (.cells #[.string t] 9))
 have s1:W1.heap.size=w.heap.size+2:=by rw[←hW1];simp;omega
 rw[hW1] at r1 q1 t1;have al2:=(bR W1).alloc (wq _) (.cells #[.string ⟨#[]⟩,.string ⟨#[]⟩,.slice none 0 0,.bool false,.bool false,.bool false,.bool false,.bool false] 99);have z2:=It8.new W1 (.string ⟨#[]⟩) (.string ⟨#[]⟩) (.slice none 0 0) (.bool false) (.bool false) (.bool false) (.bool false) (.bool false) 99;have r2:=r1.ret al2;have t2:=((af al2).1 (w.heap.size+1) 0 (by omega)).trans t1;have q2:=q1.trans (al2.mono q1.size);obtain⟨W2,hW2⟩:=e_ (W1.alloc (.cells #[.string ⟨#[]⟩,.string ⟨#[]⟩,.slice none 0 0,.bool false,.bool false,.bool false,.bool false,.bool false] 99))
 have s2:W2.heap.size=w.heap.size+3:=by rw[←hW2];simp;omega
 rw[hW2] at z2 r2 t2 q2;rw[s1] at z2
 have HW:Hid (((w.alloc (.cells #[.slice a0 L cap0,.int .i64 ver] 31)).alloc (.cells #[.string t] 9)).alloc (.cells #[.string ⟨#[]⟩,.string ⟨#[]⟩,.slice none 0 0,.bool false,.bool false,.bool false,.bool false,.bool false] 99)=W2):=h_ (by rw[hW0,hW1,hW2])
 have hi:=hv.ret q2;have IX:=h_ (jG (.slice a0 L cap0) (.func (.func 131) #[] #[.pointer (some ⟨w.heap.size+1,0,none⟩)]) (fun x=>x.j==t.data.toList) M W2 hi (by omega) (ph (w.heap.size+1) t M W2 t2 (by omega)));obtain⟨R,hR⟩:=e_ (oO (fun x=>x.j==t.data.toList) (M.map Prod.fst));have hix:=qD (M.map Prod.fst) t.data.toList;rw[hR] at IX hix;have HI:=h_ hi;have HL:=h_ hL;have HG:=h_ hg;have S2:=h_ s2;obtain⟨l,c0,c1,f0,f1⟩:=id r2;clear hW0 hW1 hW2 s0 s1 s2 al al2 r0 r1 q0 q1 t1 hi hv hL hg hR t2
 by_cases hneg:R<0
 ·have hn:=hix.1 hneg
  have HN:=h_ hn;unfold tG;rw[hn];clear hix hn;go_enter func71,ntmps71;go_wp2_with fail;rw[HW.out];refine IX.out.mono ?_;rintro e w3 ⟨rfl,hb⟩;clear l c0 c1 f0 f1;have z3:=z2.ret hb;have q3:=q2.trans (hb.mono q2.size);clear hb z2 r2 q2;obtain⟨m,d0,d1,d2,d3,d4,d5,d6,d7,g0,g1,g2,g3,g4,g5,g6,g7⟩:=id z3;go_wp2_with fail;refine bodyPost_ret (dQ rfl rfl rfl (z3.store)) rfl ⟨none,0,rfl,World.ownsRow_nil _ _ _ _,cE q3 (by omega)⟩
 ·obtain⟨k,hk,rfl,hfi⟩:=hix.2 (by omega)
  rw[wu] at hk;rw[ws] at hfi
  have hkL:k<L:=by rw[←HL.out];exact hk
  have hpm:=wt hk;obtain⟨b,off,cp,hf,hb0,hc⟩:=HI.out.cell hk;have hgr:=HI.out.2 _ hpm;have hgz:=HG.out _ hpm;rw[HL.out] at hf;simp only[wv,true_and] at hf;obtain⟨rfl,rfl⟩:=hf;obtain⟨p,hp⟩:=e_ (M[k]);rw[hp] at hfi hc hgr hgz;unfold tG;rw[hfi]
  have TW:=h_ fun (w':World) (hb:Bl W2 w')=>od p w' (hgr.ret hb) (by omega)
  have HC:=h_ hc;have HB0:=h_ hb0
  have wk3:((k:Nat):Int)<(L:Int):=by omega
  clear hix hfi hc hgr hgz hp hpm hneg hk hb0;go_enter func71,ntmps71;go_wp2_with fail;rw[HW.out];refine IX.out.mono ?_;rintro e w3 ⟨rfl,hb⟩;clear l c0 c1 f0 f1;have z3:=z2.ret hb;have r3:=r2.ret hb;have q3:=q2.trans (hb.mono q2.size);obtain⟨i0,i1,i2,i3,i4,i5,i6,i7⟩:=HC.out;obtain⟨qb,-⟩:=af hb;have k0:=(qb _ _ HB0.out).trans i0;have k1:=(qb _ _ HB0.out).trans i1;have k2:=(qb _ _ HB0.out).trans i2;have k3:=(qb _ _ HB0.out).trans i3;have k4:=(qb _ _ HB0.out).trans i4;have k5:=(qb _ _ HB0.out).trans i5;have k6:=(qb _ _ HB0.out).trans i6;have k7:=(qb _ _ HB0.out).trans i7;have TC:=h_ (TW.out _ hb);have hs3:=hb.size;rw[S2.out] at hs3;clear hb z2 r2 q2 i0 i1 i2 i3 i4 i5 i6 i7 qb;obtain⟨l,c0,c1,f0,f1⟩:=id r3;go_wp2_with fail;refine TC.out.mono ?_;rintro e w4 ⟨a',c',rfl,hown,hb⟩;clear k0 k1 k2 k3 k4 k5 k6 k7 l c0 c1 f0 f1;have z4:=z3.ret hb;have q4:=q3.trans (hb.mono q3.size);have ho:=ir (o:=0) (u0:=.string ⟨p.1.j.toArray⟩) (u1:=.string ⟨p.1.n.toArray⟩) (u2:=.slice a' p.1.g.length c') (u3:=.bool p.1.s.1) (u4:=.bool p.1.s.2.1) (u5:=.bool p.1.s.2.2.1) (u6:=.bool p.1.s.2.2.2) (u7:=.bool p.1.k) hown (g:=w.heap.size+2) (fun e=>by have:=(hown.lt _ e).1;omega);have HO:=h_ (ho.mono (base':=w.heap.size) (by omega));clear hb z3 r3 q3 hown ho;obtain⟨m,d0,d1,d2,d3,d4,d5,d6,d7,g0,g1,g2,g3,g4,g5,g6,g7⟩:=id z4;go_wp2_with fail;refine bodyPost_ret (dQ rfl rfl rfl (z4.store)) rfl ⟨a',c',rfl,HO.out,cE q4 (by omega)⟩

theorem pv (v u:Value) (xs ys:List (List UInt8)) (w:World) (hv:aB v xs w) (hu:aB u ys w) (hx:xs.length≤10000) (hy:ys.length≤10000):
  Calls prog 141 #[v,u] w (Ret w (.bool (decide (xs=ys)))):=by
 have C:=h_ (gm v u xs ys w hv.1 hu.1 (by omega) (by omega));obtain⟨_,a,c,rfl,_⟩:=hv;obtain⟨_,b,d,rfl,_⟩:=hu;obtain⟨O,hO⟩:=e_ (decide (xs=ys));rw[hO] at C ⊢;clear hO;obtain⟨X,hX⟩:=e_ xs.length;obtain⟨Y,hY⟩:=e_ ys.length;rw[hX,hY] at C ⊢;clear hX hY;go_enter func141,ntmps141;go_wp2_with fail;refine C.out.mono ?_;rintro e w1 ⟨rfl,hb⟩;go_wp2_with fail;go_ret;exact⟨rfl,hb⟩
theorem uo (v u:Value) (xs ys:List (List UInt8)) (w:World) (hv:aB v xs w) (hu:aB u ys w) (hx:xs.length≤10000) (_hy:ys.length≤10000):
  Calls prog 21 #[v,u] w (Ret w (.bool (decide (xs=ys)))):=om v u xs ys w hv.1 hu.1 (by omega)
instance itDec:DecidableEq It:=fun x y=>decidable_of_iff (x.j=y.j∧x.n=y.n∧x.g=y.g∧x.s=y.s∧x.k=y.k) (by
 obtain⟨j,n,g,s,k⟩:=x;obtain⟨j',n',g',s',k'⟩:=y
 constructor
 ·rintro ⟨h1,h2,h3,h4,h5⟩
  rw[show j=j' from h1,show n=n' from h2,show g=g' from h3,show s=s' from h4,show k=k' from h5]
 ·intro h
  injection h with h1 h
  injection h with h2 h
  injection h with h3 h
  injection h with h4 h
  exact⟨h1,h2,h3,h4,h⟩)
theorem uj (x y:It):decide (x=y)=(decide (x.j=y.j)&&(decide (x.n=y.n)&&(decide (x.g=y.g)&&(decide (x.s=y.s)&&(x.k==y.k))))):=by
 obtain⟨j,n,g,s,k⟩:=x;obtain⟨j',n',g',s',k'⟩:=y;rw[Bool.eq_iff_iff];simp only[decide_eq_true_eq,Bool.and_eq_true,beq_iff_eq]
 constructor
 ·intro h
  injection h with h1 h
  injection h with h2 h
  injection h with h3 h
  injection h with h4 h
  exact⟨h1,h2,h3,h4,h⟩
 ·rintro ⟨h1,h2,h3,h4,h5⟩
  rw[show j=j' from h1,show n=n' from h2,show g=g' from h3,show s=s' from h4,show k=k' from h5]
theorem gR (a b:List UInt8):((⟨a.toArray⟩:ByteArray).toList==(⟨b.toArray⟩:ByteArray).toList)=decide (a=b):=nY a b
theorem mg (j n j' n':ByteArray) (ga gb:Option Addr) (L ca L' cb:Nat) (a b c d k a' b' c' d' k' E1 E2 G:Bool) (w:World) (h1:(j.toList==j'.toList)=E1) (h2:(n.toList==n'.toList)=E2)
  (CG:∀w':World,Bl w w'→Calls prog 141 #[.slice ga L ca,.slice gb L' cb] w' (Ret w' (.bool G))):
  Calls prog 140 #[.agg #[.string j,.string n,.slice ga L ca,.bool a,.bool b,.bool c,.bool d,.bool k],.agg #[.string j',.string n',.slice gb L' cb,.bool a',.bool b',.bool c',.bool d',.bool k']] w (Ret w (.bool (E1&&(E2&&(G&&(decide ((a,b,c,d)=(a',b',c',d'))&&(k==k'))))))):=by
 have x0:=It8.new w (.string j) (.string n) (.slice ga L ca) (.bool a) (.bool b) (.bool c) (.bool d) (.bool k) 99;have q0:=(bR w).alloc (wq _) (.cells #[.string j,.string n,.slice ga L ca,.bool a,.bool b,.bool c,.bool d,.bool k] 99);obtain⟨W0,hW0⟩:=e_ (w.alloc (.cells #[.string j,.string n,.slice ga L ca,.bool a,.bool b,.bool c,.bool d,.bool k] 99))
 have s0:W0.heap.size=w.heap.size+1:=by rw[←hW0];simp
 rw[hW0] at x0 q0;have al:=(bR W0).alloc (wq _) (.cells #[.string j',.string n',.slice gb L' cb,.bool a',.bool b',.bool c',.bool d',.bool k'] 99);have y1:=It8.new W0 (.string j') (.string n') (.slice gb L' cb) (.bool a') (.bool b') (.bool c') (.bool d') (.bool k') 99;have x1:=x0.ret al;have q1:=q0.trans (al.mono q0.size);rw[s0] at y1;obtain⟨W1,hW1⟩:=e_ (W0.alloc (.cells #[.string j',.string n',.slice gb L' cb,.bool a',.bool b',.bool c',.bool d',.bool k'] 99));rw[hW1] at x1 y1 q1
 have HW:Hid ((w.alloc (.cells #[.string j,.string n,.slice ga L ca,.bool a,.bool b,.bool c,.bool d,.bool k] 99)).alloc (.cells #[.string j',.string n',.slice gb L' cb,.bool a',.bool b',.bool c',.bool d',.bool k'] 99)=W1):=h_ (by rw[hW0,hW1])
 have HG:=h_ CG;have EQ:=bA;have EG:=et;clear CG hW0 hW1 s0 al x0 q0
 cases E1 with
 | false=>
  obtain⟨l,c0,c1,c2,c3,c4,c5,c6,c7,-,-,-,-,-,-,-,-⟩:=id x1;obtain⟨m,d0,d1,d2,d3,d4,d5,d6,d7,-,-,-,-,-,-,-,-⟩:=id y1;go_enter func140,ntmps140;go_wp2_with fail;rw[HW.out];go_wp2_with fail;go_ret;exact⟨rfl,q1⟩
 | true=>
  cases E2 with
  | false=>
   obtain⟨l,c0,c1,c2,c3,c4,c5,c6,c7,-,-,-,-,-,-,-,-⟩:=id x1;obtain⟨m,d0,d1,d2,d3,d4,d5,d6,d7,-,-,-,-,-,-,-,-⟩:=id y1;go_enter func140,ntmps140;go_wp2_with fail;rw[HW.out];go_wp2_with fail;go_ret;exact⟨rfl,q1⟩
  | true=>
   cases G with
   | false=>
    obtain⟨l,c0,c1,c2,c3,c4,c5,c6,c7,-,-,-,-,-,-,-,-⟩:=id x1;obtain⟨m,d0,d1,d2,d3,d4,d5,d6,d7,-,-,-,-,-,-,-,-⟩:=id y1;go_enter func140,ntmps140;go_wp2_with fail;rw[HW.out];refine(HG.out _ q1).mono ?_;rintro e w2 ⟨rfl,hb⟩;clear l c0 c1 c2 c3 c4 c5 c6 c7 m d0 d1 d2 d3 d4 d5 d6 d7;have x2:=x1.ret hb;have y2:=y1.ret hb;have q2:=q1.trans (hb.mono q1.size);clear hb x1 y1;obtain⟨l,c0,c1,c2,c3,c4,c5,c6,c7,-,-,-,-,-,-,-,-⟩:=x2;obtain⟨m,d0,d1,d2,d3,d4,d5,d6,d7,-,-,-,-,-,-,-,-⟩:=y2;go_wp2_with fail;go_ret;exact⟨by first | rfl | simp,q2⟩
   | true=>
    cases hs2:decide ((a,b,c,d)=(a',b',c',d')) with
    | true=>
     have EQ2:=fun w=>bA a b c d a' b' c' d' w
     rw[hs2] at EQ2;clear hs2 EQ;obtain⟨l,c0,c1,c2,c3,c4,c5,c6,c7,-,-,-,-,-,-,-,-⟩:=id x1;obtain⟨m,d0,d1,d2,d3,d4,d5,d6,d7,-,-,-,-,-,-,-,-⟩:=id y1;go_enter func140,ntmps140;go_wp2_with fail;rw[HW.out];refine(HG.out _ q1).mono ?_;rintro e w2 ⟨rfl,hb⟩;clear l c0 c1 c2 c3 c4 c5 c6 c7 m d0 d1 d2 d3 d4 d5 d6 d7;have x2:=x1.ret hb;have y2:=y1.ret hb;have q2:=q1.trans (hb.mono q1.size);clear hb x1 y1;obtain⟨l,c0,c1,c2,c3,c4,c5,c6,c7,-,-,-,-,-,-,-,-⟩:=x2;obtain⟨m,d0,d1,d2,d3,d4,d5,d6,d7,-,-,-,-,-,-,-,-⟩:=y2;go_wp2_with fail;go_ret;exact⟨by first | rfl | simp,q2⟩
    | false=>
     have EQ2:=fun w=>bA a b c d a' b' c' d' w
     rw[hs2] at EQ2;clear hs2 EQ;obtain⟨l,c0,c1,c2,c3,c4,c5,c6,c7,-,-,-,-,-,-,-,-⟩:=id x1;obtain⟨m,d0,d1,d2,d3,d4,d5,d6,d7,-,-,-,-,-,-,-,-⟩:=id y1;go_enter func140,ntmps140;go_wp2_with fail;rw[HW.out];refine(HG.out _ q1).mono ?_;rintro e w2 ⟨rfl,hb⟩;clear l c0 c1 c2 c3 c4 c5 c6 c7 m d0 d1 d2 d3 d4 d5 d6 d7;have x2:=x1.ret hb;have y2:=y1.ret hb;have q2:=q1.trans (hb.mono q1.size);clear hb x1 y1;obtain⟨l,c0,c1,c2,c3,c4,c5,c6,c7,-,-,-,-,-,-,-,-⟩:=x2;obtain⟨m,d0,d1,d2,d3,d4,d5,d6,d7,-,-,-,-,-,-,-,-⟩:=y2;go_wp2_with fail;go_ret;exact⟨by first | rfl | simp,q2⟩
theorem p6 (p p':Im) (w:World) (h:aB (gvI p) p.1.g w) (h':aB (gvI p') p'.1.g w) (z:p.1.g.length≤10000) (z':p'.1.g.length≤10000):
  Calls prog 140 #[itA p,itA p'] w (Ret w (.bool (decide (p.1=p'.1)))):=by
 rw[uj];exact mg _ _ _ _ _ _ _ _ _ _ _ _ _ _ _ _ _ _ _ _ _ _ _ w (gR _ _) (gR _ _) (fun w' hb=>pv _ _ _ _ w' (h.ret hb) (h'.ret hb) z z')
theorem gd (j n j' n':ByteArray) (ga gb:Option Addr) (L ca L' cb:Nat) (a b c d k a' b' c' d' k' E1 E2 G:Bool) (w:World) (h1:(j.toList==j'.toList)=E1) (h2:(n.toList==n'.toList)=E2)
  (CG:∀w':World,Bl w w'→Calls prog 21 #[.slice ga L ca,.slice gb L' cb] w' (Ret w' (.bool G))):
  Calls prog 124 #[.agg #[.string j,.string n,.slice ga L ca,.bool a,.bool b,.bool c,.bool d,.bool k],.agg #[.string j',.string n',.slice gb L' cb,.bool a',.bool b',.bool c',.bool d',.bool k']] w (Ret w (.bool (E1&&(E2&&(G&&(decide ((a,b,c,d)=(a',b',c',d'))&&(k==k'))))))):=by
 have x0:=It8.new w (.string j) (.string n) (.slice ga L ca) (.bool a) (.bool b) (.bool c) (.bool d) (.bool k) 99;have q0:=(bR w).alloc (wq _) (.cells #[.string j,.string n,.slice ga L ca,.bool a,.bool b,.bool c,.bool d,.bool k] 99);obtain⟨W0,hW0⟩:=e_ (w.alloc (.cells #[.string j,.string n,.slice ga L ca,.bool a,.bool b,.bool c,.bool d,.bool k] 99))
 have s0:W0.heap.size=w.heap.size+1:=by rw[←hW0];simp
 rw[hW0] at x0 q0;have al:=(bR W0).alloc (wq _) (.cells #[.string j',.string n',.slice gb L' cb,.bool a',.bool b',.bool c',.bool d',.bool k'] 99);have y1:=It8.new W0 (.string j') (.string n') (.slice gb L' cb) (.bool a') (.bool b') (.bool c') (.bool d') (.bool k') 99;have x1:=x0.ret al;have q1:=q0.trans (al.mono q0.size);rw[s0] at y1;obtain⟨W1,hW1⟩:=e_ (W0.alloc (.cells #[.string j',.string n',.slice gb L' cb,.bool a',.bool b',.bool c',.bool d',.bool k'] 99));rw[hW1] at x1 y1 q1
 have HW:Hid ((w.alloc (.cells #[.string j,.string n,.slice ga L ca,.bool a,.bool b,.bool c,.bool d,.bool k] 99)).alloc (.cells #[.string j',.string n',.slice gb L' cb,.bool a',.bool b',.bool c',.bool d',.bool k'] 99)=W1):=h_ (by rw[hW0,hW1])
 have HG:=h_ CG;have EQ:=bA;have EG:=et;clear CG hW0 hW1 s0 al x0 q0
 cases E1 with
 | false=>
  obtain⟨l,c0,c1,c2,c3,c4,c5,c6,c7,-,-,-,-,-,-,-,-⟩:=id x1;obtain⟨m,d0,d1,d2,d3,d4,d5,d6,d7,-,-,-,-,-,-,-,-⟩:=id y1;go_enter func124,ntmps124;go_wp2_with fail;rw[HW.out];go_wp2_with fail;go_ret;exact⟨rfl,q1⟩
 | true=>
  cases E2 with
  | false=>
   obtain⟨l,c0,c1,c2,c3,c4,c5,c6,c7,-,-,-,-,-,-,-,-⟩:=id x1;obtain⟨m,d0,d1,d2,d3,d4,d5,d6,d7,-,-,-,-,-,-,-,-⟩:=id y1;go_enter func124,ntmps124;go_wp2_with fail;rw[HW.out];go_wp2_with fail;go_ret;exact⟨rfl,q1⟩
  | true=>
   cases G with
   | false=>
    obtain⟨l,c0,c1,c2,c3,c4,c5,c6,c7,-,-,-,-,-,-,-,-⟩:=id x1;obtain⟨m,d0,d1,d2,d3,d4,d5,d6,d7,-,-,-,-,-,-,-,-⟩:=id y1;go_enter func124,ntmps124;go_wp2_with fail;rw[HW.out];refine(HG.out _ q1).mono ?_;rintro e w2 ⟨rfl,hb⟩;clear l c0 c1 c2 c3 c4 c5 c6 c7 m d0 d1 d2 d3 d4 d5 d6 d7;have x2:=x1.ret hb;have y2:=y1.ret hb;have q2:=q1.trans (hb.mono q1.size);clear hb x1 y1;obtain⟨l,c0,c1,c2,c3,c4,c5,c6,c7,-,-,-,-,-,-,-,-⟩:=x2;obtain⟨m,d0,d1,d2,d3,d4,d5,d6,d7,-,-,-,-,-,-,-,-⟩:=y2;go_wp2_with fail;go_ret;exact⟨by first | rfl | simp,q2⟩
   | true=>
    cases hs2:decide ((a,b,c,d)=(a',b',c',d')) with
    | true=>
     have EQ2:=fun w=>bA a b c d a' b' c' d' w
     rw[hs2] at EQ2;clear hs2 EQ;obtain⟨l,c0,c1,c2,c3,c4,c5,c6,c7,-,-,-,-,-,-,-,-⟩:=id x1;obtain⟨m,d0,d1,d2,d3,d4,d5,d6,d7,-,-,-,-,-,-,-,-⟩:=id y1;go_enter func124,ntmps124;go_wp2_with fail;rw[HW.out];refine(HG.out _ q1).mono ?_;rintro e w2 ⟨rfl,hb⟩;clear l c0 c1 c2 c3 c4 c5 c6 c7 m d0 d1 d2 d3 d4 d5 d6 d7;have x2:=x1.ret hb;have y2:=y1.ret hb;have q2:=q1.trans (hb.mono q1.size);clear hb x1 y1;obtain⟨l,c0,c1,c2,c3,c4,c5,c6,c7,-,-,-,-,-,-,-,-⟩:=x2;obtain⟨m,d0,d1,d2,d3,d4,d5,d6,d7,-,-,-,-,-,-,-,-⟩:=y2;go_wp2_with fail;go_ret;exact⟨by first | rfl | simp,q2⟩
    | false=>
     have EQ2:=fun w=>bA a b c d a' b' c' d' w
     rw[hs2] at EQ2;clear hs2 EQ;obtain⟨l,c0,c1,c2,c3,c4,c5,c6,c7,-,-,-,-,-,-,-,-⟩:=id x1;obtain⟨m,d0,d1,d2,d3,d4,d5,d6,d7,-,-,-,-,-,-,-,-⟩:=id y1;go_enter func124,ntmps124;go_wp2_with fail;rw[HW.out];refine(HG.out _ q1).mono ?_;rintro e w2 ⟨rfl,hb⟩;clear l c0 c1 c2 c3 c4 c5 c6 c7 m d0 d1 d2 d3 d4 d5 d6 d7;have x2:=x1.ret hb;have y2:=y1.ret hb;have q2:=q1.trans (hb.mono q1.size);clear hb x1 y1;obtain⟨l,c0,c1,c2,c3,c4,c5,c6,c7,-,-,-,-,-,-,-,-⟩:=x2;obtain⟨m,d0,d1,d2,d3,d4,d5,d6,d7,-,-,-,-,-,-,-,-⟩:=y2;go_wp2_with fail;go_ret;exact⟨by first | rfl | simp,q2⟩
theorem jO (p p':Im) (w:World) (h:aB (gvI p) p.1.g w) (h':aB (gvI p') p'.1.g w) (z:p.1.g.length≤10000) (z':p'.1.g.length≤10000):
  Calls prog 124 #[itA p,itA p'] w (Ret w (.bool (decide (p.1=p'.1)))):=by
 rw[uj];exact gd _ _ _ _ _ _ _ _ _ _ _ _ _ _ _ _ _ _ _ _ _ _ _ w (gR _ _) (gR _ _) (fun w' hb=>uo _ _ _ _ w' (h.ret hb) (h'.ret hb) z z')

theorem sw:∀args w,(callFunc 140 args).run prog w=.ok (.enter 140 args) w:=enters_of func140 (by kernel_rfl) rfl
theorem ev {α:Type} {A B:List α} {k:Nat} (hA:k<A.length) (hB:k<B.length) (h:A.take k=B.take k) (he:A[k]=B[k]):A.take (k+1)=B.take (k+1):=by
 rw[wA hA,wA hB,h,he]
theorem uf {α:Type} {A B:List α} {k:Nat} (hA:k<A.length) (hB:k<B.length) (he:A[k]≠B[k]):A≠B:=fun h=>by
 subst h;exact he rfl
theorem ju (v u:Value) (M K:List Im) (w:World) (hv:aw v M w) (hu:aw u K w) (hM:M.length≤10000) (hK:K.length≤10000) (hg:∀p∈M,p.1.g.length≤10000) (hk:∀p∈K,p.1.g.length≤10000):
  Calls prog 142 #[v,u,.func (.func 140) #[] #[]] w (Ret w (.bool (decide (M.map Prod.fst=K.map Prod.fst)))):=by
 obtain⟨a,ca,hf1,-⟩:=hv.form;obtain⟨b,cb,hf2,-⟩:=hu.form;obtain⟨O,hO⟩:=e_ (decide (M.map Prod.fst=K.map Prod.fst));obtain⟨L,hL⟩:=e_ M.length;obtain⟨L',hL'⟩:=e_ K.length;rw[hL] at hf1 hM;rw[hL'] at hf2 hK;rw[hO];subst hf1 hf2
 by_cases hlen:L=L'
 ·subst hlen
  have HO:=h_ hO;have HL:=h_ hL;have HL':=h_ hL';have HV:=h_ hv;have HU:=h_ hu;have HG:=h_ hg;have HK:=h_ hk;have eg:=sw;clear hO hL hL' hv hu hg hk;go_enter func142,ntmps142;go_wp2_with fail;go_loopw [17] (fun i wx=>∃k:Nat,k≤L∧i=.int .i64 k∧(M.map Prod.fst).take k=(K.map Prod.fst).take k∧Bl w wx) (fun i _=>L-(intOf i).toNat)
  case atStart=>exact⟨0,wz _,rfl,rfl,bQ _⟩
  case round=>
   obtain⟨k,hk,rfl,htk,hbw⟩:=hrel;have hsz:=hbw.size
   by_cases hlt:k<L
   ·have hkM : k < M.length := by rw [HL.out]; exact hlt
    have hkK:k<K.length:=(by rw[HL'.out];exact hlt);have hV:=HV.out.ret hbw;have hU:=HU.out.ret hbw;obtain⟨B,off,cp,hf,hb0,hc⟩:=hV.cell hkM;rw[HL.out] at hf;simp only[wv,true_and] at hf;obtain⟨rfl,rfl⟩:=hf;obtain⟨B',off',cp',hf,hb0',hc'⟩:=hU.cell hkK;rw[HL'.out] at hf;simp only[wv,true_and] at hf;obtain⟨rfl,rfl⟩:=hf;have hkm:k<(M.map Prod.fst).length:=(by simpa using hkM);have hkk:k<(K.map Prod.fst).length:=(by simpa using hkK)
    have hst:M[k].1=K[k].1→(M.map Prod.fst).take (k+1)=(K.map Prod.fst).take (k+1):=fun h=>ev hkm hkk htk (by rw[ws,ws];exact h)
    have hno:M[k].1≠K[k].1→O=false:=fun h=>by
     rw[←HO.out];exact decide_eq_false (uf hkm hkk (by rw[ws,ws];exact h))
    have g1:=hV.2 M[k] (wt hkM);have g2:=hU.2 K[k] (wt hkK);have z1:=HG.out M[k] (wt hkM);have z2:=HK.out K[k] (wt hkK);obtain⟨p,hp⟩:=e_ (M[k]);obtain⟨p',hp'⟩:=e_ (K[k]);rw[hp] at hc hst hno g1 z1;rw[hp'] at hc' hst hno g2 z2;obtain⟨c0,c1,c2,c3,c4,c5,c6,c7⟩:=hc;obtain⟨d0,d1,d2,d3,d4,d5,d6,d7⟩:=hc'
    have C:=fun (w':World) (hb:Bl wr w')=>p6 p p' w' (g1.ret hb) (g2.ret hb) z1 z2
    have CH:=h_ C;have HS:=h_ hst;have HN:=h_ hno;clear hp hp' hV hU hkm hkk hst hno g1 g2 z1 z2 C htk
    by_cases he:p.1=p'.1
    ·have CC:∀(w':World),Bl wr w'→Calls prog 140 #[itA p,itA p'] w' (Ret w' (.bool true)):=fun w' hb=>by
      have:=CH.out w' hb;rw[decide_eq_true he] at this;exact this
     have CCH:=h_ CC;have HT:=h_ (HS.out he);clear CC CH HS HN he;have al:=(bR wr).alloc (wq _) (.cells (itC p).toArray 99);have al2:=al.alloc al.size (.cells (itC p').toArray 99);go_wp2_with (go_at_fn 140;refine(CCH.out _ al2).mono ?_;rintro e w2 ⟨rfl,hb⟩);have q2:=(hbw.trans (al2.mono hsz)).trans (hb.mono (wy hsz al2.size));clear hb al al2;go_wp2_with fail;go_roundw
     case rel=>exact⟨k+1,by omega,by go_num,HT.out,q2⟩
     case measure=>simp[intOf];omega
    ·have CC:∀(w':World),Bl wr w'→Calls prog 140 #[itA p,itA p'] w' (Ret w' (.bool false)):=fun w' hb=>by
      have:=CH.out w' hb;rw[decide_eq_false he] at this;exact this
     have CCH:=h_ CC;have:=HN.out he;subst this;clear CC CH HS HN he;have al:=(bR wr).alloc (wq _) (.cells (itC p).toArray 99);have al2:=al.alloc al.size (.cells (itC p').toArray 99);go_wp2_with (go_at_fn 140;refine(CCH.out _ al2).mono ?_;rintro e w2 ⟨rfl,hb⟩);have q2:=(hbw.trans (al2.mono hsz)).trans (hb.mono (wy hsz al2.size));clear hb al al2;go_wp2_with fail;go_ret;exact⟨rfl,q2⟩
   ·have e1:(M.map Prod.fst).take k=M.map Prod.fst:=ww (by rw[wu,HL.out];omega)
    have e2:(K.map Prod.fst).take k=K.map Prod.fst:=ww (by rw[wu,HL'.out];omega)
    rw[e1,e2] at htk;have:O=true:=(by rw[←HO.out];exact decide_eq_true htk);subst this;clear e1 e2 htk;go_wp2_with fail;go_ret;exact⟨rfl,hbw⟩
 ·have:O=false:=by
   rw[←hO]
   refine decide_eq_false fun h=>hlen ?_
   have:=congrArg wE h;rw[wu,wu,hL,hL'] at this;exact this
  subst this
  have e0:((L:Int)==(L':Int))=false:=beq_eq_false_iff_ne.2 (by omega)
  clear hO hL hL' hv hu hg hk;go_enter func142,ntmps142;go_wp2_with fail;go_ret;exact⟨rfl,bQ _⟩
theorem iG (v u:Value) (M K:List Im) (w:World) (hv:aw v M w) (hu:aw u K w) (hM:M.length≤10000) (hK:K.length≤10000) (hg:∀p∈M,p.1.g.length≤10000) (hk:∀p∈K,p.1.g.length≤10000):
  Calls prog 63 #[v,u] w (Ret w (.bool (decide (M.map Prod.fst=K.map Prod.fst)))):=by
 obtain⟨a,ca,hf1,-⟩:=hv.form;obtain⟨b,cb,hf2,-⟩:=hu.form;obtain⟨O,hO⟩:=e_ (decide (M.map Prod.fst=K.map Prod.fst));obtain⟨L,hL⟩:=e_ M.length;obtain⟨L',hL'⟩:=e_ K.length;rw[hL] at hf1 hM;rw[hL'] at hf2 hK;rw[hO];subst hf1 hf2
 by_cases hlen:L=L'
 ·subst hlen
  have HO:=h_ hO;have HL:=h_ hL;have HL':=h_ hL';have HV:=h_ hv;have HU:=h_ hu;have HG:=h_ hg;have HK:=h_ hk;clear hO hL hL' hv hu hg hk;go_enter func63,ntmps63;go_wp2_with fail;go_loopw [5] (fun i wx=>∃k:Nat,k≤L∧i=.int .i64 k∧(M.map Prod.fst).take k=(K.map Prod.fst).take k∧Bl w wx) (fun i _=>L-(intOf i).toNat)
  case atStart=>exact⟨0,wz _,rfl,rfl,bQ _⟩
  case round=>
   obtain⟨k,hk,rfl,htk,hbw⟩:=hrel;have hsz:=hbw.size
   by_cases hlt:k<L
   ·have hkM : k < M.length := by rw [HL.out]; exact hlt
    have hkK:k<K.length:=(by rw[HL'.out];exact hlt);have hV:=HV.out.ret hbw;have hU:=HU.out.ret hbw;obtain⟨B,off,cp,hf,hb0,hc⟩:=hV.cell hkM;rw[HL.out] at hf;simp only[wv,true_and] at hf;obtain⟨rfl,rfl⟩:=hf;obtain⟨B',off',cp',hf,hb0',hc'⟩:=hU.cell hkK;rw[HL'.out] at hf;simp only[wv,true_and] at hf;obtain⟨rfl,rfl⟩:=hf;have hkm:k<(M.map Prod.fst).length:=(by simpa using hkM);have hkk:k<(K.map Prod.fst).length:=(by simpa using hkK)
    have hst:M[k].1=K[k].1→(M.map Prod.fst).take (k+1)=(K.map Prod.fst).take (k+1):=fun h=>ev hkm hkk htk (by rw[ws,ws];exact h)
    have hno:M[k].1≠K[k].1→O=false:=fun h=>by
     rw[←HO.out];exact decide_eq_false (uf hkm hkk (by rw[ws,ws];exact h))
    have g1:=hV.2 M[k] (wt hkM);have g2:=hU.2 K[k] (wt hkK);have z1:=HG.out M[k] (wt hkM);have z2:=HK.out K[k] (wt hkK);obtain⟨p,hp⟩:=e_ (M[k]);obtain⟨p',hp'⟩:=e_ (K[k]);rw[hp] at hc hst hno g1 z1;rw[hp'] at hc' hst hno g2 z2;obtain⟨c0,c1,c2,c3,c4,c5,c6,c7⟩:=hc;obtain⟨d0,d1,d2,d3,d4,d5,d6,d7⟩:=hc'
    have C:=fun (w':World) (hb:Bl wr w')=>jO p p' w' (g1.ret hb) (g2.ret hb) z1 z2
    have CH:=h_ C;have HS:=h_ hst;have HN:=h_ hno;clear hp hp' hV hU hkm hkk hst hno g1 g2 z1 z2 C htk
    by_cases he:p.1=p'.1
    ·have CC:∀(w':World),Bl wr w'→Calls prog 124 #[itA p,itA p'] w' (Ret w' (.bool true)):=fun w' hb=>by
      have:=CH.out w' hb;rw[decide_eq_true he] at this;exact this
     have CCH:=h_ CC;have HT:=h_ (HS.out he);clear CC CH HS HN he;go_wp2_with fail;have bd:=(bR wr).drew;refine wp_region_held_drew (S:=fun w'=>w'.cell? ⟨B,off+k*8,none⟩=some (.string ⟨p.1.j.toArray⟩)∧w'.cell? ⟨B,off+k*8+1,none⟩=some (.string ⟨p.1.n.toArray⟩)∧w'.cell? ⟨B,off+k*8+2,none⟩=some (gvI p)∧w'.cell? ⟨B,off+k*8+3,none⟩=some (.bool p.1.s.1)∧w'.cell? ⟨B,off+k*8+4,none⟩=some (.bool p.1.s.2.1)∧w'.cell? ⟨B,off+k*8+5,none⟩=some (.bool p.1.s.2.2.1)∧w'.cell? ⟨B,off+k*8+6,none⟩=some (.bool p.1.s.2.2.2)∧w'.cell? ⟨B,off+k*8+7,none⟩=some (.bool p.1.k)∧w'.cell? ⟨B',off'+k*8,none⟩=some (.string ⟨p'.1.j.toArray⟩)∧w'.cell? ⟨B',off'+k*8+1,none⟩=some (.string ⟨p'.1.n.toArray⟩)∧w'.cell? ⟨B',off'+k*8+2,none⟩=some (gvI p')∧w'.cell? ⟨B',off'+k*8+3,none⟩=some (.bool p'.1.s.1)∧w'.cell? ⟨B',off'+k*8+4,none⟩=some (.bool p'.1.s.2.1)∧w'.cell? ⟨B',off'+k*8+5,none⟩=some (.bool p'.1.s.2.2.1)∧w'.cell? ⟨B',off'+k*8+6,none⟩=some (.bool p'.1.s.2.2.2)∧w'.cell? ⟨B',off'+k*8+7,none⟩=some (.bool p'.1.k)) (by kernel_rfl) ⟨c0,c1,c2,c3,c4,c5,c6,c7,d0,d1,d2,d3,d4,d5,d6,d7⟩ (fun hH=>?_);refine rS [(0,some 17),(1,some 18),(2,some 19),(3,some 20),(4,some 21),(5,some 22),(6,some 23),(7,some 24)] ?_
     iterate 8 refine aS ?_
     refine rE ?_
     refine aC (i:=8) fun K hK=>?_
     go_simp;refine(CCH.out _ bd).mono ?_;rintro e w2 ⟨rfl,hb⟩;have q2:=(hbw.trans (bd.mono hsz)).trans (hb.mono (wy hsz bd.size));obtain⟨qb,-⟩:=af (bd.trans (hb.mono bd.size));go_simp;clear hH;refine hK.out _ _ ⟨(qb _ _ hb0).trans c0,(qb _ _ hb0).trans c1,(qb _ _ hb0).trans c2,(qb _ _ hb0).trans c3,(qb _ _ hb0).trans c4,(qb _ _ hb0).trans c5,(qb _ _ hb0).trans c6,(qb _ _ hb0).trans c7,(qb _ _ hb0').trans d0,(qb _ _ hb0').trans d1,(qb _ _ hb0').trans d2,(qb _ _ hb0').trans d3,(qb _ _ hb0').trans d4,(qb _ _ hb0').trans d5,(qb _ _ hb0').trans d6,(qb _ _ hb0').trans d7⟩ (fun hH=>?_);clear hK K qb hb bd;refine rS [(9,some 26)] ?_;refine aS ?_;refine rE ?_;refine aD ?_;go_wp2_with fail;go_roundw
     case rel=>exact⟨k+1,by omega,by go_num,HT.out,q2⟩
     case measure=>simp[intOf];omega
    ·have CC:∀(w':World),Bl wr w'→Calls prog 124 #[itA p,itA p'] w' (Ret w' (.bool false)):=fun w' hb=>by
      have:=CH.out w' hb;rw[decide_eq_false he] at this;exact this
     have CCH:=h_ CC;have:=HN.out he;subst this;clear CC CH HS HN he;go_wp2_with fail;have bd:=(bR wr).drew;refine wp_region_held_drew (S:=fun w'=>w'.cell? ⟨B,off+k*8,none⟩=some (.string ⟨p.1.j.toArray⟩)∧w'.cell? ⟨B,off+k*8+1,none⟩=some (.string ⟨p.1.n.toArray⟩)∧w'.cell? ⟨B,off+k*8+2,none⟩=some (gvI p)∧w'.cell? ⟨B,off+k*8+3,none⟩=some (.bool p.1.s.1)∧w'.cell? ⟨B,off+k*8+4,none⟩=some (.bool p.1.s.2.1)∧w'.cell? ⟨B,off+k*8+5,none⟩=some (.bool p.1.s.2.2.1)∧w'.cell? ⟨B,off+k*8+6,none⟩=some (.bool p.1.s.2.2.2)∧w'.cell? ⟨B,off+k*8+7,none⟩=some (.bool p.1.k)∧w'.cell? ⟨B',off'+k*8,none⟩=some (.string ⟨p'.1.j.toArray⟩)∧w'.cell? ⟨B',off'+k*8+1,none⟩=some (.string ⟨p'.1.n.toArray⟩)∧w'.cell? ⟨B',off'+k*8+2,none⟩=some (gvI p')∧w'.cell? ⟨B',off'+k*8+3,none⟩=some (.bool p'.1.s.1)∧w'.cell? ⟨B',off'+k*8+4,none⟩=some (.bool p'.1.s.2.1)∧w'.cell? ⟨B',off'+k*8+5,none⟩=some (.bool p'.1.s.2.2.1)∧w'.cell? ⟨B',off'+k*8+6,none⟩=some (.bool p'.1.s.2.2.2)∧w'.cell? ⟨B',off'+k*8+7,none⟩=some (.bool p'.1.k)) (by kernel_rfl) ⟨c0,c1,c2,c3,c4,c5,c6,c7,d0,d1,d2,d3,d4,d5,d6,d7⟩ (fun hH=>?_);refine rS [(0,some 17),(1,some 18),(2,some 19),(3,some 20),(4,some 21),(5,some 22),(6,some 23),(7,some 24)] ?_
     iterate 8 refine aS ?_
     refine rE ?_
     refine aC (i:=8) fun K hK=>?_
     go_simp;refine(CCH.out _ bd).mono ?_;rintro e w2 ⟨rfl,hb⟩;have q2:=(hbw.trans (bd.mono hsz)).trans (hb.mono (wy hsz bd.size));obtain⟨qb,-⟩:=af (bd.trans (hb.mono bd.size));go_simp;clear hH;refine hK.out _ _ ⟨(qb _ _ hb0).trans c0,(qb _ _ hb0).trans c1,(qb _ _ hb0).trans c2,(qb _ _ hb0).trans c3,(qb _ _ hb0).trans c4,(qb _ _ hb0).trans c5,(qb _ _ hb0).trans c6,(qb _ _ hb0).trans c7,(qb _ _ hb0').trans d0,(qb _ _ hb0').trans d1,(qb _ _ hb0').trans d2,(qb _ _ hb0').trans d3,(qb _ _ hb0').trans d4,(qb _ _ hb0').trans d5,(qb _ _ hb0').trans d6,(qb _ _ hb0').trans d7⟩ (fun hH=>?_);clear hK K qb hb bd;refine rS [(9,some 26)] ?_;refine aS ?_;refine rE ?_;refine aD ?_;go_wp2_with fail;go_ret;exact⟨rfl,q2⟩
   ·have e1:(M.map Prod.fst).take k=M.map Prod.fst:=ww (by rw[wu,HL.out];omega)
    have e2:(K.map Prod.fst).take k=K.map Prod.fst:=ww (by rw[wu,HL'.out];omega)
    rw[e1,e2] at htk;have:O=true:=(by rw[←HO.out];exact decide_eq_true htk);subst this;clear e1 e2 htk;go_wp2_with fail;go_ret;exact⟨rfl,hbw⟩
 ·have:O=false:=by
   rw[←hO]
   refine decide_eq_false fun h=>hlen ?_
   have:=congrArg wE h;rw[wu,wu,hL,hL'] at this;exact this
  subst this
  have e0:((L:Int)==(L':Int))=false:=beq_eq_false_iff_ne.2 (by omega)
  clear hO hL hL' hv hu hg hk;go_enter func63,ntmps63;go_wp2_with fail;go_ret;exact⟨rfl,bQ _⟩
theorem te (v u:Value) (M K:List Im) (w:World) (hv:aw v M w) (hu:aw u K w) (hM:M.length≤10000) (hK:K.length≤10000) (hg:∀p∈M,p.1.g.length≤10000) (hk:∀p∈K,p.1.g.length≤10000) (x y:Int):
  Calls prog 84 #[.agg #[v,.int .i64 x],.agg #[u,.int .i64 y]] w (Ret w (.bool (decide (M.map Prod.fst=K.map Prod.fst)&&x==y))):=by
 obtain⟨a,ca,rfl,-⟩:=hv.form;obtain⟨b,cb,rfl,-⟩:=hu.form
 have C:=fun (w':World) (hb:Bl w w')=>ju _ _ M K w' (hv.ret hb) (hu.ret hb) hM hK hg hk
 obtain⟨O,hO⟩:=e_ (decide (M.map Prod.fst=K.map Prod.fst));rw[hO] at C ⊢;obtain⟨L,hL⟩:=e_ M.length;obtain⟨L',hL'⟩:=e_ K.length;rw[hL,hL'] at C ⊢;have CH:=h_ C;clear C hv hu hg hk hO hL hL';have r0:=Two.new w (.slice a L ca) (.int .i64 x) 31;have q0:=(bR w).alloc (wq _) (.cells #[.slice a L ca,.int .i64 x] 31);obtain⟨W0,hW0⟩:=e_ (w.alloc (.cells #[.slice a L ca,.int .i64 x] 31))
 have s0:W0.heap.size=w.heap.size+1:=by rw[←hW0];simp
 rw[hW0] at r0 q0;have al:=(bR W0).alloc (wq _) (.cells #[.slice b L' cb,.int .i64 y] 31);have t1:=Two.new W0 (.slice b L' cb) (.int .i64 y) 31;have r1:=r0.ret al;have q1:=q0.trans (al.mono q0.size);rw[s0] at t1;obtain⟨W1,hW1⟩:=e_ (W0.alloc (.cells #[.slice b L' cb,.int .i64 y] 31));rw[hW1] at r1 t1 q1
 have HW:Hid ((w.alloc (.cells #[.slice a L ca,.int .i64 x] 31)).alloc (.cells #[.slice b L' cb,.int .i64 y] 31)=W1):=h_ (by rw[hW0,hW1])
 clear hW0 hW1 s0 al r0 q0
 cases O with
 | true=>
  obtain⟨l,c0,c1,-,-⟩:=id r1;obtain⟨m,d0,d1,-,-⟩:=id t1;go_enter func84,ntmps84;go_wp2_with fail;rw[HW.out];go_wp2_with fail;refine(CH.out _ q1).mono ?_;rintro e w2 ⟨rfl,hb⟩;clear l c0 c1 m d0 d1;have r2:=r1.ret hb;have t2:=t1.ret hb;have q2:=q1.trans (hb.mono q1.size);clear hb r1 t1;obtain⟨l,c0,c1,-,-⟩:=r2;obtain⟨m,d0,d1,-,-⟩:=t2;go_wp2_with fail;go_ret;exact⟨by first | rfl | simp,q2⟩
 | false=>
  obtain⟨l,c0,c1,-,-⟩:=id r1;obtain⟨m,d0,d1,-,-⟩:=id t1;go_enter func84,ntmps84;go_wp2_with fail;rw[HW.out];go_wp2_with fail;refine(CH.out _ q1).mono ?_;rintro e w2 ⟨rfl,hb⟩;clear l c0 c1 m d0 d1;have r2:=r1.ret hb;have t2:=t1.ret hb;have q2:=q1.trans (hb.mono q1.size);clear hb r1 t1;obtain⟨l,c0,c1,-,-⟩:=r2;obtain⟨m,d0,d1,-,-⟩:=t2;go_wp2_with fail;go_ret;exact⟨by first | rfl | simp,q2⟩
theorem lO (v u:Value) (M K:List Im) (w:World) (hv:aw v M w) (hu:aw u K w) (hM:M.length≤10000) (hK:K.length≤10000) (hg:∀p∈M,p.1.g.length≤10000) (hk:∀p∈K,p.1.g.length≤10000) (x y:Int):
  Calls prog 18 #[.agg #[v,.int .i64 x],.agg #[u,.int .i64 y]] w (Ret w (.bool (decide (M.map Prod.fst=K.map Prod.fst)&&x==y))):=by
 obtain⟨a,ca,rfl,-⟩:=hv.form;obtain⟨b,cb,rfl,-⟩:=hu.form
 have C:=fun (w':World) (hb:Bl w w')=>iG _ _ M K w' (hv.ret hb) (hu.ret hb) hM hK hg hk
 obtain⟨O,hO⟩:=e_ (decide (M.map Prod.fst=K.map Prod.fst));rw[hO] at C ⊢;obtain⟨L,hL⟩:=e_ M.length;obtain⟨L',hL'⟩:=e_ K.length;rw[hL,hL'] at C ⊢;have CH:=h_ C;clear C hv hu hg hk hO hL hL';have r0:=Two.new w (.slice a L ca) (.int .i64 x) 31;have q0:=(bR w).alloc (wq _) (.cells #[.slice a L ca,.int .i64 x] 31);obtain⟨W0,hW0⟩:=e_ (w.alloc (.cells #[.slice a L ca,.int .i64 x] 31))
 have s0:W0.heap.size=w.heap.size+1:=by rw[←hW0];simp
 rw[hW0] at r0 q0;have al:=(bR W0).alloc (wq _) (.cells #[.slice b L' cb,.int .i64 y] 31);have t1:=Two.new W0 (.slice b L' cb) (.int .i64 y) 31;have r1:=r0.ret al;have q1:=q0.trans (al.mono q0.size);rw[s0] at t1;obtain⟨W1,hW1⟩:=e_ (W0.alloc (.cells #[.slice b L' cb,.int .i64 y] 31));rw[hW1] at r1 t1 q1
 have HW:Hid ((w.alloc (.cells #[.slice a L ca,.int .i64 x] 31)).alloc (.cells #[.slice b L' cb,.int .i64 y] 31)=W1):=h_ (by rw[hW0,hW1])
 clear hW0 hW1 s0 al r0 q0
 cases O with
 | true=>
  obtain⟨l,c0,c1,-,-⟩:=id r1;obtain⟨m,d0,d1,-,-⟩:=id t1;go_enter func18,ntmps18;go_wp2_with fail;rw[HW.out];go_wp2_with fail;refine(CH.out _ q1).mono ?_;rintro e w2 ⟨rfl,hb⟩;clear l c0 c1 m d0 d1;have r2:=r1.ret hb;have t2:=t1.ret hb;have q2:=q1.trans (hb.mono q1.size);clear hb r1 t1;obtain⟨l,c0,c1,-,-⟩:=r2;obtain⟨m,d0,d1,-,-⟩:=t2;go_wp2_with fail;go_ret;exact⟨by first | rfl | simp,q2⟩
 | false=>
  obtain⟨l,c0,c1,-,-⟩:=id r1;obtain⟨m,d0,d1,-,-⟩:=id t1;go_enter func18,ntmps18;go_wp2_with fail;rw[HW.out];go_wp2_with fail;refine(CH.out _ q1).mono ?_;rintro e w2 ⟨rfl,hb⟩;clear l c0 c1 m d0 d1;have r2:=r1.ret hb;have t2:=t1.ret hb;have q2:=q1.trans (hb.mono q1.size);clear hb r1 t1;obtain⟨l,c0,c1,-,-⟩:=r2;obtain⟨m,d0,d1,-,-⟩:=t2;go_wp2_with fail;go_ret;exact⟨by first | rfl | simp,q2⟩
end Go.Proofs.YtjgeiieiinmdnaaGreatDoor
