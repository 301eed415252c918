/- HaJ, HaK, HaV: put together by mergetpl.py. -/
import Derived.Test.YtjgeiieiinmdnaaGreatDoorLd
import Derived.Test.YtjgeiieiinmdnaaGreatDoorLc
import Derived.Test.YtjgeiieiinmdnaaGreatDoorKk
open Go.Proofs.Tryz
open Bool renaming false_eq_true→wN
open Go.Lib renaming toList_data→wA
open Go.Value.slice renaming injEq→wy
open Go.World renaming setCells→wv
open List renaming getElem?_eq_none→ws,getElem?_eq_getElem→wt,mem_of_getElem?→ww,append_nil→wC,find?_eq_none→wE,any_eq_false→wF,length_map→wG,take_succ_eq_append_getElem→wH,filter_cons_of_pos→wI,filter_cons_of_neg→wK,mem_singleton→wL,getElem_mem→wM,take_of_length_le→wO
open Nat renaming lt_or_ge→wq,le_of_ble_eq_true→wu,zero_le→wz,le_trans→wD
open Option.some renaming inj→wB
namespace Go.Proofs.YtjgeiieiinmdnaaGreatDoor
set_option maxHeartbeats 8000000
set_option maxRecDepth 100000
open Go.RowKit Go.Lib

theorem gy {α:Type} (q:α→Bool):∀L:List α,(dV q L=-1∧L.find? q=none)∨∃(k:Nat) (x:α),dV q L=k∧L[k]?=some x∧q x=true∧L.find? q=some x:=fun L=>by
 cases h:L.any q with
 | false=>
  refine .inl ⟨bU h,?_⟩;rw[wE];intro x hx;have:=wF.1 h x hx
  simpa using this
 | true=>
  obtain⟨x,hx⟩:∃x,L.find? q=some x:=by
   cases hf:L.find? q with
   | some x=>exact⟨x,rfl⟩
   | none=>
    rw[wE] at hf;obtain⟨x,hx,hq⟩:=List.any_eq_true.1 h;exact absurd hq (hf x hx)
  have hq:=List.find?_some hx;obtain⟨hq2,l1,l2,hL,has⟩:=List.find?_eq_some_iff_append.1 hx;refine .inr ⟨l1.length,x,?_,by rw[hL];simp,hq,hx⟩;subst hL;refine eh (by simp) ?_ (by simpa using hq);rw[List.take_left]
  refine wF.2 fun y hy=>?_
  have:=has y hy
  simpa using this
theorem gL {α β:Type} (f:α→β) (nm:β→List UInt8) (t:List UInt8) (L:List α):fiG nm (L.map f) t=(L.find? fun x=>nm (f x)==t).map f:=by
 unfold fiG;rw[List.find?_map]
 rfl
theorem nM {fn:Func} {tmps:Array Value} {W:World} {R p q:Nat} {v0 v1 v2 e:Value} (h:fn.results=#[.cell p 33,.tmp q]) (h2:tmps.getD p undef=.pointer (some ⟨R,0,none⟩)) (h3:tmps.getD q undef=e) (k:Bx R [v0,v1,v2] W):
  (results fn tmps).run prog W=.ok (.tuple #[.agg #[v0,v1,v2],e]) W:=by
 have c0:=k.at 0 rfl;have c1:=k.at 1 rfl;have c2:=k.at 2 rfl;rw[results_cell_tmp h,h2,h3]
 simp[go_sem,Result.andThen,c0,c1,c2]
theorem nT {fn:Func} {tmps:Array Value} {W:World} {R p q:Nat} {v0 v1 v2 v3 v4 v5 e:Value} (h:fn.results=#[.cell p 38,.tmp q]) (h2:tmps.getD p undef=.pointer (some ⟨R,0,none⟩)) (h3:tmps.getD q undef=e) (k:Bx R [v0,v1,v2,v3,v4,v5] W):
  (results fn tmps).run prog W=.ok (.tuple #[.agg #[v0,v1,v2,v3,v4,v5],e]) W:=by
 have c0:=k.at 0 rfl;have c1:=k.at 1 rfl;have c2:=k.at 2 rfl;have c3:=k.at 3 rfl;have c4:=k.at 4 rfl;have c5:=k.at 5 rfl;rw[results_cell_tmp h,h2,h3]
 simp[go_sem,Result.andThen,c0,c1,c2,c3,c4,c5]
def ac0:Ac:=([],[],0)
def re0:Re:=([],false,0,[],false,[])
def vr (w:World) (A:List Ac) (t:List UInt8) (e:Ending) (w':World):Prop:=∃a:AcI,e=.returned (.tuple #[a.v,.bool (fiG acN A t).isSome])∧a.d=(fiG acN A t).getD ac0∧acY.own (fun g=>w.heap.size≤g) a w'∧Bl w w'
def vQ (w:World) (R:List Re) (t:List UInt8) (e:Ending) (w':World):Prop:=∃r:RsI,e=.returned (.tuple #[r.v,.bool (fiG reN R t).isSome])∧r.d=(fiG reN R t).getD re0∧rsY.own (fun g=>w.heap.size≤g) r w'∧Bl w w'
theorem oA (c:CoI) (t:List UInt8) (w:World) (hs:IsL acY c.av c.A w) (hz:c.A.length≤1000) (hf:∀a∈c.A,cq a.it):Calls prog 11 #[c.v,.string ⟨t.toArray⟩] w (vr w (c.A.map AcI.d) t):=by
 obtain⟨A,⟨aa,ac⟩,R,⟨ra,rc⟩,m⟩:=c
 simp only at hz hf
 have hs:IsL acY (.slice aa A.length ac) A w:=hs
 show Calls prog 11 #[.agg #[.slice aa A.length ac,.slice ra R.length rc,.int .i64 m],.string ⟨t.toArray⟩] w (vr w (A.map AcI.d) t)
 obtain⟨LA,hLA⟩:=e_ A.length;obtain⟨LR,hLR⟩:=e_ R.length;unfold vr;rw[gL];rw[hLA,hLR]
 have hlen:A.length=LA:=hLA
 have hs2:IsL acY (.slice aa LA ac) A w:=by rw[←hlen];exact hs
 have FI:=h_ fun (W:World) (hb:Bl w W)=>gj aa LA ac A t W (hs2.ret hb) (by omega)
 have HS:=h_ hs2;have HF:=h_ hf;have HL:=h_ hlen
 rcases gy (fun x:AcI=>x.j==t) A with ⟨hi,hn⟩ | ⟨k,x,hi,hk,hq,hn⟩
 ·have e:(fun x:AcI=>acN x.d==t)=fun x=>x.j==t:=rfl
  rw[e,hn];rw[hi] at FI;clear hs hs2 hf hlen hLA hLR hi hn e;obtain⟨W0,hW,y0,bs⟩:=Sx.start2 w [.slice aa LA ac,.slice ra LR rc,.int .i64 m] 25 [.string ⟨#[]⟩,.slice none 0 0,.int .i64 0] 33;have HW:=h_ hW;clear hW;have q:=bs.q;go_enter func11,ntmps11;go_wp2_with fail;rw[HW.out];have c_c0:=bs.b3 0;go_wp2_with fail;refine(aX aa ra LA ac LR rc m W0).mono ?_;rintro e w1 ⟨rfl,hb⟩;clear c_c0;replace bs:=bs.ret hb;replace q:=bs.q;clear hb;go_wp2_with fail;refine(FI.out w1 q).mono ?_;rintro e w2 ⟨rfl,hb⟩;replace bs:=bs.ret hb;replace q:=bs.q;clear hb;have c_z0:=bs.b3 1;have f_z0:=bs.g3 1;go_wp2_with fail;clear c_z0 f_z0;obtain⟨w3,hw3,y3,bs⟩:=bs.sets 1 0 [.string ⟨#[]⟩,.slice none 0 0,.int .i64 0] rfl (wu rfl);replace q:=bs.q;simp only[wv,Nat.reduceAdd] at hw3;rw[hw3];refine bodyPost_ret (nM rfl rfl rfl (bs.box 1 rfl)) rfl ⟨⟨[],[],(none,0),0⟩,rfl,rfl,⟨OwS.nil _ _ _ _,fun p hp=>by cases hp⟩,q⟩
 ·have e:(fun x:AcI=>acN x.d==t)=fun x=>x.j==t:=rfl
  rw[e,hn];rw[hi] at FI
  have hxj:x.j=t:=by simpa using hq
  have hkl:k<A.length:=by
   rcases wq k A.length with h1 | h1
   ·exact h1
   ·rw[ws h1] at hk;cases hk
  have hxm:x∈A:=ww hk;obtain⟨b,off,cp,hv,-,hc⟩:=hs2.cells hk;rw[hlen] at hv hkl;simp only[wy,true_and] at hv;obtain⟨rfl,rfl⟩:=hv
  have wk:(k:Int)<(LA:Int):=by omega
  have TW:=h_ fun (W:World) (hb:Bl w W)=>oP x.iv x.ver x.it W (aw.ret (hs2.2.2 x hxm) hb) (hf x hxm).1 (fun p hp=>((hf x hxm).2 p hp).2.2.1)
  have HC:=h_ fun (w':World) (hb:Bl w w')=>show w'.cell? ⟨b,off+k*3+1,none⟩=some x.iv∧w'.cell? ⟨b,off+k*3+2,none⟩=some (.int .i64 x.ver) from ⟨hc w' hb 1 _ rfl,hc w' hb 2 _ rfl⟩
  have HX:=h_ hxj;clear hs hs2 hf hlen hLA hLR hi hn e hq hk hxm hxj hc;obtain⟨W0,hW,y0,bs⟩:=Sx.start2 w [.slice (some ⟨b,off,none⟩) LA ac,.slice ra LR rc,.int .i64 m] 25 [.string ⟨#[]⟩,.slice none 0 0,.int .i64 0] 33;have HW:=h_ hW;clear hW;have q:=bs.q;go_enter func11,ntmps11;go_wp2_with fail;rw[HW.out];have c_c0:=bs.b3 0;go_wp2_with fail;refine(aX (some ⟨b,off,none⟩) ra LA ac LR rc m W0).mono ?_;rintro e w1 ⟨rfl,hb⟩;clear c_c0;replace bs:=bs.ret hb;replace q:=bs.q;clear hb;go_wp2_with fail;refine(FI.out w1 q).mono ?_;rintro e w2 ⟨rfl,hb⟩;replace bs:=bs.ret hb;replace q:=bs.q;clear hb;obtain⟨i1,i2⟩:=HC.out _ q;have c_c0:=bs.b3 0;go_wp2_with fail;refine(TW.out w2 q).mono ?_;rintro e w3 ⟨a1,c1,rfl,⟨M1,hM1,hown,hb⟩⟩;clear i1 i2 c_c0;have o_n:=vm.mk' bs hown;replace bs:=bs.ret hb;replace q:=bs.q;clear hb;rw[wG] at o_n ⊢
  have hl1:M1.length=x.it.length:=by have:=congrArg List.length hM1;simpa using this
  have HM1:=h_ hM1;have HL1:=h_ hl1;clear hM1 hown hl1;have c_z0:=bs.b3 1;have f_z0:=bs.g3 1;go_wp2_with fail;clear c_z0 f_z0;obtain⟨w4,hw4,y4,bs⟩:=bs.sets 1 0 [.string ⟨t.toArray⟩,.slice a1 x.it.length c1,.int .i64 x.ver] rfl (wu rfl);replace o_n:=o_n.sets 1 rfl hw4;replace q:=bs.q;simp only[wv,Nat.reduceAdd] at hw4;rw[hw4];refine bodyPost_ret (nM rfl rfl rfl (bs.box 1 rfl)) rfl ⟨⟨t,M1,(a1,c1),x.ver⟩,?_,?_,?_,q⟩
  ·show _=Ending.returned (.tuple #[.agg #[.string ⟨t.toArray⟩,.slice a1 M1.length c1,.int .i64 x.ver],_])
   rw[HL1.out]
   rfl
  ·show (t,M1.map Prod.fst,x.ver)=(x.j,x.it.map Prod.fst,x.ver)
   rw[HM1.out,HX.out]
  ·have:=OwI.of o_n.own
   show OwI _ (.slice a1 M1.length c1) M1 _
   rw[HL1.out];exact this
theorem tY (c:CoI) (t:List UInt8) (w:World) (hs:IsL rsY c.rv c.R w) (hz:c.R.length≤1000) (hf:∀r∈c.R,kz r):Calls prog 13 #[c.v,.string ⟨t.toArray⟩] w (vQ w (c.R.map RsI.d) t):=by
 obtain⟨A,⟨aa,ac⟩,R,⟨ra,rc⟩,m⟩:=c
 simp only at hz hf
 have hs:IsL rsY (.slice ra R.length rc) R w:=hs
 show Calls prog 13 #[.agg #[.slice aa A.length ac,.slice ra R.length rc,.int .i64 m],.string ⟨t.toArray⟩] w (vQ w (R.map RsI.d) t)
 obtain⟨LA,hLA⟩:=e_ A.length;obtain⟨LR,hLR⟩:=e_ R.length;unfold vQ;rw[gL];rw[hLA,hLR]
 have hlen:R.length=LR:=hLR
 have hs2:IsL rsY (.slice ra LR rc) R w:=by rw[←hlen];exact hs
 have FI:=h_ fun (W:World) (hb:Bl w W)=>mj ra LR rc R t W (hs2.ret hb) (by omega)
 have HS:=h_ hs2;have HF:=h_ hf;have HL:=h_ hlen
 rcases gy (fun x:RsI=>x.j==t) R with ⟨hi,hn⟩ | ⟨k,x,hi,hk,hq,hn⟩
 ·have e:(fun x:RsI=>reN x.d==t)=fun x=>x.j==t:=rfl
  rw[e,hn];rw[hi] at FI;clear hs hs2 hf hlen hLA hLR hi hn e;obtain⟨W0,hW,y0,bs⟩:=Sx.start2 w [.slice aa LA ac,.slice ra LR rc,.int .i64 m] 25 [.string ⟨#[]⟩,.bool false,.int .i64 0,.slice none 0 0,.bool false,.slice none 0 0] 38;have HW:=h_ hW;clear hW;have q:=bs.q;go_enter func13,ntmps13;go_wp2_with fail;rw[HW.out];have c_c0:=bs.b3 0;go_wp2_with fail;refine(eE aa ra LA ac LR rc m W0).mono ?_;rintro e w1 ⟨rfl,hb⟩;clear c_c0;replace bs:=bs.ret hb;replace q:=bs.q;clear hb;go_wp2_with fail;refine(FI.out w1 q).mono ?_;rintro e w2 ⟨rfl,hb⟩;replace bs:=bs.ret hb;replace q:=bs.q;clear hb;have c_z0:=bs.b6 1;have f_z0:=bs.g6 1;go_wp2_with fail;clear c_z0 f_z0;obtain⟨w3,hw3,y3,bs⟩:=bs.sets 1 0 [.string ⟨#[]⟩,.bool false,.int .i64 0,.slice none 0 0,.bool false,.slice none 0 0] rfl (wu rfl);replace q:=bs.q;simp only[wv,Nat.reduceAdd] at hw3;rw[hw3];refine bodyPost_ret (nT rfl rfl rfl (bs.box 1 rfl)) rfl ⟨⟨[],false,0,[],(none,0),false,[],(none,0)⟩,rfl,rfl,⟨OwL.nil _ _ _,OwS.nil _ _ _ _⟩,q⟩
 ·have e:(fun x:RsI=>reN x.d==t)=fun x=>x.j==t:=rfl
  rw[e,hn];rw[hi] at FI
  have hxj:x.j=t:=by simpa using hq
  have hkl:k<R.length:=by
   rcases wq k R.length with h1 | h1
   ·exact h1
   ·rw[ws h1] at hk;cases hk
  have hxm:x∈R:=ww hk;obtain⟨b,off,cp,hv,-,hc⟩:=hs2.cells hk;rw[hlen] at hv hkl;simp only[wy,true_and] at hv;obtain⟨rfl,rfl⟩:=hv
  have wk:(k:Int)<(LR:Int):=by omega
  have TW:=h_ fun (W:World) (hb:Bl w W)=>oQ x W (rsY.subRet _ _ _ (hs2.2.2 x hxm) hb) (hf x hxm)
  have HC:=h_ fun (w':World) (hb:Bl w w')=>show w'.cell? ⟨b,off+k*6,none⟩=some (.string ⟨x.j.toArray⟩)∧w'.cell? ⟨b,off+k*6+1,none⟩=some (.bool x.on)∧w'.cell? ⟨b,off+k*6+2,none⟩=some (.int .i64 x.pr)∧w'.cell? ⟨b,off+k*6+3,none⟩=some (x.lv)∧w'.cell? ⟨b,off+k*6+4,none⟩=some (.bool x.ask)∧w'.cell? ⟨b,off+k*6+5,none⟩=some (x.sv) from ⟨hc w' hb 0 _ rfl,hc w' hb 1 _ rfl,hc w' hb 2 _ rfl,hc w' hb 3 _ rfl,hc w' hb 4 _ rfl,hc w' hb 5 _ rfl⟩
  have HX:=h_ hxj;clear hs hs2 hf hlen hLA hLR hi hn e hq hk hxm hxj hc;obtain⟨W0,hW,y0,bs⟩:=Sx.start2 w [.slice aa LA ac,.slice (some ⟨b,off,none⟩) LR rc,.int .i64 m] 25 [.string ⟨#[]⟩,.bool false,.int .i64 0,.slice none 0 0,.bool false,.slice none 0 0] 38;have HW:=h_ hW;clear hW;have q:=bs.q;go_enter func13,ntmps13;go_wp2_with fail;rw[HW.out];have c_c0:=bs.b3 0;go_wp2_with fail;refine(eE aa (some ⟨b,off,none⟩) LA ac LR rc m W0).mono ?_;rintro e w1 ⟨rfl,hb⟩;clear c_c0;replace bs:=bs.ret hb;replace q:=bs.q;clear hb;go_wp2_with fail;refine(FI.out w1 q).mono ?_;rintro e w2 ⟨rfl,hb⟩;replace bs:=bs.ret hb;replace q:=bs.q;clear hb;obtain⟨i0,i1,i2,i3,i4,i5⟩:=HC.out _ q;have c_c0:=bs.b3 0;go_wp2_with fail;refine(TW.out w2 q).mono ?_;rintro e w3 ⟨r1,rfl,hd,hown,hb⟩;have o_l:=OwZ.mk' bs hown.1;have o_s:=OwX.mk' bs (hown.2.owns (fun g hg=>hg));have HD:=h_ hd;clear hd hown;clear i0 i1 i2 i3 i4 i5 c_c0;replace bs:=bs.ret hb;replace q:=bs.q;clear hb;have c_z0:=bs.b6 1;have f_z0:=bs.g6 1;go_wp2_with fail;clear c_z0 f_z0;obtain⟨w4,hw4,y4,bs⟩:=bs.sets 1 0 [.string ⟨r1.j.toArray⟩,.bool r1.on,.int .i64 r1.pr,r1.lv,.bool r1.ask,r1.sv] rfl (wu rfl);replace o_l:=o_l.sets 1 rfl hw4;replace o_s:=o_s.sets 1 rfl hw4;replace q:=bs.q;simp only[wv,Nat.reduceAdd] at hw4;rw[hw4];refine bodyPost_ret (nT rfl rfl rfl (bs.box 1 rfl)) rfl ⟨r1,rfl,HD.out,⟨o_l.own,⟨o_s.1.mono (wz _),fun g hg=>(o_s.1.lt g hg).1⟩⟩,q⟩

def slF (R:List RsI) (t:List UInt8) (q:RsI→Bool):List (List UInt8):=(R.filter fun r=>bv r.j&&(a9 r.j==t&&q r)).map fun r=>r.j
theorem dk (R:List RsI) (t:List UInt8) (q:Re→Bool):slF R t (fun r=>q r.d)=kD (R.map RsI.d) t q:=by
 unfold slF kD;rw[List.filter_map,List.map_map]
 rfl
theorem eC {R:List RsI} {t:List UInt8} {q:RsI→Bool} {k:Nat} {x:RsI} (hk:R[k]?=some x):slF (R.take (k+1)) t q=slF (R.take k) t q++if bv x.j&&(a9 x.j==t&&q x) then [x.j] else []:=by
 have hkl:k<R.length:=by
  rcases wq k R.length with h1 | h1
  ·exact h1
  ·rw[ws h1] at hk;cases hk
 have hM:R[k]=x:=by rw[wt hkl] at hk;exact wB hk
 unfold slF;rw[wH hkl,List.filter_append,List.map_append,hM]
 congr 1
 cases h:(bv x.j&&(a9 x.j==t&&q x)) with
 | true=>rw[wI (by simpa using h)];rfl
 | false=>rw[wK (by rw[h];decide)];rfl
theorem gK (R:List RsI) (t:List UInt8) (q:RsI→Bool):(slF R t q).length≤R.length:=by
 unfold slF;rw[wG];exact List.length_filter_le _ _
theorem OwX.up {w0 w:World} {ad:List Nat} {e:TypeId} {size n:Nat} {v:Value} {xs:List Value} (h:OwX w0 ad e size v n xs w) (hm:w0.heap.size∈ad):w.ownsRow (w0.heap.size+1) e size v n xs:=by
 refine⟨h.1.1,?_⟩
 rcases h.1.2 with h1 | ⟨g,cap,cur,e1,hb,hg,r⟩
 ·exact .inl h1
 ·refine .inr ⟨g,cap,cur,e1,?_,hg,r⟩
  have:=h.2 g (by rw[e1];rfl)
  rcases wq w0.heap.size g with h2 | h2
  ·exact h2
  ·have : g = w0.heap.size := by omega
   subst this
   contradiction
theorem OwX.down {w0 w:World} {e:TypeId} {size n:Nat} {v:Value} {xs:List Value} (h:w.ownsRow (w0.heap.size+1) e size v n xs):OwX w0 [w0.heap.size] e size v n xs w:=⟨h.mono (Nat.le_succ _),fun g hg hm=>by
 have:=(h.lt g hg).1;have:=wL.1 hm
 omega⟩
theorem Bx.row {L n:Nat} {cs:List Value} {w:World} (h:Bx L cs w) (hl:cs.length=n):cO n (.slice (some ⟨L,0,none⟩) 1 1) 1 cs w:=
 ⟨by rw[hl,Nat.one_mul],some ⟨L,0,none⟩,1,rfl,(fun h=>by cases h),.inr ⟨L,0,rfl,h.lt,fun j hj=>by rw[Nat.zero_add];exact h.at j (wt hj)⟩⟩
def dB (w:World) (g:List (List UInt8)) (e:Ending) (w':World):Prop:=∃v,e=.returned v∧OwG (fun b=>w.heap.size≤b) v g w'∧Bl w w'
theorem kJ (c:CoI) (t:List UInt8) (f:Value) (Q:RsI→Bool) (w:World) (hs:IsL rsY c.rv c.R w) (hz:c.R.length≤1000) (hj:∀r∈c.R,r.j.length≤10000) (hm:ML w) (hf:eS (fun x:RsI=>x.v) f Q c.R w):Calls prog 65 #[c.v,.string ⟨t.toArray⟩,f] w (dB w (slF c.R t Q)):=by
 obtain⟨A,⟨aa,ac⟩,R,⟨ra,rc⟩,m⟩:=c
 simp only at hz hf hj
 obtain⟨g,lb,rfl,eg,hg⟩:=hf;have hs:IsL rsY (.slice ra R.length rc) R w:=hs
 show Calls prog 65 #[.agg #[.slice aa A.length ac,.slice ra R.length rc,.int .i64 m],.string ⟨t.toArray⟩,_] w (dB w (slF R t Q))
 obtain⟨LA,hLA⟩:=e_ A.length;obtain⟨L,hL⟩:=e_ R.length;obtain⟨tb,htb⟩:∃tb:ByteArray,ByteArray.mk t.toArray=tb:=⟨_,rfl⟩;rw[hLA,hL,htb];have HTB:=h_ htb
 have hs2:IsL rsY (.slice ra L rc) R w:=by rw[←hL];exact hs
 obtain⟨i0,hi,hz0,hz1,hz2⟩:=info_parts be;have HS:=h_ hs2;have HL:=h_ hL;have HJ:=h_ hj;have HM:=h_ hm;have HG:=h_ hg
 have hLz:L≤1000:=by omega
 clear hs hs2 hLA hL hj hm hg hz htb;obtain⟨W0,hW,y0,bs⟩:=Sx.start1 w [.slice aa LA ac,.slice ra L rc,.int .i64 m] 25;have HW:=h_ hW;clear hW;have q:=bs.q;go_enter func65,ntmps65;go_wp2_with fail;rw[HW.out];have c_c0:=bs.b3 0;go_wp2_with fail;clear c_c0;go_loopw [14,6] (fun i lv wx=>∃(k:Nat),k≤L∧i=.int .i64 k∧wx.ownsRow (w.heap.size+1) 9 1 lv (slF (R.take k) t Q).length (aY (slF (R.take k) t Q))∧Sx w [(w.heap.size,[.slice aa LA ac,.slice ra L rc,.int .i64 m])] wx) (fun i _ _=>L-(intOf i).toNat)
 case atStart=>exact⟨0,wz _,rfl,World.ownsRow_nil _ _ _ _,bs⟩
 case round=>
  clear bs q;obtain⟨k,hk,rfl,hrow,bs⟩:=hrel;have q:=bs.q
  by_cases hlt:k<L
  ·have hkM : k < R.length := by rw [HL.out]; exact hlt
   obtain⟨x,hx⟩:=e_ (R[k]);have hkx:R[k]?=some x:=(by rw[wt hkM,hx]);have hxm:x∈R:=(by rw[←hx];exact wM hkM);have hstep:=eC (t:=t) (q:=Q) hkx;have hlen:=gK (R.take k) t Q;rw[List.length_take] at hlen;obtain⟨gs,hgs⟩:=e_ (slF (R.take k) t Q);rw[hgs] at hrow hlen hstep;obtain⟨n,hn⟩:=e_ gs.length;rw[hn] at hrow hlen;obtain⟨la,lc,rfl,-⟩:=aq hrow;have hn2:n≤1000:=(by omega);obtain⟨b,off,cp,hv,-,hc⟩:=HS.out.cells hkx;rw[HL.out] at hv;simp only[wy,true_and] at hv;obtain⟨rfl,rfl⟩:=hv
   have CP:=fun (W:World) (hb:Bl w W)=>cJ ⟨x.j.toArray⟩ W (by rw[←ab];exact HJ.out x hxm) (HM.out.ret hb)
   have CB:=fun (W:World) (hb:Bl w W)=>kG ⟨x.j.toArray⟩ W (by rw[←ab];exact HJ.out x hxm) (HM.out.ret hb)
   have CG:=fun (W:World) (hb:Bl w W)=>HG.out x hxm W hb
   simp only[gV] at CP;obtain⟨P,hP⟩:=e_ (bv x.j);obtain⟨y,hy⟩:=e_ (Q x);obtain⟨bt,hbt⟩:=e_ (a9 x.j);simp only[hP] at CP;simp only[hbt] at CB;simp only[hP,hbt,hy] at hstep;rw[hy] at CG;obtain⟨bb,hbb⟩:=e_ (jB bt);rw[hbb] at CB
   have hBQ:(bb.toList==tb.toList)=(bt==t):=by
    rw[←hbb,←HTB.out,show (jB bt).toList=bt by rw[wA,ag],wA]
   obtain⟨B,hB⟩:=e_ ((bt==t));rw[hB] at hBQ hstep;have CP:=h_ CP;have CB:=h_ CB;have CG:=h_ CG;have HN:=h_ hn;have HT:=h_ hstep;have o_l:OwX w [w.heap.size] 9 1 (.slice la n lc) n (aY gs) wr:=OwX.down hrow;clear hx hkx hxm hkM hn hrow hlen hP hy hbt hstep hgs hB hbb
   have i0:wr.cell? ⟨b,off+k*6,none⟩=some (.string ⟨x.j.toArray⟩):=hc wr q 0 _ rfl
   have i1:wr.cell? ⟨b,off+k*6+1,none⟩=some (.bool x.on):=hc wr q 1 _ rfl
   have i2:wr.cell? ⟨b,off+k*6+2,none⟩=some (.int .i64 x.pr):=hc wr q 2 _ rfl
   have i3:wr.cell? ⟨b,off+k*6+3,none⟩=some (x.lv):=hc wr q 3 _ rfl
   have i4:wr.cell? ⟨b,off+k*6+4,none⟩=some (.bool x.ask):=hc wr q 4 _ rfl
   have i5:wr.cell? ⟨b,off+k*6+5,none⟩=some (x.sv):=hc wr q 5 _ rfl
   clear hc
   cases P with
   | false=>
    have d0:=(bs.lit (wr.heap.size) rfl [.string ⟨x.j.toArray⟩,.bool x.on,.int .i64 x.pr,x.lv,.bool x.ask,x.sv] 38);have c0_n00:=d0.b6 1;go_wp2_with fail;clear d0 c0_n00;clear i0 i1 i2 i3 i4 i5;obtain⟨w31,hw31,y31,al,bs⟩:=bs.alloc (wr.heap.size) rfl [.string ⟨x.j.toArray⟩,.bool x.on,.int .i64 x.pr,x.lv,.bool x.ask,x.sv] 38;replace o_l:=o_l.alloc (wr.heap.size) rfl al;clear al;replace q:=bs.q;rw[hw31];refine(CP.out w31 q).mono ?_;rintro e w32 ⟨rfl,hb⟩;replace o_l:=o_l.ret hb;replace bs:=bs.ret hb;replace q:=bs.q;clear hb;simp only[wN,if_false];have c_r0:=bs.b6 1;have d0:=(bs.lit (w32.heap.size) rfl [.string (jB (adr x.j).1),.string (jB (adr x.j).2.1),.string (jB (adr x.j).2.2)] 117);have c0_r0:=d0.b6 1;go_wp2_with fail;clear c_r0 d0 c0_r0;obtain⟨w33,hw33,y33,al,bs⟩:=bs.alloc (w32.heap.size) rfl [.string (jB (adr x.j).1),.string (jB (adr x.j).2.1),.string (jB (adr x.j).2.2)] 117;replace o_l:=o_l.alloc (w32.heap.size) rfl al;clear al;replace q:=bs.q;rw[hw33];go_wp2_with fail;go_roundw
    case rel=>exact⟨k+1,by omega,by go_num,by rw[show slF (R.take (k+1)) t Q=gs from HT.out.trans (wC gs),HN.out];exact o_l.up (by simp),bs.some 1⟩
    case measure=>simp[intOf];omega
   | true=>
    have d0:=(bs.lit (wr.heap.size) rfl [.string ⟨x.j.toArray⟩,.bool x.on,.int .i64 x.pr,x.lv,.bool x.ask,x.sv] 38);have c0_n00:=d0.b6 1;go_wp2_with fail;clear d0 c0_n00;clear i0 i1 i2 i3 i4 i5;obtain⟨w31,hw31,y31,al,bs⟩:=bs.alloc (wr.heap.size) rfl [.string ⟨x.j.toArray⟩,.bool x.on,.int .i64 x.pr,x.lv,.bool x.ask,x.sv] 38;replace o_l:=o_l.alloc (wr.heap.size) rfl al;clear al;replace q:=bs.q;rw[hw31];refine(CP.out w31 q).mono ?_;rintro e w32 ⟨rfl,hb⟩;replace o_l:=o_l.ret hb;replace bs:=bs.ret hb;replace q:=bs.q;clear hb;simp only[if_true];have c_r0:=bs.b6 1;have d0:=(bs.lit (w32.heap.size) rfl [.string (jB (adr x.j).1),.string (jB (adr x.j).2.1),.string (jB (adr x.j).2.2)] 117);have c0_r0:=d0.b6 1;go_wp2_with fail;clear c_r0 d0 c0_r0;obtain⟨w33,hw33,y33,al,bs⟩:=bs.alloc (w32.heap.size) rfl [.string (jB (adr x.j).1),.string (jB (adr x.j).2.1),.string (jB (adr x.j).2.2)] 117;replace o_l:=o_l.alloc (w32.heap.size) rfl al;clear al;replace q:=bs.q;rw[hw33];have c_r0:=bs.b6 1;go_wp2_with fail;refine(CB.out w33 q).mono ?_;rintro e w34 ⟨rfl,hb⟩;clear c_r0;replace o_l:=o_l.ret hb;replace bs:=bs.ret hb;replace q:=bs.q;clear hb
    cases B with
    | false=>
     have c_r0:=bs.b6 1;go_wp2_with fail;go_roundw
     case rel=>exact⟨k+1,by omega,by go_num,by rw[show slF (R.take (k+1)) t Q=gs from HT.out.trans (wC gs),HN.out];exact o_l.up (by simp),bs.some 1⟩
     case measure=>simp[intOf];omega
    | true=>
     cases y with
     | false=>
      have c_r0:=bs.b6 1;have CG1:=h_ (CG.out _ q);go_wp2_with (go_at_fn g;refine CG1.out.mono ?_;rintro e w60 ⟨rfl,hb⟩);clear c_r0;replace o_l:=o_l.ret hb;replace bs:=bs.ret hb;replace q:=bs.q;clear hb;go_roundw
      case rel=>exact⟨k+1,by omega,by go_num,by rw[show slF (R.take (k+1)) t Q=gs from HT.out.trans (wC gs),HN.out];exact o_l.up (by simp),bs.some 1⟩
      case measure=>simp[intOf];omega
     | true=>
      have c_r0:=bs.b6 1;have CG1:=h_ (CG.out _ q);go_wp2_with (first | (go_at_fn g;refine CG1.out.mono ?_;rintro e w60 ⟨rfl,hb⟩;have k0:=(bs.ret hb).at 1 0 rfl rfl) | (at_builtin;refine Hid.out ?_));clear c_r0;replace o_l:=o_l.ret hb;replace bs:=bs.ret hb;replace q:=bs.q;clear hb k0;obtain⟨w61,hw61,y61,al,bs⟩:=bs.alloc (w60.heap.size) rfl [.string ⟨x.j.toArray⟩] 9;replace o_l:=o_l.alloc (w60.heap.size) rfl al;clear al;replace q:=bs.q;rw[hw61];refine h_ ?_;refine ai rfl _ _ _ rfl (w.heap.size+1) 9 i0 _ 1 16 underlying26 hi hz0 hz1 hz2 rfl (by omega) _ n (aY gs) rfl (o_l.up (by simp)) _ (by rfl) 1 [.string ⟨x.j.toArray⟩] ((bs.box 3 rfl).row rfl) (by intro u hu;cases wL.1 hu;rfl) (by omega) (by omega) (by have:=bs.lt _ (ww (i:=0) rfl);simp at this;omega) ?_;intro v' w' hown hgr;replace bs:=bs.grown hgr (fun g hg=>⟨(o_l.1.lt g hg).1,o_l.2 g hg⟩);clear o_l q;go_wp2_with fail;go_roundw
      case rel=>exact⟨k+1,by omega,by go_num,by rw[show slF (R.take (k+1)) t Q=gs++[x.j] from HT.out,List.length_append,HN.out,cD];exact hown,bs.some 1⟩
      case measure=>simp[intOf];omega
  ·have e:R.take k=R:=wO (by rw[HL.out];omega)
   rw[e] at hrow;have HR:=h_ hrow;clear hrow e;go_wp2_with fail;go_ret;exact⟨_,rfl,⟨HR.out.mono (wz _),fun g hg=>by have:=(HR.out.lt g hg).1;omega⟩,q⟩
theorem t7 (x:RsI) (w:World):Calls prog 66 #[x.v] w (Ret w (.bool x.on)):=by
 obtain⟨W0,hW,y0,bs⟩:=Sx.start1 w [.string ⟨x.j.toArray⟩,.bool x.on,.int .i64 x.pr,x.lv,.bool x.ask,x.sv] 38;have HW:=h_ hW;clear hW;have q:=bs.q;go_enter func66,ntmps66;go_wp2_with fail;rw[HW.out];have c_x0:=bs.b6 0;go_wp2_with fail;go_ret;exact⟨rfl,q⟩
theorem vv:∀args w,(callFunc 66 args).run prog w=.ok (.enter 66 args) w:=enters_of func66 (by kernel_rfl) rfl
theorem vy (c:CoI) (t:List UInt8) (w:World) (hs:IsL rsY c.rv c.R w) (hz:c.R.length≤1000) (hj:∀r∈c.R,r.j.length≤10000) (hm:ML w):Calls prog 22 #[c.v,.string ⟨t.toArray⟩] w (dB w (onF (c.R.map RsI.d) t)):=by
 have e:slF c.R t (fun r=>r.on)=onF (c.R.map RsI.d) t:=dk c.R t (fun r=>r.on)
 rw[←e]
 have SM:=h_ fun (W:World) (hb:Bl w W)=>kJ c t (.func (.func 66) #[] #[]) (fun r=>r.on) W (hs.ret hb) hz hj (hm.ret hb) ⟨_,_,rfl,vv,fun p _ V _=>t7 p V⟩
 obtain⟨A,⟨aa,ac⟩,R,⟨ra,rc⟩,m⟩:=c;simp only[CoI.v] at SM ⊢;obtain⟨LA,hLA⟩:=e_ A.length;obtain⟨L,hL⟩:=e_ R.length;rw[hLA,hL] at SM ⊢;clear hs hz hj hm e hLA hL;obtain⟨W0,hW,y0,bs⟩:=Sx.start1 w [.slice aa LA ac,.slice ra L rc,.int .i64 m] 25;have HW:=h_ hW;clear hW;have q:=bs.q;go_enter func22,ntmps22;go_wp2_with fail;rw[HW.out];have c_c0:=bs.b3 0;go_wp2_with fail;refine(SM.out W0 q).mono ?_;rintro e w1 ⟨v,rfl,hown,hb⟩;have HO:=h_ (OwS.mono (S':=fun g=>w.heap.size≤g) hown (fun g _ hg=>wD q.size hg));clear hown;clear c_c0;replace bs:=bs.ret hb;replace q:=bs.q;clear hb;go_wp2_with fail;go_ret;exact⟨v,rfl,HO.out,q⟩
theorem oh (x:RsI) (w:World):Calls prog 70 #[x.v] w (Ret w (.bool x.ask)):=by
 obtain⟨W0,hW,y0,bs⟩:=Sx.start1 w [.string ⟨x.j.toArray⟩,.bool x.on,.int .i64 x.pr,x.lv,.bool x.ask,x.sv] 38;have HW:=h_ hW;clear hW;have q:=bs.q;go_enter func70,ntmps70;go_wp2_with fail;rw[HW.out];have c_x0:=bs.b6 0;go_wp2_with fail;go_ret;exact⟨rfl,q⟩
theorem qz:∀args w,(callFunc 70 args).run prog w=.ok (.enter 70 args) w:=enters_of func70 (by kernel_rfl) rfl
theorem pC (c:CoI) (t:List UInt8) (w:World) (hs:IsL rsY c.rv c.R w) (hz:c.R.length≤1000) (hj:∀r∈c.R,r.j.length≤10000) (hm:ML w):Calls prog 26 #[c.v,.string ⟨t.toArray⟩] w (dB w (fh (c.R.map RsI.d) t)):=by
 have e:slF c.R t (fun r=>r.ask)=fh (c.R.map RsI.d) t:=dk c.R t (fun r=>r.ask)
 rw[←e]
 have SM:=h_ fun (W:World) (hb:Bl w W)=>kJ c t (.func (.func 70) #[] #[]) (fun r=>r.ask) W (hs.ret hb) hz hj (hm.ret hb) ⟨_,_,rfl,qz,fun p _ V _=>oh p V⟩
 obtain⟨A,⟨aa,ac⟩,R,⟨ra,rc⟩,m⟩:=c;simp only[CoI.v] at SM ⊢;obtain⟨LA,hLA⟩:=e_ A.length;obtain⟨L,hL⟩:=e_ R.length;rw[hLA,hL] at SM ⊢;clear hs hz hj hm e hLA hL;obtain⟨W0,hW,y0,bs⟩:=Sx.start1 w [.slice aa LA ac,.slice ra L rc,.int .i64 m] 25;have HW:=h_ hW;clear hW;have q:=bs.q;go_enter func26,ntmps26;go_wp2_with fail;rw[HW.out];have c_c0:=bs.b3 0;go_wp2_with fail;refine(SM.out W0 q).mono ?_;rintro e w1 ⟨v,rfl,hown,hb⟩;have HO:=h_ (OwS.mono (S':=fun g=>w.heap.size≤g) hown (fun g _ hg=>wD q.size hg));clear hown;clear c_c0;replace bs:=bs.ret hb;replace q:=bs.q;clear hb;go_wp2_with fail;go_ret;exact⟨v,rfl,HO.out,q⟩

def tU (t:List UInt8) (s:Int) (r:RsI):Int:=if bv r.j&&(a9 r.j==t&&r.on) then max s r.pr else s
def eM (t:List UInt8) (s:Int) (R:List RsI):Int:=R.foldl (tU t) s
theorem jf {t:List UInt8} {s:Int} {R:List RsI} {k:Nat} {x:RsI} (hk:R[k]?=some x):eM t s (R.take (k+1))=tU t (eM t s (R.take k)) x:=by
 have hkl:k<R.length:=by
  rcases wq k R.length with h1 | h1
  ·exact h1
  ·rw[ws h1] at hk;cases hk
 have hM:R[k]=x:=by rw[wt hkl] at hk;exact wB hk
 unfold eM;rw[wH hkl,List.foldl_append,hM]
 rfl
theorem po (t:List UInt8):∀(R:List RsI) (s:Int),eM t s R=((R.map RsI.d).filter fun r=>bv r.j&&((a9 r.j==t)&&r.on)).foldl (fun m r=>max m r.pr) s
 | [],s=>rfl
 | x :: R,s=>by
  have e:eM t s (x :: R)=eM t (tU t s x) R:=rfl
  rw[e,po t R];unfold tU;rw[List.map_cons]
  cases h:(bv x.j&&(a9 x.j==t&&x.on)) with
  | true=>
   rw[wI (by exact h)]
   rfl
  | false=>
   rw[wK (by rw[show (bv x.d.j&&((a9 x.d.j==t)&&x.d.on))=false from h];decide)]
   rfl
theorem Sx.same {w0 w:World} {bs:Bs} {i:Nat} {b:Nat×List Value} (h:Sx w0 bs w) (hi:bs[i]?=Option.some b):Sx w0 (bs.set i b) w:=by
 have hil:i<bs.length:=by
  rcases wq i bs.length with h1 | h1
  ·exact h1
  ·rw[ws h1] at hi;cases hi
 have hb:bs[i]=b:=by rw[wt hil] at hi;exact wB hi
 rw[←hb,List.set_getElem_self];exact h
theorem rj (x:RsI) (L:Nat) (s:Int) (w0 w:World) (bs:Bs) (i:Nat) (h:Sx w0 bs w) (hi:bs[i]?=some (L,[.int .i64 s])):
  Calls prog 68 #[x.v,.pointer (some ⟨L,0,none⟩)] w (fun e w'=>e=.returned (.bool false)∧Sx w0 (bs.set i (L,[.int .i64 (if x.on then max s x.pr else s)])) w'):=by
 obtain⟨W,hW,-,-,b1⟩:=h.alloc w.heap.size rfl [.string ⟨x.j.toArray⟩,.bool x.on,.int .i64 x.pr,x.lv,.bool x.ask,x.sv] 38
 have hil:i<bs.length:=by
  rcases wq i bs.length with h1 | h1
  ·exact h1
  ·rw[ws h1] at hi;cases hi
 have kx:Bx w.heap.size [.string ⟨x.j.toArray⟩,.bool x.on,.int .i64 x.pr,x.lv,.bool x.ask,x.sv] W:=b1.box bs.length (by simp)
 have hi2:(bs++[(w.heap.size,[.string ⟨x.j.toArray⟩,.bool x.on,.int .i64 x.pr,x.lv,.bool x.ask,x.sv])])[i]?=some (L,[.int .i64 s]):=by rw[List.getElem?_append_left hil];exact hi
 have kt:=b1.box i hi2
 have e0:∀b,((bs++[(w.heap.size,[.string ⟨x.j.toArray⟩,.bool x.on,.int .i64 x.pr,x.lv,.bool x.ask,x.sv])]).set i b).take bs.length=bs.set i b:=fun b=>by
  rw[List.set_append_left _ _ hil,List.take_left' (by rw[List.length_set])]
 obtain⟨w2,hw2,-,b2⟩:=b1.sets i 0 [.int .i64 (max s x.pr)] hi2 (wu rfl)
 have f1:Sx w0 (bs.set i (L,[.int .i64 s])) W:=by
  have:=(b1.same hi2).some bs.length;rw[e0] at this;exact this
 have f2:Sx w0 (bs.set i (L,[.int .i64 (max s x.pr)])) w2:=by
  have:=b2.some bs.length;rw[e0] at this;exact this
 have HW:=h_ hW;have H2:=h_ hw2;have F1:=h_ f1;have F2:=h_ f2;have c0:=kx.at 0 rfl;have c1:=kx.at 1 rfl;have c2:=kx.at 2 rfl;have c3:=kx.at 3 rfl;have c4:=kx.at 4 rfl;have c5:=kx.at 5 rfl;have ct:=kt.at 0 rfl;have ft:=kt.fz 0 (by simp);obtain⟨on,hon⟩:=e_ x.on;rw[hon] at c1 HW ⊢
 show Calls _ _ #[.agg #[.string ⟨x.j.toArray⟩,.bool x.on,.int .i64 x.pr,x.lv,.bool x.ask,x.sv],_] w _
 rw[hon];clear h hi hW kx hi2 kt e0 b1 b2 hw2 f1 f2 hil hon
 cases on with
 | false=>
  go_enter func68,ntmps68;go_wp2_with fail;rw[HW.out];go_ret;exact⟨rfl,F1.out⟩
 | true=>
  have H2b:=H2.out;simp only[wv] at H2b;have H3:=h_ H2b;clear H2b;go_enter func68,ntmps68;go_upto_region 2 with fail;rw[HW.out];go_wp2_with fail;rw[H3.out];go_ret;exact⟨rfl,F2.out⟩
theorem sG:∀args w,(callFunc 68 args).run prog w=.ok (.enter 68 args) w:=enters_of func68 (by kernel_rfl) rfl
theorem sQ:∀args w,(callFunc 69 args).run prog w=.ok (.enter 69 args) w:=enters_of func69 (by kernel_rfl) rfl
theorem mM (j:ByteArray) (on ask:Bool) (pr s:Int) (lv sv:Value) (E:Bool) (L:Nat) (w:World) (hl:L<w.heap.size) (ct:w.cell? ⟨L,0,none⟩=some (.int .i64 s)) (h:(pr==s)=E):
  Calls prog 69 #[.agg #[.string j,.bool on,.int .i64 pr,lv,.bool ask,sv],.pointer (some ⟨L,0,none⟩)] w (Ret w (.bool (on&&E))):=by
 cases on with
 | false=>
  obtain⟨W0,hW,y0,bs⟩:=Sx.start1 w [.string j,.bool false,.int .i64 pr,lv,.bool ask,sv] 38;have HW:=h_ hW;clear hW;have q:=bs.q;go_enter func69,ntmps69;go_wp2_with fail;rw[HW.out];go_ret;exact⟨by first | rfl | simp,q⟩
 | true=>
  obtain⟨W0,hW,y0,bs⟩:=Sx.start1 w [.string j,.bool true,.int .i64 pr,lv,.bool ask,sv] 38;have HW:=h_ hW;clear hW;have q:=bs.q;go_enter func69,ntmps69;go_wp2_with fail;rw[HW.out];go_ret;exact⟨by first | rfl | simp,q⟩
theorem pN (x:RsI) (s:Int) (L:Nat) (w:World) (hl:L<w.heap.size) (ct:w.cell? ⟨L,0,none⟩=some (.int .i64 s)):
  Calls prog 69 #[x.v,.pointer (some ⟨L,0,none⟩)] w (Ret w (.bool (x.on&&(x.pr==s)))):=mM _ _ _ _ _ _ _ _ L w hl ct rfl
theorem l7 (c:CoI) (t:List UInt8) (A0 TL0:Nat) (C0:List Value) (w w1:World) (hs:IsL rsY c.rv c.R w) (hz:c.R.length≤1000) (hj:∀r∈c.R,r.j.length≤10000) (hm:ML w) (bs:Sx w [(A0,C0),(TL0,[.int .i64 0])] w1):
  Calls prog 65 #[c.v,.string ⟨t.toArray⟩,.func (.func 68) #[] #[.pointer (some ⟨TL0,0,none⟩)]] w1 (fun e w'=>e=.returned (.slice none 0 0)∧Sx w [(A0,C0),(TL0,[.int .i64 (eM t 0 c.R)])] w'):=by
 obtain⟨A,⟨aa,ac⟩,R,⟨ra,rc⟩,m⟩:=c
 simp only at hz hj
 have eg:=sG;have hs:IsL rsY (.slice ra R.length rc) R w:=hs
 show Calls prog 65 #[.agg #[.slice aa A.length ac,.slice ra R.length rc,.int .i64 m],.string ⟨t.toArray⟩,_] w1 (fun e w'=>e=.returned (.slice none 0 0)∧Sx w [(A0,C0),(TL0,[.int .i64 (eM t 0 R)])] w')
 obtain⟨LA,hLA⟩:=e_ A.length;obtain⟨L,hL⟩:=e_ R.length;obtain⟨tb,htb⟩:∃tb:ByteArray,ByteArray.mk t.toArray=tb:=⟨_,rfl⟩;rw[hLA,hL,htb];have HTB:=h_ htb
 have hs2:IsL rsY (.slice ra L rc) R w:=by rw[←hL];exact hs
 have HS:=h_ hs2;have HL:=h_ hL;have HJ:=h_ hj;have HM:=h_ hm
 have hLz:L≤1000:=by omega
 clear hs hs2 hLA hL hj hm hz htb;obtain⟨W0,hW,y0,al,bs⟩:=bs.alloc (w1.heap.size) rfl [.slice aa LA ac,.slice ra L rc,.int .i64 m] 25;have HW:=h_ hW;clear hW al;have q:=bs.q;go_enter func65,ntmps65;go_wp2_with fail;rw[HW.out];have c_c0:=bs.b3 2;go_wp2_with fail;clear c_c0;go_loopw [14,6] (fun i lv wx=>∃(k:Nat),k≤L∧i=.int .i64 k∧lv=.slice none 0 0∧Sx w [(A0,C0),(TL0,[.int .i64 (eM t 0 (R.take k))]),(w1.heap.size,[.slice aa LA ac,.slice ra L rc,.int .i64 m])] wx) (fun i _ _=>L-(intOf i).toNat)
 case atStart=>exact⟨0,wz _,rfl,rfl,bs⟩
 case round=>
  clear bs q;obtain⟨k,hk,rfl,rfl,bs⟩:=hrel;have q:=bs.q
  by_cases hlt:k<L
  ·have hkM : k < R.length := by rw [HL.out]; exact hlt
   obtain⟨x,hx⟩:=e_ (R[k]);have hkx:R[k]?=some x:=(by rw[wt hkM,hx]);have hxm:x∈R:=(by rw[←hx];exact wM hkM);have hstep:=jf (t:=t) (s:=0) hkx;obtain⟨S,hS⟩:=e_ (eM t 0 (R.take k));rw[hS] at bs hstep;unfold tU at hstep;obtain⟨b,off,cp,hv,-,hc⟩:=HS.out.cells hkx;rw[HL.out] at hv;simp only[wy,true_and] at hv;obtain⟨rfl,rfl⟩:=hv
   have CP:=fun (W:World) (hb:Bl w W)=>cJ ⟨x.j.toArray⟩ W (by rw[←ab];exact HJ.out x hxm) (HM.out.ret hb)
   have CB:=fun (W:World) (hb:Bl w W)=>kG ⟨x.j.toArray⟩ W (by rw[←ab];exact HJ.out x hxm) (HM.out.ret hb)
   simp only[gV] at CP;obtain⟨P,hP⟩:=e_ (bv x.j);obtain⟨bt,hbt⟩:=e_ (a9 x.j);simp only[hP] at CP;simp only[hbt] at CB;simp only[hP,hbt] at hstep;obtain⟨bb,hbb⟩:=e_ (jB bt);rw[hbb] at CB
   have hBQ:(bb.toList==tb.toList)=(bt==t):=by
    rw[←hbb,←HTB.out,show (jB bt).toList=bt by rw[wA,ag],wA]
   obtain⟨B,hB⟩:=e_ ((bt==t));rw[hB] at hBQ hstep;have CP:=h_ CP;have CB:=h_ CB;have HT:=h_ hstep;clear hx hkx hxm hkM hP hbt hstep hB hbb hS
   have i0:wr.cell? ⟨b,off+k*6,none⟩=some (.string ⟨x.j.toArray⟩):=hc wr q 0 _ rfl
   have i1:wr.cell? ⟨b,off+k*6+1,none⟩=some (.bool x.on):=hc wr q 1 _ rfl
   have i2:wr.cell? ⟨b,off+k*6+2,none⟩=some (.int .i64 x.pr):=hc wr q 2 _ rfl
   have i3:wr.cell? ⟨b,off+k*6+3,none⟩=some (x.lv):=hc wr q 3 _ rfl
   have i4:wr.cell? ⟨b,off+k*6+4,none⟩=some (.bool x.ask):=hc wr q 4 _ rfl
   have i5:wr.cell? ⟨b,off+k*6+5,none⟩=some (x.sv):=hc wr q 5 _ rfl
   clear hc
   cases P with
   | false=>
    have d0:=(bs.lit (wr.heap.size) rfl [.string ⟨x.j.toArray⟩,.bool x.on,.int .i64 x.pr,x.lv,.bool x.ask,x.sv] 38);have c0_n00:=d0.b6 3;go_wp2_with fail;clear d0 c0_n00;clear i0 i1 i2 i3 i4 i5;obtain⟨w31,hw31,y31,al,bs⟩:=bs.alloc (wr.heap.size) rfl [.string ⟨x.j.toArray⟩,.bool x.on,.int .i64 x.pr,x.lv,.bool x.ask,x.sv] 38;clear al;replace q:=bs.q;rw[hw31];refine(CP.out w31 q).mono ?_;rintro e w32 ⟨rfl,hb⟩;replace bs:=bs.ret hb;replace q:=bs.q;clear hb;simp only[wN,if_false];have c_r0:=bs.b6 3;have d0:=(bs.lit (w32.heap.size) rfl [.string (jB (adr x.j).1),.string (jB (adr x.j).2.1),.string (jB (adr x.j).2.2)] 117);have c0_r0:=d0.b6 3;go_wp2_with fail;clear c_r0 d0 c0_r0;obtain⟨w33,hw33,y33,al,bs⟩:=bs.alloc (w32.heap.size) rfl [.string (jB (adr x.j).1),.string (jB (adr x.j).2.1),.string (jB (adr x.j).2.2)] 117;clear al;replace q:=bs.q;rw[hw33];go_wp2_with fail;go_roundw
    case rel=>exact⟨k+1,by omega,by go_num,rfl,by rw[show eM t 0 (R.take (k+1))=S from HT.out];exact bs.some 3⟩
    case measure=>simp[intOf];omega
   | true=>
    have d0:=(bs.lit (wr.heap.size) rfl [.string ⟨x.j.toArray⟩,.bool x.on,.int .i64 x.pr,x.lv,.bool x.ask,x.sv] 38);have c0_n00:=d0.b6 3;go_wp2_with fail;clear d0 c0_n00;clear i0 i1 i2 i3 i4 i5;obtain⟨w31,hw31,y31,al,bs⟩:=bs.alloc (wr.heap.size) rfl [.string ⟨x.j.toArray⟩,.bool x.on,.int .i64 x.pr,x.lv,.bool x.ask,x.sv] 38;clear al;replace q:=bs.q;rw[hw31];refine(CP.out w31 q).mono ?_;rintro e w32 ⟨rfl,hb⟩;replace bs:=bs.ret hb;replace q:=bs.q;clear hb;simp only[if_true];have c_r0:=bs.b6 3;have d0:=(bs.lit (w32.heap.size) rfl [.string (jB (adr x.j).1),.string (jB (adr x.j).2.1),.string (jB (adr x.j).2.2)] 117);have c0_r0:=d0.b6 3;go_wp2_with fail;clear c_r0 d0 c0_r0;obtain⟨w33,hw33,y33,al,bs⟩:=bs.alloc (w32.heap.size) rfl [.string (jB (adr x.j).1),.string (jB (adr x.j).2.1),.string (jB (adr x.j).2.2)] 117;clear al;replace q:=bs.q;rw[hw33];have c_r0:=bs.b6 3;go_wp2_with fail;refine(CB.out w33 q).mono ?_;rintro e w34 ⟨rfl,hb⟩;clear c_r0;replace bs:=bs.ret hb;replace q:=bs.q;clear hb
    cases B with
    | false=>
     have c_r0:=bs.b6 3;go_wp2_with fail;go_roundw
     case rel=>exact⟨k+1,by omega,by go_num,rfl,by rw[show eM t 0 (R.take (k+1))=S from HT.out];exact bs.some 3⟩
     case measure=>simp[intOf];omega
    | true=>
     have c_r0:=bs.b6 3;have CG1:=h_ (rj x TL0 S w _ _ 1 bs rfl);go_wp2_with (go_at_fn 68;refine CG1.out.mono ?_;rintro e w60 ⟨rfl,b60⟩);clear c_r0;clear bs q CG1;have bs:=b60;have q:=bs.q;clear b60;go_roundw
     case rel=>exact⟨k+1,by omega,by go_num,rfl,by rw[show eM t 0 (R.take (k+1))=(if x.on then max S x.pr else S) from HT.out];exact bs.some 3⟩
     case measure=>simp[intOf];omega
  ·have e:R.take k=R:=wO (by rw[HL.out];omega)
   rw[e] at bs;clear e;have BS:=h_ (bs.some 2);clear bs;go_wp2_with fail;go_ret;exact⟨rfl,BS.out⟩
theorem tv (c:CoI) (t:List UInt8) (w:World) (hs:IsL rsY c.rv c.R w) (hz:c.R.length≤1000) (hj:∀r∈c.R,r.j.length≤10000) (hm:ML w):Calls prog 24 #[c.v,.string ⟨t.toArray⟩] w (dB w (ic (c.R.map RsI.d) t)):=by
 have e:slF c.R t (fun r=>r.on&&(r.pr==eM t 0 c.R))=ic (c.R.map RsI.d) t:=by
  have h:=dk c.R t (fun r=>r.on&&decide (r.pr=ua (c.R.map RsI.d) t));unfold ic;rw[←h]
  have e2:ua (c.R.map RsI.d) t=eM t 0 c.R:=by rw[po];rfl
  rw[e2]
  rfl
 rw[←e]
 have ST:=h_ fun (w1:World) (A0 TL0:Nat) (C0:List Value) (bs:Sx w [(A0,C0),(TL0,[.int .i64 0])] w1)=>l7 c t A0 TL0 C0 w w1 hs hz hj hm bs
 have SM:=h_ fun (W:World) (hb:Bl w W) (TL0:Nat) (hl:TL0<W.heap.size) (ct:W.cell? ⟨TL0,0,none⟩=some (.int .i64 (eM t 0 c.R)))=>kJ c t (.func (.func 69) #[] #[.pointer (some ⟨TL0,0,none⟩)]) (fun r=>r.on&&(r.pr==eM t 0 c.R)) W (hs.ret hb) hz hj (hm.ret hb) ⟨_,_,rfl,sQ,fun p _ V hV=>pN p _ TL0 V (Nat.lt_of_lt_of_le hl hV.size) (((af hV).1 _ _ hl).trans ct)⟩
 obtain⟨A,⟨aa,ac⟩,R,⟨ra,rc⟩,m⟩:=c;simp only[CoI.v] at SM ST ⊢;obtain⟨LA,hLA⟩:=e_ A.length;obtain⟨L,hL⟩:=e_ R.length;rw[hLA,hL] at SM ST ⊢;obtain⟨X,hX⟩:=e_ (eM t 0 R);rw[hX] at SM ST ⊢;clear hs hz hj hm e hLA hL hX;obtain⟨W0,hW,y0,bs⟩:=Sx.start2 w [.slice aa LA ac,.slice ra L rc,.int .i64 m] 25 [.int .i64 0] 3;have HW:=h_ hW;clear hW;have q:=bs.q;go_enter func24,ntmps24;go_wp2_with fail;rw[HW.out];have c_c0:=bs.b3 0;have c_t0:=bs.at 1 0;go_wp2_with fail;refine(ST.out _ _ _ _ bs).mono ?_;rintro e w1 ⟨rfl,b1⟩;clear c_c0 c_t0;clear bs q;have bs:=b1;clear b1;have q:=bs.q;have c_c0:=bs.b3 0;have c_t0:=bs.at 1 0;go_wp2_with fail;refine(SM.out w1 q (w.heap.size+1) (bs.lt _ (ww (i:=1) rfl)) (bs.at 1 0)).mono ?_;rintro e w2 ⟨v,rfl,hown,hb⟩;have HO:=h_ (OwS.mono (S':=fun g=>w.heap.size≤g) hown (fun g _ hg=>wD q.size hg));clear hown;clear c_c0 c_t0;replace bs:=bs.ret hb;replace q:=bs.q;clear hb;go_wp2_with fail;go_ret;exact⟨v,rfl,HO.out,q⟩
end Go.Proofs.YtjgeiieiinmdnaaGreatDoor
