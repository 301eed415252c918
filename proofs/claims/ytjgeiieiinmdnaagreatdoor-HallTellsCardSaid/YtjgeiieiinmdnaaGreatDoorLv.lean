/- HaFn, DdN, DdM, DdB: put together by mergetpl.py. -/
import Derived.Test.YtjgeiieiinmdnaaGreatDoorLq
import Derived.Test.YtjgeiieiinmdnaaGreatDoorLh
import Derived.Test.YtjgeiieiinmdnaaGreatDoorKm
import Derived.Test.YtjgeiieiinmdnaaGreatDoorLs
import Derived.Test.YtjgeiieiinmdnaaGreatDoorLl
import Derived.Test.YtjgeiieiinmdnaaGreatDoorLg
import Derived.Test.YtjgeiieiinmdnaaGreatDoorLr
import Derived.Test.YtjgeiieiinmdnaaGreatDoorLp
import Derived.Test.YtjgeiieiinmdnaaGreatDoorLi
open Go.Proofs.Tryz
open Go.RowKit.Below renaming drew→ws,size→ww,trans→wO
open Go.Value.slice renaming injEq→wI
open Go.World renaming setCells→wv
open List renaming length_map→wq,length_append→wt,append_nil→wz,mem_of_getElem?→wA,getElem?_eq_getElem→wB,length_take→wC,mem_cons→wD,not_mem_nil→wE,take_of_length_le→wF,mem_map_of_mem→wG,getElem?_map→wH,find?→wK,mem_map→wL,length_cons→wM,length_nil→wN,mem_singleton→wP,map_append→wQ,filter_map→wR,contains_iff_mem→wS,length_filter_le→wT,getElem?_toArray→wU,getElem?_cons_succ→wV,getElem?_cons_zero→wW,mem_of_mem_take→wZ
open Nat renaming le_of_ble_eq_true→wu,zero_le→wy,le_trans→wY
open Option.some renaming injEq→wX
namespace Go.Proofs.YtjgeiieiinmdnaaGreatDoor
set_option maxHeartbeats 8000000
set_option maxRecDepth 100000
open Go.RowKit Go.Lib

theorem qT (v:Value) (ver:Int) (M:List Im) (t:ByteArray) (w:World) (hv:aw v M w) (hM:M.length≤1000) (hg:∀p∈M,p.1.g.length≤1000):
  Calls prog 71 #[.agg #[v,.int .i64 ver],.string t] w (lI w (kR (bO (M.map Prod.fst) t.data.toList))):=by
 refine(r9 v ver M t w hv hM hg).mono ?_;rintro e w' ⟨a,c,rfl,-,hb⟩;refine⟨_,_,_,_,_,_,_,_,_,_,_,rfl,?_,hb⟩
 cases bO (M.map Prod.fst) t.data.toList with
 | none=>rfl
 | some i=>exact Bool.true_and _
def Lt (w w':World):Prop:=Bl w w'
theorem Lt.ret {w w1 w2:World} (h:Lt w w1) (hb:Bl w1 w2):Lt w w2:=wO h (hb.mono (ww h))
theorem Lt.grown {w w1 w2:World} {r:Option Nat} (h:Lt w w1) (hg:w1.grownBy w2 r) (hr:∀g,r=some g→w.heap.size≤g):Lt w w2:=wO h ((Below.refl w.heap.size w1).grown hg (ww h) hr)
theorem nb (A:List AcI) (a1 r1:Option Addr) (b1 LR1 s1:Nat) (m1:Int) (LS:List It) (tb:ByteArray) (w:World) (hs:IsL acY (.slice a1 A.length b1) A w) (hz:A.length≤1000)
  (CF:∀W,Bl w W→Calls prog 11 #[.agg #[.slice a1 A.length b1,.slice r1 LR1 s1,.int .i64 m1],.string tb] W (fun e w'=>∃(x0:AcI) (is0:Bool),e=.returned (.tuple #[x0.v,.bool is0])∧x0.it.map Prod.fst=LS∧aw x0.iv x0.it w'∧Bl W w'))
  (hxl:LS.length≤1000) (hxg:∀i∈LS,i.g.length≤1000):Calls prog 28 #[.agg #[.slice a1 A.length b1,.slice r1 LR1 s1,.int .i64 m1],.string tb] w (dB w (fJ (A.map AcI.d) LS)):=by
 obtain⟨LA1,hLA⟩:=e_ A.length;rw[hLA] at hs hz CF ⊢;obtain⟨i0',hi,hz0,hz1,hz2⟩:=info_parts be;have HR:=h_ hs;have HL:=h_ hLA;have CF:=h_ CF;have HXL:=h_ hxl;have HXG:=h_ hxg;clear hs hLA hxl hxg;obtain⟨W0,hW,y0,bs⟩:=Sx.start1 w [.slice a1 LA1 b1,.slice r1 LR1 s1,.int .i64 m1] 25;have HW:=h_ hW;clear hW;have q:=bs.q;go_enter func28,ntmps28;have c_c0:=bs.b3 0;go_wp2_with fail;rw[HW.out];refine(CF.out W0 q).mono ?_;rintro e w1 ⟨x0,is0,rfl,hx0,hxi,hb⟩;clear c_c0;replace bs:=bs.ret hb;replace q:=bs.q;clear hb;obtain⟨oj,oit,⟨oa,oc⟩,ov⟩:=x0;simp only[AcI.v,AcI.iv] at hxi ⊢
 have hx0:oit.map Prod.fst=LS:=hx0
 have hol0:oit.length=LS.length:=by rw[←hx0,wq]
 have hog:∀p∈oit,p.1.g.length≤1000:=fun p hp=>HXG.out p.1 (by rw[←hx0];exact wG hp)
 obtain⟨ol,hol⟩:=e_ oit.length;obtain⟨ob,hob⟩:=e_ (ByteArray.mk oj.toArray);rw[hol] at hxi;rw[hol,hob]
 have CI:=h_ fun (t:ByteArray) (W:World) (hb:Bl w1 W)=>qT (.slice oa ol oc) ov oit t W (hxi.ret hb) (by rw[hol0];exact HXL.out) hog
 rw[hx0] at CI;clear hxi hx0 hol0 hog hol hob;have hAb0:=bs.lt _ (wA (i:=0) rfl);have hAb1:=h_ hAb0;clear hAb0
 have o_w:Lt w1 w1:=bQ _
 have c_c0:=bs.b3 0;have d0:=(bs.lit (w1.heap.size) rfl [.string ob,.slice oa ol oc,.int .i64 ov] 33);have c0_n00:=d0.b3 1;have c0_c0:=d0.b3 0;go_wp2_with fail;clear c_c0 d0 c0_n00 c0_c0;obtain⟨w2,hw2,y2,al,bs⟩:=bs.alloc (w1.heap.size) rfl [.string ob,.slice oa ol oc,.int .i64 ov] 33;replace o_w:=o_w.ret al;clear al;replace q:=bs.q;rw[hw2];obtain⟨Ab,hAb⟩:=e_ w1.heap.size;rw[hAb] at bs ⊢
 have hAb2:w.heap.size<Ab:=by rw[←hAb];exact hAb1.out
 have HAB:=h_ hAb2;have HAB1:=h_ hAb;clear hAb2 hAb1 hAb;have c_c0:=bs.b3 0;go_wp2_with fail;clear c_c0;go_loopw [4,20] (fun lv i wx=>∃k:Nat,i=.int .i64 k∧k≤LA1∧wx.ownsRow (Ab+1) 9 1 lv (fJ ((A.map AcI.d).take k) LS).length (aY (fJ ((A.map AcI.d).take k) LS))∧Lt w1 wx∧Sx w [(w.heap.size,[.slice a1 LA1 b1,.slice r1 LR1 s1,.int .i64 m1]),(Ab,[.string ob,.slice oa ol oc,.int .i64 ov])] wx) (fun _ i _=>LA1-(intOf i).toNat)
 case atStart=>exact⟨0,rfl,wy _,World.ownsRow_nil _ _ _ _,o_w,bs⟩
 case round=>
  clear bs q o_w;obtain⟨k,rfl,hk,hrow,o_w,bs⟩:=hrel;have q:=bs.q
  by_cases hlt:k<LA1
  ·have wl : (k : Int) < (LA1 : Int) := by omega
   have hkM:k<A.length:=(by rw[HL.out];exact hlt);obtain⟨x,hx⟩:=e_ (A[k]);have hkx:A[k]?=some x:=(by rw[wB hkM,hx]);have hkd:(A.map AcI.d)[k]?=some x.d:=(by rw[wH,hkx];rfl);have hstep:=kg (L:=LS) hkd;have hlen:=gX ((A.map AcI.d).take k) LS;rw[wC] at hlen;obtain⟨gs,hgs⟩:=e_ (fJ ((A.map AcI.d).take k) LS);rw[hgs] at hrow hlen hstep;obtain⟨n,hn⟩:=e_ gs.length;rw[hn] at hrow hlen;obtain⟨la,lc,rfl,-⟩:=aq hrow;have hn2:n≤1000:=(by omega);obtain⟨b,off,cp,hf,-,hc⟩:=HR.out.cells hkx;rw[HL.out] at hf;simp only[wI,true_and] at hf;obtain⟨rfl,rfl⟩:=hf;obtain⟨xj,xit,⟨xa,xc⟩,xver⟩:=x;obtain⟨xl,hxl⟩:=e_ xit.length;obtain⟨jb,hjb⟩:=e_ (ByteArray.mk xj.toArray);obtain⟨ff,hff⟩:=e_ (kR (bO LS xj))
   have CI1:∀W,Lt w1 W→Calls prog 71 #[.agg #[.slice oa ol oc,.int .i64 ov],.string jb] W (lI W ff):=fun W hb=>by rw[←hff,show xj=jb.data.toList by rw[←hjb]];exact CI.out jb W hb
   replace CI1:=h_ CI1;have HJB:=h_ hjb;have HN:=h_ hn
   have HT:Hid (fJ ((A.map AcI.d).take (k+1)) LS=gs++if ff=true then [xj] else []):=h_ (by rw[←hff];exact hstep)
   obtain⟨i0,i1,i2⟩:wr.cell? ⟨b,off+k*3,none⟩=some (.string jb)∧wr.cell? ⟨b,off+k*3+1,none⟩=some (.slice xa xl xc)∧wr.cell? ⟨b,off+k*3+2,none⟩=some (.int .i64 xver):=(by rw[←hjb,←hxl];exact⟨hc wr q 0 _ rfl,hc wr q 1 _ rfl,hc wr q 2 _ rfl⟩)
   have HB:Hid (∀g,(Value.slice la n lc).ownBlock=some g→Ab+1≤g):=h_ (fun g hg=>(hrow.lt g hg).1)
   have o_l:OwX w [w.heap.size,Ab] 9 1 (.slice la n lc) n (aY gs) wr:=⟨hrow.mono (by have:=HAB.out;omega),fun g hg hm=>by have h1:=HB.out g hg;have h2:=HAB.out;simp only[wD,wE,or_false] at hm;omega⟩;clear hx hkx hkd hkM hn hrow hlen hstep hgs hc hxl hjb hff;have c_a0:=bs.b3 1;have d0:=(bs.lit (wr.heap.size) rfl [.string jb,.slice xa xl xc,.int .i64 xver] 33);have c0_n00:=d0.b3 2;have c0_a0:=d0.b3 1;go_wp2_with fail;clear c_a0 d0 c0_n00 c0_a0;clear i0 i1 i2;obtain⟨w21,hw21,y21,al,bs⟩:=bs.alloc (wr.heap.size) rfl [.string jb,.slice xa xl xc,.int .i64 xver] 33;replace o_l:=o_l.alloc (wr.heap.size) rfl al;replace o_w:=o_w.ret al;clear al;replace q:=bs.q;rw[hw21];refine(CI1.out w21 o_w).mono ?_;rintro e w22 ⟨yj,yn,ga,gl,gc,e1,e2,e3,e4,k1,is,rfl,hf,hb⟩;replace o_l:=o_l.ret hb;replace o_w:=o_w.ret hb;replace bs:=bs.ret hb;replace q:=bs.q;clear hb;subst hf
   cases is with
   | false=>
    have d0:=(bs.lit (w22.heap.size) rfl [.string yj,.string yn,.slice ga gl gc,.bool e1,.bool e2,.bool e3,.bool e4,.bool k1] 99);have c0_n00:=d0.b8 3;go_wp2_with fail;clear d0 c0_n00;obtain⟨w23,hw23,y23,al,bs⟩:=bs.alloc (w22.heap.size) rfl [.string yj,.string yn,.slice ga gl gc,.bool e1,.bool e2,.bool e3,.bool e4,.bool k1] 99;replace o_l:=o_l.alloc (w22.heap.size) rfl al;replace o_w:=o_w.ret al;clear al;replace q:=bs.q;rw[hw23];go_roundw
    case rel=>exact⟨k+1,by go_num,by omega,by rw[show fJ ((A.map AcI.d).take (k+1)) LS=gs from HT.out.trans (wz gs),HN.out];exact gw o_l.1 HB.out,o_w,bs.some 2⟩
    case measure=>simp[intOf];omega
   | true=>
    cases e3 with
    | false=>
     have d0:=(bs.lit (w22.heap.size) rfl [.string yj,.string yn,.slice ga gl gc,.bool e1,.bool e2,.bool false,.bool e4,.bool k1] 99);have c0_n00:=d0.b8 3;go_wp2_with fail;clear d0 c0_n00;obtain⟨w23,hw23,y23,al,bs⟩:=bs.alloc (w22.heap.size) rfl [.string yj,.string yn,.slice ga gl gc,.bool e1,.bool e2,.bool false,.bool e4,.bool k1] 99;replace o_l:=o_l.alloc (w22.heap.size) rfl al;replace o_w:=o_w.ret al;clear al;replace q:=bs.q;rw[hw23];go_roundw
     case rel=>exact⟨k+1,by go_num,by omega,by rw[show fJ ((A.map AcI.d).take (k+1)) LS=gs from HT.out.trans (wz gs),HN.out];exact gw o_l.1 HB.out,o_w,bs.some 2⟩
     case measure=>simp[intOf];omega
    | true=>
     have c_e0:=bs.b3 2;have d0:=(bs.lit (w22.heap.size) rfl [.string yj,.string yn,.slice ga gl gc,.bool e1,.bool e2,.bool true,.bool e4,.bool k1] 99);have c0_n0:=d0.b8 3;have c0_e0:=d0.b3 2;go_wp2_with (at_builtin;refine Hid.out ?_);clear c_e0;clear d0 c0_n0 c0_e0;obtain⟨w23,hw23,y23,al,bs⟩:=bs.alloc (w22.heap.size) rfl [.string yj,.string yn,.slice ga gl gc,.bool e1,.bool e2,.bool true,.bool e4,.bool k1] 99;replace o_l:=o_l.alloc (w22.heap.size) rfl al;replace o_w:=o_w.ret al;clear al;obtain⟨w24,hw24,y24,al,bs⟩:=bs.alloc (w22.heap.size+1) (by omega) [.string jb] 9;replace o_l:=o_l.alloc (w22.heap.size+1) (by omega) al;replace o_w:=o_w.ret al;clear al;replace q:=bs.q;rw[hw23];rw[hw24];have hAz:=bs.lt _ (wA (i:=1) rfl);refine ai rfl _ _ _ rfl (Ab+1) 9 i0' _ 1 16 underlying26 hi hz0 hz1 hz2 rfl (by omega) _ n (aY gs) rfl (gw o_l.1 HB.out) _ (by rfl) 1 [.string jb] ((bs.box 4 rfl).row rfl) (by intro u hu;cases wP.1 hu;rfl) (by omega) (by omega) (by exact hAz) ?_;intro v' w' hown hgr;replace bs:=bs.grown hgr (fun g hg=>⟨(o_l.1.lt g hg).1,o_l.2 g hg⟩);replace o_w:=o_w.grown hgr (fun g hg=>by have h1:=HB.out g hg;have h2:=HAB1.out;omega);clear o_l q hAz;go_wp2_with fail;go_roundw
     case rel=>exact⟨k+1,by go_num,by omega,by rw[show fJ ((A.map AcI.d).take (k+1)) LS=gs++[xj] from HT.out,wt,HN.out,cD,HJB.out];exact hown,o_w,bs.some 2⟩
     case measure=>simp[intOf];omega
  ·have wl : ¬ (k : Int) < (LA1 : Int) := by omega
   have e:(A.map AcI.d).take k=A.map AcI.d:=wF (by rw[wq,HL.out];omega)
   rw[e] at hrow;have HRW:=h_ hrow;clear hrow e;go_wp2_with fail;go_ret;exact⟨_,rfl,⟨HRW.out.mono (wy _),fun g hg=>by have h1:=(HRW.out.lt g hg).1;have h2:=HAB.out;omega⟩,q⟩
theorem rN (c:CoI) (tb:ByteArray) (w:World) (hs:IsL acY c.av c.A w) (hz:c.A.length≤1000) (hf:∀a∈c.A,cq a.it):Calls prog 28 #[c.v,.string tb] w (dB w (ku (c.A.map AcI.d) tb.data.toList)):=by
 unfold ku
 have hx:((fiG acN (c.A.map AcI.d) tb.data.toList).getD ac0).2.1.length≤1000∧∀i∈((fiG acN (c.A.map AcI.d) tb.data.toList).getD ac0).2.1,i.g.length≤1000:=by
  show ((wK (fun a:Ac=>a.1==tb.data.toList) (c.A.map AcI.d)).getD ac0).2.1.length≤1000∧∀i∈((wK (fun a:Ac=>a.1==tb.data.toList) (c.A.map AcI.d)).getD ac0).2.1,i.g.length≤1000
  cases h:wK (fun a:Ac=>a.1==tb.data.toList) (c.A.map AcI.d) with
  | none=>exact⟨by decide,fun i hi=>by cases hi⟩
  | some y=>
   obtain⟨x,hx,rfl⟩:=wL.1 (List.mem_of_find?_eq_some h);have k:=hf x hx;refine⟨?_,fun i hi=>?_⟩
   ·show (x.it.map Prod.fst).length≤1000
    rw[wq];have:=k.1
    omega
   ·obtain⟨p,hp,rfl⟩:=wL.1 hi
    have:=(k.2 p hp)
    omega
 have CF:=fun (W:World) (hb:Bl w W)=>oA c tb.data.toList W (hs.ret hb) hz hf
 rw[show (⟨tb.data.toList.toArray⟩:ByteArray)=tb from aR (by simp)] at CF;obtain⟨L0,hL0⟩:=e_ (((fiG acN (c.A.map AcI.d) tb.data.toList).getD ac0).2.1);rw[hL0] at hx ⊢;obtain⟨A,⟨a1,b1⟩,R,⟨r1,s1⟩,m1⟩:=c;refine nb A a1 r1 b1 R.length s1 m1 L0 tb w hs hz (fun W hb=>(CF W hb).mono ?_) hx.1 hx.2;rintro e w' ⟨x,rfl,hd,ho,hb⟩;exact⟨x,_,rfl,by rw[←hL0,←hd],OwI.items ho,hb⟩

section
variable {α β:Type} {nm:α→List UInt8} {L:List α} {t:List UInt8} {k:Nat} {x:α}
def loG (nm:α→List UInt8) (L:List α) (t:List UInt8):List α:=L.filter fun y=>ao (nm y) t
def hiG (nm:α→List UInt8) (L:List α) (t:List UInt8):List α:=L.filter fun y=>ao t (nm y)
theorem uP:wiG nm L x=loG nm (woG nm L (nm x)) (nm x)++x :: hiG nm (woG nm L (nm x)) (nm x):=rfl
theorem ry {q:α→Bool} (hx:L[k]?=some x):(L.take (k+1)).filter q=(L.take k).filter q++if q x then [x] else []:=by
 rw[aM hx,List.filter_append]
 cases h:q x <;> simp[h]
theorem sn (h:fiG nm L t=none):woG nm L t=L:=by
 unfold fiG at h;unfold woG;rw[List.find?_eq_none] at h
 exact List.filter_eq_self.2 fun y hy=>by simpa using h y hy
theorem tj (h:fiG nm L (nm x)=none):wiG nm L x=loG nm L (nm x)++x :: hiG nm L (nm x):=by rw[uP,sn h]
end
section
variable {α:Type} [Inhabited α] {nm:α→List UInt8} {L:List α} {x:α}
theorem sU (hc:chG nm L=true) (hL:∀y∈L,bz (nm y)=true) (hx:bz (nm x)=true):wiG nm L x=puO nm L x:=by rw[nW hc hL hx,tP hL hx]
end

abbrev aDn (s:List UInt8):Ac:=(s,[],0)
abbrev aN (s:List UInt8):AcI:=⟨s,[],(none,0),0⟩
def loN (ns:List (List UInt8)) (s:List UInt8):List (List UInt8):=ns.filter fun t=>ao t s
def hiN (ns:List (List UInt8)) (s:List UInt8):List (List UInt8):=ns.filter fun t=>ao s t
theorem rF (ns:List (List UInt8)):(ns.map aN).map AcI.d=ns.map aDn:=by
 rw[List.map_map]
 rfl
theorem uE (S:Nat→Prop) (s:List UInt8) (w:World):acY.own S (aN s) w:=(⟨OwS.nil _ _ _ _,fun p hp=>by cases hp⟩:OwI S (aN s).iv (aN s).it w)
theorem sk {S:Nat→Prop} {v:Value} {ns:List (List UInt8)} {w:World} (h:OwS S acY.e 3 v ns.length (acY.fl (ns.map aN)) w):OwL acY S v (ns.map aN) w:=
 ⟨by rw[wq];exact h,fun x hx=>by obtain⟨s,-,rfl⟩:=wL.1 hx;exact uE S s w⟩
theorem sr (ns:List (List UInt8)) (s:List UInt8):acY.fl ((ns++[s]).map aN)=acY.fl (ns.map aN)++[.string ⟨s.toArray⟩,.slice none 0 0,.int .i64 0]:=by
 rw[wQ,gJ]
 rfl
theorem v8 {α:Type} {nm:α→List UInt8} {A:List α} {t:List UInt8}:(fiG nm A t).isSome=true↔∃a∈A,nm a=t:=by
 unfold fiG;rw[List.find?_isSome]
 constructor
 ·rintro ⟨x,hx,h⟩
  exact⟨x,hx,beq_iff_eq.1 h⟩
 ·rintro ⟨x,hx,h⟩
  exact⟨x,hx,beq_iff_eq.2 h⟩
def nu (l:List (List UInt8)) (A:List Ac):Prop:=∀s∈l,(fiG acN A s).isSome=true
theorem nu.snoc {l:List (List UInt8)} {A:List Ac} {s:List UInt8} (h:nu l A) (hok:NewOk l A) (hs:bg s=true):nu (l++[s]) (puO acN A (aDn s)):=by
 have e:puO acN A (aDn s)=puG acN A (aDn s):=tP hok.ad (bT hs)
 intro t ht;rw[e]
 by_cases hts:t=s
 ·subst hts
  have:=nQ (nm:=acN) (x:=aDn t) hok.ch hok.ad (bT hs)
  have e2:acN (aDn t)=t:=rfl
  rw[e2] at this;rw[this]
  rfl
 ·rw[ma (nm:=acN) (x:=aDn s) hok.ch hok.ad (bT hs) hts]
  rcases List.mem_append.1 ht with ht | ht
  ·exact h t ht
  ·exact absurd (wP.1 ht) hts
theorem qh {l ns:List (List UInt8)} {s:List UInt8} (h:ns.map aDn=dw l) (hok:NewOk l (dw l)) (hs:bg s=true) (hf:(fiG acN (dw l) s).isSome=false):(loN ns s++s :: hiN ns s).map aDn=dw (l++[s]):=by
 have hn:fiG acN (dw l) (acN (aDn s))=none:=by
  show fiG acN (dw l) s=none
  cases h2:fiG acN (dw l) s with
  | none=>rfl
  | some x=>rw[h2] at hf;cases hf
 rw[cY,←sU (nm:=acN) (x:=aDn s) hok.ch hok.ad (bT hs),tj hn,←h];unfold loN hiN loG hiG;rw[wQ,List.map_cons,wR,wR]
 rfl
theorem rd {l:List (List UInt8)} {k:Nat} {s:List UInt8} {A:List Ac} (hl:l[k]?=some s) (hok:NewOk (l.take k) A) (h:(fiG acN A s).isSome=true):aV l=false:=by
 obtain⟨a,ha,rfl⟩:=v8.1 h;have hm:=hok.mem a ha
 have h2:aV (l.take (k+1))=false:=by
  rw[aM hl,aJ]
  have:(l.take k).contains (acN a)=true:=wS.2 hm
  rw[this]
  simp
 rw[←List.take_append_drop (k+1) l];exact cB h2
theorem sg {l:List (List UInt8)} {k:Nat} {s:List UInt8} {A:List Ac} (hl:l[k]?=some s) (ho:aV (l.take k)=true) (hin:nu (l.take k) A) (h:(fiG acN A s).isSome=false):aV (l.take (k+1))=true:=by
 rw[aM hl,aJ,ho]
 cases hc:(l.take k).contains s with
 | false=>rfl
 | true=>
  rw[hin s (wS.1 hc)] at h
  cases h
theorem lD {l:List (List UInt8)} (h:(l.all bg&&aV l)=false):mT l=(co0,2):=by
 unfold mT;rw[h,Bool.and_false]
 rfl

theorem gY (l:List UInt8):(⟨l.toArray⟩:ByteArray).size=l.length:=by rw[←ab]
def vW (w:World) (o:Co×Int) (e:Ending) (w':World):Prop:=∃c:CoI,e=.returned (.tuple #[c.v,.int .i64 o.2])∧c.d=o.1∧c.sub w'∧Bl w w'
theorem sJ {w w':World} (e:Int) (hb:Bl w w'):vW w (co0,e) (.returned (.tuple #[.agg #[.slice none 0 0,.slice none 0 0,.int .i64 0],.int .i64 e])) w':=⟨⟨[],(none,0),[],(none,0),0⟩,rfl,rfl,⟨IsL.nil _ _,IsL.nil _ _⟩,hb⟩
theorem ik (ns:List (List UInt8)) (s:List UInt8):(loN ns s).length≤ns.length:=wT _ _
theorem sB (ns:List (List UInt8)) (s:List UInt8):(hiN ns s).length≤ns.length:=wT _ _
theorem rR (v:Value) (l:List (List UInt8)) (w:World) (hv:aB v l w) (hz:l.length≤1000) (hx:∀s∈l,s.length≤10000):Calls prog 16 #[v] w (vW w (mT l)):=by
 obtain⟨Z,hZ⟩:=e_ (mT l);rw[hZ];obtain⟨av,cv,rfl,hcap⟩:=hv.2;obtain⟨L,hL⟩:=e_ l.length;rw[hL] at hv hz hcap ⊢;have HV:=h_ hv;have HL:=h_ hL;have HX:=h_ hx;have HZ:=h_ hZ;obtain⟨i0',hi,hz0,hz1,hz2⟩:=info_parts dO;clear hv hL hx hZ hcap;obtain⟨W0,hW,y0,bs⟩:=Sx.start2 w [.slice none 0 0,.slice none 0 0,.int .i64 0] 25 [.slice none 0 0,.slice none 0 0,.int .i64 0] 25;have HW:=h_ hW;clear hW;have q:=bs.q;go_enter func16,ntmps16
 by_cases h8:L≤8
 rotate_left
 ·have w8 : (8 : Int) < (L : Int) := by omega
  have HBAD:Hid (Z=(co0,2)):=h_ (by rw[←HZ.out];unfold mT;rw[HL.out,decide_eq_false h8];rfl)
  go_upto_region 2 with fail;rw[HW.out];have c_c0:=bs.b3 1;have c_z0:=bs.b3 0;have f_z0:=bs.g3 0;go_wp2_with fail;clear c_c0 c_z0 f_z0;obtain⟨w1,hw1,y1,bs⟩:=bs.sets 0 0 [.slice none 0 0,.slice none 0 0,.int .i64 0] rfl (wu rfl);replace q:=bs.q;simp only[wv,Nat.reduceAdd] at hw1;rw[hw1];refine bodyPost_ret (cZ rfl rfl rfl (bs.box 0 rfl)) rfl ?_;rw[HBAD.out];exact sJ 2 q
 ·have w8 : ¬ (8 : Int) < (L : Int) := by omega
  go_wp2_with fail;rw[HW.out];go_loopw [5] (fun i wx=>∃(k:Nat) (ns:List (List UInt8)) (a:Option Addr) (ca n:Nat),i=.int .i64 k∧k≤L∧(l.take k).all bg=true∧aV (l.take k)=true∧ns.length=n∧ns.map aDn=dw (l.take k)∧NewOk (l.take k) (dw (l.take k))∧nu (l.take k) (dw (l.take k))∧OwZ acY w [w.heap.size,w.heap.size+1] (.slice a n ca) (ns.map aN) wx∧Sx w [(w.heap.size,[.slice none 0 0,.slice none 0 0,.int .i64 0]),(w.heap.size+1,[.slice a n ca,.slice none 0 0,.int .i64 0])] wx) (fun i _=>L-(intOf i).toNat)
  case atStart=>exact⟨0,[],none,0,0,rfl,wy _,rfl,rfl,rfl,rfl,⟨rfl,(fun a ha=>by cases ha),(fun a ha=>by cases ha),Nat.le_refl _⟩,(fun a ha=>by cases ha),OwL.nil _ _ _,bs⟩
  case round=>
   clear bs q;obtain⟨k,ns,a,ca,n,rfl,hk,hall,honce,hn,hA,hok,hin,o_n,bs⟩:=hrel;have q:=bs.q;have HN:=h_ hn;have HA:=h_ hA;have HOK:=h_ hok;have HIN:=h_ hin;have HALL:=h_ hall;have HONCE:=h_ honce
   have hn8:n≤8:=by
    have h1:=hok.len;rw[←hA,wq,hn,wC] at h1
    omega
   clear hn hA hok hin hall honce
   by_cases hlt:k<L
   ·have wl : (k : Int) < (L : Int) := by omega
    have hkM:k<l.length:=(by rw[HL.out];exact hlt);obtain⟨t,ht⟩:=e_ (l[k]);have hkt:l[k]?=some t:=(by rw[wB hkM,ht]);have htm:t∈l:=(by rw[←ht];exact List.getElem_mem hkM);obtain⟨b,off,rfl,hc⟩:=dL HV.out hkt;have zt:=HX.out t htm;obtain⟨tb,htb⟩:=e_ (ByteArray.mk t.toArray);have hzb:tb.size≤10000:=(by rw[←htb,gY];exact zt);have htl:tb.data.toList=t:=(by rw[←htb])
    have HCE:Hid (∀w',Bl w w'→w'.cell? ⟨b,off+k,none⟩=some (.string tb)):=h_ (by rw[←htb];exact hc)
    have CM:=fun (W:World)=>lR tb W hzb
    rw[htl] at CM
    have CF:=fun (W:World) (h:IsL acY (.slice a n ca) (ns.map aN) W)=>eF ⟨ns.map aN,(a,ca),[],(none,0),0⟩ tb W (by show IsL acY (.slice a (ns.map aN).length ca) (ns.map aN) W;rw[wq,HN.out];exact h) (by show (ns.map aN).length≤_;rw[wq,HN.out];omega)
    have his:(fdA (ns.map aN) tb.data.toList).isSome=(fiG acN (dw (l.take k)) t).isSome:=(by rw[←HA.out,←rF,tF,htl];rfl);obtain⟨IS,hIS⟩:=e_ ((fiG acN (dw (l.take k)) t).isSome);obtain⟨MI,hMI⟩:=e_ (bg t);rw[hMI] at CM;obtain⟨f0,hf0⟩:=e_ ((fdA (ns.map aN) tb.data.toList).getD oL);obtain⟨fj,fit,⟨fa,fc⟩,fv⟩:=f0;obtain⟨fl,hfl⟩:=e_ fit.length;obtain⟨fb,hfb⟩:=e_ (ByteArray.mk fj.toArray)
    have CF2:∀W,IsL acY (.slice a n ca) (ns.map aN) W→Calls prog 12 #[.agg #[.slice a n ca,.slice none 0 0,.int .i64 0],.string tb] W (Ret W (.tuple #[.agg #[.string fb,.slice fa fl fc,.int .i64 fv],.bool IS])):=fun W h=>by
     have h1:=CF W h;simp only[his,hIS,hf0,AcI.v,AcI.iv,hfl,hfb] at h1;have e9:(CoI.v ⟨ns.map aN,(a,ca),[],(none,0),0⟩)=.agg #[.slice a n ca,.slice none 0 0,.int .i64 0]:=(by show Value.agg #[.slice a (ns.map aN).length ca,.slice none 0 0,.int .i64 0]=_;rw[wq,HN.out]);rw[e9] at h1;exact h1
    have CF3:=h_ CF2;have CM2:=h_ CM;have HKT:=h_ hkt;have HIS:=h_ hIS;have HMI:=h_ hMI;have HTL:=h_ htl;have HTB:=h_ htb;have HZB:=h_ hzb;clear hkM ht hkt htm hc zt hzb htl CM CF his hIS hMI hf0 hfl hfb CF2 htb;have c_c0:=bs.b3 1;go_upto_region 7 with fail;clear c_c0;go_cut [6,7] (fun s6 s7 wx=>s7=.bool IS∧OwZ acY w [w.heap.size,w.heap.size+1] (.slice a n ca) (ns.map aN) wx∧Sx w [(w.heap.size,[.slice none 0 0,.slice none 0 0,.int .i64 0]),(w.heap.size+1,[.slice a n ca,.slice none 0 0,.int .i64 0])] wx)
    case first=>
     replace o_n:=o_n.ret (ws (bQ _));replace bs:=bs.ret (ws (bQ _));replace q:=bs.q
     have y21:wr.drew.heap.size=wr.heap.size:=rfl
     refine wp_region_held_drew (S:=fun w'=>w'.cell? ⟨w.heap.size+1,0,none⟩=some (.slice a n ca)∧w'.cell? ⟨w.heap.size+1,1,none⟩=some (.slice none 0 0)∧w'.cell? ⟨w.heap.size+1,2,none⟩=some (.int .i64 0)∧w'.cell? ⟨b,off+k,none⟩=some (.string tb)) (by kernel_rfl) ⟨bs.at 1 0,bs.at 1 1,bs.at 1 2,HCE.out _ q⟩ (fun hH=>?_);generalize wr.drew=w21 at bs o_n q y21 hH ⊢;refine rS [(0,some 22),(1,some 23),(2,some 24),(3,some 25),(4,some 26)] ?_
     iterate 5 refine aS ?_
     refine rE ?_;refine wpAnyH_ready (rs:=[5,9]) (by kernel_rfl) (by simp) ?_;refine az (by kernel_rfl) (fun o ho K hK=>?_) ?_
     ·simp only[wU,wV,wW,wX] at ho
      subst ho;go_simp;refine(CF3.out w21 (OwL.isL o_n)).mono ?_;rintro e w22 ⟨rfl,hb⟩;replace o_n:=o_n.ret hb;replace bs:=bs.ret hb;replace q:=bs.q;clear hb;go_simp;clear hH;refine hK.out _ _ ⟨bs.at 1 0,bs.at 1 1,bs.at 1 2,HCE.out _ q⟩ (fun hH=>?_);clear hK K;refine rS [(6,some 21),(7,some 28),(8,some 29)] ?_
      iterate 3 refine aS ?_
      refine rE ?_
      refine aC (i:=9) fun K hK=>?_
      go_simp;obtain⟨w23,hw23,y23,al,bs⟩:=bs.alloc (w22.heap.size) rfl [.string ⟨#[]⟩,.slice none 0 0,.int .i64 0] 33;replace o_n:=o_n.alloc (w22.heap.size) rfl al;clear al;replace q:=bs.q;rw[hw23];clear hH;refine hK.out _ _ ⟨bs.at 1 0,bs.at 1 1,bs.at 1 2,HCE.out _ q⟩ (fun hH=>?_);clear hK K
      refine aC (i:=10) fun K hK=>?_
      have c_f0:=bs.b3 2;have f_f0:=bs.g3 2;go_simp;clear c_f0 f_f0;obtain⟨w24,hw24,y24,bs⟩:=bs.sets 2 0 [.string fb,.slice fa fl fc,.int .i64 fv] rfl (wu rfl);replace o_n:=o_n.sets 2 rfl hw24;replace q:=bs.q;simp only[wv,Nat.reduceAdd] at hw24;rw[hw24];clear hH;refine hK.out _ _ ⟨bs.at 1 0,bs.at 1 1,bs.at 1 2,HCE.out _ q⟩ (fun hH=>?_);clear hK K;refine rS [(11,some 7)] ?_;refine aS ?_;refine rE ?_;refine aD ?_;clear hH;go_wp2_with fail;go_meet;exact⟨rfl,OwZ.sub o_n (by simp),bs.some 2⟩
     refine az (by kernel_rfl) (fun o ho K hK=>?_) ?_
     ·simp only[wU,wV,wW,wX] at ho
      subst ho;go_simp;obtain⟨w22,hw22,y22,al,bs⟩:=bs.alloc (wr.heap.size) (by omega) [.string ⟨#[]⟩,.slice none 0 0,.int .i64 0] 33;replace o_n:=o_n.alloc (wr.heap.size) (by omega) al;clear al;replace q:=bs.q;rw[hw22];clear hH;refine hK.out _ _ ⟨bs.at 1 0,bs.at 1 1,bs.at 1 2,HCE.out _ q⟩ (fun hH=>?_);clear hK K
      refine aC (i:=5) fun K hK=>?_
      go_simp;refine(CF3.out w22 (OwL.isL o_n)).mono ?_;rintro e w23 ⟨rfl,hb⟩;replace o_n:=o_n.ret hb;replace bs:=bs.ret hb;replace q:=bs.q;clear hb;go_simp;clear hH;refine hK.out _ _ ⟨bs.at 1 0,bs.at 1 1,bs.at 1 2,HCE.out _ q⟩ (fun hH=>?_);clear hK K;refine rS [(6,some 21),(7,some 28),(8,some 29)] ?_
      iterate 3 refine aS ?_
      refine rE ?_
      refine aC (i:=10) fun K hK=>?_
      have c_f0:=bs.b3 2;have f_f0:=bs.g3 2;go_simp;clear c_f0 f_f0;obtain⟨w24,hw24,y24,bs⟩:=bs.sets 2 0 [.string fb,.slice fa fl fc,.int .i64 fv] rfl (wu rfl);replace o_n:=o_n.sets 2 rfl hw24;replace q:=bs.q;simp only[wv,Nat.reduceAdd] at hw24;rw[hw24];clear hH;refine hK.out _ _ ⟨bs.at 1 0,bs.at 1 1,bs.at 1 2,HCE.out _ q⟩ (fun hH=>?_);clear hK K;refine rS [(11,some 7)] ?_;refine aS ?_;refine rE ?_;refine aD ?_;clear hH;go_wp2_with fail;go_meet;exact⟨rfl,OwZ.sub o_n (by simp),bs.some 2⟩
     exact AllReadyH.nil
    case rest=>
     obtain⟨rfl,o_n1,bs1⟩:=hcut;clear bs q o_n;have bs:=bs1;have o_n:=o_n1;clear bs1 o_n1;have q:=bs.q
     cases IS with
     | true=>
      have HBAD:Hid (Z=(co0,2)):=h_ (by rw[←HZ.out];exact lD (by rw[rd HKT.out HOK.out HIS.out];simp))
      have c_z0:=bs.b3 0;have f_z0:=bs.g3 0;go_wp2_with fail;clear c_z0 f_z0;obtain⟨w61,hw61,y61,bs⟩:=bs.sets 0 0 [.slice none 0 0,.slice none 0 0,.int .i64 0] rfl (wu rfl);replace o_n:=o_n.sets 0 rfl hw61;replace q:=bs.q;simp only[wv,Nat.reduceAdd] at hw61;rw[hw61];refine bodyPost_ret (cZ rfl rfl rfl (bs.box 0 rfl)) rfl ?_;rw[HBAD.out];exact sJ 2 q
     | false=>
      have c9:=HCE.out wc q;go_wp2_with fail;refine(CM2.out wc).mono ?_;rintro e w61 ⟨rfl,hb⟩;replace o_n:=o_n.ret hb;replace bs:=bs.ret hb;replace q:=bs.q;clear hb;clear c9
      cases MI with
      | false=>
       have HBAD:Hid (Z=(co0,2)):=h_ (by rw[←HZ.out];exact lD (by rw[dN HKT.out HMI.out];rfl))
       have c_z0:=bs.b3 0;have f_z0:=bs.g3 0;go_wp2_with fail;clear c_z0 f_z0;obtain⟨w62,hw62,y62,bs⟩:=bs.sets 0 0 [.slice none 0 0,.slice none 0 0,.int .i64 0] rfl (wu rfl);replace o_n:=o_n.sets 0 rfl hw62;replace q:=bs.q;simp only[wv,Nat.reduceAdd] at hw62;rw[hw62];refine bodyPost_ret (cZ rfl rfl rfl (bs.box 0 rfl)) rfl ?_;rw[HBAD.out];exact sJ 2 q
      | true=>
       obtain⟨W1,hW1⟩:=e_ w61;rw[hW1] at bs q o_n ⊢;clear hW1;have HBS:=h_ bs;have HON:=h_ o_n;have HST:=h_ (qh HA.out HOK.out HMI.out HIS.out);go_wp2_with fail;go_loopw [8,9] (fun lv i wx=>∃j:Nat,i=.int .i64 j∧j≤n∧OwS (fun g=>W1.heap.size≤g) acY.e 3 lv (loN (ns.take j) t).length (acY.fl ((loN (ns.take j) t).map aN)) wx∧Lt W1 wx) (fun _ i _=>n-(intOf i).toNat)
       case atStart=>exact⟨0,rfl,wy _,OwS.nil _ _ _ _,bQ _⟩
       case round=>
        (try clear bs q o_n)
        obtain⟨j,rfl,hj,o_l,o_h⟩:=hrel;have bs:=HBS.out.ret o_h;have q:=bs.q;have o_n:=HON.out.ret o_h
        by_cases hlj:j<n
        ·have wj : (j : Int) < (n : Int) := by omega
         have hjM:j<ns.length:=(by rw[HN.out];exact hlj);obtain⟨u,hu⟩:=e_ (ns[j]);have hju:ns[j]?=some u:=(by rw[wB hjM,hu]);have hjN:(ns.map aN)[j]?=some (aN u):=(by rw[wH,hju];rfl);obtain⟨b2,off2,cp2,hf2,-,hc2⟩:=(HON.out.own.isL).cells hjN;rw[wq,HN.out] at hf2;simp only[wI,true_and] at hf2;obtain⟨rfl,rfl⟩:=hf2;have hst:=ry (q:=fun y=>ao y t) hju;have hlen:(loN (ns.take j) t).length≤j:=wY (ik _ _) (by rw[wC];omega)
         have hst:loN (ns.take (j+1)) t=loN (ns.take j) t++if ao u t then [u] else []:=hst
         obtain⟨Fj,hFj⟩:=e_ (loN (ns.take j) t);rw[hFj] at hst hlen o_l;obtain⟨ub,hub⟩:=e_ (ByteArray.mk u.toArray)
         have zu:u.length≤10000:=by
          have h1:aDn u∈dw (l.take k):=(by rw[←HA.out];exact wG (wA hju));exact HX.out u (wZ (HOK.out.mem _ h1))
         have CL:=fun (W:World)=>eH ub tb W (by rw[←hub,gY];exact zu) HZB.out
         have eu:ub.data.toList=u:=(by rw[←hub]);rw[eu,HTL.out] at CL;obtain⟨LE,hLE⟩:=e_ (ao u t);rw[hLE] at CL hst;have CL2:=h_ CL;have HSJ:=h_ hst
         have HCU:Hid (∀w',Bl W1 w'→w'.cell? ⟨b2,off2+j*3,none⟩=some (.string ub)∧w'.cell? ⟨b2,off2+j*3+1,none⟩=some (.slice none 0 0)∧w'.cell? ⟨b2,off2+j*3+2,none⟩=some (.int .i64 0)):=h_ fun w' hb=>by
          rw[←hub];exact⟨hc2 w' hb 0 _ rfl,hc2 w' hb 1 _ rfl,hc2 w' hb 2 _ rfl⟩
         have HUB:=h_ hub;clear hjM hu hju hjN hc2 hst hFj hub zu CL eu hLE;have c_c0:=bs.b3 1;go_upto_region 14 with fail;clear c_c0;replace o_n:=o_n.ret (ws (bQ _));replace o_l:=o_l.ret (ws (bQ _));replace o_h:=o_h.ret (ws (bQ _));replace bs:=bs.ret (ws (bQ _));replace q:=bs.q
         have y101:wr.drew.heap.size=wr.heap.size:=rfl
         refine wp_region_held_drew (S:=fun w'=>w'.cell? ⟨w.heap.size+1,0,none⟩=some (.slice (some ⟨b2,off2,none⟩) n ca)∧w'.cell? ⟨b,off+k,none⟩=some (.string tb)∧w'.cell? ⟨b2,off2+j*3,none⟩=some (.string ub)) (by kernel_rfl) ⟨bs.at 1 0,HCE.out _ q,(HCU.out _ o_h).1⟩ (fun hH=>?_);generalize wr.drew=w101 at bs o_n o_l o_h q y101 hH ⊢;refine rS [(0,some 47),(1,some 48),(2,some 49),(3,some 50),(4,some 51),(5,some 52),(6,some 53),(7,some 54),(8,some 55),(9,some 56)] ?_
         iterate 10 refine aS ?_
         refine rE ?_
         refine aC (i:=10) fun K hK=>?_
         go_simp;refine(CL2.out w101).mono ?_;rintro e w102 ⟨rfl,hb⟩;replace o_n:=o_n.ret hb;replace o_l:=o_l.ret hb;replace o_h:=o_h.ret hb;replace bs:=bs.ret hb;replace q:=bs.q;clear hb;go_simp;clear hH;refine hK.out _ _ ⟨bs.at 1 0,HCE.out _ q,(HCU.out _ o_h).1⟩ (fun hH=>?_);clear hK K;refine aD ?_;clear hH
         cases LE with
         | false=>
          go_wp2_with fail;go_roundw
          case rel=>exact⟨j+1,by go_num,by omega,by rw[show loN (ns.take (j+1)) t=Fj from HSJ.out.trans (wz _)];exact o_l,o_h⟩
          case measure=>simp[intOf];omega
         | true=>
          obtain⟨k0,k1,k2⟩:=HCU.out w102 o_h;have c_c0:=bs.b3 1;go_wp2_with (at_builtin;refine Hid.out ?_);clear c_c0;clear k0 k1 k2;obtain⟨w103,hw103,y103,al,bs⟩:=bs.alloc (w102.heap.size) rfl [.string ub,.slice none 0 0,.int .i64 0] 33;replace o_n:=o_n.alloc (w102.heap.size) rfl al;replace o_l:=o_l.ret al;replace o_h:=o_h.ret al;clear al;replace q:=bs.q;rw[hw103]
          have hlw:((Fj)).length≤100:=by
           have h1:=ik ns t;rw[HN.out] at h1
           (try simp only[wt,wM,wN])
           omega
          refine h_ ?_
          refine ai rfl _ _ _ rfl W1.heap.size acY.e i0' _ 3 48 underlying22 hi hz0 hz1 hz2 rfl (by omega) _ ((Fj)).length (acY.fl (((Fj)).map aN)) rfl (OwS.owns o_l fun _ h=>h) _ (by rfl) 1 [.string ub,.slice none 0 0,.int .i64 0] ((bs.box 2 rfl).row rfl) (by intro u hu;simp only[wD,wE,or_false] at hu;rcases hu with rfl | rfl | rfl <;> rfl) (by omega) (by omega) (ww o_h) ?_
          intro v' w' hown hgr
          have o_h2:Lt W1 w':=Lt.grown o_h hgr fun g hg=>o_l.2 g hg
          have o_l2:OwS (fun g=>W1.heap.size≤g) acY.e 3 v' (((Fj))++[u]).length (acY.fl ((((Fj))++[u]).map aN)) w':=by
           have e:=HUB.out;rw[wt,sr,e];exact OwS.of hown
          clear o_l o_h o_n hown hgr bs q hlw;go_wp2_with fail;go_roundw
          case rel=>exact⟨j+1,by go_num,by omega,by rw[show loN (ns.take (j+1)) t=(Fj)++[u] from (by rw[HSJ.out];simp)];exact o_l2,o_h2⟩
          case measure=>simp[intOf];omega
        ·have wj : ¬ (j : Int) < (n : Int) := by omega
         have e9:ns.take j=ns:=wF (by rw[HN.out];omega)
         rw[e9] at o_l;clear e9;have c_c0:=bs.b3 1;have c9:=HCE.out wr q;go_wp2_with (at_builtin;refine Hid.out ?_);clear c9;clear c_c0;obtain⟨w301,hw301,y301,al,bs⟩:=bs.alloc (wr.heap.size) rfl [.string tb,.slice none 0 0,.int .i64 0] 33;replace o_n:=o_n.alloc (wr.heap.size) rfl al;replace o_l:=o_l.ret al;replace o_h:=o_h.ret al;clear al;replace q:=bs.q;rw[hw301]
         have hlw:(loN ns t).length≤100:=by
          have h1:=ik ns t;rw[HN.out] at h1
          (try simp only[wt,wM,wN])
          omega
         refine h_ ?_
         refine ai rfl _ _ _ rfl W1.heap.size acY.e i0' _ 3 48 underlying22 hi hz0 hz1 hz2 rfl (by omega) _ (loN ns t).length (acY.fl ((loN ns t).map aN)) rfl (OwS.owns o_l fun _ h=>h) _ (by rfl) 1 [.string tb,.slice none 0 0,.int .i64 0] ((bs.box 2 rfl).row rfl) (by intro u hu;simp only[wD,wE,or_false] at hu;rcases hu with rfl | rfl | rfl <;> rfl) (by omega) (by omega) (ww o_h) ?_
         intro v' w' hown hgr
         have o_h2:Lt W1 w':=Lt.grown o_h hgr fun g hg=>o_l.2 g hg
         have o_l2:OwS (fun g=>W1.heap.size≤g) acY.e 3 v' ((loN ns t)++[t]).length (acY.fl (((loN ns t)++[t]).map aN)) w':=by
          have e:=HTB.out;rw[wt,sr,e];exact OwS.of hown
         clear o_l o_h o_n hown hgr bs q hlw;have HL1:=h_ o_l2;have HH1:=h_ o_h2;clear o_l2 o_h2;go_wp2_with fail;go_loopw [8,10] (fun lv i wx=>∃j:Nat,i=.int .i64 j∧j≤n∧OwS (fun g=>W1.heap.size≤g) acY.e 3 lv ((loN ns t++[t])++hiN (ns.take j) t).length (acY.fl (((loN ns t++[t])++hiN (ns.take j) t).map aN)) wx∧Lt W1 wx) (fun _ i _=>n-(intOf i).toNat)
         case atStart=>exact⟨0,rfl,wy _,by rw[show (loN ns t++[t])++hiN (ns.take 0) t=loN ns t++[t] from wz _];exact HL1.out,HH1.out⟩
         case round=>
          (try clear bs q o_n)
          obtain⟨j,rfl,hj,o_l,o_h⟩:=hrel;have bs:=HBS.out.ret o_h;have q:=bs.q;have o_n:=HON.out.ret o_h
          by_cases hlj:j<n
          ·have wj : (j : Int) < (n : Int) := by omega
           have hjM:j<ns.length:=(by rw[HN.out];exact hlj);obtain⟨u,hu⟩:=e_ (ns[j]);have hju:ns[j]?=some u:=(by rw[wB hjM,hu]);have hjN:(ns.map aN)[j]?=some (aN u):=(by rw[wH,hju];rfl);obtain⟨b2,off2,cp2,hf2,-,hc2⟩:=(HON.out.own.isL).cells hjN;rw[wq,HN.out] at hf2;simp only[wI,true_and] at hf2;obtain⟨rfl,rfl⟩:=hf2;have hst:=ry (q:=fun y=>ao t y) hju;have hlen:(hiN (ns.take j) t).length≤j:=wY (sB _ _) (by rw[wC];omega)
           have hst:hiN (ns.take (j+1)) t=hiN (ns.take j) t++if ao t u then [u] else []:=hst
           obtain⟨Fj,hFj⟩:=e_ (hiN (ns.take j) t);rw[hFj] at hst hlen o_l;obtain⟨ub,hub⟩:=e_ (ByteArray.mk u.toArray)
           have zu:u.length≤10000:=by
            have h1:aDn u∈dw (l.take k):=(by rw[←HA.out];exact wG (wA hju));exact HX.out u (wZ (HOK.out.mem _ h1))
           have CL:=fun (W:World)=>eH tb ub W HZB.out (by rw[←hub,gY];exact zu)
           have eu:ub.data.toList=u:=(by rw[←hub]);rw[eu,HTL.out] at CL;obtain⟨LE,hLE⟩:=e_ (ao t u);rw[hLE] at CL hst;have CL2:=h_ CL;have HSJ:=h_ hst
           have HCU:Hid (∀w',Bl W1 w'→w'.cell? ⟨b2,off2+j*3,none⟩=some (.string ub)∧w'.cell? ⟨b2,off2+j*3+1,none⟩=some (.slice none 0 0)∧w'.cell? ⟨b2,off2+j*3+2,none⟩=some (.int .i64 0)):=h_ fun w' hb=>by
            rw[←hub];exact⟨hc2 w' hb 0 _ rfl,hc2 w' hb 1 _ rfl,hc2 w' hb 2 _ rfl⟩
           have HUB:=h_ hub;clear hjM hu hju hjN hc2 hst hFj hub zu CL eu hLE;have c_c0:=bs.b3 1;go_upto_region 20 with fail;clear c_c0;replace o_n:=o_n.ret (ws (bQ _));replace o_l:=o_l.ret (ws (bQ _));replace o_h:=o_h.ret (ws (bQ _));replace bs:=bs.ret (ws (bQ _));replace q:=bs.q
           have y201:wr.drew.heap.size=wr.heap.size:=rfl
           refine wp_region_held_drew (S:=fun w'=>w'.cell? ⟨w.heap.size+1,0,none⟩=some (.slice (some ⟨b2,off2,none⟩) n ca)∧w'.cell? ⟨b,off+k,none⟩=some (.string tb)∧w'.cell? ⟨b2,off2+j*3,none⟩=some (.string ub)) (by kernel_rfl) ⟨bs.at 1 0,HCE.out _ q,(HCU.out _ o_h).1⟩ (fun hH=>?_);generalize wr.drew=w201 at bs o_n o_l o_h q y201 hH ⊢;refine rS [(0,some 81),(1,some 82),(2,some 83),(3,some 84),(4,some 85),(5,some 86),(6,some 87),(7,some 88),(8,some 89),(9,some 90)] ?_
           iterate 10 refine aS ?_
           refine rE ?_
           refine aC (i:=10) fun K hK=>?_
           go_simp;refine(CL2.out w201).mono ?_;rintro e w202 ⟨rfl,hb⟩;replace o_n:=o_n.ret hb;replace o_l:=o_l.ret hb;replace o_h:=o_h.ret hb;replace bs:=bs.ret hb;replace q:=bs.q;clear hb;go_simp;clear hH;refine hK.out _ _ ⟨bs.at 1 0,HCE.out _ q,(HCU.out _ o_h).1⟩ (fun hH=>?_);clear hK K;refine aD ?_;clear hH
           cases LE with
           | false=>
            go_wp2_with fail;go_roundw
            case rel=>exact⟨j+1,by go_num,by omega,by rw[show hiN (ns.take (j+1)) t=Fj from HSJ.out.trans (wz _)];exact o_l,o_h⟩
            case measure=>simp[intOf];omega
           | true=>
            obtain⟨k0,k1,k2⟩:=HCU.out w202 o_h;have c_c0:=bs.b3 1;go_wp2_with (at_builtin;refine Hid.out ?_);clear c_c0;clear k0 k1 k2;obtain⟨w203,hw203,y203,al,bs⟩:=bs.alloc (w202.heap.size) rfl [.string ub,.slice none 0 0,.int .i64 0] 33;replace o_n:=o_n.alloc (w202.heap.size) rfl al;replace o_l:=o_l.ret al;replace o_h:=o_h.ret al;clear al;replace q:=bs.q;rw[hw203]
            have hlw:(((loN ns t++[t])++Fj)).length≤100:=by
             have h1:=ik ns t;rw[HN.out] at h1
             (try simp only[wt,wM,wN])
             omega
            refine h_ ?_
            refine ai rfl _ _ _ rfl W1.heap.size acY.e i0' _ 3 48 underlying22 hi hz0 hz1 hz2 rfl (by omega) _ (((loN ns t++[t])++Fj)).length (acY.fl ((((loN ns t++[t])++Fj)).map aN)) rfl (OwS.owns o_l fun _ h=>h) _ (by rfl) 1 [.string ub,.slice none 0 0,.int .i64 0] ((bs.box 2 rfl).row rfl) (by intro u hu;simp only[wD,wE,or_false] at hu;rcases hu with rfl | rfl | rfl <;> rfl) (by omega) (by omega) (ww o_h) ?_
            intro v' w' hown hgr
            have o_h2:Lt W1 w':=Lt.grown o_h hgr fun g hg=>o_l.2 g hg
            have o_l2:OwS (fun g=>W1.heap.size≤g) acY.e 3 v' ((((loN ns t++[t])++Fj))++[u]).length (acY.fl (((((loN ns t++[t])++Fj))++[u]).map aN)) w':=by
             have e:=HUB.out;rw[wt,sr,e];exact OwS.of hown
            clear o_l o_h o_n hown hgr bs q hlw;go_wp2_with fail;go_roundw
            case rel=>exact⟨j+1,by go_num,by omega,by rw[show (loN ns t++[t])++hiN (ns.take (j+1)) t=((loN ns t++[t])++Fj)++[u] from (by rw[HSJ.out];simp)];exact o_l2,o_h2⟩
            case measure=>simp[intOf];omega
          ·have wj : ¬ (j : Int) < (n : Int) := by omega
           have e9:ns.take j=ns:=wF (by rw[HN.out];omega)
           rw[e9] at o_l;clear e9;obtain⟨WD,hWD⟩:=e_ ((loN ns t++[t])++hiN ns t);have hwd2:loN ns t++t :: hiN ns t=WD:=(by rw[←hWD];simp);have hst:=HST.out;rw[hwd2] at hst;rw[hWD] at o_l;obtain⟨m,hm⟩:=e_ WD.length;rw[hm] at o_l;obtain⟨a2,ca2,hlf,-⟩:=aq o_l.1;subst hlf;have o_w:OwZ acY w [w.heap.size,w.heap.size+1] (.slice a2 m ca2) (WD.map aN) wr:=OwZ.mk' HBS.out (sk (by rw[hm];exact o_l));have HST2:=h_ hst;have HM:=h_ hm;clear o_l o_n hWD hwd2 hst hm o_h;have c_c0:=bs.b3 1;have f_c0:=bs.g3 1;go_wp2_with fail;clear c_c0 f_c0;obtain⟨w401,hw401,y401,bs⟩:=bs.sets 1 0 [(.slice a2 m ca2)] rfl (wu rfl);replace o_w:=o_w.sets 1 rfl hw401;replace q:=bs.q;simp only[wv] at hw401;rw[hw401];have hts:=aM HKT.out
           have g1:(l.take (k+1)).all bg=true:=iK HKT.out HALL.out HMI.out
           have g2:=sg HKT.out HONCE.out HIN.out HIS.out;have g3:NewOk (l.take (k+1)) (dw (l.take (k+1))):=(by rw[hts,cY];exact HOK.out.snoc HMI.out);have g4:nu (l.take (k+1)) (dw (l.take (k+1))):=(by rw[hts,cY];exact nu.snoc HIN.out HOK.out HMI.out);have g5:WD.map aDn=dw (l.take (k+1)):=(by rw[hts];exact HST2.out);have G:=h_ (And.intro g1 (And.intro g2 (And.intro g3 (And.intro g4 g5))));clear g1 g2 g3 g4 g5 hts;go_roundw
           case rel=>exact⟨k+1,WD,a2,ca2,m,by go_num,by omega,G.out.1,G.out.2.1,HM.out,G.out.2.2.2.2,G.out.2.2.1,G.out.2.2.2.1,o_w,bs⟩
           case measure=>simp[intOf];omega
   ·have wl : ¬ (k : Int) < (L : Int) := by omega
    have e9:l.take k=l:=wF (by rw[HL.out];omega)
    have hZ2:Z=((dw l,[],0),0):=by
     rw[←HZ.out];unfold mT;have h1:=HALL.out;have h2:=HONCE.out;rw[e9] at h1 h2;rw[HL.out,decide_eq_true h8,h1,h2]
     rfl
    have hA2:ns.map aDn=dw l:=(by rw[HA.out,e9]);have HZ2:=h_ hZ2;have HA2:=h_ hA2;clear e9 hZ2 hA2;have c_c0:=bs.b3 1;have c_z0:=bs.b3 0;have f_z0:=bs.g3 0;go_wp2_with fail;clear c_c0 c_z0 f_z0;obtain⟨w501,hw501,y501,bs⟩:=bs.sets 0 0 [.slice a n ca,.slice none 0 0,.int .i64 0] rfl (wu rfl);replace o_n:=o_n.sets 0 rfl hw501;replace q:=bs.q;simp only[wv,Nat.reduceAdd] at hw501;rw[hw501];refine bodyPost_ret (cZ rfl rfl rfl (bs.box 0 rfl)) rfl ?_;refine⟨⟨ns.map aN,(a,ca),[],(none,0),0⟩,?_,?_,⟨?_,IsL.nil _ _⟩,q⟩
    ·rw[HZ2.out]
     show _=Ending.returned (.tuple #[.agg #[.slice a (ns.map aN).length ca,.slice none 0 0,.int .i64 0],.int .i64 0])
     rw[wq,HN.out]
     first | done | rfl
    ·rw[HZ2.out]
     show ((ns.map aN).map AcI.d,_,_)=_
     rw[rF,HA2.out]
     rfl
    ·show IsL acY (.slice a (ns.map aN).length ca) (ns.map aN) _
     rw[wq,HN.out];exact o_n.own.isL
end Go.Proofs.YtjgeiieiinmdnaaGreatDoor
