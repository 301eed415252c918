/- RoK, RoL, RoS, RoT, RoU: put together by mergetpl.py. -/
import Derived.Test.YtjgeiieiinmdnaaGreatDoorKm
open Go.Proofs.Tryz
open Go.Value.slice renaming injEq→ww
open List renaming take_of_length_le→wq,getElem_map→wt,any_eq_false→wu,take_succ_eq_append_getElem→wy,any_append→wz,getElem_mem→wA,any_eq_true→wB,mem_iff_getElem→wC,length_take→wD,getElem_take→wE,length_map→wF
open Nat renaming le_refl→ws,zero_le→wv
namespace Go.Proofs.YtjgeiieiinmdnaaGreatDoor
set_option maxHeartbeats 4000000
set_option maxRecDepth 100000
open Go.RowKit Go.Lib




def F21 (w:World) (M:List Im) (t:List UInt8) (e:Ending) (w':World):Prop:=Bl w w'∧
 ((∃p∈M,bO (M.map Prod.fst) t=some p.1∧e=.returned (.tuple #[itA p,.bool true]))∨(bO (M.map Prod.fst) t=none∧e=.returned (.tuple #[itA (it0,(none,0)),.bool false])))
theorem pL {L:List It} {t:List UInt8} {k:Nat} (hk:k<L.length) (hn:(L.take k).any (fun x=>x.j==t)=false) (h:(L[k].j==t)=true):bO L t=some L[k]:=by
 unfold bO;rw[List.find?_eq_some_iff_getElem];refine⟨h,k,hk,rfl,fun j hj=>?_⟩
 have:=wu.1 hn (L[j]'(by omega)) (by
  rw[wC];exact⟨j,by rw[wD];omega,by rw[wE]⟩)
 simpa using this
theorem ot {L:List It} {t:List UInt8} (h:L.any (fun x=>x.j==t)=false):bO L t=none:=by
 unfold bO;rw[List.find?_eq_none];intro x hx;exact wu.1 h x hx
theorem qm (v:Value) (ver:Int) (M:List Im) (t:ByteArray) (w:World) (hv:aw v M w) (hM:M.length≤1000):
  Calls prog 72 #[.agg #[v,.int .i64 ver],.string t] w (F21 w M t.data.toList):=by
 obtain⟨a0,cap0,hf,-⟩:=hv.form;obtain⟨L,hL⟩:=e_ M.length;rw[hL] at hf hM;subst hf;have r0:=Two.new w (.slice a0 L cap0) (.int .i64 ver) 31;have q0:=(bR w).alloc (ws _) (.cells #[.slice a0 L cap0,.int .i64 ver] 31);obtain⟨W0,hW0⟩:=e_ (w.alloc (.cells #[.slice a0 L cap0,.int .i64 ver] 31))
 have s0:W0.heap.size=w.heap.size+1:=by rw[←hW0];simp
 rw[hW0] at r0 q0;have al2:=(bR W0).alloc (ws _) (.cells #[.string ⟨#[]⟩,.string ⟨#[]⟩,.slice none 0 0,.bool false,.bool false,.bool false,.bool false,.bool false] 99);have z2:=It8.new W0 (.string ⟨#[]⟩) (.string ⟨#[]⟩) (.slice none 0 0) (.bool false) (.bool false) (.bool false) (.bool false) (.bool false) 99;have r2:=r0.ret al2;have q2:=q0.trans (al2.mono q0.size);obtain⟨W2,hW2⟩:=e_ (W0.alloc (.cells #[.string ⟨#[]⟩,.string ⟨#[]⟩,.slice none 0 0,.bool false,.bool false,.bool false,.bool false,.bool false] 99))
 have s2:W2.heap.size=w.heap.size+2:=by rw[←hW2];simp;omega
 rw[hW2] at z2 r2 q2;rw[s0] at z2
 have HW:Hid ((w.alloc (.cells #[.slice a0 L cap0,.int .i64 ver] 31)).alloc (.cells #[.string ⟨#[]⟩,.string ⟨#[]⟩,.slice none 0 0,.bool false,.bool false,.bool false,.bool false,.bool false] 99)=W2):=h_ (by rw[hW0,hW2])
 have HV:=h_ (hv.ret q2);have HL:=h_ hL;have S2:=h_ s2
 have hl2:(M.map Prod.fst).length=L:=by rw[wF,hL]
 have HL2:=h_ hl2
 have hEq:∀x∈M,M=M:=fun _ _=>rfl
 clear hW0 hW2 s0 s2 al2 r0 q0 hv hL hl2 hEq;go_enter func72,ntmps72;go_wp2_with fail;rw[HW.out];go_loopw [6] (fun i wx=>∃k:Nat,k≤L∧i=.int .i64 k∧((M.map Prod.fst).take k).any (fun x=>x.j==t.data.toList)=false∧wx=W2) (fun i _=>L-(intOf i).toNat)
 case atStart=>exact⟨0,wv _,rfl,rfl,rfl⟩
 case round=>
  obtain⟨k,hk,rfl,hany,rfl⟩:=hrel;obtain⟨l,c0,c1,f0,f1⟩:=id r2
  by_cases hlt:k<L
  ·have hkM : k < M.length := by rw [HL.out]; exact hlt
   obtain⟨b,off,cp,hf,hb0,hc⟩:=HV.out.cell hkM;rw[HL.out] at hf;simp only[ww,true_and] at hf;obtain⟨rfl,rfl⟩:=hf;have hkm:k<(M.map Prod.fst).length:=(by rw[HL2.out];exact hlt)
   have hsn:((M.map Prod.fst).take (k+1)).any (fun x=>x.j==t.data.toList)=(M[k].1.j==t.data.toList):=by
    rw[wy hkm,wz,hany]
    simp
   have hat:(M[k].1.j==t.data.toList)=true→bO (M.map Prod.fst) t.data.toList=some M[k].1:=fun h=>by
    have:=pL hkm hany (by rw[wt];exact h)
    rwa [wt] at this
   have hmem:=wA hkM;obtain⟨p,hp⟩:=e_ (M[k]);rw[hp] at hc hsn hat hmem;obtain⟨i0,i1,i2,i3,i4,i5,i6,i7⟩:=hc;have h2:(p.1.j==t.toList)=(p.1.j==t.data.toList):=(by rw[Lib.toList_data]);obtain⟨x,hx⟩:=e_ ((p.1.j==t.data.toList));rw[hx] at hsn hat h2;have HS:=h_ hsn;have HA:=h_ hat;have HP:=h_ hmem;obtain⟨m,d0,d1,d2,d3,d4,d5,d6,d7,g0,g1,g2,g3,g4,g5,g6,g7⟩:=id z2;have Z2:=h_ z2;have Q2:=h_ q2;clear hp hkm hsn hat hx hany hmem z2 q2
   cases x with
   | true=>
    go_wp2_with fail;refine bodyPost_ret (dQ rfl rfl rfl (Z2.out.store)) rfl ⟨cE Q2.out (by omega),.inl ⟨p,HP.out,HA.out (by first | exact rfl | exact trivial),rfl⟩⟩
   | false=>
    go_wp2_with fail;go_roundw
    case rel=>exact⟨k+1,by omega,by go_num,HS.out,(by first | exact rfl | trivial)⟩
    case measure=>simp[intOf];omega
  ·have he:(M.map Prod.fst).take k=M.map Prod.fst:=wq (by rw[HL2.out];omega)
   rw[he] at hany;have HA:=h_ (ot hany);obtain⟨m,d0,d1,d2,d3,d4,d5,d6,d7,g0,g1,g2,g3,g4,g5,g6,g7⟩:=id z2;have Z2:=h_ z2;have Q2:=h_ q2;clear hany he z2 q2;go_wp2_with fail;refine bodyPost_ret (dQ rfl rfl rfl (Z2.out.store)) rfl ⟨cE Q2.out (by omega),.inr ⟨HA.out,rfl⟩⟩

def mS (x:It):Bool:=decide (500<x.j.length)||(decide (500<x.n.length)||(decide (10<x.g.length)||x.g.any fun y=>decide (500<y.length)))
def cW (L:List It):Bool:=(L.take 20).any mS||decide (18<L.length)
theorem nz {L:List It} {k:Nat} (h20:k<20) (hk:k<L.length) (h:mS L[k]=true):cW L=true:=by
 unfold cW
 have:(L.take 20).any mS=true:=wB.2 ⟨L[k],by rw[wC];exact⟨k,by rw[wD];omega,by rw[wE]⟩,h⟩
 rw[this];rfl
theorem jM {L:List It} {k:Nat} (h:(L.take k).any mS=false) (hk:k=20∨L.length≤k∧k≤20):cW L=decide (18<L.length):=by
 unfold cW
 have e:L.take 20=L.take k:=by
  rcases hk with rfl | ⟨h1,h2⟩
  ·rfl
  ·rw[wq (by omega),wq (by omega)]
 rw[e,h,Bool.false_or]
theorem nR {L:List It} (h:cW L=false):L.length≤18∧∀x∈L,x.j.length≤500∧x.n.length≤500∧x.g.length≤10∧∀y∈x.g,y.length≤500:=by
 unfold cW at h;rw[Bool.or_eq_false_iff,decide_eq_false_iff_not] at h;obtain⟨h1,h2⟩:=h;rw[wq (by omega)] at h1;refine⟨by omega,fun x hx=>?_⟩;have:=wu.1 h1 x hx;unfold mS at this;simp only[Bool.or_eq_true,decide_eq_true_eq,wB,not_or,not_exists,not_and,Nat.not_lt] at this;exact⟨this.1,this.2.1,this.2.2.1,fun y hy=>this.2.2.2 y hy⟩
theorem qU (l:List UInt8):(⟨l.toArray⟩:ByteArray).size=l.length:=by rw[←ab]
theorem nG (v:Value) (ver:Int) (M:List Im) (w:World) (hv:aw v M w):
  Calls prog 36 #[.agg #[v,.int .i64 ver]] w (Ret w (.bool (cW (M.map Prod.fst)))):=by
 obtain⟨a0,cap0,hf,-⟩:=hv.form;obtain⟨L,hL⟩:=e_ M.length;rw[hL] at hf;subst hf;obtain⟨O,hO⟩:=e_ (cW (M.map Prod.fst));rw[hO];have r0:=Two.new w (.slice a0 L cap0) (.int .i64 ver) 31;have q0:=(bR w).alloc (ws _) (.cells #[.slice a0 L cap0,.int .i64 ver] 31);obtain⟨W0,hW0⟩:=e_ (w.alloc (.cells #[.slice a0 L cap0,.int .i64 ver] 31));rw[hW0] at r0 q0;have HW:=h_ hW0;have HV:=h_ hv;have HL:=h_ hL
 have hl2:(M.map Prod.fst).length=L:=by rw[wF,hL]
 have HL2:=h_ hl2;have HO:=h_ hO;clear hW0 hv hL hl2 hO;go_enter func36,ntmps36;go_wp2_with fail;rw[HW.out];go_loopw [3] (fun i wx=>∃k:Nat,k≤L∧k≤20∧i=.int .i64 k∧((M.map Prod.fst).take k).any mS=false∧Two w.heap.size (.slice a0 L cap0) (.int .i64 ver) wx∧Bl w wx) (fun i _=>20-(intOf i).toNat)
 case atStart=>exact⟨0,wv _,by omega,rfl,rfl,r0,q0⟩
 case round=>
  obtain⟨k,hk,hk20,rfl,hany,rr,hbw⟩:=hrel;obtain⟨l,c0,c1,f0,f1⟩:=id rr;have hws:=hbw.size
  by_cases hlt:k<L
  ·by_cases h20:k<20
   ·have hkM : k < M.length := by rw [HL.out]; exact hlt
    obtain⟨b,off,cp,hf,hb0,hc⟩:=(HV.out.ret hbw).cell hkM;rw[HL.out] at hf;simp only[ww,true_and] at hf;obtain⟨rfl,rfl⟩:=hf;have hkm:k<(M.map Prod.fst).length:=(by rw[HL2.out];exact hlt)
    have hsn:mS M[k].1=false→((M.map Prod.fst).take (k+1)).any mS=false:=fun h=>by
     rw[wy hkm,wz,hany,wt]
     simp[h]
    have hat:mS M[k].1=true→O=true:=fun h=>by
     rw[←HO.out];exact nz h20 hkm (by rw[wt];exact h)
    have hgr:=(HV.out.ret hbw).2 _ (wA hkM);obtain⟨p,hp⟩:=e_ (M[k]);rw[hp] at hc hsn hat hgr;obtain⟨i0,i1,i2,i3,i4,i5,i6,i7⟩:=hc;have al:=(bR wr).alloc (ws _) (.cells (itC p).toArray 99);have x1:=It8.new wr (.string ⟨p.1.j.toArray⟩) (.string ⟨p.1.n.toArray⟩) (gvI p) (.bool p.1.s.1) (.bool p.1.s.2.1) (.bool p.1.s.2.2.1) (.bool p.1.s.2.2.2) (.bool p.1.k) 99;have rr2:=rr.ret al;have q2:=hbw.trans (al.mono hws);have hgr2:=hgr.ret al;obtain⟨V,hV⟩:=e_ (wr.alloc (.cells (itC p).toArray 99));rw[hV] at x1 rr2 q2 hgr2;have HVV:=h_ hV;have zj:=qU p.1.j;have zn:=qU p.1.n;obtain⟨B,hB⟩:=e_ (mS p.1);rw[hB] at hsn hat;have HS:=h_ hsn;have HA:=h_ hat;have HB:=h_ hB;have HG:=h_ hgr2;have RR:=h_ rr2;have QQ:=h_ q2;obtain⟨m,d0,d1,d2,d3,d4,d5,d6,d7,g0,g1,g2,g3,g4,g5,g6,g7⟩:=id x1;clear hp hsn hat hB hgr hgr2 hkm hany rr rr2 q2 hbw hV al
    by_cases h1:500<p.1.j.length∨500<p.1.n.length∨10<p.1.g.length
    ·have hbt:B=true:=by
      rw[←HB.out];unfold mS
      rcases h1 with h | h | h <;> simp[h]
     subst hbt;have:=HA.out (by first | exact rfl | trivial);subst this;have hjN:((500:Int)<(p.1.j.length:Int))∨¬((500:Int)<(p.1.j.length:Int)):=Decidable.em _;have hnN:((500:Int)<(p.1.n.length:Int))∨¬((500:Int)<(p.1.n.length:Int)):=Decidable.em _
     rcases hjN with hj | hj
     ·clear hnN h1
      go_wp2_with fail;rw[HVV.out];go_wp2_with fail;go_ret;exact⟨rfl,QQ.out⟩
     ·rcases hnN with hn | hn
      ·clear h1
       go_wp2_with fail;rw[HVV.out];go_wp2_with fail;go_ret;exact⟨rfl,QQ.out⟩
      ·have hg : (10 : Int) < (p.1.g.length : Int) := by omega
       clear h1;go_wp2_with fail;rw[HVV.out];go_wp2_with fail;go_ret;exact⟨rfl,QQ.out⟩
    ·have hj : ¬((500 : Int) < (p.1.j.length : Int)) := by omega
     have hn:¬((500:Int)<(p.1.n.length:Int)):=(by omega);have hg:¬((10:Int)<(p.1.g.length:Int)):=(by omega)
     have hbB:B=p.1.g.any fun y=>decide (500<y.length):=by
      rw[←HB.out];unfold mS
      have e1:decide (500<p.1.j.length)=false:=decide_eq_false (by omega)
      have e2:decide (500<p.1.n.length)=false:=decide_eq_false (by omega)
      have e3:decide (10<p.1.g.length)=false:=decide_eq_false (by omega)
      rw[e1,e2,e3];rfl
     have HBB:=h_ hbB;clear h1 hbB;go_wp2_with fail;rw[HVV.out];go_wp2_with fail;go_loopw [5] (fun i wx=>∃e:Nat,e≤p.1.g.length∧i=.int .i64 e∧(p.1.g.take e).any (fun y=>decide (500<y.length))=false∧wx=V) (fun i _=>p.1.g.length-(intOf i).toNat)
     case atStart=>exact⟨0,wv _,rfl,rfl,rfl⟩
     case round=>
      obtain⟨e,he,rfl,hany2,rfl⟩:=hrel
      by_cases hle:e<p.1.g.length
      ·obtain⟨b2,off2,cp2,hf2,hb2,hc2⟩:=bn HG.out.1 (k:=e) (by rw[aj];exact hle)
       rw[aj] at hf2;have hck:=hc2 e (by rw[aj];exact hle)
       have e1:(aY p.1.g)[e]'(by rw[aj];exact hle)=.string ⟨(p.1.g[e]).toArray⟩:=by simp[aY]
       rw[e1] at hck;simp only[ww,true_and] at hf2;obtain⟨hf2a,hf2b⟩:=hf2;have zy:=qU p.1.g[e]
       have hs2:(p.1.g.take (e+1)).any (fun y=>decide (500<y.length))=decide (500<(p.1.g[e]).length):=by
        rw[wy hle,wz,hany2]
        simp
       have hh:500<(p.1.g[e]).length→B=true:=fun h=>by
        rw[HBB.out,wB];exact⟨_,wA hle,decide_eq_true h⟩
       obtain⟨y,hy⟩:=e_ (p.1.g[e]);rw[hy] at hck zy hs2 hh;have HS2:=h_ hs2;have e2:gvI p=.slice (some ⟨b2,off2,none⟩) p.1.g.length p.2.2:=(by show Value.slice p.2.1 _ _=_;rw[hf2a]);rw[e2] at d2;clear e2;clear hs2 hy e1 hc2 hany2
       by_cases h5:500<y.length
       ·have hbt:=hh h5
        subst hbt;have:=HA.out (by first | exact rfl | trivial);subst this;have h5i:(500:Int)<(y.length:Int):=(by omega);clear hh;go_wp2_with fail;go_ret;exact⟨rfl,QQ.out⟩
       ·have h5i : ¬((500 : Int) < (y.length : Int)) := by omega
        clear hh;go_wp2_with fail;go_roundw
        case rel=>exact⟨e+1,by omega,by go_num,by rw[HS2.out];exact decide_eq_false h5,by first | rfl | trivial⟩
        case measure=>simp[intOf];omega
      ·have hfull:p.1.g.take e=p.1.g:=wq (by omega)
       rw[hfull] at hany2;have hbf:B=false:=(by rw[HBB.out];exact hany2);subst hbf;clear hfull hany2;go_wp2_with fail;go_roundw
       case rel=>exact⟨k+1,by omega,by omega,by go_num,HS.out (by first | exact rfl | trivial),RR.out,QQ.out⟩
       case measure=>simp[intOf];omega
   ·have hE:=jM hany (.inl (by omega))
    rw[HO.out,HL2.out] at hE;have h18:18<L:=(by omega);rw[decide_eq_true h18] at hE;subst hE;clear hany;go_wp2_with fail;go_ret;exact⟨by simp;omega,hbw⟩
  ·have hE:=jM hany (.inr ⟨by rw[HL2.out];omega,hk20⟩)
   rw[HO.out,HL2.out] at hE;clear hany
   by_cases h18:18<L
   ·rw[decide_eq_true h18] at hE
    subst hE;go_wp2_with fail;go_ret;exact⟨by simp;omega,hbw⟩
   ·rw[decide_eq_false h18] at hE
    subst hE;go_wp2_with fail;go_ret;exact⟨by simp;omega,hbw⟩
end Go.Proofs.YtjgeiieiinmdnaaGreatDoor
