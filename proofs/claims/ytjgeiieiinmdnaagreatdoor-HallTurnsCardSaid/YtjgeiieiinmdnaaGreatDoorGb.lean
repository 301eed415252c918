/- AsA, AsB, AsC, AsD, AsE, AsG, AsH, AsI: put together by mergetpl.py. -/
import Derived.Deep.WholeRow
import Derived.IntWalk
import Derived.Laws.BitsLemmas
import Derived.Laws.RangeString
import Derived.Laws.ResultCell
import Derived.Test.YtjgeiieiinmdnaaGreatDoorGa
open Go.Proofs.Tryz
open Go.Lib renaming toList_data→wt
open Go.Value renaming int→wh
open Go.World renaming alloc→wz,cell?_alloc_mark→wA
open List renaming map_append→ws,length→wu,length_nil→wv,getElem?_eq_getElem→ww,getElem?_eq_none→wy
open Nat renaming le_refl→wo,zero_le→wq
namespace Go.Proofs.YtjgeiieiinmdnaaGreatDoor
set_option maxHeartbeats 4000000
open Go.RowKit

theorem fA (s:ByteArray) (w:World) (hs:s.size≤1000000):Calls prog 173 #[.string s] w (Ret w (.string ⟨(d8 s.data.toList).toArray⟩)):=by
 go_enter func173,ntmps173;go_wp2_with fail;go_loopw [3,4] (fun v i wr=>∃k:Nat,k≤s.size∧i=.int .i64 k∧wr.ownsRow w.heap.size 5 1 v k ((d8 (s.data.toList.take k)).map fun c=>wh .u8 c.toNat)∧Bl w wr) (fun _ i _=>s.size-(intOf i).toNat)
 case atStart=>exact⟨0,wq _,rfl,World.ownsRow_nil _ _ _ _,bQ _⟩
 case round=>
  obtain⟨k,hk,rfl,xr,xq⟩:=hrel;obtain⟨i0,hi,xu,xw,xx⟩:=info_parts mR;have xT:=xq.size
  by_cases hlt:k<s.size
  ·have xH : d8 (s.data.toList.take (k + 1)) = d8 (s.data.toList.take k) ++ [loB s[k]] := by rw [cK s k hlt, ox]
   have HS:=h_ xH;have HO:=h_ xr;have hb:(s[k].toNat:Int)≤255:=(by have:=s[k].toNat_lt;omega);clear xH xr
   by_cases hc:65≤s[k].toNat∧s[k].toNat≤90
   ·have xt:=uN hc.1 hc.2
    obtain⟨d,hd⟩:=e_ (loB s[k]);rw[hd] at xt HS;have xI:(s[k].toNat:Int)+32=(d.toNat:Int):=(by omega);have g1:(65:Int)≤s[k].toNat:=(by omega);have g2:(s[k].toNat:Int)≤90:=(by omega);have xL:=h_ xI;clear hc xt hd xI;go_wp2_with (at_builtin;refine bw rfl _ _ 194 rfl w.heap.size 5 i0 (.int .u8 0) 1 underlying194 hi xu xw xx rfl _ _ _ rfl HO.out (.int .u8 ((s[k].toNat:Int)+32)) rfl rfl (by omega) (by omega) (by omega) ?_;intro v' w2 xn xp);have xy:=xp _ xq
    have xo:w2.ownsRow w.heap.size 5 1 v' (k+1) ((d8 (s.data.toList.take (k+1))).map fun c=>wh .u8 c.toNat):=by
     rw[HS.out,ws];rw[xL.out] at xn;exact xn
    have xz:=h_ xo;clear xn xp xo hi xu xw xx;go_wp2_with fail;go_roundw
    case rel=>exact⟨k+1,by omega,by go_num,xz.out,xy⟩
    case measure=>simp[intOf];omega
   ·have xt:=si hc
    rw[xt] at HS;have g1:(s[k].toNat:Int)<65∨90<(s[k].toNat:Int):=(by omega);clear hc xt
    rcases g1 with g1 | g1
    ·have g2 : ¬ (65 : Int) ≤ s[k].toNat := by omega
     go_wp2_with (at_builtin;refine bw rfl _ _ 194 rfl w.heap.size 5 i0 (.int .u8 0) 1 underlying194 hi xu xw xx rfl _ _ _ rfl HO.out (.int .u8 s[k].toNat) rfl rfl (by omega) (by omega) (by omega) ?_;intro v' w2 xn xp);have xy:=xp _ xq
     have xo:w2.ownsRow w.heap.size 5 1 v' (k+1) ((d8 (s.data.toList.take (k+1))).map fun c=>wh .u8 c.toNat):=by
      rw[HS.out,ws];exact xn
     have xz:=h_ xo;clear xn xp xo hi xu xw xx;go_wp2_with fail;go_roundw
     case rel=>exact⟨k+1,by omega,by go_num,xz.out,xy⟩
     case measure=>simp[intOf];omega
    ·have g2 : (65 : Int) ≤ s[k].toNat := by omega
     have g3:¬ (s[k].toNat:Int)≤90:=(by omega);go_wp2_with (at_builtin;refine bw rfl _ _ 194 rfl w.heap.size 5 i0 (.int .u8 0) 1 underlying194 hi xu xw xx rfl _ _ _ rfl HO.out (.int .u8 s[k].toNat) rfl rfl (by omega) (by omega) (by omega) ?_;intro v' w2 xn xp);have xy:=xp _ xq
     have xo:w2.ownsRow w.heap.size 5 1 v' (k+1) ((d8 (s.data.toList.take (k+1))).map fun c=>wh .u8 c.toNat):=by
      rw[HS.out,ws];exact xn
     have xz:=h_ xo;clear xn xp xo hi xu xw xx;go_wp2_with fail;go_roundw
     case rel=>exact⟨k+1,by omega,by go_num,xz.out,xy⟩
     case measure=>simp[intOf];omega
  ·obtain rfl : k = s.size := by omega
   rw[List.take_of_length_le (by rw[ab];exact wo _)] at xr;have xD:=rd xr;obtain⟨l,hl⟩:=e_ (d8 s.data.toList);rw[hl] at xD;have HL:=h_ hl;clear xr hl hi xu xw xx;go_wp2_with fail;go_ret;rw[HL.out];exact⟨rfl,xq⟩




theorem below_drewN (w:World) (n:Nat):Below w.heap.size w (w.drewN n):=⟨rfl,rfl,rfl,wo _,fun _ _=>rfl⟩
theorem tq (X Y:ByteArray) (x y:List UInt8) (hx:X.data.toList=x) (hy:Y.data.toList=y):(X.toList==Y.toList)=decide (x=y):=by
 rw[wt,wt,hx,hy,mx]
theorem ov (va vb:Value) (xs ys:List (List UInt8)) (w:World) (ha:cH va (cJ xs) w) (hb:cH vb (cJ ys) w) (hl:xs.length≤1000000):
  Calls prog 21 #[va,vb] w (Ret w (.bool (decide (xs=ys)))):=by
 obtain⟨a,ca,rfl,_,ha⟩:=ha;obtain⟨b,cb,rfl,_,hb⟩:=hb;rw[aq,aq]
 by_cases hlen:xs.length=ys.length
 rotate_left
 ·have h1 : ((xs.length : Int) != (ys.length : Int)) = true := by rw [bne_iff_ne]; omega
  have h2:(xs.length != ys.length)=true:=by rw[bne_iff_ne];exact hlen
  have xA:decide (xs=ys)=false:=by rw[decide_eq_false_iff_not];intro e;exact hlen (by rw[e])
  rw[xA];generalize xs.length=n at *;generalize ys.length=m at *;clear ha hb xA hlen;go_enter func21,ntmps21;go_wp2_with fail;go_ret;exact⟨rfl,bQ _⟩
 ·have HA:=h_ ha
  have HB:=h_ hb;have HL:=h_ hlen;rw[←hlen];obtain⟨n,hn⟩:=e_ xs.length;have HN:=h_ hn;rw[hn] at hl ⊢;clear ha hb hlen hn;go_enter func21,ntmps21;go_wp2_with fail;go_loopw [5] (fun i wr=>∃k:Nat,k≤n∧i=.int .i64 k∧(∀j,j<k→xs[j]?=ys[j]?)∧Bl w wr) (fun i _=>n-(intOf i).toNat)
  case atStart=>exact⟨0,wq _,rfl,(fun j h=>by omega),bQ _⟩
  case round=>
   obtain⟨k,hk,rfl,xJ,xq⟩:=hrel;have HE:=h_ xJ;clear xJ
   by_cases hlt:k<n
   ·have hx : k < xs.length := by have := HN.out; omega
    have hy:k<ys.length:=(by have:=HL.out;omega)
    rcases HA.out with h | ⟨b1,o1,rfl,h1⟩
    ·have:=congrArg wu h
     rw[aq] at this;simp only[wv] at this
     omega
    rcases HB.out with h | ⟨b2,o2,rfl,h2⟩
    ·have:=congrArg wu h
     rw[aq] at this;simp only[wv] at this
     omega
    have c1:=(h1.ret xq).2 k (by rw[aq];exact hx);have c2:=(h2.ret xq).2 k (by rw[aq];exact hy);obtain⟨X,hX⟩:∃X:ByteArray,⟨(xs[k]).toArray⟩=X:=⟨_,rfl⟩;obtain⟨Y,hY⟩:∃Y:ByteArray,⟨(ys[k]).toArray⟩=Y:=⟨_,rfl⟩;rw[show (cJ xs)[k]'(by rw[aq];exact hx)=.string X by rw[←hX];simp[cJ]] at c1;rw[show (cJ ys)[k]'(by rw[aq];exact hy)=.string Y by rw[←hY];simp[cJ]] at c2;have hq:=tq X Y xs[k] ys[k] (by rw[←hX]) (by rw[←hY])
    by_cases hxy:xs[k]=ys[k]
    ·rw[decide_eq_true hxy] at hq
     have xM:(X.toList != Y.toList)=false:=(by unfold bne;rw[hq];rfl)
     have xC:∀j,j<k+1→xs[j]?=ys[j]?:=by
      intro j hj
      by_cases hjk:j<k
      ·exact HE.out j hjk
      ·obtain rfl : j = k := by omega
       rw[ww hx,ww hy,hxy]
     have xN:=h_ xC;clear hxy xC hX hY h1 h2;go_wp2_with fail;go_quiet (fail);go_wp2_with fail;go_roundw
     case rel=>exact⟨k+1,by omega,by go_num,xN.out,xq.trans (⟨rfl,rfl,rfl,wo _,fun _ _=>rfl⟩)⟩
     case measure=>simp[intOf];omega
    ·rw[decide_eq_false hxy] at hq
     have xM:(X.toList != Y.toList)=true:=(by unfold bne;rw[hq];rfl)
     have xA:decide (xs=ys)=false:=by
      rw[decide_eq_false_iff_not];intro e
      apply hxy
      simp only[e]
     have xO:=h_ xA;clear hxy hX hY h1 h2 xA;go_wp2_with fail;go_quiet (fail);go_wp2_with fail;go_ret;rw[xO.out];exact⟨rfl,xq.trans (⟨rfl,rfl,rfl,wo _,fun _ _=>rfl⟩)⟩
   ·obtain rfl : k = n := by omega
    have he:decide (xs=ys)=true:=by
     rw[decide_eq_true_eq]
     apply List.ext_getElem?
     intro j
     by_cases hj:j<k
     ·exact HE.out j hj
     ·rw[wy (by have:=HN.out;omega),wy (by have:=HN.out;have:=HL.out;omega)]
    have xP:=h_ he;clear he;go_wp2_with fail;go_ret;rw[xP.out];exact⟨rfl,xq⟩

theorem vn:∀n:Fin 256,65≤n.val→n.val≤90→bits .or .u8 (n.val:Int) 32=((loB (UInt8.ofNat n.val)).toNat:Int):=by decide+kernel
theorem vW (c:UInt8) (h:65≤c.toNat) (h':c.toNat≤90):bits .or .u8 (c.toNat:Int) 32=((loB c).toNat:Int):=by
 have:=vn ⟨c.toNat,c.toNat_lt⟩ h h'
 simpa using this
theorem kW (w:World) (D:Array Value) (t:TypeId) (n:Nat) (j:Nat) (h:j<n):(w.alloc (.cells D t (n,n+1))).frozen? ⟨w.heap.size,j,none⟩=false:=by
 unfold World.frozen? wz
 simp
 omega
theorem qZ (w:World) (D:Array Value) (t:TypeId) (fr:Nat×Nat) (j:Nat) (v:Value):(w.alloc (.cells D t fr)).setCell ⟨w.heap.size,j,none⟩ v=w.alloc (.cells (D.setIfInBounds j v) t fr):=by
 simp only[World.setCell,wz]
 congr 1
 apply Array.ext_getElem?
 intro i;rw[Array.getElem?_modify]
 by_cases h:w.heap.size=i
 ·subst h
  simp
 ·have h':¬ i=w.heap.size:=fun e=>h e.symm
  simp[h,h',Array.getElem?_push]
theorem qv (s:ByteArray) (w:World) (hs:s.size≤1000000):Calls prog 171 #[.string s] w (Ret w (.string ⟨(d8 s.data.toList).toArray⟩)):=by
 obtain⟨cap,C,hC,xQ,xD⟩:=nJ (P:=prog) w 9 194 5 s underlying9 underlying194 underlying5;have HC:=h_ hC;obtain⟨N,hN⟩:=e_ C.size;have xR:=h_ hN;rw[hN] at xD xQ;clear hC hN;go_enter func171,ntmps171;go_wp2_with fail;go_loopw [10] (fun i wr=>∃(k:Nat) (D:Array Value),k≤s.size∧i=.int .i64 k∧D.size=N∧(∀j (h:j<s.size),D[j]?=some (.int .u8 ((if j<k then loB s[j] else s[j]).toNat:Int)))∧wr=(w.alloc (.cells D 5 (N,N+1))).drew) (fun i _=>s.size-(intOf i).toNat)
 case atStart=>exact⟨0,C,wq _,rfl,xR.out,fun j h=>by rw[HC.out j h];rfl,rfl⟩
 case round=>
  obtain⟨k,D,hk,rfl,xE,hD,rfl⟩:=hrel
  by_cases hlt:k<s.size
  ·have xF:=hD k hlt
   rw[if_neg (Nat.lt_irrefl k)] at xF
   have xS:((w.alloc (.cells D 5 (N,N+1))).drew).cell? ⟨w.heap.size,k,none⟩=some (.int .u8 (s[k].toNat:Int)):=(wA w D _ _ k).trans xF
   have xU:((w.alloc (.cells D 5 (N,N+1))).drew).frozen? ⟨w.heap.size,k,none⟩=false:=kW w D _ N k (by omega)
   have hb:(s[k].toNat:Int)≤255:=(by have:=s[k].toNat_lt;omega);have HD:=h_ hD;have xB:=h_ xE;clear hD xF xE
   by_cases hc:65≤s[k].toNat∧s[k].toNat≤90
   ·have xV:=vW s[k] hc.1 hc.2
    have g1:(65:Int)≤s[k].toNat:=(by omega);have g2:(s[k].toNat:Int)≤90:=(by omega);clear hc;go_wp2_with fail;go_roundw
    case rel=>
     refine⟨k+1,D.setIfInBounds k (.int .u8 ((loB s[k]).toNat:Int)),by omega,by go_num,by rw[Array.size_setIfInBounds,xB.out],fun j h=>?_,?_⟩
     ·rw[Array.getElem?_setIfInBounds]
      by_cases hj:k=j
      ·subst hj
       rw[if_pos rfl,if_pos (by rw[xB.out];omega),if_pos (by omega)]
      ·rw[if_neg hj,HD.out j h]
       by_cases hjk:j<k
       ·rw[if_pos hjk,if_pos (by omega)]
       ·rw[if_neg hjk,if_neg (by omega)]
     ·rw[qZ]
    case measure=>simp[intOf];omega
   ·have xt:=si hc
    have xK:=h_ xt;have g1:(s[k].toNat:Int)<65∨90<(s[k].toNat:Int):=(by omega);clear hc xt
    rcases g1 with g1 | g1
    ·have g2 : ¬ (65 : Int) ≤ s[k].toNat := by omega
     go_wp2_with fail;go_roundw
     case rel=>
      refine⟨k+1,D,by omega,by go_num,xB.out,fun j h=>?_,rfl⟩;rw[HD.out j h]
      by_cases hjk:j<k
      ·rw[if_pos hjk,if_pos (by omega)]
      ·by_cases hj:j=k
       ·subst hj
        rw[if_neg hjk,if_pos (by omega),xK.out]
       ·rw[if_neg hjk,if_neg (by omega)]
     case measure=>simp[intOf];omega
    ·have g2 : (65 : Int) ≤ s[k].toNat := by omega
     have g3:¬ (s[k].toNat:Int)≤90:=(by omega);go_wp2_with fail;go_roundw
     case rel=>
      refine⟨k+1,D,by omega,by go_num,xB.out,fun j h=>?_,rfl⟩;rw[HD.out j h]
      by_cases hjk:j<k
      ·rw[if_pos hjk,if_pos (by omega)]
      ·by_cases hj:j=k
       ·subst hj
        rw[if_neg hjk,if_pos (by omega),xK.out]
       ·rw[if_neg hjk,if_neg (by omega)]
     case measure=>simp[intOf];omega
  ·obtain rfl : k = s.size := by omega
   have xG:(convert 194 9 (.slice (some ⟨w.heap.size,0,none⟩) s.size cap)).run prog ((w.alloc (.cells D 5 (N,N+1))).drew)=.ok (.string ⟨(d8 s.data.toList).toArray⟩) ((w.alloc (.cells D 5 (N,N+1))).drew):=by
    have h:=run_convert_bytes_back (P:=prog) ((w.alloc (.cells D 5 (N,N+1))).drew) 194 9 5 ⟨w.heap.size,0,none⟩ cap (d8 s.data.toList) underlying194 underlying5 underlying9 (fun j hj=>by
     rw[lZ,ab] at hj;rw[cz];refine((wA w D _ _ j).trans (hD j hj)).trans ?_;rw[if_pos hj]
     simp[d8]
     rfl)
    rw[lZ,ab] at h;exact h
   obtain⟨l,hl⟩:=e_ (d8 s.data.toList);rw[hl] at xG;have HL:=h_ hl;clear hD xE hl;go_wp2_with fail;go_ret;rw[HL.out];exact⟨rfl,by go_grown⟩


end Go.Proofs.YtjgeiieiinmdnaaGreatDoor
