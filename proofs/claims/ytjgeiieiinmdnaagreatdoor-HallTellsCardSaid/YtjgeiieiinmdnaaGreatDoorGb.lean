/- AsA, AsB, AsC, AsD, AsE, AsG, AsH, AsI: put together by mergetpl.py. -/
import Derived.Test.YtjgeiieiinmdnaaGreatDoorGa
import Derived.Deep.QuietTactic
import Derived.BigQuiet
import Derived.IntWalk
import Derived.Laws.BitsLemmas
import Derived.Deep.WholeRow
import Derived.Laws.ResultCell
import Derived.Laws.RangeString
open Go.Proofs.Tryz
open Go.Lib renaming toList_data→wv
open Go.Value renaming int→wq
open Go.World renaming alloc→wB,cell?_alloc_mark→wC
open List renaming map_append→wu,length→ww,length_nil→wy,getElem?_eq_getElem→wz,getElem?_eq_none→wA
open Nat renaming le_refl→ws,zero_le→wt
namespace Go.Proofs.YtjgeiieiinmdnaaGreatDoor
set_option maxHeartbeats 4000000
open Go.RowKit

theorem eB (s:ByteArray) (w:World) (hs:s.size≤1000000):Calls prog 173 #[.string s] w (Ret w (.string ⟨(fF s.data.toList).toArray⟩)):=by
 go_enter func173,ntmps173;go_wp2_with fail;go_loopw [3,4] (fun v i wr=>∃k:Nat,k≤s.size∧i=.int .i64 k∧wr.ownsRow w.heap.size 5 1 v k ((fF (s.data.toList.take k)).map fun c=>wq .u8 c.toNat)∧Bl w wr) (fun _ i _=>s.size-(intOf i).toNat)
 case atStart=>exact⟨0,wt _,rfl,World.ownsRow_nil _ _ _ _,bQ _⟩
 case round=>
  obtain⟨k,hk,rfl,hown,hBw⟩:=hrel;obtain⟨i0,hi,hz0,hz1,hz2⟩:=info_parts mp;have hsz:=hBw.size
  by_cases hlt:k<s.size
  ·have hsn : fF (s.data.toList.take (k + 1)) = fF (s.data.toList.take k) ++ [loB s[k]] := by rw [cC s k hlt, nc]
   have HS:=h_ hsn;have HO:=h_ hown;have hb:(s[k].toNat:Int)≤255:=(by have:=s[k].toNat_lt;omega);clear hsn hown
   by_cases hc:65≤s[k].toNat∧s[k].toNat≤90
   ·have hlo:=uw hc.1 hc.2
    obtain⟨d,hd⟩:=e_ (loB s[k]);rw[hd] at hlo HS;have hdd:(s[k].toNat:Int)+32=(d.toNat:Int):=(by omega);have g1:(65:Int)≤s[k].toNat:=(by omega);have g2:(s[k].toNat:Int)≤90:=(by omega);have HDD:=h_ hdd;clear hc hlo hd hdd;go_wp2_with (at_builtin;refine bk rfl _ _ 194 rfl w.heap.size 5 i0 (.int .u8 0) 1 underlying194 hi hz0 hz1 hz2 rfl _ _ _ rfl HO.out (.int .u8 ((s[k].toNat:Int)+32)) rfl rfl (by omega) (by omega) (by omega) ?_;intro v' w2 hown' hbel);have hb2:=hbel _ hBw
    have hown2:w2.ownsRow w.heap.size 5 1 v' (k+1) ((fF (s.data.toList.take (k+1))).map fun c=>wq .u8 c.toNat):=by
     rw[HS.out,wu];rw[HDD.out] at hown';exact hown'
    have HO2:=h_ hown2;clear hown' hbel hown2 hi hz0 hz1 hz2;go_wp2_with fail;go_roundw
    case rel=>exact⟨k+1,by omega,by go_num,HO2.out,hb2⟩
    case measure=>simp[intOf];omega
   ·have hlo:=rt hc
    rw[hlo] at HS;have g1:(s[k].toNat:Int)<65∨90<(s[k].toNat:Int):=(by omega);clear hc hlo
    rcases g1 with g1 | g1
    ·have g2 : ¬ (65 : Int) ≤ s[k].toNat := by omega
     go_wp2_with (at_builtin;refine bk rfl _ _ 194 rfl w.heap.size 5 i0 (.int .u8 0) 1 underlying194 hi hz0 hz1 hz2 rfl _ _ _ rfl HO.out (.int .u8 s[k].toNat) rfl rfl (by omega) (by omega) (by omega) ?_;intro v' w2 hown' hbel);have hb2:=hbel _ hBw
     have hown2:w2.ownsRow w.heap.size 5 1 v' (k+1) ((fF (s.data.toList.take (k+1))).map fun c=>wq .u8 c.toNat):=by
      rw[HS.out,wu];exact hown'
     have HO2:=h_ hown2;clear hown' hbel hown2 hi hz0 hz1 hz2;go_wp2_with fail;go_roundw
     case rel=>exact⟨k+1,by omega,by go_num,HO2.out,hb2⟩
     case measure=>simp[intOf];omega
    ·have g2 : (65 : Int) ≤ s[k].toNat := by omega
     have g3:¬ (s[k].toNat:Int)≤90:=(by omega);go_wp2_with (at_builtin;refine bk rfl _ _ 194 rfl w.heap.size 5 i0 (.int .u8 0) 1 underlying194 hi hz0 hz1 hz2 rfl _ _ _ rfl HO.out (.int .u8 s[k].toNat) rfl rfl (by omega) (by omega) (by omega) ?_;intro v' w2 hown' hbel);have hb2:=hbel _ hBw
     have hown2:w2.ownsRow w.heap.size 5 1 v' (k+1) ((fF (s.data.toList.take (k+1))).map fun c=>wq .u8 c.toNat):=by
      rw[HS.out,wu];exact hown'
     have HO2:=h_ hown2;clear hown' hbel hown2 hi hz0 hz1 hz2;go_wp2_with fail;go_roundw
     case rel=>exact⟨k+1,by omega,by go_num,HO2.out,hb2⟩
     case measure=>simp[intOf];omega
  ·obtain rfl : k = s.size := by omega
   rw[List.take_of_length_le (by rw[ab];exact ws _)] at hown;have hcv:=qc hown;obtain⟨l,hl⟩:=e_ (fF s.data.toList);rw[hl] at hcv;have HL:=h_ hl;clear hown hl hi hz0 hz1 hz2;go_wp2_with fail;go_ret;rw[HL.out];exact⟨rfl,hBw⟩




theorem below_drewN (w:World) (n:Nat):Below w.heap.size w (w.drewN n):=⟨rfl,rfl,rfl,ws _,fun _ _=>rfl⟩
theorem sS (X Y:ByteArray) (x y:List UInt8) (hx:X.data.toList=x) (hy:Y.data.toList=y):(X.toList==Y.toList)=decide (x=y):=by
 rw[wv,wv,hx,hy,ls]
theorem om (va vb:Value) (xs ys:List (List UInt8)) (w:World) (ha:bJ va (aY xs) w) (hb:bJ vb (aY ys) w) (hl:xs.length≤1000000):
  Calls prog 21 #[va,vb] w (Ret w (.bool (decide (xs=ys)))):=by
 obtain⟨a,ca,rfl,_,ha⟩:=ha;obtain⟨b,cb,rfl,_,hb⟩:=hb;rw[aj,aj]
 by_cases hlen:xs.length=ys.length
 rotate_left
 ·have h1 : ((xs.length : Int) != (ys.length : Int)) = true := by rw [bne_iff_ne]; omega
  have h2:(xs.length != ys.length)=true:=by rw[bne_iff_ne];exact hlen
  have hne:decide (xs=ys)=false:=by rw[decide_eq_false_iff_not];intro e;exact hlen (by rw[e])
  rw[hne];generalize xs.length=n at *;generalize ys.length=m at *;clear ha hb hne hlen;go_enter func21,ntmps21;go_wp2_with fail;go_ret;exact⟨rfl,bQ _⟩
 ·have HA:=h_ ha
  have HB:=h_ hb;have HL:=h_ hlen;rw[←hlen];obtain⟨n,hn⟩:=e_ xs.length;have HN:=h_ hn;rw[hn] at hl ⊢;clear ha hb hlen hn;go_enter func21,ntmps21;go_wp2_with fail;go_loopw [5] (fun i wr=>∃k:Nat,k≤n∧i=.int .i64 k∧(∀j,j<k→xs[j]?=ys[j]?)∧Bl w wr) (fun i _=>n-(intOf i).toNat)
  case atStart=>exact⟨0,wt _,rfl,(fun j h=>by omega),bQ _⟩
  case round=>
   obtain⟨k,hk,rfl,heq,hBw⟩:=hrel;have HE:=h_ heq;clear heq
   by_cases hlt:k<n
   ·have hx : k < xs.length := by have := HN.out; omega
    have hy:k<ys.length:=(by have:=HL.out;omega)
    rcases HA.out with h | ⟨b1,o1,rfl,h1⟩
    ·have:=congrArg ww h
     rw[aj] at this;simp only[wy] at this
     omega
    rcases HB.out with h | ⟨b2,o2,rfl,h2⟩
    ·have:=congrArg ww h
     rw[aj] at this;simp only[wy] at this
     omega
    have c1:=(h1.ret hBw).2 k (by rw[aj];exact hx);have c2:=(h2.ret hBw).2 k (by rw[aj];exact hy);obtain⟨X,hX⟩:∃X:ByteArray,⟨(xs[k]).toArray⟩=X:=⟨_,rfl⟩;obtain⟨Y,hY⟩:∃Y:ByteArray,⟨(ys[k]).toArray⟩=Y:=⟨_,rfl⟩;rw[show (aY xs)[k]'(by rw[aj];exact hx)=.string X by rw[←hX];simp[aY]] at c1;rw[show (aY ys)[k]'(by rw[aj];exact hy)=.string Y by rw[←hY];simp[aY]] at c2;have hq:=sS X Y xs[k] ys[k] (by rw[←hX]) (by rw[←hY])
    by_cases hxy:xs[k]=ys[k]
    ·rw[decide_eq_true hxy] at hq
     have hq2:(X.toList != Y.toList)=false:=(by unfold bne;rw[hq];rfl)
     have hnew:∀j,j<k+1→xs[j]?=ys[j]?:=by
      intro j hj
      by_cases hjk:j<k
      ·exact HE.out j hjk
      ·obtain rfl : j = k := by omega
       rw[wz hx,wz hy,hxy]
     have HNW:=h_ hnew;clear hxy hnew hX hY h1 h2;go_wp2_with fail;go_quiet (fail);go_wp2_with fail;go_roundw
     case rel=>exact⟨k+1,by omega,by go_num,HNW.out,hBw.trans (⟨rfl,rfl,rfl,ws _,fun _ _=>rfl⟩)⟩
     case measure=>simp[intOf];omega
    ·rw[decide_eq_false hxy] at hq
     have hq2:(X.toList != Y.toList)=true:=(by unfold bne;rw[hq];rfl)
     have hne:decide (xs=ys)=false:=by
      rw[decide_eq_false_iff_not];intro e
      apply hxy
      simp only[e]
     have HNE:=h_ hne;clear hxy hX hY h1 h2 hne;go_wp2_with fail;go_quiet (fail);go_wp2_with fail;go_ret;rw[HNE.out];exact⟨rfl,hBw.trans (⟨rfl,rfl,rfl,ws _,fun _ _=>rfl⟩)⟩
   ·obtain rfl : k = n := by omega
    have he:decide (xs=ys)=true:=by
     rw[decide_eq_true_eq]
     apply List.ext_getElem?
     intro j
     by_cases hj:j<k
     ·exact HE.out j hj
     ·rw[wA (by have:=HN.out;omega),wA (by have:=HN.out;have:=HL.out;omega)]
    have HE2:=h_ he;clear he;go_wp2_with fail;go_ret;rw[HE2.out];exact⟨rfl,hBw⟩

theorem vL:∀n:Fin 256,65≤n.val→n.val≤90→bits .or .u8 (n.val:Int) 32=((loB (UInt8.ofNat n.val)).toNat:Int):=by decide+kernel
theorem wa (c:UInt8) (h:65≤c.toNat) (h':c.toNat≤90):bits .or .u8 (c.toNat:Int) 32=((loB c).toNat:Int):=by
 have:=vL ⟨c.toNat,c.toNat_lt⟩ h h'
 simpa using this
theorem kX (w:World) (D:Array Value) (t:TypeId) (n:Nat) (j:Nat) (h:j<n):(w.alloc (.cells D t (n,n+1))).frozen? ⟨w.heap.size,j,none⟩=false:=by
 unfold World.frozen? wB
 simp
 omega
theorem pQ (w:World) (D:Array Value) (t:TypeId) (fr:Nat×Nat) (j:Nat) (v:Value):(w.alloc (.cells D t fr)).setCell ⟨w.heap.size,j,none⟩ v=w.alloc (.cells (D.setIfInBounds j v) t fr):=by
 simp only[World.setCell,wB]
 congr 1
 apply Array.ext_getElem?
 intro i;rw[Array.getElem?_modify]
 by_cases h:w.heap.size=i
 ·subst h
  simp
 ·have h':¬ i=w.heap.size:=fun e=>h e.symm
  simp[h,h',Array.getElem?_push]
theorem pT (s:ByteArray) (w:World) (hs:s.size≤1000000):Calls prog 171 #[.string s] w (Ret w (.string ⟨(fF s.data.toList).toArray⟩)):=by
 obtain⟨cap,C,hC,hCs,hcv⟩:=n9 (P:=prog) w 9 194 5 s underlying9 underlying194 underlying5;have HC:=h_ hC;obtain⟨N,hN⟩:=e_ C.size;have HNN:=h_ hN;rw[hN] at hcv hCs;clear hC hN;go_enter func171,ntmps171;go_wp2_with fail;go_loopw [10] (fun i wr=>∃(k:Nat) (D:Array Value),k≤s.size∧i=.int .i64 k∧D.size=N∧(∀j (h:j<s.size),D[j]?=some (.int .u8 ((if j<k then loB s[j] else s[j]).toNat:Int)))∧wr=(w.alloc (.cells D 5 (N,N+1))).drew) (fun i _=>s.size-(intOf i).toNat)
 case atStart=>exact⟨0,C,wt _,rfl,HNN.out,fun j h=>by rw[HC.out j h];rfl,rfl⟩
 case round=>
  obtain⟨k,D,hk,rfl,hDs,hD,rfl⟩:=hrel
  by_cases hlt:k<s.size
  ·have hDk:=hD k hlt
   rw[if_neg (Nat.lt_irrefl k)] at hDk
   have hcell:((w.alloc (.cells D 5 (N,N+1))).drew).cell? ⟨w.heap.size,k,none⟩=some (.int .u8 (s[k].toNat:Int)):=(wC w D _ _ k).trans hDk
   have hfr:((w.alloc (.cells D 5 (N,N+1))).drew).frozen? ⟨w.heap.size,k,none⟩=false:=kX w D _ N k (by omega)
   have hb:(s[k].toNat:Int)≤255:=(by have:=s[k].toNat_lt;omega);have HD:=h_ hD;have HDS:=h_ hDs;clear hD hDk hDs
   by_cases hc:65≤s[k].toNat∧s[k].toNat≤90
   ·have hor:=wa s[k] hc.1 hc.2
    have g1:(65:Int)≤s[k].toNat:=(by omega);have g2:(s[k].toNat:Int)≤90:=(by omega);clear hc;go_wp2_with fail;go_roundw
    case rel=>
     refine⟨k+1,D.setIfInBounds k (.int .u8 ((loB s[k]).toNat:Int)),by omega,by go_num,by rw[Array.size_setIfInBounds,HDS.out],fun j h=>?_,?_⟩
     ·rw[Array.getElem?_setIfInBounds]
      by_cases hj:k=j
      ·subst hj
       rw[if_pos rfl,if_pos (by rw[HDS.out];omega),if_pos (by omega)]
      ·rw[if_neg hj,HD.out j h]
       by_cases hjk:j<k
       ·rw[if_pos hjk,if_pos (by omega)]
       ·rw[if_neg hjk,if_neg (by omega)]
     ·rw[pQ]
    case measure=>simp[intOf];omega
   ·have hlo:=rt hc
    have HLO:=h_ hlo;have g1:(s[k].toNat:Int)<65∨90<(s[k].toNat:Int):=(by omega);clear hc hlo
    rcases g1 with g1 | g1
    ·have g2 : ¬ (65 : Int) ≤ s[k].toNat := by omega
     go_wp2_with fail;go_roundw
     case rel=>
      refine⟨k+1,D,by omega,by go_num,HDS.out,fun j h=>?_,rfl⟩;rw[HD.out j h]
      by_cases hjk:j<k
      ·rw[if_pos hjk,if_pos (by omega)]
      ·by_cases hj:j=k
       ·subst hj
        rw[if_neg hjk,if_pos (by omega),HLO.out]
       ·rw[if_neg hjk,if_neg (by omega)]
     case measure=>simp[intOf];omega
    ·have g2 : (65 : Int) ≤ s[k].toNat := by omega
     have g3:¬ (s[k].toNat:Int)≤90:=(by omega);go_wp2_with fail;go_roundw
     case rel=>
      refine⟨k+1,D,by omega,by go_num,HDS.out,fun j h=>?_,rfl⟩;rw[HD.out j h]
      by_cases hjk:j<k
      ·rw[if_pos hjk,if_pos (by omega)]
      ·by_cases hj:j=k
       ·subst hj
        rw[if_neg hjk,if_pos (by omega),HLO.out]
       ·rw[if_neg hjk,if_neg (by omega)]
     case measure=>simp[intOf];omega
  ·obtain rfl : k = s.size := by omega
   have hconv:(convert 194 9 (.slice (some ⟨w.heap.size,0,none⟩) s.size cap)).run prog ((w.alloc (.cells D 5 (N,N+1))).drew)=.ok (.string ⟨(fF s.data.toList).toArray⟩) ((w.alloc (.cells D 5 (N,N+1))).drew):=by
    have h:=run_convert_bytes_back (P:=prog) ((w.alloc (.cells D 5 (N,N+1))).drew) 194 9 5 ⟨w.heap.size,0,none⟩ cap (fF s.data.toList) underlying194 underlying5 underlying9 (fun j hj=>by
     rw[lH,ab] at hj;rw[cx];refine((wC w D _ _ j).trans (hD j hj)).trans ?_;rw[if_pos hj]
     simp[fF]
     rfl)
    rw[lH,ab] at h;exact h
   obtain⟨l,hl⟩:=e_ (fF s.data.toList);rw[hl] at hconv;have HL:=h_ hl;clear hD hDs hl;go_wp2_with fail;go_ret;rw[HL.out];exact⟨rfl,by go_grown⟩


end Go.Proofs.YtjgeiieiinmdnaaGreatDoor
