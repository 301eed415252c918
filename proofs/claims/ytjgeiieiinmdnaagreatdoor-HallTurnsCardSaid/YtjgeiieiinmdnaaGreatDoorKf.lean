/- JdQ, JdR, JdS, JdT, JdU: put together by mergetpl.py. -/
import Derived.Lib.DecodeN
import Derived.Test.YtjgeiieiinmdnaaGreatDoorGh
import Derived.Test.YtjgeiieiinmdnaaGreatDoorKc
open Go.Proofs.Tryz
open Bool renaming and_eq_true→wt,and_eq_false_iff→wu
open Go.Lib renaming toList_data→ws
open List renaming getD→wh,getElem_map→wv,getElem_take→wy,map_map→wz,map_id→wA,map_congr_left→wB
open Nat renaming le_refl→wo,lt_or_ge→wq,mod_eq_of_lt→ww
namespace Go.Proofs.YtjgeiieiinmdnaaGreatDoor
set_option maxHeartbeats 4000000
set_option maxRecDepth 100000
open Go.Lib

def hdN (b:Nat):Nat×Nat:=if b<128 then (1,b) else if 192≤b∧b<224 then (2,b-192) else if 224≤b∧b<240 then (3,b-224) else if 240≤b∧b<248 then (4,b-240) else (0,0)
def nmN (sz h b1 b2 b3:Nat):Nat:=if sz=1 then h else if sz=2 then 64*h+b1 % 64 else if sz=3 then 64*(64*h+b1 % 64)+b2 % 64 else 64*(64*(64*h+b1 % 64)+b2 % 64)+b3 % 64
def byN (n:Nat):List Nat:=if n<128 then [n] else if n<2048 then [192+n / 64,128+n % 64] else if n<65536 then [224+n / 4096,128+n / 64 % 64,128+n % 64] else [240+n / 262144,128+n / 4096 % 64,128+n / 64 % 64,128+n % 64]
def okN (n b0 b1 b2 b3:Nat):Bool:=decide ((hdN b0).1≠0)&&decide ((hdN b0).1≤n)&&(dI (nmN (hdN b0).1 (hdN b0).2 b1 b2 b3)&&decide (byN (nmN (hdN b0).1 (hdN b0).2 b1 b2 b3)=[b0,b1,b2,b3].take (hdN b0).1))
theorem fZ (n:Nat) (h:dI n=true):n≤1114111∧(n<55296∨57343<n):=by
 unfold dI at h
 split at h
 ·omega
 ·simp only[wt,Bool.or_eq_true,decide_eq_true_eq] at h
  omega
theorem vA (n b0 b1 b2 b3 r k:Nat) (hn:1≤n) (h0:b0<256) (h1:b1<256) (h2:b2<256) (h3:b3<256) (h:decodeN n b0 b1 b2 b3=(r,k)):
  okN n b0 b1 b2 b3=!decide ((r=65533∧k=1)∨dI r=false)∧(okN n b0 b1 b2 b3=true→(hdN b0).1=k):=by
 unfold okN
 by_cases c1:b0<128
 ·have e1 : hdN b0 = (1, b0) := by unfold hdN; rw [if_pos c1]
  rw[e1]
  have e2:(r,k)=(b0,1):=by rw[←h];unfold decodeN;rw[if_pos c1]
  obtain⟨rfl,rfl⟩:=Prod.mk.inj e2
  have e3:nmN 1 r b1 b2 b3=r:=rfl
  have e4:byN r=[r]:=by unfold byN;rw[if_pos c1]
  have e5:r≠65533:=by omega
  simp[e3,e4,e5,hn]
 ·by_cases c2:192≤b0∧b0<224
  ·have e1 : hdN b0 = (2, b0 - 192) := by unfold hdN; rw [if_neg c1, if_pos c2]
   rw[e1]
   have e3:nmN 2 (b0-192) b1 b2 b3=64*(b0-192)+b1 % 64:=rfl
   rw[e3];obtain⟨m,hm⟩:=e_ (64*(b0-192)+b1 % 64);rw[hm]
   have e4:(byN m=[b0,b1])↔(128≤m∧128≤b1∧b1<192):=by
    unfold byN
    repeat' split
    all_goals simp
    all_goals omega
   have e5:[b0,b1,b2,b3].take 2=[b0,b1]:=rfl
   rw[e5]
   by_cases c3:2≤n∧128≤m∧128≤b1∧b1<192
   ·have e6:(r,k)=(m,2):=by
     rw[←h];unfold decodeN;rw[if_neg c1,if_pos (by omega),if_pos (by omega)]
     congr 1;omega
    obtain⟨rfl,rfl⟩:=Prod.mk.inj e6
    simp[e4,c3]
   ·have e6:(r,k)=(65533,1):=by
     rw[←h];unfold decodeN;rw[if_neg c1]
     split
     ·rw[if_neg (by omega)]
     ·rw[if_neg (by omega),if_neg (by omega)]
    obtain⟨rfl,rfl⟩:=Prod.mk.inj e6
    have:(decide (2≤n)&&(dI m&&decide (byN m=[b0,b1])))=false:=by
     simp only[wu,decide_eq_false_iff_not,e4]
     by_cases q:2≤n
     ·exact .inr (.inr (by omega))
     ·exact .inl q
    simp[this]
  ·by_cases c3:224≤b0∧b0<240
   ·have e1 : hdN b0 = (3, b0 - 224) := by unfold hdN; rw [if_neg c1, if_neg c2, if_pos c3]
    rw[e1]
    have e3:nmN 3 (b0-224) b1 b2 b3=64*(64*(b0-224)+b1 % 64)+b2 % 64:=rfl
    rw[e3];obtain⟨m,hm⟩:=e_ (64*(64*(b0-224)+b1 % 64)+b2 % 64);rw[hm]
    have e4:(byN m=[b0,b1,b2])↔(2048≤m∧128≤b1∧b1<192∧128≤b2∧b2<192):=by
     unfold byN
     repeat' split
     all_goals simp
     all_goals omega
    have e5:[b0,b1,b2,b3].take 3=[b0,b1,b2]:=rfl
    rw[e5]
    have e8:dI m=true→(m<55296∨57343<m):=fun q=>(fZ m q).2
    by_cases c4:3≤n∧2048≤m∧128≤b1∧b1<192∧128≤b2∧b2<192
    ·by_cases c5:m<55296∨57343<m
     ·have e6:(r,k)=(m,3):=by
       rw[←h];unfold decodeN;rw[if_neg c1,if_neg (by omega),if_pos (by omega),if_pos (by omega)]
       congr 1;omega
      obtain⟨rfl,rfl⟩:=Prod.mk.inj e6
      simp[e4,c4]
     ·have e6:(r,k)=(65533,1):=by
       rw[←h];unfold decodeN;rw[if_neg c1,if_neg (by omega),if_pos (by omega),if_neg (by omega)]
      obtain⟨rfl,rfl⟩:=Prod.mk.inj e6
      have e9:dI m=false:=by
       cases hq:dI m with
       | false=>rfl
       | true=>exact absurd (e8 hq) c5
      simp[e9]
    ·have e6:(r,k)=(65533,1):=by
      rw[←h];unfold decodeN;rw[if_neg c1,if_neg (by omega)]
      split
      ·rw[if_neg (by omega)]
      ·rw[if_neg (by omega)]
     obtain⟨rfl,rfl⟩:=Prod.mk.inj e6
     have:(decide (3≤n)&&(dI m&&decide (byN m=[b0,b1,b2])))=false:=by
      simp only[wu,decide_eq_false_iff_not,e4]
      by_cases q:3≤n
      ·exact .inr (.inr (by omega))
      ·exact .inl q
     simp[this]
   ·by_cases c4:240≤b0∧b0<248
    ·have e1 : hdN b0 = (4, b0 - 240) := by unfold hdN; rw [if_neg c1, if_neg c2, if_neg c3, if_pos c4]
     rw[e1]
     have e3:nmN 4 (b0-240) b1 b2 b3=64*(64*(64*(b0-240)+b1 % 64)+b2 % 64)+b3 % 64:=rfl
     rw[e3];obtain⟨m,hm⟩:=e_ (64*(64*(64*(b0-240)+b1 % 64)+b2 % 64)+b3 % 64);rw[hm]
     have e4:(byN m=[b0,b1,b2,b3])↔(65536≤m∧128≤b1∧b1<192∧128≤b2∧b2<192∧128≤b3∧b3<192):=by
      unfold byN
      repeat' split
      all_goals simp
      all_goals omega
     have e5:[b0,b1,b2,b3].take 4=[b0,b1,b2,b3]:=rfl
     rw[e5]
     have e8:dI m=true→m≤1114111:=fun q=>(fZ m q).1
     by_cases c5:4≤n∧65536≤m∧128≤b1∧b1<192∧128≤b2∧b2<192∧128≤b3∧b3<192
     ·by_cases c6:m≤1114111
      ·have e6:(r,k)=(m,4):=by
        rw[←h];unfold decodeN;rw[if_neg c1,if_neg (by omega),if_neg (by omega),if_pos (by omega),if_pos (by omega)]
        congr 1;omega
       obtain⟨rfl,rfl⟩:=Prod.mk.inj e6
       simp[e4,c5]
      ·have e6:(r,k)=(65533,1):=by
        rw[←h];unfold decodeN;rw[if_neg c1,if_neg (by omega),if_neg (by omega),if_pos (by omega),if_neg (by omega)]
       obtain⟨rfl,rfl⟩:=Prod.mk.inj e6
       have e9:dI m=false:=by
        cases hq:dI m with
        | false=>rfl
        | true=>exact absurd (e8 hq) c6
       simp[e9]
     ·have e6:(r,k)=(65533,1):=by
       rw[←h];unfold decodeN;rw[if_neg c1,if_neg (by omega),if_neg (by omega)]
       split
       ·rw[if_neg (by omega)]
       ·rfl
      obtain⟨rfl,rfl⟩:=Prod.mk.inj e6
      have:(decide (4≤n)&&(dI m&&decide (byN m=[b0,b1,b2,b3])))=false:=by
       simp only[wu,decide_eq_false_iff_not,e4]
       by_cases q:4≤n
       ·exact .inr (.inr (by omega))
       ·exact .inl q
      simp[this]
    ·have e1 : hdN b0 = (0, 0) := by unfold hdN; rw [if_neg c1, if_neg c2, if_neg c3, if_neg c4]
     rw[e1]
     have e6:(r,k)=(65533,1):=by
      rw[←h];unfold decodeN;rw[if_neg c1,if_neg (by omega),if_neg (by omega),if_neg (by omega)]
     obtain⟨rfl,rfl⟩:=Prod.mk.inj e6
     simp
def okL (l:List UInt8):Bool:=okN l.length (l.getD 0 0).toNat (l.getD 1 0).toNat (l.getD 2 0).toNat (l.getD 3 0).toNat
def szL (l:List UInt8):Nat:=(hdN (l.getD 0 0).toNat).1
theorem uJ (l:List UInt8) (h:l≠[]):txP l=(okL l&&txP (l.drop (szL l))):=by
 have hl:1≤l.length:=List.length_pos_iff.2 h;obtain⟨h1,h2⟩:=vA l.length _ _ _ _ (decodeL l).1 (decodeL l).2 hl (UInt8.toNat_lt (l.getD 0 0)) (UInt8.toNat_lt (l.getD 1 0)) (UInt8.toNat_lt (l.getD 2 0)) (UInt8.toNat_lt (l.getD 3 0)) (by rw[←decodeL_N])
 have e:okL l=okN l.length (l.getD 0 0).toNat (l.getD 1 0).toNat (l.getD 2 0).toNat (l.getD 3 0).toNat:=rfl
 rw[←e] at h1 h2;rw[jz l h]
 by_cases hb:((decodeL l).1=65533∧(decodeL l).2=1)∨dI (decodeL l).1=false
 ·rw[if_pos hb,h1,decide_eq_true hb]
  rfl
 ·rw[if_neg hb]
  rw[decide_eq_false hb] at h1;rw[h1,show szL l=(decodeL l).2 from h2 h1]
  rfl
theorem ur (l:List UInt8) (h:okL l=true):1≤szL l∧szL l≤l.length:=by
 unfold okL okN at h;simp only[wt,decide_eq_true_eq] at h;unfold szL
 omega
open Go.RowKit Go.Lib

theorem pu (n:Nat) (w:World):Calls prog 276 #[.int .i64 n] w fun e w'=>e=.returned (.bool (dI n))∧w'=w:=by
 obtain⟨m,hm⟩:=e_ (dI n);rw[hm];unfold dI at hm
 by_cases h32:n<32
 ·rw[if_pos h32] at hm
  have z4:((n:Int)<32)=True:=eq_true (by omega)
  by_cases h9:n=9
  ·subst h9
   subst hm;go_enter func276,ntmps276;go_wp2_with fail;go_ret;exact⟨rfl,rfl⟩
  ·by_cases h10:n=10
   ·subst h10
    subst hm;go_enter func276,ntmps276;go_wp2_with fail;go_ret;exact⟨rfl,rfl⟩
   ·by_cases h13:n=13
    ·subst h13
     subst hm;go_enter func276,ntmps276;go_wp2_with fail;go_ret;exact⟨rfl,rfl⟩
    ·obtain rfl : m = false := by rw [← hm]; simp; omega
     have z1:((n:Int)==9)=false:=beq_eq_false_iff_ne.2 (by omega)
     have z2:((n:Int)==10)=false:=beq_eq_false_iff_ne.2 (by omega)
     have z3:((n:Int)==13)=false:=beq_eq_false_iff_ne.2 (by omega)
     clear hm h9 h10 h13;go_enter func276,ntmps276;go_wp2_with fail;go_ret;exact⟨rfl,rfl⟩
 ·rw[if_neg h32] at hm
  have z4:((n:Int)<32)=False:=eq_false (by omega)
  by_cases h1:n≤1114111
  ·have z5:((n:Int)≤1114111)=True:=eq_true (by omega)
   by_cases h2:n<55296
   ·have z6:((n:Int)<55296)=True:=eq_true (by omega)
    have z1:((n:Int) != 65534)=true:=bne_iff_ne.2 (by omega)
    have z2:((n:Int) != 65535)=true:=bne_iff_ne.2 (by omega)
    obtain rfl:m=true:=by rw[←hm];simp;omega
    clear hm h1 h2 h32;go_enter func276,ntmps276;go_wp2_with fail;go_ret;exact⟨rfl,rfl⟩
   ·have z6:((n:Int)<55296)=False:=eq_false (by omega)
    by_cases h3:57343<n
    ·have z7:((57343:Int)<n)=True:=eq_true (by omega)
     by_cases h4:n=65534
     ·subst h4
      subst hm;go_enter func276,ntmps276;go_wp2_with fail;go_ret;exact⟨rfl,rfl⟩
     ·by_cases h5:n=65535
      ·subst h5
       subst hm;go_enter func276,ntmps276;go_wp2_with fail;go_ret;exact⟨rfl,rfl⟩
      ·have z1:((n:Int) != 65534)=true:=bne_iff_ne.2 (by omega)
       have z2:((n:Int) != 65535)=true:=bne_iff_ne.2 (by omega)
       obtain rfl:m=true:=by rw[←hm];simp;omega
       clear hm h4 h5 h1 h2 h3 h32;go_enter func276,ntmps276;go_wp2_with fail;go_ret;exact⟨rfl,rfl⟩
    ·have z7:((57343:Int)<n)=False:=eq_false (by omega)
     obtain rfl:m=false:=by rw[←hm];simp;omega
     clear hm;go_enter func276,ntmps276;go_wp2_with fail;go_ret;exact⟨rfl,rfl⟩
  ·have z5:((n:Int)≤1114111)=False:=eq_false (by omega)
   obtain rfl:m=false:=by rw[←hm];simp;omega
   clear hm;go_enter func276,ntmps276;go_wp2_with fail;go_ret;exact⟨rfl,rfl⟩
theorem tK (b:Nat) (hb:b<256) (w:World):Calls prog 275 #[.int .i64 b] w fun e w'=>e=.returned (.tuple #[.int .i64 (hdN b).1,.int .i64 (hdN b).2])∧w'=w:=by
 obtain⟨m,hm⟩:=e_ (hdN b);rw[hm];unfold hdN at hm
 by_cases h1:b<128
 ·rw[if_pos h1] at hm
  subst hm
  have z1:((b:Int)<128):=by omega
  go_enter func275,ntmps275;go_wp2_with fail;go_ret2;exact⟨rfl,rfl⟩
 ·rw[if_neg h1] at hm
  have z1:¬ ((b:Int)<128):=by omega
  by_cases h2:192≤b∧b<224
  ·rw[if_pos h2] at hm
   subst hm;have z2:((192:Int)≤b):=(by omega);have z3:((b:Int)<224):=(by omega);have e:((b-192:Nat):Int)=(b:Int)-192:=(by omega);go_enter func275,ntmps275;go_wp2_with fail;go_ret2;exact⟨by first | rfl | (rw[e];rfl),rfl⟩
  ·rw[if_neg h2] at hm
   by_cases h3:224≤b∧b<240
   ·rw[if_pos h3] at hm
    subst hm;have z2:((192:Int)≤b):=(by omega);have z3:¬ ((b:Int)<224):=(by omega);have z4:((224:Int)≤b):=(by omega);have z5:((b:Int)<240):=(by omega);have e:((b-224:Nat):Int)=(b:Int)-224:=(by omega);go_enter func275,ntmps275;go_wp2_with fail;go_ret2;exact⟨by first | rfl | (rw[e];rfl),rfl⟩
   ·rw[if_neg h3] at hm
    by_cases h4:240≤b∧b<248
    ·rw[if_pos h4] at hm
     subst hm;have z2:((192:Int)≤b):=(by omega);have z3:¬ ((b:Int)<224):=(by omega);have z4:((224:Int)≤b):=(by omega);have z5:¬ ((b:Int)<240):=(by omega);have z6:((240:Int)≤b):=(by omega);have z7:((b:Int)<248):=(by omega);have e:((b-240:Nat):Int)=(b:Int)-240:=(by omega);go_enter func275,ntmps275;go_wp2_with fail;go_ret2;exact⟨by first | rfl | (rw[e];rfl),rfl⟩
    ·rw[if_neg h4] at hm
     subst hm
     by_cases h5:b<192
     ·have z2 : ¬ ((192 : Int) ≤ b) := by omega
      have z4:¬ ((224:Int)≤b):=(by omega);have z6:¬ ((240:Int)≤b):=(by omega);go_enter func275,ntmps275;go_wp2_with fail;go_ret2;exact⟨rfl,rfl⟩
     ·have z2 : ((192 : Int) ≤ b) := by omega
      have z3:¬ ((b:Int)<224):=(by omega);have z4:((224:Int)≤b):=(by omega);have z5:¬ ((b:Int)<240):=(by omega);have z6:((240:Int)≤b):=(by omega);have z7:¬ ((b:Int)<248):=(by omega);go_enter func275,ntmps275;go_wp2_with fail;go_ret2;exact⟨rfl,rfl⟩

theorem vt {k:IntKind} {a b:Int} (h:a=b):Ending.returned (.int k a)=.returned (.int k b):=by rw[h]
theorem pO (n up:Nat) (hu:up≤2) (hn:n≤1114111) (w:World):Calls prog 283 #[.int .i64 n,.int .i64 up] w fun e w'=>e=.returned (.int .u8 (128+n / 64 ^ up % 64:Nat))∧w'=w:=by
 obtain⟨V,hV⟩:∃V:Int,((128+n / 64 ^ up % 64:Nat):Int)=V:=⟨_,rfl⟩;rw[hV];have HV:=h_ hV;clear hV;go_enter func283,ntmps283;go_wp2_with fail;go_loop [0,5] (fun a i=>∃k:Nat,k≤up∧i=.int .i64 k∧a=.int .i64 (n / 64 ^ k:Nat)) (fun _ i=>up-(intOf i).toNat)
 case atStart=>exact⟨0,Nat.zero_le _,rfl,by simp⟩
 case round=>
  obtain⟨k,hk,rfl,rfl⟩:=hrel;have hM:n / 64 ^ k≤n:=Nat.div_le_self _ _
  have hS:n / 64 ^ (k+1)=n / 64 ^ k / 64:=by rw[Nat.pow_succ,Nat.div_div_eq_div_mul]
  by_cases hlt:k<up
  ·obtain⟨M,xt⟩:=e_ (n / 64 ^ k)
   rw[xt] at hM hS ⊢;have g0:(0:Int)≤M:=(by omega);have g1:(M:Int)≤1114111:=(by omega);have HS:=h_ hS;clear hS xt;go_wp2_with fail;go_round
   case rel=>exact⟨k+1,by omega,by go_num,by rw[HS.out];go_num⟩
   case measure=>simp[intOf];omega
  ·obtain rfl : k = up := by omega
   obtain⟨M,xt⟩:=e_ (n / 64 ^ k);rw[xt] at hM ⊢;have g0:(0:Int)≤M:=(by omega);have g1:(M:Int)≤1114111:=(by omega);have HM:=h_ xt;clear hS xt;go_wp2_with fail;go_ret;exact⟨vt (by rw[←HV.out,HM.out];omega),rfl⟩
theorem sF (n:Nat) (hn:n≤1114111) (w:World):Calls prog 283 #[.int .i64 n,.int .i64 0] w fun e w'=>e=.returned (.int .u8 (128+n % 64:Nat))∧w'=w:=by
 have:=pO n 0 (by omega) hn w
 rwa [Nat.pow_zero,Nat.div_one] at this
theorem sI (n:Nat) (hn:n≤1114111) (w:World):Calls prog 283 #[.int .i64 n,.int .i64 1] w fun e w'=>e=.returned (.int .u8 (128+n / 64 % 64:Nat))∧w'=w:=by
 have:=pO n 1 (by omega) hn w
 rwa [Nat.pow_one] at this
theorem sA (n:Nat) (hn:n≤1114111) (w:World):Calls prog 283 #[.int .i64 n,.int .i64 2] w fun e w'=>e=.returned (.int .u8 (128+n / 4096 % 64:Nat))∧w'=w:=pO n 2 (by omega) hn w
def vM (w:World) (l:List Nat) (e:Ending) (w':World):Prop:=∃g,e=.returned (.slice (some ⟨g,0,none⟩) l.length l.length)∧Bl w w'∧∀j (h:j<l.length),w'.cell? ⟨g,j,none⟩=some (.int .u8 (l[j]:Nat))
theorem me (n:Nat) (hn:n≤1114111) (w:World):Calls prog 277 #[.int .i64 n] w (vM w (byN n)):=by
 obtain⟨l,hl⟩:=e_ (byN n);rw[hl];unfold byN at hl;have C0:=h_ (sF n hn);have C1:=h_ (sI n hn);have C2:=h_ (sA n hn)
 have g0:(0:Int)≤n:=by omega
 have g1:(n:Int)≤1114111:=by omega
 by_cases h1:n<128
 ·rw[if_pos h1] at hl
  subst hl
  have z1:(n:Int)<128:=by omega
  go_enter func277,ntmps277;go_wp2_with fail;go_ret;refine⟨w.heap.size,rfl,(bQ _).alloc (wo _) _,fun j h=>?_⟩
  match j,h with
  | 0,_=>simp
 ·rw[if_neg h1] at hl
  have z1:¬ (n:Int)<128:=by omega
  by_cases h2:n<2048
  ·rw[if_pos h2] at hl
   subst hl;have z2:(n:Int)<2048:=(by omega);clear C1 C2;go_enter func277,ntmps277;go_wp2_with fail;refine(C0.out _).mono ?_;rintro e w1 ⟨rfl,rfl⟩;go_wp2_with fail;go_ret;refine⟨w1.heap.size,rfl,(bQ _).alloc (wo _) _,fun j h=>?_⟩
   match j,h with
   | 0,_=>simp
   | 1,_=>simp
  ·rw[if_neg h2] at hl
   have z2:¬ (n:Int)<2048:=(by omega)
   by_cases h3:n<65536
   ·rw[if_pos h3] at hl
    subst hl;have z3:(n:Int)<65536:=(by omega);clear C2;go_enter func277,ntmps277;go_wp2_with fail;refine(C1.out _).mono ?_;rintro e w1 ⟨rfl,rfl⟩;go_wp2_with fail;refine(C0.out _).mono ?_;rintro e w2 ⟨rfl,rfl⟩;go_wp2_with fail;go_ret;refine⟨w2.heap.size,rfl,(bQ _).alloc (wo _) _,fun j h=>?_⟩
    match j,h with
    | 0,_=>simp
    | 1,_=>simp
    | 2,_=>simp
   ·rw[if_neg h3] at hl
    subst hl;have z3:¬ (n:Int)<65536:=(by omega);go_enter func277,ntmps277;go_wp2_with fail;refine(C2.out _).mono ?_;rintro e w1 ⟨rfl,rfl⟩;go_wp2_with fail;refine(C1.out _).mono ?_;rintro e w2 ⟨rfl,rfl⟩;go_wp2_with fail;refine(C0.out _).mono ?_;rintro e w3 ⟨rfl,rfl⟩;go_wp2_with fail;go_ret;refine⟨w3.heap.size,rfl,(bQ _).alloc (wo _) _,fun j h=>?_⟩
    match j,h with
    | 0,_=>simp
    | 1,_=>simp
    | 2,_=>simp
    | 3,_=>simp

theorem qB (b:Nat):(hdN b).1≤4∧((hdN b).1≠0→(hdN b).2<128):=by
 unfold hdN
 repeat' split
 all_goals constructor <;> intros <;> simp at * <;> omega
theorem tj (k h b1 b2 b3:Nat) (h1:1≤k) (h2:k<4):nmN (k+1) h b1 b2 b3=64*nmN k h b1 b2 b3+(if k=1 then b1 else if k=2 then b2 else b3) % 64:=by
 rcases wq k 2 with c | c
 ·obtain rfl : k = 1 := by omega
  rfl
 ·rcases wq k 3 with c' | c'
  ·obtain rfl : k = 2 := by omega
   rfl
  ·obtain rfl : k = 3 := by omega
   rfl
theorem vH (k h b1 b2 b3:Nat) (hh:h<128):nmN k h b1 b2 b3≤33554432:=by
 unfold nmN
 repeat' split
 all_goals omega
theorem sg (n:Nat) (h:n≤1114111):∀x∈byN n,x<256:=by
 unfold byN
 repeat' split
 all_goals simp
 all_goals omega
def byB (n:Nat):List UInt8:=(byN n).map UInt8.ofNat
theorem sj (n:Nat) (h:n≤1114111) (j:Nat) (hj:j<(byB n).length):((byB n)[j].toNat:Nat)=(byN n)[j]'(by simpa [byB] using hj):=by
 simp only[byB,wv,UInt8.toNat_ofNat'];exact ww (sg n h _ (List.getElem_mem _))
theorem vr (l:List UInt8) (k:Nat) (hk:k≤4) (hl:k≤l.length):(l.take k).map UInt8.toNat=[(l.getD 0 0).toNat,(l.getD 1 0).toNat,(l.getD 2 0).toNat,(l.getD 3 0).toNat].take k:=by
 apply List.ext_getElem
 ·simp;omega
 ·intro i h1 h2
  simp only[List.length_map,List.length_take] at h1
  have hi:i<l.length:=by omega
  have e:l.getD i 0=l[i]:=by simp[wh,hi]
  rw[wv,wy,wy]
  have h4:i<4:=by omega
  match i,h4 with
  | 0,_=>simp[wh,hi]
  | 1,_=>simp[wh,hi]
  | 2,_=>simp[wh,hi]
  | 3,_=>simp[wh,hi]
theorem uQ (n k:Nat) (l:List UInt8) (h:n≤1114111) (hk:k≤4) (hl:k≤l.length):(byB n=l.take k)↔byN n=[(l.getD 0 0).toNat,(l.getD 1 0).toNat,(l.getD 2 0).toNat,(l.getD 3 0).toNat].take k:=by
 rw[←vr l k hk hl]
 have e:(byB n).map UInt8.toNat=byN n:=by
  unfold byB;rw[wz]
  conv=>rhs;rw[←wA (byN n)]
  exact wB fun x hx=>by
   show (UInt8.ofNat x).toNat=x
   rw[UInt8.toNat_ofNat'];exact ww (sg n h x hx)
 constructor
 ·intro q
  rw[←e,q]
 ·intro q
  rw[←e] at q
  have back:∀a:List UInt8,(a.map UInt8.toNat).map UInt8.ofNat=a:=fun a=>by
   rw[wz]
   conv=>rhs;rw[←wA a]
   exact wB fun x _=>UInt8.ofNat_toNat
  rw[←back (byB n),q,back]
def vI (w:World) (k:Nat) (e:Ending) (w':World):Prop:=∃n:Int,e=.returned (.tuple #[.int .i64 n,.int .i64 k])∧Bl w w'
theorem wg (l:List UInt8) (sz hd:Nat) (hh:hdN (l.getD 0 0).toNat=(sz,hd)):(if okL l then szL l else 0)=
  if sz≠0∧sz≤l.length∧dI (nmN sz hd (l.getD 1 0).toNat (l.getD 2 0).toNat (l.getD 3 0).toNat)=true∧byN (nmN sz hd (l.getD 1 0).toNat (l.getD 2 0).toNat (l.getD 3 0).toNat)=[(l.getD 0 0).toNat,(l.getD 1 0).toNat,(l.getD 2 0).toNat,(l.getD 3 0).toNat].take sz then sz else 0:=by
 unfold okL okN szL;rw[hh];simp only[wt,decide_eq_true_eq,and_assoc]
theorem uI (s:ByteArray) (w:World) (hs:s.size≤10000) (h0:0<s.size):Calls prog 264 #[.string s] w (vI w (if okL s.data.toList then szL s.data.toList else 0)):=by
 obtain⟨b,hb⟩:∃b:Nat→Nat,b=fun i=>(s.data.toList.getD i 0).toNat:=⟨_,rfl⟩
 have xJ:∀i (h:i<s.size),s[i].toNat=b i:=fun i h=>by
  rw[hb]
  simp[wh,dp s i h]
 obtain⟨⟨sz,hd⟩,hh⟩:∃p:Nat×Nat,hdN (s.data.toList.getD 0 0).toNat=p:=⟨_,rfl⟩;have hK:=wg s.data.toList sz hd hh;rw[hK];clear hK;have hf:=qB (s.data.toList.getD 0 0).toNat;rw[hh] at hf;obtain⟨xN,xo⟩:=hf
 have xK:(s.data.toList.getD 0 0).toNat=s[0].toNat:=by rw[xJ 0 h0,hb]
 have C0:=fun w=>tK s[0].toNat (UInt8.toNat_lt _) w
 rw[←xK,hh,xK] at C0
 dsimp only at C0 xN xo
 obtain⟨nm,xu⟩:∃nm:Nat→Nat,nm=fun k=>nmN k hd (s.data.toList.getD 1 0).toNat (s.data.toList.getD 2 0).toNat (s.data.toList.getD 3 0).toNat:=⟨_,rfl⟩
 have xO:nm 1=hd:=by rw[xu];rfl
 have xP:∀k,1≤k→k<4→nm (k+1)=64*nm k+b k % 64:=fun k h1 h2=>by
  rw[xu,hb]
  show nmN (k+1) _ _ _ _=64*nmN k _ _ _ _+_
  rw[tj _ _ _ _ _ h1 h2]
  rcases wq k 2 with c | c
  ·obtain rfl : k = 1 := by omega
   rfl
  ·rcases wq k 3 with c' | c'
   ·obtain rfl : k = 2 := by omega
    rfl
   ·obtain rfl : k = 3 := by omega
    rfl
 have xQ:∀k,hd<128→nm k≤33554432:=fun k h=>by rw[xu];exact vH _ _ _ _ _ h
 have xw:nmN sz hd (s.data.toList.getD 1 0).toNat (s.data.toList.getD 2 0).toNat (s.data.toList.getD 3 0).toNat=nm sz:=by rw[xu]
 rw[xw];obtain⟨KK,xn⟩:∃KK:Nat,(if sz≠0∧sz≤s.data.toList.length∧dI (nm sz)=true∧byN (nm sz)=[(s.data.toList.getD 0 0).toNat,(s.data.toList.getD 1 0).toNat,(s.data.toList.getD 2 0).toNat,(s.data.toList.getD 3 0).toNat].take sz then sz else 0)=KK:=⟨_,rfl⟩;rw[xn];rw[ab] at xn;have C:=h_ C0;have yf:=h_ xJ;have xR:=h_ xP;have xS:=h_ xQ;have xT:=h_ xO;have g9:=s[0].toNat_lt;have xF:=ax h0
 have he:(s.toList==[])=false:=by simpa using xF
 clear C0 xJ xP xQ xO hb xu xw xK hh
 by_cases z0:sz=0
 ·subst z0
  rw[if_neg (by simp)] at xn;subst xn;clear xo;go_enter func264,ntmps264;go_wp2_with fail;refine(C.out _).mono ?_;rintro e w1 ⟨rfl,rfl⟩;go_wp2_with fail;go_ret2;exact⟨0,rfl,bQ _⟩
 ·have e0:((sz:Int)==0)=false:=beq_eq_false_iff_ne.2 (by omega)
  by_cases z1:s.size<sz
  ·rw[if_neg (by omega)] at xn
   subst xn;clear xo;go_enter func264,ntmps264;go_wp2_with fail;refine(C.out _).mono ?_;rintro e w1 ⟨rfl,rfl⟩;go_wp2_with fail;go_ret2;exact⟨0,rfl,bQ _⟩
  ·have g2:decide (s.size<sz)=false:=decide_eq_false z1
   have yg:=xo z0;have xU:=h_ xn;clear xn xo;go_enter func264,ntmps264;go_wp2_with fail;refine(C.out _).mono ?_;rintro e w1 ⟨rfl,rfl⟩;go_wp2_with fail;go_loop [5,6] (fun n i=>∃k:Nat,1≤k∧k≤sz∧i=.int .i64 k∧n=.int .i64 (nm k:Nat)) (fun _ i=>sz-(intOf i).toNat)
   case atStart=>exact⟨1,wo _,by omega,rfl,by rw[xT.out]⟩
   case round=>
    obtain⟨k,yh,hk,rfl,rfl⟩:=hrel;have xV:=xS.out k yg
    by_cases hlt:k<sz
    ·have hst:=xR.out k yh (by omega)
     have yi:k<s.size:=(by omega);have xW:=yf.out k yi;obtain⟨M,hM⟩:=e_ (nm k);rw[hM] at hst xV ⊢;rw[←xW] at hst;have yj:=h_ hst;clear hst hM xW;have g3:(0:Int)≤M:=(by omega);have g4:(M:Int)≤33554432:=(by omega);have g5:=s[k].toNat_lt;go_wp2_with fail;go_round
     case rel=>exact⟨k+1,by omega,by omega,by go_num,by rw[yj.out];go_num⟩
     case measure=>simp[intOf];omega
    ·obtain rfl : k = sz := by omega
     obtain⟨M,hM⟩:=e_ (nm k);have xn:=xU.out;rw[hM] at xV xn ⊢;clear hM xU xR xS xT;go_wp2_with fail
     cases hmay:dI M with
     | false=>
      rw[if_neg (fun h=>by rw[hmay] at h;exact absurd h.2.2.1 (by decide))] at xn;subst xn;refine wp_region_held_drew (S:=fun _=>True) (by kernel_rfl) trivial (fun hH=>?_);refine rS [(0,some 37)] ?_;refine aS ?_;refine rE ?_
      refine aC (i:=1) fun K hK=>?_
      go_simp;refine(pu M _).mono ?_;rintro e w1 ⟨rfl,rfl⟩;rw[hmay];go_simp;refine hK.out _ _ trivial (fun hH=>?_);clear hK K;refine rS [(2,some 39),(3,some 40)] ?_
      iterate 2 refine aS ?_
      refine rE ?_;refine rS [(4,some 41),(5,some 42),(6,some 43),(7,some 44),(8,some 45),(9,some 46),(10,some 47)] ?_
      iterate 7 refine aF ?_
      refine rE ?_;refine rS [(11,some 48)] ?_;refine aS ?_;refine rE ?_;refine aD ?_;go_wp2_with fail;go_ret2;exact⟨0,rfl,(bQ _).drew⟩
     | true=>
      have g6:k≤s.size:=(by omega);have xx:=(fZ M hmay).1;have xL:=uQ M k s.data.toList xx xN (by rw[ab];omega)
      have xq:(if byB M=s.data.toList.take k then k else 0)=KK:=by
       rw[←xn]
       by_cases hq:byB M=s.data.toList.take k
       ·rw[if_pos hq,if_pos ⟨z0,by omega,hmay,xL.1 hq⟩]
       ·rw[if_neg hq,if_neg (fun h=>hq (xL.2 h.2.2.2))]
      obtain⟨XB,xM⟩:∃XB:ByteArray,(⟨(byB M).toArray⟩:ByteArray)=XB:=⟨_,rfl⟩;have hx:(s.extract 0 k).toList=s.data.toList.take k:=(by rw[ws];simp);have hy:XB.toList=byB M:=(by rw[ws,←xM]);rw[←hx,←hy] at xq;have xX:=h_ xM;clear xn xL xM hx hy
      cases hq:(XB.toList==(s.extract 0 k).toList) with
      | true=>
       rw[if_pos (by simpa using hq)] at xq;subst xq;refine wp_region_held_drew (S:=fun _=>True) (by kernel_rfl) trivial (fun hH=>?_);refine rS [(0,some 37)] ?_;refine aS ?_;refine rE ?_
       refine aC (i:=1) fun K hK=>?_
       go_simp;refine(pu M _).mono ?_;rintro e w1 ⟨rfl,rfl⟩;rw[hmay];go_simp;refine hK.out _ _ trivial (fun hH=>?_);clear hK K;refine rS [(2,some 39),(3,some 40),(4,some 41),(7,some 44),(8,some 45),(9,some 46)] ?_
       iterate 6 refine aS ?_
       refine rE ?_
       refine aC (i:=5) fun K hK=>?_
       go_simp;refine(me M xx _).mono ?_;rintro e w2 ⟨g,rfl,q2,xy⟩;go_simp;refine hK.out _ _ trivial (fun hH=>?_);clear hK K
       refine aC (i:=6) fun K hK=>?_
       have xr:=run_convert_bytes_back (P:=prog) w2 194 9 5 ⟨g,0,none⟩ (byN M).length (byB M) underlying194 underlying5 underlying9 (fun j hj=>by rw[sj M xx j hj];have:=xy j (by simpa [byB] using hj);cases j <;> simpa [Addr.add] using this)
       rw[show (byB M).length=(byN M).length by simp[byB]] at xr;rw[xX.out] at xr;go_simp;refine hK.out _ _ trivial (fun hH=>?_);clear hK K xr;refine rS [(10,some 47),(11,some 48)] ?_
       iterate 2 refine aS ?_
       refine rE ?_;refine aD ?_;have q3:=((bR w1).drew).trans q2;clear q2 xy;go_wp2_with fail;go_ret2;exact⟨_,rfl,q3⟩
      | false=>
       rw[if_neg (by simpa using hq)] at xq;subst xq;refine wp_region_held_drew (S:=fun _=>True) (by kernel_rfl) trivial (fun hH=>?_);refine rS [(0,some 37)] ?_;refine aS ?_;refine rE ?_
       refine aC (i:=1) fun K hK=>?_
       go_simp;refine(pu M _).mono ?_;rintro e w1 ⟨rfl,rfl⟩;rw[hmay];go_simp;refine hK.out _ _ trivial (fun hH=>?_);clear hK K;refine rS [(2,some 39),(3,some 40),(4,some 41),(7,some 44),(8,some 45),(9,some 46)] ?_
       iterate 6 refine aS ?_
       refine rE ?_
       refine aC (i:=5) fun K hK=>?_
       go_simp;refine(me M xx _).mono ?_;rintro e w2 ⟨g,rfl,q2,xy⟩;go_simp;refine hK.out _ _ trivial (fun hH=>?_);clear hK K
       refine aC (i:=6) fun K hK=>?_
       have xr:=run_convert_bytes_back (P:=prog) w2 194 9 5 ⟨g,0,none⟩ (byN M).length (byB M) underlying194 underlying5 underlying9 (fun j hj=>by rw[sj M xx j hj];have:=xy j (by simpa [byB] using hj);cases j <;> simpa [Addr.add] using this)
       rw[show (byB M).length=(byN M).length by simp[byB]] at xr;rw[xX.out] at xr;go_simp;refine hK.out _ _ trivial (fun hH=>?_);clear hK K xr;refine rS [(10,some 47),(11,some 48)] ?_
       iterate 2 refine aS ?_
       refine rE ?_;refine aD ?_;have q3:=((bR w1).drew).trans q2;clear q2 xy;go_wp2_with fail;go_ret2;exact⟨0,rfl,q3⟩

def vp (w:World) (b:Bool) (e:Ending) (w':World):Prop:=∃v,e=.returned (.tuple #[v,.bool b])∧Bl w w'
theorem uU (s:ByteArray) (w:World) (hs:s.size≤10000):Calls prog 235 #[.string s] w (vp w (txP s.data.toList)):=by
 obtain⟨i0,hi,xY,xZ,xz⟩:=info_parts kP;obtain⟨O,hO⟩:=e_ (txP s.data.toList);rw[hO];have HO:=h_ hO;clear hO;go_enter func235,ntmps235;go_wp2_with fail;go_loopw [0,4] (fun t v wx=>∃(r:ByteArray) (n:Nat) (xs:List Value),r.size+n≤s.size∧t=.string r∧txP r.data.toList=O∧wx.ownsRow w.heap.size 3 1 v n xs∧Bl w wx) (fun t _ _=>so t)
 case atStart=>exact⟨s,0,[],by omega,rfl,HO.out,World.ownsRow_nil _ _ _ _,bQ _⟩
 case round=>
  obtain⟨r,n,xs,yo,rfl,xp,xH,xA⟩:=hrel;have xw:=xA.size
  by_cases h0:0<r.size
  ·have xF:=ax h0
   have xB:r.data.toList≠[]:=(by rw[←ws];exact xF);have he:(r.toList==[])=false:=(by simpa using xF);have C:=uI r wr (by omega) h0;rw[uJ _ xB] at xp;have xG:=ur r.data.toList;rw[ab] at xG
   cases hk:okL r.data.toList with
   | false=>
    rw[hk,if_neg (by decide)] at C;rw[hk,Bool.false_and] at xp;have CH:=h_ C;subst xp;clear C xB xG hk;go_wp2_with fail;refine CH.out.mono ?_;rintro e w1 ⟨m,rfl,hb⟩;go_wp2_with fail;go_ret2;exact⟨_,rfl,xA.trans (hb.mono xw)⟩
   | true=>
    obtain⟨k1,k2⟩:=xG hk;rw[hk,if_pos rfl] at C;rw[hk,Bool.true_and] at xp;obtain⟨K,hK⟩:=e_ (szL r.data.toList);rw[hK] at C xp k1 k2;rw[←ef] at xp
    have e0:((K:Int)==0)=false:=beq_eq_false_iff_ne.2 (by omega)
    have yd:(r.extract K r.size).size=r.size-K:=(by rw[←ab,ef,List.length_drop,ab]);have CH:=h_ C;have HT:=h_ xp;have ye:=h_ yd;clear C xp xB xG hk hK yd;go_wp2_with fail;refine CH.out.mono ?_;rintro e w1 ⟨m,rfl,hb⟩;have xC:=aQ xH hb;have xD:=xA.trans (hb.mono xw);have yn:=xD.size;clear hb xH xA;go_wp2_with (at_builtin;refine bw rfl _ _ 202 rfl w.heap.size 3 i0 (.int .i64 0) 8 underlying202 hi xY xZ xz rfl _ _ _ rfl xC (.int .i64 m) rfl rfl (by omega) (by omega) (by omega) ?_;intro v' w2 xE xI);have yk:=xI _ xD;have yl:=h_ xE;clear xE xI xC xD hi xY xZ xz;go_wp2_with fail;go_roundw
    case rel=>exact⟨r.extract K r.size,n+1,_,by rw[ye.out];omega,rfl,HT.out,yl.out,yk⟩
    case measure=>simp only[so];rw[ye.out];omega
  ·have hz:r.data.toList=[]:=List.eq_nil_of_length_eq_zero (by rw[ab];omega)
   have xz:r.toList=[]:=(by rw[ws];exact hz);have yp:(r.toList==[])=true:=(by rw[xz];rfl);rw[hz,lW] at xp;subst xp;clear hz xz;go_wp2_with fail;go_ret2;exact⟨_,rfl,xA⟩
theorem qd (s:ByteArray) (w:World) (hs:s.size≤10000):Calls prog 200 #[.string s] w (Ret w (.bool (txP s.data.toList))):=by
 have C:=h_ (uU s w hs);obtain⟨O,hO⟩:=e_ (txP s.data.toList);rw[hO] at C ⊢;go_enter func200,ntmps200;go_wp2_with fail;refine C.out.mono ?_;rintro e w1 ⟨v,rfl,hb⟩;go_wp2_with fail;go_ret;exact⟨rfl,hb⟩
end Go.Proofs.YtjgeiieiinmdnaaGreatDoor
