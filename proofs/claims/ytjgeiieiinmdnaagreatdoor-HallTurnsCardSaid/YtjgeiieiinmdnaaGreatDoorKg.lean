/- JdX, JdY, JdV, JdZ: put together by mergetpl.py. -/
import Derived.Test.YtjgeiieiinmdnaaGreatDoorKf
import Derived.Test.YtjgeiieiinmdnaaGreatDoorKe
open Go.Proofs.Tryz
open Bool renaming true_and→ws,false_and→wv,and_true→wB,and_eq_true→wC
open Go.Lib renaming toList_data→wq
open List renaming take_of_length_le→wu,take_append_drop→ww,all_append→wy,eq_nil_of_length_eq_zero→wz,length→wA,isEmpty_iff→wD
open Nat renaming le_refl→wh,le_succ→wo,zero_le→wt
namespace Go.Proofs.YtjgeiieiinmdnaaGreatDoor
set_option maxHeartbeats 4000000
set_option maxRecDepth 100000
open Go.RowKit Go.Lib

theorem kG (c:UInt8) (w:World):Calls prog 243 #[.int .u8 (c.toNat:Int)] w fun e w'=>e=.returned (.bool (jdA c))∧w'=w:=by
 have hc:=c.toNat_lt
 have hj:jdA c=((decide (97≤c.toNat)&&decide (c.toNat≤122))||(decide (48≤c.toNat)&&decide (c.toNat≤57))):=rfl
 rw[hj];obtain⟨n,hn⟩:=e_ c.toNat;rw[hn] at hc ⊢;clear hj hn
 by_cases h1:97≤n
 ·by_cases h2:n≤122
  ·rw[show ((decide (97≤n)&&decide (n≤122))||(decide (48≤n)&&decide (n≤57)))=true by simp;omega]
   have g0:((97:Int)≤n)=True:=eq_true (by omega)
   have g1:((n:Int)≤122)=True:=eq_true (by omega)
   go_enter func243,ntmps243;go_wp2_with fail;go_ret;exact⟨by first | rfl | (apply cD;simp;omega),rfl⟩
  ·rw[show ((decide (97≤n)&&decide (n≤122))||(decide (48≤n)&&decide (n≤57)))=false by simp;omega]
   have g0:((97:Int)≤n)=True:=eq_true (by omega)
   have g1:((n:Int)≤122)=False:=eq_false (by omega)
   have g2:((48:Int)≤n)=True:=eq_true (by omega)
   have g3:((n:Int)≤57)=False:=eq_false (by omega)
   go_enter func243,ntmps243;go_wp2_with fail;go_ret;exact⟨by first | rfl | (apply cD;simp;omega),rfl⟩
 ·by_cases h3:48≤n
  ·by_cases h4:n≤57
   ·rw[show ((decide (97≤n)&&decide (n≤122))||(decide (48≤n)&&decide (n≤57)))=true by simp;omega]
    have g0:((97:Int)≤n)=False:=eq_false (by omega)
    have g1:((48:Int)≤n)=True:=eq_true (by omega)
    have g2:((n:Int)≤57)=True:=eq_true (by omega)
    go_enter func243,ntmps243;go_wp2_with fail;go_ret;exact⟨by first | rfl | (apply cD;simp;omega),rfl⟩
   ·rw[show ((decide (97≤n)&&decide (n≤122))||(decide (48≤n)&&decide (n≤57)))=false by simp;omega]
    have g0:((97:Int)≤n)=False:=eq_false (by omega)
    have g1:((48:Int)≤n)=True:=eq_true (by omega)
    have g2:((n:Int)≤57)=False:=eq_false (by omega)
    go_enter func243,ntmps243;go_wp2_with fail;go_ret;exact⟨by first | rfl | (apply cD;simp;omega),rfl⟩
  ·rw[show ((decide (97≤n)&&decide (n≤122))||(decide (48≤n)&&decide (n≤57)))=false by simp;omega]
   have g0:((97:Int)≤n)=False:=eq_false (by omega)
   have g1:((48:Int)≤n)=False:=eq_false (by omega)
   go_enter func243,ntmps243;go_wp2_with fail;go_ret;exact⟨by first | rfl | (apply cD;simp;omega),rfl⟩
theorem iH {q:UInt8→Bool} (s:ByteArray) (k:Nat) (hlt:k<s.size) (h:q s[k]=false):s.data.toList.all q=false:=by
 rw[←ww (k+1) s.data.toList,wy,cK s k hlt,wy]
 simp[h]
theorem bi {q:UInt8→Bool} (s:ByteArray) (k:Nat) (hlt:k<s.size) (h:(s.data.toList.take k).all q=true) (hq:q s[k]=true):(s.data.toList.take (k+1)).all q=true:=by
 rw[cK s k hlt,wy,h]
 simp[hq]
theorem uO (c:UInt8) (n:Nat) (h:c.toNat=n) (hn:n<256):c=UInt8.ofNat n:=by
 apply UInt8.toNat_inj.1
 rw[h,UInt8.toNat_ofNat'];exact(Nat.mod_eq_of_lt hn).symm
theorem mE (c:UInt8) (h:c.toNat=46):jdL c=true∧jdD c=true∧jdA c=false:=by
 rw[uO c 46 h (by omega)];decide
theorem pt (c:UInt8) (h:c.toNat=45):jdL c=true∧jdD c=true∧jdA c=false:=by
 rw[uO c 45 h (by omega)];decide
theorem uo (c:UInt8) (h:c.toNat=95):jdL c=true∧jdA c=false:=by
 rw[uO c 95 h (by omega)];decide
theorem sf (c:UInt8) (h:jdA c=false) (h1:c.toNat≠46) (h2:c.toNat≠45):jdD c=false∧(c.toNat≠95→jdL c=false):=by
 have e1:(c==46)=false:=beq_eq_false_iff_ne.2 (fun e=>h1 (by rw[e];rfl))
 have e2:(c==45)=false:=beq_eq_false_iff_ne.2 (fun e=>h2 (by rw[e];rfl))
 have d:jdD c=false:=by unfold jdD;rw[h,e1,e2];rfl
 refine⟨d,fun h3=>?_⟩
 have e3:(c==95)=false:=beq_eq_false_iff_ne.2 (fun e=>h3 (by rw[e];rfl))
 unfold jdL;rw[d,e3];rfl
theorem tE (c:UInt8) (h:jdA c=true):jdD c=true∧jdL c=true:=by
 have d:jdD c=true:=by unfold jdD;rw[h];rfl
 exact⟨d,sh c d⟩
theorem uM (c:UInt8) (h:jdA c=true):c.toNat≠46:=fun e=>by have:=(mE c e).2.2;rw[h] at this;cases this
theorem fF:∀(l:List UInt8) (c:UInt8),bp (l++[c])=(bp l||(!l.isEmpty&&(l.getLastD 0==46&&c==46)))
 | [],_=>rfl
 | [a],c=>by simp[bp]
 | a :: b :: l,c=>by
  show (_||bp ((b :: l)++[c]))=((_||bp (b :: l))||_)
  rw[fF (b :: l) c,Bool.or_assoc]
  congr 2
theorem oV (l r:List UInt8) (h:bp l=true):bp (l++r)=true:=by
 induction r generalizing l with
 | nil=>rwa [List.append_nil]
 | cons a r ih=>
  rw[List.append_cons];exact ih _ (by rw[fF,h];rfl)
theorem oR (s:ByteArray) (k:Nat) (hlt:k<s.size):bp (s.data.toList.take (k+1))=(bp (s.data.toList.take k)||(decide (0<k)&&(s[k-1]'(by omega)==46&&s[k]==46))):=by
 rw[cK s k hlt,fF]
 congr 1
 cases k with
 | zero=>rfl
 | succ j=>
  have hj:j<s.size:=by omega
  rw[cK s j hj]
  have e1:(s.data.toList.take j++[s[j]]).isEmpty=false:=by simp
  have e2:(s.data.toList.take j++[s[j]]).getLastD 0=s[j]:=by simp[List.getLastD_eq_getLast?]
  rw[e1,e2,decide_eq_true (Nat.succ_pos j)]
  rfl
theorem nM (s:ByteArray) (w:World) (hs:s.size≤10000):Calls prog 208 #[.string s] w fun e w'=>e=.returned (.bool (gX s.data.toList))∧w'=w:=by
 have P:=h_ kG;obtain⟨O,hO⟩:=e_ (gX s.data.toList);rw[hO];have HO:=h_ hO;clear hO;go_enter func208,ntmps208;go_wp2_with fail;go_loop [3] (fun i=>∃k:Nat,k≤s.size∧i=.int .i64 k∧(s.data.toList.take k).all jdL=true) (fun i=>s.size-(intOf i).toNat)
 case atStart=>exact⟨0,wt _,rfl,rfl⟩
 case round=>
  obtain⟨k,hk,rfl,xn⟩:=hrel
  by_cases hlt:k<s.size
  ·have hc:=s[k].toNat_lt
   have P1:=fun w=>P.out s[k] w
   cases hA:jdA s[k] with
   | true=>
    rw[hA] at P1
    have hL:jdL s[k]=true:=(tE _ hA).2
    have HS:=h_ (bi s k hlt xn hL);have PH:=h_ P1;clear P1 hL hA xn
    (try clear h1)
    (try clear h2)
    (try clear h3)
    go_wp2_with fail;refine(PH.out _).mono ?_;rintro e w1 ⟨rfl,rfl⟩;go_wp2_with fail;go_round
    case rel=>exact⟨k+1,by omega,by go_num,HS.out⟩
    case measure=>simp[intOf];omega
   | false=>
    rw[hA] at P1
    by_cases h1:s[k].toNat=46
    ·have hL:jdL s[k]=true:=(mE _ h1).1
     have HS:=h_ (bi s k hlt xn hL)
     have xy:((s[k].toNat:Int)==46)=true:=beq_iff_eq.2 (by omega)
     have xF:((s[k].toNat:Int) != 46)=false:=(by unfold bne;rw[xy];rfl);have PH:=h_ P1;clear P1 hL hA xn
     (try clear h1)
     (try clear h2)
     (try clear h3)
     go_wp2_with fail;refine(PH.out _).mono ?_;rintro e w1 ⟨rfl,rfl⟩;go_wp2_with fail;go_round
     case rel=>exact⟨k+1,by omega,by go_num,HS.out⟩
     case measure=>simp[intOf];omega
    ·by_cases h2:s[k].toNat=45
     ·have hL:jdL s[k]=true:=(pt _ h2).1
      have HS:=h_ (bi s k hlt xn hL)
      have xy:((s[k].toNat:Int)==46)=false:=beq_eq_false_iff_ne.2 (by omega)
      have xF:((s[k].toNat:Int) != 46)=true:=(by unfold bne;rw[xy];rfl)
      have xG:((s[k].toNat:Int)==45)=true:=beq_iff_eq.2 (by omega)
      have xJ:((s[k].toNat:Int) != 45)=false:=(by unfold bne;rw[xG];rfl);have PH:=h_ P1;clear P1 hL hA xn
      (try clear h1)
      (try clear h2)
      (try clear h3)
      go_wp2_with fail;refine(PH.out _).mono ?_;rintro e w1 ⟨rfl,rfl⟩;go_wp2_with fail;go_round
      case rel=>exact⟨k+1,by omega,by go_num,HS.out⟩
      case measure=>simp[intOf];omega
     ·by_cases h3:s[k].toNat=95
      ·have hL:jdL s[k]=true:=(uo _ h3).1
       have HS:=h_ (bi s k hlt xn hL)
       have xy:((s[k].toNat:Int)==46)=false:=beq_eq_false_iff_ne.2 (by omega)
       have xF:((s[k].toNat:Int) != 46)=true:=(by unfold bne;rw[xy];rfl)
       have xG:((s[k].toNat:Int)==45)=false:=beq_eq_false_iff_ne.2 (by omega)
       have xJ:((s[k].toNat:Int) != 45)=true:=(by unfold bne;rw[xG];rfl)
       have xP:((s[k].toNat:Int)==95)=true:=beq_iff_eq.2 (by omega)
       have xW:((s[k].toNat:Int) != 95)=false:=(by unfold bne;rw[xP];rfl);have PH:=h_ P1;clear P1 hL hA xn
       (try clear h1)
       (try clear h2)
       (try clear h3)
       go_wp2_with fail;refine(PH.out _).mono ?_;rintro e w1 ⟨rfl,rfl⟩;go_wp2_with fail;go_round
       case rel=>exact⟨k+1,by omega,by go_num,HS.out⟩
       case measure=>simp[intOf];omega
      ·have hn : O = false := by rw [← HO.out]; unfold gX; rw [iH s k hlt ((sf _ hA h1 h2).2 h3)]; simp
       subst hn
       have xy:((s[k].toNat:Int)==46)=false:=beq_eq_false_iff_ne.2 (by omega)
       have xF:((s[k].toNat:Int) != 46)=true:=(by unfold bne;rw[xy];rfl)
       have xG:((s[k].toNat:Int)==45)=false:=beq_eq_false_iff_ne.2 (by omega)
       have xJ:((s[k].toNat:Int) != 45)=true:=(by unfold bne;rw[xG];rfl)
       have xP:((s[k].toNat:Int)==95)=false:=beq_eq_false_iff_ne.2 (by omega)
       have xW:((s[k].toNat:Int) != 95)=true:=(by unfold bne;rw[xP];rfl);have PH:=h_ P1;clear P1 hA xn h1 h2 h3;go_wp2_with fail;refine(PH.out _).mono ?_;rintro e w1 ⟨rfl,rfl⟩;go_wp2_with fail;go_ret;exact⟨rfl,rfl⟩
  ·have xK:s.data.toList.all jdL=true:=by
    rw[wu (by rw[ab];omega)] at xn;exact xn
   have hO:=HO.out;unfold gX at hO;rw[xK,ab,wB] at hO;clear HO xK xn
   by_cases h0:0<s.size
   ·have e3 : s.data.toList.isEmpty = false := by rw [← wq]; exact ao h0
    rw[e3] at hO;have g0:1≤s.size:=h0;clear e3
    by_cases h64:s.size≤64
    ·rw[decide_eq_true h64] at hO
     subst hO;have g1:((1:Int)≤s.size):=(by omega);have g2:((s.size:Int)≤64):=(by omega);go_wp2_with fail;go_ret;exact⟨rfl,rfl⟩
    ·rw[decide_eq_false h64] at hO
     subst hO;have g1:((1:Int)≤s.size):=(by omega);have g2:¬ ((s.size:Int)≤64):=(by omega);go_wp2_with fail;go_ret;exact⟨rfl,rfl⟩
   ·obtain rfl:s=⟨#[]⟩:=aW (wz (by rw[ab];omega))
    have:O=false:=(by rw[←hO];rfl);subst this;clear hO h0;go_wp2_with fail;go_ret;exact⟨rfl,rfl⟩
theorem nD (s:ByteArray) (w:World) (hs:s.size≤10000):Calls prog 207 #[.string s] w fun e w'=>e=.returned (.bool (eZ s.data.toList))∧w'=w:=by
 have P:=h_ kG;obtain⟨O,hO⟩:=e_ (eZ s.data.toList);rw[hO]
 by_cases h0:0<s.size
 ·have e3 : s.data.toList.isEmpty = false := by rw [← wq]; exact ao h0
  have g0:¬ ((s.size:Int)<1):=by omega
  unfold eZ at hO;rw[e3,ab,kh s h0,kU s h0] at hO;clear e3
  by_cases h64:s.size≤64
  ·rw[decide_eq_true h64] at hO
   have g1:¬ ((64:Int)<s.size):=(by omega);have hl:s.size-1<s.size:=(by omega);have xQ:((s.size:Int)-1)=((s.size-1:Nat):Int):=(by omega)
   have P1:=fun w=>P.out s[0] w
   have P2:=fun w=>P.out (s[s.size-1]'hl) w
   cases ha:jdA s[0] with
   | false=>
    have:O=false:=(by rw[←hO,ha];simp);subst this;rw[ha] at P1;have PH:=h_ P1;clear P1 P2 hO ha xQ;go_enter func207,ntmps207;go_wp2_with fail;refine(PH.out _).mono ?_;rintro e w1 ⟨rfl,rfl⟩;go_wp2_with fail;go_ret;exact⟨rfl,rfl⟩
   | true=>
    rw[ha] at P1;have PH:=h_ P1
    cases hb:jdA (s[s.size-1]'hl) with
    | false=>
     have:O=false:=(by rw[←hO,hb];simp);subst this;rw[hb] at P2;have xR:=h_ P2;clear P1 P2 hO ha hb;go_enter func207,ntmps207;go_wp2_with fail;refine(PH.out _).mono ?_;rintro e w1 ⟨rfl,rfl⟩;go_wp2_with fail;refine(xR.out _).mono ?_;rintro e w1 ⟨rfl,rfl⟩;go_wp2_with fail;go_ret;exact⟨rfl,rfl⟩
    | true=>
     rw[hb] at P2;have xR:=h_ P2;rw[ha,hb] at hO
     have HO:Hid ((s.data.toList.all jdD&&!bp s.data.toList)=O):=h_ (by rw[←hO];simp)
     clear P1 P2 hO ha hb;go_enter func207,ntmps207;go_wp2_with fail;refine(PH.out _).mono ?_;rintro e w1 ⟨rfl,rfl⟩;go_wp2_with fail;refine(xR.out _).mono ?_;rintro e w1 ⟨rfl,rfl⟩;go_wp2_with fail;clear xQ;go_loop [3] (fun i=>∃k:Nat,k≤s.size∧i=.int .i64 k∧(s.data.toList.take k).all jdD=true∧bp (s.data.toList.take k)=false) (fun i=>s.size-(intOf i).toNat)
     case atStart=>exact⟨0,wt _,rfl,rfl,rfl⟩
     case round=>
      obtain⟨k,hk,rfl,xn,xz⟩:=hrel
      by_cases hlt:k<s.size
      ·have hc:=s[k].toNat_lt
       have P1:=fun w=>P.out s[k] w
       have xB:=oR s k hlt;rw[xz,Bool.false_or] at xB
       cases hA:jdA s[k] with
       | true=>
        rw[hA] at P1;have xH:=uM _ hA
        have xC:(s[k]==46)=false:=beq_eq_false_iff_ne.2 (fun e=>xH (by rw[e];rfl))
        by_cases hk0:0<k
        ·have gk : (0 : Int) < k := by omega
         have hD:jdD s[k]=true:=(tE _ hA).1
         have HS:=h_ (bi s k hlt xn hD)
         have xA:bp (s.data.toList.take (k+1))=false:=xB.trans (by rw[xC];simp)
         have HD:=h_ xA;clear hD xA
         have xy:((s[k].toNat:Int)==46)=false:=beq_eq_false_iff_ne.2 (by omega)
         have xF:((s[k].toNat:Int) != 46)=true:=(by unfold bne;rw[xy];rfl);have PH:=h_ P1;clear P1 hA xn xz xB
         (try clear h1)
         (try clear h2)
         (try clear xH)
         (try clear xC)
         (try clear r46)
         go_wp2_with fail;refine(PH.out _).mono ?_;rintro e w1 ⟨rfl,rfl⟩;go_wp2_with fail;go_round
         case rel=>exact⟨k+1,by omega,by go_num,HS.out,HD.out⟩
         case measure=>simp[intOf];omega
        ·have gk:((0:Int)<(k:Int))=False:=eq_false (by omega)
         have hD:jdD s[k]=true:=(tE _ hA).1
         have HS:=h_ (bi s k hlt xn hD)
         have xA:bp (s.data.toList.take (k+1))=false:=xB.trans (by rw[xC];simp)
         have HD:=h_ xA;clear hD xA
         have xy:((s[k].toNat:Int)==46)=false:=beq_eq_false_iff_ne.2 (by omega)
         have xF:((s[k].toNat:Int) != 46)=true:=(by unfold bne;rw[xy];rfl);have PH:=h_ P1;clear P1 hA xn xz xB
         (try clear h1)
         (try clear h2)
         (try clear xH)
         (try clear xC)
         (try clear r46)
         go_wp2_with fail;refine(PH.out _).mono ?_;rintro e w1 ⟨rfl,rfl⟩;go_wp2_with fail;go_round
         case rel=>exact⟨k+1,by omega,by go_num,HS.out,HD.out⟩
         case measure=>simp[intOf];omega
       | false=>
        rw[hA] at P1
        by_cases h1:s[k].toNat=46
        ·have xC:(s[k]==46)=true:=beq_iff_eq.2 (uO _ 46 h1 (by omega))
         by_cases hk0:0<k
         ·have gk : (0 : Int) < k := by omega
          have xL:k-1<s.size:=(by omega);have xQ:((k:Int)-1)=((k-1:Nat):Int):=(by omega)
          by_cases h2:(s[k-1]'xL).toNat=46
          ·have r46:(s[k-1]'xL==46)=true:=beq_iff_eq.2 (uO _ 46 h2 (by omega))
           have hn:O=false:=by
            rw[←HO.out]
            have:bp s.data.toList=true:=by
             rw[←ww (k+1) s.data.toList];exact oV _ _ (by rw[xB,r46,xC,decide_eq_true hk0];rfl)
            rw[this];simp
           subst hn
           have xy:((s[k].toNat:Int)==46)=true:=beq_iff_eq.2 (by omega)
           have xF:((s[k].toNat:Int) != 46)=false:=(by unfold bne;rw[xy];rfl)
           have xX:(((s[k-1]'xL).toNat:Int)==46)=true:=beq_iff_eq.2 (by omega)
           have PH:=h_ P1;clear P1 hA xn xz xB
           (try clear h1)
           (try clear h2)
           (try clear xH)
           (try clear xC)
           (try clear r46)
           go_wp2_with fail;refine(PH.out _).mono ?_;rintro e w1 ⟨rfl,rfl⟩;go_wp2_with fail;go_ret;exact⟨rfl,rfl⟩
          ·have r46:(s[k-1]'xL==46)=false:=beq_eq_false_iff_ne.2 (fun e=>h2 (by rw[e];rfl))
           have xX:(((s[k-1]'xL).toNat:Int)==46)=false:=beq_eq_false_iff_ne.2 (by omega)
           have hD:jdD s[k]=true:=(mE _ h1).2.1
           have HS:=h_ (bi s k hlt xn hD)
           have xA:bp (s.data.toList.take (k+1))=false:=xB.trans (by rw[r46];simp)
           have HD:=h_ xA;clear hD xA
           have xy:((s[k].toNat:Int)==46)=true:=beq_iff_eq.2 (by omega)
           have xF:((s[k].toNat:Int) != 46)=false:=(by unfold bne;rw[xy];rfl);have PH:=h_ P1;clear P1 hA xn xz xB
           (try clear h1)
           (try clear h2)
           (try clear xH)
           (try clear xC)
           (try clear r46)
           go_wp2_with fail;refine(PH.out _).mono ?_;rintro e w1 ⟨rfl,rfl⟩;go_wp2_with fail;go_round
           case rel=>exact⟨k+1,by omega,by go_num,HS.out,HD.out⟩
           case measure=>simp[intOf];omega
         ·have gk:((0:Int)<(k:Int))=False:=eq_false (by omega)
          have hD:jdD s[k]=true:=(mE _ h1).2.1
          have HS:=h_ (bi s k hlt xn hD)
          have xA:bp (s.data.toList.take (k+1))=false:=xB.trans (by rw[decide_eq_false hk0];rfl)
          have HD:=h_ xA;clear hD xA
          have xy:((s[k].toNat:Int)==46)=true:=beq_iff_eq.2 (by omega)
          have xF:((s[k].toNat:Int) != 46)=false:=(by unfold bne;rw[xy];rfl);have PH:=h_ P1;clear P1 hA xn xz xB
          (try clear h1)
          (try clear h2)
          (try clear xH)
          (try clear xC)
          (try clear r46)
          go_wp2_with fail;refine(PH.out _).mono ?_;rintro e w1 ⟨rfl,rfl⟩;go_wp2_with fail;go_round
          case rel=>exact⟨k+1,by omega,by go_num,HS.out,HD.out⟩
          case measure=>simp[intOf];omega
        ·have xC:(s[k]==46)=false:=beq_eq_false_iff_ne.2 (fun e=>h1 (by rw[e];rfl))
         by_cases h2:s[k].toNat=45
         ·by_cases hk0:0<k
          ·have gk : (0 : Int) < k := by omega
           have hD:jdD s[k]=true:=(pt _ h2).2.1
           have HS:=h_ (bi s k hlt xn hD)
           have xA:bp (s.data.toList.take (k+1))=false:=xB.trans (by rw[xC];simp)
           have HD:=h_ xA;clear hD xA
           have xy:((s[k].toNat:Int)==46)=false:=beq_eq_false_iff_ne.2 (by omega)
           have xF:((s[k].toNat:Int) != 46)=true:=(by unfold bne;rw[xy];rfl)
           have xG:((s[k].toNat:Int)==45)=true:=beq_iff_eq.2 (by omega)
           have xJ:((s[k].toNat:Int) != 45)=false:=(by unfold bne;rw[xG];rfl);have PH:=h_ P1;clear P1 hA xn xz xB
           (try clear h1)
           (try clear h2)
           (try clear xH)
           (try clear xC)
           (try clear r46)
           go_wp2_with fail;refine(PH.out _).mono ?_;rintro e w1 ⟨rfl,rfl⟩;go_wp2_with fail;go_round
           case rel=>exact⟨k+1,by omega,by go_num,HS.out,HD.out⟩
           case measure=>simp[intOf];omega
          ·have gk:((0:Int)<(k:Int))=False:=eq_false (by omega)
           have hD:jdD s[k]=true:=(pt _ h2).2.1
           have HS:=h_ (bi s k hlt xn hD)
           have xA:bp (s.data.toList.take (k+1))=false:=xB.trans (by rw[xC];simp)
           have HD:=h_ xA;clear hD xA
           have xy:((s[k].toNat:Int)==46)=false:=beq_eq_false_iff_ne.2 (by omega)
           have xF:((s[k].toNat:Int) != 46)=true:=(by unfold bne;rw[xy];rfl)
           have xG:((s[k].toNat:Int)==45)=true:=beq_iff_eq.2 (by omega)
           have xJ:((s[k].toNat:Int) != 45)=false:=(by unfold bne;rw[xG];rfl);have PH:=h_ P1;clear P1 hA xn xz xB
           (try clear h1)
           (try clear h2)
           (try clear xH)
           (try clear xC)
           (try clear r46)
           go_wp2_with fail;refine(PH.out _).mono ?_;rintro e w1 ⟨rfl,rfl⟩;go_wp2_with fail;go_round
           case rel=>exact⟨k+1,by omega,by go_num,HS.out,HD.out⟩
           case measure=>simp[intOf];omega
         ·have hn : O = false := by rw [← HO.out, iH s k hlt (sf _ hA h1 h2).1]; simp
          subst hn
          have xy:((s[k].toNat:Int)==46)=false:=beq_eq_false_iff_ne.2 (by omega)
          have xF:((s[k].toNat:Int) != 46)=true:=(by unfold bne;rw[xy];rfl)
          have xG:((s[k].toNat:Int)==45)=false:=beq_eq_false_iff_ne.2 (by omega)
          have xJ:((s[k].toNat:Int) != 45)=true:=(by unfold bne;rw[xG];rfl);have PH:=h_ P1;clear P1 hA xn xz xB
          (try clear h1)
          (try clear h2)
          (try clear xH)
          (try clear xC)
          (try clear r46)
          go_wp2_with fail;refine(PH.out _).mono ?_;rintro e w1 ⟨rfl,rfl⟩;go_wp2_with fail;go_ret;exact⟨rfl,rfl⟩
      ·have hn:O=true:=by
        rw[wu (by rw[ab];omega)] at xn xz;rw[←HO.out,xn,xz];rfl
       subst hn;clear xn xz;go_wp2_with fail;go_ret;exact⟨rfl,rfl⟩
  ·rw[decide_eq_false h64] at hO
   have:O=false:=(by rw[←hO];rfl);subst this;have g1:((64:Int)<s.size):=(by omega);clear hO;go_enter func207,ntmps207;go_wp2_with fail;go_ret;exact⟨rfl,rfl⟩
 ·obtain rfl:s=⟨#[]⟩:=aW (wz (by rw[ab];omega))
  have:O=false:=by rw[←hO];rfl
  subst this;clear hO h0;go_enter func207,ntmps207;go_wp2_with fail;go_ret;exact⟨rfl,rfl⟩
theorem fd (s:ByteArray) (w:World) (hs:s.size≤10000):Calls prog 156 #[.string s] w (Ret w (.bool (dM s.data.toList))):=by
 obtain⟨O,hO⟩:=e_ (dM s.data.toList);rw[hO];have I:=qd s w hs;have HO:=h_ hO;obtain⟨X,hX⟩:=e_ (txP s.data.toList);rw[hX] at I;have HX:=h_ hX;have IH:=h_ I;clear hO hX I;go_enter func156,ntmps156;go_wp2_with fail;go_loop [3] (fun i=>∃k:Nat,k≤s.size∧i=.int .i64 k∧((s.data.toList.take k).all fun c=>decide (32≤c.toNat))=true) (fun i=>s.size-(intOf i).toNat)
 case atStart=>exact⟨0,wt _,rfl,rfl⟩
 case round=>
  obtain⟨k,hk,rfl,xn⟩:=hrel
  by_cases hlt:k<s.size
  ·have hc:=s[k].toNat_lt
   by_cases h32:32≤s[k].toNat
   ·have HS:=h_ (bi (q:=fun c=>decide (32≤c.toNat)) s k hlt xn (decide_eq_true h32))
    have g1:¬ ((s[k].toNat:Int)<32):=(by omega);clear xn;go_wp2_with fail;go_round
    case rel=>exact⟨k+1,by omega,by go_num,HS.out⟩
    case measure=>simp[intOf];omega
   ·have hn : O = false := by rw [← HO.out]; unfold dM; rw [iH (q := fun c => decide (32 ≤ c.toNat)) s k hlt (decide_eq_false h32)]; simp
    subst hn;have g1:((s[k].toNat:Int)<32):=(by omega);clear xn;go_wp2_with fail;go_ret;exact⟨rfl,bQ _⟩
  ·have hO:=HO.out
   rw[wu (by rw[ab];omega)] at xn;unfold dM at hO;rw[HX.out,xn,ab,wB] at hO;clear xn HO HX
   by_cases h0:0<s.size
   ·have e3 : s.data.toList.isEmpty = false := by rw [← wq]; exact ao h0
    rw[e3] at hO;clear e3;have g0:1≤s.size:=h0;have g1:((1:Int)≤s.size):=(by omega)
    by_cases h64:s.size≤64
    ·rw[decide_eq_true h64] at hO
     have g2:((s.size:Int)≤64):=(by omega);have:X=O:=(by rw[←hO];rfl);subst this;clear hO;go_wp2_with fail;refine IH.out.mono ?_;rintro e w1 ⟨rfl,hb⟩;go_wp2_with fail;go_ret;exact⟨rfl,hb⟩
    ·rw[decide_eq_false h64] at hO
     have g2:¬ ((s.size:Int)≤64):=(by omega);subst hO;go_wp2_with fail;go_ret;exact⟨rfl,bQ _⟩
   ·obtain rfl:s=⟨#[]⟩:=aW (wz (by rw[ab];omega))
    have:O=false:=(by rw[←hO];rfl);subst this;clear hO h0;go_wp2_with fail;go_ret;exact⟨rfl,bQ _⟩
def atP (c:UInt8) (l:List UInt8):Int:=if l.contains c then ((cA c l).length:Int) else -1
theorem pm (c:UInt8) (s:ByteArray) (k:Nat) (hlt:k<s.size) (h:(s.data.toList.take k).contains c=false):(s[k]=c→atP c s.data.toList=k)∧(s[k]≠c→(s.data.toList.take (k+1)).contains c=false):=by
 constructor
 ·intro e
  have hd:=dk s k hlt
  have e2:s.data.toList=s.data.toList.take k++c :: s.data.toList.drop (k+1):=by
   rw[←e,←hd,ww]
  have hm:c ∉ s.data.toList.take k:=by simpa using h
  obtain⟨a,-⟩:=oT c _ (s.data.toList.drop (k+1)) hm;rw[←e2] at a
  have hc:s.data.toList.contains c=true:=by
   rw[e2];simp
  unfold atP;rw[hc,if_pos rfl,a,List.length_take,ab]
  congr 1
  omega
 ·intro e
  rw[cK s k hlt,List.contains_append];rw[h]
  simp
  exact fun q=>e q.symm
theorem se (s:ByteArray) (c:UInt8) (w:World) (hs:s.size≤10000):Calls prog 172 #[.string s,.int .u8 (c.toNat:Int)] w fun e w'=>e=.returned (.int .i64 (atP c s.data.toList))∧w'=w:=by
 obtain⟨O,hO⟩:=e_ (atP c s.data.toList);rw[hO];have HO:=h_ hO;clear hO;go_enter func172,ntmps172;go_wp2_with fail;go_loop [5] (fun i=>∃k:Nat,k≤s.size∧i=.int .i64 k∧(s.data.toList.take k).contains c=false) (fun i=>s.size-(intOf i).toNat)
 case atStart=>exact⟨0,wt _,rfl,rfl⟩
 case round=>
  obtain⟨k,hk,rfl,xn⟩:=hrel
  by_cases hlt:k<s.size
  ·have hc:=s[k].toNat_lt
   obtain⟨h1,h2⟩:=pm c s k hlt xn
   by_cases he:s[k]=c
   ·have hn : O = k := by rw [← HO.out, h1 he]
    subst hn;have g1:((s[k].toNat:Int)==c.toNat)=true:=(by rw[he];simp);clear h1 h2 xn he;go_wp2_with fail;go_ret;exact⟨rfl,rfl⟩
   ·have HS:=h_ (h2 he)
    have hq:s[k].toNat≠c.toNat:=fun e=>he (UInt8.toNat_inj.1 e)
    have g1:((s[k].toNat:Int)==c.toNat)=false:=beq_eq_false_iff_ne.2 (by omega)
    clear h1 h2 xn he;go_wp2_with fail;go_round
    case rel=>exact⟨k+1,by omega,by go_num,HS.out⟩
    case measure=>simp[intOf];omega
  ·rw[wu (by rw[ab];omega)] at xn
   have hn:O=-1:=(by rw[←HO.out];unfold atP;rw[xn];rfl);subst hn;clear xn;go_wp2_with fail;go_ret;exact⟨rfl,rfl⟩

theorem kK (l d r:List UInt8) (A B C:Bool) (hA:(l.isEmpty||gX l)=A) (hB:(r.isEmpty||dM r)=B) (hC:eZ d=C):bB l d r=(A&&B&&C):=by
 unfold bB;rw[hA,hB,hC]
theorem lL (l d r:ByteArray) (w:World) (zl:l.size≤10000) (zd:d.size≤10000) (zr:r.size≤10000):
  Calls prog 168 #[jV l d r] w (Ret w (.bool (bB l.data.toList d.data.toList r.data.toList))):=by
 have k0:=JAt.new w l d r;have q0:=(bR w).alloc (wh _) (.cells #[.string l,.string d,.string r] 117);obtain⟨x0,x1,x2,x3,x4⟩:=k0
 have D0:=fun w=>nD d w zd
 have L0:=fun w=>nM l w zl
 have R0:=fun w=>fd r w zr
 cases hd:eZ d.data.toList with
 | false=>
  rw[kK _ _ _ _ _ _ rfl rfl hd,Bool.and_false];rw[hd] at D0;have DH:=h_ D0;clear D0 L0 R0 hd;go_enter func168,ntmps168;go_wp2_with fail;refine(DH.out _).mono ?_;rintro e w1 ⟨rfl,rfl⟩;go_wp2_with fail;go_ret;exact⟨rfl,q0⟩
 | true=>
  rw[hd] at D0;have DH:=h_ D0;clear D0
  cases hl:l.data.toList.isEmpty with
  | true=>
   obtain rfl:=ay hl
   cases hr:r.data.toList.isEmpty with
   | true=>
    obtain rfl:=ay hr;rw[kK _ _ _ true true true (by rw[hl];rfl) (by rw[hr];rfl) hd];clear L0 R0 hl hr hd;go_enter func168,ntmps168;go_wp2_with fail;refine(DH.out _).mono ?_;rintro e w1 ⟨rfl,rfl⟩;go_wp2_with fail;go_ret;exact⟨rfl,q0⟩
   | false=>
    have er:=ak hr
    cases hR:dM r.data.toList with
    | true=>
     rw[kK _ _ _ true true true (by rw[hl];rfl) (by rw[hr,hR];rfl) hd];rw[hR] at R0;have RH:=h_ R0;clear hR;clear L0 R0 hl hr hd;go_enter func168,ntmps168;go_wp2_with fail;refine(DH.out _).mono ?_;rintro e w1 ⟨rfl,rfl⟩;go_wp2_with fail;refine(RH.out _).mono ?_;rintro e w2 ⟨rfl,hb⟩;have q1:=q0.trans (hb.mono q0.size);clear hb;go_wp2_with fail;go_ret;exact⟨rfl,q1⟩
    | false=>
     rw[kK _ _ _ true false true (by rw[hl];rfl) (by rw[hr,hR];rfl) hd];rw[hR] at R0;have RH:=h_ R0;clear hR;clear L0 R0 hl hr hd;go_enter func168,ntmps168;go_wp2_with fail;refine(DH.out _).mono ?_;rintro e w1 ⟨rfl,rfl⟩;go_wp2_with fail;refine(RH.out _).mono ?_;rintro e w2 ⟨rfl,hb⟩;have q1:=q0.trans (hb.mono q0.size);clear hb;go_wp2_with fail;go_ret;exact⟨rfl,q1⟩
  | false=>
   have el:=ak hl
   cases hL:gX l.data.toList with
   | true=>
    rw[hL] at L0;have LH:=h_ L0
    cases hr:r.data.toList.isEmpty with
    | true=>
     obtain rfl:=ay hr;rw[kK _ _ _ true true true (by rw[hl,hL];rfl) (by rw[hr];rfl) hd];clear L0 R0 hl hL hr hd;go_enter func168,ntmps168;go_wp2_with fail;refine(DH.out _).mono ?_;rintro e w1 ⟨rfl,rfl⟩;go_wp2_with fail;refine(LH.out _).mono ?_;rintro e w1 ⟨rfl,rfl⟩;go_wp2_with fail;go_ret;exact⟨rfl,q0⟩
    | false=>
     have er:=ak hr
     cases hR:dM r.data.toList with
     | true=>
      rw[kK _ _ _ true true true (by rw[hl,hL];rfl) (by rw[hr,hR];rfl) hd];rw[hR] at R0;have RH:=h_ R0;clear hR;clear L0 R0 hl hL hr hd;go_enter func168,ntmps168;go_wp2_with fail;refine(DH.out _).mono ?_;rintro e w1 ⟨rfl,rfl⟩;go_wp2_with fail;refine(LH.out _).mono ?_;rintro e w1 ⟨rfl,rfl⟩;go_wp2_with fail;refine(RH.out _).mono ?_;rintro e w2 ⟨rfl,hb⟩;have q1:=q0.trans (hb.mono q0.size);clear hb;go_wp2_with fail;go_ret;exact⟨rfl,q1⟩
     | false=>
      rw[kK _ _ _ true false true (by rw[hl,hL];rfl) (by rw[hr,hR];rfl) hd];rw[hR] at R0;have RH:=h_ R0;clear hR;clear L0 R0 hl hL hr hd;go_enter func168,ntmps168;go_wp2_with fail;refine(DH.out _).mono ?_;rintro e w1 ⟨rfl,rfl⟩;go_wp2_with fail;refine(LH.out _).mono ?_;rintro e w1 ⟨rfl,rfl⟩;go_wp2_with fail;refine(RH.out _).mono ?_;rintro e w2 ⟨rfl,hb⟩;have q1:=q0.trans (hb.mono q0.size);clear hb;go_wp2_with fail;go_ret;exact⟨rfl,q1⟩
   | false=>
    rw[hL] at L0;have LH:=h_ L0;rw[kK _ _ _ false _ _ (by rw[hl,hL];rfl) rfl hd];clear L0 R0 hl hL hd;go_enter func168,ntmps168;go_wp2_with fail;refine(DH.out _).mono ?_;rintro e w1 ⟨rfl,rfl⟩;go_wp2_with fail;refine(LH.out _).mono ?_;rintro e w1 ⟨rfl,rfl⟩;go_wp2_with fail;go_ret;exact⟨rfl,q0⟩
theorem dy (l d r:ByteArray) (w:World) (zl:l.size≤10000) (zd:d.size≤10000) (zr:r.size≤10000):
  Calls prog 128 #[jV l d r] w (Ret w (.string (jB (bC l.data.toList d.data.toList r.data.toList)))):=by
 have k0:=JAt.new w l d r;have q0:=(bR w).alloc (wh _) (.cells #[.string l,.string d,.string r] 117);obtain⟨x0,x1,x2,x3,x4⟩:=k0;obtain⟨T,hT⟩:=e_ (jB (bC l.data.toList d.data.toList r.data.toList));rw[hT];have HT:=h_ hT
 have n1:(⟨#[64]⟩:ByteArray).size=1:=rfl
 have n2:(⟨#[47]⟩:ByteArray).size=1:=rfl
 clear hT
 cases hl:l.data.toList.isEmpty with
 | true=>
  obtain rfl:=ay hl
  cases hr:r.data.toList.isEmpty with
  | true=>
   obtain rfl:=ay hr;have ht:d=T:=(by rw[←HT.out];apply aW;simp[bC]);have HE:=h_ ht;clear ht hl hr;go_enter func128,ntmps128;go_wp2_with fail;go_ret;exact⟨by rw[←HE.out];rfl,q0⟩
  | false=>
   have er:=ak hr;have ht:d++⟨#[47]⟩++r=T:=(by rw[←HT.out];apply aW;simp[bC,hr]);have HE:=h_ ht;clear ht hl hr;go_enter func128,ntmps128;go_wp2_with fail;go_ret;exact⟨by rw[←HE.out];rfl,q0⟩
 | false=>
  have el:=ak hl
  cases hr:r.data.toList.isEmpty with
  | true=>
   obtain rfl:=ay hr;have ht:l++⟨#[64]⟩++d=T:=(by rw[←HT.out];apply aW;simp[bC,hl]);have HE:=h_ ht;clear ht hl hr;go_enter func128,ntmps128;go_wp2_with fail;go_ret;exact⟨by rw[←HE.out];rfl,q0⟩
  | false=>
   have er:=ak hr;have ht:l++⟨#[64]⟩++d++⟨#[47]⟩++r=T:=(by rw[←HT.out];apply aW;simp[bC,hl,hr]);have HE:=h_ ht;clear ht hl hr;go_enter func128,ntmps128;go_wp2_with fail;go_ret;exact⟨by rw[←HE.out];rfl,q0⟩
theorem ry (l d r:ByteArray) (w:World) (zl:l.size≤10000) (zd:d.size≤10000) (zr:r.size≤10000):
  Calls prog 159 #[jV l d r] w (Ret w (.bool (bB l.data.toList d.data.toList r.data.toList&&(!l.data.toList.isEmpty&&!r.data.toList.isEmpty)))):=by
 have k0:=JAt.new w l d r;have q0:=(bR w).alloc (wh _) (.cells #[.string l,.string d,.string r] 117)
 have M0:=fun w=>lL l d r w zl zd zr
 obtain⟨c,hc⟩:=e_ (bB l.data.toList d.data.toList r.data.toList);rw[hc] at M0 ⊢;have MH:=h_ M0;clear M0 hc
 cases c with
 | false=>
  go_enter func159,ntmps159;go_wp2_with fail;refine(MH.out _).mono ?_;rintro e w1 ⟨rfl,hb⟩;obtain⟨x0,x1,x2,x3,x4⟩:=k0.ret hb;have q1:=q0.trans (hb.mono q0.size);clear hb k0;go_wp2_with fail;go_ret;exact⟨rfl,q1⟩
 | true=>
  cases hl:l.data.toList.isEmpty with
  | true=>
   obtain rfl:=ay hl;clear hl;go_enter func159,ntmps159;go_wp2_with fail;refine(MH.out _).mono ?_;rintro e w1 ⟨rfl,hb⟩;obtain⟨x0,x1,x2,x3,x4⟩:=k0.ret hb;have q1:=q0.trans (hb.mono q0.size);clear hb k0;go_wp2_with fail;go_ret;exact⟨rfl,q1⟩
  | false=>
   have el:=ak hl;clear hl
   cases hr:r.data.toList.isEmpty with
   | true=>
    obtain rfl:=ay hr;clear hr;go_enter func159,ntmps159;go_wp2_with fail;refine(MH.out _).mono ?_;rintro e w1 ⟨rfl,hb⟩;obtain⟨x0,x1,x2,x3,x4⟩:=k0.ret hb;have q1:=q0.trans (hb.mono q0.size);clear hb k0;go_wp2_with fail;go_ret;exact⟨rfl,q1⟩
   | false=>
    have er:=ak hr;clear hr;go_enter func159,ntmps159;go_wp2_with fail;refine(MH.out _).mono ?_;rintro e w1 ⟨rfl,hb⟩;obtain⟨x0,x1,x2,x3,x4⟩:=k0.ret hb;have q1:=q0.trans (hb.mono q0.size);clear hb k0;go_wp2_with fail;go_ret;exact⟨rfl,q1⟩
theorem qJ (l d r:ByteArray) (w:World) (zl:l.size≤10000) (zd:d.size≤10000) (zr:r.size≤10000):
  Calls prog 122 #[jV l d r] w (Ret w (.bool (bB l.data.toList d.data.toList r.data.toList&&(!l.data.toList.isEmpty&&r.data.toList.isEmpty)))):=by
 have k0:=JAt.new w l d r;have q0:=(bR w).alloc (wh _) (.cells #[.string l,.string d,.string r] 117)
 have M0:=fun w=>lL l d r w zl zd zr
 obtain⟨c,hc⟩:=e_ (bB l.data.toList d.data.toList r.data.toList);rw[hc] at M0 ⊢;have MH:=h_ M0;clear M0 hc
 cases c with
 | false=>
  go_enter func122,ntmps122;go_wp2_with fail;refine(MH.out _).mono ?_;rintro e w1 ⟨rfl,hb⟩;obtain⟨x0,x1,x2,x3,x4⟩:=k0.ret hb;have q1:=q0.trans (hb.mono q0.size);clear hb k0;go_wp2_with fail;go_ret;exact⟨rfl,q1⟩
 | true=>
  cases hl:l.data.toList.isEmpty with
  | true=>
   obtain rfl:=ay hl;clear hl;go_enter func122,ntmps122;go_wp2_with fail;refine(MH.out _).mono ?_;rintro e w1 ⟨rfl,hb⟩;obtain⟨x0,x1,x2,x3,x4⟩:=k0.ret hb;have q1:=q0.trans (hb.mono q0.size);clear hb k0;go_wp2_with fail;go_ret;exact⟨rfl,q1⟩
  | false=>
   have el:=ak hl;clear hl
   cases hr:r.data.toList.isEmpty with
   | true=>
    obtain rfl:=ay hr;clear hr;go_enter func122,ntmps122;go_wp2_with fail;refine(MH.out _).mono ?_;rintro e w1 ⟨rfl,hb⟩;obtain⟨x0,x1,x2,x3,x4⟩:=k0.ret hb;have q1:=q0.trans (hb.mono q0.size);clear hb k0;go_wp2_with fail;go_ret;exact⟨rfl,q1⟩
   | false=>
    have er:=ak hr;clear hr;go_enter func122,ntmps122;go_wp2_with fail;refine(MH.out _).mono ?_;rintro e w1 ⟨rfl,hb⟩;obtain⟨x0,x1,x2,x3,x4⟩:=k0.ret hb;have q1:=q0.trans (hb.mono q0.size);clear hb k0;go_wp2_with fail;go_ret;exact⟨rfl,q1⟩
theorem tA (X Y:ByteArray) (x y:List UInt8) (hx:X.data.toList=x) (hy:Y.data.toList=y):(X.toList==Y.toList)=decide (x=y):=by
 rw[wq,wq,hx,hy];rw[Bool.eq_iff_iff]
 simp
theorem mc (a b c x y z:ByteArray) (w:World):Calls prog 123 #[jV a b c,jV x y z] w (Ret w (.bool (lsP (a.data.toList,b.data.toList,c.data.toList) (x.data.toList,y.data.toList,z.data.toList)))):=by
 have k1:=JAt.new w a b c;have q1:=(bR w).alloc (wh _) (.cells #[.string a,.string b,.string c] 117);have q2:=q1.alloc q1.size (.cells #[.string x,.string y,.string z] 117);clear k1;obtain⟨A,hA⟩:=e_ a.toList;obtain⟨B,hB⟩:=e_ b.toList;obtain⟨C,hC⟩:=e_ c.toList;obtain⟨X,hX⟩:=e_ x.toList;obtain⟨Y,hY⟩:=e_ y.toList;obtain⟨Z,hZ⟩:=e_ z.toList;rw[←wq a,←wq b,←wq c,←wq x,←wq y,←wq z,hA,hB,hC,hX,hY,hZ];unfold lsP
 dsimp only
 by_cases e1:B=Y
 ·subst e1
  rw[ik]
  have f1:(B==B)=true:=by simp
  by_cases e2:A=X
  ·subst e2
   rw[ik];have f2:(A==A)=true:=(by simp)
   cases h:Op.bytesLess C Z with
   | true=>
    go_enter func123,ntmps123;go_wp2_with fail;go_ret;exact⟨by first | rfl | (simp[*]),q2⟩
   | false=>
    go_enter func123,ntmps123;go_wp2_with fail;go_ret;exact⟨by first | rfl | (simp[*]),q2⟩
  ·have f2 : (A == X) = false := by simpa using e2
   clear e2;obtain⟨V,hV⟩:=e_ (Op.bytesLess A X)
   have xM:(false||!false&&(V||!Op.bytesLess X A&&Op.bytesLess C Z))=V:=by
    rcases bc A X with ⟨h1,h2,h3⟩ | ⟨h1,h2,h3⟩ | ⟨h1,h2,h3⟩
    ·rw[h1] at hV;subst hV;rfl
    ·rw[h1] at hV;subst hV;rw[h2];rfl
    ·subst h3;simp at f2
   rw[hV,xM];clear xM;go_enter func123,ntmps123;go_wp2_with fail;go_ret;exact⟨by first | rfl | (simp[*]),q2⟩
 ·have f1 : (B == Y) = false := by simpa using e1
  clear e1;obtain⟨V,hV⟩:=e_ (Op.bytesLess B Y)
  have xM:(V||!Op.bytesLess Y B&&(Op.bytesLess A X||!Op.bytesLess X A&&Op.bytesLess C Z))=V:=by
   rcases bc B Y with ⟨h1,h2,h3⟩ | ⟨h1,h2,h3⟩ | ⟨h1,h2,h3⟩
   ·rw[h1] at hV;subst hV;rfl
   ·rw[h1] at hV;subst hV;rw[h2];rfl
   ·subst h3;simp at f1
  rw[hV,xM];clear xM;go_enter func123,ntmps123;go_wp2_with fail;go_ret;exact⟨by first | rfl | (simp[*]),q2⟩
theorem qM (a b c:ByteArray) (w:World):Calls prog 129 #[jV a b c] w (Ret w (jV a b ⟨#[]⟩)):=by
 have q0:=((bR w).alloc (wh _) (.cells #[.string a,.string b,.string c] 117)).alloc (by simp) (.cells #[.string a,.string b,.string ⟨#[]⟩] 117);go_enter func129,ntmps129;go_wp2_with fail;refine bodyPost_ret (v:=jV a b ⟨#[]⟩) (results_cell_row rfl _ _ (w.heap.size+1) _ _ (0,0) _ rfl (heap_alloc2_new _ _ _) underlying117 rfl rfl) rfl ⟨rfl,?_⟩;exact q0
def j8 (s:List UInt8):List UInt8:=bf s++(if s.contains 47 then 47 :: aP s else [])
theorem sM (s:List UInt8):(bB (aO s) (aZ s) (aP s)&&decide (bC (aO s) (aZ s) (aP s)=j8 s))=cP s:=by
 have a:∃H,(if (aO s).isEmpty then aZ s else aO s++64 :: aZ s)=H∧(((bf s).contains 64&&(aO s).isEmpty)=true→bf s=64 :: H)∧(((bf s).contains 64&&(aO s).isEmpty)=false→bf s=H):=by
  refine⟨_,rfl,fun h=>?_,fun h=>?_⟩
  ·rw[wC] at h
   rw[h.2,if_pos rfl];obtain⟨e,-⟩:=tg 64 (bf s) (by simpa using h.1);have h2:=wD.1 h.2;unfold aO at h2;rw[h.1,if_pos rfl] at h2;rw[h2] at e;unfold aZ;rw[h.1,if_pos rfl];exact e
  ·cases hc:(bf s).contains 64 with
   | false=>
    unfold aO aZ;rw[hc]
    rfl
   | true=>
    rw[hc,ws] at h;rw[h];obtain⟨e,-⟩:=tg 64 (bf s) (by simpa using hc);unfold aO aZ;rw[hc];exact e
 have b:∃T,(if (aP s).isEmpty then [] else 47 :: aP s)=T∧((s.contains 47&&(aP s).isEmpty)=true→(if s.contains 47 then 47 :: aP s else [])=47 :: T)∧((s.contains 47&&(aP s).isEmpty)=false→(if s.contains 47 then 47 :: aP s else [])=T):=by
  refine⟨_,rfl,fun h=>?_,fun h=>?_⟩
  ·rw[wC] at h
   rw[h.1,h.2,wD.1 h.2]
   rfl
  ·cases hc:s.contains 47 with
   | false=>
    have:=ir 47 s (by simpa using hc);unfold aP;rw[this.2]
    rfl
   | true=>
    rw[hc,ws] at h;rw[h]
    rfl
 obtain⟨H,hH,a1,a2⟩:=a;obtain⟨T,hT,b1,b2⟩:=b;unfold cP bC j8;rw[hH,hT]
 cases ha:((bf s).contains 64&&(aO s).isEmpty) with
 | true=>
  rw[a1 ha]
  have:H++T≠64 :: H++(if s.contains 47 then 47 :: aP s else []):=by
   intro e;have e:=congrArg wA e
   cases hb:(s.contains 47&&(aP s).isEmpty) with
   | true=>rw[b1 hb] at e;simp at e;omega
   | false=>rw[b2 hb] at e;simp at e
  rw[decide_eq_false this]
  simp
 | false=>
  rw[a2 ha]
  cases hb:(s.contains 47&&(aP s).isEmpty) with
  | true=>
   rw[b1 hb]
   have:H++T≠H++47 :: T:=by
    intro e;have e:=congrArg wA e
    simp at e
   rw[decide_eq_false this]
   simp
  | false=>
   rw[b2 hb]
   simp

theorem JAt.set0 {L:Nat} {a b c:ByteArray} {w:World} (h:JAt L a b c w) (x:ByteArray):JAt L x b c (w.setCell ⟨L,0,none⟩ (.string x)):=by
 obtain⟨h0,h1,h2,h3,h4,h5,h6⟩:=h
 constructor <;> simp[go_sem, *]
theorem JAt.set1 {L:Nat} {a b c:ByteArray} {w:World} (h:JAt L a b c w) (x:ByteArray):JAt L a x c (w.setCell ⟨L,1,none⟩ (.string x)):=by
 obtain⟨h0,h1,h2,h3,h4,h5,h6⟩:=h
 constructor <;> simp[go_sem, *]
theorem JAt.other {L M o:Nat} {a b c:ByteArray} {w:World} (h:JAt L a b c w) (xY:L≠M) (x:Value):JAt L a b c (w.setCell ⟨M,o,none⟩ x):=by
 obtain⟨h0,h1,h2,h3,h4,h5,h6⟩:=h
 constructor <;> simp[go_sem, *]
theorem JAt.two (w:World) (a b c x y z:ByteArray):JAt w.heap.size a b c ((w.alloc (.cells #[.string a,.string b,.string c] 117)).alloc (.cells #[.string x,.string y,.string z] 117))∧JAt (w.heap.size+1) x y z ((w.alloc (.cells #[.string a,.string b,.string c] 117)).alloc (.cells #[.string x,.string y,.string z] 117)):=by
 have k1:=JAt.new w a b c;have k2:=JAt.new (w.alloc (.cells #[.string a,.string b,.string c] 117)) x y z;rw[World.size_alloc] at k2;exact⟨k1.ret ((bQ _).alloc (wh _) _),k2⟩
theorem gE (s Lo A R X Y T W:ByteArray) (n m:Nat) (w:World)
  (C1:∀w,Calls prog 172 #[.string s,.int .u8 47] w fun e w'=>e=.returned (.int .i64 n)∧w'=w)
  (hn:n<s.size) (hs:s.size≤10000) (hA:s.extract 0 n=A) (hR:s.extract (n+1) s.size=R)
  (C2:∀w,Calls prog 173 #[.string A] w (Ret w (.string Lo)))
  (C3:∀w,Calls prog 172 #[.string Lo,.int .u8 64] w fun e w'=>e=.returned (.int .i64 m)∧w'=w)
  (xI:Lo.size≤10000)
  (xN:m<Lo.size) (hX:Lo.extract 0 m=X) (hY:Lo.extract (m+1) Lo.size=Y)
  (CM:∀w,Calls prog 168 #[jV X Y R] w (Ret w (.bool true)))
  (xO:R.size≤10000)
  (CT:∀w,Calls prog 128 #[jV X Y R] w (Ret w (.string T)))
  (hW:Lo++⟨#[47]⟩++R=W)
  (hE:(T.toList==W.toList)=true):
  Calls prog 127 #[.string s] w (Ret w (.tuple #[jV X Y R,.int .i64 0])):=by
 obtain⟨kr,kj⟩:=JAt.two w ⟨#[]⟩ ⟨#[]⟩ ⟨#[]⟩ ⟨#[]⟩ ⟨#[]⟩ R;have q0:=((bR w).alloc (wh _) (.cells #[.string ⟨#[]⟩,.string ⟨#[]⟩,.string ⟨#[]⟩] 117)).alloc (by simp) (.cells #[.string ⟨#[]⟩,.string ⟨#[]⟩,.string R] 117);have H1:=h_ C1;have H2:=h_ C2;have H3:=h_ C3;have HM:=h_ CM;have HT:=h_ CT
 have n2:(⟨#[47]⟩:ByteArray).size=1:=rfl
 clear C1 C2 C3 CM CT;go_enter func127,ntmps127;go_wp2_with fail;refine(H1.out _).mono ?_;rintro e w1 ⟨rfl,rfl⟩;go_wp2_with fail;refine(H2.out _).mono ?_;rintro e w2 ⟨rfl,hb⟩;have xo:=kr.ret hb;have xp:=kj.ret hb;have q2:=q0.trans (hb.mono q0.size);clear hb kr kj q0;obtain⟨x0,x1,x2,x3,x4,x5,x6⟩:=id xp;obtain⟨y0,y1,y2,y3,y4,y5,y6⟩:=id xo;go_wp2_with fail;refine(H3.out _).mono ?_;rintro e w3 ⟨rfl,rfl⟩;have xr:=xo.other (M:=w.heap.size+1) (o:=1) (by omega) (.string Lo);have xt:=xp.set1 Lo;have q3:=q2.setCell (p:=⟨w.heap.size+1,1,none⟩) (wo _) (.string Lo);clear xo xp q2;have xu:=(xr.other (M:=w.heap.size+1) (o:=0) (by omega) (.string X)).other (M:=w.heap.size+1) (o:=1) (by omega) (.string Y);have xw:=(xt.set0 X).set1 Y;have q4:=(q3.setCell (p:=⟨w.heap.size+1,0,none⟩) (wo _) (.string X)).setCell (p:=⟨w.heap.size+1,1,none⟩) (wo _) (.string Y);clear xr xt q3;go_wp2_with fail;refine(HM.out _).mono ?_;rintro e w5 ⟨rfl,hb⟩;have xx:=xu.ret hb;have xq:=xw.ret hb;have q5:=q4.trans (hb.mono q4.size);clear hb xu xw q4 x0 x1 x2 x3 x4 x5 x6 y0 y1 y2 y3 y4 y5 y6;obtain⟨x0,x1,x2,x3,x4,x5,x6⟩:=id xq;go_wp2_with fail;refine(HT.out _).mono ?_;rintro e w6 ⟨rfl,hb⟩;have xD:=xx.ret hb;have xE:=xq.ret hb;have q6:=q5.trans (hb.mono q5.size);clear hb xx xq q5 x0 x1 x2 x3 x4 x5 x6;obtain⟨x0,x1,x2,x3,x4,x5,x6⟩:=xE;obtain⟨y0,y1,y2,y3,y4,y5,y6⟩:=xD;go_wp2_with fail;refine bodyPost_ret (aA rfl rfl rfl ((JAt.mk y0 y1 y2 y3 y4 y5 y6).set3 _ _ _)) rfl ⟨rfl,ae q6 (wh _) _ _ _⟩
theorem gL (s Lo A R X Y T W:ByteArray) (n m:Nat) (w:World)
  (C1:∀w,Calls prog 172 #[.string s,.int .u8 47] w fun e w'=>e=.returned (.int .i64 n)∧w'=w)
  (hn:n<s.size) (hs:s.size≤10000) (hA:s.extract 0 n=A) (hR:s.extract (n+1) s.size=R)
  (C2:∀w,Calls prog 173 #[.string A] w (Ret w (.string Lo)))
  (C3:∀w,Calls prog 172 #[.string Lo,.int .u8 64] w fun e w'=>e=.returned (.int .i64 m)∧w'=w)
  (xI:Lo.size≤10000)
  (xN:m<Lo.size) (hX:Lo.extract 0 m=X) (hY:Lo.extract (m+1) Lo.size=Y)
  (CM:∀w,Calls prog 168 #[jV X Y R] w (Ret w (.bool true)))
  (xO:R.size≤10000)
  (CT:∀w,Calls prog 128 #[jV X Y R] w (Ret w (.string T)))
  (hW:Lo++⟨#[47]⟩++R=W)
  (hE:(T.toList==W.toList)=false):
  Calls prog 127 #[.string s] w (Ret w (.tuple #[jV ⟨#[]⟩ ⟨#[]⟩ ⟨#[]⟩,.int .i64 190])):=by
 obtain⟨kr,kj⟩:=JAt.two w ⟨#[]⟩ ⟨#[]⟩ ⟨#[]⟩ ⟨#[]⟩ ⟨#[]⟩ R;have q0:=((bR w).alloc (wh _) (.cells #[.string ⟨#[]⟩,.string ⟨#[]⟩,.string ⟨#[]⟩] 117)).alloc (by simp) (.cells #[.string ⟨#[]⟩,.string ⟨#[]⟩,.string R] 117);have H1:=h_ C1;have H2:=h_ C2;have H3:=h_ C3;have HM:=h_ CM;have HT:=h_ CT
 have n2:(⟨#[47]⟩:ByteArray).size=1:=rfl
 clear C1 C2 C3 CM CT;go_enter func127,ntmps127;go_wp2_with fail;refine(H1.out _).mono ?_;rintro e w1 ⟨rfl,rfl⟩;go_wp2_with fail;refine(H2.out _).mono ?_;rintro e w2 ⟨rfl,hb⟩;have xo:=kr.ret hb;have xp:=kj.ret hb;have q2:=q0.trans (hb.mono q0.size);clear hb kr kj q0;obtain⟨x0,x1,x2,x3,x4,x5,x6⟩:=id xp;obtain⟨y0,y1,y2,y3,y4,y5,y6⟩:=id xo;go_wp2_with fail;refine(H3.out _).mono ?_;rintro e w3 ⟨rfl,rfl⟩;have xr:=xo.other (M:=w.heap.size+1) (o:=1) (by omega) (.string Lo);have xt:=xp.set1 Lo;have q3:=q2.setCell (p:=⟨w.heap.size+1,1,none⟩) (wo _) (.string Lo);clear xo xp q2;have xu:=(xr.other (M:=w.heap.size+1) (o:=0) (by omega) (.string X)).other (M:=w.heap.size+1) (o:=1) (by omega) (.string Y);have xw:=(xt.set0 X).set1 Y;have q4:=(q3.setCell (p:=⟨w.heap.size+1,0,none⟩) (wo _) (.string X)).setCell (p:=⟨w.heap.size+1,1,none⟩) (wo _) (.string Y);clear xr xt q3;go_wp2_with fail;refine(HM.out _).mono ?_;rintro e w5 ⟨rfl,hb⟩;have xx:=xu.ret hb;have xq:=xw.ret hb;have q5:=q4.trans (hb.mono q4.size);clear hb xu xw q4 x0 x1 x2 x3 x4 x5 x6 y0 y1 y2 y3 y4 y5 y6;obtain⟨x0,x1,x2,x3,x4,x5,x6⟩:=id xq;go_wp2_with fail;refine(HT.out _).mono ?_;rintro e w6 ⟨rfl,hb⟩;have xD:=xx.ret hb;have xE:=xq.ret hb;have q6:=q5.trans (hb.mono q5.size);clear hb xx xq q5 x0 x1 x2 x3 x4 x5 x6;obtain⟨x0,x1,x2,x3,x4,x5,x6⟩:=xE;obtain⟨y0,y1,y2,y3,y4,y5,y6⟩:=xD;go_wp2_with fail;refine bodyPost_ret (aA rfl rfl rfl ((JAt.mk y0 y1 y2 y3 y4 y5 y6).set3 _ _ _)) rfl ⟨rfl,ae q6 (wh _) _ _ _⟩
theorem ji (s Lo A R X Y:ByteArray) (n m:Nat) (w:World)
  (C1:∀w,Calls prog 172 #[.string s,.int .u8 47] w fun e w'=>e=.returned (.int .i64 n)∧w'=w)
  (hn:n<s.size) (hs:s.size≤10000) (hA:s.extract 0 n=A) (hR:s.extract (n+1) s.size=R)
  (C2:∀w,Calls prog 173 #[.string A] w (Ret w (.string Lo)))
  (C3:∀w,Calls prog 172 #[.string Lo,.int .u8 64] w fun e w'=>e=.returned (.int .i64 m)∧w'=w)
  (xI:Lo.size≤10000)
  (xN:m<Lo.size) (hX:Lo.extract 0 m=X) (hY:Lo.extract (m+1) Lo.size=Y)
  (CM:∀w,Calls prog 168 #[jV X Y R] w (Ret w (.bool false)))
  (xO:R.size≤10000):
  Calls prog 127 #[.string s] w (Ret w (.tuple #[jV ⟨#[]⟩ ⟨#[]⟩ ⟨#[]⟩,.int .i64 190])):=by
 obtain⟨kr,kj⟩:=JAt.two w ⟨#[]⟩ ⟨#[]⟩ ⟨#[]⟩ ⟨#[]⟩ ⟨#[]⟩ R;have q0:=((bR w).alloc (wh _) (.cells #[.string ⟨#[]⟩,.string ⟨#[]⟩,.string ⟨#[]⟩] 117)).alloc (by simp) (.cells #[.string ⟨#[]⟩,.string ⟨#[]⟩,.string R] 117);have H1:=h_ C1;have H2:=h_ C2;have H3:=h_ C3;have HM:=h_ CM
 have n2:(⟨#[47]⟩:ByteArray).size=1:=rfl
 clear C1 C2 C3 CM;go_enter func127,ntmps127;go_wp2_with fail;refine(H1.out _).mono ?_;rintro e w1 ⟨rfl,rfl⟩;go_wp2_with fail;refine(H2.out _).mono ?_;rintro e w2 ⟨rfl,hb⟩;have xo:=kr.ret hb;have xp:=kj.ret hb;have q2:=q0.trans (hb.mono q0.size);clear hb kr kj q0;obtain⟨x0,x1,x2,x3,x4,x5,x6⟩:=id xp;obtain⟨y0,y1,y2,y3,y4,y5,y6⟩:=id xo;go_wp2_with fail;refine(H3.out _).mono ?_;rintro e w3 ⟨rfl,rfl⟩;have xr:=xo.other (M:=w.heap.size+1) (o:=1) (by omega) (.string Lo);have xt:=xp.set1 Lo;have q3:=q2.setCell (p:=⟨w.heap.size+1,1,none⟩) (wo _) (.string Lo);clear xo xp q2;have xu:=(xr.other (M:=w.heap.size+1) (o:=0) (by omega) (.string X)).other (M:=w.heap.size+1) (o:=1) (by omega) (.string Y);have xw:=(xt.set0 X).set1 Y;have q4:=(q3.setCell (p:=⟨w.heap.size+1,0,none⟩) (wo _) (.string X)).setCell (p:=⟨w.heap.size+1,1,none⟩) (wo _) (.string Y);clear xr xt q3;go_wp2_with fail;refine(HM.out _).mono ?_;rintro e w5 ⟨rfl,hb⟩;have xx:=xu.ret hb;have xq:=xw.ret hb;have q5:=q4.trans (hb.mono q4.size);clear hb xu xw q4 x0 x1 x2 x3 x4 x5 x6 y0 y1 y2 y3 y4 y5 y6;obtain⟨x0,x1,x2,x3,x4,x5,x6⟩:=xq;obtain⟨y0,y1,y2,y3,y4,y5,y6⟩:=xx;go_wp2_with fail;refine bodyPost_ret (aA rfl rfl rfl ((JAt.mk y0 y1 y2 y3 y4 y5 y6).set3 _ _ _)) rfl ⟨rfl,ae q5 (wh _) _ _ _⟩
theorem gM (s Lo A R T W:ByteArray) (n:Nat) (w:World)
  (C1:∀w,Calls prog 172 #[.string s,.int .u8 47] w fun e w'=>e=.returned (.int .i64 n)∧w'=w)
  (hn:n<s.size) (hs:s.size≤10000) (hA:s.extract 0 n=A) (hR:s.extract (n+1) s.size=R)
  (C2:∀w,Calls prog 173 #[.string A] w (Ret w (.string Lo)))
  (C3:∀w,Calls prog 172 #[.string Lo,.int .u8 64] w fun e w'=>e=.returned (.int .i64 (-1))∧w'=w)
  (xI:Lo.size≤10000)
  (CM:∀w,Calls prog 168 #[jV ⟨#[]⟩ Lo R] w (Ret w (.bool true)))
  (xO:R.size≤10000)
  (CT:∀w,Calls prog 128 #[jV ⟨#[]⟩ Lo R] w (Ret w (.string T)))
  (hW:Lo++⟨#[47]⟩++R=W)
  (hE:(T.toList==W.toList)=true):
  Calls prog 127 #[.string s] w (Ret w (.tuple #[jV ⟨#[]⟩ Lo R,.int .i64 0])):=by
 obtain⟨kr,kj⟩:=JAt.two w ⟨#[]⟩ ⟨#[]⟩ ⟨#[]⟩ ⟨#[]⟩ ⟨#[]⟩ R;have q0:=((bR w).alloc (wh _) (.cells #[.string ⟨#[]⟩,.string ⟨#[]⟩,.string ⟨#[]⟩] 117)).alloc (by simp) (.cells #[.string ⟨#[]⟩,.string ⟨#[]⟩,.string R] 117);have H1:=h_ C1;have H2:=h_ C2;have H3:=h_ C3;have HM:=h_ CM;have HT:=h_ CT
 have n2:(⟨#[47]⟩:ByteArray).size=1:=rfl
 clear C1 C2 C3 CM CT;go_enter func127,ntmps127;go_wp2_with fail;refine(H1.out _).mono ?_;rintro e w1 ⟨rfl,rfl⟩;go_wp2_with fail;refine(H2.out _).mono ?_;rintro e w2 ⟨rfl,hb⟩;have xo:=kr.ret hb;have xp:=kj.ret hb;have q2:=q0.trans (hb.mono q0.size);clear hb kr kj q0;obtain⟨x0,x1,x2,x3,x4,x5,x6⟩:=id xp;obtain⟨y0,y1,y2,y3,y4,y5,y6⟩:=id xo;go_wp2_with fail;refine(H3.out _).mono ?_;rintro e w3 ⟨rfl,rfl⟩;have xr:=xo.other (M:=w.heap.size+1) (o:=1) (by omega) (.string Lo);have xt:=xp.set1 Lo;have q3:=q2.setCell (p:=⟨w.heap.size+1,1,none⟩) (wo _) (.string Lo);clear xo xp q2;have xu:=xr;have xw:=xt;have q4:=q3;clear xr xt q3;go_wp2_with fail;refine(HM.out _).mono ?_;rintro e w5 ⟨rfl,hb⟩;have xx:=xu.ret hb;have xq:=xw.ret hb;have q5:=q4.trans (hb.mono q4.size);clear hb xu xw q4 x0 x1 x2 x3 x4 x5 x6 y0 y1 y2 y3 y4 y5 y6;obtain⟨x0,x1,x2,x3,x4,x5,x6⟩:=id xq;go_wp2_with fail;refine(HT.out _).mono ?_;rintro e w6 ⟨rfl,hb⟩;have xD:=xx.ret hb;have xE:=xq.ret hb;have q6:=q5.trans (hb.mono q5.size);clear hb xx xq q5 x0 x1 x2 x3 x4 x5 x6;obtain⟨x0,x1,x2,x3,x4,x5,x6⟩:=xE;obtain⟨y0,y1,y2,y3,y4,y5,y6⟩:=xD;go_wp2_with fail;refine bodyPost_ret (aA rfl rfl rfl ((JAt.mk y0 y1 y2 y3 y4 y5 y6).set3 _ _ _)) rfl ⟨rfl,ae q6 (wh _) _ _ _⟩
theorem gK (s Lo A R T W:ByteArray) (n:Nat) (w:World)
  (C1:∀w,Calls prog 172 #[.string s,.int .u8 47] w fun e w'=>e=.returned (.int .i64 n)∧w'=w)
  (hn:n<s.size) (hs:s.size≤10000) (hA:s.extract 0 n=A) (hR:s.extract (n+1) s.size=R)
  (C2:∀w,Calls prog 173 #[.string A] w (Ret w (.string Lo)))
  (C3:∀w,Calls prog 172 #[.string Lo,.int .u8 64] w fun e w'=>e=.returned (.int .i64 (-1))∧w'=w)
  (xI:Lo.size≤10000)
  (CM:∀w,Calls prog 168 #[jV ⟨#[]⟩ Lo R] w (Ret w (.bool true)))
  (xO:R.size≤10000)
  (CT:∀w,Calls prog 128 #[jV ⟨#[]⟩ Lo R] w (Ret w (.string T)))
  (hW:Lo++⟨#[47]⟩++R=W)
  (hE:(T.toList==W.toList)=false):
  Calls prog 127 #[.string s] w (Ret w (.tuple #[jV ⟨#[]⟩ ⟨#[]⟩ ⟨#[]⟩,.int .i64 190])):=by
 obtain⟨kr,kj⟩:=JAt.two w ⟨#[]⟩ ⟨#[]⟩ ⟨#[]⟩ ⟨#[]⟩ ⟨#[]⟩ R;have q0:=((bR w).alloc (wh _) (.cells #[.string ⟨#[]⟩,.string ⟨#[]⟩,.string ⟨#[]⟩] 117)).alloc (by simp) (.cells #[.string ⟨#[]⟩,.string ⟨#[]⟩,.string R] 117);have H1:=h_ C1;have H2:=h_ C2;have H3:=h_ C3;have HM:=h_ CM;have HT:=h_ CT
 have n2:(⟨#[47]⟩:ByteArray).size=1:=rfl
 clear C1 C2 C3 CM CT;go_enter func127,ntmps127;go_wp2_with fail;refine(H1.out _).mono ?_;rintro e w1 ⟨rfl,rfl⟩;go_wp2_with fail;refine(H2.out _).mono ?_;rintro e w2 ⟨rfl,hb⟩;have xo:=kr.ret hb;have xp:=kj.ret hb;have q2:=q0.trans (hb.mono q0.size);clear hb kr kj q0;obtain⟨x0,x1,x2,x3,x4,x5,x6⟩:=id xp;obtain⟨y0,y1,y2,y3,y4,y5,y6⟩:=id xo;go_wp2_with fail;refine(H3.out _).mono ?_;rintro e w3 ⟨rfl,rfl⟩;have xr:=xo.other (M:=w.heap.size+1) (o:=1) (by omega) (.string Lo);have xt:=xp.set1 Lo;have q3:=q2.setCell (p:=⟨w.heap.size+1,1,none⟩) (wo _) (.string Lo);clear xo xp q2;have xu:=xr;have xw:=xt;have q4:=q3;clear xr xt q3;go_wp2_with fail;refine(HM.out _).mono ?_;rintro e w5 ⟨rfl,hb⟩;have xx:=xu.ret hb;have xq:=xw.ret hb;have q5:=q4.trans (hb.mono q4.size);clear hb xu xw q4 x0 x1 x2 x3 x4 x5 x6 y0 y1 y2 y3 y4 y5 y6;obtain⟨x0,x1,x2,x3,x4,x5,x6⟩:=id xq;go_wp2_with fail;refine(HT.out _).mono ?_;rintro e w6 ⟨rfl,hb⟩;have xD:=xx.ret hb;have xE:=xq.ret hb;have q6:=q5.trans (hb.mono q5.size);clear hb xx xq q5 x0 x1 x2 x3 x4 x5 x6;obtain⟨x0,x1,x2,x3,x4,x5,x6⟩:=xE;obtain⟨y0,y1,y2,y3,y4,y5,y6⟩:=xD;go_wp2_with fail;refine bodyPost_ret (aA rfl rfl rfl ((JAt.mk y0 y1 y2 y3 y4 y5 y6).set3 _ _ _)) rfl ⟨rfl,ae q6 (wh _) _ _ _⟩
theorem iS (s Lo A R:ByteArray) (n:Nat) (w:World)
  (C1:∀w,Calls prog 172 #[.string s,.int .u8 47] w fun e w'=>e=.returned (.int .i64 n)∧w'=w)
  (hn:n<s.size) (hs:s.size≤10000) (hA:s.extract 0 n=A) (hR:s.extract (n+1) s.size=R)
  (C2:∀w,Calls prog 173 #[.string A] w (Ret w (.string Lo)))
  (C3:∀w,Calls prog 172 #[.string Lo,.int .u8 64] w fun e w'=>e=.returned (.int .i64 (-1))∧w'=w)
  (xI:Lo.size≤10000)
  (CM:∀w,Calls prog 168 #[jV ⟨#[]⟩ Lo R] w (Ret w (.bool false)))
  (xO:R.size≤10000):
  Calls prog 127 #[.string s] w (Ret w (.tuple #[jV ⟨#[]⟩ ⟨#[]⟩ ⟨#[]⟩,.int .i64 190])):=by
 obtain⟨kr,kj⟩:=JAt.two w ⟨#[]⟩ ⟨#[]⟩ ⟨#[]⟩ ⟨#[]⟩ ⟨#[]⟩ R;have q0:=((bR w).alloc (wh _) (.cells #[.string ⟨#[]⟩,.string ⟨#[]⟩,.string ⟨#[]⟩] 117)).alloc (by simp) (.cells #[.string ⟨#[]⟩,.string ⟨#[]⟩,.string R] 117);have H1:=h_ C1;have H2:=h_ C2;have H3:=h_ C3;have HM:=h_ CM
 have n2:(⟨#[47]⟩:ByteArray).size=1:=rfl
 clear C1 C2 C3 CM;go_enter func127,ntmps127;go_wp2_with fail;refine(H1.out _).mono ?_;rintro e w1 ⟨rfl,rfl⟩;go_wp2_with fail;refine(H2.out _).mono ?_;rintro e w2 ⟨rfl,hb⟩;have xo:=kr.ret hb;have xp:=kj.ret hb;have q2:=q0.trans (hb.mono q0.size);clear hb kr kj q0;obtain⟨x0,x1,x2,x3,x4,x5,x6⟩:=id xp;obtain⟨y0,y1,y2,y3,y4,y5,y6⟩:=id xo;go_wp2_with fail;refine(H3.out _).mono ?_;rintro e w3 ⟨rfl,rfl⟩;have xr:=xo.other (M:=w.heap.size+1) (o:=1) (by omega) (.string Lo);have xt:=xp.set1 Lo;have q3:=q2.setCell (p:=⟨w.heap.size+1,1,none⟩) (wo _) (.string Lo);clear xo xp q2;have xu:=xr;have xw:=xt;have q4:=q3;clear xr xt q3;go_wp2_with fail;refine(HM.out _).mono ?_;rintro e w5 ⟨rfl,hb⟩;have xx:=xu.ret hb;have xq:=xw.ret hb;have q5:=q4.trans (hb.mono q4.size);clear hb xu xw q4 x0 x1 x2 x3 x4 x5 x6 y0 y1 y2 y3 y4 y5 y6;obtain⟨x0,x1,x2,x3,x4,x5,x6⟩:=xq;obtain⟨y0,y1,y2,y3,y4,y5,y6⟩:=xx;go_wp2_with fail;refine bodyPost_ret (aA rfl rfl rfl ((JAt.mk y0 y1 y2 y3 y4 y5 y6).set3 _ _ _)) rfl ⟨rfl,ae q5 (wh _) _ _ _⟩
theorem gQ (s Lo X Y T:ByteArray) (m:Nat) (w:World)
  (C1:∀w,Calls prog 172 #[.string s,.int .u8 47] w fun e w'=>e=.returned (.int .i64 (-1))∧w'=w)
  (C2:∀w,Calls prog 173 #[.string s] w (Ret w (.string Lo)))
  (C3:∀w,Calls prog 172 #[.string Lo,.int .u8 64] w fun e w'=>e=.returned (.int .i64 m)∧w'=w)
  (xI:Lo.size≤10000)
  (xN:m<Lo.size) (hX:Lo.extract 0 m=X) (hY:Lo.extract (m+1) Lo.size=Y)
  (CM:∀w,Calls prog 168 #[jV X Y ⟨#[]⟩] w (Ret w (.bool true)))
  (CT:∀w,Calls prog 128 #[jV X Y ⟨#[]⟩] w (Ret w (.string T)))
  (hE:(T.toList==Lo.toList)=true):
  Calls prog 127 #[.string s] w (Ret w (.tuple #[jV X Y ⟨#[]⟩,.int .i64 0])):=by
 obtain⟨kr,kj⟩:=JAt.two w ⟨#[]⟩ ⟨#[]⟩ ⟨#[]⟩ ⟨#[]⟩ ⟨#[]⟩ ⟨#[]⟩;have q0:=((bR w).alloc (wh _) (.cells #[.string ⟨#[]⟩,.string ⟨#[]⟩,.string ⟨#[]⟩] 117)).alloc (by simp) (.cells #[.string ⟨#[]⟩,.string ⟨#[]⟩,.string ⟨#[]⟩] 117);have H1:=h_ C1;have H2:=h_ C2;have H3:=h_ C3;have HM:=h_ CM;have HT:=h_ CT
 have n2:(⟨#[47]⟩:ByteArray).size=1:=rfl
 clear C1 C2 C3 CM CT;go_enter func127,ntmps127;go_wp2_with fail;refine(H1.out _).mono ?_;rintro e w1 ⟨rfl,rfl⟩;go_wp2_with fail;refine(H2.out _).mono ?_;rintro e w2 ⟨rfl,hb⟩;have xo:=kr.ret hb;have xp:=kj.ret hb;have q2:=q0.trans (hb.mono q0.size);clear hb kr kj q0;obtain⟨x0,x1,x2,x3,x4,x5,x6⟩:=id xp;obtain⟨y0,y1,y2,y3,y4,y5,y6⟩:=id xo;go_wp2_with fail;refine(H3.out _).mono ?_;rintro e w3 ⟨rfl,rfl⟩;have xr:=xo.other (M:=w.heap.size+1) (o:=1) (by omega) (.string Lo);have xt:=xp.set1 Lo;have q3:=q2.setCell (p:=⟨w.heap.size+1,1,none⟩) (wo _) (.string Lo);clear xo xp q2;have xu:=(xr.other (M:=w.heap.size+1) (o:=0) (by omega) (.string X)).other (M:=w.heap.size+1) (o:=1) (by omega) (.string Y);have xw:=(xt.set0 X).set1 Y;have q4:=(q3.setCell (p:=⟨w.heap.size+1,0,none⟩) (wo _) (.string X)).setCell (p:=⟨w.heap.size+1,1,none⟩) (wo _) (.string Y);clear xr xt q3;go_wp2_with fail;refine(HM.out _).mono ?_;rintro e w5 ⟨rfl,hb⟩;have xx:=xu.ret hb;have xq:=xw.ret hb;have q5:=q4.trans (hb.mono q4.size);clear hb xu xw q4 x0 x1 x2 x3 x4 x5 x6 y0 y1 y2 y3 y4 y5 y6;obtain⟨x0,x1,x2,x3,x4,x5,x6⟩:=id xq;go_wp2_with fail;refine(HT.out _).mono ?_;rintro e w6 ⟨rfl,hb⟩;have xD:=xx.ret hb;have xE:=xq.ret hb;have q6:=q5.trans (hb.mono q5.size);clear hb xx xq q5 x0 x1 x2 x3 x4 x5 x6;obtain⟨x0,x1,x2,x3,x4,x5,x6⟩:=xE;obtain⟨y0,y1,y2,y3,y4,y5,y6⟩:=xD;go_wp2_with fail;refine bodyPost_ret (aA rfl rfl rfl ((JAt.mk y0 y1 y2 y3 y4 y5 y6).set3 _ _ _)) rfl ⟨rfl,ae q6 (wh _) _ _ _⟩
theorem gR (s Lo X Y T:ByteArray) (m:Nat) (w:World)
  (C1:∀w,Calls prog 172 #[.string s,.int .u8 47] w fun e w'=>e=.returned (.int .i64 (-1))∧w'=w)
  (C2:∀w,Calls prog 173 #[.string s] w (Ret w (.string Lo)))
  (C3:∀w,Calls prog 172 #[.string Lo,.int .u8 64] w fun e w'=>e=.returned (.int .i64 m)∧w'=w)
  (xI:Lo.size≤10000)
  (xN:m<Lo.size) (hX:Lo.extract 0 m=X) (hY:Lo.extract (m+1) Lo.size=Y)
  (CM:∀w,Calls prog 168 #[jV X Y ⟨#[]⟩] w (Ret w (.bool true)))
  (CT:∀w,Calls prog 128 #[jV X Y ⟨#[]⟩] w (Ret w (.string T)))
  (hE:(T.toList==Lo.toList)=false):
  Calls prog 127 #[.string s] w (Ret w (.tuple #[jV ⟨#[]⟩ ⟨#[]⟩ ⟨#[]⟩,.int .i64 190])):=by
 obtain⟨kr,kj⟩:=JAt.two w ⟨#[]⟩ ⟨#[]⟩ ⟨#[]⟩ ⟨#[]⟩ ⟨#[]⟩ ⟨#[]⟩;have q0:=((bR w).alloc (wh _) (.cells #[.string ⟨#[]⟩,.string ⟨#[]⟩,.string ⟨#[]⟩] 117)).alloc (by simp) (.cells #[.string ⟨#[]⟩,.string ⟨#[]⟩,.string ⟨#[]⟩] 117);have H1:=h_ C1;have H2:=h_ C2;have H3:=h_ C3;have HM:=h_ CM;have HT:=h_ CT
 have n2:(⟨#[47]⟩:ByteArray).size=1:=rfl
 clear C1 C2 C3 CM CT;go_enter func127,ntmps127;go_wp2_with fail;refine(H1.out _).mono ?_;rintro e w1 ⟨rfl,rfl⟩;go_wp2_with fail;refine(H2.out _).mono ?_;rintro e w2 ⟨rfl,hb⟩;have xo:=kr.ret hb;have xp:=kj.ret hb;have q2:=q0.trans (hb.mono q0.size);clear hb kr kj q0;obtain⟨x0,x1,x2,x3,x4,x5,x6⟩:=id xp;obtain⟨y0,y1,y2,y3,y4,y5,y6⟩:=id xo;go_wp2_with fail;refine(H3.out _).mono ?_;rintro e w3 ⟨rfl,rfl⟩;have xr:=xo.other (M:=w.heap.size+1) (o:=1) (by omega) (.string Lo);have xt:=xp.set1 Lo;have q3:=q2.setCell (p:=⟨w.heap.size+1,1,none⟩) (wo _) (.string Lo);clear xo xp q2;have xu:=(xr.other (M:=w.heap.size+1) (o:=0) (by omega) (.string X)).other (M:=w.heap.size+1) (o:=1) (by omega) (.string Y);have xw:=(xt.set0 X).set1 Y;have q4:=(q3.setCell (p:=⟨w.heap.size+1,0,none⟩) (wo _) (.string X)).setCell (p:=⟨w.heap.size+1,1,none⟩) (wo _) (.string Y);clear xr xt q3;go_wp2_with fail;refine(HM.out _).mono ?_;rintro e w5 ⟨rfl,hb⟩;have xx:=xu.ret hb;have xq:=xw.ret hb;have q5:=q4.trans (hb.mono q4.size);clear hb xu xw q4 x0 x1 x2 x3 x4 x5 x6 y0 y1 y2 y3 y4 y5 y6;obtain⟨x0,x1,x2,x3,x4,x5,x6⟩:=id xq;go_wp2_with fail;refine(HT.out _).mono ?_;rintro e w6 ⟨rfl,hb⟩;have xD:=xx.ret hb;have xE:=xq.ret hb;have q6:=q5.trans (hb.mono q5.size);clear hb xx xq q5 x0 x1 x2 x3 x4 x5 x6;obtain⟨x0,x1,x2,x3,x4,x5,x6⟩:=xE;obtain⟨y0,y1,y2,y3,y4,y5,y6⟩:=xD;go_wp2_with fail;refine bodyPost_ret (aA rfl rfl rfl ((JAt.mk y0 y1 y2 y3 y4 y5 y6).set3 _ _ _)) rfl ⟨rfl,ae q6 (wh _) _ _ _⟩
theorem jj (s Lo X Y:ByteArray) (m:Nat) (w:World)
  (C1:∀w,Calls prog 172 #[.string s,.int .u8 47] w fun e w'=>e=.returned (.int .i64 (-1))∧w'=w)
  (C2:∀w,Calls prog 173 #[.string s] w (Ret w (.string Lo)))
  (C3:∀w,Calls prog 172 #[.string Lo,.int .u8 64] w fun e w'=>e=.returned (.int .i64 m)∧w'=w)
  (xI:Lo.size≤10000)
  (xN:m<Lo.size) (hX:Lo.extract 0 m=X) (hY:Lo.extract (m+1) Lo.size=Y)
  (CM:∀w,Calls prog 168 #[jV X Y ⟨#[]⟩] w (Ret w (.bool false))):
  Calls prog 127 #[.string s] w (Ret w (.tuple #[jV ⟨#[]⟩ ⟨#[]⟩ ⟨#[]⟩,.int .i64 190])):=by
 obtain⟨kr,kj⟩:=JAt.two w ⟨#[]⟩ ⟨#[]⟩ ⟨#[]⟩ ⟨#[]⟩ ⟨#[]⟩ ⟨#[]⟩;have q0:=((bR w).alloc (wh _) (.cells #[.string ⟨#[]⟩,.string ⟨#[]⟩,.string ⟨#[]⟩] 117)).alloc (by simp) (.cells #[.string ⟨#[]⟩,.string ⟨#[]⟩,.string ⟨#[]⟩] 117);have H1:=h_ C1;have H2:=h_ C2;have H3:=h_ C3;have HM:=h_ CM
 have n2:(⟨#[47]⟩:ByteArray).size=1:=rfl
 clear C1 C2 C3 CM;go_enter func127,ntmps127;go_wp2_with fail;refine(H1.out _).mono ?_;rintro e w1 ⟨rfl,rfl⟩;go_wp2_with fail;refine(H2.out _).mono ?_;rintro e w2 ⟨rfl,hb⟩;have xo:=kr.ret hb;have xp:=kj.ret hb;have q2:=q0.trans (hb.mono q0.size);clear hb kr kj q0;obtain⟨x0,x1,x2,x3,x4,x5,x6⟩:=id xp;obtain⟨y0,y1,y2,y3,y4,y5,y6⟩:=id xo;go_wp2_with fail;refine(H3.out _).mono ?_;rintro e w3 ⟨rfl,rfl⟩;have xr:=xo.other (M:=w.heap.size+1) (o:=1) (by omega) (.string Lo);have xt:=xp.set1 Lo;have q3:=q2.setCell (p:=⟨w.heap.size+1,1,none⟩) (wo _) (.string Lo);clear xo xp q2;have xu:=(xr.other (M:=w.heap.size+1) (o:=0) (by omega) (.string X)).other (M:=w.heap.size+1) (o:=1) (by omega) (.string Y);have xw:=(xt.set0 X).set1 Y;have q4:=(q3.setCell (p:=⟨w.heap.size+1,0,none⟩) (wo _) (.string X)).setCell (p:=⟨w.heap.size+1,1,none⟩) (wo _) (.string Y);clear xr xt q3;go_wp2_with fail;refine(HM.out _).mono ?_;rintro e w5 ⟨rfl,hb⟩;have xx:=xu.ret hb;have xq:=xw.ret hb;have q5:=q4.trans (hb.mono q4.size);clear hb xu xw q4 x0 x1 x2 x3 x4 x5 x6 y0 y1 y2 y3 y4 y5 y6;obtain⟨x0,x1,x2,x3,x4,x5,x6⟩:=xq;obtain⟨y0,y1,y2,y3,y4,y5,y6⟩:=xx;go_wp2_with fail;refine bodyPost_ret (aA rfl rfl rfl ((JAt.mk y0 y1 y2 y3 y4 y5 y6).set3 _ _ _)) rfl ⟨rfl,ae q5 (wh _) _ _ _⟩
theorem gD (s Lo T:ByteArray) (w:World)
  (C1:∀w,Calls prog 172 #[.string s,.int .u8 47] w fun e w'=>e=.returned (.int .i64 (-1))∧w'=w)
  (C2:∀w,Calls prog 173 #[.string s] w (Ret w (.string Lo)))
  (C3:∀w,Calls prog 172 #[.string Lo,.int .u8 64] w fun e w'=>e=.returned (.int .i64 (-1))∧w'=w)
  (CM:∀w,Calls prog 168 #[jV ⟨#[]⟩ Lo ⟨#[]⟩] w (Ret w (.bool true)))
  (CT:∀w,Calls prog 128 #[jV ⟨#[]⟩ Lo ⟨#[]⟩] w (Ret w (.string T)))
  (hE:(T.toList==Lo.toList)=true):
  Calls prog 127 #[.string s] w (Ret w (.tuple #[jV ⟨#[]⟩ Lo ⟨#[]⟩,.int .i64 0])):=by
 obtain⟨kr,kj⟩:=JAt.two w ⟨#[]⟩ ⟨#[]⟩ ⟨#[]⟩ ⟨#[]⟩ ⟨#[]⟩ ⟨#[]⟩;have q0:=((bR w).alloc (wh _) (.cells #[.string ⟨#[]⟩,.string ⟨#[]⟩,.string ⟨#[]⟩] 117)).alloc (by simp) (.cells #[.string ⟨#[]⟩,.string ⟨#[]⟩,.string ⟨#[]⟩] 117);have H1:=h_ C1;have H2:=h_ C2;have H3:=h_ C3;have HM:=h_ CM;have HT:=h_ CT
 have n2:(⟨#[47]⟩:ByteArray).size=1:=rfl
 clear C1 C2 C3 CM CT;go_enter func127,ntmps127;go_wp2_with fail;refine(H1.out _).mono ?_;rintro e w1 ⟨rfl,rfl⟩;go_wp2_with fail;refine(H2.out _).mono ?_;rintro e w2 ⟨rfl,hb⟩;have xo:=kr.ret hb;have xp:=kj.ret hb;have q2:=q0.trans (hb.mono q0.size);clear hb kr kj q0;obtain⟨x0,x1,x2,x3,x4,x5,x6⟩:=id xp;obtain⟨y0,y1,y2,y3,y4,y5,y6⟩:=id xo;go_wp2_with fail;refine(H3.out _).mono ?_;rintro e w3 ⟨rfl,rfl⟩;have xr:=xo.other (M:=w.heap.size+1) (o:=1) (by omega) (.string Lo);have xt:=xp.set1 Lo;have q3:=q2.setCell (p:=⟨w.heap.size+1,1,none⟩) (wo _) (.string Lo);clear xo xp q2;have xu:=xr;have xw:=xt;have q4:=q3;clear xr xt q3;go_wp2_with fail;refine(HM.out _).mono ?_;rintro e w5 ⟨rfl,hb⟩;have xx:=xu.ret hb;have xq:=xw.ret hb;have q5:=q4.trans (hb.mono q4.size);clear hb xu xw q4 x0 x1 x2 x3 x4 x5 x6 y0 y1 y2 y3 y4 y5 y6;obtain⟨x0,x1,x2,x3,x4,x5,x6⟩:=id xq;go_wp2_with fail;refine(HT.out _).mono ?_;rintro e w6 ⟨rfl,hb⟩;have xD:=xx.ret hb;have xE:=xq.ret hb;have q6:=q5.trans (hb.mono q5.size);clear hb xx xq q5 x0 x1 x2 x3 x4 x5 x6;obtain⟨x0,x1,x2,x3,x4,x5,x6⟩:=xE;obtain⟨y0,y1,y2,y3,y4,y5,y6⟩:=xD;go_wp2_with fail;refine bodyPost_ret (aA rfl rfl rfl ((JAt.mk y0 y1 y2 y3 y4 y5 y6).set3 _ _ _)) rfl ⟨rfl,ae q6 (wh _) _ _ _⟩
theorem gI (s Lo T:ByteArray) (w:World)
  (C1:∀w,Calls prog 172 #[.string s,.int .u8 47] w fun e w'=>e=.returned (.int .i64 (-1))∧w'=w)
  (C2:∀w,Calls prog 173 #[.string s] w (Ret w (.string Lo)))
  (C3:∀w,Calls prog 172 #[.string Lo,.int .u8 64] w fun e w'=>e=.returned (.int .i64 (-1))∧w'=w)
  (CM:∀w,Calls prog 168 #[jV ⟨#[]⟩ Lo ⟨#[]⟩] w (Ret w (.bool true)))
  (CT:∀w,Calls prog 128 #[jV ⟨#[]⟩ Lo ⟨#[]⟩] w (Ret w (.string T)))
  (hE:(T.toList==Lo.toList)=false):
  Calls prog 127 #[.string s] w (Ret w (.tuple #[jV ⟨#[]⟩ ⟨#[]⟩ ⟨#[]⟩,.int .i64 190])):=by
 obtain⟨kr,kj⟩:=JAt.two w ⟨#[]⟩ ⟨#[]⟩ ⟨#[]⟩ ⟨#[]⟩ ⟨#[]⟩ ⟨#[]⟩;have q0:=((bR w).alloc (wh _) (.cells #[.string ⟨#[]⟩,.string ⟨#[]⟩,.string ⟨#[]⟩] 117)).alloc (by simp) (.cells #[.string ⟨#[]⟩,.string ⟨#[]⟩,.string ⟨#[]⟩] 117);have H1:=h_ C1;have H2:=h_ C2;have H3:=h_ C3;have HM:=h_ CM;have HT:=h_ CT
 have n2:(⟨#[47]⟩:ByteArray).size=1:=rfl
 clear C1 C2 C3 CM CT;go_enter func127,ntmps127;go_wp2_with fail;refine(H1.out _).mono ?_;rintro e w1 ⟨rfl,rfl⟩;go_wp2_with fail;refine(H2.out _).mono ?_;rintro e w2 ⟨rfl,hb⟩;have xo:=kr.ret hb;have xp:=kj.ret hb;have q2:=q0.trans (hb.mono q0.size);clear hb kr kj q0;obtain⟨x0,x1,x2,x3,x4,x5,x6⟩:=id xp;obtain⟨y0,y1,y2,y3,y4,y5,y6⟩:=id xo;go_wp2_with fail;refine(H3.out _).mono ?_;rintro e w3 ⟨rfl,rfl⟩;have xr:=xo.other (M:=w.heap.size+1) (o:=1) (by omega) (.string Lo);have xt:=xp.set1 Lo;have q3:=q2.setCell (p:=⟨w.heap.size+1,1,none⟩) (wo _) (.string Lo);clear xo xp q2;have xu:=xr;have xw:=xt;have q4:=q3;clear xr xt q3;go_wp2_with fail;refine(HM.out _).mono ?_;rintro e w5 ⟨rfl,hb⟩;have xx:=xu.ret hb;have xq:=xw.ret hb;have q5:=q4.trans (hb.mono q4.size);clear hb xu xw q4 x0 x1 x2 x3 x4 x5 x6 y0 y1 y2 y3 y4 y5 y6;obtain⟨x0,x1,x2,x3,x4,x5,x6⟩:=id xq;go_wp2_with fail;refine(HT.out _).mono ?_;rintro e w6 ⟨rfl,hb⟩;have xD:=xx.ret hb;have xE:=xq.ret hb;have q6:=q5.trans (hb.mono q5.size);clear hb xx xq q5 x0 x1 x2 x3 x4 x5 x6;obtain⟨x0,x1,x2,x3,x4,x5,x6⟩:=xE;obtain⟨y0,y1,y2,y3,y4,y5,y6⟩:=xD;go_wp2_with fail;refine bodyPost_ret (aA rfl rfl rfl ((JAt.mk y0 y1 y2 y3 y4 y5 y6).set3 _ _ _)) rfl ⟨rfl,ae q6 (wh _) _ _ _⟩
theorem jd (s Lo:ByteArray) (w:World)
  (C1:∀w,Calls prog 172 #[.string s,.int .u8 47] w fun e w'=>e=.returned (.int .i64 (-1))∧w'=w)
  (C2:∀w,Calls prog 173 #[.string s] w (Ret w (.string Lo)))
  (C3:∀w,Calls prog 172 #[.string Lo,.int .u8 64] w fun e w'=>e=.returned (.int .i64 (-1))∧w'=w)
  (CM:∀w,Calls prog 168 #[jV ⟨#[]⟩ Lo ⟨#[]⟩] w (Ret w (.bool false))):
  Calls prog 127 #[.string s] w (Ret w (.tuple #[jV ⟨#[]⟩ ⟨#[]⟩ ⟨#[]⟩,.int .i64 190])):=by
 obtain⟨kr,kj⟩:=JAt.two w ⟨#[]⟩ ⟨#[]⟩ ⟨#[]⟩ ⟨#[]⟩ ⟨#[]⟩ ⟨#[]⟩;have q0:=((bR w).alloc (wh _) (.cells #[.string ⟨#[]⟩,.string ⟨#[]⟩,.string ⟨#[]⟩] 117)).alloc (by simp) (.cells #[.string ⟨#[]⟩,.string ⟨#[]⟩,.string ⟨#[]⟩] 117);have H1:=h_ C1;have H2:=h_ C2;have H3:=h_ C3;have HM:=h_ CM
 have n2:(⟨#[47]⟩:ByteArray).size=1:=rfl
 clear C1 C2 C3 CM;go_enter func127,ntmps127;go_wp2_with fail;refine(H1.out _).mono ?_;rintro e w1 ⟨rfl,rfl⟩;go_wp2_with fail;refine(H2.out _).mono ?_;rintro e w2 ⟨rfl,hb⟩;have xo:=kr.ret hb;have xp:=kj.ret hb;have q2:=q0.trans (hb.mono q0.size);clear hb kr kj q0;obtain⟨x0,x1,x2,x3,x4,x5,x6⟩:=id xp;obtain⟨y0,y1,y2,y3,y4,y5,y6⟩:=id xo;go_wp2_with fail;refine(H3.out _).mono ?_;rintro e w3 ⟨rfl,rfl⟩;have xr:=xo.other (M:=w.heap.size+1) (o:=1) (by omega) (.string Lo);have xt:=xp.set1 Lo;have q3:=q2.setCell (p:=⟨w.heap.size+1,1,none⟩) (wo _) (.string Lo);clear xo xp q2;have xu:=xr;have xw:=xt;have q4:=q3;clear xr xt q3;go_wp2_with fail;refine(HM.out _).mono ?_;rintro e w5 ⟨rfl,hb⟩;have xx:=xu.ret hb;have xq:=xw.ret hb;have q5:=q4.trans (hb.mono q4.size);clear hb xu xw q4 x0 x1 x2 x3 x4 x5 x6 y0 y1 y2 y3 y4 y5 y6;obtain⟨x0,x1,x2,x3,x4,x5,x6⟩:=xq;obtain⟨y0,y1,y2,y3,y4,y5,y6⟩:=xx;go_wp2_with fail;refine bodyPost_ret (aA rfl rfl rfl ((JAt.mk y0 y1 y2 y3 y4 y5 y6).set3 _ _ _)) rfl ⟨rfl,ae q5 (wh _) _ _ _⟩
theorem fW (c:UInt8) (s:ByteArray) (h:s.data.toList.contains c=true):(cA c s.data.toList).length<s.size∧s.extract 0 (cA c s.data.toList).length=jB (cA c s.data.toList)∧s.extract ((cA c s.data.toList).length+1) s.size=jB (cR c s.data.toList):=by
 obtain⟨e,-⟩:=tg c s.data.toList (by simpa using h);have hl:=congrArg wA e;rw[ab,List.length_append,List.length_cons] at hl;refine⟨by omega,?_,?_⟩
 ·apply aW
  rw[jC,List.drop_zero,Nat.sub_zero,ah]
  conv=>lhs;rw[e]
  rw[List.take_append_of_le_length (by rw[←e];exact wh _),wu (by rw[←e];exact wh _)]
 ·apply aW
  rw[ef,ah]
  have:∀n,n=(cA c s.data.toList).length→s.data.toList.drop (n+1)=cR c s.data.toList:=fun n hn=>by
   conv=>lhs;rw[e]
   rw[hn,List.drop_append]
   simp
  exact this _ rfl
theorem fL (s:ByteArray) (w:World) (hs:s.size≤10000):Calls prog 127 #[.string s] w (Ret w (nI s.data.toList)):=by
 have C1:=fun w=>se s 47 w hs
 have hz:=ab s;have cf:=fW 47 s;obtain⟨l,hl⟩:=e_ s.data.toList;rw[hl] at C1 hz cf ⊢;have zA:=fR 47 l;have zR:=im 47 l;have xZ:=jf l;have zX:=fR 64 (bf l);have zY:=im 64 (bf l)
 have C3:=fun w=>se (jB (bf l)) 64 w (by rw[ai];first | omega | (rw[aU];omega))
 have xS:=fW 64 (jB (bf l));rw[ah] at C3 xS
 have C4:∀a b c:List UInt8,a.length≤10000→b.length≤10000→c.length≤10000→∀w:World,Calls prog 168 #[jV (jB a) (jB b) (jB c)] w (Ret w (.bool (bB a b c))):=by
  intro a b c za zb zc w;have:=lL (jB a) (jB b) (jB c) w (by rw[ai];exact za) (by rw[ai];exact zb) (by rw[ai];exact zc);rw[ah,ah,ah] at this;exact this
 have C5:∀a b c:List UInt8,a.length≤10000→b.length≤10000→c.length≤10000→∀w:World,Calls prog 128 #[jV (jB a) (jB b) (jB c)] w (Ret w (.string (jB (bC a b c)))):=by
  intro a b c za zb zc w;have:=dy (jB a) (jB b) (jB c) w (by rw[ai];exact za) (by rw[ai];exact zb) (by rw[ai];exact zc);rw[ah,ah,ah] at this;exact this
 have hp:=sM l
 have xT:(aO l).length≤10000:=by
  unfold aO
  split
  ·omega
  ·exact wt _
 have xU:(aZ l).length≤10000:=by
  unfold aZ
  split <;> omega
 have xV:(aP l).length≤10000:=by unfold aP;omega
 have CM:=C4 (aO l) (aZ l) (aP l) xT xU xV;have CT:=C5 (aO l) (aZ l) (aP l) xT xU xV;clear C4 C5;unfold nI
 have hW:∀W:ByteArray,W.data.toList=j8 l→((jB (bC (aO l) (aZ l) (aP l))).toList==W.toList)=decide (bC (aO l) (aZ l) (aP l)=j8 l):=fun W hWl=>tA _ _ _ _ (ah _) hWl
 unfold atP at C1 C3
 cases hh:(bf l).contains 64 with
 | true=>
  cases hb:l.contains 47 with
  | true=>
   rw[hb,if_pos rfl] at C1;obtain⟨a1,a2,a3⟩:=cf hb
   have C2:=fun w=>fA (jB (cA 47 l)) w (by rw[ai];first | omega | (rw[aU];omega))
   rw[ah] at C2;have eL:aO l=cA 64 (bf l):=(by unfold aO;rw[hh];rfl);have eD:aZ l=cR 64 (bf l):=(by unfold aZ;rw[hh];rfl);rw[hh,if_pos rfl] at C3;obtain⟨b1,b2,b3⟩:=xS hh;rw[eL,eD] at CM CT;have hq:=hW (jB (bf l)++⟨#[47]⟩++jB (cR 47 l)) (by unfold j8;rw[hb];simp[aP]);rw[eL,eD] at hp hq;rw[eL,eD]
   cases hc:bB (cA 64 (bf l)) (cR 64 (bf l)) (aP l) with
   | false=>
    rw[hc,wv] at hp;rw[hc] at CM;rw[←hp];exact ji s _ _ _ _ _ _ _ w C1 a1 hs a2 a3 C2 C3 (by rw[ai];first | omega | (rw[aU];omega)) b1 b2 b3 CM (by rw[ai];first | omega | (rw[aU];omega))
   | true=>
    rw[hc] at CM;rw[hc,ws] at hp;rw[hp] at hq
    cases he:cP l with
    | true=>
     rw[he] at hq;exact gE s _ _ _ _ _ _ _ _ _ w C1 a1 hs a2 a3 C2 C3 (by rw[ai];first | omega | (rw[aU];omega)) b1 b2 b3 CM (by rw[ai];first | omega | (rw[aU];omega)) CT rfl hq
    | false=>
     rw[he] at hq;exact gL s _ _ _ _ _ _ _ _ _ w C1 a1 hs a2 a3 C2 C3 (by rw[ai];first | omega | (rw[aU];omega)) b1 b2 b3 CM (by rw[ai];first | omega | (rw[aU];omega)) CT rfl hq
  | false=>
   rw[hb,if_neg (by decide)] at C1
   have eA:cA 47 l=l:=(ir 47 l (by simpa using hb)).1
   have eR:aP l=[]:=(ir 47 l (by simpa using hb)).2
   have C2:=fun w=>fA s w (by omega)
   rw[hl,show d8 l=bf l by unfold bf;rw[eA]] at C2;rw[eR] at CM CT;have eL:aO l=cA 64 (bf l):=(by unfold aO;rw[hh];rfl);have eD:aZ l=cR 64 (bf l):=(by unfold aZ;rw[hh];rfl);rw[hh,if_pos rfl] at C3;obtain⟨b1,b2,b3⟩:=xS hh;rw[eL,eD] at CM CT;have hq:=hW (jB (bf l)) (by unfold j8;rw[hb];simp);rw[eL,eD,eR] at hp hq;rw[eL,eD,eR]
   cases hc:bB (cA 64 (bf l)) (cR 64 (bf l)) [] with
   | false=>
    rw[hc,wv] at hp;rw[hc] at CM;rw[←hp];exact jj s _ _ _ _ w C1 C2 C3 (by rw[ai];first | omega | (rw[aU];omega)) b1 b2 b3 CM
   | true=>
    rw[hc] at CM;rw[hc,ws] at hp;rw[hp] at hq
    cases he:cP l with
    | true=>
     rw[he] at hq;exact gQ s _ _ _ _ _ w C1 C2 C3 (by rw[ai];first | omega | (rw[aU];omega)) b1 b2 b3 CM CT hq
    | false=>
     rw[he] at hq;exact gR s _ _ _ _ _ w C1 C2 C3 (by rw[ai];first | omega | (rw[aU];omega)) b1 b2 b3 CM CT hq
 | false=>
  cases hb:l.contains 47 with
  | true=>
   rw[hb,if_pos rfl] at C1;obtain⟨a1,a2,a3⟩:=cf hb
   have C2:=fun w=>fA (jB (cA 47 l)) w (by rw[ai];first | omega | (rw[aU];omega))
   rw[ah] at C2;have eL:aO l=[]:=(by unfold aO;rw[hh];rfl);have eD:aZ l=bf l:=(by unfold aZ;rw[hh];rfl);rw[hh,if_neg (by decide)] at C3;rw[eL,eD] at CM CT;have hq:=hW (jB (bf l)++⟨#[47]⟩++jB (cR 47 l)) (by unfold j8;rw[hb];simp[aP]);rw[eL,eD] at hp hq;rw[eL,eD]
   cases hc:bB [] (bf l) (aP l) with
   | false=>
    rw[hc,wv] at hp;rw[hc] at CM;rw[←hp];exact iS s _ _ _ _ w C1 a1 hs a2 a3 C2 C3 (by rw[ai];first | omega | (rw[aU];omega)) CM (by rw[ai];first | omega | (rw[aU];omega))
   | true=>
    rw[hc] at CM;rw[hc,ws] at hp;rw[hp] at hq
    cases he:cP l with
    | true=>
     rw[he] at hq;exact gM s _ _ _ _ _ _ w C1 a1 hs a2 a3 C2 C3 (by rw[ai];first | omega | (rw[aU];omega)) CM (by rw[ai];first | omega | (rw[aU];omega)) CT rfl hq
    | false=>
     rw[he] at hq;exact gK s _ _ _ _ _ _ w C1 a1 hs a2 a3 C2 C3 (by rw[ai];first | omega | (rw[aU];omega)) CM (by rw[ai];first | omega | (rw[aU];omega)) CT rfl hq
  | false=>
   rw[hb,if_neg (by decide)] at C1
   have eA:cA 47 l=l:=(ir 47 l (by simpa using hb)).1
   have eR:aP l=[]:=(ir 47 l (by simpa using hb)).2
   have C2:=fun w=>fA s w (by omega)
   rw[hl,show d8 l=bf l by unfold bf;rw[eA]] at C2;rw[eR] at CM CT;have eL:aO l=[]:=(by unfold aO;rw[hh];rfl);have eD:aZ l=bf l:=(by unfold aZ;rw[hh];rfl);rw[hh,if_neg (by decide)] at C3;rw[eL,eD] at CM CT;have hq:=hW (jB (bf l)) (by unfold j8;rw[hb];simp);rw[eL,eD,eR] at hp hq;rw[eL,eD,eR]
   cases hc:bB [] (bf l) [] with
   | false=>
    rw[hc,wv] at hp;rw[hc] at CM;rw[←hp];exact jd s _ w C1 C2 C3 CM
   | true=>
    rw[hc] at CM;rw[hc,ws] at hp;rw[hp] at hq
    cases he:cP l with
    | true=>
     rw[he] at hq;exact gD s _ _ w C1 C2 C3 CM CT hq
    | false=>
     rw[he] at hq;exact gI s _ _ w C1 C2 C3 CM CT hq
end Go.Proofs.YtjgeiieiinmdnaaGreatDoor
