/- JdX, JdY, JdV, JdZ: put together by mergetpl.py. -/
import Derived.Test.YtjgeiieiinmdnaaGreatDoorKf
import Derived.Test.YtjgeiieiinmdnaaGreatDoorKc
import Derived.Test.YtjgeiieiinmdnaaGreatDoorKe
import Derived.Test.YtjgeiieiinmdnaaGreatDoorKa
import Derived.Test.YtjgeiieiinmdnaaGreatDoorGb
open Go.Proofs.Tryz
open Bool renaming true_and→wu,false_and→wy,and_true→wD,and_eq_true→wE
open Go.Lib renaming toList_data→wt
open List renaming take_of_length_le→ww,take_append_drop→wz,all_append→wA,eq_nil_of_length_eq_zero→wB,length→wC,isEmpty_iff→wF
open Nat renaming le_refl→wq,le_succ→ws,zero_le→wv
namespace Go.Proofs.YtjgeiieiinmdnaaGreatDoor
set_option maxHeartbeats 4000000
set_option maxRecDepth 100000
open Go.RowKit Go.Lib

theorem jm (c:UInt8) (w:World):Calls prog 243 #[.int .u8 (c.toNat:Int)] w fun e w'=>e=.returned (.bool (jdA c))∧w'=w:=by
 have hc:=c.toNat_lt
 have hj:jdA c=((decide (97≤c.toNat)&&decide (c.toNat≤122))||(decide (48≤c.toNat)&&decide (c.toNat≤57))):=rfl
 rw[hj];obtain⟨n,hn⟩:=e_ c.toNat;rw[hn] at hc ⊢;clear hj hn
 by_cases h1:97≤n
 ·by_cases h2:n≤122
  ·rw[show ((decide (97≤n)&&decide (n≤122))||(decide (48≤n)&&decide (n≤57)))=true by simp;omega]
   have g0:((97:Int)≤n)=True:=eq_true (by omega)
   have g1:((n:Int)≤122)=True:=eq_true (by omega)
   go_enter func243,ntmps243;go_wp2_with fail;go_ret;exact⟨by first | rfl | (apply bY;simp;omega),rfl⟩
  ·rw[show ((decide (97≤n)&&decide (n≤122))||(decide (48≤n)&&decide (n≤57)))=false by simp;omega]
   have g0:((97:Int)≤n)=True:=eq_true (by omega)
   have g1:((n:Int)≤122)=False:=eq_false (by omega)
   have g2:((48:Int)≤n)=True:=eq_true (by omega)
   have g3:((n:Int)≤57)=False:=eq_false (by omega)
   go_enter func243,ntmps243;go_wp2_with fail;go_ret;exact⟨by first | rfl | (apply bY;simp;omega),rfl⟩
 ·by_cases h3:48≤n
  ·by_cases h4:n≤57
   ·rw[show ((decide (97≤n)&&decide (n≤122))||(decide (48≤n)&&decide (n≤57)))=true by simp;omega]
    have g0:((97:Int)≤n)=False:=eq_false (by omega)
    have g1:((48:Int)≤n)=True:=eq_true (by omega)
    have g2:((n:Int)≤57)=True:=eq_true (by omega)
    go_enter func243,ntmps243;go_wp2_with fail;go_ret;exact⟨by first | rfl | (apply bY;simp;omega),rfl⟩
   ·rw[show ((decide (97≤n)&&decide (n≤122))||(decide (48≤n)&&decide (n≤57)))=false by simp;omega]
    have g0:((97:Int)≤n)=False:=eq_false (by omega)
    have g1:((48:Int)≤n)=True:=eq_true (by omega)
    have g2:((n:Int)≤57)=False:=eq_false (by omega)
    go_enter func243,ntmps243;go_wp2_with fail;go_ret;exact⟨by first | rfl | (apply bY;simp;omega),rfl⟩
  ·rw[show ((decide (97≤n)&&decide (n≤122))||(decide (48≤n)&&decide (n≤57)))=false by simp;omega]
   have g0:((97:Int)≤n)=False:=eq_false (by omega)
   have g1:((48:Int)≤n)=False:=eq_false (by omega)
   go_enter func243,ntmps243;go_wp2_with fail;go_ret;exact⟨by first | rfl | (apply bY;simp;omega),rfl⟩
theorem iC {q:UInt8→Bool} (s:ByteArray) (k:Nat) (hlt:k<s.size) (h:q s[k]=false):s.data.toList.all q=false:=by
 rw[←wz (k+1) s.data.toList,wA,cC s k hlt,wA]
 simp[h]
theorem bc {q:UInt8→Bool} (s:ByteArray) (k:Nat) (hlt:k<s.size) (h:(s.data.toList.take k).all q=true) (hq:q s[k]=true):(s.data.toList.take (k+1)).all q=true:=by
 rw[cC s k hlt,wA,h]
 simp[hq]
theorem uR (c:UInt8) (n:Nat) (h:c.toNat=n) (hn:n<256):c=UInt8.ofNat n:=by
 apply UInt8.toNat_inj.1
 rw[h,UInt8.toNat_ofNat'];exact(Nat.mod_eq_of_lt hn).symm
theorem lE (c:UInt8) (h:c.toNat=46):jdL c=true∧jdD c=true∧jdA c=false:=by
 rw[uR c 46 h (by omega)];decide
theorem nf (c:UInt8) (h:c.toNat=45):jdL c=true∧jdD c=true∧jdA c=false:=by
 rw[uR c 45 h (by omega)];decide
theorem uy (c:UInt8) (h:c.toNat=95):jdL c=true∧jdA c=false:=by
 rw[uR c 95 h (by omega)];decide
theorem rI (c:UInt8) (h:jdA c=false) (h1:c.toNat≠46) (h2:c.toNat≠45):jdD c=false∧(c.toNat≠95→jdL c=false):=by
 have e1:(c==46)=false:=beq_eq_false_iff_ne.2 (fun e=>h1 (by rw[e];rfl))
 have e2:(c==45)=false:=beq_eq_false_iff_ne.2 (fun e=>h2 (by rw[e];rfl))
 have d:jdD c=false:=by unfold jdD;rw[h,e1,e2];rfl
 refine⟨d,fun h3=>?_⟩
 have e3:(c==95)=false:=beq_eq_false_iff_ne.2 (fun e=>h3 (by rw[e];rfl))
 unfold jdL;rw[d,e3];rfl
theorem r8 (c:UInt8) (h:jdA c=true):jdD c=true∧jdL c=true:=by
 have d:jdD c=true:=by unfold jdD;rw[h];rfl
 exact⟨d,uv c d⟩
theorem ud (c:UInt8) (h:jdA c=true):c.toNat≠46:=fun e=>by have:=(lE c e).2.2;rw[h] at this;cases this
theorem fB:∀(l:List UInt8) (c:UInt8),bo (l++[c])=(bo l||(!l.isEmpty&&(l.getLastD 0==46&&c==46)))
 | [],_=>rfl
 | [a],c=>by simp[bo]
 | a :: b :: l,c=>by
  show (_||bo ((b :: l)++[c]))=((_||bo (b :: l))||_)
  rw[fB (b :: l) c,Bool.or_assoc]
  congr 2
theorem pc (l r:List UInt8) (h:bo l=true):bo (l++r)=true:=by
 induction r generalizing l with
 | nil=>rwa [List.append_nil]
 | cons a r ih=>
  rw[List.append_cons];exact ih _ (by rw[fB,h];rfl)
theorem o6 (s:ByteArray) (k:Nat) (hlt:k<s.size):bo (s.data.toList.take (k+1))=(bo (s.data.toList.take k)||(decide (0<k)&&(s[k-1]'(by omega)==46&&s[k]==46))):=by
 rw[cC s k hlt,fB]
 congr 1
 cases k with
 | zero=>rfl
 | succ j=>
  have hj:j<s.size:=by omega
  rw[cC s j hj]
  have e1:(s.data.toList.take j++[s[j]]).isEmpty=false:=by simp
  have e2:(s.data.toList.take j++[s[j]]).getLastD 0=s[j]:=by simp[List.getLastD_eq_getLast?]
  rw[e1,e2,decide_eq_true (Nat.succ_pos j)]
  rfl
theorem n6 (s:ByteArray) (w:World) (hs:s.size≤10000):Calls prog 208 #[.string s] w fun e w'=>e=.returned (.bool (iX s.data.toList))∧w'=w:=by
 have P:=h_ jm;obtain⟨O,hO⟩:=e_ (iX s.data.toList);rw[hO];have HO:=h_ hO;clear hO;go_enter func208,ntmps208;go_wp2_with fail;go_loop [3] (fun i=>∃k:Nat,k≤s.size∧i=.int .i64 k∧(s.data.toList.take k).all jdL=true) (fun i=>s.size-(intOf i).toNat)
 case atStart=>exact⟨0,wv _,rfl,rfl⟩
 case round=>
  obtain⟨k,hk,rfl,hall⟩:=hrel
  by_cases hlt:k<s.size
  ·have hc:=s[k].toNat_lt
   have P1:=fun w=>P.out s[k] w
   cases hA:jdA s[k] with
   | true=>
    rw[hA] at P1
    have hL:jdL s[k]=true:=(r8 _ hA).2
    have HS:=h_ (bc s k hlt hall hL);have PH:=h_ P1;clear P1 hL hA hall
    (try clear h1)
    (try clear h2)
    (try clear h3)
    go_wp2_with fail;refine(PH.out _).mono ?_;rintro e w1 ⟨rfl,rfl⟩;go_wp2_with fail;go_round
    case rel=>exact⟨k+1,by omega,by go_num,HS.out⟩
    case measure=>simp[intOf];omega
   | false=>
    rw[hA] at P1
    by_cases h1:s[k].toNat=46
    ·have hL:jdL s[k]=true:=(lE _ h1).1
     have HS:=h_ (bc s k hlt hall hL)
     have e46:((s[k].toNat:Int)==46)=true:=beq_iff_eq.2 (by omega)
     have f46:((s[k].toNat:Int) != 46)=false:=(by unfold bne;rw[e46];rfl);have PH:=h_ P1;clear P1 hL hA hall
     (try clear h1)
     (try clear h2)
     (try clear h3)
     go_wp2_with fail;refine(PH.out _).mono ?_;rintro e w1 ⟨rfl,rfl⟩;go_wp2_with fail;go_round
     case rel=>exact⟨k+1,by omega,by go_num,HS.out⟩
     case measure=>simp[intOf];omega
    ·by_cases h2:s[k].toNat=45
     ·have hL:jdL s[k]=true:=(nf _ h2).1
      have HS:=h_ (bc s k hlt hall hL)
      have e46:((s[k].toNat:Int)==46)=false:=beq_eq_false_iff_ne.2 (by omega)
      have f46:((s[k].toNat:Int) != 46)=true:=(by unfold bne;rw[e46];rfl)
      have e45:((s[k].toNat:Int)==45)=true:=beq_iff_eq.2 (by omega)
      have f45:((s[k].toNat:Int) != 45)=false:=(by unfold bne;rw[e45];rfl);have PH:=h_ P1;clear P1 hL hA hall
      (try clear h1)
      (try clear h2)
      (try clear h3)
      go_wp2_with fail;refine(PH.out _).mono ?_;rintro e w1 ⟨rfl,rfl⟩;go_wp2_with fail;go_round
      case rel=>exact⟨k+1,by omega,by go_num,HS.out⟩
      case measure=>simp[intOf];omega
     ·by_cases h3:s[k].toNat=95
      ·have hL:jdL s[k]=true:=(uy _ h3).1
       have HS:=h_ (bc s k hlt hall hL)
       have e46:((s[k].toNat:Int)==46)=false:=beq_eq_false_iff_ne.2 (by omega)
       have f46:((s[k].toNat:Int) != 46)=true:=(by unfold bne;rw[e46];rfl)
       have e45:((s[k].toNat:Int)==45)=false:=beq_eq_false_iff_ne.2 (by omega)
       have f45:((s[k].toNat:Int) != 45)=true:=(by unfold bne;rw[e45];rfl)
       have e95:((s[k].toNat:Int)==95)=true:=beq_iff_eq.2 (by omega)
       have f95:((s[k].toNat:Int) != 95)=false:=(by unfold bne;rw[e95];rfl);have PH:=h_ P1;clear P1 hL hA hall
       (try clear h1)
       (try clear h2)
       (try clear h3)
       go_wp2_with fail;refine(PH.out _).mono ?_;rintro e w1 ⟨rfl,rfl⟩;go_wp2_with fail;go_round
       case rel=>exact⟨k+1,by omega,by go_num,HS.out⟩
       case measure=>simp[intOf];omega
      ·have hn : O = false := by rw [← HO.out]; unfold iX; rw [iC s k hlt ((rI _ hA h1 h2).2 h3)]; simp
       subst hn
       have e46:((s[k].toNat:Int)==46)=false:=beq_eq_false_iff_ne.2 (by omega)
       have f46:((s[k].toNat:Int) != 46)=true:=(by unfold bne;rw[e46];rfl)
       have e45:((s[k].toNat:Int)==45)=false:=beq_eq_false_iff_ne.2 (by omega)
       have f45:((s[k].toNat:Int) != 45)=true:=(by unfold bne;rw[e45];rfl)
       have e95:((s[k].toNat:Int)==95)=false:=beq_eq_false_iff_ne.2 (by omega)
       have f95:((s[k].toNat:Int) != 95)=true:=(by unfold bne;rw[e95];rfl);have PH:=h_ P1;clear P1 hA hall h1 h2 h3;go_wp2_with fail;refine(PH.out _).mono ?_;rintro e w1 ⟨rfl,rfl⟩;go_wp2_with fail;go_ret;exact⟨rfl,rfl⟩
  ·have hfull:s.data.toList.all jdL=true:=by
    rw[ww (by rw[ab];omega)] at hall;exact hall
   have hO:=HO.out;unfold iX at hO;rw[hfull,ab,wD] at hO;clear HO hfull hall
   by_cases h0:0<s.size
   ·have e3 : s.data.toList.isEmpty = false := by rw [← wt]; exact am h0
    rw[e3] at hO;have g0:1≤s.size:=h0;clear e3
    by_cases h64:s.size≤64
    ·rw[decide_eq_true h64] at hO
     subst hO;have g1:((1:Int)≤s.size):=(by omega);have g2:((s.size:Int)≤64):=(by omega);go_wp2_with fail;go_ret;exact⟨rfl,rfl⟩
    ·rw[decide_eq_false h64] at hO
     subst hO;have g1:((1:Int)≤s.size):=(by omega);have g2:¬ ((s.size:Int)≤64):=(by omega);go_wp2_with fail;go_ret;exact⟨rfl,rfl⟩
   ·obtain rfl:s=⟨#[]⟩:=aR (wB (by rw[ab];omega))
    have:O=false:=(by rw[←hO];rfl);subst this;clear hO h0;go_wp2_with fail;go_ret;exact⟨rfl,rfl⟩
theorem mI (s:ByteArray) (w:World) (hs:s.size≤10000):Calls prog 207 #[.string s] w fun e w'=>e=.returned (.bool (eQ s.data.toList))∧w'=w:=by
 have P:=h_ jm;obtain⟨O,hO⟩:=e_ (eQ s.data.toList);rw[hO]
 by_cases h0:0<s.size
 ·have e3 : s.data.toList.isEmpty = false := by rw [← wt]; exact am h0
  have g0:¬ ((s.size:Int)<1):=by omega
  unfold eQ at hO;rw[e3,ab,jp s h0,jw s h0] at hO;clear e3
  by_cases h64:s.size≤64
  ·rw[decide_eq_true h64] at hO
   have g1:¬ ((64:Int)<s.size):=(by omega);have hl:s.size-1<s.size:=(by omega);have hk1:((s.size:Int)-1)=((s.size-1:Nat):Int):=(by omega)
   have P1:=fun w=>P.out s[0] w
   have P2:=fun w=>P.out (s[s.size-1]'hl) w
   cases ha:jdA s[0] with
   | false=>
    have:O=false:=(by rw[←hO,ha];simp);subst this;rw[ha] at P1;have PH:=h_ P1;clear P1 P2 hO ha hk1;go_enter func207,ntmps207;go_wp2_with fail;refine(PH.out _).mono ?_;rintro e w1 ⟨rfl,rfl⟩;go_wp2_with fail;go_ret;exact⟨rfl,rfl⟩
   | true=>
    rw[ha] at P1;have PH:=h_ P1
    cases hb:jdA (s[s.size-1]'hl) with
    | false=>
     have:O=false:=(by rw[←hO,hb];simp);subst this;rw[hb] at P2;have PH2:=h_ P2;clear P1 P2 hO ha hb;go_enter func207,ntmps207;go_wp2_with fail;refine(PH.out _).mono ?_;rintro e w1 ⟨rfl,rfl⟩;go_wp2_with fail;refine(PH2.out _).mono ?_;rintro e w1 ⟨rfl,rfl⟩;go_wp2_with fail;go_ret;exact⟨rfl,rfl⟩
    | true=>
     rw[hb] at P2;have PH2:=h_ P2;rw[ha,hb] at hO
     have HO:Hid ((s.data.toList.all jdD&&!bo s.data.toList)=O):=h_ (by rw[←hO];simp)
     clear P1 P2 hO ha hb;go_enter func207,ntmps207;go_wp2_with fail;refine(PH.out _).mono ?_;rintro e w1 ⟨rfl,rfl⟩;go_wp2_with fail;refine(PH2.out _).mono ?_;rintro e w1 ⟨rfl,rfl⟩;go_wp2_with fail;clear hk1;go_loop [3] (fun i=>∃k:Nat,k≤s.size∧i=.int .i64 k∧(s.data.toList.take k).all jdD=true∧bo (s.data.toList.take k)=false) (fun i=>s.size-(intOf i).toNat)
     case atStart=>exact⟨0,wv _,rfl,rfl,rfl⟩
     case round=>
      obtain⟨k,hk,rfl,hall,hdot⟩:=hrel
      by_cases hlt:k<s.size
      ·have hc:=s[k].toNat_lt
       have P1:=fun w=>P.out s[k] w
       have hds:=o6 s k hlt;rw[hdot,Bool.false_or] at hds
       cases hA:jdA s[k] with
       | true=>
        rw[hA] at P1;have h46:=ud _ hA
        have q46:(s[k]==46)=false:=beq_eq_false_iff_ne.2 (fun e=>h46 (by rw[e];rfl))
        by_cases hk0:0<k
        ·have gk : (0 : Int) < k := by omega
         have hD:jdD s[k]=true:=(r8 _ hA).1
         have HS:=h_ (bc s k hlt hall hD)
         have hdd:bo (s.data.toList.take (k+1))=false:=hds.trans (by rw[q46];simp)
         have HD:=h_ hdd;clear hD hdd
         have e46:((s[k].toNat:Int)==46)=false:=beq_eq_false_iff_ne.2 (by omega)
         have f46:((s[k].toNat:Int) != 46)=true:=(by unfold bne;rw[e46];rfl);have PH:=h_ P1;clear P1 hA hall hdot hds
         (try clear h1)
         (try clear h2)
         (try clear h46)
         (try clear q46)
         (try clear r46)
         go_wp2_with fail;refine(PH.out _).mono ?_;rintro e w1 ⟨rfl,rfl⟩;go_wp2_with fail;go_round
         case rel=>exact⟨k+1,by omega,by go_num,HS.out,HD.out⟩
         case measure=>simp[intOf];omega
        ·have gk:((0:Int)<(k:Int))=False:=eq_false (by omega)
         have hD:jdD s[k]=true:=(r8 _ hA).1
         have HS:=h_ (bc s k hlt hall hD)
         have hdd:bo (s.data.toList.take (k+1))=false:=hds.trans (by rw[q46];simp)
         have HD:=h_ hdd;clear hD hdd
         have e46:((s[k].toNat:Int)==46)=false:=beq_eq_false_iff_ne.2 (by omega)
         have f46:((s[k].toNat:Int) != 46)=true:=(by unfold bne;rw[e46];rfl);have PH:=h_ P1;clear P1 hA hall hdot hds
         (try clear h1)
         (try clear h2)
         (try clear h46)
         (try clear q46)
         (try clear r46)
         go_wp2_with fail;refine(PH.out _).mono ?_;rintro e w1 ⟨rfl,rfl⟩;go_wp2_with fail;go_round
         case rel=>exact⟨k+1,by omega,by go_num,HS.out,HD.out⟩
         case measure=>simp[intOf];omega
       | false=>
        rw[hA] at P1
        by_cases h1:s[k].toNat=46
        ·have q46:(s[k]==46)=true:=beq_iff_eq.2 (uR _ 46 h1 (by omega))
         by_cases hk0:0<k
         ·have gk : (0 : Int) < k := by omega
          have hkl:k-1<s.size:=(by omega);have hk1:((k:Int)-1)=((k-1:Nat):Int):=(by omega)
          by_cases h2:(s[k-1]'hkl).toNat=46
          ·have r46:(s[k-1]'hkl==46)=true:=beq_iff_eq.2 (uR _ 46 h2 (by omega))
           have hn:O=false:=by
            rw[←HO.out]
            have:bo s.data.toList=true:=by
             rw[←wz (k+1) s.data.toList];exact pc _ _ (by rw[hds,r46,q46,decide_eq_true hk0];rfl)
            rw[this];simp
           subst hn
           have e46:((s[k].toNat:Int)==46)=true:=beq_iff_eq.2 (by omega)
           have f46:((s[k].toNat:Int) != 46)=false:=(by unfold bne;rw[e46];rfl)
           have b46:(((s[k-1]'hkl).toNat:Int)==46)=true:=beq_iff_eq.2 (by omega)
           have PH:=h_ P1;clear P1 hA hall hdot hds
           (try clear h1)
           (try clear h2)
           (try clear h46)
           (try clear q46)
           (try clear r46)
           go_wp2_with fail;refine(PH.out _).mono ?_;rintro e w1 ⟨rfl,rfl⟩;go_wp2_with fail;go_ret;exact⟨rfl,rfl⟩
          ·have r46:(s[k-1]'hkl==46)=false:=beq_eq_false_iff_ne.2 (fun e=>h2 (by rw[e];rfl))
           have b46:(((s[k-1]'hkl).toNat:Int)==46)=false:=beq_eq_false_iff_ne.2 (by omega)
           have hD:jdD s[k]=true:=(lE _ h1).2.1
           have HS:=h_ (bc s k hlt hall hD)
           have hdd:bo (s.data.toList.take (k+1))=false:=hds.trans (by rw[r46];simp)
           have HD:=h_ hdd;clear hD hdd
           have e46:((s[k].toNat:Int)==46)=true:=beq_iff_eq.2 (by omega)
           have f46:((s[k].toNat:Int) != 46)=false:=(by unfold bne;rw[e46];rfl);have PH:=h_ P1;clear P1 hA hall hdot hds
           (try clear h1)
           (try clear h2)
           (try clear h46)
           (try clear q46)
           (try clear r46)
           go_wp2_with fail;refine(PH.out _).mono ?_;rintro e w1 ⟨rfl,rfl⟩;go_wp2_with fail;go_round
           case rel=>exact⟨k+1,by omega,by go_num,HS.out,HD.out⟩
           case measure=>simp[intOf];omega
         ·have gk:((0:Int)<(k:Int))=False:=eq_false (by omega)
          have hD:jdD s[k]=true:=(lE _ h1).2.1
          have HS:=h_ (bc s k hlt hall hD)
          have hdd:bo (s.data.toList.take (k+1))=false:=hds.trans (by rw[decide_eq_false hk0];rfl)
          have HD:=h_ hdd;clear hD hdd
          have e46:((s[k].toNat:Int)==46)=true:=beq_iff_eq.2 (by omega)
          have f46:((s[k].toNat:Int) != 46)=false:=(by unfold bne;rw[e46];rfl);have PH:=h_ P1;clear P1 hA hall hdot hds
          (try clear h1)
          (try clear h2)
          (try clear h46)
          (try clear q46)
          (try clear r46)
          go_wp2_with fail;refine(PH.out _).mono ?_;rintro e w1 ⟨rfl,rfl⟩;go_wp2_with fail;go_round
          case rel=>exact⟨k+1,by omega,by go_num,HS.out,HD.out⟩
          case measure=>simp[intOf];omega
        ·have q46:(s[k]==46)=false:=beq_eq_false_iff_ne.2 (fun e=>h1 (by rw[e];rfl))
         by_cases h2:s[k].toNat=45
         ·by_cases hk0:0<k
          ·have gk : (0 : Int) < k := by omega
           have hD:jdD s[k]=true:=(nf _ h2).2.1
           have HS:=h_ (bc s k hlt hall hD)
           have hdd:bo (s.data.toList.take (k+1))=false:=hds.trans (by rw[q46];simp)
           have HD:=h_ hdd;clear hD hdd
           have e46:((s[k].toNat:Int)==46)=false:=beq_eq_false_iff_ne.2 (by omega)
           have f46:((s[k].toNat:Int) != 46)=true:=(by unfold bne;rw[e46];rfl)
           have e45:((s[k].toNat:Int)==45)=true:=beq_iff_eq.2 (by omega)
           have f45:((s[k].toNat:Int) != 45)=false:=(by unfold bne;rw[e45];rfl);have PH:=h_ P1;clear P1 hA hall hdot hds
           (try clear h1)
           (try clear h2)
           (try clear h46)
           (try clear q46)
           (try clear r46)
           go_wp2_with fail;refine(PH.out _).mono ?_;rintro e w1 ⟨rfl,rfl⟩;go_wp2_with fail;go_round
           case rel=>exact⟨k+1,by omega,by go_num,HS.out,HD.out⟩
           case measure=>simp[intOf];omega
          ·have gk:((0:Int)<(k:Int))=False:=eq_false (by omega)
           have hD:jdD s[k]=true:=(nf _ h2).2.1
           have HS:=h_ (bc s k hlt hall hD)
           have hdd:bo (s.data.toList.take (k+1))=false:=hds.trans (by rw[q46];simp)
           have HD:=h_ hdd;clear hD hdd
           have e46:((s[k].toNat:Int)==46)=false:=beq_eq_false_iff_ne.2 (by omega)
           have f46:((s[k].toNat:Int) != 46)=true:=(by unfold bne;rw[e46];rfl)
           have e45:((s[k].toNat:Int)==45)=true:=beq_iff_eq.2 (by omega)
           have f45:((s[k].toNat:Int) != 45)=false:=(by unfold bne;rw[e45];rfl);have PH:=h_ P1;clear P1 hA hall hdot hds
           (try clear h1)
           (try clear h2)
           (try clear h46)
           (try clear q46)
           (try clear r46)
           go_wp2_with fail;refine(PH.out _).mono ?_;rintro e w1 ⟨rfl,rfl⟩;go_wp2_with fail;go_round
           case rel=>exact⟨k+1,by omega,by go_num,HS.out,HD.out⟩
           case measure=>simp[intOf];omega
         ·have hn : O = false := by rw [← HO.out, iC s k hlt (rI _ hA h1 h2).1]; simp
          subst hn
          have e46:((s[k].toNat:Int)==46)=false:=beq_eq_false_iff_ne.2 (by omega)
          have f46:((s[k].toNat:Int) != 46)=true:=(by unfold bne;rw[e46];rfl)
          have e45:((s[k].toNat:Int)==45)=false:=beq_eq_false_iff_ne.2 (by omega)
          have f45:((s[k].toNat:Int) != 45)=true:=(by unfold bne;rw[e45];rfl);have PH:=h_ P1;clear P1 hA hall hdot hds
          (try clear h1)
          (try clear h2)
          (try clear h46)
          (try clear q46)
          (try clear r46)
          go_wp2_with fail;refine(PH.out _).mono ?_;rintro e w1 ⟨rfl,rfl⟩;go_wp2_with fail;go_ret;exact⟨rfl,rfl⟩
      ·have hn:O=true:=by
        rw[ww (by rw[ab];omega)] at hall hdot;rw[←HO.out,hall,hdot];rfl
       subst hn;clear hall hdot;go_wp2_with fail;go_ret;exact⟨rfl,rfl⟩
  ·rw[decide_eq_false h64] at hO
   have:O=false:=(by rw[←hO];rfl);subst this;have g1:((64:Int)<s.size):=(by omega);clear hO;go_enter func207,ntmps207;go_wp2_with fail;go_ret;exact⟨rfl,rfl⟩
 ·obtain rfl:s=⟨#[]⟩:=aR (wB (by rw[ab];omega))
  have:O=false:=by rw[←hO];rfl
  subst this;clear hO h0;go_enter func207,ntmps207;go_wp2_with fail;go_ret;exact⟨rfl,rfl⟩
theorem jT (s:ByteArray) (w:World) (hs:s.size≤10000):Calls prog 156 #[.string s] w (Ret w (.bool (fK s.data.toList))):=by
 obtain⟨O,hO⟩:=e_ (fK s.data.toList);rw[hO];have I:=qL s w hs;have HO:=h_ hO;obtain⟨X,hX⟩:=e_ (txP s.data.toList);rw[hX] at I;have HX:=h_ hX;have IH:=h_ I;clear hO hX I;go_enter func156,ntmps156;go_wp2_with fail;go_loop [3] (fun i=>∃k:Nat,k≤s.size∧i=.int .i64 k∧((s.data.toList.take k).all fun c=>decide (32≤c.toNat))=true) (fun i=>s.size-(intOf i).toNat)
 case atStart=>exact⟨0,wv _,rfl,rfl⟩
 case round=>
  obtain⟨k,hk,rfl,hall⟩:=hrel
  by_cases hlt:k<s.size
  ·have hc:=s[k].toNat_lt
   by_cases h32:32≤s[k].toNat
   ·have HS:=h_ (bc (q:=fun c=>decide (32≤c.toNat)) s k hlt hall (decide_eq_true h32))
    have g1:¬ ((s[k].toNat:Int)<32):=(by omega);clear hall;go_wp2_with fail;go_round
    case rel=>exact⟨k+1,by omega,by go_num,HS.out⟩
    case measure=>simp[intOf];omega
   ·have hn : O = false := by rw [← HO.out]; unfold fK; rw [iC (q := fun c => decide (32 ≤ c.toNat)) s k hlt (decide_eq_false h32)]; simp
    subst hn;have g1:((s[k].toNat:Int)<32):=(by omega);clear hall;go_wp2_with fail;go_ret;exact⟨rfl,bQ _⟩
  ·have hO:=HO.out
   rw[ww (by rw[ab];omega)] at hall;unfold fK at hO;rw[HX.out,hall,ab,wD] at hO;clear hall HO HX
   by_cases h0:0<s.size
   ·have e3 : s.data.toList.isEmpty = false := by rw [← wt]; exact am h0
    rw[e3] at hO;clear e3;have g0:1≤s.size:=h0;have g1:((1:Int)≤s.size):=(by omega)
    by_cases h64:s.size≤64
    ·rw[decide_eq_true h64] at hO
     have g2:((s.size:Int)≤64):=(by omega);have:X=O:=(by rw[←hO];rfl);subst this;clear hO;go_wp2_with fail;refine IH.out.mono ?_;rintro e w1 ⟨rfl,hb⟩;go_wp2_with fail;go_ret;exact⟨rfl,hb⟩
    ·rw[decide_eq_false h64] at hO
     have g2:¬ ((s.size:Int)≤64):=(by omega);subst hO;go_wp2_with fail;go_ret;exact⟨rfl,bQ _⟩
   ·obtain rfl:s=⟨#[]⟩:=aR (wB (by rw[ab];omega))
    have:O=false:=(by rw[←hO];rfl);subst this;clear hO h0;go_wp2_with fail;go_ret;exact⟨rfl,bQ _⟩
def atP (c:UInt8) (l:List UInt8):Int:=if l.contains c then ((cA c l).length:Int) else -1
theorem nh (c:UInt8) (s:ByteArray) (k:Nat) (hlt:k<s.size) (h:(s.data.toList.take k).contains c=false):(s[k]=c→atP c s.data.toList=k)∧(s[k]≠c→(s.data.toList.take (k+1)).contains c=false):=by
 constructor
 ·intro e
  have hd:=cX s k hlt
  have e2:s.data.toList=s.data.toList.take k++c :: s.data.toList.drop (k+1):=by
   rw[←e,←hd,wz]
  have hm:c ∉ s.data.toList.take k:=by simpa using h
  obtain⟨a,-⟩:=us c _ (s.data.toList.drop (k+1)) hm;rw[←e2] at a
  have hc:s.data.toList.contains c=true:=by
   rw[e2];simp
  unfold atP;rw[hc,if_pos rfl,a,List.length_take,ab]
  congr 1
  omega
 ·intro e
  rw[cC s k hlt,List.contains_append];rw[h]
  simp
  exact fun q=>e q.symm
theorem rL (s:ByteArray) (c:UInt8) (w:World) (hs:s.size≤10000):Calls prog 172 #[.string s,.int .u8 (c.toNat:Int)] w fun e w'=>e=.returned (.int .i64 (atP c s.data.toList))∧w'=w:=by
 obtain⟨O,hO⟩:=e_ (atP c s.data.toList);rw[hO];have HO:=h_ hO;clear hO;go_enter func172,ntmps172;go_wp2_with fail;go_loop [5] (fun i=>∃k:Nat,k≤s.size∧i=.int .i64 k∧(s.data.toList.take k).contains c=false) (fun i=>s.size-(intOf i).toNat)
 case atStart=>exact⟨0,wv _,rfl,rfl⟩
 case round=>
  obtain⟨k,hk,rfl,hall⟩:=hrel
  by_cases hlt:k<s.size
  ·have hc:=s[k].toNat_lt
   obtain⟨h1,h2⟩:=nh c s k hlt hall
   by_cases he:s[k]=c
   ·have hn : O = k := by rw [← HO.out, h1 he]
    subst hn;have g1:((s[k].toNat:Int)==c.toNat)=true:=(by rw[he];simp);clear h1 h2 hall he;go_wp2_with fail;go_ret;exact⟨rfl,rfl⟩
   ·have HS:=h_ (h2 he)
    have hq:s[k].toNat≠c.toNat:=fun e=>he (UInt8.toNat_inj.1 e)
    have g1:((s[k].toNat:Int)==c.toNat)=false:=beq_eq_false_iff_ne.2 (by omega)
    clear h1 h2 hall he;go_wp2_with fail;go_round
    case rel=>exact⟨k+1,by omega,by go_num,HS.out⟩
    case measure=>simp[intOf];omega
  ·rw[ww (by rw[ab];omega)] at hall
   have hn:O=-1:=(by rw[←HO.out];unfold atP;rw[hall];rfl);subst hn;clear hall;go_wp2_with fail;go_ret;exact⟨rfl,rfl⟩

theorem jg (l d r:List UInt8) (A B C:Bool) (hA:(l.isEmpty||iX l)=A) (hB:(r.isEmpty||fK r)=B) (hC:eQ d=C):cQ l d r=(A&&B&&C):=by
 unfold cQ;rw[hA,hB,hC]
theorem kU (l d r:ByteArray) (w:World) (zl:l.size≤10000) (zd:d.size≤10000) (zr:r.size≤10000):
  Calls prog 168 #[jV l d r] w (Ret w (.bool (cQ l.data.toList d.data.toList r.data.toList))):=by
 have k0:=JAt.new w l d r;have q0:=(bR w).alloc (wq _) (.cells #[.string l,.string d,.string r] 117);obtain⟨x0,x1,x2,x3,x4⟩:=k0
 have D0:=fun w=>mI d w zd
 have L0:=fun w=>n6 l w zl
 have R0:=fun w=>jT r w zr
 cases hd:eQ d.data.toList with
 | false=>
  rw[jg _ _ _ _ _ _ rfl rfl hd,Bool.and_false];rw[hd] at D0;have DH:=h_ D0;clear D0 L0 R0 hd;go_enter func168,ntmps168;go_wp2_with fail;refine(DH.out _).mono ?_;rintro e w1 ⟨rfl,rfl⟩;go_wp2_with fail;go_ret;exact⟨rfl,q0⟩
 | true=>
  rw[hd] at D0;have DH:=h_ D0;clear D0
  cases hl:l.data.toList.isEmpty with
  | true=>
   obtain rfl:=ax hl
   cases hr:r.data.toList.isEmpty with
   | true=>
    obtain rfl:=ax hr;rw[jg _ _ _ true true true (by rw[hl];rfl) (by rw[hr];rfl) hd];clear L0 R0 hl hr hd;go_enter func168,ntmps168;go_wp2_with fail;refine(DH.out _).mono ?_;rintro e w1 ⟨rfl,rfl⟩;go_wp2_with fail;go_ret;exact⟨rfl,q0⟩
   | false=>
    have er:=ak hr
    cases hR:fK r.data.toList with
    | true=>
     rw[jg _ _ _ true true true (by rw[hl];rfl) (by rw[hr,hR];rfl) hd];rw[hR] at R0;have RH:=h_ R0;clear hR;clear L0 R0 hl hr hd;go_enter func168,ntmps168;go_wp2_with fail;refine(DH.out _).mono ?_;rintro e w1 ⟨rfl,rfl⟩;go_wp2_with fail;refine(RH.out _).mono ?_;rintro e w2 ⟨rfl,hb⟩;have q1:=q0.trans (hb.mono q0.size);clear hb;go_wp2_with fail;go_ret;exact⟨rfl,q1⟩
    | false=>
     rw[jg _ _ _ true false true (by rw[hl];rfl) (by rw[hr,hR];rfl) hd];rw[hR] at R0;have RH:=h_ R0;clear hR;clear L0 R0 hl hr hd;go_enter func168,ntmps168;go_wp2_with fail;refine(DH.out _).mono ?_;rintro e w1 ⟨rfl,rfl⟩;go_wp2_with fail;refine(RH.out _).mono ?_;rintro e w2 ⟨rfl,hb⟩;have q1:=q0.trans (hb.mono q0.size);clear hb;go_wp2_with fail;go_ret;exact⟨rfl,q1⟩
  | false=>
   have el:=ak hl
   cases hL:iX l.data.toList with
   | true=>
    rw[hL] at L0;have LH:=h_ L0
    cases hr:r.data.toList.isEmpty with
    | true=>
     obtain rfl:=ax hr;rw[jg _ _ _ true true true (by rw[hl,hL];rfl) (by rw[hr];rfl) hd];clear L0 R0 hl hL hr hd;go_enter func168,ntmps168;go_wp2_with fail;refine(DH.out _).mono ?_;rintro e w1 ⟨rfl,rfl⟩;go_wp2_with fail;refine(LH.out _).mono ?_;rintro e w1 ⟨rfl,rfl⟩;go_wp2_with fail;go_ret;exact⟨rfl,q0⟩
    | false=>
     have er:=ak hr
     cases hR:fK r.data.toList with
     | true=>
      rw[jg _ _ _ true true true (by rw[hl,hL];rfl) (by rw[hr,hR];rfl) hd];rw[hR] at R0;have RH:=h_ R0;clear hR;clear L0 R0 hl hL hr hd;go_enter func168,ntmps168;go_wp2_with fail;refine(DH.out _).mono ?_;rintro e w1 ⟨rfl,rfl⟩;go_wp2_with fail;refine(LH.out _).mono ?_;rintro e w1 ⟨rfl,rfl⟩;go_wp2_with fail;refine(RH.out _).mono ?_;rintro e w2 ⟨rfl,hb⟩;have q1:=q0.trans (hb.mono q0.size);clear hb;go_wp2_with fail;go_ret;exact⟨rfl,q1⟩
     | false=>
      rw[jg _ _ _ true false true (by rw[hl,hL];rfl) (by rw[hr,hR];rfl) hd];rw[hR] at R0;have RH:=h_ R0;clear hR;clear L0 R0 hl hL hr hd;go_enter func168,ntmps168;go_wp2_with fail;refine(DH.out _).mono ?_;rintro e w1 ⟨rfl,rfl⟩;go_wp2_with fail;refine(LH.out _).mono ?_;rintro e w1 ⟨rfl,rfl⟩;go_wp2_with fail;refine(RH.out _).mono ?_;rintro e w2 ⟨rfl,hb⟩;have q1:=q0.trans (hb.mono q0.size);clear hb;go_wp2_with fail;go_ret;exact⟨rfl,q1⟩
   | false=>
    rw[hL] at L0;have LH:=h_ L0;rw[jg _ _ _ false _ _ (by rw[hl,hL];rfl) rfl hd];clear L0 R0 hl hL hd;go_enter func168,ntmps168;go_wp2_with fail;refine(DH.out _).mono ?_;rintro e w1 ⟨rfl,rfl⟩;go_wp2_with fail;refine(LH.out _).mono ?_;rintro e w1 ⟨rfl,rfl⟩;go_wp2_with fail;go_ret;exact⟨rfl,q0⟩
theorem cc (l d r:ByteArray) (w:World) (zl:l.size≤10000) (zd:d.size≤10000) (zr:r.size≤10000):
  Calls prog 128 #[jV l d r] w (Ret w (.string (jB (dp l.data.toList d.data.toList r.data.toList)))):=by
 have k0:=JAt.new w l d r;have q0:=(bR w).alloc (wq _) (.cells #[.string l,.string d,.string r] 117);obtain⟨x0,x1,x2,x3,x4⟩:=k0;obtain⟨T,hT⟩:=e_ (jB (dp l.data.toList d.data.toList r.data.toList));rw[hT];have HT:=h_ hT
 have n1:(⟨#[64]⟩:ByteArray).size=1:=rfl
 have n2:(⟨#[47]⟩:ByteArray).size=1:=rfl
 clear hT
 cases hl:l.data.toList.isEmpty with
 | true=>
  obtain rfl:=ax hl
  cases hr:r.data.toList.isEmpty with
  | true=>
   obtain rfl:=ax hr;have ht:d=T:=(by rw[←HT.out];apply aR;simp[dp]);have HE:=h_ ht;clear ht hl hr;go_enter func128,ntmps128;go_wp2_with fail;go_ret;exact⟨by rw[←HE.out];rfl,q0⟩
  | false=>
   have er:=ak hr;have ht:d++⟨#[47]⟩++r=T:=(by rw[←HT.out];apply aR;simp[dp,hr]);have HE:=h_ ht;clear ht hl hr;go_enter func128,ntmps128;go_wp2_with fail;go_ret;exact⟨by rw[←HE.out];rfl,q0⟩
 | false=>
  have el:=ak hl
  cases hr:r.data.toList.isEmpty with
  | true=>
   obtain rfl:=ax hr;have ht:l++⟨#[64]⟩++d=T:=(by rw[←HT.out];apply aR;simp[dp,hl]);have HE:=h_ ht;clear ht hl hr;go_enter func128,ntmps128;go_wp2_with fail;go_ret;exact⟨by rw[←HE.out];rfl,q0⟩
  | false=>
   have er:=ak hr;have ht:l++⟨#[64]⟩++d++⟨#[47]⟩++r=T:=(by rw[←HT.out];apply aR;simp[dp,hl,hr]);have HE:=h_ ht;clear ht hl hr;go_enter func128,ntmps128;go_wp2_with fail;go_ret;exact⟨by rw[←HE.out];rfl,q0⟩
theorem pO (l d r:ByteArray) (w:World) (zl:l.size≤10000) (zd:d.size≤10000) (zr:r.size≤10000):
  Calls prog 159 #[jV l d r] w (Ret w (.bool (cQ l.data.toList d.data.toList r.data.toList&&(!l.data.toList.isEmpty&&!r.data.toList.isEmpty)))):=by
 have k0:=JAt.new w l d r;have q0:=(bR w).alloc (wq _) (.cells #[.string l,.string d,.string r] 117)
 have M0:=fun w=>kU l d r w zl zd zr
 obtain⟨c,hc⟩:=e_ (cQ l.data.toList d.data.toList r.data.toList);rw[hc] at M0 ⊢;have MH:=h_ M0;clear M0 hc
 cases c with
 | false=>
  go_enter func159,ntmps159;go_wp2_with fail;refine(MH.out _).mono ?_;rintro e w1 ⟨rfl,hb⟩;obtain⟨x0,x1,x2,x3,x4⟩:=k0.ret hb;have q1:=q0.trans (hb.mono q0.size);clear hb k0;go_wp2_with fail;go_ret;exact⟨rfl,q1⟩
 | true=>
  cases hl:l.data.toList.isEmpty with
  | true=>
   obtain rfl:=ax hl;clear hl;go_enter func159,ntmps159;go_wp2_with fail;refine(MH.out _).mono ?_;rintro e w1 ⟨rfl,hb⟩;obtain⟨x0,x1,x2,x3,x4⟩:=k0.ret hb;have q1:=q0.trans (hb.mono q0.size);clear hb k0;go_wp2_with fail;go_ret;exact⟨rfl,q1⟩
  | false=>
   have el:=ak hl;clear hl
   cases hr:r.data.toList.isEmpty with
   | true=>
    obtain rfl:=ax hr;clear hr;go_enter func159,ntmps159;go_wp2_with fail;refine(MH.out _).mono ?_;rintro e w1 ⟨rfl,hb⟩;obtain⟨x0,x1,x2,x3,x4⟩:=k0.ret hb;have q1:=q0.trans (hb.mono q0.size);clear hb k0;go_wp2_with fail;go_ret;exact⟨rfl,q1⟩
   | false=>
    have er:=ak hr;clear hr;go_enter func159,ntmps159;go_wp2_with fail;refine(MH.out _).mono ?_;rintro e w1 ⟨rfl,hb⟩;obtain⟨x0,x1,x2,x3,x4⟩:=k0.ret hb;have q1:=q0.trans (hb.mono q0.size);clear hb k0;go_wp2_with fail;go_ret;exact⟨rfl,q1⟩
theorem pP (l d r:ByteArray) (w:World) (zl:l.size≤10000) (zd:d.size≤10000) (zr:r.size≤10000):
  Calls prog 122 #[jV l d r] w (Ret w (.bool (cQ l.data.toList d.data.toList r.data.toList&&(!l.data.toList.isEmpty&&r.data.toList.isEmpty)))):=by
 have k0:=JAt.new w l d r;have q0:=(bR w).alloc (wq _) (.cells #[.string l,.string d,.string r] 117)
 have M0:=fun w=>kU l d r w zl zd zr
 obtain⟨c,hc⟩:=e_ (cQ l.data.toList d.data.toList r.data.toList);rw[hc] at M0 ⊢;have MH:=h_ M0;clear M0 hc
 cases c with
 | false=>
  go_enter func122,ntmps122;go_wp2_with fail;refine(MH.out _).mono ?_;rintro e w1 ⟨rfl,hb⟩;obtain⟨x0,x1,x2,x3,x4⟩:=k0.ret hb;have q1:=q0.trans (hb.mono q0.size);clear hb k0;go_wp2_with fail;go_ret;exact⟨rfl,q1⟩
 | true=>
  cases hl:l.data.toList.isEmpty with
  | true=>
   obtain rfl:=ax hl;clear hl;go_enter func122,ntmps122;go_wp2_with fail;refine(MH.out _).mono ?_;rintro e w1 ⟨rfl,hb⟩;obtain⟨x0,x1,x2,x3,x4⟩:=k0.ret hb;have q1:=q0.trans (hb.mono q0.size);clear hb k0;go_wp2_with fail;go_ret;exact⟨rfl,q1⟩
  | false=>
   have el:=ak hl;clear hl
   cases hr:r.data.toList.isEmpty with
   | true=>
    obtain rfl:=ax hr;clear hr;go_enter func122,ntmps122;go_wp2_with fail;refine(MH.out _).mono ?_;rintro e w1 ⟨rfl,hb⟩;obtain⟨x0,x1,x2,x3,x4⟩:=k0.ret hb;have q1:=q0.trans (hb.mono q0.size);clear hb k0;go_wp2_with fail;go_ret;exact⟨rfl,q1⟩
   | false=>
    have er:=ak hr;clear hr;go_enter func122,ntmps122;go_wp2_with fail;refine(MH.out _).mono ?_;rintro e w1 ⟨rfl,hb⟩;obtain⟨x0,x1,x2,x3,x4⟩:=k0.ret hb;have q1:=q0.trans (hb.mono q0.size);clear hb k0;go_wp2_with fail;go_ret;exact⟨rfl,q1⟩
theorem s8 (X Y:ByteArray) (x y:List UInt8) (hx:X.data.toList=x) (hy:Y.data.toList=y):(X.toList==Y.toList)=decide (x=y):=by
 rw[wt,wt,hx,hy];rw[Bool.eq_iff_iff]
 simp
theorem lu (a b c x y z:ByteArray) (w:World):Calls prog 123 #[jV a b c,jV x y z] w (Ret w (.bool (lsP (a.data.toList,b.data.toList,c.data.toList) (x.data.toList,y.data.toList,z.data.toList)))):=by
 have k1:=JAt.new w a b c;have q1:=(bR w).alloc (wq _) (.cells #[.string a,.string b,.string c] 117);have q2:=q1.alloc q1.size (.cells #[.string x,.string y,.string z] 117);clear k1;obtain⟨A,hA⟩:=e_ a.toList;obtain⟨B,hB⟩:=e_ b.toList;obtain⟨C,hC⟩:=e_ c.toList;obtain⟨X,hX⟩:=e_ x.toList;obtain⟨Y,hY⟩:=e_ y.toList;obtain⟨Z,hZ⟩:=e_ z.toList;rw[←wt a,←wt b,←wt c,←wt x,←wt y,←wt z,hA,hB,hC,hX,hY,hZ];unfold lsP
 dsimp only
 by_cases e1:B=Y
 ·subst e1
  rw[gu]
  have f1:(B==B)=true:=by simp
  by_cases e2:A=X
  ·subst e2
   rw[gu];have f2:(A==A)=true:=(by simp)
   cases h:Op.bytesLess C Z with
   | true=>
    go_enter func123,ntmps123;go_wp2_with fail;go_ret;exact⟨by first | rfl | (simp[*]),q2⟩
   | false=>
    go_enter func123,ntmps123;go_wp2_with fail;go_ret;exact⟨by first | rfl | (simp[*]),q2⟩
  ·have f2 : (A == X) = false := by simpa using e2
   clear e2;obtain⟨V,hV⟩:=e_ (Op.bytesLess A X)
   have hV2:(false||!false&&(V||!Op.bytesLess X A&&Op.bytesLess C Z))=V:=by
    rcases a8 A X with ⟨h1,h2,h3⟩ | ⟨h1,h2,h3⟩ | ⟨h1,h2,h3⟩
    ·rw[h1] at hV;subst hV;rfl
    ·rw[h1] at hV;subst hV;rw[h2];rfl
    ·subst h3;simp at f2
   rw[hV,hV2];clear hV2;go_enter func123,ntmps123;go_wp2_with fail;go_ret;exact⟨by first | rfl | (simp[*]),q2⟩
 ·have f1 : (B == Y) = false := by simpa using e1
  clear e1;obtain⟨V,hV⟩:=e_ (Op.bytesLess B Y)
  have hV2:(V||!Op.bytesLess Y B&&(Op.bytesLess A X||!Op.bytesLess X A&&Op.bytesLess C Z))=V:=by
   rcases a8 B Y with ⟨h1,h2,h3⟩ | ⟨h1,h2,h3⟩ | ⟨h1,h2,h3⟩
   ·rw[h1] at hV;subst hV;rfl
   ·rw[h1] at hV;subst hV;rw[h2];rfl
   ·subst h3;simp at f1
  rw[hV,hV2];clear hV2;go_enter func123,ntmps123;go_wp2_with fail;go_ret;exact⟨by first | rfl | (simp[*]),q2⟩
theorem lx (a b c:ByteArray) (w:World):Calls prog 129 #[jV a b c] w (Ret w (jV a b ⟨#[]⟩)):=by
 have q0:=((bR w).alloc (wq _) (.cells #[.string a,.string b,.string c] 117)).alloc (by simp) (.cells #[.string a,.string b,.string ⟨#[]⟩] 117);go_enter func129,ntmps129;go_wp2_with fail;refine bodyPost_ret (v:=jV a b ⟨#[]⟩) (results_cell_row rfl _ _ (w.heap.size+1) _ _ (0,0) _ rfl (heap_alloc2_new _ _ _) underlying117 rfl rfl) rfl ⟨rfl,?_⟩;exact q0
def jk (s:List UInt8):List UInt8:=bh s++(if s.contains 47 then 47 :: aL s else [])
theorem tm (s:List UInt8):(cQ (aU s) (aZ s) (aL s)&&decide (dp (aU s) (aZ s) (aL s)=jk s))=bv s:=by
 have a:∃H,(if (aU s).isEmpty then aZ s else aU s++64 :: aZ s)=H∧(((bh s).contains 64&&(aU s).isEmpty)=true→bh s=64 :: H)∧(((bh s).contains 64&&(aU s).isEmpty)=false→bh s=H):=by
  refine⟨_,rfl,fun h=>?_,fun h=>?_⟩
  ·rw[wE] at h
   rw[h.2,if_pos rfl];obtain⟨e,-⟩:=so 64 (bh s) (by simpa using h.1);have h2:=wF.1 h.2;unfold aU at h2;rw[h.1,if_pos rfl] at h2;rw[h2] at e;unfold aZ;rw[h.1,if_pos rfl];exact e
  ·cases hc:(bh s).contains 64 with
   | false=>
    unfold aU aZ;rw[hc]
    rfl
   | true=>
    rw[hc,wu] at h;rw[h];obtain⟨e,-⟩:=so 64 (bh s) (by simpa using hc);unfold aU aZ;rw[hc];exact e
 have b:∃T,(if (aL s).isEmpty then [] else 47 :: aL s)=T∧((s.contains 47&&(aL s).isEmpty)=true→(if s.contains 47 then 47 :: aL s else [])=47 :: T)∧((s.contains 47&&(aL s).isEmpty)=false→(if s.contains 47 then 47 :: aL s else [])=T):=by
  refine⟨_,rfl,fun h=>?_,fun h=>?_⟩
  ·rw[wE] at h
   rw[h.1,h.2,wF.1 h.2]
   rfl
  ·cases hc:s.contains 47 with
   | false=>
    have:=ke 47 s (by simpa using hc);unfold aL;rw[this.2]
    rfl
   | true=>
    rw[hc,wu] at h;rw[h]
    rfl
 obtain⟨H,hH,a1,a2⟩:=a;obtain⟨T,hT,b1,b2⟩:=b;unfold bv dp jk;rw[hH,hT]
 cases ha:((bh s).contains 64&&(aU s).isEmpty) with
 | true=>
  rw[a1 ha]
  have:H++T≠64 :: H++(if s.contains 47 then 47 :: aL s else []):=by
   intro e;have e:=congrArg wC e
   cases hb:(s.contains 47&&(aL s).isEmpty) with
   | true=>rw[b1 hb] at e;simp at e;omega
   | false=>rw[b2 hb] at e;simp at e
  rw[decide_eq_false this]
  simp
 | false=>
  rw[a2 ha]
  cases hb:(s.contains 47&&(aL s).isEmpty) with
  | true=>
   rw[b1 hb]
   have:H++T≠H++47 :: T:=by
    intro e;have e:=congrArg wC e
    simp at e
   rw[decide_eq_false this]
   simp
  | false=>
   rw[b2 hb]
   simp

theorem JAt.set0 {L:Nat} {a b c:ByteArray} {w:World} (h:JAt L a b c w) (x:ByteArray):JAt L x b c (w.setCell ⟨L,0,none⟩ (.string x)):=by
 obtain⟨h0,h1,h2,h3,h4,h5,h6⟩:=h
 constructor <;> simp[go_sem, *]
theorem JAt.set1 {L:Nat} {a b c:ByteArray} {w:World} (h:JAt L a b c w) (x:ByteArray):JAt L a x c (w.setCell ⟨L,1,none⟩ (.string x)):=by
 obtain⟨h0,h1,h2,h3,h4,h5,h6⟩:=h
 constructor <;> simp[go_sem, *]
theorem JAt.other {L M o:Nat} {a b c:ByteArray} {w:World} (h:JAt L a b c w) (hne:L≠M) (x:Value):JAt L a b c (w.setCell ⟨M,o,none⟩ x):=by
 obtain⟨h0,h1,h2,h3,h4,h5,h6⟩:=h
 constructor <;> simp[go_sem, *]
theorem JAt.two (w:World) (a b c x y z:ByteArray):JAt w.heap.size a b c ((w.alloc (.cells #[.string a,.string b,.string c] 117)).alloc (.cells #[.string x,.string y,.string z] 117))∧JAt (w.heap.size+1) x y z ((w.alloc (.cells #[.string a,.string b,.string c] 117)).alloc (.cells #[.string x,.string y,.string z] 117)):=by
 have k1:=JAt.new w a b c;have k2:=JAt.new (w.alloc (.cells #[.string a,.string b,.string c] 117)) x y z;rw[World.size_alloc] at k2;exact⟨k1.ret ((bQ _).alloc (wq _) _),k2⟩
theorem fV (s Lo A R X Y T W:ByteArray) (n m:Nat) (w:World)
  (C1:∀w,Calls prog 172 #[.string s,.int .u8 47] w fun e w'=>e=.returned (.int .i64 n)∧w'=w)
  (hn:n<s.size) (hs:s.size≤10000) (hA:s.extract 0 n=A) (hR:s.extract (n+1) s.size=R)
  (C2:∀w,Calls prog 173 #[.string A] w (Ret w (.string Lo)))
  (C3:∀w,Calls prog 172 #[.string Lo,.int .u8 64] w fun e w'=>e=.returned (.int .i64 m)∧w'=w)
  (hlo:Lo.size≤10000)
  (hmm:m<Lo.size) (hX:Lo.extract 0 m=X) (hY:Lo.extract (m+1) Lo.size=Y)
  (CM:∀w,Calls prog 168 #[jV X Y R] w (Ret w (.bool true)))
  (hrz:R.size≤10000)
  (CT:∀w,Calls prog 128 #[jV X Y R] w (Ret w (.string T)))
  (hW:Lo++⟨#[47]⟩++R=W)
  (hE:(T.toList==W.toList)=true):
  Calls prog 127 #[.string s] w (Ret w (.tuple #[jV X Y R,.int .i64 0])):=by
 obtain⟨kr,kj⟩:=JAt.two w ⟨#[]⟩ ⟨#[]⟩ ⟨#[]⟩ ⟨#[]⟩ ⟨#[]⟩ R;have q0:=((bR w).alloc (wq _) (.cells #[.string ⟨#[]⟩,.string ⟨#[]⟩,.string ⟨#[]⟩] 117)).alloc (by simp) (.cells #[.string ⟨#[]⟩,.string ⟨#[]⟩,.string R] 117);have H1:=h_ C1;have H2:=h_ C2;have H3:=h_ C3;have HM:=h_ CM;have HT:=h_ CT
 have n2:(⟨#[47]⟩:ByteArray).size=1:=rfl
 clear C1 C2 C3 CM CT;go_enter func127,ntmps127;go_wp2_with fail;refine(H1.out _).mono ?_;rintro e w1 ⟨rfl,rfl⟩;go_wp2_with fail;refine(H2.out _).mono ?_;rintro e w2 ⟨rfl,hb⟩;have kr2:=kr.ret hb;have kj2:=kj.ret hb;have q2:=q0.trans (hb.mono q0.size);clear hb kr kj q0;obtain⟨x0,x1,x2,x3,x4,x5,x6⟩:=id kj2;obtain⟨y0,y1,y2,y3,y4,y5,y6⟩:=id kr2;go_wp2_with fail;refine(H3.out _).mono ?_;rintro e w3 ⟨rfl,rfl⟩;have kr3:=kr2.other (M:=w.heap.size+1) (o:=1) (by omega) (.string Lo);have kj3:=kj2.set1 Lo;have q3:=q2.setCell (p:=⟨w.heap.size+1,1,none⟩) (ws _) (.string Lo);clear kr2 kj2 q2;have kr4:=(kr3.other (M:=w.heap.size+1) (o:=0) (by omega) (.string X)).other (M:=w.heap.size+1) (o:=1) (by omega) (.string Y);have kj4:=(kj3.set0 X).set1 Y;have q4:=(q3.setCell (p:=⟨w.heap.size+1,0,none⟩) (ws _) (.string X)).setCell (p:=⟨w.heap.size+1,1,none⟩) (ws _) (.string Y);clear kr3 kj3 q3;go_wp2_with fail;refine(HM.out _).mono ?_;rintro e w5 ⟨rfl,hb⟩;have kr5:=kr4.ret hb;have kj5:=kj4.ret hb;have q5:=q4.trans (hb.mono q4.size);clear hb kr4 kj4 q4 x0 x1 x2 x3 x4 x5 x6 y0 y1 y2 y3 y4 y5 y6;obtain⟨x0,x1,x2,x3,x4,x5,x6⟩:=id kj5;go_wp2_with fail;refine(HT.out _).mono ?_;rintro e w6 ⟨rfl,hb⟩;have kr6:=kr5.ret hb;have kj6:=kj5.ret hb;have q6:=q5.trans (hb.mono q5.size);clear hb kr5 kj5 q5 x0 x1 x2 x3 x4 x5 x6;obtain⟨x0,x1,x2,x3,x4,x5,x6⟩:=kj6;obtain⟨y0,y1,y2,y3,y4,y5,y6⟩:=kr6;go_wp2_with fail;refine bodyPost_ret (ay rfl rfl rfl ((JAt.mk y0 y1 y2 y3 y4 y5 y6).set3 _ _ _)) rfl ⟨rfl,ae q6 (wq _) _ _ _⟩
theorem fT (s Lo A R X Y T W:ByteArray) (n m:Nat) (w:World)
  (C1:∀w,Calls prog 172 #[.string s,.int .u8 47] w fun e w'=>e=.returned (.int .i64 n)∧w'=w)
  (hn:n<s.size) (hs:s.size≤10000) (hA:s.extract 0 n=A) (hR:s.extract (n+1) s.size=R)
  (C2:∀w,Calls prog 173 #[.string A] w (Ret w (.string Lo)))
  (C3:∀w,Calls prog 172 #[.string Lo,.int .u8 64] w fun e w'=>e=.returned (.int .i64 m)∧w'=w)
  (hlo:Lo.size≤10000)
  (hmm:m<Lo.size) (hX:Lo.extract 0 m=X) (hY:Lo.extract (m+1) Lo.size=Y)
  (CM:∀w,Calls prog 168 #[jV X Y R] w (Ret w (.bool true)))
  (hrz:R.size≤10000)
  (CT:∀w,Calls prog 128 #[jV X Y R] w (Ret w (.string T)))
  (hW:Lo++⟨#[47]⟩++R=W)
  (hE:(T.toList==W.toList)=false):
  Calls prog 127 #[.string s] w (Ret w (.tuple #[jV ⟨#[]⟩ ⟨#[]⟩ ⟨#[]⟩,.int .i64 190])):=by
 obtain⟨kr,kj⟩:=JAt.two w ⟨#[]⟩ ⟨#[]⟩ ⟨#[]⟩ ⟨#[]⟩ ⟨#[]⟩ R;have q0:=((bR w).alloc (wq _) (.cells #[.string ⟨#[]⟩,.string ⟨#[]⟩,.string ⟨#[]⟩] 117)).alloc (by simp) (.cells #[.string ⟨#[]⟩,.string ⟨#[]⟩,.string R] 117);have H1:=h_ C1;have H2:=h_ C2;have H3:=h_ C3;have HM:=h_ CM;have HT:=h_ CT
 have n2:(⟨#[47]⟩:ByteArray).size=1:=rfl
 clear C1 C2 C3 CM CT;go_enter func127,ntmps127;go_wp2_with fail;refine(H1.out _).mono ?_;rintro e w1 ⟨rfl,rfl⟩;go_wp2_with fail;refine(H2.out _).mono ?_;rintro e w2 ⟨rfl,hb⟩;have kr2:=kr.ret hb;have kj2:=kj.ret hb;have q2:=q0.trans (hb.mono q0.size);clear hb kr kj q0;obtain⟨x0,x1,x2,x3,x4,x5,x6⟩:=id kj2;obtain⟨y0,y1,y2,y3,y4,y5,y6⟩:=id kr2;go_wp2_with fail;refine(H3.out _).mono ?_;rintro e w3 ⟨rfl,rfl⟩;have kr3:=kr2.other (M:=w.heap.size+1) (o:=1) (by omega) (.string Lo);have kj3:=kj2.set1 Lo;have q3:=q2.setCell (p:=⟨w.heap.size+1,1,none⟩) (ws _) (.string Lo);clear kr2 kj2 q2;have kr4:=(kr3.other (M:=w.heap.size+1) (o:=0) (by omega) (.string X)).other (M:=w.heap.size+1) (o:=1) (by omega) (.string Y);have kj4:=(kj3.set0 X).set1 Y;have q4:=(q3.setCell (p:=⟨w.heap.size+1,0,none⟩) (ws _) (.string X)).setCell (p:=⟨w.heap.size+1,1,none⟩) (ws _) (.string Y);clear kr3 kj3 q3;go_wp2_with fail;refine(HM.out _).mono ?_;rintro e w5 ⟨rfl,hb⟩;have kr5:=kr4.ret hb;have kj5:=kj4.ret hb;have q5:=q4.trans (hb.mono q4.size);clear hb kr4 kj4 q4 x0 x1 x2 x3 x4 x5 x6 y0 y1 y2 y3 y4 y5 y6;obtain⟨x0,x1,x2,x3,x4,x5,x6⟩:=id kj5;go_wp2_with fail;refine(HT.out _).mono ?_;rintro e w6 ⟨rfl,hb⟩;have kr6:=kr5.ret hb;have kj6:=kj5.ret hb;have q6:=q5.trans (hb.mono q5.size);clear hb kr5 kj5 q5 x0 x1 x2 x3 x4 x5 x6;obtain⟨x0,x1,x2,x3,x4,x5,x6⟩:=kj6;obtain⟨y0,y1,y2,y3,y4,y5,y6⟩:=kr6;go_wp2_with fail;refine bodyPost_ret (ay rfl rfl rfl ((JAt.mk y0 y1 y2 y3 y4 y5 y6).set3 _ _ _)) rfl ⟨rfl,ae q6 (wq _) _ _ _⟩
theorem g8 (s Lo A R X Y:ByteArray) (n m:Nat) (w:World)
  (C1:∀w,Calls prog 172 #[.string s,.int .u8 47] w fun e w'=>e=.returned (.int .i64 n)∧w'=w)
  (hn:n<s.size) (hs:s.size≤10000) (hA:s.extract 0 n=A) (hR:s.extract (n+1) s.size=R)
  (C2:∀w,Calls prog 173 #[.string A] w (Ret w (.string Lo)))
  (C3:∀w,Calls prog 172 #[.string Lo,.int .u8 64] w fun e w'=>e=.returned (.int .i64 m)∧w'=w)
  (hlo:Lo.size≤10000)
  (hmm:m<Lo.size) (hX:Lo.extract 0 m=X) (hY:Lo.extract (m+1) Lo.size=Y)
  (CM:∀w,Calls prog 168 #[jV X Y R] w (Ret w (.bool false)))
  (hrz:R.size≤10000):
  Calls prog 127 #[.string s] w (Ret w (.tuple #[jV ⟨#[]⟩ ⟨#[]⟩ ⟨#[]⟩,.int .i64 190])):=by
 obtain⟨kr,kj⟩:=JAt.two w ⟨#[]⟩ ⟨#[]⟩ ⟨#[]⟩ ⟨#[]⟩ ⟨#[]⟩ R;have q0:=((bR w).alloc (wq _) (.cells #[.string ⟨#[]⟩,.string ⟨#[]⟩,.string ⟨#[]⟩] 117)).alloc (by simp) (.cells #[.string ⟨#[]⟩,.string ⟨#[]⟩,.string R] 117);have H1:=h_ C1;have H2:=h_ C2;have H3:=h_ C3;have HM:=h_ CM
 have n2:(⟨#[47]⟩:ByteArray).size=1:=rfl
 clear C1 C2 C3 CM;go_enter func127,ntmps127;go_wp2_with fail;refine(H1.out _).mono ?_;rintro e w1 ⟨rfl,rfl⟩;go_wp2_with fail;refine(H2.out _).mono ?_;rintro e w2 ⟨rfl,hb⟩;have kr2:=kr.ret hb;have kj2:=kj.ret hb;have q2:=q0.trans (hb.mono q0.size);clear hb kr kj q0;obtain⟨x0,x1,x2,x3,x4,x5,x6⟩:=id kj2;obtain⟨y0,y1,y2,y3,y4,y5,y6⟩:=id kr2;go_wp2_with fail;refine(H3.out _).mono ?_;rintro e w3 ⟨rfl,rfl⟩;have kr3:=kr2.other (M:=w.heap.size+1) (o:=1) (by omega) (.string Lo);have kj3:=kj2.set1 Lo;have q3:=q2.setCell (p:=⟨w.heap.size+1,1,none⟩) (ws _) (.string Lo);clear kr2 kj2 q2;have kr4:=(kr3.other (M:=w.heap.size+1) (o:=0) (by omega) (.string X)).other (M:=w.heap.size+1) (o:=1) (by omega) (.string Y);have kj4:=(kj3.set0 X).set1 Y;have q4:=(q3.setCell (p:=⟨w.heap.size+1,0,none⟩) (ws _) (.string X)).setCell (p:=⟨w.heap.size+1,1,none⟩) (ws _) (.string Y);clear kr3 kj3 q3;go_wp2_with fail;refine(HM.out _).mono ?_;rintro e w5 ⟨rfl,hb⟩;have kr5:=kr4.ret hb;have kj5:=kj4.ret hb;have q5:=q4.trans (hb.mono q4.size);clear hb kr4 kj4 q4 x0 x1 x2 x3 x4 x5 x6 y0 y1 y2 y3 y4 y5 y6;obtain⟨x0,x1,x2,x3,x4,x5,x6⟩:=kj5;obtain⟨y0,y1,y2,y3,y4,y5,y6⟩:=kr5;go_wp2_with fail;refine bodyPost_ret (ay rfl rfl rfl ((JAt.mk y0 y1 y2 y3 y4 y5 y6).set3 _ _ _)) rfl ⟨rfl,ae q5 (wq _) _ _ _⟩
theorem fY (s Lo A R T W:ByteArray) (n:Nat) (w:World)
  (C1:∀w,Calls prog 172 #[.string s,.int .u8 47] w fun e w'=>e=.returned (.int .i64 n)∧w'=w)
  (hn:n<s.size) (hs:s.size≤10000) (hA:s.extract 0 n=A) (hR:s.extract (n+1) s.size=R)
  (C2:∀w,Calls prog 173 #[.string A] w (Ret w (.string Lo)))
  (C3:∀w,Calls prog 172 #[.string Lo,.int .u8 64] w fun e w'=>e=.returned (.int .i64 (-1))∧w'=w)
  (hlo:Lo.size≤10000)
  (CM:∀w,Calls prog 168 #[jV ⟨#[]⟩ Lo R] w (Ret w (.bool true)))
  (hrz:R.size≤10000)
  (CT:∀w,Calls prog 128 #[jV ⟨#[]⟩ Lo R] w (Ret w (.string T)))
  (hW:Lo++⟨#[47]⟩++R=W)
  (hE:(T.toList==W.toList)=true):
  Calls prog 127 #[.string s] w (Ret w (.tuple #[jV ⟨#[]⟩ Lo R,.int .i64 0])):=by
 obtain⟨kr,kj⟩:=JAt.two w ⟨#[]⟩ ⟨#[]⟩ ⟨#[]⟩ ⟨#[]⟩ ⟨#[]⟩ R;have q0:=((bR w).alloc (wq _) (.cells #[.string ⟨#[]⟩,.string ⟨#[]⟩,.string ⟨#[]⟩] 117)).alloc (by simp) (.cells #[.string ⟨#[]⟩,.string ⟨#[]⟩,.string R] 117);have H1:=h_ C1;have H2:=h_ C2;have H3:=h_ C3;have HM:=h_ CM;have HT:=h_ CT
 have n2:(⟨#[47]⟩:ByteArray).size=1:=rfl
 clear C1 C2 C3 CM CT;go_enter func127,ntmps127;go_wp2_with fail;refine(H1.out _).mono ?_;rintro e w1 ⟨rfl,rfl⟩;go_wp2_with fail;refine(H2.out _).mono ?_;rintro e w2 ⟨rfl,hb⟩;have kr2:=kr.ret hb;have kj2:=kj.ret hb;have q2:=q0.trans (hb.mono q0.size);clear hb kr kj q0;obtain⟨x0,x1,x2,x3,x4,x5,x6⟩:=id kj2;obtain⟨y0,y1,y2,y3,y4,y5,y6⟩:=id kr2;go_wp2_with fail;refine(H3.out _).mono ?_;rintro e w3 ⟨rfl,rfl⟩;have kr3:=kr2.other (M:=w.heap.size+1) (o:=1) (by omega) (.string Lo);have kj3:=kj2.set1 Lo;have q3:=q2.setCell (p:=⟨w.heap.size+1,1,none⟩) (ws _) (.string Lo);clear kr2 kj2 q2;have kr4:=kr3;have kj4:=kj3;have q4:=q3;clear kr3 kj3 q3;go_wp2_with fail;refine(HM.out _).mono ?_;rintro e w5 ⟨rfl,hb⟩;have kr5:=kr4.ret hb;have kj5:=kj4.ret hb;have q5:=q4.trans (hb.mono q4.size);clear hb kr4 kj4 q4 x0 x1 x2 x3 x4 x5 x6 y0 y1 y2 y3 y4 y5 y6;obtain⟨x0,x1,x2,x3,x4,x5,x6⟩:=id kj5;go_wp2_with fail;refine(HT.out _).mono ?_;rintro e w6 ⟨rfl,hb⟩;have kr6:=kr5.ret hb;have kj6:=kj5.ret hb;have q6:=q5.trans (hb.mono q5.size);clear hb kr5 kj5 q5 x0 x1 x2 x3 x4 x5 x6;obtain⟨x0,x1,x2,x3,x4,x5,x6⟩:=kj6;obtain⟨y0,y1,y2,y3,y4,y5,y6⟩:=kr6;go_wp2_with fail;refine bodyPost_ret (ay rfl rfl rfl ((JAt.mk y0 y1 y2 y3 y4 y5 y6).set3 _ _ _)) rfl ⟨rfl,ae q6 (wq _) _ _ _⟩
theorem ge (s Lo A R T W:ByteArray) (n:Nat) (w:World)
  (C1:∀w,Calls prog 172 #[.string s,.int .u8 47] w fun e w'=>e=.returned (.int .i64 n)∧w'=w)
  (hn:n<s.size) (hs:s.size≤10000) (hA:s.extract 0 n=A) (hR:s.extract (n+1) s.size=R)
  (C2:∀w,Calls prog 173 #[.string A] w (Ret w (.string Lo)))
  (C3:∀w,Calls prog 172 #[.string Lo,.int .u8 64] w fun e w'=>e=.returned (.int .i64 (-1))∧w'=w)
  (hlo:Lo.size≤10000)
  (CM:∀w,Calls prog 168 #[jV ⟨#[]⟩ Lo R] w (Ret w (.bool true)))
  (hrz:R.size≤10000)
  (CT:∀w,Calls prog 128 #[jV ⟨#[]⟩ Lo R] w (Ret w (.string T)))
  (hW:Lo++⟨#[47]⟩++R=W)
  (hE:(T.toList==W.toList)=false):
  Calls prog 127 #[.string s] w (Ret w (.tuple #[jV ⟨#[]⟩ ⟨#[]⟩ ⟨#[]⟩,.int .i64 190])):=by
 obtain⟨kr,kj⟩:=JAt.two w ⟨#[]⟩ ⟨#[]⟩ ⟨#[]⟩ ⟨#[]⟩ ⟨#[]⟩ R;have q0:=((bR w).alloc (wq _) (.cells #[.string ⟨#[]⟩,.string ⟨#[]⟩,.string ⟨#[]⟩] 117)).alloc (by simp) (.cells #[.string ⟨#[]⟩,.string ⟨#[]⟩,.string R] 117);have H1:=h_ C1;have H2:=h_ C2;have H3:=h_ C3;have HM:=h_ CM;have HT:=h_ CT
 have n2:(⟨#[47]⟩:ByteArray).size=1:=rfl
 clear C1 C2 C3 CM CT;go_enter func127,ntmps127;go_wp2_with fail;refine(H1.out _).mono ?_;rintro e w1 ⟨rfl,rfl⟩;go_wp2_with fail;refine(H2.out _).mono ?_;rintro e w2 ⟨rfl,hb⟩;have kr2:=kr.ret hb;have kj2:=kj.ret hb;have q2:=q0.trans (hb.mono q0.size);clear hb kr kj q0;obtain⟨x0,x1,x2,x3,x4,x5,x6⟩:=id kj2;obtain⟨y0,y1,y2,y3,y4,y5,y6⟩:=id kr2;go_wp2_with fail;refine(H3.out _).mono ?_;rintro e w3 ⟨rfl,rfl⟩;have kr3:=kr2.other (M:=w.heap.size+1) (o:=1) (by omega) (.string Lo);have kj3:=kj2.set1 Lo;have q3:=q2.setCell (p:=⟨w.heap.size+1,1,none⟩) (ws _) (.string Lo);clear kr2 kj2 q2;have kr4:=kr3;have kj4:=kj3;have q4:=q3;clear kr3 kj3 q3;go_wp2_with fail;refine(HM.out _).mono ?_;rintro e w5 ⟨rfl,hb⟩;have kr5:=kr4.ret hb;have kj5:=kj4.ret hb;have q5:=q4.trans (hb.mono q4.size);clear hb kr4 kj4 q4 x0 x1 x2 x3 x4 x5 x6 y0 y1 y2 y3 y4 y5 y6;obtain⟨x0,x1,x2,x3,x4,x5,x6⟩:=id kj5;go_wp2_with fail;refine(HT.out _).mono ?_;rintro e w6 ⟨rfl,hb⟩;have kr6:=kr5.ret hb;have kj6:=kj5.ret hb;have q6:=q5.trans (hb.mono q5.size);clear hb kr5 kj5 q5 x0 x1 x2 x3 x4 x5 x6;obtain⟨x0,x1,x2,x3,x4,x5,x6⟩:=kj6;obtain⟨y0,y1,y2,y3,y4,y5,y6⟩:=kr6;go_wp2_with fail;refine bodyPost_ret (ay rfl rfl rfl ((JAt.mk y0 y1 y2 y3 y4 y5 y6).set3 _ _ _)) rfl ⟨rfl,ae q6 (wq _) _ _ _⟩
theorem gT (s Lo A R:ByteArray) (n:Nat) (w:World)
  (C1:∀w,Calls prog 172 #[.string s,.int .u8 47] w fun e w'=>e=.returned (.int .i64 n)∧w'=w)
  (hn:n<s.size) (hs:s.size≤10000) (hA:s.extract 0 n=A) (hR:s.extract (n+1) s.size=R)
  (C2:∀w,Calls prog 173 #[.string A] w (Ret w (.string Lo)))
  (C3:∀w,Calls prog 172 #[.string Lo,.int .u8 64] w fun e w'=>e=.returned (.int .i64 (-1))∧w'=w)
  (hlo:Lo.size≤10000)
  (CM:∀w,Calls prog 168 #[jV ⟨#[]⟩ Lo R] w (Ret w (.bool false)))
  (hrz:R.size≤10000):
  Calls prog 127 #[.string s] w (Ret w (.tuple #[jV ⟨#[]⟩ ⟨#[]⟩ ⟨#[]⟩,.int .i64 190])):=by
 obtain⟨kr,kj⟩:=JAt.two w ⟨#[]⟩ ⟨#[]⟩ ⟨#[]⟩ ⟨#[]⟩ ⟨#[]⟩ R;have q0:=((bR w).alloc (wq _) (.cells #[.string ⟨#[]⟩,.string ⟨#[]⟩,.string ⟨#[]⟩] 117)).alloc (by simp) (.cells #[.string ⟨#[]⟩,.string ⟨#[]⟩,.string R] 117);have H1:=h_ C1;have H2:=h_ C2;have H3:=h_ C3;have HM:=h_ CM
 have n2:(⟨#[47]⟩:ByteArray).size=1:=rfl
 clear C1 C2 C3 CM;go_enter func127,ntmps127;go_wp2_with fail;refine(H1.out _).mono ?_;rintro e w1 ⟨rfl,rfl⟩;go_wp2_with fail;refine(H2.out _).mono ?_;rintro e w2 ⟨rfl,hb⟩;have kr2:=kr.ret hb;have kj2:=kj.ret hb;have q2:=q0.trans (hb.mono q0.size);clear hb kr kj q0;obtain⟨x0,x1,x2,x3,x4,x5,x6⟩:=id kj2;obtain⟨y0,y1,y2,y3,y4,y5,y6⟩:=id kr2;go_wp2_with fail;refine(H3.out _).mono ?_;rintro e w3 ⟨rfl,rfl⟩;have kr3:=kr2.other (M:=w.heap.size+1) (o:=1) (by omega) (.string Lo);have kj3:=kj2.set1 Lo;have q3:=q2.setCell (p:=⟨w.heap.size+1,1,none⟩) (ws _) (.string Lo);clear kr2 kj2 q2;have kr4:=kr3;have kj4:=kj3;have q4:=q3;clear kr3 kj3 q3;go_wp2_with fail;refine(HM.out _).mono ?_;rintro e w5 ⟨rfl,hb⟩;have kr5:=kr4.ret hb;have kj5:=kj4.ret hb;have q5:=q4.trans (hb.mono q4.size);clear hb kr4 kj4 q4 x0 x1 x2 x3 x4 x5 x6 y0 y1 y2 y3 y4 y5 y6;obtain⟨x0,x1,x2,x3,x4,x5,x6⟩:=kj5;obtain⟨y0,y1,y2,y3,y4,y5,y6⟩:=kr5;go_wp2_with fail;refine bodyPost_ret (ay rfl rfl rfl ((JAt.mk y0 y1 y2 y3 y4 y5 y6).set3 _ _ _)) rfl ⟨rfl,ae q5 (wq _) _ _ _⟩
theorem fS (s Lo X Y T:ByteArray) (m:Nat) (w:World)
  (C1:∀w,Calls prog 172 #[.string s,.int .u8 47] w fun e w'=>e=.returned (.int .i64 (-1))∧w'=w)
  (C2:∀w,Calls prog 173 #[.string s] w (Ret w (.string Lo)))
  (C3:∀w,Calls prog 172 #[.string Lo,.int .u8 64] w fun e w'=>e=.returned (.int .i64 m)∧w'=w)
  (hlo:Lo.size≤10000)
  (hmm:m<Lo.size) (hX:Lo.extract 0 m=X) (hY:Lo.extract (m+1) Lo.size=Y)
  (CM:∀w,Calls prog 168 #[jV X Y ⟨#[]⟩] w (Ret w (.bool true)))
  (CT:∀w,Calls prog 128 #[jV X Y ⟨#[]⟩] w (Ret w (.string T)))
  (hE:(T.toList==Lo.toList)=true):
  Calls prog 127 #[.string s] w (Ret w (.tuple #[jV X Y ⟨#[]⟩,.int .i64 0])):=by
 obtain⟨kr,kj⟩:=JAt.two w ⟨#[]⟩ ⟨#[]⟩ ⟨#[]⟩ ⟨#[]⟩ ⟨#[]⟩ ⟨#[]⟩;have q0:=((bR w).alloc (wq _) (.cells #[.string ⟨#[]⟩,.string ⟨#[]⟩,.string ⟨#[]⟩] 117)).alloc (by simp) (.cells #[.string ⟨#[]⟩,.string ⟨#[]⟩,.string ⟨#[]⟩] 117);have H1:=h_ C1;have H2:=h_ C2;have H3:=h_ C3;have HM:=h_ CM;have HT:=h_ CT
 have n2:(⟨#[47]⟩:ByteArray).size=1:=rfl
 clear C1 C2 C3 CM CT;go_enter func127,ntmps127;go_wp2_with fail;refine(H1.out _).mono ?_;rintro e w1 ⟨rfl,rfl⟩;go_wp2_with fail;refine(H2.out _).mono ?_;rintro e w2 ⟨rfl,hb⟩;have kr2:=kr.ret hb;have kj2:=kj.ret hb;have q2:=q0.trans (hb.mono q0.size);clear hb kr kj q0;obtain⟨x0,x1,x2,x3,x4,x5,x6⟩:=id kj2;obtain⟨y0,y1,y2,y3,y4,y5,y6⟩:=id kr2;go_wp2_with fail;refine(H3.out _).mono ?_;rintro e w3 ⟨rfl,rfl⟩;have kr3:=kr2.other (M:=w.heap.size+1) (o:=1) (by omega) (.string Lo);have kj3:=kj2.set1 Lo;have q3:=q2.setCell (p:=⟨w.heap.size+1,1,none⟩) (ws _) (.string Lo);clear kr2 kj2 q2;have kr4:=(kr3.other (M:=w.heap.size+1) (o:=0) (by omega) (.string X)).other (M:=w.heap.size+1) (o:=1) (by omega) (.string Y);have kj4:=(kj3.set0 X).set1 Y;have q4:=(q3.setCell (p:=⟨w.heap.size+1,0,none⟩) (ws _) (.string X)).setCell (p:=⟨w.heap.size+1,1,none⟩) (ws _) (.string Y);clear kr3 kj3 q3;go_wp2_with fail;refine(HM.out _).mono ?_;rintro e w5 ⟨rfl,hb⟩;have kr5:=kr4.ret hb;have kj5:=kj4.ret hb;have q5:=q4.trans (hb.mono q4.size);clear hb kr4 kj4 q4 x0 x1 x2 x3 x4 x5 x6 y0 y1 y2 y3 y4 y5 y6;obtain⟨x0,x1,x2,x3,x4,x5,x6⟩:=id kj5;go_wp2_with fail;refine(HT.out _).mono ?_;rintro e w6 ⟨rfl,hb⟩;have kr6:=kr5.ret hb;have kj6:=kj5.ret hb;have q6:=q5.trans (hb.mono q5.size);clear hb kr5 kj5 q5 x0 x1 x2 x3 x4 x5 x6;obtain⟨x0,x1,x2,x3,x4,x5,x6⟩:=kj6;obtain⟨y0,y1,y2,y3,y4,y5,y6⟩:=kr6;go_wp2_with fail;refine bodyPost_ret (ay rfl rfl rfl ((JAt.mk y0 y1 y2 y3 y4 y5 y6).set3 _ _ _)) rfl ⟨rfl,ae q6 (wq _) _ _ _⟩
theorem fO (s Lo X Y T:ByteArray) (m:Nat) (w:World)
  (C1:∀w,Calls prog 172 #[.string s,.int .u8 47] w fun e w'=>e=.returned (.int .i64 (-1))∧w'=w)
  (C2:∀w,Calls prog 173 #[.string s] w (Ret w (.string Lo)))
  (C3:∀w,Calls prog 172 #[.string Lo,.int .u8 64] w fun e w'=>e=.returned (.int .i64 m)∧w'=w)
  (hlo:Lo.size≤10000)
  (hmm:m<Lo.size) (hX:Lo.extract 0 m=X) (hY:Lo.extract (m+1) Lo.size=Y)
  (CM:∀w,Calls prog 168 #[jV X Y ⟨#[]⟩] w (Ret w (.bool true)))
  (CT:∀w,Calls prog 128 #[jV X Y ⟨#[]⟩] w (Ret w (.string T)))
  (hE:(T.toList==Lo.toList)=false):
  Calls prog 127 #[.string s] w (Ret w (.tuple #[jV ⟨#[]⟩ ⟨#[]⟩ ⟨#[]⟩,.int .i64 190])):=by
 obtain⟨kr,kj⟩:=JAt.two w ⟨#[]⟩ ⟨#[]⟩ ⟨#[]⟩ ⟨#[]⟩ ⟨#[]⟩ ⟨#[]⟩;have q0:=((bR w).alloc (wq _) (.cells #[.string ⟨#[]⟩,.string ⟨#[]⟩,.string ⟨#[]⟩] 117)).alloc (by simp) (.cells #[.string ⟨#[]⟩,.string ⟨#[]⟩,.string ⟨#[]⟩] 117);have H1:=h_ C1;have H2:=h_ C2;have H3:=h_ C3;have HM:=h_ CM;have HT:=h_ CT
 have n2:(⟨#[47]⟩:ByteArray).size=1:=rfl
 clear C1 C2 C3 CM CT;go_enter func127,ntmps127;go_wp2_with fail;refine(H1.out _).mono ?_;rintro e w1 ⟨rfl,rfl⟩;go_wp2_with fail;refine(H2.out _).mono ?_;rintro e w2 ⟨rfl,hb⟩;have kr2:=kr.ret hb;have kj2:=kj.ret hb;have q2:=q0.trans (hb.mono q0.size);clear hb kr kj q0;obtain⟨x0,x1,x2,x3,x4,x5,x6⟩:=id kj2;obtain⟨y0,y1,y2,y3,y4,y5,y6⟩:=id kr2;go_wp2_with fail;refine(H3.out _).mono ?_;rintro e w3 ⟨rfl,rfl⟩;have kr3:=kr2.other (M:=w.heap.size+1) (o:=1) (by omega) (.string Lo);have kj3:=kj2.set1 Lo;have q3:=q2.setCell (p:=⟨w.heap.size+1,1,none⟩) (ws _) (.string Lo);clear kr2 kj2 q2;have kr4:=(kr3.other (M:=w.heap.size+1) (o:=0) (by omega) (.string X)).other (M:=w.heap.size+1) (o:=1) (by omega) (.string Y);have kj4:=(kj3.set0 X).set1 Y;have q4:=(q3.setCell (p:=⟨w.heap.size+1,0,none⟩) (ws _) (.string X)).setCell (p:=⟨w.heap.size+1,1,none⟩) (ws _) (.string Y);clear kr3 kj3 q3;go_wp2_with fail;refine(HM.out _).mono ?_;rintro e w5 ⟨rfl,hb⟩;have kr5:=kr4.ret hb;have kj5:=kj4.ret hb;have q5:=q4.trans (hb.mono q4.size);clear hb kr4 kj4 q4 x0 x1 x2 x3 x4 x5 x6 y0 y1 y2 y3 y4 y5 y6;obtain⟨x0,x1,x2,x3,x4,x5,x6⟩:=id kj5;go_wp2_with fail;refine(HT.out _).mono ?_;rintro e w6 ⟨rfl,hb⟩;have kr6:=kr5.ret hb;have kj6:=kj5.ret hb;have q6:=q5.trans (hb.mono q5.size);clear hb kr5 kj5 q5 x0 x1 x2 x3 x4 x5 x6;obtain⟨x0,x1,x2,x3,x4,x5,x6⟩:=kj6;obtain⟨y0,y1,y2,y3,y4,y5,y6⟩:=kr6;go_wp2_with fail;refine bodyPost_ret (ay rfl rfl rfl ((JAt.mk y0 y1 y2 y3 y4 y5 y6).set3 _ _ _)) rfl ⟨rfl,ae q6 (wq _) _ _ _⟩
theorem iq (s Lo X Y:ByteArray) (m:Nat) (w:World)
  (C1:∀w,Calls prog 172 #[.string s,.int .u8 47] w fun e w'=>e=.returned (.int .i64 (-1))∧w'=w)
  (C2:∀w,Calls prog 173 #[.string s] w (Ret w (.string Lo)))
  (C3:∀w,Calls prog 172 #[.string Lo,.int .u8 64] w fun e w'=>e=.returned (.int .i64 m)∧w'=w)
  (hlo:Lo.size≤10000)
  (hmm:m<Lo.size) (hX:Lo.extract 0 m=X) (hY:Lo.extract (m+1) Lo.size=Y)
  (CM:∀w,Calls prog 168 #[jV X Y ⟨#[]⟩] w (Ret w (.bool false))):
  Calls prog 127 #[.string s] w (Ret w (.tuple #[jV ⟨#[]⟩ ⟨#[]⟩ ⟨#[]⟩,.int .i64 190])):=by
 obtain⟨kr,kj⟩:=JAt.two w ⟨#[]⟩ ⟨#[]⟩ ⟨#[]⟩ ⟨#[]⟩ ⟨#[]⟩ ⟨#[]⟩;have q0:=((bR w).alloc (wq _) (.cells #[.string ⟨#[]⟩,.string ⟨#[]⟩,.string ⟨#[]⟩] 117)).alloc (by simp) (.cells #[.string ⟨#[]⟩,.string ⟨#[]⟩,.string ⟨#[]⟩] 117);have H1:=h_ C1;have H2:=h_ C2;have H3:=h_ C3;have HM:=h_ CM
 have n2:(⟨#[47]⟩:ByteArray).size=1:=rfl
 clear C1 C2 C3 CM;go_enter func127,ntmps127;go_wp2_with fail;refine(H1.out _).mono ?_;rintro e w1 ⟨rfl,rfl⟩;go_wp2_with fail;refine(H2.out _).mono ?_;rintro e w2 ⟨rfl,hb⟩;have kr2:=kr.ret hb;have kj2:=kj.ret hb;have q2:=q0.trans (hb.mono q0.size);clear hb kr kj q0;obtain⟨x0,x1,x2,x3,x4,x5,x6⟩:=id kj2;obtain⟨y0,y1,y2,y3,y4,y5,y6⟩:=id kr2;go_wp2_with fail;refine(H3.out _).mono ?_;rintro e w3 ⟨rfl,rfl⟩;have kr3:=kr2.other (M:=w.heap.size+1) (o:=1) (by omega) (.string Lo);have kj3:=kj2.set1 Lo;have q3:=q2.setCell (p:=⟨w.heap.size+1,1,none⟩) (ws _) (.string Lo);clear kr2 kj2 q2;have kr4:=(kr3.other (M:=w.heap.size+1) (o:=0) (by omega) (.string X)).other (M:=w.heap.size+1) (o:=1) (by omega) (.string Y);have kj4:=(kj3.set0 X).set1 Y;have q4:=(q3.setCell (p:=⟨w.heap.size+1,0,none⟩) (ws _) (.string X)).setCell (p:=⟨w.heap.size+1,1,none⟩) (ws _) (.string Y);clear kr3 kj3 q3;go_wp2_with fail;refine(HM.out _).mono ?_;rintro e w5 ⟨rfl,hb⟩;have kr5:=kr4.ret hb;have kj5:=kj4.ret hb;have q5:=q4.trans (hb.mono q4.size);clear hb kr4 kj4 q4 x0 x1 x2 x3 x4 x5 x6 y0 y1 y2 y3 y4 y5 y6;obtain⟨x0,x1,x2,x3,x4,x5,x6⟩:=kj5;obtain⟨y0,y1,y2,y3,y4,y5,y6⟩:=kr5;go_wp2_with fail;refine bodyPost_ret (ay rfl rfl rfl ((JAt.mk y0 y1 y2 y3 y4 y5 y6).set3 _ _ _)) rfl ⟨rfl,ae q5 (wq _) _ _ _⟩
theorem f8 (s Lo T:ByteArray) (w:World)
  (C1:∀w,Calls prog 172 #[.string s,.int .u8 47] w fun e w'=>e=.returned (.int .i64 (-1))∧w'=w)
  (C2:∀w,Calls prog 173 #[.string s] w (Ret w (.string Lo)))
  (C3:∀w,Calls prog 172 #[.string Lo,.int .u8 64] w fun e w'=>e=.returned (.int .i64 (-1))∧w'=w)
  (CM:∀w,Calls prog 168 #[jV ⟨#[]⟩ Lo ⟨#[]⟩] w (Ret w (.bool true)))
  (CT:∀w,Calls prog 128 #[jV ⟨#[]⟩ Lo ⟨#[]⟩] w (Ret w (.string T)))
  (hE:(T.toList==Lo.toList)=true):
  Calls prog 127 #[.string s] w (Ret w (.tuple #[jV ⟨#[]⟩ Lo ⟨#[]⟩,.int .i64 0])):=by
 obtain⟨kr,kj⟩:=JAt.two w ⟨#[]⟩ ⟨#[]⟩ ⟨#[]⟩ ⟨#[]⟩ ⟨#[]⟩ ⟨#[]⟩;have q0:=((bR w).alloc (wq _) (.cells #[.string ⟨#[]⟩,.string ⟨#[]⟩,.string ⟨#[]⟩] 117)).alloc (by simp) (.cells #[.string ⟨#[]⟩,.string ⟨#[]⟩,.string ⟨#[]⟩] 117);have H1:=h_ C1;have H2:=h_ C2;have H3:=h_ C3;have HM:=h_ CM;have HT:=h_ CT
 have n2:(⟨#[47]⟩:ByteArray).size=1:=rfl
 clear C1 C2 C3 CM CT;go_enter func127,ntmps127;go_wp2_with fail;refine(H1.out _).mono ?_;rintro e w1 ⟨rfl,rfl⟩;go_wp2_with fail;refine(H2.out _).mono ?_;rintro e w2 ⟨rfl,hb⟩;have kr2:=kr.ret hb;have kj2:=kj.ret hb;have q2:=q0.trans (hb.mono q0.size);clear hb kr kj q0;obtain⟨x0,x1,x2,x3,x4,x5,x6⟩:=id kj2;obtain⟨y0,y1,y2,y3,y4,y5,y6⟩:=id kr2;go_wp2_with fail;refine(H3.out _).mono ?_;rintro e w3 ⟨rfl,rfl⟩;have kr3:=kr2.other (M:=w.heap.size+1) (o:=1) (by omega) (.string Lo);have kj3:=kj2.set1 Lo;have q3:=q2.setCell (p:=⟨w.heap.size+1,1,none⟩) (ws _) (.string Lo);clear kr2 kj2 q2;have kr4:=kr3;have kj4:=kj3;have q4:=q3;clear kr3 kj3 q3;go_wp2_with fail;refine(HM.out _).mono ?_;rintro e w5 ⟨rfl,hb⟩;have kr5:=kr4.ret hb;have kj5:=kj4.ret hb;have q5:=q4.trans (hb.mono q4.size);clear hb kr4 kj4 q4 x0 x1 x2 x3 x4 x5 x6 y0 y1 y2 y3 y4 y5 y6;obtain⟨x0,x1,x2,x3,x4,x5,x6⟩:=id kj5;go_wp2_with fail;refine(HT.out _).mono ?_;rintro e w6 ⟨rfl,hb⟩;have kr6:=kr5.ret hb;have kj6:=kj5.ret hb;have q6:=q5.trans (hb.mono q5.size);clear hb kr5 kj5 q5 x0 x1 x2 x3 x4 x5 x6;obtain⟨x0,x1,x2,x3,x4,x5,x6⟩:=kj6;obtain⟨y0,y1,y2,y3,y4,y5,y6⟩:=kr6;go_wp2_with fail;refine bodyPost_ret (ay rfl rfl rfl ((JAt.mk y0 y1 y2 y3 y4 y5 y6).set3 _ _ _)) rfl ⟨rfl,ae q6 (wq _) _ _ _⟩
theorem fX (s Lo T:ByteArray) (w:World)
  (C1:∀w,Calls prog 172 #[.string s,.int .u8 47] w fun e w'=>e=.returned (.int .i64 (-1))∧w'=w)
  (C2:∀w,Calls prog 173 #[.string s] w (Ret w (.string Lo)))
  (C3:∀w,Calls prog 172 #[.string Lo,.int .u8 64] w fun e w'=>e=.returned (.int .i64 (-1))∧w'=w)
  (CM:∀w,Calls prog 168 #[jV ⟨#[]⟩ Lo ⟨#[]⟩] w (Ret w (.bool true)))
  (CT:∀w,Calls prog 128 #[jV ⟨#[]⟩ Lo ⟨#[]⟩] w (Ret w (.string T)))
  (hE:(T.toList==Lo.toList)=false):
  Calls prog 127 #[.string s] w (Ret w (.tuple #[jV ⟨#[]⟩ ⟨#[]⟩ ⟨#[]⟩,.int .i64 190])):=by
 obtain⟨kr,kj⟩:=JAt.two w ⟨#[]⟩ ⟨#[]⟩ ⟨#[]⟩ ⟨#[]⟩ ⟨#[]⟩ ⟨#[]⟩;have q0:=((bR w).alloc (wq _) (.cells #[.string ⟨#[]⟩,.string ⟨#[]⟩,.string ⟨#[]⟩] 117)).alloc (by simp) (.cells #[.string ⟨#[]⟩,.string ⟨#[]⟩,.string ⟨#[]⟩] 117);have H1:=h_ C1;have H2:=h_ C2;have H3:=h_ C3;have HM:=h_ CM;have HT:=h_ CT
 have n2:(⟨#[47]⟩:ByteArray).size=1:=rfl
 clear C1 C2 C3 CM CT;go_enter func127,ntmps127;go_wp2_with fail;refine(H1.out _).mono ?_;rintro e w1 ⟨rfl,rfl⟩;go_wp2_with fail;refine(H2.out _).mono ?_;rintro e w2 ⟨rfl,hb⟩;have kr2:=kr.ret hb;have kj2:=kj.ret hb;have q2:=q0.trans (hb.mono q0.size);clear hb kr kj q0;obtain⟨x0,x1,x2,x3,x4,x5,x6⟩:=id kj2;obtain⟨y0,y1,y2,y3,y4,y5,y6⟩:=id kr2;go_wp2_with fail;refine(H3.out _).mono ?_;rintro e w3 ⟨rfl,rfl⟩;have kr3:=kr2.other (M:=w.heap.size+1) (o:=1) (by omega) (.string Lo);have kj3:=kj2.set1 Lo;have q3:=q2.setCell (p:=⟨w.heap.size+1,1,none⟩) (ws _) (.string Lo);clear kr2 kj2 q2;have kr4:=kr3;have kj4:=kj3;have q4:=q3;clear kr3 kj3 q3;go_wp2_with fail;refine(HM.out _).mono ?_;rintro e w5 ⟨rfl,hb⟩;have kr5:=kr4.ret hb;have kj5:=kj4.ret hb;have q5:=q4.trans (hb.mono q4.size);clear hb kr4 kj4 q4 x0 x1 x2 x3 x4 x5 x6 y0 y1 y2 y3 y4 y5 y6;obtain⟨x0,x1,x2,x3,x4,x5,x6⟩:=id kj5;go_wp2_with fail;refine(HT.out _).mono ?_;rintro e w6 ⟨rfl,hb⟩;have kr6:=kr5.ret hb;have kj6:=kj5.ret hb;have q6:=q5.trans (hb.mono q5.size);clear hb kr5 kj5 q5 x0 x1 x2 x3 x4 x5 x6;obtain⟨x0,x1,x2,x3,x4,x5,x6⟩:=kj6;obtain⟨y0,y1,y2,y3,y4,y5,y6⟩:=kr6;go_wp2_with fail;refine bodyPost_ret (ay rfl rfl rfl ((JAt.mk y0 y1 y2 y3 y4 y5 y6).set3 _ _ _)) rfl ⟨rfl,ae q6 (wq _) _ _ _⟩
theorem iB (s Lo:ByteArray) (w:World)
  (C1:∀w,Calls prog 172 #[.string s,.int .u8 47] w fun e w'=>e=.returned (.int .i64 (-1))∧w'=w)
  (C2:∀w,Calls prog 173 #[.string s] w (Ret w (.string Lo)))
  (C3:∀w,Calls prog 172 #[.string Lo,.int .u8 64] w fun e w'=>e=.returned (.int .i64 (-1))∧w'=w)
  (CM:∀w,Calls prog 168 #[jV ⟨#[]⟩ Lo ⟨#[]⟩] w (Ret w (.bool false))):
  Calls prog 127 #[.string s] w (Ret w (.tuple #[jV ⟨#[]⟩ ⟨#[]⟩ ⟨#[]⟩,.int .i64 190])):=by
 obtain⟨kr,kj⟩:=JAt.two w ⟨#[]⟩ ⟨#[]⟩ ⟨#[]⟩ ⟨#[]⟩ ⟨#[]⟩ ⟨#[]⟩;have q0:=((bR w).alloc (wq _) (.cells #[.string ⟨#[]⟩,.string ⟨#[]⟩,.string ⟨#[]⟩] 117)).alloc (by simp) (.cells #[.string ⟨#[]⟩,.string ⟨#[]⟩,.string ⟨#[]⟩] 117);have H1:=h_ C1;have H2:=h_ C2;have H3:=h_ C3;have HM:=h_ CM
 have n2:(⟨#[47]⟩:ByteArray).size=1:=rfl
 clear C1 C2 C3 CM;go_enter func127,ntmps127;go_wp2_with fail;refine(H1.out _).mono ?_;rintro e w1 ⟨rfl,rfl⟩;go_wp2_with fail;refine(H2.out _).mono ?_;rintro e w2 ⟨rfl,hb⟩;have kr2:=kr.ret hb;have kj2:=kj.ret hb;have q2:=q0.trans (hb.mono q0.size);clear hb kr kj q0;obtain⟨x0,x1,x2,x3,x4,x5,x6⟩:=id kj2;obtain⟨y0,y1,y2,y3,y4,y5,y6⟩:=id kr2;go_wp2_with fail;refine(H3.out _).mono ?_;rintro e w3 ⟨rfl,rfl⟩;have kr3:=kr2.other (M:=w.heap.size+1) (o:=1) (by omega) (.string Lo);have kj3:=kj2.set1 Lo;have q3:=q2.setCell (p:=⟨w.heap.size+1,1,none⟩) (ws _) (.string Lo);clear kr2 kj2 q2;have kr4:=kr3;have kj4:=kj3;have q4:=q3;clear kr3 kj3 q3;go_wp2_with fail;refine(HM.out _).mono ?_;rintro e w5 ⟨rfl,hb⟩;have kr5:=kr4.ret hb;have kj5:=kj4.ret hb;have q5:=q4.trans (hb.mono q4.size);clear hb kr4 kj4 q4 x0 x1 x2 x3 x4 x5 x6 y0 y1 y2 y3 y4 y5 y6;obtain⟨x0,x1,x2,x3,x4,x5,x6⟩:=kj5;obtain⟨y0,y1,y2,y3,y4,y5,y6⟩:=kr5;go_wp2_with fail;refine bodyPost_ret (ay rfl rfl rfl ((JAt.mk y0 y1 y2 y3 y4 y5 y6).set3 _ _ _)) rfl ⟨rfl,ae q5 (wq _) _ _ _⟩
theorem fH (c:UInt8) (s:ByteArray) (h:s.data.toList.contains c=true):(cA c s.data.toList).length<s.size∧s.extract 0 (cA c s.data.toList).length=jB (cA c s.data.toList)∧s.extract ((cA c s.data.toList).length+1) s.size=jB (cR c s.data.toList):=by
 obtain⟨e,-⟩:=so c s.data.toList (by simpa using h);have hl:=congrArg wC e;rw[ab,List.length_append,List.length_cons] at hl;refine⟨by omega,?_,?_⟩
 ·apply aR
  rw[ig,List.drop_zero,Nat.sub_zero,ag]
  conv=>lhs;rw[e]
  rw[List.take_append_of_le_length (by rw[←e];exact wq _),ww (by rw[←e];exact wq _)]
 ·apply aR
  rw[dP,ag]
  have:∀n,n=(cA c s.data.toList).length→s.data.toList.drop (n+1)=cR c s.data.toList:=fun n hn=>by
   conv=>lhs;rw[e]
   rw[hn,List.drop_append]
   simp
  exact this _ rfl
theorem dR (s:ByteArray) (w:World) (hs:s.size≤10000):Calls prog 127 #[.string s] w (Ret w (lZ s.data.toList)):=by
 have C1:=fun w=>rL s 47 w hs
 have hz:=ab s;have cf:=fH 47 s;obtain⟨l,hl⟩:=e_ s.data.toList;rw[hl] at C1 hz cf ⊢;have zA:=fA 47 l;have zR:=gB 47 l;have zLo:=hJ l;have zX:=fA 64 (bh l);have zY:=gB 64 (bh l)
 have C3:=fun w=>rL (jB (bh l)) 64 w (by rw[ah];first | omega | (rw[aQ];omega))
 have cf2:=fH 64 (jB (bh l));rw[ag] at C3 cf2
 have C4:∀a b c:List UInt8,a.length≤10000→b.length≤10000→c.length≤10000→∀w:World,Calls prog 168 #[jV (jB a) (jB b) (jB c)] w (Ret w (.bool (cQ a b c))):=by
  intro a b c za zb zc w;have:=kU (jB a) (jB b) (jB c) w (by rw[ah];exact za) (by rw[ah];exact zb) (by rw[ah];exact zc);rw[ag,ag,ag] at this;exact this
 have C5:∀a b c:List UInt8,a.length≤10000→b.length≤10000→c.length≤10000→∀w:World,Calls prog 128 #[jV (jB a) (jB b) (jB c)] w (Ret w (.string (jB (dp a b c)))):=by
  intro a b c za zb zc w;have:=cc (jB a) (jB b) (jB c) w (by rw[ah];exact za) (by rw[ah];exact zb) (by rw[ah];exact zc);rw[ag,ag,ag] at this;exact this
 have hp:=tm l
 have zl1:(aU l).length≤10000:=by
  unfold aU
  split
  ·omega
  ·exact wv _
 have zd1:(aZ l).length≤10000:=by
  unfold aZ
  split <;> omega
 have zr1:(aL l).length≤10000:=by unfold aL;omega
 have CM:=C4 (aU l) (aZ l) (aL l) zl1 zd1 zr1;have CT:=C5 (aU l) (aZ l) (aL l) zl1 zd1 zr1;clear C4 C5;unfold lZ
 have hW:∀W:ByteArray,W.data.toList=jk l→((jB (dp (aU l) (aZ l) (aL l))).toList==W.toList)=decide (dp (aU l) (aZ l) (aL l)=jk l):=fun W hWl=>s8 _ _ _ _ (ag _) hWl
 unfold atP at C1 C3
 cases hh:(bh l).contains 64 with
 | true=>
  cases hb:l.contains 47 with
  | true=>
   rw[hb,if_pos rfl] at C1;obtain⟨a1,a2,a3⟩:=cf hb
   have C2:=fun w=>eB (jB (cA 47 l)) w (by rw[ah];first | omega | (rw[aQ];omega))
   rw[ag] at C2;have eL:aU l=cA 64 (bh l):=(by unfold aU;rw[hh];rfl);have eD:aZ l=cR 64 (bh l):=(by unfold aZ;rw[hh];rfl);rw[hh,if_pos rfl] at C3;obtain⟨b1,b2,b3⟩:=cf2 hh;rw[eL,eD] at CM CT;have hq:=hW (jB (bh l)++⟨#[47]⟩++jB (cR 47 l)) (by unfold jk;rw[hb];simp[aL]);rw[eL,eD] at hp hq;rw[eL,eD]
   cases hc:cQ (cA 64 (bh l)) (cR 64 (bh l)) (aL l) with
   | false=>
    rw[hc,wy] at hp;rw[hc] at CM;rw[←hp];exact g8 s _ _ _ _ _ _ _ w C1 a1 hs a2 a3 C2 C3 (by rw[ah];first | omega | (rw[aQ];omega)) b1 b2 b3 CM (by rw[ah];first | omega | (rw[aQ];omega))
   | true=>
    rw[hc] at CM;rw[hc,wu] at hp;rw[hp] at hq
    cases he:bv l with
    | true=>
     rw[he] at hq;exact fV s _ _ _ _ _ _ _ _ _ w C1 a1 hs a2 a3 C2 C3 (by rw[ah];first | omega | (rw[aQ];omega)) b1 b2 b3 CM (by rw[ah];first | omega | (rw[aQ];omega)) CT rfl hq
    | false=>
     rw[he] at hq;exact fT s _ _ _ _ _ _ _ _ _ w C1 a1 hs a2 a3 C2 C3 (by rw[ah];first | omega | (rw[aQ];omega)) b1 b2 b3 CM (by rw[ah];first | omega | (rw[aQ];omega)) CT rfl hq
  | false=>
   rw[hb,if_neg (by decide)] at C1
   have eA:cA 47 l=l:=(ke 47 l (by simpa using hb)).1
   have eR:aL l=[]:=(ke 47 l (by simpa using hb)).2
   have C2:=fun w=>eB s w (by omega)
   rw[hl,show fF l=bh l by unfold bh;rw[eA]] at C2;rw[eR] at CM CT;have eL:aU l=cA 64 (bh l):=(by unfold aU;rw[hh];rfl);have eD:aZ l=cR 64 (bh l):=(by unfold aZ;rw[hh];rfl);rw[hh,if_pos rfl] at C3;obtain⟨b1,b2,b3⟩:=cf2 hh;rw[eL,eD] at CM CT;have hq:=hW (jB (bh l)) (by unfold jk;rw[hb];simp);rw[eL,eD,eR] at hp hq;rw[eL,eD,eR]
   cases hc:cQ (cA 64 (bh l)) (cR 64 (bh l)) [] with
   | false=>
    rw[hc,wy] at hp;rw[hc] at CM;rw[←hp];exact iq s _ _ _ _ w C1 C2 C3 (by rw[ah];first | omega | (rw[aQ];omega)) b1 b2 b3 CM
   | true=>
    rw[hc] at CM;rw[hc,wu] at hp;rw[hp] at hq
    cases he:bv l with
    | true=>
     rw[he] at hq;exact fS s _ _ _ _ _ w C1 C2 C3 (by rw[ah];first | omega | (rw[aQ];omega)) b1 b2 b3 CM CT hq
    | false=>
     rw[he] at hq;exact fO s _ _ _ _ _ w C1 C2 C3 (by rw[ah];first | omega | (rw[aQ];omega)) b1 b2 b3 CM CT hq
 | false=>
  cases hb:l.contains 47 with
  | true=>
   rw[hb,if_pos rfl] at C1;obtain⟨a1,a2,a3⟩:=cf hb
   have C2:=fun w=>eB (jB (cA 47 l)) w (by rw[ah];first | omega | (rw[aQ];omega))
   rw[ag] at C2;have eL:aU l=[]:=(by unfold aU;rw[hh];rfl);have eD:aZ l=bh l:=(by unfold aZ;rw[hh];rfl);rw[hh,if_neg (by decide)] at C3;rw[eL,eD] at CM CT;have hq:=hW (jB (bh l)++⟨#[47]⟩++jB (cR 47 l)) (by unfold jk;rw[hb];simp[aL]);rw[eL,eD] at hp hq;rw[eL,eD]
   cases hc:cQ [] (bh l) (aL l) with
   | false=>
    rw[hc,wy] at hp;rw[hc] at CM;rw[←hp];exact gT s _ _ _ _ w C1 a1 hs a2 a3 C2 C3 (by rw[ah];first | omega | (rw[aQ];omega)) CM (by rw[ah];first | omega | (rw[aQ];omega))
   | true=>
    rw[hc] at CM;rw[hc,wu] at hp;rw[hp] at hq
    cases he:bv l with
    | true=>
     rw[he] at hq;exact fY s _ _ _ _ _ _ w C1 a1 hs a2 a3 C2 C3 (by rw[ah];first | omega | (rw[aQ];omega)) CM (by rw[ah];first | omega | (rw[aQ];omega)) CT rfl hq
    | false=>
     rw[he] at hq;exact ge s _ _ _ _ _ _ w C1 a1 hs a2 a3 C2 C3 (by rw[ah];first | omega | (rw[aQ];omega)) CM (by rw[ah];first | omega | (rw[aQ];omega)) CT rfl hq
  | false=>
   rw[hb,if_neg (by decide)] at C1
   have eA:cA 47 l=l:=(ke 47 l (by simpa using hb)).1
   have eR:aL l=[]:=(ke 47 l (by simpa using hb)).2
   have C2:=fun w=>eB s w (by omega)
   rw[hl,show fF l=bh l by unfold bh;rw[eA]] at C2;rw[eR] at CM CT;have eL:aU l=[]:=(by unfold aU;rw[hh];rfl);have eD:aZ l=bh l:=(by unfold aZ;rw[hh];rfl);rw[hh,if_neg (by decide)] at C3;rw[eL,eD] at CM CT;have hq:=hW (jB (bh l)) (by unfold jk;rw[hb];simp);rw[eL,eD,eR] at hp hq;rw[eL,eD,eR]
   cases hc:cQ [] (bh l) [] with
   | false=>
    rw[hc,wy] at hp;rw[hc] at CM;rw[←hp];exact iB s _ w C1 C2 C3 CM
   | true=>
    rw[hc] at CM;rw[hc,wu] at hp;rw[hp] at hq
    cases he:bv l with
    | true=>
     rw[he] at hq;exact f8 s _ _ w C1 C2 C3 CM CT hq
    | false=>
     rw[he] at hq;exact fX s _ _ w C1 C2 C3 CM CT hq
end Go.Proofs.YtjgeiieiinmdnaaGreatDoor
