/- JdC, JdD, JdE, JdF: put together by mergetpl.py. -/
import Derived.Test.YtjgeiieiinmdnaaGreatDoorKa
import Derived.Test.YtjgeiieiinmdnaaGreatDoorGc
import Derived.Laws.RangeString
import Derived.Lib.OthersKept
import Derived.Lib.TrimUEq
import Derived.Lib.IndexAny
import Derived.Shelf.Strings.FuncGrows
open Go.Proofs.Tryz
open Array renaming getElem?_eq_some_iff→wO
open Bool renaming true_and→wE,and_true→wF,false_eq_true→wU,false_or→wW
open Go.Lib renaming hasPrefix→wt,trimS→wu,width_pos→wv,indexByte→wA,contains→wB,index→wC,validRune→wD,run_next_any_at→wI,iterAt_heap→wM,below_iterAt→wN,run_next_end_at→wR
open Go.RowKit.Below renaming refl→wH
open Go.World renaming iter_heap→wG
open List renaming isPrefixOf→ws,drop_eq_nil_of_le→ww,all_reverse→wy,length_drop→wK,drop_drop→wL,dropWhile_cons→wS,all_cons→wT,all_eq_true→wV,drop_zero→wX
open Nat renaming le_refl→wq,lt_or_ge→wz,lt_succ_self→wP,le_succ→wQ
namespace Go.Proofs.YtjgeiieiinmdnaaGreatDoor
set_option maxHeartbeats 4000000
open Go.RowKit Go.Lib

theorem ue (n:Nat) (hn:n≤1114111) (w:World):Calls prog 256 #[.int .i64 n] w fun e w'=>e=.returned (.bool (dt n))∧w'=w:=by
 have e0:(.int .i64 (n:Int):Value)=.int .i64 (n:Int):=rfl
 by_cases h9:n=9∨n=10∨n=13
 ·have hm : dt n = true := by rcases h9 with rfl | rfl | rfl <;> rfl
  rw[hm]
  rcases h9 with rfl | rfl | rfl
  ·go_enter func256,ntmps256
   go_wp2_with fail;go_ret;exact⟨rfl,rfl⟩
  ·go_enter func256,ntmps256
   go_wp2_with fail;go_ret;exact⟨rfl,rfl⟩
  ·go_enter func256,ntmps256
   go_wp2_with fail;go_ret;exact⟨rfl,rfl⟩
 ·have z1:((n:Int)==9)=false:=beq_eq_false_iff_ne.2 (by omega)
  have z2:((n:Int)==10)=false:=beq_eq_false_iff_ne.2 (by omega)
  have z3:((n:Int)==13)=false:=beq_eq_false_iff_ne.2 (by omega)
  by_cases h32:n<32
  ·have hm:dt n=false:=by
    unfold dt;rw[if_pos h32]
    simp;omega
   rw[hm]
   have z4:decide ((n:Int)<32)=true:=decide_eq_true (by omega)
   clear hm h9;go_enter func256,ntmps256;go_wp2_with fail;go_ret;exact⟨rfl,rfl⟩
  ·have z4:decide ((n:Int)<32)=false:=decide_eq_false (by omega)
   by_cases he:n=65534
   ·subst he
    rw[show dt 65534=false from rfl];go_enter func256,ntmps256;go_wp2_with fail;go_ret;exact⟨rfl,rfl⟩
   ·by_cases hf:n=65535
    ·subst hf
     rw[show dt 65535=false from rfl];go_enter func256,ntmps256;go_wp2_with fail;go_ret;exact⟨rfl,rfl⟩
    ·have z5:((n:Int)==65534)=false:=beq_eq_false_iff_ne.2 (by omega)
     have z6:((n:Int)==65535)=false:=beq_eq_false_iff_ne.2 (by omega)
     have z7:decide ((1114111:Int)<n)=false:=decide_eq_false (by omega)
     have hv:wD (n:Int)=dt n:=by
      unfold wD dt;rw[if_neg h32];have d1:(n==65534)=false:=(by simpa using he);have d2:(n==65535)=false:=(by simpa using hf)
      have d3:decide (n≤1114111)=true:=decide_eq_true hn
      rw[d1,d2,d3,←Bool.decide_or];simp only[wE,Bool.not_false,wF];exact decide_eq_decide.2 (by omega)
     have V:=fun w=>Tryz.utf8_ValidRune (n:Int) w
     rw[hv] at V;have VH:=h_ V;clear V hv h9;have g1:(0:Int)≤n:=(by omega);have g2:(n:Int)≤1114111:=(by omega);go_enter func256,ntmps256;go_wp2_with fail;refine(VH.out _).mono ?_;rintro e w1 ⟨rfl,rfl⟩;go_wp2_with fail;go_ret;exact⟨rfl,rfl⟩

theorem jY:(prog.info? 3).map (fun i=>(i.zero,i.size,i.bytes))=some (some (.int .i64 0),1,8):=by kernel_rfl
theorem vC (n b0 b1 b2 b3 r k:Nat) (h:decodeN n b0 b1 b2 b3=(r,k)) (h0:b0<256) (h1:b1<256) (hr:r=65533):k=1↔¬ (2<n∧b0=239∧b1=191∧b2=189):=by
 unfold decodeN at h
 repeat' split at h
 all_goals
  obtain⟨e1,e2⟩:=Prod.mk.inj h
  omega
theorem u8N (a:UInt8) (n:Nat) (hn:n<256):(UInt8.ofNat n==a)=decide (a.toNat=n):=by
 rw[Bool.eq_iff_iff,beq_iff_eq,decide_eq_true_eq]
 constructor
 ·rintro rfl
  simp[UInt8.toNat_ofNat',Nat.mod_eq_of_lt hn]
 ·rintro rfl
  simp
theorem rO (l:List UInt8):wt l [239,191,189]=decide (2<l.length∧(l.getD 0 0).toNat=239∧(l.getD 1 0).toNat=191∧(l.getD 2 0).toNat=189):=by
 match l with
 | []=>rfl
 | [a]=>simp[wt,ws]
 | [a,b]=>simp[wt,ws]
 | a :: b :: c :: l=>
  have e1:=u8N a 239 (by decide);have e2:=u8N b 191 (by decide);have e3:=u8N c 189 (by decide)
  show ((UInt8.ofNat 239)==a&&((UInt8.ofNat 191)==b&&((UInt8.ofNat 189)==c&&ws [] l)))=_
  rw[e1,e2,e3]
  simp[ws]
theorem wg (l:List UInt8) (h:(decodeL l).1=65533):wt l [239,191,189]=!decide ((decodeL l).2=1):=by
 rw[rO];have e:=vC l.length _ _ _ _ (decodeL l).1 (decodeL l).2 (by rw[←decodeL_N]) (UInt8.toNat_lt _) (UInt8.toNat_lt _) h;rw[←decide_not];exact decide_eq_decide.2 ⟨fun h1 h2=>e.1 h2 h1,fun h1=>Decidable.not_not.1 fun h2=>h1 (e.2 h2)⟩
theorem qF {wr:World} {B n:Nat} {e:TypeId} {v:Value} {xs:List Value} (h:wr.ownsRow (B+1) e 1 v n xs) (s:ByteArray) (pos:Nat):(wr.iterAt B s pos).ownsRow (B+1) e 1 v n xs:=by
 refine h.kept (row:=some B) ⟨rfl,rfl,rfl,by rw[iterAt_size];exact wq _,fun i _ hne=>iterAt_other _ _ _ _ _ (fun e=>hne (by rw[e]))⟩ ?_
 cases hk:v.ownBlock with
 | none=>exact .inl rfl
 | some k=>
  right
  intro e;have:=h.lt k hk
  cases e
  omega
theorem nV (s:ByteArray) (w:World) (hs:s.size≤10000):Calls prog 227 #[.string s] w fun e w'=>(∃v,e=.returned (.tuple #[v,.int .i64 (if txP s.data.toList then 0 else 50)]))∧Bl w w':=by
 obtain⟨O,hO⟩:∃O:Int,(if txP s.data.toList then 0 else 50)=O:=⟨_,rfl⟩;rw[hO];have HO:=h_ hO;clear hO;obtain⟨i0,hi,hz0,hz1,hz2⟩:=info_parts jY
 have zs:decide ((16384:Int)<s.size)=false:=decide_eq_false (by omega)
 have HP:=h_ fun x w=>Tryz.strings_HasPrefix x ⟨#[239,191,189]⟩ w
 have HM:=h_ ue;go_enter func227,ntmps227;go_wp2_with fail;go_loopg [2] s.size (fun gf v wx=>∃pos n xs,wx.heap[w.heap.size]?=some (.stringIter s pos)∧Bl w wx∧wx.ownsRow (w.heap.size+1) 3 1 v n xs∧n≤pos∧(if txP (s.data.toList.drop pos) then 0 else 50)=O∧s.size≤pos+gf∧pos≤s.size+4)
 case atStart=>exact⟨0,0,[],wG w s 0,(wH _ w).alloc (wq _) _,World.ownsRow_nil _ _ _ _,wq _,HO.out,by omega,by omega⟩
 case round=>
  obtain⟨pos,n,xs,hit,hbw,hown,hn,hO,hfu,hp4⟩:=hrel
  by_cases hps:pos<s.size
  ·obtain⟨g',rfl⟩:∃g',gk=g'+1:=⟨gk-1,by omega⟩
   have hnx:∀ty,(Instr.next (.pointer (some ⟨w.heap.size,0,none⟩)) true ty).run prog wr=_:=fun ty=>wI wr w.heap.size s pos ty hit hps
   have hwd:=wv s pos;have hrl:=Lib.rune_le s pos
   have hne:s.data.toList.drop pos≠[]:=by
    intro e;have:=congrArg List.length e;rw[wK,ab] at this
    simp at this
    omega
   obtain⟨t,ht⟩:=e_ (txP (s.data.toList.drop pos));rw[ht] at hO;rw[lK _ hne] at ht;have hF:=wg (s.data.toList.drop pos);have hle:=decodeL_le (s.data.toList.drop pos) hne;rw[decodeL_drop] at ht hF hle;rw[wK,ab] at hle;obtain⟨R,hR⟩:=e_ ((Utf8.decode s pos).1);obtain⟨K,hK⟩:=e_ ((Utf8.decode s pos).2);rw[hR,hK] at hnx ht hF;rw[hK] at hwd hle;rw[hR] at hrl;rw[wL] at ht;have hit2:=wM wr w.heap.size s pos (pos+K) hit;have hbw2:=wN hbw (k:=w.heap.size) (wq _) s (pos+K);have hown2:(wr.iterAt w.heap.size s (pos+K)).ownsRow (w.heap.size+1) 3 1 u2 n xs:=qF hown s (pos+K);obtain⟨W,hWd⟩:=e_ (wr.iterAt w.heap.size s (pos+K));rw[hWd] at hnx hit2 hbw2 hown2;have hltW:w.heap.size<W.heap.size:=(wO.1 hit2).1
   have MH:=h_ fun w=>HM.out R hrl w
   have hg1:(0:Int)≤R:=(by omega);have hg2:(R:Int)≤1114111:=(by omega)
   have hx:(s.extract pos s.size).data.toList=s.data.toList.drop pos:=dP s pos
   have PH:=fun w=>HP.out (s.extract pos s.size) w
   rw[hx] at PH;have HWN:=h_ hown2;have HBW:=h_ hbw2;clear hown2 hown hbw hbw2 hit hx hne hWd HP HM
   by_cases h1:R=65533
   ·have hr1 : ((R : Int) == 65533) = true := by rw [h1]; rfl
    have hF':=hF h1;clear hF;rw[hF'] at PH
    by_cases h2:K=1
    ·rw[if_pos (.inl ⟨h1,h2⟩)] at ht
     rw[decide_eq_true h2] at PH;subst ht;have PHH:=h_ PH;clear PH MH hi hz0 hz1 hz2 h1 h2 hF';subst hO;go_wp2_with fail;refine(PHH.out _).mono ?_;rintro e w1 ⟨rfl,rfl⟩;go_wp2_with fail;go_ret2;exact⟨⟨_,rfl⟩,HBW.out⟩
    ·have hm : dt R = true := by rw [h1]; rfl
     rw[if_neg (fun h=>h.elim (fun h=>h2 h.2) (fun h=>by rw[hm] at h;cases h))] at ht;rw[←ht] at hO;rw[decide_eq_false h2] at PH;have PHH:=h_ PH;rw[hm] at MH;have OH:=h_ hO;clear PH h1 h2 hF' hO hm;go_wp2_with fail;refine(PHH.out _).mono ?_;rintro e w1 ⟨rfl,rfl⟩;go_wp2_with fail;refine(MH.out _).mono ?_;rintro e w1 ⟨rfl,rfl⟩;go_wp2_with (at_builtin;refine bk rfl _ _ 202 rfl (w.heap.size+1) 3 i0 (.int .i64 0) 8 underlying202 hi hz0 hz1 hz2 rfl _ _ _ rfl HWN.out (.int .i64 (R:Int)) rfl rfl (by omega) (by omega) (by omega) ?_;intro v' w2 hown' hbel);have hb2:=(hbel _ (bQ _)).block _ (wP _);have hb3:=hbel _ (bQ _);have HO2:=h_ hown';clear hown' hbel hi hz0 hz1 hz2;go_wp2_with fail;go_roundg g'
     case measure=>omega
     case rel=>exact⟨pos+K,n+1,_,hb2.trans hit2,HBW.out.trans (hb3.mono (wQ _)),HO2.out,by omega,OH.out,by omega,by omega⟩
   ·have hr1:((R:Int)==65533)=false:=beq_eq_false_iff_ne.2 (by omega)
    obtain⟨m,hm⟩:=e_ (dt R);rw[hm] at ht MH
    cases m with
    | false=>
     rw[if_pos (.inr rfl)] at ht;subst ht;subst hO;clear hF PH hm h1 hi hz0 hz1 hz2;go_wp2_with fail;refine(MH.out _).mono ?_;rintro e w1 ⟨rfl,rfl⟩;go_wp2_with fail;go_ret2;exact⟨⟨_,rfl⟩,HBW.out⟩
    | true=>
     rw[if_neg (fun h=>h.elim (fun h=>h1 h.1) (fun h=>by cases h))] at ht;rw[←ht] at hO;have OH:=h_ hO;clear hF PH hm h1 hO;go_wp2_with fail;refine(MH.out _).mono ?_;rintro e w1 ⟨rfl,rfl⟩;go_wp2_with (at_builtin;refine bk rfl _ _ 202 rfl (w.heap.size+1) 3 i0 (.int .i64 0) 8 underlying202 hi hz0 hz1 hz2 rfl _ _ _ rfl HWN.out (.int .i64 (R:Int)) rfl rfl (by omega) (by omega) (by omega) ?_;intro v' w2 hown' hbel);have hb2:=(hbel _ (bQ _)).block _ (wP _);have hb3:=hbel _ (bQ _);have HO2:=h_ hown';clear hown' hbel hi hz0 hz1 hz2;go_wp2_with fail;go_roundg g'
     case measure=>omega
     case rel=>exact⟨pos+K,n+1,_,hb2.trans hit2,HBW.out.trans (hb3.mono (wQ _)),HO2.out,by omega,OH.out,by omega,by omega⟩
  ·have hd:s.data.toList.drop pos=[]:=ww (by rw[ab];omega)
   rw[hd,nP,if_pos rfl] at hO;subst hO
   have hnx:∀ty,(Instr.next (.pointer (some ⟨w.heap.size,0,none⟩)) true ty).run prog wr=_:=fun ty=>wR wr w.heap.size s pos ty hit hps
   clear hown hi hz0 hz1 hz2 hd;go_wp2_with fail;go_ret2;exact⟨⟨_,rfl⟩,hbw⟩
theorem dd (s:ByteArray) (w:World) (hs:s.size≤10000):Calls prog 193 #[.string s] w (Ret w (.int .i64 (if txP s.data.toList then 0 else 50))):=by
 have P0:=nV s w hs;obtain⟨O,hO⟩:∃O:Int,(if txP s.data.toList then 0 else 50)=O:=⟨_,rfl⟩;rw[hO] at P0 ⊢;have P:=h_ P0;clear P0 hO;go_enter func193,ntmps193;go_wp2_with fail;refine P.out.mono ?_;rintro e w1 ⟨⟨v,rfl⟩,hb⟩;go_wp2_with fail;go_ret;exact⟨rfl,hb⟩

theorem bD {p:UInt8→Bool}:∀l:List UInt8,l.dropWhile p=[]↔l.all p=true
 | []=>by simp
 | a :: l=>by
  rw[wS]
  cases h:p a with
  | true=>simp only[if_true,wT,h,wE];exact bD l
  | false=>simp[h]
theorem du {p:UInt8→Bool}:∀(l:List UInt8) (a:UInt8) (r:List UInt8),l.dropWhile p=a :: r→p a=false
 | [],_,_,h=>by simp at h
 | b :: l,a,r,h=>by
  rw[wS] at h
  cases hb:p b with
  | true=>rw[hb,if_pos rfl] at h;exact du l a r h
  | false=>
   rw[hb] at h;simp only[wU,if_false] at h
   cases h
   exact hb
theorem pi (l cs:List UInt8):wu l cs=[]↔l.all (cs.contains ·)=true:=by
 unfold wu Lib.trimLeftS Lib.trimRightS;rw[bD,wy]
 constructor
 ·intro h
  cases hd:l.reverse.dropWhile (cs.contains ·) with
  | nil=>rw[bD,wy] at hd;exact hd
  | cons a r=>
   have h1:=du _ _ _ hd;rw[hd,wT,h1] at h
   cases h
 ·intro h
  rw[(bD l.reverse).2 (by rw[wy];exact h)]
  rfl

theorem ea (g:Nat) (lb:Array Value) (eg:∀args w,(callFunc g args).run prog w=.ok (.enter g args) w) (s:ByteArray) (w:World) (Q:Nat→Prop) (hQ:∀pos,pos<s.size→Q (Utf8.decode s pos).1)
  (hp:∀(W:World) (x:Nat),Q x→Bl w W→Calls prog g (#[.int .i32 x]++lb) W (Ret W (.bool false))):
  Calls prog 251 #[.string s,.func (.func g) #[] lb,.bool true] w (Ret w (.int .i64 (-1))):=by
 go_enter func251,ntmps251;go_wp2_with fail;go_loopg [] s.size (fun gf wx=>∃pos:Nat,wx.heap[w.heap.size]?=some (.stringIter s pos)∧Bl w wx∧s.size≤pos+gf)
 case atStart=>exact⟨0,wG w s 0,(wH _ w).alloc (wq _) _,by omega⟩
 case round=>
  obtain⟨pos,hit,hbw,hfu⟩:=hrel
  by_cases hps:pos<s.size
  ·obtain⟨g',rfl⟩:∃g',gk=g'+1:=⟨gk-1,by omega⟩
   have hnx:∀ty,(Instr.next (.pointer (some ⟨w.heap.size,0,none⟩)) true ty).run prog wr=_:=fun ty=>wI wr w.heap.size s pos ty hit hps
   have hwd:=wv s pos;have hq:=hQ pos hps;obtain⟨R,hR⟩:=e_ ((Utf8.decode s pos).1);obtain⟨K,hK⟩:=e_ ((Utf8.decode s pos).2);rw[hR,hK] at hnx;rw[hR] at hq;rw[hK] at hwd;have hit2:=wM wr w.heap.size s pos (pos+K) hit;have hbw2:=wN hbw (k:=w.heap.size) (wq _) s (pos+K);obtain⟨W,hWd⟩:=e_ (wr.iterAt w.heap.size s (pos+K));rw[hWd] at hnx hit2 hbw2;have hltW:w.heap.size<W.heap.size:=(wO.1 hit2).1;have cS:=h_ (hp W R hq hbw2);have HB:=h_ hbw2;clear hp hbw2 hbw hWd;go_wp2_with (go_at_fn g;refine cS.out.mono ?_;rintro e W' ⟨rfl,hbc⟩);have hb2:=HB.out.trans (hbc.mono HB.out.size);have hit3:=(hbc.block _ hltW).trans hit2;clear hbc;go_wp2_with fail;go_roundg g'
   case measure=>omega
   case rel=>exact⟨pos+K,hit3,hb2,by omega⟩
  ·have hnx:∀ty,(Instr.next (.pointer (some ⟨w.heap.size,0,none⟩)) true ty).run prog wr=_:=fun ty=>wR wr w.heap.size s pos ty hit hps
   clear hp;go_wp2_with fail;go_ret;exact⟨rfl,hbw⟩
theorem lk (g:Nat) (lb:Array Value) (eg:∀args w,(callFunc g args).run prog w=.ok (.enter g args) w) (s:ByteArray) (w:World) (Q:Nat→Prop) (hQ:∀pos,pos<s.size→Q (Utf8.decode s pos).1)
  (hp:∀(W:World) (x:Nat),Q x→Bl w W→Calls prog g (#[.int .i32 x]++lb) W (Ret W (.bool false))):
  Calls prog 190 #[.string s,.func (.func g) #[] lb] w (Ret w (.bool false)):=by
 have H:=h_ (ea g lb eg s w Q hQ hp)
 have I:Calls prog 225 #[.string s,.func (.func g) #[] lb] w (Ret w (.int .i64 (-1))):=by
  go_enter func225,ntmps225;go_wp2_with fail;refine H.out.mono ?_;rintro e w1 ⟨rfl,hb⟩;go_wp2_with fail;go_ret;exact⟨rfl,hb⟩
 have IH:=h_ I;clear I H hp hQ;go_enter func190,ntmps190;go_wp2_with fail;refine IH.out.mono ?_;rintro e w1 ⟨rfl,hb⟩;go_wp2_with fail;go_ret;exact⟨rfl,hb⟩
theorem ss (L:Nat) (set:ByteArray) (x:Nat) (w:World) (hL:w.cell? ⟨L,0,none⟩=some (.string set)) (hx:x<128) (hc:set.data.toList.contains x.toUInt8=true):
  Calls prog 191 #[.int .i32 x,.pointer (some ⟨L,0,none⟩)] w (Ret w (.bool false)):=by
 have C:=fun w=>Tryz.strings_ContainsRune_ascii set (x:Int) w (by omega) (by omega)
 rw[show ((x:Int)).toNat=x from rfl,←contains_iff_indexByte,hc] at C;have CH:=h_ C;clear C hc;go_enter func191,ntmps191;go_wp2_with fail;refine(CH.out _).mono ?_;rintro e w1 ⟨rfl,rfl⟩;go_wp2_with fail;go_ret;exact⟨rfl,bQ _⟩
theorem nE (s:ByteArray) (set:List UInt8) (h:s.data.toList.all (set.contains ·)=true) (ha:set.all (fun b=>decide (b.toNat<128))=true) (pos:Nat) (hp:pos<s.size):(Utf8.decode s pos).1<128∧set.contains (Utf8.decode s pos).1.toUInt8=true:=by
 rw[←decodeL_drop,cX s pos hp];have hm:s[pos]∈s.data.toList:=List.mem_of_getElem? (dc s pos hp);have h1:=wV.1 h _ hm;have h2:=wV.1 ha s[pos] (by simpa using h1);rw[decodeL_ascii _ _ (by simpa using h2)];refine⟨by simpa using h2,?_⟩;rw[show s[pos].toNat.toUInt8=s[pos] from UInt8.ofNat_toNat];exact h1
theorem uD:∀args w,(callFunc 191 args).run prog w=.ok (.enter 191 args) w:=enters_of func191 (by kernel_rfl) rfl
theorem uK (L:Nat) (set s:ByteArray) (w:World) (hL:w.cell? ⟨L,0,none⟩=some (.string set)) (hl:L<w.heap.size) (hs:s.size≤10000) (hz:set.size≤1000) (ha:set.data.toList.all (fun b=>decide (b.toNat<128))=true):
  Calls prog 188 #[.string s,.pointer (some ⟨L,0,none⟩)] w (Ret w (.bool (s.data.toList.all (set.data.toList.contains ·)))):=by
 have T:=fun w=>Any.strings_Trim_laid Tryz.lays160 (by kernel_rfl) s set w (by omega) (by omega) (ascii_of_all ha)
 obtain⟨X,hX⟩:∃X:ByteArray,⟨(wu s.data.toList set.data.toList).toArray⟩=X:=⟨_,rfl⟩
 have hXl:X.data.toList=wu s.data.toList set.data.toList:=by rw[←hX]
 have hTA:=pi s.data.toList set.data.toList;rw[←hXl] at hTA;rw[hX] at T;have TH:=h_ T
 have hX2:X.toList=X.data.toList:=Lib.toList_data X
 clear T hX hXl;obtain⟨t,ht⟩:=e_ (s.data.toList.all (set.data.toList.contains ·));rw[ht] at hTA ⊢
 cases t with
 | false=>
  have hne:¬ X.data.toList=[]:=fun e=>by have:=hTA.1 e;cases this
  rw[←hX2] at hne
  have hq:(X.toList==[])=false:=by simpa using hne
  clear hTA hX2 ht ha;go_enter func188,ntmps188;go_wp2_with fail;refine(TH.out _).mono ?_;rintro e w1 ⟨rfl,hb⟩;go_wp2_with fail;go_ret;exact⟨rfl,hb⟩
 | true=>
  have he:=hTA.2 rfl;rw[←hX2] at he
  have hq:(X.toList==[])=true:=by rw[he];rfl
  have HD:=h_ (nE s _ ht ha);clear hTA hX2 ht he ha;go_enter func188,ntmps188;go_wp2_with fail;refine(TH.out _).mono ?_;rintro e w1 ⟨rfl,hb⟩;have hc1:=((af hb).1 L 0 hl).trans hL;have hz1:=hb.size;have H:=lk 191 #[.pointer (some ⟨L,0,none⟩)] uD s w1 (fun x=>x<128∧set.data.toList.contains x.toUInt8=true) HD.out (fun W x hx hbw=>ss L set x W (((af hbw).1 L 0 (by omega)).trans hc1) hx.1 hx.2);have HH:=h_ H;clear H HD;go_wp2_with fail;refine HH.out.mono ?_;rintro e w2 ⟨rfl,hb2⟩;go_wp2_with fail;go_ret;exact⟨rfl,hb.trans (hb2.mono hb.size)⟩

abbrev uc:ByteArray:=⟨#[97,98,99,100,101,102,103,104,105,106,107,108,109,110,111,112,113,114,115,116,117,118,119,120,121,122,48,49,50,51,52,53,54,55,56,57]⟩
abbrev rD:ByteArray:=⟨#[97,98,99,100,101,102,103,104,105,106,107,108,109,110,111,112,113,114,115,116,117,118,119,120,121,122,48,49,50,51,52,53,54,55,56,57,46,45,95]⟩
abbrev tW:ByteArray:=⟨#[97,98,99,100,101,102,103,104,105,106,107,108,109,110,111,112,113,114,115,116,117,118,119,120,121,122,48,49,50,51,52,53,54,55,56,57,46,45]⟩
theorem tN (c:UInt8):uc.data.toList.contains c=jdA c:=by
 have:=oS (q:=fun c=>uc.data.toList.contains c==jdA c) (by decide+kernel) c
 simpa using this
theorem vF (c:UInt8):rD.data.toList.contains c=jdL c:=by
 have:=oS (q:=fun c=>rD.data.toList.contains c==jdL c) (by decide+kernel) c
 simpa using this
theorem vq (c:UInt8):tW.data.toList.contains c=jdD c:=by
 have:=oS (q:=fun c=>tW.data.toList.contains c==jdD c) (by decide+kernel) c
 simpa using this

/-! ### no byte below 32 -/
theorem uW (n b0 b1 b2 b3 r k:Nat) (h:decodeN n b0 b1 b2 b3=(r,k)):(r<32↔b0<32)∧(32≤b0→k≤4∧(2≤k→32≤b1)∧(3≤k→32≤b2)∧(4≤k→32≤b3)):=by
 unfold decodeN at h
 repeat' split at h
 all_goals
  obtain⟨e1,e2⟩:=Prod.mk.inj h
  omega
theorem qJ (l:List UInt8) (k:Nat) (h0:32≤(l.getD 0 0).toNat) (hk:k≤4) (h1:2≤k→32≤(l.getD 1 0).toNat) (h2:3≤k→32≤(l.getD 2 0).toNat) (h3:4≤k→32≤(l.getD 3 0).toNat):(l.take k).any (fun c=>decide (c.toNat<32))=false:=by
 rw[List.any_eq_false];intro c hc;obtain⟨i,hi,rfl⟩:=List.mem_iff_getElem.1 hc;rw[List.length_take] at hi;rw[List.getElem_take,decide_eq_true_eq]
 have e:∀j (hj:j<l.length),l.getD j 0=l[j]:=fun j hj=>by simp[List.getD,hj]
 have hi2:i<l.length:=by omega
 rcases wz i 1 with h | h
 ·obtain rfl : i = 0 := by omega
  rw[e 0 hi2] at h0
  omega
 ·rcases wz i 2 with h' | h'
  ·obtain rfl : i = 1 := by omega
   have:=h1 (by omega);rw[e 1 hi2] at this
   omega
  ·rcases wz i 3 with h'' | h''
   ·obtain rfl : i = 2 := by omega
    have:=h2 (by omega);rw[e 2 hi2] at this
    omega
   ·obtain rfl : i = 3 := by omega
    have:=h3 (by omega);rw[e 3 hi2] at this
    omega
theorem ru (s:ByteArray):∀(f pos:Nat),s.size≤pos+f→decide (0≤idxFuncFrom (fun x=>decide (x<32)) true s f pos)=(s.data.toList.drop pos).any (fun c=>decide (c.toNat<32))
 | 0,pos,h=>by
  rw[ww (by rw[ab];omega)]
  rfl
 | f+1,pos,h=>by
  unfold idxFuncFrom
  by_cases hp:pos<s.size
  ·rw[if_pos hp]
   have hN:=uW (s.data.toList.drop pos).length _ _ _ _ (Utf8.decode s pos).1 (Utf8.decode s pos).2 (by rw[←decodeL_N,decodeL_drop]);have hw:=wv s pos;have hD:=cX s pos hp;have h0:((s.data.toList.drop pos).getD 0 0)=s[pos]:=(by rw[hD];rfl)
   by_cases hr:(Utf8.decode s pos).1<32
   ·have hb:=hN.1.1 hr
    rw[h0] at hb;rw[if_pos (decide_eq_true hr),hD,List.any_cons,decide_eq_true hb,Bool.true_or];exact decide_eq_true (by omega)
   ·rw[if_neg (by simpa using hr)]
    have hb:32≤((s.data.toList.drop pos).getD 0 0).toNat:=by
     have:=fun h=>hr (hN.1.2 h)
     omega
    obtain⟨k1,k2,k3,k4⟩:=hN.2 hb;rw[ru s f _ (by omega),←wL]
    conv=>rhs;rw[←List.take_append_drop (Utf8.decode s pos).2 (s.data.toList.drop pos),List.any_append,qJ _ _ hb k1 k2 k3 k4,wW]
  ·rw[if_neg hp,ww (by rw[ab];omega)]
   rfl
theorem vE (s:ByteArray):decide (0≤idxFunc (fun x=>decide (x<32)) true s)=!s.data.toList.all (fun c=>decide (32≤c.toNat)):=by
 have:=ru s s.size 0 (by omega);rw[wX] at this;unfold idxFunc;rw[this,List.not_all_eq_any_not]
 congr 1
 funext c
 rw[←decide_not];exact decide_eq_decide.2 (by omega)
theorem nA (x:Nat) (hx:x≤1114111) (w:World):Calls prog 194 #[.int .i32 x] w fun e w'=>e=.returned (.bool (decide (x<32)))∧w'=w:=by
 obtain⟨t,ht⟩:=e_ (decide (x<32));rw[ht]
 have h1:decide ((x:Int)<32)=t:=by rw[←ht];exact decide_eq_decide.2 (by omega)
 clear ht;go_enter func194,ntmps194;go_wp2_with fail;go_ret;exact⟨rfl,rfl⟩
theorem qA:∀args w,(callFunc 194 args).run prog w=.ok (.enter 194 args) w:=enters_of func194 (by kernel_rfl) rfl
theorem pH (s:ByteArray) (w:World) (hs:s.size≤10000):Calls prog 149 #[.string s] w (Ret w (.bool (txP s.data.toList&&s.data.toList.all fun c=>decide (32≤c.toNat)))):=by
 have T:=fun w=>dd s w hs
 have F:=fun w=>Tryz.strings_ContainsFunc_grows 194 #[] qA (fun x=>decide (x<32)) s w (fun W x hx _=>(nA x hx W).mono fun e w' ⟨h1,h2⟩=>⟨h1,by rw[h2];exact bQ _⟩)
 rw[vE] at F;obtain⟨a,ha⟩:=e_ (txP s.data.toList);obtain⟨b,hb⟩:=e_ ((s.data.toList.all fun c=>decide (32≤c.toNat)));rw[ha] at T;rw[hb] at F;rw[ha,hb];have FH:=h_ F;clear F ha hb
 cases a with
 | false=>
  have TH:=h_ T;clear T;go_enter func149,ntmps149;go_wp2_with fail;refine(TH.out _).mono ?_;rintro e w1 ⟨rfl,hb1⟩;go_wp2_with fail;go_ret;exact⟨rfl,hb1⟩
 | true=>
  have TH:=h_ T;clear T
  cases b with
  | true=>
   go_enter func149,ntmps149;go_wp2_with fail;refine(TH.out _).mono ?_;rintro e w1 ⟨rfl,hb1⟩;go_wp2_with fail;refine(FH.out _).mono ?_;rintro e w2 ⟨rfl,hb2⟩;go_wp2_with fail;go_ret;exact⟨rfl,hb1.trans (hb2.mono hb1.size)⟩
  | false=>
   go_enter func149,ntmps149;go_wp2_with fail;refine(TH.out _).mono ?_;rintro e w1 ⟨rfl,hb1⟩;go_wp2_with fail;refine(FH.out _).mono ?_;rintro e w2 ⟨rfl,hb2⟩;go_wp2_with fail;go_ret;exact⟨rfl,hb1.trans (hb2.mono hb1.size)⟩

/-! ### both ends, and no two points -/
theorem jw (s:ByteArray) (h:0<s.size):s.data.toList.getLastD 0=s[s.size-1]'(by omega):=by
 rw[List.getLastD_eq_getLast?,List.getLast?_eq_getElem?,ab,dc s (s.size-1) (by omega)]
 rfl
theorem jp (s:ByteArray) (h:0<s.size):s.data.toList.headD 0=s[0]'h:=by
 have:=cX s 0 h;rw[wX] at this;rw[this]
 rfl
theorem sj (s:ByteArray) (w:World) (hs:s.size≤10000) (h0:0<s.size):Calls prog 150 #[.string s] w fun e w'=>e=.returned (.bool (jdA (s.data.toList.headD 0)&&jdA (s.data.toList.getLastD 0)))∧w'=w:=by
 have I:=fun (c:UInt8) w=>Tryz.strings_IndexByte uc (c.toNat:Int) w
 have e:∀c:UInt8,((c.toNat:Int)).toNat.toUInt8=c:=fun c=>UInt8.ofNat_toNat
 simp only[e] at I
 have J:∀c:UInt8,decide (0≤wA uc.data.toList c)=jdA c:=fun c=>by rw[←contains_iff_indexByte,tN]
 rw[jp s h0,jw s h0]
 have hl:s.size-1<s.size:=by omega
 have hk:((s.size:Int)-1)=((s.size-1:Nat):Int):=by omega
 obtain⟨V,hV⟩:=e_ (wA uc.data.toList s[0]);obtain⟨U,hU⟩:=e_ (wA uc.data.toList (s[s.size-1]'hl));have I1:=I s[0];have I2:=I (s[s.size-1]'hl);have j1:=J s[0];have j2:=J (s[s.size-1]'hl);rw[hV] at I1 j1;rw[hU] at I2 j2;obtain⟨a,ha⟩:=e_ (jdA s[0]);obtain⟨b,hb⟩:=e_ (jdA (s[s.size-1]'hl));rw[ha] at j1;rw[hb] at j2;rw[ha,hb];have H1:=h_ I1;have H2:=h_ I2;clear I J e I1 I2 hV hU ha hb
 cases a with
 | false=>
  have g1:¬ 0≤V:=of_decide_eq_false j1;go_enter func150,ntmps150;go_wp2_with fail;refine(H1.out _).mono ?_;rintro e w1 ⟨rfl,rfl⟩;go_wp2_with fail;go_ret;exact⟨rfl,rfl⟩
 | true=>
  have g1:0≤V:=of_decide_eq_true j1;go_enter func150,ntmps150;go_wp2_with fail;refine(H1.out _).mono ?_;rintro e w1 ⟨rfl,rfl⟩;go_wp2_with fail;refine(H2.out _).mono ?_;rintro e w1 ⟨rfl,rfl⟩;go_wp2_with fail;go_ret;exact⟨rfl,rfl⟩
theorem pe:∀l:List UInt8,wB l [46,46]=bo l
 | []=>rfl
 | [a]=>by simp[wB,wC,ws,bo]
 | a :: b :: l=>by
  have ih:=pe (b :: l);unfold wB at ih ⊢;unfold wC bo
  have hp:([46,46]:List UInt8).isPrefixOf (a :: b :: l)=(a==46&&b==46):=by
   show ((46:UInt8)==a&&((46:UInt8)==b&&true))=_
   rw[wF,dD 46 a,dD 46 b]
  rw[hp]
  cases (a==46&&b==46) with
  | true=>rfl
  | false=>
   rw[wW,←ih];simp only[wU,if_false]
   split
   ·rename_i h
    rw[beq_iff_eq] at h;rw[h]
   ·rename_i h
    have:=index_ge (b :: l) [46,46]
    have h':wC (b :: l) [46,46]≠-1:=fun e=>h (by rw[e];rfl)
    rw[decide_eq_true (by omega),decide_eq_true (by omega)]
theorem tC (s:ByteArray) (w:World) (hs:s.size≤10000) (hm:ML w):Calls prog 151 #[.string s] w fun e w'=>e=.returned (.bool (!bo s.data.toList))∧w'=w:=by
 obtain⟨-,m,hm⟩:=hm;have C:=Tryz.strings_Contains s ⟨#[46,46]⟩ m w (by omega) hm;rw[show (ByteArray.mk #[46,46]).data.toList=[46,46] from rfl,pe] at C;have H:=h_ C;clear C;go_enter func151,ntmps151;go_wp2_with fail;refine H.out.mono ?_;rintro e w1 ⟨rfl,rfl⟩;go_wp2_with fail;go_ret;exact⟨rfl,rfl⟩
end Go.Proofs.YtjgeiieiinmdnaaGreatDoor
