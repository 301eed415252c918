/- JdC, JdD, JdE, JdF: put together by mergetpl.py. -/
import Derived.Lib.IndexAny
import Derived.Lib.OthersKept
import Derived.Lib.TrimUEq
import Derived.Shelf.Strings.FuncGrows
import Derived.Test.YtjgeiieiinmdnaaGreatDoorKa
open Go.Proofs.Tryz
open Array renaming getElem?_eq_some_iff→wM
open Bool renaming true_and→wC,and_true→wD,false_eq_true→wS,false_or→wU
open Go.Lib renaming hasPrefix→wq,trimS→ws,width_pos→wt,indexByte→wy,contains→wz,index→wA,validRune→wB,run_next_any_at→wG,iterAt_heap→wK,below_iterAt→wL,run_next_end_at→wP
open Go.RowKit.Below renaming refl→wF
open Go.World renaming iter_heap→wE
open List renaming isPrefixOf→wo,drop_eq_nil_of_le→wu,all_reverse→wv,length_drop→wH,drop_drop→wI,dropWhile_cons→wQ,all_cons→wR,all_eq_true→wT,drop_zero→wV
open Nat renaming le_refl→wh,lt_or_ge→ww,lt_succ_self→wN,le_succ→wO
namespace Go.Proofs.YtjgeiieiinmdnaaGreatDoor
set_option maxHeartbeats 4000000
open Go.RowKit Go.Lib

theorem un (n:Nat) (hn:n≤1114111) (w:World):Calls prog 256 #[.int .i64 n] w fun e w'=>e=.returned (.bool (dI n))∧w'=w:=by
 have e0:(.int .i64 (n:Int):Value)=.int .i64 (n:Int):=rfl
 by_cases h9:n=9∨n=10∨n=13
 ·have hm : dI n = true := by rcases h9 with rfl | rfl | rfl <;> rfl
  rw[hm]
  rcases h9 with rfl | rfl | rfl
  ·go_enter func256,ntmps256
   go_wp2_with fail;go_ret;exact⟨rfl,rfl⟩
  ·go_enter func256,ntmps256
   go_wp2_with fail;go_ret;exact⟨rfl,rfl⟩
  ·go_enter func256,ntmps256
   go_wp2_with fail;go_ret;exact⟨rfl,rfl⟩
 ·have z1:((n:Int)==9)=false:=beq_eq_false_iff_ne.2 (by omega)
  have z2:((n:Int)==10)=false:=beq_eq_false_iff_ne.2 (by omega)
  have z3:((n:Int)==13)=false:=beq_eq_false_iff_ne.2 (by omega)
  by_cases h32:n<32
  ·have hm:dI n=false:=by
    unfold dI;rw[if_pos h32]
    simp;omega
   rw[hm]
   have z4:decide ((n:Int)<32)=true:=decide_eq_true (by omega)
   clear hm h9;go_enter func256,ntmps256;go_wp2_with fail;go_ret;exact⟨rfl,rfl⟩
  ·have z4:decide ((n:Int)<32)=false:=decide_eq_false (by omega)
   by_cases he:n=65534
   ·subst he
    rw[show dI 65534=false from rfl];go_enter func256,ntmps256;go_wp2_with fail;go_ret;exact⟨rfl,rfl⟩
   ·by_cases hf:n=65535
    ·subst hf
     rw[show dI 65535=false from rfl];go_enter func256,ntmps256;go_wp2_with fail;go_ret;exact⟨rfl,rfl⟩
    ·have z5:((n:Int)==65534)=false:=beq_eq_false_iff_ne.2 (by omega)
     have z6:((n:Int)==65535)=false:=beq_eq_false_iff_ne.2 (by omega)
     have z7:decide ((1114111:Int)<n)=false:=decide_eq_false (by omega)
     have hv:wB (n:Int)=dI n:=by
      unfold wB dI;rw[if_neg h32];have d1:(n==65534)=false:=(by simpa using he);have d2:(n==65535)=false:=(by simpa using hf)
      have d3:decide (n≤1114111)=true:=decide_eq_true hn
      rw[d1,d2,d3,←Bool.decide_or];simp only[wC,Bool.not_false,wD];exact decide_eq_decide.2 (by omega)
     have V:=fun w=>Tryz.utf8_ValidRune (n:Int) w
     rw[hv] at V;have VH:=h_ V;clear V hv h9;have g1:(0:Int)≤n:=(by omega);have g2:(n:Int)≤1114111:=(by omega);go_enter func256,ntmps256;go_wp2_with fail;refine(VH.out _).mono ?_;rintro e w1 ⟨rfl,rfl⟩;go_wp2_with fail;go_ret;exact⟨rfl,rfl⟩

theorem kP:(prog.info? 3).map (fun i=>(i.zero,i.size,i.bytes))=some (some (.int .i64 0),1,8):=by kernel_rfl
theorem vL (n b0 b1 b2 b3 r k:Nat) (h:decodeN n b0 b1 b2 b3=(r,k)) (h0:b0<256) (h1:b1<256) (hr:r=65533):k=1↔¬ (2<n∧b0=239∧b1=191∧b2=189):=by
 unfold decodeN at h
 repeat' split at h
 all_goals
  obtain⟨e1,e2⟩:=Prod.mk.inj h
  omega
theorem u8N (a:UInt8) (n:Nat) (hn:n<256):(UInt8.ofNat n==a)=decide (a.toNat=n):=by
 rw[Bool.eq_iff_iff,beq_iff_eq,decide_eq_true_eq]
 constructor
 ·rintro rfl
  simp[UInt8.toNat_ofNat',Nat.mod_eq_of_lt hn]
 ·rintro rfl
  simp
theorem tn (l:List UInt8):wq l [239,191,189]=decide (2<l.length∧(l.getD 0 0).toNat=239∧(l.getD 1 0).toNat=191∧(l.getD 2 0).toNat=189):=by
 match l with
 | []=>rfl
 | [a]=>simp[wq,wo]
 | [a,b]=>simp[wq,wo]
 | a :: b :: c :: l=>
  have e1:=u8N a 239 (by decide);have e2:=u8N b 191 (by decide);have e3:=u8N c 189 (by decide)
  show ((UInt8.ofNat 239)==a&&((UInt8.ofNat 191)==b&&((UInt8.ofNat 189)==c&&wo [] l)))=_
  rw[e1,e2,e3]
  simp[wo]
theorem vV (l:List UInt8) (h:(decodeL l).1=65533):wq l [239,191,189]=!decide ((decodeL l).2=1):=by
 rw[tn];have e:=vL l.length _ _ _ _ (decodeL l).1 (decodeL l).2 (by rw[←decodeL_N]) (UInt8.toNat_lt _) (UInt8.toNat_lt _) h;rw[←decide_not];exact decide_eq_decide.2 ⟨fun h1 h2=>e.1 h2 h1,fun h1=>Decidable.not_not.1 fun h2=>h1 (e.2 h2)⟩
theorem pW {wr:World} {B n:Nat} {e:TypeId} {v:Value} {xs:List Value} (h:wr.ownsRow (B+1) e 1 v n xs) (s:ByteArray) (pos:Nat):(wr.iterAt B s pos).ownsRow (B+1) e 1 v n xs:=by
 refine h.kept (row:=some B) ⟨rfl,rfl,rfl,by rw[iterAt_size];exact wh _,fun i _ xt=>iterAt_other _ _ _ _ _ (fun e=>xt (by rw[e]))⟩ ?_
 cases hk:v.ownBlock with
 | none=>exact .inl rfl
 | some k=>
  right
  intro e;have:=h.lt k hk
  cases e
  omega
theorem ph (s:ByteArray) (w:World) (hs:s.size≤10000):Calls prog 227 #[.string s] w fun e w'=>(∃v,e=.returned (.tuple #[v,.int .i64 (if txP s.data.toList then 0 else 50)]))∧Bl w w':=by
 obtain⟨O,hO⟩:∃O:Int,(if txP s.data.toList then 0 else 50)=O:=⟨_,rfl⟩;rw[hO];have HO:=h_ hO;clear hO;obtain⟨i0,hi,xw,xu,xx⟩:=info_parts kP
 have zs:decide ((16384:Int)<s.size)=false:=decide_eq_false (by omega)
 have HP:=h_ fun x w=>Tryz.strings_HasPrefix x ⟨#[239,191,189]⟩ w
 have HM:=h_ un;go_enter func227,ntmps227;go_wp2_with fail;go_loopg [2] s.size (fun gf v wx=>∃pos n xs,wx.heap[w.heap.size]?=some (.stringIter s pos)∧Bl w wx∧wx.ownsRow (w.heap.size+1) 3 1 v n xs∧n≤pos∧(if txP (s.data.toList.drop pos) then 0 else 50)=O∧s.size≤pos+gf∧pos≤s.size+4)
 case atStart=>exact⟨0,0,[],wE w s 0,(wF _ w).alloc (wh _) _,World.ownsRow_nil _ _ _ _,wh _,HO.out,by omega,by omega⟩
 case round=>
  obtain⟨pos,n,xs,hit,hbw,xC,hn,hO,xT,xX⟩:=hrel
  by_cases hps:pos<s.size
  ·obtain⟨g',rfl⟩:∃g',gk=g'+1:=⟨gk-1,by omega⟩
   have xy:∀ty,(Instr.next (.pointer (some ⟨w.heap.size,0,none⟩)) true ty).run prog wr=_:=fun ty=>wG wr w.heap.size s pos ty hit hps
   have xI:=wt s pos;have xP:=Lib.rune_le s pos
   have xt:s.data.toList.drop pos≠[]:=by
    intro e;have:=congrArg List.length e;rw[wH,ab] at this
    simp at this
    omega
   obtain⟨t,ht⟩:=e_ (txP (s.data.toList.drop pos));rw[ht] at hO;rw[jz _ xt] at ht;have hF:=vV (s.data.toList.drop pos);have xJ:=decodeL_le (s.data.toList.drop pos) xt;rw[decodeL_drop] at ht hF xJ;rw[wH,ab] at xJ;obtain⟨R,hR⟩:=e_ ((Utf8.decode s pos).1);obtain⟨K,hK⟩:=e_ ((Utf8.decode s pos).2);rw[hR,hK] at xy ht hF;rw[hK] at xI xJ;rw[hR] at xP;rw[wI] at ht;have xn:=wK wr w.heap.size s pos (pos+K) hit;have xo:=wL hbw (k:=w.heap.size) (wh _) s (pos+K);have xz:(wr.iterAt w.heap.size s (pos+K)).ownsRow (w.heap.size+1) 3 1 u2 n xs:=pW xC s (pos+K);obtain⟨W,xD⟩:=e_ (wr.iterAt w.heap.size s (pos+K));rw[xD] at xy xn xo xz;have xH:w.heap.size<W.heap.size:=(wM.1 xn).1
   have MH:=h_ fun w=>HM.out R xP w
   have xY:(0:Int)≤R:=(by omega);have xZ:(R:Int)≤1114111:=(by omega)
   have hx:(s.extract pos s.size).data.toList=s.data.toList.drop pos:=ef s pos
   have PH:=fun w=>HP.out (s.extract pos s.size) w
   rw[hx] at PH;have xQ:=h_ xz;have xE:=h_ xo;clear xz xC hbw xo hit hx xt xD HP HM
   by_cases h1:R=65533
   ·have xU : ((R : Int) == 65533) = true := by rw [h1]; rfl
    have xK:=hF h1;clear hF;rw[xK] at PH
    by_cases h2:K=1
    ·rw[if_pos (.inl ⟨h1,h2⟩)] at ht
     rw[decide_eq_true h2] at PH;subst ht;have xL:=h_ PH;clear PH MH hi xw xu xx h1 h2 xK;subst hO;go_wp2_with fail;refine(xL.out _).mono ?_;rintro e w1 ⟨rfl,rfl⟩;go_wp2_with fail;go_ret2;exact⟨⟨_,rfl⟩,xE.out⟩
    ·have hm : dI R = true := by rw [h1]; rfl
     rw[if_neg (fun h=>h.elim (fun h=>h2 h.2) (fun h=>by rw[hm] at h;cases h))] at ht;rw[←ht] at hO;rw[decide_eq_false h2] at PH;have xL:=h_ PH;rw[hm] at MH;have OH:=h_ hO;clear PH h1 h2 xK hO hm;go_wp2_with fail;refine(xL.out _).mono ?_;rintro e w1 ⟨rfl,rfl⟩;go_wp2_with fail;refine(MH.out _).mono ?_;rintro e w1 ⟨rfl,rfl⟩;go_wp2_with (at_builtin;refine bw rfl _ _ 202 rfl (w.heap.size+1) 3 i0 (.int .i64 0) 8 underlying202 hi xw xu xx rfl _ _ _ rfl xQ.out (.int .i64 (R:Int)) rfl rfl (by omega) (by omega) (by omega) ?_;intro v' w2 xp xq);have xr:=(xq _ (bQ _)).block _ (wN _);have xM:=xq _ (bQ _);have xN:=h_ xp;clear xp xq hi xw xu xx;go_wp2_with fail;go_roundg g'
     case measure=>omega
     case rel=>exact⟨pos+K,n+1,_,xr.trans xn,xE.out.trans (xM.mono (wO _)),xN.out,by omega,OH.out,by omega,by omega⟩
   ·have xU:((R:Int)==65533)=false:=beq_eq_false_iff_ne.2 (by omega)
    obtain⟨m,hm⟩:=e_ (dI R);rw[hm] at ht MH
    cases m with
    | false=>
     rw[if_pos (.inr rfl)] at ht;subst ht;subst hO;clear hF PH hm h1 hi xw xu xx;go_wp2_with fail;refine(MH.out _).mono ?_;rintro e w1 ⟨rfl,rfl⟩;go_wp2_with fail;go_ret2;exact⟨⟨_,rfl⟩,xE.out⟩
    | true=>
     rw[if_neg (fun h=>h.elim (fun h=>h1 h.1) (fun h=>by cases h))] at ht;rw[←ht] at hO;have OH:=h_ hO;clear hF PH hm h1 hO;go_wp2_with fail;refine(MH.out _).mono ?_;rintro e w1 ⟨rfl,rfl⟩;go_wp2_with (at_builtin;refine bw rfl _ _ 202 rfl (w.heap.size+1) 3 i0 (.int .i64 0) 8 underlying202 hi xw xu xx rfl _ _ _ rfl xQ.out (.int .i64 (R:Int)) rfl rfl (by omega) (by omega) (by omega) ?_;intro v' w2 xp xq);have xr:=(xq _ (bQ _)).block _ (wN _);have xM:=xq _ (bQ _);have xN:=h_ xp;clear xp xq hi xw xu xx;go_wp2_with fail;go_roundg g'
     case measure=>omega
     case rel=>exact⟨pos+K,n+1,_,xr.trans xn,xE.out.trans (xM.mono (wO _)),xN.out,by omega,OH.out,by omega,by omega⟩
  ·have hd:s.data.toList.drop pos=[]:=wu (by rw[ab];omega)
   rw[hd,lW,if_pos rfl] at hO;subst hO
   have xy:∀ty,(Instr.next (.pointer (some ⟨w.heap.size,0,none⟩)) true ty).run prog wr=_:=fun ty=>wP wr w.heap.size s pos ty hit hps
   clear xC hi xw xu xx hd;go_wp2_with fail;go_ret2;exact⟨⟨_,rfl⟩,hbw⟩
theorem dz (s:ByteArray) (w:World) (hs:s.size≤10000):Calls prog 193 #[.string s] w (Ret w (.int .i64 (if txP s.data.toList then 0 else 50))):=by
 have P0:=ph s w hs;obtain⟨O,hO⟩:∃O:Int,(if txP s.data.toList then 0 else 50)=O:=⟨_,rfl⟩;rw[hO] at P0 ⊢;have P:=h_ P0;clear P0 hO;go_enter func193,ntmps193;go_wp2_with fail;refine P.out.mono ?_;rintro e w1 ⟨⟨v,rfl⟩,hb⟩;go_wp2_with fail;go_ret;exact⟨rfl,hb⟩

theorem bE {p:UInt8→Bool}:∀l:List UInt8,l.dropWhile p=[]↔l.all p=true
 | []=>by simp
 | a :: l=>by
  rw[wQ]
  cases h:p a with
  | true=>simp only[if_true,wR,h,wC];exact bE l
  | false=>simp[h]
theorem dO {p:UInt8→Bool}:∀(l:List UInt8) (a:UInt8) (r:List UInt8),l.dropWhile p=a :: r→p a=false
 | [],_,_,h=>by simp at h
 | b :: l,a,r,h=>by
  rw[wQ] at h
  cases hb:p b with
  | true=>rw[hb,if_pos rfl] at h;exact dO l a r h
  | false=>
   rw[hb] at h;simp only[wS,if_false] at h
   cases h
   exact hb
theorem oX (l cs:List UInt8):ws l cs=[]↔l.all (cs.contains ·)=true:=by
 unfold ws Lib.trimLeftS Lib.trimRightS;rw[bE,wv]
 constructor
 ·intro h
  cases hd:l.reverse.dropWhile (cs.contains ·) with
  | nil=>rw[bE,wv] at hd;exact hd
  | cons a r=>
   have h1:=dO _ _ _ hd;rw[hd,wR,h1] at h
   cases h
 ·intro h
  rw[(bE l.reverse).2 (by rw[wv];exact h)]
  rfl

theorem eM (g:Nat) (lb:Array Value) (eg:∀args w,(callFunc g args).run prog w=.ok (.enter g args) w) (s:ByteArray) (w:World) (Q:Nat→Prop) (hQ:∀pos,pos<s.size→Q (Utf8.decode s pos).1)
  (hp:∀(W:World) (x:Nat),Q x→Bl w W→Calls prog g (#[.int .i32 x]++lb) W (Ret W (.bool false))):
  Calls prog 251 #[.string s,.func (.func g) #[] lb,.bool true] w (Ret w (.int .i64 (-1))):=by
 go_enter func251,ntmps251;go_wp2_with fail;go_loopg [] s.size (fun gf wx=>∃pos:Nat,wx.heap[w.heap.size]?=some (.stringIter s pos)∧Bl w wx∧s.size≤pos+gf)
 case atStart=>exact⟨0,wE w s 0,(wF _ w).alloc (wh _) _,by omega⟩
 case round=>
  obtain⟨pos,hit,hbw,xT⟩:=hrel
  by_cases hps:pos<s.size
  ·obtain⟨g',rfl⟩:∃g',gk=g'+1:=⟨gk-1,by omega⟩
   have xy:∀ty,(Instr.next (.pointer (some ⟨w.heap.size,0,none⟩)) true ty).run prog wr=_:=fun ty=>wG wr w.heap.size s pos ty hit hps
   have xI:=wt s pos;have hq:=hQ pos hps;obtain⟨R,hR⟩:=e_ ((Utf8.decode s pos).1);obtain⟨K,hK⟩:=e_ ((Utf8.decode s pos).2);rw[hR,hK] at xy;rw[hR] at hq;rw[hK] at xI;have xn:=wK wr w.heap.size s pos (pos+K) hit;have xo:=wL hbw (k:=w.heap.size) (wh _) s (pos+K);obtain⟨W,xD⟩:=e_ (wr.iterAt w.heap.size s (pos+K));rw[xD] at xy xn xo;have xH:w.heap.size<W.heap.size:=(wM.1 xn).1;have cS:=h_ (hp W R hq xo);have HB:=h_ xo;clear hp xo hbw xD;go_wp2_with (go_at_fn g;refine cS.out.mono ?_;rintro e W' ⟨rfl,xO⟩);have xr:=HB.out.trans (xO.mono HB.out.size);have xR:=(xO.block _ xH).trans xn;clear xO;go_wp2_with fail;go_roundg g'
   case measure=>omega
   case rel=>exact⟨pos+K,xR,xr,by omega⟩
  ·have xy:∀ty,(Instr.next (.pointer (some ⟨w.heap.size,0,none⟩)) true ty).run prog wr=_:=fun ty=>wP wr w.heap.size s pos ty hit hps
   clear hp;go_wp2_with fail;go_ret;exact⟨rfl,hbw⟩
theorem lm (g:Nat) (lb:Array Value) (eg:∀args w,(callFunc g args).run prog w=.ok (.enter g args) w) (s:ByteArray) (w:World) (Q:Nat→Prop) (hQ:∀pos,pos<s.size→Q (Utf8.decode s pos).1)
  (hp:∀(W:World) (x:Nat),Q x→Bl w W→Calls prog g (#[.int .i32 x]++lb) W (Ret W (.bool false))):
  Calls prog 190 #[.string s,.func (.func g) #[] lb] w (Ret w (.bool false)):=by
 have H:=h_ (eM g lb eg s w Q hQ hp)
 have I:Calls prog 225 #[.string s,.func (.func g) #[] lb] w (Ret w (.int .i64 (-1))):=by
  go_enter func225,ntmps225;go_wp2_with fail;refine H.out.mono ?_;rintro e w1 ⟨rfl,hb⟩;go_wp2_with fail;go_ret;exact⟨rfl,hb⟩
 have IH:=h_ I;clear I H hp hQ;go_enter func190,ntmps190;go_wp2_with fail;refine IH.out.mono ?_;rintro e w1 ⟨rfl,hb⟩;go_wp2_with fail;go_ret;exact⟨rfl,hb⟩
theorem sC (L:Nat) (set:ByteArray) (x:Nat) (w:World) (hL:w.cell? ⟨L,0,none⟩=some (.string set)) (hx:x<128) (hc:set.data.toList.contains x.toUInt8=true):
  Calls prog 191 #[.int .i32 x,.pointer (some ⟨L,0,none⟩)] w (Ret w (.bool false)):=by
 have C:=fun w=>Tryz.strings_ContainsRune_ascii set (x:Int) w (by omega) (by omega)
 rw[show ((x:Int)).toNat=x from rfl,←contains_iff_indexByte,hc] at C;have CH:=h_ C;clear C hc;go_enter func191,ntmps191;go_wp2_with fail;refine(CH.out _).mono ?_;rintro e w1 ⟨rfl,rfl⟩;go_wp2_with fail;go_ret;exact⟨rfl,bQ _⟩
theorem om (s:ByteArray) (set:List UInt8) (h:s.data.toList.all (set.contains ·)=true) (ha:set.all (fun b=>decide (b.toNat<128))=true) (pos:Nat) (hp:pos<s.size):(Utf8.decode s pos).1<128∧set.contains (Utf8.decode s pos).1.toUInt8=true:=by
 rw[←decodeL_drop,dk s pos hp];have hm:s[pos]∈s.data.toList:=List.mem_of_getElem? (dp s pos hp);have h1:=wT.1 h _ hm;have h2:=wT.1 ha s[pos] (by simpa using h1);rw[decodeL_ascii _ _ (by simpa using h2)];refine⟨by simpa using h2,?_⟩;rw[show s[pos].toNat.toUInt8=s[pos] from UInt8.ofNat_toNat];exact h1
theorem uz:∀args w,(callFunc 191 args).run prog w=.ok (.enter 191 args) w:=enters_of func191 (by kernel_rfl) rfl
theorem uB (L:Nat) (set s:ByteArray) (w:World) (hL:w.cell? ⟨L,0,none⟩=some (.string set)) (hl:L<w.heap.size) (hs:s.size≤10000) (hz:set.size≤1000) (ha:set.data.toList.all (fun b=>decide (b.toNat<128))=true):
  Calls prog 188 #[.string s,.pointer (some ⟨L,0,none⟩)] w (Ret w (.bool (s.data.toList.all (set.data.toList.contains ·)))):=by
 have T:=fun w=>Any.strings_Trim_laid Tryz.lays160 (by kernel_rfl) s set w (by omega) (by omega) (ascii_of_all ha)
 obtain⟨X,hX⟩:∃X:ByteArray,⟨(ws s.data.toList set.data.toList).toArray⟩=X:=⟨_,rfl⟩
 have xS:X.data.toList=ws s.data.toList set.data.toList:=by rw[←hX]
 have xB:=oX s.data.toList set.data.toList;rw[←xS] at xB;rw[hX] at T;have TH:=h_ T
 have xF:X.toList=X.data.toList:=Lib.toList_data X
 clear T hX xS;obtain⟨t,ht⟩:=e_ (s.data.toList.all (set.data.toList.contains ·));rw[ht] at xB ⊢
 cases t with
 | false=>
  have xt:¬ X.data.toList=[]:=fun e=>by have:=xB.1 e;cases this
  rw[←xF] at xt
  have hq:(X.toList==[])=false:=by simpa using xt
  clear xB xF ht ha;go_enter func188,ntmps188;go_wp2_with fail;refine(TH.out _).mono ?_;rintro e w1 ⟨rfl,hb⟩;go_wp2_with fail;go_ret;exact⟨rfl,hb⟩
 | true=>
  have he:=xB.2 rfl;rw[←xF] at he
  have hq:(X.toList==[])=true:=by rw[he];rfl
  have HD:=h_ (om s _ ht ha);clear xB xF ht he ha;go_enter func188,ntmps188;go_wp2_with fail;refine(TH.out _).mono ?_;rintro e w1 ⟨rfl,hb⟩;have xV:=((ag hb).1 L 0 hl).trans hL;have xu:=hb.size;have H:=lm 191 #[.pointer (some ⟨L,0,none⟩)] uz s w1 (fun x=>x<128∧set.data.toList.contains x.toUInt8=true) HD.out (fun W x hx hbw=>sC L set x W (((ag hbw).1 L 0 (by omega)).trans xV) hx.1 hx.2);have HH:=h_ H;clear H HD;go_wp2_with fail;refine HH.out.mono ?_;rintro e w2 ⟨rfl,xr⟩;go_wp2_with fail;go_ret;exact⟨rfl,hb.trans (xr.mono hb.size)⟩

abbrev uS:ByteArray:=⟨#[97,98,99,100,101,102,103,104,105,106,107,108,109,110,111,112,113,114,115,116,117,118,119,120,121,122,48,49,50,51,52,53,54,55,56,57]⟩
abbrev rM:ByteArray:=⟨#[97,98,99,100,101,102,103,104,105,106,107,108,109,110,111,112,113,114,115,116,117,118,119,120,121,122,48,49,50,51,52,53,54,55,56,57,46,45,95]⟩
abbrev uf:ByteArray:=⟨#[97,98,99,100,101,102,103,104,105,106,107,108,109,110,111,112,113,114,115,116,117,118,119,120,121,122,48,49,50,51,52,53,54,55,56,57,46,45]⟩
theorem tX (c:UInt8):uS.data.toList.contains c=jdA c:=by
 have:=mm (q:=fun c=>uS.data.toList.contains c==jdA c) (by decide+kernel) c
 simpa using this
theorem vw (c:UInt8):rM.data.toList.contains c=jdL c:=by
 have:=mm (q:=fun c=>rM.data.toList.contains c==jdL c) (by decide+kernel) c
 simpa using this
theorem vF (c:UInt8):uf.data.toList.contains c=jdD c:=by
 have:=mm (q:=fun c=>uf.data.toList.contains c==jdD c) (by decide+kernel) c
 simpa using this

/-! ### no byte below 32 -/
theorem uK (n b0 b1 b2 b3 r k:Nat) (h:decodeN n b0 b1 b2 b3=(r,k)):(r<32↔b0<32)∧(32≤b0→k≤4∧(2≤k→32≤b1)∧(3≤k→32≤b2)∧(4≤k→32≤b3)):=by
 unfold decodeN at h
 repeat' split at h
 all_goals
  obtain⟨e1,e2⟩:=Prod.mk.inj h
  omega
theorem qy (l:List UInt8) (k:Nat) (h0:32≤(l.getD 0 0).toNat) (hk:k≤4) (h1:2≤k→32≤(l.getD 1 0).toNat) (h2:3≤k→32≤(l.getD 2 0).toNat) (h3:4≤k→32≤(l.getD 3 0).toNat):(l.take k).any (fun c=>decide (c.toNat<32))=false:=by
 rw[List.any_eq_false];intro c hc;obtain⟨i,hi,rfl⟩:=List.mem_iff_getElem.1 hc;rw[List.length_take] at hi;rw[List.getElem_take,decide_eq_true_eq]
 have e:∀j (hj:j<l.length),l.getD j 0=l[j]:=fun j hj=>by simp[List.getD,hj]
 have xG:i<l.length:=by omega
 rcases ww i 1 with h | h
 ·obtain rfl : i = 0 := by omega
  rw[e 0 xG] at h0
  omega
 ·rcases ww i 2 with h' | h'
  ·obtain rfl : i = 1 := by omega
   have:=h1 (by omega);rw[e 1 xG] at this
   omega
  ·rcases ww i 3 with xW | xW
   ·obtain rfl : i = 2 := by omega
    have:=h2 (by omega);rw[e 2 xG] at this
    omega
   ·obtain rfl : i = 3 := by omega
    have:=h3 (by omega);rw[e 3 xG] at this
    omega
theorem rY (s:ByteArray):∀(f pos:Nat),s.size≤pos+f→decide (0≤idxFuncFrom (fun x=>decide (x<32)) true s f pos)=(s.data.toList.drop pos).any (fun c=>decide (c.toNat<32))
 | 0,pos,h=>by
  rw[wu (by rw[ab];omega)]
  rfl
 | f+1,pos,h=>by
  unfold idxFuncFrom
  by_cases hp:pos<s.size
  ·rw[if_pos hp]
   have hN:=uK (s.data.toList.drop pos).length _ _ _ _ (Utf8.decode s pos).1 (Utf8.decode s pos).2 (by rw[←decodeL_N,decodeL_drop]);have hw:=wt s pos;have hD:=dk s pos hp;have h0:((s.data.toList.drop pos).getD 0 0)=s[pos]:=(by rw[hD];rfl)
   by_cases hr:(Utf8.decode s pos).1<32
   ·have hb:=hN.1.1 hr
    rw[h0] at hb;rw[if_pos (decide_eq_true hr),hD,List.any_cons,decide_eq_true hb,Bool.true_or];exact decide_eq_true (by omega)
   ·rw[if_neg (by simpa using hr)]
    have hb:32≤((s.data.toList.drop pos).getD 0 0).toNat:=by
     have:=fun h=>hr (hN.1.2 h)
     omega
    obtain⟨k1,k2,k3,k4⟩:=hN.2 hb;rw[rY s f _ (by omega),←wI]
    conv=>rhs;rw[←List.take_append_drop (Utf8.decode s pos).2 (s.data.toList.drop pos),List.any_append,qy _ _ hb k1 k2 k3 k4,wU]
  ·rw[if_neg hp,wu (by rw[ab];omega)]
   rfl
theorem vB (s:ByteArray):decide (0≤idxFunc (fun x=>decide (x<32)) true s)=!s.data.toList.all (fun c=>decide (32≤c.toNat)):=by
 have:=rY s s.size 0 (by omega);rw[wV] at this;unfold idxFunc;rw[this,List.not_all_eq_any_not]
 congr 1
 funext c
 rw[←decide_not];exact decide_eq_decide.2 (by omega)
theorem nK (x:Nat) (hx:x≤1114111) (w:World):Calls prog 194 #[.int .i32 x] w fun e w'=>e=.returned (.bool (decide (x<32)))∧w'=w:=by
 obtain⟨t,ht⟩:=e_ (decide (x<32));rw[ht]
 have h1:decide ((x:Int)<32)=t:=by rw[←ht];exact decide_eq_decide.2 (by omega)
 clear ht;go_enter func194,ntmps194;go_wp2_with fail;go_ret;exact⟨rfl,rfl⟩
theorem rt:∀args w,(callFunc 194 args).run prog w=.ok (.enter 194 args) w:=enters_of func194 (by kernel_rfl) rfl
theorem qz (s:ByteArray) (w:World) (hs:s.size≤10000):Calls prog 149 #[.string s] w (Ret w (.bool (txP s.data.toList&&s.data.toList.all fun c=>decide (32≤c.toNat)))):=by
 have T:=fun w=>dz s w hs
 have F:=fun w=>Tryz.strings_ContainsFunc_grows 194 #[] rt (fun x=>decide (x<32)) s w (fun W x hx _=>(nK x hx W).mono fun e w' ⟨h1,h2⟩=>⟨h1,by rw[h2];exact bQ _⟩)
 rw[vB] at F;obtain⟨a,ha⟩:=e_ (txP s.data.toList);obtain⟨b,hb⟩:=e_ ((s.data.toList.all fun c=>decide (32≤c.toNat)));rw[ha] at T;rw[hb] at F;rw[ha,hb];have FH:=h_ F;clear F ha hb
 cases a with
 | false=>
  have TH:=h_ T;clear T;go_enter func149,ntmps149;go_wp2_with fail;refine(TH.out _).mono ?_;rintro e w1 ⟨rfl,xA⟩;go_wp2_with fail;go_ret;exact⟨rfl,xA⟩
 | true=>
  have TH:=h_ T;clear T
  cases b with
  | true=>
   go_enter func149,ntmps149;go_wp2_with fail;refine(TH.out _).mono ?_;rintro e w1 ⟨rfl,xA⟩;go_wp2_with fail;refine(FH.out _).mono ?_;rintro e w2 ⟨rfl,xr⟩;go_wp2_with fail;go_ret;exact⟨rfl,xA.trans (xr.mono xA.size)⟩
  | false=>
   go_enter func149,ntmps149;go_wp2_with fail;refine(TH.out _).mono ?_;rintro e w1 ⟨rfl,xA⟩;go_wp2_with fail;refine(FH.out _).mono ?_;rintro e w2 ⟨rfl,xr⟩;go_wp2_with fail;go_ret;exact⟨rfl,xA.trans (xr.mono xA.size)⟩

/-! ### both ends, and no two points -/
theorem kU (s:ByteArray) (h:0<s.size):s.data.toList.getLastD 0=s[s.size-1]'(by omega):=by
 rw[List.getLastD_eq_getLast?,List.getLast?_eq_getElem?,ab,dp s (s.size-1) (by omega)]
 rfl
theorem kh (s:ByteArray) (h:0<s.size):s.data.toList.headD 0=s[0]'h:=by
 have:=dk s 0 h;rw[wV] at this;rw[this]
 rfl
theorem ua (s:ByteArray) (w:World) (hs:s.size≤10000) (h0:0<s.size):Calls prog 150 #[.string s] w fun e w'=>e=.returned (.bool (jdA (s.data.toList.headD 0)&&jdA (s.data.toList.getLastD 0)))∧w'=w:=by
 have I:=fun (c:UInt8) w=>Tryz.strings_IndexByte uS (c.toNat:Int) w
 have e:∀c:UInt8,((c.toNat:Int)).toNat.toUInt8=c:=fun c=>UInt8.ofNat_toNat
 simp only[e] at I
 have J:∀c:UInt8,decide (0≤wy uS.data.toList c)=jdA c:=fun c=>by rw[←contains_iff_indexByte,tX]
 rw[kh s h0,kU s h0]
 have hl:s.size-1<s.size:=by omega
 have hk:((s.size:Int)-1)=((s.size-1:Nat):Int):=by omega
 obtain⟨V,hV⟩:=e_ (wy uS.data.toList s[0]);obtain⟨U,hU⟩:=e_ (wy uS.data.toList (s[s.size-1]'hl));have I1:=I s[0];have I2:=I (s[s.size-1]'hl);have j1:=J s[0];have j2:=J (s[s.size-1]'hl);rw[hV] at I1 j1;rw[hU] at I2 j2;obtain⟨a,ha⟩:=e_ (jdA s[0]);obtain⟨b,hb⟩:=e_ (jdA (s[s.size-1]'hl));rw[ha] at j1;rw[hb] at j2;rw[ha,hb];have H1:=h_ I1;have H2:=h_ I2;clear I J e I1 I2 hV hU ha hb
 cases a with
 | false=>
  have g1:¬ 0≤V:=of_decide_eq_false j1;go_enter func150,ntmps150;go_wp2_with fail;refine(H1.out _).mono ?_;rintro e w1 ⟨rfl,rfl⟩;go_wp2_with fail;go_ret;exact⟨rfl,rfl⟩
 | true=>
  have g1:0≤V:=of_decide_eq_true j1;go_enter func150,ntmps150;go_wp2_with fail;refine(H1.out _).mono ?_;rintro e w1 ⟨rfl,rfl⟩;go_wp2_with fail;refine(H2.out _).mono ?_;rintro e w1 ⟨rfl,rfl⟩;go_wp2_with fail;go_ret;exact⟨rfl,rfl⟩
theorem oM:∀l:List UInt8,wz l [46,46]=bp l
 | []=>rfl
 | [a]=>by simp[wz,wA,wo,bp]
 | a :: b :: l=>by
  have ih:=oM (b :: l);unfold wz at ih ⊢;unfold wA bp
  have hp:([46,46]:List UInt8).isPrefixOf (a :: b :: l)=(a==46&&b==46):=by
   show ((46:UInt8)==a&&((46:UInt8)==b&&true))=_
   rw[wD,dW 46 a,dW 46 b]
  rw[hp]
  cases (a==46&&b==46) with
  | true=>rfl
  | false=>
   rw[wU,←ih];simp only[wS,if_false]
   split
   ·rename_i h
    rw[beq_iff_eq] at h;rw[h]
   ·rename_i h
    have:=index_ge (b :: l) [46,46]
    have h':wA (b :: l) [46,46]≠-1:=fun e=>h (by rw[e];rfl)
    rw[decide_eq_true (by omega),decide_eq_true (by omega)]
theorem su (s:ByteArray) (w:World) (hs:s.size≤10000) (hm:ML w):Calls prog 151 #[.string s] w fun e w'=>e=.returned (.bool (!bp s.data.toList))∧w'=w:=by
 obtain⟨-,m,hm⟩:=hm;have C:=Tryz.strings_Contains s ⟨#[46,46]⟩ m w (by omega) hm;rw[show (ByteArray.mk #[46,46]).data.toList=[46,46] from rfl,oM] at C;have H:=h_ C;clear C;go_enter func151,ntmps151;go_wp2_with fail;refine H.out.mono ?_;rintro e w1 ⟨rfl,rfl⟩;go_wp2_with fail;go_ret;exact⟨rfl,rfl⟩
end Go.Proofs.YtjgeiieiinmdnaaGreatDoor
