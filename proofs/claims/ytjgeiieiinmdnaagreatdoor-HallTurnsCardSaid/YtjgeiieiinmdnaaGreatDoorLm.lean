/- LxA, LxB, TrA, TrB, TrC: put together by mergetpl.py. -/
import Derived.Test.YtjgeiieiinmdnaaGreatDoorLd
open Go.Proofs.Tryz
open Bool renaming eq_iff_iff→wo,false_or→wy
open Go.Lib renaming toList_data→ww
open Go.RowKit.Below renaming refl→wq
open List renaming eq_nil_of_length_eq_zero→ws,drop_of_length_le→wu
open List.Sublist renaming length_le→wv
open Nat renaming le_refl→wh,zero_le→wt
namespace Go.Proofs.YtjgeiieiinmdnaaGreatDoor
set_option maxHeartbeats 8000000
set_option maxRecDepth 100000
open Go.RowKit

def lxN (n:Nat) (f:Bool):Bool:=(decide (97≤n)&&decide (n≤122)||(decide (65≤n)&&decide (n≤90)||decide (n=95)))||(!f&&(decide (48≤n)&&decide (n≤57)||(decide (n=46)||decide (n=45))))
def lxC (c:UInt8) (f:Bool):Bool:=lxN c.toNat f
def aG:List UInt8→Bool
 | []=>false
 | c :: l=>lxC c true&&l.all fun c=>lxC c false
theorem ve:∀(n:Fin 256),((decide (97≤bits .or .u8 (n.val:Int) 32)&&decide (bits .or .u8 (n.val:Int) 32≤122))||((n.val:Int)==95))=(decide (97≤n.val)&&decide (n.val≤122)||(decide (65≤n.val)&&decide (n.val≤90)||decide (n.val=95))):=by decide+kernel
theorem vO (c:UInt8) (f:Bool):lxC c f=(((decide (97≤bits .or .u8 (c.toNat:Int) 32)&&decide (bits .or .u8 (c.toNat:Int) 32≤122))||((c.toNat:Int)==95))||(!f&&((decide ((48:Int)≤c.toNat)&&decide ((c.toNat:Int)≤57))||(((c.toNat:Int)==46)||((c.toNat:Int)==45))))):=by
 unfold lxC lxN;rw[ve ⟨c.toNat,c.toNat_lt⟩]
 have e1:decide ((48:Int)≤c.toNat)=decide (48≤c.toNat):=decide_eq_decide.2 (by omega)
 have e2:decide ((c.toNat:Int)≤57)=decide (c.toNat≤57):=decide_eq_decide.2 (by omega)
 have e3:((c.toNat:Int)==46)=decide (c.toNat=46):=by rw[wo,beq_iff_eq,decide_eq_true_eq];omega
 have e4:((c.toNat:Int)==45)=decide (c.toNat=45):=by rw[wo,beq_iff_eq,decide_eq_true_eq];omega
 rw[e1,e2,e3,e4]
theorem th (c:UInt8) (f:Bool) (w:World):Calls prog 213 #[.int .u8 c.toNat,.bool f] w fun e w'=>e=.returned (.bool (lxC c f))∧w'=w:=by
 have hb:(c.toNat:Int)≤255:=by have:=c.toNat_lt;omega
 rw[vO c f];obtain⟨G,hG⟩:=e_ (bits .or .u8 (c.toNat:Int) 32);rw[hG];obtain⟨n,hn⟩:∃n:Int,(c.toNat:Int)=n:=⟨_,rfl⟩;rw[hn] at hG hb ⊢;obtain⟨b1,h1⟩:=e_ (decide (97≤G));obtain⟨b2,h2⟩:=e_ (decide (G≤122));obtain⟨b3,h3⟩:=e_ ((n==95));obtain⟨b4,h4⟩:=e_ (decide (48≤n));obtain⟨b5,h5⟩:=e_ (decide (n≤57));obtain⟨b6,h6⟩:=e_ ((n==46));obtain⟨b7,h7⟩:=e_ ((n==45));rw[h1,h2,h3,h4,h5,h6,h7];clear hn
 cases b1 with
 | true=>
  cases b2 with
  | true=>
   go_enter func213,ntmps213;go_wp2_with fail;go_ret;exact⟨rfl,rfl⟩
  | false=>
   cases b3 with
   | true=>
    go_enter func213,ntmps213;go_wp2_with fail;go_ret;exact⟨rfl,rfl⟩
   | false=>
    cases f with
    | true=>
     go_enter func213,ntmps213;go_wp2_with fail;go_ret;exact⟨rfl,rfl⟩
    | false=>
     cases b4 with
     | true=>
      cases b5 with
      | true=>
       go_enter func213,ntmps213;go_wp2_with fail;go_ret;exact⟨rfl,rfl⟩
      | false=>
       cases b6 with
       | true=>
        go_enter func213,ntmps213;go_wp2_with fail;go_ret;exact⟨rfl,rfl⟩
       | false=>
        cases b7 with
        | true=>
         go_enter func213,ntmps213;go_wp2_with fail;go_ret;exact⟨rfl,rfl⟩
        | false=>
         go_enter func213,ntmps213;go_wp2_with fail;go_ret;exact⟨rfl,rfl⟩
     | false=>
      cases b6 with
      | true=>
       go_enter func213,ntmps213;go_wp2_with fail;go_ret;exact⟨rfl,rfl⟩
      | false=>
       cases b7 with
       | true=>
        go_enter func213,ntmps213;go_wp2_with fail;go_ret;exact⟨rfl,rfl⟩
       | false=>
        go_enter func213,ntmps213;go_wp2_with fail;go_ret;exact⟨rfl,rfl⟩
 | false=>
  cases b3 with
  | true=>
   go_enter func213,ntmps213;go_wp2_with fail;go_ret;exact⟨rfl,rfl⟩
  | false=>
   cases f with
   | true=>
    go_enter func213,ntmps213;go_wp2_with fail;go_ret;exact⟨rfl,rfl⟩
   | false=>
    cases b4 with
    | true=>
     cases b5 with
     | true=>
      go_enter func213,ntmps213;go_wp2_with fail;go_ret;exact⟨rfl,rfl⟩
     | false=>
      cases b6 with
      | true=>
       go_enter func213,ntmps213;go_wp2_with fail;go_ret;exact⟨rfl,rfl⟩
      | false=>
       cases b7 with
       | true=>
        go_enter func213,ntmps213;go_wp2_with fail;go_ret;exact⟨rfl,rfl⟩
       | false=>
        go_enter func213,ntmps213;go_wp2_with fail;go_ret;exact⟨rfl,rfl⟩
    | false=>
     cases b6 with
     | true=>
      go_enter func213,ntmps213;go_wp2_with fail;go_ret;exact⟨rfl,rfl⟩
     | false=>
      cases b7 with
      | true=>
       go_enter func213,ntmps213;go_wp2_with fail;go_ret;exact⟨rfl,rfl⟩
      | false=>
       go_enter func213,ntmps213;go_wp2_with fail;go_ret;exact⟨rfl,rfl⟩
theorem jk (s:ByteArray) (w:World) (hs:s.size≤1000000):Calls prog 177 #[.string s] w fun e w'=>e=.returned (.bool (aG s.data.toList))∧w'=w:=by
 obtain⟨O,hO⟩:=e_ (aG s.data.toList);rw[hO];have HO:=h_ hO;clear hO
 by_cases h0:s.size=0
 ·obtain rfl:s=⟨#[]⟩:=aW (ws (by rw[ab];exact h0))
  obtain rfl:false=O:=HO.out;clear HO;go_enter func177,ntmps177;go_wp2_with fail;go_step3;go_wp2_with fail;go_step3;go_wp2_with fail;go_loop [3,9] (fun r i=>r=.bool false∧i=.int .i64 0) (fun _ _=>0)
  case atStart=>exact⟨rfl,rfl⟩
  case round=>
   obtain⟨rfl,rfl⟩:=hrel;go_wp2_with fail
   (try rw[Exit.noGoto_ret])
   go_ret;exact⟨rfl,rfl⟩
 ·have e1:=ao (s:=s) (by omega)
  have e2:=ax (s:=s) (by omega);go_enter func177,ntmps177;go_wp2_with fail;go_step3;go_wp2_with fail;go_step3;go_wp2_with fail;go_loop [3,4,9] (fun r _ i=>∃k:Nat,k≤s.size∧i=.int .i64 k∧r=.bool true∧(k=0∨((s.data.toList.drop k).all fun c=>lxC c false)=O)) (fun _ _ i=>s.size-(intOf i).toNat)
  case atStart=>exact⟨0,wt _,rfl,rfl,.inl rfl⟩
  case round=>
   obtain⟨k,hk,rfl,rfl,xq⟩:=hrel;have xq:=xq
   by_cases hlt:k<s.size
   ·have hd:=dk s k hlt
    obtain⟨f,hf⟩:=e_ (((k:Int)==0))
    have hst:(lxC s[k] f&&(s.data.toList.drop (k+1)).all fun c=>lxC c false)=O:=by
     by_cases hk0:k=0
     ·subst hk0
      have xx:f=true:=(by rw[←hf];rfl);rw[List.drop_zero] at hd;rw[←HO.out,hd,xx]
      rfl
     ·have xx : f = false := by rw [← hf]; exact beq_eq_false_iff_ne.2 (by omega)
      rcases xq with h | h
      ·omega
      ·rw[hd] at h
       rw[xx,←h]
       rfl
    have C:=th s[k] f;obtain⟨b,hb⟩:=e_ (lxC s[k] f);rw[hb] at hst;simp only[hb] at C;have CH:=h_ C;have xF:=h_ hst;clear C hst hb xq hd
    cases b with
    | true=>
     go_wp2_with fail;refine(CH.out _).mono ?_;rintro e w1 ⟨rfl,rfl⟩;go_wp2_with fail;go_round
     case rel=>exact⟨k+1,by omega,by go_num,rfl,.inr xF.out⟩
     case measure=>simp[intOf];omega
    | false=>
     obtain rfl:false=O:=xF.out;go_wp2_with fail;refine(CH.out _).mono ?_;rintro e w1 ⟨rfl,rfl⟩;go_wp2_with fail
     (try rw[Exit.noGoto_ret])
     go_ret;exact⟨rfl,rfl⟩
   ·obtain rfl : k = s.size := by omega
    have hO:true=O:=by
     rcases xq with h | h
     ·omega
     ·rw[wu (by rw[ab];exact wh _)] at h
      exact h
    subst hO;clear xq;go_wp2_with fail
    (try rw[Exit.noGoto_ret])
    go_ret;exact⟨rfl,rfl⟩

def dg (l:List UInt8):Bool:=if l.contains 58 then aG (cA 58 l)&&aG (cR 58 l) else aG l
theorem uW (c:UInt8) (l:List UInt8):(cA c l).length≤l.length:=wv (List.takeWhile_sublist _)
theorem rT (c:UInt8) (l:List UInt8):(cR c l).length≤l.length:=by
 unfold cR;have h:=wv (List.dropWhile_sublist (l:=l) (p:=(· != c)));rw[List.length_drop]
 omega
theorem po (s:ByteArray) (w:World) (hs:s.size≤1000000):Calls prog 268 #[.string s] w (Ret w (.bool (dg s.data.toList))):=by
 have C:=h_ (lg s 58 w hs);unfold dg;have z1:=uW 58 s.data.toList;have z2:=rT 58 s.data.toList;rw[ab] at z1 z2;obtain⟨b,hb⟩:=e_ (s.data.toList.contains 58);obtain⟨x,hx⟩:=e_ (cA 58 s.data.toList);obtain⟨y,hy⟩:=e_ (cR 58 s.data.toList);rw[hb,hx,hy] at C;rw[hb,hx,hy];rw[hx] at z1;rw[hy] at z2;clear hb hx hy
 cases b with
 | false=>
  rw[if_neg (by decide)];have N:=jk s;obtain⟨q,hq⟩:=e_ (aG s.data.toList);simp only[hq] at N;rw[hq];have N:=h_ N;clear hq
  cases q <;> (
  go_enter func268,ntmps268;go_wp2_with fail;refine C.out.mono ?_;rintro e w1 ⟨rfl,xr⟩;go_wp2_with fail;refine(N.out _ hs).mono ?_;rintro e w2 ⟨rfl,rfl⟩;go_wp2_with fail;go_ret;exact⟨rfl,xr⟩)
 | true=>
  rw[if_pos rfl]
  have N1:=fun w=>jk ⟨x.toArray⟩ w
  have N2:=fun w=>jk ⟨y.toArray⟩ w
  obtain⟨p,hp⟩:=e_ (aG x);obtain⟨q,hq⟩:=e_ (aG y);simp only[hp] at N1;simp only[hq] at N2;rw[hp,hq]
  have e1:(⟨x.toArray⟩:ByteArray).size≤1000000:=by show x.toArray.size≤_;simp;omega
  have e2:(⟨y.toArray⟩:ByteArray).size≤1000000:=by show y.toArray.size≤_;simp;omega
  have N1:=h_ fun w=>N1 w e1
  have N2:=h_ fun w=>N2 w e2
  clear hp hq e1 e2
  cases p with
  | false=>
   go_enter func268,ntmps268;go_wp2_with fail;refine C.out.mono ?_;rintro e w1 ⟨rfl,xr⟩;go_wp2_with fail;refine(N1.out _).mono ?_;rintro e w2 ⟨rfl,rfl⟩;go_wp2_with fail;go_ret;exact⟨rfl,xr⟩
  | true=>
   cases q <;> (
   go_enter func268,ntmps268;go_wp2_with fail;refine C.out.mono ?_;rintro e w1 ⟨rfl,xr⟩;go_wp2_with fail;refine(N1.out _).mono ?_;rintro e w2 ⟨rfl,rfl⟩;go_wp2_with fail;refine(N2.out _).mono ?_;rintro e w3 ⟨rfl,rfl⟩;go_wp2_with fail;go_ret;exact⟨rfl,xr⟩)
open Go.RowKit Go.Lib

def ud:List At→List At→Bool
 | _,[]=>true
 | seen,a :: r=>!(seen.any fun b=>a.1==b.1&&a.2.1==b.2.1)&&(dg a.2.1&&(txP a.2.2&&(txP a.1&&ud (seen++[a]) r)))
def dQ (l:List At):Bool:=ud [] l&&decide (l.length≤16)
def rF (l:List At):Prop:=l.length≤1000∧∀a∈l,a.1.length≤10000∧a.2.1.length≤10000∧a.2.2.length≤10000
theorem lY (a b:List UInt8):((⟨a.toArray⟩:ByteArray).toList==(⟨b.toArray⟩:ByteArray).toList)=(a==b):=by simp
theorem lp (A0 A1 X0 X1 X2:ByteArray) (Lc:Nat) (w:World) (hl:Lc<w.heap.size) (c0:w.cell? ⟨Lc,0,none⟩=some (.string A0)) (c1:w.cell? ⟨Lc,1,none⟩=some (.string A1)):
  Calls prog 282 #[.agg #[.string X0,.string X1,.string X2],.pointer (some ⟨Lc,0,none⟩)] w (Ret w (.bool (A0.toList==X0.toList&&A1.toList==X1.toList))):=by
 obtain⟨b0,h0⟩:=e_ ((A0.toList==X0.toList));obtain⟨b1,h1⟩:=e_ ((A1.toList==X1.toList));rw[h0,h1]
 cases b0 with
 | false=>
  go_enter func282,ntmps282;go_wp2_with fail;go_ret;exact⟨rfl,(wq _ w).alloc (wh _) _⟩
 | true=>
  cases b1 with
  | false=>
   go_enter func282,ntmps282;go_wp2_with fail;go_ret;exact⟨rfl,(wq _ w).alloc (wh _) _⟩
  | true=>
   go_enter func282,ntmps282;go_wp2_with fail;go_ret;exact⟨rfl,(wq _ w).alloc (wh _) _⟩
theorem rp:∀args w,(callFunc 282 args).run prog w=.ok (.enter 282 args) w:=enters_of func282 (by kernel_rfl) rfl
theorem mZ (M:List At) (aa:Option Addr) (L cap:Nat) (w:World) (hv:IsL atY (.slice aa L cap) M w) (hL:M.length=L) (hc:L≤cap) (hf:rF M)
  (CC:∀k,k≤L→∀(a:Addr),aa=some a→∀W,Bl w W→∀Lc A0 A1,Lc<W.heap.size→W.cell? ⟨Lc,0,none⟩=some (.string A0)→W.cell? ⟨Lc,1,none⟩=some (.string A1)→Calls prog 180 #[.slice (some a) k cap,.func (.func 282) #[] #[.pointer (some ⟨Lc,0,none⟩)]] W (Ret W (.bool ((M.take k).any fun b=>A0.toList==b.1&&A1.toList==b.2.1)))):
  Calls prog 269 #[.slice aa L cap] w (Ret w (.bool (dQ M))):=by
 obtain⟨O,hO⟩:=e_ (dQ M);rw[hO];unfold dQ at hO;rw[hL] at hO;have HV:=h_ hv;have HL:=h_ hL;have HF:=h_ hf.2;have HO:=h_ hO;have CC:=h_ CC
 have xW:L≤1000:=by rw[←hL];exact hf.1
 have bs:=Sx.start w;clear hv hL hO hf;go_enter func269,ntmps269;go_wp2_with fail;go_loopw [8] (fun i wx=>∃k:Nat,k≤L∧i=.int .i64 k∧(ud (M.take k) (M.drop k)&&decide (L≤16))=O∧Sx w [] wx) (fun i _=>L-(intOf i).toNat)
 case atStart=>exact⟨0,wt _,rfl,HO.out,bs⟩
 case round=>
  clear bs;obtain⟨k,hk,rfl,hrel,bs⟩:=hrel;have q:=bs.q
  by_cases hlt:k<L
  ·have xt : k < M.length := by rw [HL.out]; exact hlt
   have xX:k≤cap:=(by omega);obtain⟨x,hx⟩:=e_ (M[k]);have xG:M[k]?=some x:=(by rw[List.getElem?_eq_getElem xt,hx]);have xH:x∈M:=(by rw[←hx];exact List.getElem_mem xt);obtain⟨b,off,cp,hv,-,hc⟩:=HV.out.cells xG;rw[HL.out] at hv;simp only[Value.slice.injEq,true_and] at hv;obtain⟨rfl,rfl⟩:=hv;obtain⟨z0,z1,z2⟩:=HF.out x xH
   have CF:=fun (W:World)=>po ⟨x.2.1.toArray⟩ W (by show x.2.1.toArray.size≤_;simp;omega)
   have CV:=fun (W:World)=>dz ⟨x.2.2.toArray⟩ W (by show x.2.2.toArray.size≤_;simp;omega)
   have CS:=fun (W:World)=>dz ⟨x.1.toArray⟩ W (by show x.1.toArray.size≤_;simp;omega)
   have CK:=CC.out k hk _ rfl;rw[List.drop_eq_getElem_cons xt,hx] at hrel;simp only[ud] at hrel;have xI:M.take k++[x]=M.take (k+1):=(by rw[List.take_succ_eq_append_getElem xt,hx]);rw[xI] at hrel
   have xy:∀W,Bl w W→∀Lc,Lc<W.heap.size→W.cell? ⟨Lc,0,none⟩=some (.string ⟨x.1.toArray⟩)→W.cell? ⟨Lc,1,none⟩=some (.string ⟨x.2.1.toArray⟩)→Calls prog 180 #[.slice (some ⟨b,off,none⟩) k cap,.func (.func 282) #[] #[.pointer (some ⟨Lc,0,none⟩)]] W (Ret W (.bool ((M.take k).any fun b=>x.1==b.1&&x.2.1==b.2.1))):=fun W hb Lc h1 h2 h3=>by simpa using CK W hb Lc _ _ h1 h2 h3
   obtain⟨B1,xz⟩:=e_ (((M.take k).any fun b=>x.1==b.1&&x.2.1==b.2.1));obtain⟨B2,xA⟩:=e_ (dg x.2.1);obtain⟨B3,xB⟩:=e_ (txP x.2.2);obtain⟨B4,xC⟩:=e_ (txP x.1);simp only[xz] at xy;simp only[xA] at CF;simp only[xB] at CV;simp only[xC] at CS;rw[xz,xA,xB,xC] at hrel;have CF:=h_ CF;have CV:=h_ CV;have CS:=h_ CS;have CK:=h_ xy;have HR:=h_ hrel;clear xy hrel xI xz xA xB xC hx xG xH xt z0 z1 z2
   have i0:wr.cell? ⟨b,off+k*3,none⟩=some (.string ⟨x.1.toArray⟩):=hc wr q 0 _ rfl
   have i1:wr.cell? ⟨b,off+k*3+1,none⟩=some (.string ⟨x.2.1.toArray⟩):=hc wr q 1 _ rfl
   have i2:wr.cell? ⟨b,off+k*3+2,none⟩=some (.string ⟨x.2.2.toArray⟩):=hc wr q 2 _ rfl
   clear hc;have d0:=(bs.lit (wr.heap.size) rfl [.string ⟨x.1.toArray⟩,.string ⟨x.2.1.toArray⟩,.string ⟨x.2.2.toArray⟩] 160);have xw:=d0.b3 0;go_wp2_with fail;clear d0 xw;clear i0 i1 i2;obtain⟨xP,xJ,xY,al,bs⟩:=bs.alloc (wr.heap.size) rfl [.string ⟨x.1.toArray⟩,.string ⟨x.2.1.toArray⟩,.string ⟨x.2.2.toArray⟩] 160;clear al;replace q:=bs.q;rw[xJ];refine(CK.out xP q _ (by omega) (bs.at 0 0) (bs.at 0 1)).mono ?_;rintro e xK ⟨rfl,hb⟩;replace bs:=bs.ret hb;replace q:=bs.q;clear hb
   cases B1 with
   | true=>
    obtain rfl:false=O:=HR.out;have xo:=bs.b3 0;go_wp2_with fail;go_ret;exact⟨rfl,q⟩
   | false=>
    cases B2 with
    | false=>
     have xo:=bs.b3 0;go_wp2_with fail;refine(CF.out xK).mono ?_;rintro e xD ⟨rfl,hb⟩;clear xo;replace bs:=bs.ret hb;replace q:=bs.q;clear hb;obtain rfl:false=O:=HR.out;have xo:=bs.b3 0;go_wp2_with fail;go_ret;exact⟨rfl,q⟩
    | true=>
     have xo:=bs.b3 0;go_wp2_with fail;refine(CF.out xK).mono ?_;rintro e xD ⟨rfl,hb⟩;clear xo;replace bs:=bs.ret hb;replace q:=bs.q;clear hb
     cases B3 with
     | false=>
      have xo:=bs.b3 0;go_wp2_with fail;refine(CV.out xD).mono ?_;rintro e xE ⟨rfl,hb⟩;clear xo;replace bs:=bs.ret hb;replace q:=bs.q;clear hb;obtain rfl:false=O:=HR.out;have xo:=bs.b3 0;go_wp2_with fail;go_ret;exact⟨rfl,q⟩
     | true=>
      have xo:=bs.b3 0;go_wp2_with fail;refine(CV.out xD).mono ?_;rintro e xE ⟨rfl,hb⟩;clear xo;replace bs:=bs.ret hb;replace q:=bs.q;clear hb
      cases B4 with
      | false=>
       have xo:=bs.b3 0;go_wp2_with fail;refine(CS.out xE).mono ?_;rintro e xQ ⟨rfl,hb⟩;clear xo;replace bs:=bs.ret hb;replace q:=bs.q;clear hb;obtain rfl:false=O:=HR.out;have xo:=bs.b3 0;go_wp2_with fail;go_ret;exact⟨rfl,q⟩
      | true=>
       have xo:=bs.b3 0;go_wp2_with fail;refine(CS.out xE).mono ?_;rintro e xQ ⟨rfl,hb⟩;clear xo;replace bs:=bs.ret hb;replace q:=bs.q;clear hb;have xo:=bs.b3 0;go_wp2_with fail;go_roundw
       case rel=>exact⟨k+1,by omega,by go_num,HR.out,bs.some 0⟩
       case measure=>simp[intOf];omega
  ·have e:M.drop k=[]:=wu (by rw[HL.out];omega)
   rw[e] at hrel;have hO:decide ((L:Int)≤16)=O:=(by rw[←hrel];exact decide_eq_decide.2 (by omega));clear hrel e;go_wp2_with fail;go_ret;exact⟨rfl,q⟩

def uY (k2 k1 xR xS xT m0 xL tt fn ts at':Bool):Bool:=if k2 then xR&&(xS&&(xT&&(m0&&(!xL&&tt)))) else k1&&(xL&&(fn&&(ts&&at')))
def dL (n:Nd):Bool:=uY (n.1==2) (n.1==1) n.2.2.1.isEmpty n.2.1.isEmpty n.2.2.2.1.isEmpty (n.2.2.2.2.2==0) n.2.2.2.2.1.isEmpty (txP n.2.2.2.2.1) (dg n.2.2.1) (txP n.2.1) (dQ n.2.2.2.1)
theorem bO {X:ByteArray} (h:X.toList.isEmpty=true):X=⟨#[]⟩:=aW (by rw[←ww];simpa using h)
theorem bY {X:ByteArray} (h:X.toList.isEmpty=false):0<X.size:=by
 rcases Nat.eq_zero_or_pos X.size with h0 | h0
 ·have:X.toList=[]:=by
   rw[ww];exact ws (by rw[ab];exact h0)
  rw[this] at h
  cases h
 ·exact h0
theorem qx (n0:Int) (SP NM TX:ByteArray) (aa:Option Addr) (L cap:Nat) (many:Int) (tt fn ts at':Bool) (w:World)
  (CA:∀W,Bl w W→Calls prog 269 #[.slice aa L cap] W (Ret W (.bool at')))
  (CT:∀W,Calls prog 193 #[.string TX] W (Ret W (.int .i64 (if tt then 0 else 50))))
  (CS:∀W,Calls prog 193 #[.string SP] W (Ret W (.int .i64 (if ts then 0 else 50))))
  (CN:∀W,Calls prog 268 #[.string NM] W (Ret W (.bool fn))):
  Calls prog 247 #[.agg #[.int .u8 n0,.string SP,.string NM,.slice aa L cap,.string TX,.int .i64 many]] w (Ret w (.bool (uY (n0==2) (n0==1) NM.toList.isEmpty SP.toList.isEmpty (L==0) (many==0) TX.toList.isEmpty tt fn ts at'))):=by
 have CA:=h_ CA;have CT:=h_ CT;have CS:=h_ CS;have CN:=h_ CN;obtain⟨bN,hN⟩:=e_ NM.toList.isEmpty;obtain⟨bS,hS⟩:=e_ SP.toList.isEmpty;obtain⟨bX,hX⟩:=e_ TX.toList.isEmpty;obtain⟨bL,hL⟩:=e_ ((L==0));obtain⟨b2,h2⟩:=e_ ((n0==2));obtain⟨b1,h1⟩:=e_ ((n0==1));obtain⟨bM,hM⟩:=e_ ((many==0));rw[hN,hS,hX,hL,h2,h1,hM]
 have xZ:((L:Int)==0)=bL:=by rw[←hL,wo,beq_iff_eq,beq_iff_eq];omega
 clear hL;have hN:=h_ hN;have hS:=h_ hS;have hX:=h_ hX
 cases b2 with
 | true=>
  cases bN with
  | false=>
   have xM:=bY hN.out;have yd:=ao (s:=NM) xM;have ye:=ax (s:=NM) xM;obtain⟨W0,hW,y0,bs⟩:=Sx.start1 w [.int .u8 n0,.string SP,.string NM,.slice aa L cap,.string TX,.int .i64 many] 114;have HW:=h_ hW;clear hW;have q:=bs.q;go_enter func247,ntmps247;go_wp2_with fail;rw[HW.out];have xn:=bs.b6 0;go_wp2_with fail;go_ret;exact⟨rfl,q⟩
  | true=>
   obtain rfl:=bO hN.out
   cases bS with
   | false=>
    have xN:=bY hS.out;have yf:=ao (s:=SP) xN;have yg:=ax (s:=SP) xN;obtain⟨W0,hW,y0,bs⟩:=Sx.start1 w [.int .u8 n0,.string SP,.string ⟨#[]⟩,.slice aa L cap,.string TX,.int .i64 many] 114;have HW:=h_ hW;clear hW;have q:=bs.q;go_enter func247,ntmps247;go_wp2_with fail;rw[HW.out];have xn:=bs.b6 0;go_wp2_with fail;go_ret;exact⟨rfl,q⟩
   | true=>
    obtain rfl:=bO hS.out
    cases bL with
    | false=>
     obtain⟨W0,hW,y0,bs⟩:=Sx.start1 w [.int .u8 n0,.string ⟨#[]⟩,.string ⟨#[]⟩,.slice aa L cap,.string TX,.int .i64 many] 114;have HW:=h_ hW;clear hW;have q:=bs.q;go_enter func247,ntmps247;go_wp2_with fail;rw[HW.out];have xn:=bs.b6 0;go_wp2_with fail;go_ret;exact⟨rfl,q⟩
    | true=>
     cases bM with
     | false=>
      obtain⟨W0,hW,y0,bs⟩:=Sx.start1 w [.int .u8 n0,.string ⟨#[]⟩,.string ⟨#[]⟩,.slice aa L cap,.string TX,.int .i64 many] 114;have HW:=h_ hW;clear hW;have q:=bs.q;go_enter func247,ntmps247;go_wp2_with fail;rw[HW.out];have xn:=bs.b6 0;go_wp2_with fail;go_ret;exact⟨rfl,q⟩
     | true=>
      cases bX with
      | true=>
       obtain rfl:=bO hX.out;obtain⟨W0,hW,y0,bs⟩:=Sx.start1 w [.int .u8 n0,.string ⟨#[]⟩,.string ⟨#[]⟩,.slice aa L cap,.string ⟨#[]⟩,.int .i64 many] 114;have HW:=h_ hW;clear hW;have q:=bs.q;go_enter func247,ntmps247;go_wp2_with fail;rw[HW.out];have xn:=bs.b6 0;go_wp2_with fail;go_ret;exact⟨rfl,q⟩
      | false=>
       have xu:=bY hX.out;have xU:=ao (s:=TX) xu;have xV:=ax (s:=TX) xu
       cases tt with
       | false=>
        obtain⟨W0,hW,y0,bs⟩:=Sx.start1 w [.int .u8 n0,.string ⟨#[]⟩,.string ⟨#[]⟩,.slice aa L cap,.string TX,.int .i64 many] 114;have HW:=h_ hW;clear hW;have q:=bs.q;go_enter func247,ntmps247;go_wp2_with fail;rw[HW.out];have xn:=bs.b6 0;go_wp2_with fail;refine(CT.out W0).mono ?_;rintro e w1 ⟨rfl,hb⟩;clear xn;replace bs:=bs.ret hb;replace q:=bs.q;clear hb;have xn:=bs.b6 0;go_wp2_with fail;go_ret;exact⟨rfl,q⟩
       | true=>
        obtain⟨W0,hW,y0,bs⟩:=Sx.start1 w [.int .u8 n0,.string ⟨#[]⟩,.string ⟨#[]⟩,.slice aa L cap,.string TX,.int .i64 many] 114;have HW:=h_ hW;clear hW;have q:=bs.q;go_enter func247,ntmps247;go_wp2_with fail;rw[HW.out];have xn:=bs.b6 0;go_wp2_with fail;refine(CT.out W0).mono ?_;rintro e w1 ⟨rfl,hb⟩;clear xn;replace bs:=bs.ret hb;replace q:=bs.q;clear hb;have xn:=bs.b6 0;go_wp2_with fail;go_ret;exact⟨rfl,q⟩
 | false=>
  cases b1 with
  | false=>
   obtain⟨W0,hW,y0,bs⟩:=Sx.start1 w [.int .u8 n0,.string SP,.string NM,.slice aa L cap,.string TX,.int .i64 many] 114;have HW:=h_ hW;clear hW;have q:=bs.q;go_enter func247,ntmps247;go_wp2_with fail;rw[HW.out];have xn:=bs.b6 0;go_wp2_with fail;go_ret;exact⟨rfl,q⟩
  | true=>
   cases bX with
   | false=>
    have xu:=bY hX.out;have xU:=ao (s:=TX) xu;have xV:=ax (s:=TX) xu;obtain⟨W0,hW,y0,bs⟩:=Sx.start1 w [.int .u8 n0,.string SP,.string NM,.slice aa L cap,.string TX,.int .i64 many] 114;have HW:=h_ hW;clear hW;have q:=bs.q;go_enter func247,ntmps247;go_wp2_with fail;rw[HW.out];have xn:=bs.b6 0;go_wp2_with fail;go_ret;exact⟨rfl,q⟩
   | true=>
    obtain rfl:=bO hX.out
    cases fn with
    | false=>
     obtain⟨W0,hW,y0,bs⟩:=Sx.start1 w [.int .u8 n0,.string SP,.string NM,.slice aa L cap,.string ⟨#[]⟩,.int .i64 many] 114;have HW:=h_ hW;clear hW;have q:=bs.q;go_enter func247,ntmps247;go_wp2_with fail;rw[HW.out];have xn:=bs.b6 0;go_wp2_with fail;refine(CN.out W0).mono ?_;rintro e w1 ⟨rfl,hb⟩;clear xn;replace bs:=bs.ret hb;replace q:=bs.q;clear hb;have xn:=bs.b6 0;go_wp2_with fail;go_ret;exact⟨rfl,q⟩
    | true=>
     cases ts with
     | false=>
      obtain⟨W0,hW,y0,bs⟩:=Sx.start1 w [.int .u8 n0,.string SP,.string NM,.slice aa L cap,.string ⟨#[]⟩,.int .i64 many] 114;have HW:=h_ hW;clear hW;have q:=bs.q;go_enter func247,ntmps247;go_wp2_with fail;rw[HW.out];have xn:=bs.b6 0;go_wp2_with fail;refine(CN.out W0).mono ?_;rintro e w1 ⟨rfl,hb⟩;clear xn;replace bs:=bs.ret hb;replace q:=bs.q;clear hb;have xn:=bs.b6 0;go_wp2_with fail;refine(CS.out w1).mono ?_;rintro e w2 ⟨rfl,hb⟩;clear xn;replace bs:=bs.ret hb;replace q:=bs.q;clear hb;have xn:=bs.b6 0;go_wp2_with fail;go_ret;exact⟨rfl,q⟩
     | true=>
      cases at' with
      | false=>
       obtain⟨W0,hW,y0,bs⟩:=Sx.start1 w [.int .u8 n0,.string SP,.string NM,.slice aa L cap,.string ⟨#[]⟩,.int .i64 many] 114;have HW:=h_ hW;clear hW;have q:=bs.q;go_enter func247,ntmps247;go_wp2_with fail;rw[HW.out];have xn:=bs.b6 0;go_wp2_with fail;refine(CN.out W0).mono ?_;rintro e w1 ⟨rfl,hb⟩;clear xn;replace bs:=bs.ret hb;replace q:=bs.q;clear hb;have xn:=bs.b6 0;go_wp2_with fail;refine(CS.out w1).mono ?_;rintro e w2 ⟨rfl,hb⟩;clear xn;replace bs:=bs.ret hb;replace q:=bs.q;clear hb;have xn:=bs.b6 0;go_wp2_with fail;refine(CA.out w2 q).mono ?_;rintro e w3 ⟨rfl,hb⟩;clear xn;replace bs:=bs.ret hb;replace q:=bs.q;clear hb;have xn:=bs.b6 0;go_wp2_with fail;go_ret;exact⟨rfl,q⟩
      | true=>
       obtain⟨W0,hW,y0,bs⟩:=Sx.start1 w [.int .u8 n0,.string SP,.string NM,.slice aa L cap,.string ⟨#[]⟩,.int .i64 many] 114;have HW:=h_ hW;clear hW;have q:=bs.q;go_enter func247,ntmps247;go_wp2_with fail;rw[HW.out];have xn:=bs.b6 0;go_wp2_with fail;refine(CN.out W0).mono ?_;rintro e w1 ⟨rfl,hb⟩;clear xn;replace bs:=bs.ret hb;replace q:=bs.q;clear hb;have xn:=bs.b6 0;go_wp2_with fail;refine(CS.out w1).mono ?_;rintro e w2 ⟨rfl,hb⟩;clear xn;replace bs:=bs.ret hb;replace q:=bs.q;clear hb;have xn:=bs.b6 0;go_wp2_with fail;refine(CA.out w2 q).mono ?_;rintro e w3 ⟨rfl,hb⟩;clear xn;replace bs:=bs.ret hb;replace q:=bs.q;clear hb;have xn:=bs.b6 0;go_wp2_with fail;go_ret;exact⟨rfl,q⟩

abbrev aY (n:Nd):Int:=n.2.2.2.2.2
def bA (f:Int→Int) (v:List Nd):Nat→Int→Int→Int
 | 0,nx,_=>nx
 | m+1,nx,la=>match v[nx.toNat]? with
  | none=>-1
  | some n=>if decide (nx<0)||(la==2&&n.1==la) then -1 else bA f v m (f nx) n.1
def dK (f:Int→Int) (v:List Nd) (xp:Bool) (a:Int):Int:=match v[a.toNat]? with
 | none=>-1
 | some n=>if decide (a<0)||(!dL n||(decide (aY n<0)||(n.1==1&&xp))) then -1 else bA f v (aY n).toNat (a+1) 1
def gp (v:List Nd):Nat→Int→Int
 | 0=>dK (fun _=>-1) v true
 | d+1=>dK (gp v d) v false
theorem dY {f:Int→Int} {v:List Nd} (hf:∀x,-1≤f x∧f x≤v.length):∀(m:Nat) (nx la:Int),-1≤nx→nx≤v.length→-1≤bA f v m nx la∧bA f v m nx la≤v.length
 | 0,nx,la,h1,h2=>⟨h1,h2⟩
 | m+1,nx,la,h1,h2=>by
  unfold bA
  split
  ·exact⟨by omega,by omega⟩
  ·split
   ·exact⟨by omega,by omega⟩
   ·exact dY hf m _ _ (hf nx).1 (hf nx).2
theorem fH {f:Int→Int} {v:List Nd} (hf:∀x,-1≤f x∧f x≤v.length) (xp:Bool) (a:Int):-1≤dK f v xp a∧dK f v xp a≤v.length:=by
 unfold dK
 split
 ·exact⟨by omega,by omega⟩
 ·rename_i n hn
  have hlt:a.toNat<v.length:=by
   rcases Nat.lt_or_ge a.toNat v.length with h | h
   ·exact h
   ·rw[List.getElem?_eq_none h] at hn;cases hn
  split
  ·exact⟨by omega,by omega⟩
  ·rename_i hc
   have h0:¬ a<0:=by
    intro h;rw[decide_eq_true h] at hc;exact hc rfl
   exact dY hf _ _ _ (by omega) (by omega)
theorem bH (v:List Nd):∀(d:Nat) (a:Int),-1≤gp v d a∧gp v d a≤v.length
 | 0,a=>fH (fun _=>⟨by omega,by omega⟩) true a
 | d+1,a=>fH (bH v d) false a
abbrev bhF (B1 B4 B3:Nat):Value:=.func (.func 246) #[] #[.pointer (some ⟨B1,0,none⟩),.pointer (some ⟨B4,0,none⟩),.pointer (some ⟨B3,0,none⟩)]
def sy (T:List NdI) (va:Option Addr) (L vc B1 E B3 B4:Nat) (w0:World) (d:Nat):Prop:=∀(a:Int) (W:World) (xs:List Value),-1≤a→a≤L→xs.length=L→Sx w0 [(B1,[.slice va L vc]),(E,xs),(B3,[.slice (some ⟨E,0,none⟩) L L]),(B4,[bhF B1 B4 B3])] W→
 Calls prog 246 #[.int .i64 a,.int .i64 d,.pointer (some ⟨B1,0,none⟩),.pointer (some ⟨B4,0,none⟩),.pointer (some ⟨B3,0,none⟩)] W fun e W'=>e=.returned (.int .i64 (gp (T.map Prod.fst) d a))∧∃xO,xO.length=L∧Sx w0 [(B1,[.slice va L vc]),(E,xO),(B3,[.slice (some ⟨E,0,none⟩) L L]),(B4,[bhF B1 B4 B3])] W'
theorem pe:∀args w,(callFunc 246 args).run prog w=.ok (.enter 246 args) w:=enters_of func246 (by kernel_rfl) rfl
theorem pI (v:List Nd) (d k:Nat) (n:Nd) (h:v[k]?=some n):gp v d k=if !dL n||(decide (aY n<0)||(n.1==1&&d==0)) then -1 else bA (gp v (d-1)) v (aY n).toNat (k+1) 1:=by
 have hk:((k:Int)).toNat=k:=by omega
 have h0:decide ((k:Int)<0)=false:=decide_eq_false (by omega)
 cases d with
 | zero=>
  show dK _ v true k=_
  unfold dK;rw[hk,h];simp only[h0,wy]
  show (if (!dL n||(decide (aY n<0)||(n.1==1&&true)))=true then (-1:Int) else bA _ v _ _ _)=if (!dL n||(decide (aY n<0)||(n.1==1&&true)))=true then (-1:Int) else _
  split
  ·rfl
  ·rename_i hc
   -- a text has nothing within it
   have hm:dL n=true:=(by cases hx:dL n with | true=>rfl | false=>rw[hx] at hc;exact absurd rfl hc)
   have h1:(n.1==1)=false:=by
    cases hx:(n.1==1) with
    | false=>rfl
    | true=>rw[hx] at hc;simp at hc
   have hz:aY n=0:=by
    unfold dL uY at hm;rw[h1] at hm
    cases h2:(n.1==2) with
    | false=>rw[h2] at hm;simp at hm
    | true=>rw[h2] at hm;simp at hm;exact hm.2.2.2.1
   rw[hz]
   rfl
 | succ d=>
  show dK (gp v d) v false k=_
  unfold dK;rw[hk,h];simp only[h0,wy]
  rfl
end Go.Proofs.YtjgeiieiinmdnaaGreatDoor
