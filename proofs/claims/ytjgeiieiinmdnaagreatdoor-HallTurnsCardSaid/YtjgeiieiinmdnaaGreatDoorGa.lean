/- Ws, Law, Kit, Str, Str2, AsF, Vals, Rws, NumF, NumG, NumL: put together by mergetpl.py. -/
import Derived.Below
import Derived.BigQuiet
import Derived.Carry
import Derived.ChangeSame
import Derived.Deep.DeepCutAuto
import Derived.Deep.DeepFit
import Derived.Deep.DrawnRows
import Derived.Deep.QuietTactic
import Derived.Deep.RegionHeld3
import Derived.Handy
import Derived.Laws.AppendOwn
import Derived.Laws.EntriesVeiled
import Derived.Laws.IdiomRangeMap
import Derived.Laws.IdiomStrings
import Derived.Lib.BufferRead
import Derived.Lib.Hide
import Derived.Lib.ItoaNum
import Derived.Lib.Strings
import Derived.Maps.Keyed
import Derived.OpenShut
import Derived.Outline
import Derived.ProofKit
import Derived.WalkKit
import Derived.WalkLawsBesides
import Derived.WalkSpells
import Derived.Test.YtjgeiieiinmdnaaGreatDoorRows
open Go.Proofs.Tryz
open Array renaming getElem?_eq_none→wB
open Bool renaming eq_iff_iff→wz
open Go.Addr renaming add→wv
open Go.Lib renaming toList_data→wt
open Go.World.grownBy renaming refl→wC
open List renaming getElem?_eq_getElem→wh,eq_nil_of_length_eq_zero→wo,all_cons→wq,append_nil→ws
open Nat renaming le_refl→wu,zero_add→ww,lt_or_ge→wy,mod_eq_of_lt→wA
namespace Go.Proofs.YtjgeiieiinmdnaaGreatDoor
theorem e_ {α:Sort _} (a:α):∃x,a=x:=⟨a,rfl⟩
theorem h_ {p:Prop} (h:p):Go.RowKit.Hid p:=Go.Lib.hid h
abbrev Bl (w W:Go.World):Prop:=Go.RowKit.Below w.heap.size w W
theorem bR (w:Go.World):Go.RowKit.Below w.heap.size w w:=Go.RowKit.Below.refl _ w
theorem bQ {B:Nat} (w:Go.World):Go.RowKit.Below B w w:=Go.RowKit.Below.refl B w
open Go.ChangeShapes Go.WideShapes Go.ChangeAt Go.RowKit
section
variable {H:Type} {enc:TypeId×Value→H} {P:Program}

theorem ee (hl:laidOutB P=true) {W W':World} (hb:Bl W W') {sp:Nat→Bool}:
  ∀(ts:List TypeId) (vs:List Value) (ds:List (DataW H)) (ps:List MemPlace),ts.all (fun t=>P.readableRec t&&decide (t<P.types.size))=true→
   DataW.TrodAll enc P W 0 (fun _=>true) true ts vs ds ps→(∀x∈ps,x.block<W.heap.size)→(∀x∈ps,sp x.block=true)→DataW.TrodAll enc P W' 0 sp true ts vs ds ps
 | [],[],[],_,_,h,_,_=>h
 | t :: ts,v :: vs,d :: ds,_,hr,⟨p,q,h1,h2,rfl⟩,hlt,hsp=>by
  simp only[wq,Bool.and_eq_true,decide_eq_true_eq] at hr;refine⟨p,q,?_,ee hl hb ts vs ds q hr.2 h2 (fun x hx=>hlt x (by simp[hx])) (fun x hx=>hsp x (by simp[hx])),rfl⟩;exact WideElems.Trod_stays hl hr.1.1 hr.1.2 h1 (fun x hx=>hb.same (hlt x (by simp[hx]))) (fun x hx=>hsp x (by simp[hx]))
 | [],[],_ :: _,_,_,h,_,_=>h.elim
 | [],_ :: _,_,_,_,h,_,_=>h.elim
 | _ :: _,[],_,_,_,h,_,_=>h.elim
 | _ :: _,_ :: _,[],_,_,h,_,_=>h.elim

theorem post_law (hl:laidOutB P=true) {f:Func} {s:ChangeSpec} {W W':World} {args:Array Value} {ds gs:List (DataW H)} {before:List MemPlace}
  (hr:f.params.toList.all (fun t=>P.readableRec t&&decide (t<P.types.size))=true) {T:TypeId} (xK:f.resultTypes=#[T]) (hT:P.underlying T=some .bool)
  (hW:DataW.Whole enc P f.params.toList s.vars false W args.toList ds gs before) (hv:s.vars=[])
  (xr:s.fn H ds={results:=[.lit (.bool true)],args:=ds}) (hb:Bl W W'):
  s.post enc P f false true false false W args (.bool true) W':=by
 have hlt:∀p∈before,p.block<W.heap.size:=fun p hp=>hW.lt p hp
 obtain⟨p,q,hA,hV,rfl,xO,xP⟩:=id hW;rw[hv] at hV;obtain⟨rfl,rfl⟩:=trodVars_none hV;refine⟨ds,[],_,[],p,[],hW,?_,?_,?_,hb.frame _,fun h=>by cases h⟩
 ·rw[ws,xr,xK]
  exact trodAll_cons_mk (shut_bool hT _) trodAll_mk0
 ·rw[ws,xr]
  exact ee hl hb _ _ _ _ hr hA (fun x hx=>hlt x (by simp[hx])) (fun x hx=>by simpa using hlt x (by simp[hx]))
 ·rw[ws,xr,hv]
  rfl
end
open Go.RowKit

def Ret (w:World) (v:Value) (e:Ending) (w':World):Prop:=e=.returned v∧Bl w w'

theorem ag {W w1:World} (hb:Bl W w1):(∀b o,b<W.heap.size→w1.cell? ⟨b,o,none⟩=W.cell? ⟨b,o,none⟩)∧(∀b o,b<W.heap.size→w1.frozen? ⟨b,o,none⟩=W.frozen? ⟨b,o,none⟩):=
 ⟨fun b o h=>hb.cell (p:=⟨b,o,none⟩) h,fun b o h=>hb.frozen (p:=⟨b,o,none⟩) h⟩

theorem nJ {P:Program} (w:World) (xC dst e:TypeId) (s:ByteArray) (hs:P.underlying xC=some .string) (hd:P.underlying dst=some (.slice e)) (he:P.underlying e=some (.int .u8)):
  ∃cap C,(∀j (h:j<s.size),C[j]?=some (.int .u8 (s[j].toNat:Int)))∧s.size≤C.size∧
   (convert xC dst (.string s)).run P w=.ok (.slice (some ⟨w.heap.size,0,none⟩) s.size cap) (w.alloc (.cells C e (C.size,C.size+1))).drew:=
 ⟨grownCap w s.size 0 e,bytesRow s (grownCap w s.size 0 e),fun j h=>bytesRow_at s _ j h,by simp[bytesRow],run_bytes_of_string w xC dst e s hs hd he⟩
theorem ab (s:ByteArray):s.data.toList.length=s.size:=by simp
theorem ao {s:ByteArray} (h:0<s.size):s.toList.isEmpty=false:=by
 rw[wt];have:=ab s
 cases hl:s.data.toList with
 | nil=>rw[hl] at this;simp at this;omega
 | cons=>rfl
theorem ax {s:ByteArray} (h:0<s.size):¬ s.toList=[]:=by
 have:=ao h;intro e;rw[e] at this
 simp at this
theorem dp (s:ByteArray) (j:Nat) (h:j<s.size):s.data.toList[j]?=some s[j]:=by
 rw[wh (by rw[ab];exact h)]
 rfl
theorem cD {a b:Bool} (h:a=b):Ending.returned (.bool a)=.returned (.bool b):=by rw[h]
theorem aW {a b:ByteArray} (h:a.data.toList=b.data.toList):a=b:=by
 cases a;cases b
 simp only[ByteArray.mk.injEq];exact Array.toList_inj.1 h
theorem uu (s:ByteArray):(⟨s.data.toList.toArray⟩:ByteArray)=s:=by cases s;simp
theorem jC (s:ByteArray) (i j:Nat):(s.extract i j).data.toList=(s.data.toList.drop i).take (j-i):=by
 rw[ByteArray.data_extract,Array.toList_extract]
theorem mx (a b:List UInt8):(a==b)=decide (a=b):=by
 rw[wz,beq_iff_eq,decide_eq_true_eq]
theorem ef (s:ByteArray) (m:Nat):(s.extract m s.size).data.toList=s.data.toList.drop m:=by
 rw[jC];exact List.take_of_length_le (by rw[List.length_drop,ab];exact wu _)
theorem bt (l1 l2:List UInt8):(⟨l1.toArray⟩:ByteArray)++⟨l2.toArray⟩=⟨(l1++l2).toArray⟩:=by
 apply ByteArray.ext
 simp

theorem dW (c d:UInt8):(c==d)=(d==c):=by
 rw[wz,beq_iff_eq,beq_iff_eq];exact eq_comm
theorem ot (x y:List UInt8):((⟨x.toArray⟩:ByteArray).toList==(⟨y.toArray⟩:ByteArray).toList)=decide (x=y):=by
 rw[wt,wt,mx]
def loB (c:UInt8):UInt8:=if 65≤c.toNat∧c.toNat≤90 then UInt8.ofNat (c.toNat+32) else c
def d8 (l:List UInt8):List UInt8:=l.map loB
def vR (b:UInt8) (xt:List UInt8):List UInt8→List (List UInt8)
 | []=>[xt]
 | c :: l=>if c=b then xt :: vR b [] l else vR b (xt++[c]) l
theorem uN {c:UInt8} (h:65≤c.toNat) (h':c.toNat≤90):(loB c).toNat=c.toNat+32:=by
 unfold loB;rw[if_pos ⟨h,h'⟩,UInt8.toNat_ofNat'];exact wA (by omega)
theorem si {c:UInt8} (h:¬ (65≤c.toNat∧c.toNat≤90)):loB c=c:=by
 unfold loB;rw[if_neg h]
theorem cK (s:ByteArray) (k:Nat) (h:k<s.size):s.data.toList.take (k+1)=s.data.toList.take k++[s[k]]:=by
 rw[List.take_succ_eq_append_getElem (by simpa using h)]
 rfl
theorem dk (s:ByteArray) (k:Nat) (h:k<s.size):s.data.toList.drop k=s[k] :: s.data.toList.drop (k+1):=by
 rw[List.drop_eq_getElem_cons (by simpa using h)]
 rfl
theorem ox (l:List UInt8) (c:UInt8):d8 (l++[c])=d8 l++[loB c]:=by simp[d8]
theorem lZ (l:List UInt8):(d8 l).length=l.length:=by simp[d8]

def VAt (b off:Nat) (vs:List Value) (w:World):Prop:=b<w.heap.size∧∀j (h:j<vs.length),w.cell? ⟨b,off+j,none⟩=some vs[j]
theorem VAt.ret {b off:Nat} {vs:List Value} {w w':World} (h:VAt b off vs w) (hb:Bl w w'):VAt b off vs w':=
 ⟨Nat.lt_of_lt_of_le h.1 hb.size,fun j hj=>((ag hb).1 _ _ h.1).trans (h.2 j hj)⟩
def cH (v:Value) (vs:List Value) (w:World):Prop:=∃a cap,v=.slice a vs.length cap∧(a=none→cap=0)∧(vs=[]∨∃b off,a=some ⟨b,off,none⟩∧VAt b off vs w)
theorem cH.ret {v:Value} {vs:List Value} {w w':World} (h:cH v vs w) (hb:Bl w w'):cH v vs w':=by
 obtain⟨a,cap,h1,h0,h2⟩:=h;refine⟨a,cap,h1,h0,?_⟩
 rcases h2 with h2 | ⟨b,off,h2,h3⟩
 ·exact .inl h2
 ·exact .inr ⟨b,off,h2,h3.ret hb⟩
theorem cH.nil (w:World):cH (.slice none 0 0) [] w:=⟨none,0,rfl,fun _=>rfl,.inl rfl⟩
theorem cz (g j:Nat):(⟨g,0,none⟩:Addr).add j=⟨g,j,none⟩:=by
 simp only[wv]
 split
 ·rename_i e
  rw[e]
 ·rw[ww]
theorem ny (b off j:Nat):(⟨b,off,none⟩:Addr).add j=⟨b,off+j,none⟩:=by
 simp only[wv]
 split
 ·rename_i e
  rw[e]
  rfl
 ·rfl
theorem VAt.cells {b off:Nat} {vs:List Value} {w:World} (h:VAt b off vs w):∀j u,vs[j]?=some u→w.cell? ((⟨b,off,none⟩:Addr).add j)=some u:=by
 intro j u hj;obtain⟨hlt,rfl⟩:=List.getElem?_eq_some_iff.1 hj;rw[ny,h.2 j hlt]
theorem pT {w:World} {B n:Nat} {e:TypeId} {v:Value} {vs:List Value} (h:w.ownsRow B e 1 v n vs):cH v vs w:=by
 have hn:n=vs.length:=by have:=h.1;omega
 subst hn
 rcases h.2 with ⟨rfl,h0⟩ | ⟨g,cap,xt,rfl,xG,xA,xH⟩
 ·exact⟨none,0,by rw[h0],fun _=>rfl,.inl (wo h0)⟩
 ·refine⟨some ⟨g,0,none⟩,cap,rfl,(fun h=>by cases h),.inr ⟨g,0,rfl,?_,fun j hj=>?_⟩⟩
  ·rcases wy g w.heap.size with h' | h'
   ·exact h'
   ·simp[wB h'] at xA
  ·have:=h.cells (g:=g) rfl j vs[j] (wh hj)
   rw[cz] at this;rw[ww,this]
theorem aQ {B n size:Nat} {e:TypeId} {v:Value} {xs:List Value} {w w':World} (h:w.ownsRow B e size v n xs) (hb:Bl w w'):w'.ownsRow B e size v n xs:=by
 refine h.kept (row:=none) ⟨hb.os,hb.tape,hb.output,hb.size,fun k hk _=>hb.block k hk⟩ ?_
 cases h:v.ownBlock with
 | none=>exact .inl rfl
 | some x=>exact .inr (by simp)
theorem rd {w:World} {B n:Nat} {v:Value} {l:List UInt8} (h:w.ownsRow B 5 1 v n (l.map fun c=>Value.int .u8 c.toNat)):
  (convert 194 9 v).run prog w=.ok (.string ⟨l.toArray⟩) w:=by
 have hn:n=l.length:=by have:=h.1;simp at this;omega
 subst hn
 rcases h.2 with ⟨rfl,h0⟩ | ⟨g,cap,xt,rfl,xG,xA,xH⟩
 ·obtain rfl:l=[]:=wo h0
  exact Lib.run_convert_nil_bytes w 194 9 5 0 underlying194 underlying5 underlying9
 ·refine run_convert_bytes_back (P:=prog) w 194 9 5 ⟨g,0,none⟩ cap l underlying194 underlying5 underlying9 fun j hj=>?_
  exact h.cells (g:=g) rfl j (.int .u8 l[j].toNat) (by rw[List.getElem?_map,wh hj];rfl)
theorem bw {P:Program} {w:World} {xy:Array Oper} {rest:List Oper} {o:Oper} {a:Act} {Q:Exit→Act→World→Prop} (xD:o.guard=none) (s x:Operand) (t:TypeId)
  (ho:o.op=.call {callee:=.builtin .append,args:=#[s,x],argTypes:=#[t,t]})
  (base:Nat) (e:TypeId) (i:TypeInfo) (z:Value) (bytes:Nat) (ht:P.underlying t=some (.slice e)) (hi:P.info? e=some i) (hz:i.zero=some z)
  (xp:i.size=1) (xu:i.bytes=bytes) (xw:z.cells.size=1)
  (v:Value) (n:Nat) (xs:List Value) (hs:a.eval s=v) (xo:w.ownsRow base e 1 v n xs) (y:Value) (hy:y.oneCell'=true)
  (hx:a.eval x=.slice (some ⟨w.heap.size,0,none⟩) 1 1) (xx:n+1≤9223372036854775807) (xn:(n+1)*bytes≤140737488355328) (xq:base≤w.heap.size)
  (h:∀v' w',w'.ownsRow base e 1 v' (n+1) (xs++[y])→(∀w0,Below base w0 w→Below base w0 w')→wpList P xy Q rest (a.put o.dst v') w'):wpList P xy Q (o :: rest) a (w.alloc (.cells #[y] e)):=by
 refine wpList_append_own _ xD s x t ho base e i z 1 bytes ht hi hz xp xu xw (by decide) v n xs hs (xo.alloc _) ⟨w.heap.size,0,none⟩ 1 1 [y] hx rfl ?_ ?_ (by unfold maxLen;exact xx) xn (by simp;omega) ?_
 ·intro j u hj
  match j,hj with
  | 0,hj=>simp at hj;subst hj;simp[wv]
 ·intro u hu
  simp at hu
  subst hu;exact hy
 ·intro v' w' xE xF _
  refine h v' w' xE fun w0 hb=>?_
  have xQ:=hb.size;exact(hb.alloc xq _).grown xF (by simp;omega) (fun k hk=>(xo.lt k hk).1)
theorem mR:(prog.info? 5).map (fun i=>(i.zero,i.size,i.bytes))=some (some (.int .u8 0),1,1):=by kernel_rfl
theorem fE:(prog.info? 9).map (fun i=>(i.zero,i.size,i.bytes))=some (some (.string ⟨#[]⟩),1,16):=by kernel_rfl
def so (v:Value):Nat:=match v with | .string s=>s.size | _=>0
def cJ (xs:List (List UInt8)):List Value:=xs.map fun l=>Value.string ⟨l.toArray⟩
theorem aq (xs:List (List UInt8)):(cJ xs).length=xs.length:=by simp[cJ]

def cx (size:Nat) (v:Value) (n:Nat) (cs:List Value) (w:World):Prop:=
 cs.length=n*size∧∃a cap,v=.slice a n cap∧(a=none→cap=0)∧(n=0∨∃b off,a=some ⟨b,off,none⟩∧VAt b off cs w)
theorem cx.ret {size n:Nat} {v:Value} {cs:List Value} {w w':World} (h:cx size v n cs w) (hb:Bl w w'):cx size v n cs w':=by
 obtain⟨hl,a,cap,h1,h0,h2⟩:=h;refine⟨hl,a,cap,h1,h0,?_⟩
 rcases h2 with h2 | ⟨b,off,h2,h3⟩
 ·exact .inl h2
 ·exact .inr ⟨b,off,h2,h3.ret hb⟩
theorem cx.nil (size:Nat) (w:World):cx size (.slice none 0 0) 0 [] w:=⟨by simp,none,0,rfl,fun _=>rfl,.inl rfl⟩
theorem cx.of_vals {v:Value} {vs:List Value} {w:World} (h:cH v vs w):cx 1 v vs.length vs w:=by
 obtain⟨a,cap,h1,h0,h2⟩:=h;refine⟨by simp,a,cap,h1,h0,?_⟩
 rcases h2 with rfl | h2
 ·exact .inl rfl
 ·exact .inr h2
theorem tm {w:World} {B n size:Nat} {e:TypeId} {v:Value} {cs:List Value} (h:w.ownsRow B e size v n cs):cx size v n cs w:=by
 refine⟨h.1,?_⟩
 rcases h.2 with ⟨rfl,h0⟩ | ⟨g,cap,xt,rfl,xG,xA,xH⟩
 ·exact⟨none,0,by rw[h0],fun _=>rfl,.inl h0⟩
 ·refine⟨some ⟨g,0,none⟩,cap,rfl,(fun h=>by cases h),.inr ⟨g,0,rfl,?_,fun j hj=>?_⟩⟩
  ·rcases wy g w.heap.size with h' | h'
   ·exact h'
   ·simp[wB h'] at xA
  ·have:=h.cells (g:=g) rfl j cs[j] (wh hj)
   rw[cz] at this;rw[ww,this]
section
variable {P:Program}
theorem dS (w:World) (base:Nat) (t ty e:TypeId) (i:TypeInfo) (z:Value) (size bytes:Nat) (ht:P.underlying t=some (.slice e)) (hi:P.info? e=some i) (hz:i.zero=some z)
  (xp:i.size=size) (xu:i.bytes=bytes) (xw:z.cells.size=size) (xz:0<size)
  (v:Value) (n:Nat) (xs:List Value) (xo:w.ownsRow base e size v n xs) (x:Value) (m:Nat) (ys:List Value) (hx:cx size x m ys w) (h1:∀u∈ys,u.oneCell'=true)
  (xx:n+m≤9223372036854775807) (xn:(n+m)*bytes≤140737488355328) (xq:base≤w.heap.size):
  ∃v' w',(Builtin.append_ #[t,t] ty #[v,x]).run P w=.ok v' w'∧w'.ownsRow base e size v' (n+m) (xs++ys)∧w.grownBy w' v.ownBlock:=by
 obtain⟨hl,a,cap,rfl,h0,hc⟩:=hx
 have xL:n+m≤maxLen:=by unfold maxLen;exact xx
 cases a with
 | none=>
  obtain rfl:m=0:=by
   rcases hc with h | ⟨b,off,h,_⟩
   ·exact h
   ·cases h
  obtain rfl:ys=[]:=wo (by simpa using hl);refine⟨v,w,?_,by simpa using xo,wC w _⟩
  rcases xo.2 with ⟨rfl,rfl⟩ | ⟨g,xN,xt,rfl,_,_,xM,_⟩
  ·simp[Builtin.append_,run_underlying ht,sizeOf,typeInfo,hi,Builtin.lenOf,Builtin.firstCells]
  ·simp[Builtin.append_,run_underlying ht,sizeOf,typeInfo,hi,Builtin.lenOf,Builtin.firstCells,xM,storeCells]
 | some ad=>
  have xB:∀j u,ys[j]?=some u→w.cell? (ad.add j)=some u:=by
   intro j u hj
   rcases hc with rfl | ⟨b,off,h,hv⟩
   ·obtain rfl:ys=[]:=wo (by simpa using hl)
    simp at hj
   ·cases h
    exact hv.cells j u hj
  obtain⟨v',w',h2,h3,h4,_⟩:=run_append_own (P:=P) w base t ty e i z size bytes ht hi hz xp xu xw xz v n xs xo ad m cap ys hl xB h1 xL xn xq;exact⟨v',w',h2,h3,h4⟩
theorem bv {w:World} {o:Oper} {a:Act} {K:Act→World→Prop} {Q:Exit→Act→World→Prop} (s x:Operand) (t:TypeId)
  (ho:o.op=.call {callee:=.builtin .append,args:=#[s,x],argTypes:=#[t,t]})
  (base:Nat) (e:TypeId) (i:TypeInfo) (z:Value) (size bytes:Nat) (ht:P.underlying t=some (.slice e)) (hi:P.info? e=some i) (hz:i.zero=some z)
  (xp:i.size=size) (xu:i.bytes=bytes) (xw:z.cells.size=size) (xz:0<size)
  (v:Value) (n:Nat) (xs:List Value) (hs:a.eval s=v) (xo:w.ownsRow base e size v n xs) (y:Value) (hx:a.eval x=y) (m:Nat) (ys:List Value) (hr:cx size y m ys w) (h1:∀u∈ys,u.oneCell'=true)
  (xx:n+m≤9223372036854775807) (xn:(n+m)*bytes≤140737488355328) (xq:base≤w.heap.size)
  (h:∀v' w',w'.ownsRow base e size v' (n+m) (xs++ys)→w.grownBy w' v.ownBlock→K (a.put o.dst v') w'):o.wp P a w K Q:=by
 obtain⟨v',w',xI,h2,h3⟩:=dS (P:=P) w base t o.type e i z size bytes ht hi hz xp xu xw xz v n xs xo y m ys hr h1 xx xn xq;unfold Oper.wp execOp;simp only[ho,resolve,invoke,builtin,Sem.run_bind,Sem.run_pure,Result.andThen_ok,List.map_toArray,List.map_cons,List.map_nil,hs,hx,xI];exact h v' w' h2 h3
theorem am {w:World} {xy:Array Oper} {rest:List Oper} {o:Oper} {a:Act} {Q:Exit→Act→World→Prop} (xD:o.guard=none) (s x:Operand) (t:TypeId)
  (ho:o.op=.call {callee:=.builtin .append,args:=#[s,x],argTypes:=#[t,t]})
  (base:Nat) (e:TypeId) (i:TypeInfo) (z:Value) (size bytes:Nat) (ht:P.underlying t=some (.slice e)) (hi:P.info? e=some i) (hz:i.zero=some z)
  (xp:i.size=size) (xu:i.bytes=bytes) (xw:z.cells.size=size) (xz:0<size)
  (v:Value) (n:Nat) (xs:List Value) (hs:a.eval s=v) (xo:w.ownsRow base e size v n xs) (y:Value) (hx:a.eval x=y) (m:Nat) (ys:List Value) (hr:cx size y m ys w) (h1:∀u∈ys,u.oneCell'=true)
  (xx:n+m≤9223372036854775807) (xn:(n+m)*bytes≤140737488355328) (xq:base≤w.heap.size)
  (h:∀v' w',w'.ownsRow base e size v' (n+m) (xs++ys)→w.grownBy w' v.ownBlock→wpList P xy Q rest (a.put o.dst v') w'):wpList P xy Q (o :: rest) a w:=
 wpList_plain xD fun _ hK=>bv s x t ho base e i z size bytes ht hi hz xp xu xw xz v n xs hs xo y hx m ys hr h1 xx xn xq fun v' w' h2 h3=>hK _ _ (h v' w' h2 h3)
end

def ne (c:UInt8):Bool:=48≤c.toNat&&c.toNat≤57
def oy (n:Nat):List UInt8→Nat
 | []=>n
 | c :: l=>oy (10*n+(c.toNat-48)) l
theorem nB (l:List UInt8) (c:UInt8):∀n,oy n (l++[c])=10*oy n l+(c.toNat-48):=by
 induction l with
 | nil=>intro n;rfl
 | cons d l ih=>intro n;exact ih _
open Go.RowKit Go.Lib

theorem eH {i:Nat} (h:i<10):(UInt8.ofNat (48+i)).toNat=48+i:=by
 rw[UInt8.toNat_ofNat'];exact wA (by omega)
theorem fQ {i:Nat} (h:i<10):ne (UInt8.ofNat (48+i))=true:=by
 unfold ne;rw[eH h]
 simp
 omega
theorem bF {n:Nat} (h:¬ n<10):decDigits n=decDigits (n / 10)++[UInt8.ofNat (48+n % 10)]:=by
 rw[decDigits,dif_neg h]
theorem sZ:∀(k n:Nat),n≤k→oy 0 (decDigits n)=n:=by
 intro k
 induction k with
 | zero=>
  intro n h
  obtain rfl:n=0:=by omega
  rw[decDigits_one (by omega)]
  rfl
 | succ k ih=>
  intro n h
  by_cases hn:n<10
  ·rw[decDigits_one hn]
   show 10*0+((UInt8.ofNat (48+n)).toNat-48)=n
   rw[eH hn]
   omega
  ·rw[bF hn,nB,ih (n / 10) (by omega),eH (Nat.mod_lt n (by omega))]
   omega
theorem jR (n:Nat):oy 0 (decDigits n)=n:=sZ n n (wu n)
theorem t7 {m n:Nat} (h:decDigits m=decDigits n):m=n:=by
 rw[←jR m,h,jR]
theorem qU:∀(k n:Nat),n≤k→(decDigits n).all ne=true:=by
 intro k
 induction k with
 | zero=>
  intro n h
  obtain rfl:n=0:=by omega
  rw[decDigits_one (by omega)]
  rfl
 | succ k ih=>
  intro n h
  by_cases hn:n<10
  ·rw[decDigits_one hn,wq,fQ hn]
   rfl
  ·rw[bF hn,List.all_append,ih (n / 10) (by omega),wq,fQ (Nat.mod_lt n (by omega))]
   rfl
theorem tM (n:Nat):(decDigits n).all ne=true:=qU n n (wu n)
theorem sJ {n:Nat} (h:n≤9007199254740991):(decDigits n).length≤16:=by
 rw[decDigits_length]
 rcases wy 16 (nDigits n) with h1 | h1
 ·exfalso
  have hb:¬ n<10:=by
   intro hn;rw[nDigits_small hn] at h1
   omega
  -- a number of more than 16 digits is at least 10 ^ 16
  have key:∀(k u:Nat),k+1≤nDigits u→1≤u→10 ^ k≤u:=by
   intro k
   induction k with
   | zero=>intro u _ h;simpa using h
   | succ k ih=>
    intro u h hu
    have xJ:¬ u<10:=by
     intro hn;rw[nDigits_small hn] at h
     omega
    rw[nDigits_big xJ] at h;have:=ih (u / 10) (by omega) (by omega);rw[Nat.pow_succ];have h2:10 ^ k*10≤u / 10*10:=Nat.mul_le_mul_right _ this;exact Nat.le_trans h2 (Nat.div_mul_le_self u 10)
  have h3:=key 16 n h1 (by omega)
  have h4:(10:Nat) ^ 16=10000000000000000:=by simp
  rw[h4] at h3
  omega
 ·exact h1
end Go.Proofs.YtjgeiieiinmdnaaGreatDoor
