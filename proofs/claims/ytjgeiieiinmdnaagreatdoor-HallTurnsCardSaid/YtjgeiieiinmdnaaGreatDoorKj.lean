/- RoP, RoQ, RoM: put together by mergetpl.py. -/
import Derived.Test.YtjgeiieiinmdnaaGreatDoorKa
open Go.Proofs.Tryz
open Bool renaming and_eq_true→wh
open Nat renaming lt_of_lt_of_le→wo
namespace Go.Proofs.YtjgeiieiinmdnaaGreatDoor

abbrev Sb:=Bool×Bool×Bool×Bool
abbrev It:=List UInt8×List UInt8×List (List UInt8)×Sb×Bool
abbrev It.j (x:It):List UInt8:=x.1
abbrev It.n (x:It):List UInt8:=x.2.1
abbrev It.g (x:It):List (List UInt8):=x.2.2.1
abbrev It.s (x:It):Sb:=x.2.2.2.1
abbrev It.k (x:It):Bool:=x.2.2.2.2
def sb0:Sb:=(false,false,false,false)
def it0:It:=([],[],[],sb0,false)

/-! ### addresses' texts -/
def adr (s:List UInt8):Adr:=if cP s then (aO s,aZ s,aP s) else ([],[],[])
def nc (s:List UInt8):Bool:=cP s&&(decide (bC (aO s) (aZ s) (aP s)=s)&&(aP s).isEmpty)
def au (a b:List UInt8):Bool:=lsP (adr a) (adr b)
theorem bg (a:List UInt8):au a a=false:=uX _
theorem cU {a b c:List UInt8} (h1:au a b=true) (h2:au b c=true):au a c=true:=ql _ _ _ h1 h2
theorem eN {a b:List UInt8} (h1:au a b=true):au b a=false:=by
 cases h:au b a with
 | false=>rfl
 | true=>have:=cU h1 h;rw[bg] at this;cases this
theorem mq {a b:List UInt8} (h1:au a b=false) (h2:au b a=false):adr a=adr b:=by
 have:=(ut (adr a) (adr b)).2;unfold au at h1 h2;rw[h1,h2] at this
 have h3:decide (adr a=adr b)=true:=by
  cases hd:decide (adr a=adr b) with
  | true=>rfl
  | false=>rw[hd] at this;cases this
 exact of_decide_eq_true h3
def gy (a b:List UInt8):Int:=if au a b then -1 else if au b a then 1 else 0
theorem jp (a b:List UInt8):decide (gy a b<0)=au a b:=by
 unfold gy
 cases au a b
 ·simp only[Bool.false_eq_true,if_false]
  split <;> rfl
 ·rfl
def fT (s:Sb):Bool:=!(s.1&&s.2.1)&&!(s.2.2.1&&s.2.2.2)
def aR (lo hi:Nat) (s:List UInt8):Bool:=decide (lo≤s.length)&&(decide (s.length≤hi)&&txP s)
def bq:List (List UInt8)→Bool
 | []=>true
 | a :: l=>!l.contains a&&bq l
def cM (n:List UInt8) (g:List (List UInt8)):Bool:=g.all (aR 1 32)&&(bq g&&(aR 0 64 n&&decide (g.length≤4)))
def wc (x:It):Bool:=x.n.isEmpty&&(x.g.isEmpty&&decide (x.s=(false,false,false,true)))
def di (x:It):Bool:=nc x.j&&(cM x.n x.g&&(fT x.s&&(x.k||wc x)))
def aI:List It→Bool
 | a :: b :: l=>au a.j b.j&&aI (b :: l)
 | _=>true
def cg:Int:=9007199254740991
def kZ (L:List It) (v:Int):Bool:=L.all di&&(aI L&&(decide (L.length≤16)&&(decide (0≤v)&&decide (v≤cg))))
theorem mL {a:It} {l:List It} (h:aI (a :: l)=true):aI l=true:=by
 cases l with
 | nil=>rfl
 | cons b l=>unfold aI at h;rw[wh] at h;exact h.2
theorem iq:∀{a:It} {l:List It},aI (a :: l)=true→∀x∈l,au a.j x.j=true
 | a,[],_,x,hx=>by cases hx
 | a,b :: l,h,x,hx=>by
  have h2:=h;unfold aI at h2;rw[wh] at h2
  cases hx with
  | head=>exact h2.1
  | tail _ hx=>exact cU h2.1 (iq h2.2 x hx)
theorem mP {a:It} {l:List It} (h:∀x∈l,au a.j x.j=true) (hl:aI l=true):aI (a :: l)=true:=by
 cases l with
 | nil=>rfl
 | cons b l=>unfold aI;rw[h b (List.mem_cons_self ..),hl];rfl
theorem ij:∀{l r:List It},aI (l++r)=true→aI l=true∧aI r=true∧∀x∈l,∀y∈r,au x.j y.j=true
 | [],r,h=>⟨rfl,h,fun x hx=>by cases hx⟩
 | a :: l,r,h=>by
  rw[List.cons_append] at h;obtain⟨h1,h2,h3⟩:=ij (mL h);have hh:=iq h;refine⟨mP (fun x hx=>hh x (List.mem_append_left _ hx)) h1,h2,fun x hx y hy=>?_⟩
  cases hx with
  | head=>exact hh y (List.mem_append_right _ hy)
  | tail _ hx=>exact h3 x hx y hy
theorem mV (l:List It) (x:It):aI (l++[x])=(aI l&&(l.isEmpty||au (l.getLastD it0).j x.j)):=by
 induction l with
 | nil=>rfl
 | cons a l ih=>
  cases l with
  | nil=>simp[aI]
  | cons b l=>
   show (au a.j b.j&&aI ((b :: l)++[x]))=((au a.j b.j&&aI (b :: l))&&_)
   rw[ih,Bool.and_assoc]
   rfl

/-! ### where a text's address stands -/

open Go.RowKit

abbrev Im:=It×(Option Addr×Nat)
abbrev gvI (p:Im):Value:=.slice p.2.1 p.1.g.length p.2.2
abbrev itC (p:Im):List Value:=[.string ⟨p.1.j.toArray⟩,.string ⟨p.1.n.toArray⟩,gvI p,.bool p.1.s.1,.bool p.1.s.2.1,.bool p.1.s.2.2.1,.bool p.1.s.2.2.2,.bool p.1.k]
abbrev itA (p:Im):Value:=.agg #[.string ⟨p.1.j.toArray⟩,.string ⟨p.1.n.toArray⟩,gvI p,.bool p.1.s.1,.bool p.1.s.2.1,.bool p.1.s.2.2.1,.bool p.1.s.2.2.2,.bool p.1.k]
def itV (M:List Im):List Value:=M.flatMap itC
theorem cV (p:Im) (M:List Im):itV (p :: M)=itC p++itV M:=rfl
theorem sS (M N:List Im):itV (M++N)=itV M++itV N:=by simp[itV]
theorem lq (M:List Im):(itV M).length=M.length*8:=by
 induction M with
 | nil=>rfl
 | cons p M ih=>rw[cV,List.length_append,ih];simp;omega
theorem mi:∀(M:List Im) (k:Nat) (h:k<M.length) (c:Nat) (_:c<8),(itV M)[k*8+c]?=(itC M[k])[c]?
 | [],k,h,_,_=>by simp at h
 | p :: M,0,_,c,hc=>by
  rw[cV,List.getElem?_append_left (by simp;omega)]
  simp
 | p :: M,k+1,h,c,hc=>by
  rw[cV,List.getElem?_append_right (by simp;omega)]
  have e:(k+1)*8+c-(itC p).length=k*8+c:=by simp;omega
  rw[e];exact mi M k (by simpa using h) c hc
theorem sr (M:List Im):∀u∈itV M,u.oneCell'=true:=by
 intro u hu;unfold itV at hu;obtain⟨p,hp,hu⟩:=List.mem_flatMap.1 hu;simp only[itC,List.mem_cons,List.not_mem_nil,or_false] at hu
 rcases hu with rfl | rfl | rfl | rfl | rfl | rfl | rfl | rfl <;> rfl
theorem iJ (xs:List (List UInt8)):∀u∈cJ xs,u.oneCell'=true:=by
 intro u hu;obtain⟨x,_,rfl⟩:=List.mem_map.1 hu
 rfl
def be (v:Value) (g:List (List UInt8)) (w:World):Prop:=cH v (cJ g) w∧∃a cap,v=.slice a g.length cap∧g.length≤cap
theorem be.ret {v:Value} {g:List (List UInt8)} {w w':World} (h:be v g w) (hb:Bl w w'):be v g w':=⟨h.1.ret hb,h.2⟩
theorem be.own {B:Nat} {v:Value} {g:List (List UInt8)} {w:World} {e:TypeId} (h:w.ownsRow B e 1 v g.length (cJ g)):be v g w:=by
 refine⟨pT h,?_⟩
 rcases h.2 with ⟨h1,h2⟩ | ⟨b,cap,xn,h1,_,_,h2,_⟩
 ·exact⟨none,0,by rw[h1,h2],by omega⟩
 ·exact⟨_,cap,h1,h2⟩
theorem be.nil (w:World):be (.slice none 0 0) [] w:=⟨cH.nil w,none,0,rfl,Nat.le_refl _⟩
def aE (v:Value) (M:List Im) (w:World):Prop:=cx 8 v M.length (itV M) w∧∀p∈M,be (gvI p) p.1.g w
theorem aE.ret {v:Value} {M:List Im} {w w':World} (h:aE v M w) (hb:Bl w w'):aE v M w':=⟨h.1.ret hb,fun p hp=>(h.2 p hp).ret hb⟩
theorem aE.nil (w:World):aE (.slice none 0 0) [] w:=⟨cx.nil 8 w,fun p hp=>by cases hp⟩
theorem aE.form {v:Value} {M:List Im} {w:World} (h:aE v M w):∃a cap,v=.slice a M.length cap∧(a=none→cap=0∧M=[]):=by
 obtain⟨⟨_,a,cap,h,h0,h1⟩,_⟩:=h;refine⟨a,cap,h,fun e=>⟨h0 e,?_⟩⟩
 rcases h1 with h1 | ⟨b,off,h1,_⟩
 ·exact List.eq_nil_of_length_eq_zero h1
 ·rw[e] at h1;cases h1
theorem aE.cell {v:Value} {M:List Im} {w:World} (h:aE v M w) {k:Nat} (hk:k<M.length):∃b off cap,v=.slice (some ⟨b,off,none⟩) M.length cap∧b<w.heap.size∧
  (w.cell? ⟨b,off+k*8,none⟩=some (.string ⟨M[k].1.j.toArray⟩)∧w.cell? ⟨b,off+k*8+1,none⟩=some (.string ⟨M[k].1.n.toArray⟩)∧w.cell? ⟨b,off+k*8+2,none⟩=some (gvI M[k])∧
   w.cell? ⟨b,off+k*8+3,none⟩=some (.bool M[k].1.s.1)∧w.cell? ⟨b,off+k*8+4,none⟩=some (.bool M[k].1.s.2.1)∧w.cell? ⟨b,off+k*8+5,none⟩=some (.bool M[k].1.s.2.2.1)∧
   w.cell? ⟨b,off+k*8+6,none⟩=some (.bool M[k].1.s.2.2.2)∧w.cell? ⟨b,off+k*8+7,none⟩=some (.bool M[k].1.k)):=by
 obtain⟨⟨hl,a,cap,rfl,_,hc⟩,_⟩:=h
 rcases hc with h0 | ⟨b,off,rfl,h1,h2⟩
 ·omega
 ·have xo:=lq M
  have g:∀c (hc:c<8),w.cell? ⟨b,off+k*8+c,none⟩=(itC M[k])[c]?:=fun c hc=>by
   have d:=h2 (k*8+c) (by omega);have i:=mi M k hk c hc;rw[List.getElem?_eq_getElem (by omega)] at i;rw[Nat.add_assoc,d,i]
  exact⟨b,off,cap,rfl,h1,g 0 (by omega),g 1 (by omega),g 2 (by omega),g 3 (by omega),g 4 (by omega),g 5 (by omega),g 6 (by omega),g 7 (by omega)⟩
def cm (B:Nat) (v:Value) (M:List Im) (w:World):Prop:=
 w.ownsRow B 99 8 v M.length (itV M)∧∀p∈M,w.ownsRow B 9 1 (gvI p) p.1.g.length (cJ p.1.g)
theorem cm.mono {B C:Nat} {v:Value} {M:List Im} {w:World} (h:cm B v M w) (hb:C≤B):cm C v M w:=⟨h.1.mono hb,fun p hp=>(h.2 p hp).mono hb⟩
structure It8 (L:Nat) (v0 v1 v2 v3 v4 v5 v6 v7:Value) (w:World):Prop where
 lt:L<w.heap.size
 c0:w.cell? ⟨L,0,none⟩=some v0
 c1:w.cell? ⟨L,1,none⟩=some v1
 c2:w.cell? ⟨L,2,none⟩=some v2
 c3:w.cell? ⟨L,3,none⟩=some v3
 c4:w.cell? ⟨L,4,none⟩=some v4
 c5:w.cell? ⟨L,5,none⟩=some v5
 c6:w.cell? ⟨L,6,none⟩=some v6
 c7:w.cell? ⟨L,7,none⟩=some v7
 f0:w.frozen? ⟨L,0,none⟩=false
 f1:w.frozen? ⟨L,1,none⟩=false
 f2:w.frozen? ⟨L,2,none⟩=false
 f3:w.frozen? ⟨L,3,none⟩=false
 f4:w.frozen? ⟨L,4,none⟩=false
 f5:w.frozen? ⟨L,5,none⟩=false
 f6:w.frozen? ⟨L,6,none⟩=false
 f7:w.frozen? ⟨L,7,none⟩=false
theorem It8.ret {L:Nat} {v0 v1 v2 v3 v4 v5 v6 v7:Value} {w w':World} (h:It8 L v0 v1 v2 v3 v4 v5 v6 v7 w) (hb:Bl w w'):It8 L v0 v1 v2 v3 v4 v5 v6 v7 w':=by
 obtain⟨q,r⟩:=ag hb;have hl:=h.lt
 exact⟨wo hl hb.size,(q _ _ hl).trans h.c0,(q _ _ hl).trans h.c1,(q _ _ hl).trans h.c2,(q _ _ hl).trans h.c3,(q _ _ hl).trans h.c4,(q _ _ hl).trans h.c5,(q _ _ hl).trans h.c6,(q _ _ hl).trans h.c7,
  (r _ _ hl).trans h.f0,(r _ _ hl).trans h.f1,(r _ _ hl).trans h.f2,(r _ _ hl).trans h.f3,(r _ _ hl).trans h.f4,(r _ _ hl).trans h.f5,(r _ _ hl).trans h.f6,(r _ _ hl).trans h.f7⟩
theorem It8.new (w:World) (v0 v1 v2 v3 v4 v5 v6 v7:Value) (t:TypeId):It8 w.heap.size v0 v1 v2 v3 v4 v5 v6 v7 (w.alloc (.cells #[v0,v1,v2,v3,v4,v5,v6,v7] t)):=by constructor <;> simp
structure Two (L:Nat) (v0 v1:Value) (w:World):Prop where
 lt:L<w.heap.size
 c0:w.cell? ⟨L,0,none⟩=some v0
 c1:w.cell? ⟨L,1,none⟩=some v1
 f0:w.frozen? ⟨L,0,none⟩=false
 f1:w.frozen? ⟨L,1,none⟩=false
theorem Two.ret {L:Nat} {v0 v1:Value} {w w':World} (h:Two L v0 v1 w) (hb:Bl w w'):Two L v0 v1 w':=by
 obtain⟨q,r⟩:=ag hb;have hl:=h.lt;exact⟨wo hl hb.size,(q _ _ hl).trans h.c0,(q _ _ hl).trans h.c1,(r _ _ hl).trans h.f0,(r _ _ hl).trans h.f1⟩
theorem Two.new (w:World) (v0 v1:Value) (t:TypeId):Two w.heap.size v0 v1 (w.alloc (.cells #[v0,v1] t)):=by constructor <;> simp
theorem ie:(prog.info? 99).map (fun i=>(i.zero,i.size,i.bytes))=some (some (.agg #[.string ⟨#[]⟩,.string ⟨#[]⟩,.slice none 0 0,.bool false,.bool false,.bool false,.bool false,.bool false]),8,64):=by kernel_rfl
end Go.Proofs.YtjgeiieiinmdnaaGreatDoor
