/- JdG, JdH: put together by mergetpl.py. -/
import Derived.Test.YtjgeiieiinmdnaaGreatDoorKc
import Derived.Test.YtjgeiieiinmdnaaGreatDoorKb
open Go.Proofs.Tryz
open Go.Lib renaming toList_data→wu
open Go.RowKit.Below renaming drew→wh,refl→ws
open List renaming all_cons→wv
open Nat renaming le_refl→wo,lt_of_lt_of_le→wq,lt_or_ge→wt
namespace Go.Proofs.YtjgeiieiinmdnaaGreatDoor
set_option maxHeartbeats 8000000
set_option maxRecDepth 100000
open Go.RowKit Go.Lib

def pR (f:Value) (s:ByteArray) (b:Bool) (w:World):Prop:=∃g lb,f=.func (.func g) #[] lb∧(∀args w,(callFunc g args).run prog w=.ok (.enter g args) w)∧∀W,Bl w W→Calls prog g (#[.string s]++lb) W (Ret W (.bool b))
theorem pR.ret {f:Value} {s:ByteArray} {b:Bool} {w w':World} (h:pR f s b w) (hb:Bl w w'):pR f s b w':=by
 obtain⟨g,lb,h1,h2,h3⟩:=h;exact⟨g,lb,h1,h2,fun W hW=>h3 W (hb.trans (hW.mono hb.size))⟩
theorem vE (set:ByteArray) (w:World):Calls prog 148 #[.string set] w fun e w'=>e=.returned (.func (.func 188) #[] #[.pointer (some ⟨w.heap.size,0,none⟩)])∧w'=w.alloc (.cells #[.string set] 9):=by
 go_enter func148,ntmps148;go_wp2_with fail;go_ret;exact⟨rfl,rfl⟩
theorem vJ:∀args w,(callFunc 188 args).run prog w=.ok (.enter 188 args) w:=enters_of func188 (by kernel_rfl) rfl
theorem tI:∀args w,(callFunc 149 args).run prog w=.ok (.enter 149 args) w:=enters_of func149 (by kernel_rfl) rfl
theorem uD:∀args w,(callFunc 150 args).run prog w=.ok (.enter 150 args) w:=enters_of func150 (by kernel_rfl) rfl
theorem uw:∀args w,(callFunc 151 args).run prog w=.ok (.enter 151 args) w:=enters_of func151 (by kernel_rfl) rfl
theorem tC:∀args w,(callFunc 186 args).run prog w=.ok (.enter 186 args) w:=enters_of func186 (by kernel_rfl) rfl
theorem uv (B:Nat) (set s:ByteArray) (w:World) (hl:B<w.heap.size) (hc:w.cell? ⟨B,0,none⟩=some (.string set)) (hs:s.size≤10000) (hz:set.size≤1000) (ha:set.data.toList.all (fun b=>decide (b.toNat<128))=true):
  pR (.func (.func 188) #[] #[.pointer (some ⟨B,0,none⟩)]) s (s.data.toList.all (set.data.toList.contains ·)) w:=
 ⟨_,_,rfl,vJ,fun W hW=>uB B set s W (((ag hW).1 _ _ hl).trans hc) (wq hl hW.size) hs hz ha⟩
theorem pU (s:ByteArray) (w:World) (hs:s.size≤10000):pR (.func (.func 149) #[] #[]) s (txP s.data.toList&&s.data.toList.all fun c=>decide (32≤c.toNat)) w:=
 ⟨_,_,rfl,tI,fun W _=>qz s W hs⟩
theorem sR (s:ByteArray) (w:World) (hs:s.size≤10000) (h0:0<s.size):pR (.func (.func 150) #[] #[]) s (jdA (s.data.toList.headD 0)&&jdA (s.data.toList.getLastD 0)) w:=
 ⟨_,_,rfl,uD,fun W _=>(ua s W hs h0).mono fun _ _ ⟨h1,h2⟩=>⟨h1,by rw[h2];exact bQ _⟩⟩
theorem sG (s:ByteArray) (w:World) (hs:s.size≤10000) (hm:ML w):pR (.func (.func 151) #[] #[]) s (!bp s.data.toList) w:=
 ⟨_,_,rfl,uw,fun W hW=>(su s W hs (hm.ret hW)).mono fun _ _ ⟨h1,h2⟩=>⟨h1,by rw[h2];exact bQ _⟩⟩
theorem p5 (f:Value) (L:Nat) (s:ByteArray) (b:Bool) (w:World) (hf:pR f s b w) (hL:w.cell? ⟨L,0,none⟩=some (.string s)):Calls prog 186 #[f,.pointer (some ⟨L,0,none⟩)] w (Ret w (.bool (!b))):=by
 obtain⟨g,lb,rfl,eg,hc⟩:=hf;have C:=h_ (hc w (bQ _));clear hc;go_enter func186,ntmps186;go_wp2_with (go_at_fn g;refine C.out.mono ?_;rintro e w1 ⟨rfl,hb⟩);go_wp2_with fail;go_ret;exact⟨rfl,hb⟩
theorem qt (M L:Nat) (s:ByteArray) (fs:List Value) (bs:List Bool) (w:World) (hl:fs.length=bs.length) (hn:fs.length≤100) (hM:VAt M 0 fs w) (hL:w.cell? ⟨L,0,none⟩=some (.string s)) (xN:L<w.heap.size)
  (hf:∀i (h:i<fs.length) (h':i<bs.length),pR fs[i] s bs[i] w):
  Calls prog 217 #[.slice (some ⟨M,0,none⟩) fs.length fs.length,.func (.func 186) #[] #[.pointer (some ⟨L,0,none⟩)]] w
   fun e w'=>(∃r:Int,e=.returned (.int .i64 r)∧decide (0≤r)=!bs.all id)∧Bl w w':=by
 have xW:=hM.1;have HM:=h_ hM;have HF:=h_ hf;have eg:=tC;obtain⟨n,xD⟩:=e_ fs.length;rw[xD] at hl hn ⊢;have HN:=h_ xD;have HL:=h_ hl;clear hf hM xD hl;go_enter func217,ntmps217;go_wp2_with fail;go_loopw [8] (fun i wr=>∃k:Nat,k≤n∧i=.int .i64 k∧Bl w wr∧bs.all id=(bs.drop k).all id) (fun i _=>n-(intOf i).toNat)
 case atStart=>exact⟨0,Nat.zero_le _,rfl,bQ _,rfl⟩
 case round=>
  obtain⟨k,hk,rfl,xI,xF⟩:=hrel
  by_cases hlt:k<n
  ·have h1 : k < fs.length := by rw [HN.out]; exact hlt
   have h2:k<bs.length:=(by rw[←HL.out];exact hlt);have xR:=((HM.out).ret xI).2 k h1;rw[Nat.zero_add] at xR;have hF:=(HF.out k h1 h2).ret xI;obtain⟨f,xS⟩:=e_ (fs[k]);obtain⟨b,xO⟩:=e_ (bs[k]);rw[xS] at xR hF;rw[xO] at hF;have hd:bs.drop k=b :: bs.drop (k+1):=(by rw[List.drop_eq_getElem_cons h2,xO]);rw[hd,wv] at xF;have C:=h_ (p5 f L s b wr hF (((ag xI).1 _ _ xN).trans hL));have HA:=h_ xF;clear hF xS xO hd xF
   cases b with
   | true=>
    go_wp2_with (go_at_fn 186;refine C.out.mono ?_;rintro e w1 ⟨rfl,hb⟩);have xo:=xI.trans (hb.mono xI.size);clear hb;go_wp2_with fail;go_roundw
    case rel=>exact⟨k+1,by omega,by go_num,xo,by rw[HA.out];rfl⟩
    case measure=>simp[intOf];omega
   | false=>
    go_wp2_with (go_at_fn 186;refine C.out.mono ?_;rintro e w1 ⟨rfl,hb⟩);have xo:=xI.trans (hb.mono xI.size);clear hb;go_wp2_with fail;go_ret;exact⟨⟨k,rfl,by rw[HA.out];simp⟩,xo⟩
  ·obtain rfl : k = n := by omega
   rw[List.drop_eq_nil_of_le (by rw[←HL.out];exact wo _)] at xF;have HA:=h_ xF;clear xF;go_wp2_with fail;go_ret;exact⟨⟨-1,rfl,by rw[HA.out];rfl⟩,xI⟩
theorem pY (M L:Nat) (s:ByteArray) (fs:List Value) (bs:List Bool) (w:World) (hl:fs.length=bs.length) (hn:fs.length≤100) (hM:VAt M 0 fs w) (hL:w.cell? ⟨L,0,none⟩=some (.string s)) (xN:L<w.heap.size)
  (hf:∀i (h:i<fs.length) (h':i<bs.length),pR fs[i] s bs[i] w):
  Calls prog 187 #[.slice (some ⟨M,0,none⟩) fs.length fs.length,.func (.func 186) #[] #[.pointer (some ⟨L,0,none⟩)]] w (Ret w (.bool (!bs.all id))):=by
 have I:=h_ (qt M L s fs bs w hl hn hM hL xN hf);obtain⟨n,xD⟩:=e_ fs.length;obtain⟨t,ht⟩:=e_ ((!bs.all id));rw[xD,ht] at I;rw[xD,ht];clear hf hM ht;go_enter func187,ntmps187;go_wp2_with fail;refine I.out.mono ?_;rintro e w1 ⟨⟨r,rfl,hr⟩,hb⟩
 cases t with
 | true=>
  have g1:0≤r:=of_decide_eq_true hr;go_wp2_with fail;go_ret;exact⟨rfl,hb⟩
 | false=>
  have g1:¬ 0≤r:=of_decide_eq_false hr;go_wp2_with fail;go_ret;exact⟨rfl,hb⟩
theorem lS (M:Nat) (s:ByteArray) (fs:List Value) (bs:List Bool) (w:World) (hs:s.size≤10000) (hl:fs.length=bs.length) (hn:fs.length≤100) (hM:VAt M 0 fs w)
  (hf:0<s.size→s.size≤64→∀i (h:i<fs.length) (h':i<bs.length),pR fs[i] s bs[i] w):
  Calls prog 147 #[.string s,.slice (some ⟨M,0,none⟩) fs.length fs.length] w (Ret w (.bool (!s.data.toList.isEmpty&&decide (s.data.toList.length≤64)&&bs.all id))):=by
 have xL:=(bR w).alloc (wo _) (.cells #[.string s] 9);rw[ab]
 by_cases h0:0<s.size
 ·have he:s.toList.isEmpty=false:=ao h0
  have xP:s.data.toList.isEmpty=false:=by rw[←wu];exact he
  have xU:(s.toList==[])=false:=by
   have:=ax h0
   simpa using this
  rw[xP]
  by_cases h1:s.size≤64
  ·have hc : (w.alloc (.cells #[.string s] 9)).cell? ⟨w.heap.size, 0, none⟩ = some (.string s) := by simp
   have C:=pY M w.heap.size s fs bs _ hl hn (hM.ret xL) hc (by simp) (fun i h h'=>(hf h0 h1 i h h').ret xL);rw[decide_eq_true h1];obtain⟨n,xD⟩:=e_ fs.length;obtain⟨t,ht⟩:=e_ (bs.all id);rw[xD,ht] at C;rw[xD,ht];have H:=h_ C;have g1:(s.size:Int)≤64:=(by omega);clear C hf hM ht hc xP;go_enter func147,ntmps147;go_wp2_with fail;refine H.out.mono ?_;rintro e w1 ⟨rfl,hb⟩;have xo:=xL.trans (hb.mono xL.size);clear hb;go_wp2_with fail;go_ret;exact⟨by simp,xo⟩
  ·rw[decide_eq_false h1]
   have g1:¬ (s.size:Int)≤64:=(by omega);obtain⟨n,xD⟩:=e_ fs.length;rw[xD];clear hf hM xP;go_enter func147,ntmps147;go_wp2_with fail;go_ret;exact⟨rfl,xL⟩
 ·have hz:s.data.toList=[]:=List.eq_nil_of_length_eq_zero (by rw[ab];omega)
  have xV:s.toList=[]:=by rw[wu];exact hz
  have xU:(s.toList==[])=true:=by rw[xV];rfl
  rw[hz];obtain⟨n,xD⟩:=e_ fs.length;rw[xD];clear hf hM hz;go_enter func147,ntmps147;go_wp2_with fail;go_ret;exact⟨rfl,xL⟩

abbrev fOf (B:Nat):Value:=.func (.func 188) #[] #[.pointer (some ⟨B,0,none⟩)]
abbrev cq:Value:=.func (.func 149) #[] #[]
abbrev ew:Value:=.func (.func 150) #[] #[]
abbrev eC:Value:=.func (.func 151) #[] #[]
def v8 (set:ByteArray) (w:World) (e:Ending) (w':World):Prop:=∃B,e=.returned (fOf B)∧B<w'.heap.size∧w'.cell? ⟨B,0,none⟩=some (.string set)∧Bl w w'
theorem gJ (set:ByteArray) (w:World):Calls prog 148 #[.string set] w (v8 set w):=
 (vE set w).mono fun e w' ⟨h1,h2⟩=>⟨w.heap.size,h1,by rw[h2];simp,by rw[h2];simp,by rw[h2];exact(bQ _).alloc (wo _) _⟩
theorem nF (w:World) (a:Value) (t:TypeId):VAt w.heap.size 0 [a] (w.alloc (.cells #[a] t)):=by
 refine⟨by simp,fun j hj=>?_⟩
 obtain rfl:j=0:=by simp at hj;omega
 simp
theorem vi (w:World) (a b c:Value) (t:TypeId):VAt w.heap.size 0 [a,b,c] (w.alloc (.cells #[a,b,c] t)):=by
 refine⟨by simp,fun j hj=>?_⟩;have hj:j<3:=hj
 rcases wt j 1 with h | h
 ·obtain rfl : j = 0 := by omega
  simp
 ·rcases wt j 2 with h' | h'
  ·obtain rfl : j = 1 := by omega
   simp
  ·obtain rfl : j = 2 := by omega
   simp
theorem s7 (l:List UInt8):l.all (rM.data.toList.contains ·)=l.all jdL:=by
 congr 1
 funext c
 exact vw c
theorem s8 (l:List UInt8):l.all (uf.data.toList.contains ·)=l.all jdD:=by
 congr 1
 funext c
 exact vF c
theorem dG (M B:Nat) (s:ByteArray) (w:World) (hs:s.size≤10000) (hv:VAt M 0 [fOf B] w) (hB:B<w.heap.size) (hc:w.cell? ⟨B,0,none⟩=some (.string rM)):
  Calls prog 147 #[.string s,.slice (some ⟨M,0,none⟩) 1 1] w (Ret w (.bool (gX s.data.toList))):=by
 have h:=lS M s [fOf B] [s.data.toList.all (rM.data.toList.contains ·)] w hs rfl (by simp) hv (fun _ _ i h h'=>by
  obtain rfl:i=0:=by simp at h;omega
  exact uv B rM s w hB hc hs (by decide) (by decide+kernel))
 rw[s7] at h
 have e:(!s.data.toList.isEmpty&&decide (s.data.toList.length≤64) && [s.data.toList.all jdL].all id)=gX s.data.toList:=by
  unfold gX
  simp
 rw[e] at h;exact h
theorem dv (M:Nat) (s:ByteArray) (w:World) (hs:s.size≤10000) (hv:VAt M 0 [cq] w):
  Calls prog 147 #[.string s,.slice (some ⟨M,0,none⟩) 1 1] w (Ret w (.bool (dM s.data.toList))):=by
 have h:=lS M s [cq] [txP s.data.toList&&s.data.toList.all fun c=>decide (32≤c.toNat)] w hs rfl (by simp) hv (fun _ _ i h h'=>by
  obtain rfl:i=0:=by simp at h;omega
  exact pU s w hs)
 have e:(!s.data.toList.isEmpty&&decide (s.data.toList.length≤64) && [txP s.data.toList&&s.data.toList.all fun c=>decide (32≤c.toNat)].all id)=dM s.data.toList:=by
  unfold dM
  simp
 rw[e] at h;exact h
theorem fw (M B:Nat) (s:ByteArray) (w:World) (hs:s.size≤10000) (hv:VAt M 0 [fOf B,ew,eC] w) (hB:B<w.heap.size) (hc:w.cell? ⟨B,0,none⟩=some (.string uf)) (hm:ML w):
  Calls prog 147 #[.string s,.slice (some ⟨M,0,none⟩) 3 3] w (Ret w (.bool (eZ s.data.toList))):=by
 have h:=lS M s [fOf B,ew,eC] [s.data.toList.all (uf.data.toList.contains ·),jdA (s.data.toList.headD 0)&&jdA (s.data.toList.getLastD 0),!bp s.data.toList] w hs rfl (by simp) hv (fun h0 _ i h h'=>by
  have h:i<3:=h
  rcases wt i 1 with g | g
  ·obtain rfl : i = 0 := by omega
   exact uv B uf s w hB hc hs (by decide) (by decide+kernel)
  ·rcases wt i 2 with g' | g'
   ·obtain rfl : i = 1 := by omega
    exact sR s w hs h0
   ·obtain rfl : i = 2 := by omega
    exact sG s w hs hm)
 rw[s8] at h
 have e:(!s.data.toList.isEmpty&&decide (s.data.toList.length≤64) && [s.data.toList.all jdD,jdA (s.data.toList.headD 0)&&jdA (s.data.toList.getLastD 0),!bp s.data.toList].all id)=eZ s.data.toList:=by
  unfold eZ;simp only[wv,List.all_nil,id,Bool.and_true,Bool.and_assoc]
 rw[e] at h;exact h
theorem iG (l d r:List UInt8) (A B C:Bool) (hA:(l.isEmpty||gX l)=A) (hB:(r.isEmpty||dM r)=B) (hC:eZ d=C):(if bB l d r=true then (0:Int) else 8)=if (A&&B&&C)=true then 0 else 8:=by
 unfold bB;rw[hA,hB,hC]
theorem ay {s:ByteArray} (h:s.data.toList.isEmpty=true):s=⟨#[]⟩:=by
 apply aW
 rw[List.isEmpty_iff.1 h]
theorem ak {s:ByteArray} (h:s.data.toList.isEmpty=false):(s.toList==[])=false:=by
 rw[wu]
 cases hs:s.data.toList with
 | nil=>rw[hs] at h;cases h
 | cons a l=>rfl
theorem li (l d r:ByteArray) (w:World) (zl:l.size≤10000) (zd:d.size≤10000) (zr:r.size≤10000) (hm:ML w) (hl:l.data.toList.isEmpty=true) (hr:r.data.toList.isEmpty=true) (c:Bool) (xJ:eZ d.data.toList=c):
  Calls prog 91 #[jV l d r] w (Ret w (.int .i64 (if c=true then (0:Int) else 8))):=by
 have xp:=JAt.new w l d r;obtain⟨O,hO⟩:∃O:Int,(if c=true then (0:Int) else 8)=O:=⟨_,rfl⟩;rw[hO];have HO:=h_ hO;clear hO;have xn:=(bR w).alloc (wo _) (.cells #[.string l,.string d,.string r] 117);have xq:=hm.ret xn;obtain⟨W,hW⟩:=e_ (w.alloc (.cells #[.string l,.string d,.string r] 117));rw[hW] at xp xn xq;have k0:=xp;have q0:=xn;have m0:=xq;have HW:=h_ hW;clear hW xp xn xq hm;obtain rfl:=ay hl;obtain rfl:=ay hr;go_enter func91,ntmps91;go_wp2_with fail;rw[HW.out];refine wp_region_held_drew (S:=fun w'=>w'.cell? ⟨w.heap.size,0,none⟩=some (.string ⟨#[]⟩)∧w'.cell? ⟨w.heap.size,1,none⟩=some (.string d)∧w'.cell? ⟨w.heap.size,2,none⟩=some (.string ⟨#[]⟩)) (by kernel_rfl) ⟨k0.c0,k0.c1,k0.c2⟩ (fun hH=>?_);have k1:=k0.ret (wh (bQ _));have q1:=q0.drew;have m1:=m0.ret (wh (bQ _));refine rS [(0,some 5),(1,some 6),(2,some 7),(3,some 8)] ?_
 iterate 4 refine aS ?_
 refine rE ?_;refine rS [(4,some 9),(5,some 10),(6,some 11),(7,some 12),(8,some 13)] ?_
 iterate 5 refine aF ?_
 refine rE ?_;refine rS [(9,some 14),(10,some 3)] ?_
 iterate 2 refine aS ?_
 refine rE ?_;refine aD ?_;go_wp2_with fail;refine wp_region_held_drew (S:=fun w'=>w'.cell? ⟨w.heap.size,0,none⟩=some (.string ⟨#[]⟩)∧w'.cell? ⟨w.heap.size,1,none⟩=some (.string d)∧w'.cell? ⟨w.heap.size,2,none⟩=some (.string ⟨#[]⟩)) (by kernel_rfl) ⟨k1.c0,k1.c1,k1.c2⟩ (fun hH=>?_);have k2:=k1.ret (wh (bQ _));have q2:=q1.drew;have m2:=m1.ret (wh (bQ _));refine rS [(0,some 24),(1,some 25),(2,some 26),(3,some 27),(4,some 28),(5,some 29),(6,some 30),(7,some 31),(8,some 32)] ?_
 iterate 9 refine aS ?_
 refine rE ?_
 refine aC (i:=9) fun K hK=>?_
 go_simp;refine(gJ uf _).mono ?_;rintro e w3 ⟨B3,rfl,xB,xE,xC⟩;have k3:=k2.ret xC;have q3:=q2.trans (xC.mono q2.size);have m3:=m2.ret xC;clear xC;go_simp;clear hH;refine hK.out _ _ ⟨k3.c0,k3.c1,k3.c2⟩ (fun hH=>?_);clear hK K
 refine aC (i:=10) fun K hK=>?_
 go_simp;have b4:=(bR w3).alloc (wo _) (.cells #[fOf B3,ew,eC] 86);have k4:=k3.ret b4;have q4:=q3.trans (b4.mono q3.size);have m4:=m3.ret b4;have v4:VAt w3.heap.size 0 [fOf B3,ew,eC] (w3.alloc (.cells #[fOf B3,ew,eC] 86)):=vi _ _ _ _ _;have xy:=((ag b4).1 _ _ xB).trans xE;have xz:=wq xB b4.size;have P4:=h_ (fw _ _ d _ zd v4 xz xy m4);rw[xJ] at P4;clear b4 v4 xE xB xy xz;clear hH;refine hK.out _ _ ⟨k4.c0,k4.c1,k4.c2⟩ (fun hH=>?_);clear hK K
 refine aC (i:=11) fun K hK=>?_
 go_simp;refine P4.out.mono ?_;rintro e w5 ⟨rfl,xG⟩;have k5:=k4.ret xG;have q5:=q4.trans (xG.mono q4.size);have m5:=m4.ret xG;clear xG;go_simp;clear hH;refine hK.out _ _ ⟨k5.c0,k5.c1,k5.c2⟩ (fun hH=>?_);clear hK K;refine rS [(12,some 36),(13,some 37)] ?_
 iterate 2 refine aS ?_
 refine rE ?_;refine aD ?_
 cases c with
 | true=>
  go_wp2_with fail;go_ret;exact⟨by rw[←HO.out];rfl,q5⟩
 | false=>
  go_wp2_with fail;go_ret;exact⟨by rw[←HO.out];rfl,q5⟩
theorem lz (l d r:ByteArray) (w:World) (zl:l.size≤10000) (zd:d.size≤10000) (zr:r.size≤10000) (hm:ML w) (hl:l.data.toList.isEmpty=true) (hr:r.data.toList.isEmpty=false) (haR:dM r.data.toList=true) (c:Bool) (xJ:eZ d.data.toList=c):
  Calls prog 91 #[jV l d r] w (Ret w (.int .i64 (if c=true then (0:Int) else 8))):=by
 have xp:=JAt.new w l d r;obtain⟨O,hO⟩:∃O:Int,(if c=true then (0:Int) else 8)=O:=⟨_,rfl⟩;rw[hO];have HO:=h_ hO;clear hO;have xn:=(bR w).alloc (wo _) (.cells #[.string l,.string d,.string r] 117);have xq:=hm.ret xn;obtain⟨W,hW⟩:=e_ (w.alloc (.cells #[.string l,.string d,.string r] 117));rw[hW] at xp xn xq;have k0:=xp;have q0:=xn;have m0:=xq;have HW:=h_ hW;clear hW xp xn xq hm;obtain rfl:=ay hl;have er:=ak hr;go_enter func91,ntmps91;go_wp2_with fail;rw[HW.out];refine wp_region_held_drew (S:=fun w'=>w'.cell? ⟨w.heap.size,0,none⟩=some (.string ⟨#[]⟩)∧w'.cell? ⟨w.heap.size,1,none⟩=some (.string d)∧w'.cell? ⟨w.heap.size,2,none⟩=some (.string r)) (by kernel_rfl) ⟨k0.c0,k0.c1,k0.c2⟩ (fun hH=>?_);have k1:=k0.ret (wh (bQ _));have q1:=q0.drew;have m1:=m0.ret (wh (bQ _));refine rS [(0,some 5),(1,some 6),(2,some 7),(3,some 8)] ?_
 iterate 4 refine aS ?_
 refine rE ?_;refine rS [(4,some 9),(5,some 10),(6,some 11),(7,some 12),(8,some 13)] ?_
 iterate 5 refine aF ?_
 refine rE ?_;refine rS [(9,some 14),(10,some 3)] ?_
 iterate 2 refine aS ?_
 refine rE ?_;refine aD ?_;go_wp2_with fail;have b2:=(ws (W.drew).heap.size (W.drew)).alloc (wo _) (.cells #[cq] 86);have k2:=k1.ret b2;have q2:=q1.trans (b2.mono q1.size);have m2:=m1.ret b2;have P2:=dv _ r _ zr (nF (W.drew) cq 86);rw[haR] at P2;have PR:=h_ P2;clear P2 b2;refine PR.out.mono ?_;rintro e w3 ⟨rfl,xC⟩;have k3:=k2.ret xC;have q3:=q2.trans (xC.mono q2.size);have m3:=m2.ret xC;clear xC;go_wp2_with fail;refine wp_region_held_drew (S:=fun w'=>w'.cell? ⟨w.heap.size,0,none⟩=some (.string ⟨#[]⟩)∧w'.cell? ⟨w.heap.size,1,none⟩=some (.string d)∧w'.cell? ⟨w.heap.size,2,none⟩=some (.string r)) (by kernel_rfl) ⟨k3.c0,k3.c1,k3.c2⟩ (fun hH=>?_);have k4:=k3.ret (wh (bQ _));have q4:=q3.drew;have m4:=m3.ret (wh (bQ _));refine rS [(0,some 24),(1,some 25),(2,some 26),(3,some 27),(4,some 28),(5,some 29),(6,some 30),(7,some 31),(8,some 32)] ?_
 iterate 9 refine aS ?_
 refine rE ?_
 refine aC (i:=9) fun K hK=>?_
 go_simp;refine(gJ uf _).mono ?_;rintro e w5 ⟨B3,rfl,xB,xE,xG⟩;have k5:=k4.ret xG;have q5:=q4.trans (xG.mono q4.size);have m5:=m4.ret xG;clear xG;go_simp;clear hH;refine hK.out _ _ ⟨k5.c0,k5.c1,k5.c2⟩ (fun hH=>?_);clear hK K
 refine aC (i:=10) fun K hK=>?_
 go_simp;have b6:=(bR w5).alloc (wo _) (.cells #[fOf B3,ew,eC] 86);have k6:=k5.ret b6;have q6:=q5.trans (b6.mono q5.size);have m6:=m5.ret b6;have v6:VAt w5.heap.size 0 [fOf B3,ew,eC] (w5.alloc (.cells #[fOf B3,ew,eC] 86)):=vi _ _ _ _ _;have xy:=((ag b6).1 _ _ xB).trans xE;have xz:=wq xB b6.size;have P6:=h_ (fw _ _ d _ zd v6 xz xy m6);rw[xJ] at P6;clear b6 v6 xE xB xy xz;clear hH;refine hK.out _ _ ⟨k6.c0,k6.c1,k6.c2⟩ (fun hH=>?_);clear hK K
 refine aC (i:=11) fun K hK=>?_
 go_simp;refine P6.out.mono ?_;rintro e w7 ⟨rfl,xM⟩;have k7:=k6.ret xM;have q7:=q6.trans (xM.mono q6.size);have m7:=m6.ret xM;clear xM;go_simp;clear hH;refine hK.out _ _ ⟨k7.c0,k7.c1,k7.c2⟩ (fun hH=>?_);clear hK K;refine rS [(12,some 36),(13,some 37)] ?_
 iterate 2 refine aS ?_
 refine rE ?_;refine aD ?_
 cases c with
 | true=>
  go_wp2_with fail;go_ret;exact⟨by rw[←HO.out];rfl,q7⟩
 | false=>
  go_wp2_with fail;go_ret;exact⟨by rw[←HO.out];rfl,q7⟩
theorem lA (l d r:ByteArray) (w:World) (zl:l.size≤10000) (_zd:d.size≤10000) (zr:r.size≤10000) (hm:ML w) (hl:l.data.toList.isEmpty=true) (hr:r.data.toList.isEmpty=false) (haR:dM r.data.toList=false):
  Calls prog 91 #[jV l d r] w (Ret w (.int .i64 (8))):=by
 have xp:=JAt.new w l d r;have xn:=(bR w).alloc (wo _) (.cells #[.string l,.string d,.string r] 117);have xq:=hm.ret xn;obtain⟨W,hW⟩:=e_ (w.alloc (.cells #[.string l,.string d,.string r] 117));rw[hW] at xp xn xq;have k0:=xp;have q0:=xn;have m0:=xq;have HW:=h_ hW;clear hW xp xn xq hm;obtain rfl:=ay hl;have er:=ak hr;go_enter func91,ntmps91;go_wp2_with fail;rw[HW.out];refine wp_region_held_drew (S:=fun w'=>w'.cell? ⟨w.heap.size,0,none⟩=some (.string ⟨#[]⟩)∧w'.cell? ⟨w.heap.size,1,none⟩=some (.string d)∧w'.cell? ⟨w.heap.size,2,none⟩=some (.string r)) (by kernel_rfl) ⟨k0.c0,k0.c1,k0.c2⟩ (fun hH=>?_);have k1:=k0.ret (wh (bQ _));have q1:=q0.drew;have m1:=m0.ret (wh (bQ _));refine rS [(0,some 5),(1,some 6),(2,some 7),(3,some 8)] ?_
 iterate 4 refine aS ?_
 refine rE ?_;refine rS [(4,some 9),(5,some 10),(6,some 11),(7,some 12),(8,some 13)] ?_
 iterate 5 refine aF ?_
 refine rE ?_;refine rS [(9,some 14),(10,some 3)] ?_
 iterate 2 refine aS ?_
 refine rE ?_;refine aD ?_;go_wp2_with fail;have b2:=(ws (W.drew).heap.size (W.drew)).alloc (wo _) (.cells #[cq] 86);have k2:=k1.ret b2;have q2:=q1.trans (b2.mono q1.size);have m2:=m1.ret b2;have P2:=dv _ r _ zr (nF (W.drew) cq 86);rw[haR] at P2;have PR:=h_ P2;clear P2 b2;refine PR.out.mono ?_;rintro e w3 ⟨rfl,xC⟩;have k3:=k2.ret xC;have q3:=q2.trans (xC.mono q2.size);have m3:=m2.ret xC;clear xC;go_wp2_with fail;refine wp_region_held_drew (S:=fun w'=>w'.cell? ⟨w.heap.size,0,none⟩=some (.string ⟨#[]⟩)∧w'.cell? ⟨w.heap.size,1,none⟩=some (.string d)∧w'.cell? ⟨w.heap.size,2,none⟩=some (.string r)) (by kernel_rfl) ⟨k3.c0,k3.c1,k3.c2⟩ (fun hH=>?_);have k4:=k3.ret (wh (bQ _));have q4:=q3.drew;have m4:=m3.ret (wh (bQ _));refine rS [(0,some 24),(1,some 25),(2,some 26),(3,some 27),(4,some 28),(5,some 29),(6,some 30)] ?_
 iterate 7 refine aS ?_
 refine rE ?_;refine rS [(7,some 31),(8,some 32),(9,some 33),(10,some 34),(11,some 35),(12,some 36)] ?_
 iterate 6 refine aF ?_
 refine rE ?_;refine rS [(13,some 37)] ?_;refine aS ?_;refine rE ?_;refine aD ?_;go_wp2_with fail;go_ret;exact⟨rfl,q4⟩
theorem lE (l d r:ByteArray) (w:World) (zl:l.size≤10000) (zd:d.size≤10000) (zr:r.size≤10000) (hm:ML w) (hl:l.data.toList.isEmpty=false) (haL:gX l.data.toList=true) (hr:r.data.toList.isEmpty=true) (c:Bool) (xJ:eZ d.data.toList=c):
  Calls prog 91 #[jV l d r] w (Ret w (.int .i64 (if c=true then (0:Int) else 8))):=by
 have xp:=JAt.new w l d r;obtain⟨O,hO⟩:∃O:Int,(if c=true then (0:Int) else 8)=O:=⟨_,rfl⟩;rw[hO];have HO:=h_ hO;clear hO;have xn:=(bR w).alloc (wo _) (.cells #[.string l,.string d,.string r] 117);have xq:=hm.ret xn;obtain⟨W,hW⟩:=e_ (w.alloc (.cells #[.string l,.string d,.string r] 117));rw[hW] at xp xn xq;have k0:=xp;have q0:=xn;have m0:=xq;have HW:=h_ hW;clear hW xp xn xq hm;have el:=ak hl;obtain rfl:=ay hr;go_enter func91,ntmps91;go_wp2_with fail;rw[HW.out];refine wp_region_held_drew (S:=fun w'=>w'.cell? ⟨w.heap.size,0,none⟩=some (.string l)∧w'.cell? ⟨w.heap.size,1,none⟩=some (.string d)∧w'.cell? ⟨w.heap.size,2,none⟩=some (.string ⟨#[]⟩)) (by kernel_rfl) ⟨k0.c0,k0.c1,k0.c2⟩ (fun hH=>?_);have k1:=k0.ret (wh (bQ _));have q1:=q0.drew;have m1:=m0.ret (wh (bQ _));refine rS [(0,some 5),(1,some 6),(2,some 7),(3,some 8),(4,some 9),(5,some 10)] ?_
 iterate 6 refine aS ?_
 refine rE ?_
 refine aC (i:=6) fun K hK=>?_
 go_simp;refine(gJ rM _).mono ?_;rintro e w2 ⟨B1,rfl,xx,xA,xo⟩;have k2:=k1.ret xo;have q2:=q1.trans (xo.mono q1.size);have m2:=m1.ret xo;clear xo;go_simp;clear hH;refine hK.out _ _ ⟨k2.c0,k2.c1,k2.c2⟩ (fun hH=>?_);clear hK K
 refine aC (i:=7) fun K hK=>?_
 go_simp;have b3:=(bR w2).alloc (wo _) (.cells #[fOf B1] 86);have k3:=k2.ret b3;have q3:=q2.trans (b3.mono q2.size);have m3:=m2.ret b3;have v3:VAt w2.heap.size 0 [fOf B1] (w2.alloc (.cells #[fOf B1] 86)):=nF _ _ _;have xt:=((ag b3).1 _ _ xx).trans xA;have xu:=wq xx b3.size;have P3:=h_ (dG _ _ l _ zl v3 xu xt);rw[haL] at P3;clear b3 v3 xA xx xt xu;clear hH;refine hK.out _ _ ⟨k3.c0,k3.c1,k3.c2⟩ (fun hH=>?_);clear hK K
 refine aC (i:=8) fun K hK=>?_
 go_simp;refine P3.out.mono ?_;rintro e w4 ⟨rfl,xr⟩;have k4:=k3.ret xr;have q4:=q3.trans (xr.mono q3.size);have m4:=m3.ret xr;clear xr;go_simp;clear hH;refine hK.out _ _ ⟨k4.c0,k4.c1,k4.c2⟩ (fun hH=>?_);clear hK K;refine rS [(9,some 14),(10,some 3)] ?_
 iterate 2 refine aS ?_
 refine rE ?_;refine aD ?_;go_wp2_with fail;refine wp_region_held_drew (S:=fun w'=>w'.cell? ⟨w.heap.size,0,none⟩=some (.string l)∧w'.cell? ⟨w.heap.size,1,none⟩=some (.string d)∧w'.cell? ⟨w.heap.size,2,none⟩=some (.string ⟨#[]⟩)) (by kernel_rfl) ⟨k4.c0,k4.c1,k4.c2⟩ (fun hH=>?_);have k5:=k4.ret (wh (bQ _));have q5:=q4.drew;have m5:=m4.ret (wh (bQ _));refine rS [(0,some 24),(1,some 25),(2,some 26),(3,some 27),(4,some 28),(5,some 29),(6,some 30),(7,some 31),(8,some 32)] ?_
 iterate 9 refine aS ?_
 refine rE ?_
 refine aC (i:=9) fun K hK=>?_
 go_simp;refine(gJ uf _).mono ?_;rintro e w6 ⟨B3,rfl,xB,xE,xw⟩;have k6:=k5.ret xw;have q6:=q5.trans (xw.mono q5.size);have m6:=m5.ret xw;clear xw;go_simp;clear hH;refine hK.out _ _ ⟨k6.c0,k6.c1,k6.c2⟩ (fun hH=>?_);clear hK K
 refine aC (i:=10) fun K hK=>?_
 go_simp;have b7:=(bR w6).alloc (wo _) (.cells #[fOf B3,ew,eC] 86);have k7:=k6.ret b7;have q7:=q6.trans (b7.mono q6.size);have m7:=m6.ret b7;have v7:VAt w6.heap.size 0 [fOf B3,ew,eC] (w6.alloc (.cells #[fOf B3,ew,eC] 86)):=vi _ _ _ _ _;have xy:=((ag b7).1 _ _ xB).trans xE;have xz:=wq xB b7.size;have P7:=h_ (fw _ _ d _ zd v7 xz xy m7);rw[xJ] at P7;clear b7 v7 xE xB xy xz;clear hH;refine hK.out _ _ ⟨k7.c0,k7.c1,k7.c2⟩ (fun hH=>?_);clear hK K
 refine aC (i:=11) fun K hK=>?_
 go_simp;refine P7.out.mono ?_;rintro e w8 ⟨rfl,xH⟩;have k8:=k7.ret xH;have q8:=q7.trans (xH.mono q7.size);have m8:=m7.ret xH;clear xH;go_simp;clear hH;refine hK.out _ _ ⟨k8.c0,k8.c1,k8.c2⟩ (fun hH=>?_);clear hK K;refine rS [(12,some 36),(13,some 37)] ?_
 iterate 2 refine aS ?_
 refine rE ?_;refine aD ?_
 cases c with
 | true=>
  go_wp2_with fail;go_ret;exact⟨by rw[←HO.out];rfl,q8⟩
 | false=>
  go_wp2_with fail;go_ret;exact⟨by rw[←HO.out];rfl,q8⟩
theorem lJ (l d r:ByteArray) (w:World) (zl:l.size≤10000) (zd:d.size≤10000) (zr:r.size≤10000) (hm:ML w) (hl:l.data.toList.isEmpty=false) (haL:gX l.data.toList=true) (hr:r.data.toList.isEmpty=false) (haR:dM r.data.toList=true) (c:Bool) (xJ:eZ d.data.toList=c):
  Calls prog 91 #[jV l d r] w (Ret w (.int .i64 (if c=true then (0:Int) else 8))):=by
 have xp:=JAt.new w l d r;obtain⟨O,hO⟩:∃O:Int,(if c=true then (0:Int) else 8)=O:=⟨_,rfl⟩;rw[hO];have HO:=h_ hO;clear hO;have xn:=(bR w).alloc (wo _) (.cells #[.string l,.string d,.string r] 117);have xq:=hm.ret xn;obtain⟨W,hW⟩:=e_ (w.alloc (.cells #[.string l,.string d,.string r] 117));rw[hW] at xp xn xq;have k0:=xp;have q0:=xn;have m0:=xq;have HW:=h_ hW;clear hW xp xn xq hm;have el:=ak hl;have er:=ak hr;go_enter func91,ntmps91;go_wp2_with fail;rw[HW.out];refine wp_region_held_drew (S:=fun w'=>w'.cell? ⟨w.heap.size,0,none⟩=some (.string l)∧w'.cell? ⟨w.heap.size,1,none⟩=some (.string d)∧w'.cell? ⟨w.heap.size,2,none⟩=some (.string r)) (by kernel_rfl) ⟨k0.c0,k0.c1,k0.c2⟩ (fun hH=>?_);have k1:=k0.ret (wh (bQ _));have q1:=q0.drew;have m1:=m0.ret (wh (bQ _));refine rS [(0,some 5),(1,some 6),(2,some 7),(3,some 8),(4,some 9),(5,some 10)] ?_
 iterate 6 refine aS ?_
 refine rE ?_
 refine aC (i:=6) fun K hK=>?_
 go_simp;refine(gJ rM _).mono ?_;rintro e w2 ⟨B1,rfl,xx,xA,xo⟩;have k2:=k1.ret xo;have q2:=q1.trans (xo.mono q1.size);have m2:=m1.ret xo;clear xo;go_simp;clear hH;refine hK.out _ _ ⟨k2.c0,k2.c1,k2.c2⟩ (fun hH=>?_);clear hK K
 refine aC (i:=7) fun K hK=>?_
 go_simp;have b3:=(bR w2).alloc (wo _) (.cells #[fOf B1] 86);have k3:=k2.ret b3;have q3:=q2.trans (b3.mono q2.size);have m3:=m2.ret b3;have v3:VAt w2.heap.size 0 [fOf B1] (w2.alloc (.cells #[fOf B1] 86)):=nF _ _ _;have xt:=((ag b3).1 _ _ xx).trans xA;have xu:=wq xx b3.size;have P3:=h_ (dG _ _ l _ zl v3 xu xt);rw[haL] at P3;clear b3 v3 xA xx xt xu;clear hH;refine hK.out _ _ ⟨k3.c0,k3.c1,k3.c2⟩ (fun hH=>?_);clear hK K
 refine aC (i:=8) fun K hK=>?_
 go_simp;refine P3.out.mono ?_;rintro e w4 ⟨rfl,xr⟩;have k4:=k3.ret xr;have q4:=q3.trans (xr.mono q3.size);have m4:=m3.ret xr;clear xr;go_simp;clear hH;refine hK.out _ _ ⟨k4.c0,k4.c1,k4.c2⟩ (fun hH=>?_);clear hK K;refine rS [(9,some 14),(10,some 3)] ?_
 iterate 2 refine aS ?_
 refine rE ?_;refine aD ?_;go_wp2_with fail;have b5:=(ws (w4).heap.size (w4)).alloc (wo _) (.cells #[cq] 86);have k5:=k4.ret b5;have q5:=q4.trans (b5.mono q4.size);have m5:=m4.ret b5;have P5:=dv _ r _ zr (nF (w4) cq 86);rw[haR] at P5;have PR:=h_ P5;clear P5 b5;refine PR.out.mono ?_;rintro e w6 ⟨rfl,xw⟩;have k6:=k5.ret xw;have q6:=q5.trans (xw.mono q5.size);have m6:=m5.ret xw;clear xw;go_wp2_with fail;refine wp_region_held_drew (S:=fun w'=>w'.cell? ⟨w.heap.size,0,none⟩=some (.string l)∧w'.cell? ⟨w.heap.size,1,none⟩=some (.string d)∧w'.cell? ⟨w.heap.size,2,none⟩=some (.string r)) (by kernel_rfl) ⟨k6.c0,k6.c1,k6.c2⟩ (fun hH=>?_);have k7:=k6.ret (wh (bQ _));have q7:=q6.drew;have m7:=m6.ret (wh (bQ _));refine rS [(0,some 24),(1,some 25),(2,some 26),(3,some 27),(4,some 28),(5,some 29),(6,some 30),(7,some 31),(8,some 32)] ?_
 iterate 9 refine aS ?_
 refine rE ?_
 refine aC (i:=9) fun K hK=>?_
 go_simp;refine(gJ uf _).mono ?_;rintro e w8 ⟨B3,rfl,xB,xE,xH⟩;have k8:=k7.ret xH;have q8:=q7.trans (xH.mono q7.size);have m8:=m7.ret xH;clear xH;go_simp;clear hH;refine hK.out _ _ ⟨k8.c0,k8.c1,k8.c2⟩ (fun hH=>?_);clear hK K
 refine aC (i:=10) fun K hK=>?_
 go_simp;have b9:=(bR w8).alloc (wo _) (.cells #[fOf B3,ew,eC] 86);have k9:=k8.ret b9;have q9:=q8.trans (b9.mono q8.size);have m9:=m8.ret b9;have v9:VAt w8.heap.size 0 [fOf B3,ew,eC] (w8.alloc (.cells #[fOf B3,ew,eC] 86)):=vi _ _ _ _ _;have xy:=((ag b9).1 _ _ xB).trans xE;have xz:=wq xB b9.size;have P9:=h_ (fw _ _ d _ zd v9 xz xy m9);rw[xJ] at P9;clear b9 v9 xE xB xy xz;clear hH;refine hK.out _ _ ⟨k9.c0,k9.c1,k9.c2⟩ (fun hH=>?_);clear hK K
 refine aC (i:=11) fun K hK=>?_
 go_simp;refine P9.out.mono ?_;rintro e xX ⟨rfl,xK⟩;have xQ:=k9.ret xK;have xT:=q9.trans (xK.mono q9.size);have xY:=m9.ret xK;clear xK;go_simp;clear hH;refine hK.out _ _ ⟨xQ.c0,xQ.c1,xQ.c2⟩ (fun hH=>?_);clear hK K;refine rS [(12,some 36),(13,some 37)] ?_
 iterate 2 refine aS ?_
 refine rE ?_;refine aD ?_
 cases c with
 | true=>
  go_wp2_with fail;go_ret;exact⟨by rw[←HO.out];rfl,xT⟩
 | false=>
  go_wp2_with fail;go_ret;exact⟨by rw[←HO.out];rfl,xT⟩
theorem lD (l d r:ByteArray) (w:World) (zl:l.size≤10000) (_zd:d.size≤10000) (zr:r.size≤10000) (hm:ML w) (hl:l.data.toList.isEmpty=false) (haL:gX l.data.toList=true) (hr:r.data.toList.isEmpty=false) (haR:dM r.data.toList=false):
  Calls prog 91 #[jV l d r] w (Ret w (.int .i64 (8))):=by
 have xp:=JAt.new w l d r;have xn:=(bR w).alloc (wo _) (.cells #[.string l,.string d,.string r] 117);have xq:=hm.ret xn;obtain⟨W,hW⟩:=e_ (w.alloc (.cells #[.string l,.string d,.string r] 117));rw[hW] at xp xn xq;have k0:=xp;have q0:=xn;have m0:=xq;have HW:=h_ hW;clear hW xp xn xq hm;have el:=ak hl;have er:=ak hr;go_enter func91,ntmps91;go_wp2_with fail;rw[HW.out];refine wp_region_held_drew (S:=fun w'=>w'.cell? ⟨w.heap.size,0,none⟩=some (.string l)∧w'.cell? ⟨w.heap.size,1,none⟩=some (.string d)∧w'.cell? ⟨w.heap.size,2,none⟩=some (.string r)) (by kernel_rfl) ⟨k0.c0,k0.c1,k0.c2⟩ (fun hH=>?_);have k1:=k0.ret (wh (bQ _));have q1:=q0.drew;have m1:=m0.ret (wh (bQ _));refine rS [(0,some 5),(1,some 6),(2,some 7),(3,some 8),(4,some 9),(5,some 10)] ?_
 iterate 6 refine aS ?_
 refine rE ?_
 refine aC (i:=6) fun K hK=>?_
 go_simp;refine(gJ rM _).mono ?_;rintro e w2 ⟨B1,rfl,xx,xA,xo⟩;have k2:=k1.ret xo;have q2:=q1.trans (xo.mono q1.size);have m2:=m1.ret xo;clear xo;go_simp;clear hH;refine hK.out _ _ ⟨k2.c0,k2.c1,k2.c2⟩ (fun hH=>?_);clear hK K
 refine aC (i:=7) fun K hK=>?_
 go_simp;have b3:=(bR w2).alloc (wo _) (.cells #[fOf B1] 86);have k3:=k2.ret b3;have q3:=q2.trans (b3.mono q2.size);have m3:=m2.ret b3;have v3:VAt w2.heap.size 0 [fOf B1] (w2.alloc (.cells #[fOf B1] 86)):=nF _ _ _;have xt:=((ag b3).1 _ _ xx).trans xA;have xu:=wq xx b3.size;have P3:=h_ (dG _ _ l _ zl v3 xu xt);rw[haL] at P3;clear b3 v3 xA xx xt xu;clear hH;refine hK.out _ _ ⟨k3.c0,k3.c1,k3.c2⟩ (fun hH=>?_);clear hK K
 refine aC (i:=8) fun K hK=>?_
 go_simp;refine P3.out.mono ?_;rintro e w4 ⟨rfl,xr⟩;have k4:=k3.ret xr;have q4:=q3.trans (xr.mono q3.size);have m4:=m3.ret xr;clear xr;go_simp;clear hH;refine hK.out _ _ ⟨k4.c0,k4.c1,k4.c2⟩ (fun hH=>?_);clear hK K;refine rS [(9,some 14),(10,some 3)] ?_
 iterate 2 refine aS ?_
 refine rE ?_;refine aD ?_;go_wp2_with fail;have b5:=(ws (w4).heap.size (w4)).alloc (wo _) (.cells #[cq] 86);have k5:=k4.ret b5;have q5:=q4.trans (b5.mono q4.size);have m5:=m4.ret b5;have P5:=dv _ r _ zr (nF (w4) cq 86);rw[haR] at P5;have PR:=h_ P5;clear P5 b5;refine PR.out.mono ?_;rintro e w6 ⟨rfl,xw⟩;have k6:=k5.ret xw;have q6:=q5.trans (xw.mono q5.size);have m6:=m5.ret xw;clear xw;go_wp2_with fail;refine wp_region_held_drew (S:=fun w'=>w'.cell? ⟨w.heap.size,0,none⟩=some (.string l)∧w'.cell? ⟨w.heap.size,1,none⟩=some (.string d)∧w'.cell? ⟨w.heap.size,2,none⟩=some (.string r)) (by kernel_rfl) ⟨k6.c0,k6.c1,k6.c2⟩ (fun hH=>?_);have k7:=k6.ret (wh (bQ _));have q7:=q6.drew;have m7:=m6.ret (wh (bQ _));refine rS [(0,some 24),(1,some 25),(2,some 26),(3,some 27),(4,some 28),(5,some 29),(6,some 30)] ?_
 iterate 7 refine aS ?_
 refine rE ?_;refine rS [(7,some 31),(8,some 32),(9,some 33),(10,some 34),(11,some 35),(12,some 36)] ?_
 iterate 6 refine aF ?_
 refine rE ?_;refine rS [(13,some 37)] ?_;refine aS ?_;refine rE ?_;refine aD ?_;go_wp2_with fail;go_ret;exact⟨rfl,q7⟩
theorem lI (l d r:ByteArray) (w:World) (zl:l.size≤10000) (_zd:d.size≤10000) (zr:r.size≤10000) (hm:ML w) (hl:l.data.toList.isEmpty=false) (haL:gX l.data.toList=false) (hr:r.data.toList.isEmpty=true):
  Calls prog 91 #[jV l d r] w (Ret w (.int .i64 (8))):=by
 have xp:=JAt.new w l d r;have xn:=(bR w).alloc (wo _) (.cells #[.string l,.string d,.string r] 117);have xq:=hm.ret xn;obtain⟨W,hW⟩:=e_ (w.alloc (.cells #[.string l,.string d,.string r] 117));rw[hW] at xp xn xq;have k0:=xp;have q0:=xn;have m0:=xq;have HW:=h_ hW;clear hW xp xn xq hm;have el:=ak hl;obtain rfl:=ay hr;go_enter func91,ntmps91;go_wp2_with fail;rw[HW.out];refine wp_region_held_drew (S:=fun w'=>w'.cell? ⟨w.heap.size,0,none⟩=some (.string l)∧w'.cell? ⟨w.heap.size,1,none⟩=some (.string d)∧w'.cell? ⟨w.heap.size,2,none⟩=some (.string ⟨#[]⟩)) (by kernel_rfl) ⟨k0.c0,k0.c1,k0.c2⟩ (fun hH=>?_);have k1:=k0.ret (wh (bQ _));have q1:=q0.drew;have m1:=m0.ret (wh (bQ _));refine rS [(0,some 5),(1,some 6),(2,some 7),(3,some 8),(4,some 9),(5,some 10)] ?_
 iterate 6 refine aS ?_
 refine rE ?_
 refine aC (i:=6) fun K hK=>?_
 go_simp;refine(gJ rM _).mono ?_;rintro e w2 ⟨B1,rfl,xx,xA,xo⟩;have k2:=k1.ret xo;have q2:=q1.trans (xo.mono q1.size);have m2:=m1.ret xo;clear xo;go_simp;clear hH;refine hK.out _ _ ⟨k2.c0,k2.c1,k2.c2⟩ (fun hH=>?_);clear hK K
 refine aC (i:=7) fun K hK=>?_
 go_simp;have b3:=(bR w2).alloc (wo _) (.cells #[fOf B1] 86);have k3:=k2.ret b3;have q3:=q2.trans (b3.mono q2.size);have m3:=m2.ret b3;have v3:VAt w2.heap.size 0 [fOf B1] (w2.alloc (.cells #[fOf B1] 86)):=nF _ _ _;have xt:=((ag b3).1 _ _ xx).trans xA;have xu:=wq xx b3.size;have P3:=h_ (dG _ _ l _ zl v3 xu xt);rw[haL] at P3;clear b3 v3 xA xx xt xu;clear hH;refine hK.out _ _ ⟨k3.c0,k3.c1,k3.c2⟩ (fun hH=>?_);clear hK K
 refine aC (i:=8) fun K hK=>?_
 go_simp;refine P3.out.mono ?_;rintro e w4 ⟨rfl,xr⟩;have k4:=k3.ret xr;have q4:=q3.trans (xr.mono q3.size);have m4:=m3.ret xr;clear xr;go_simp;clear hH;refine hK.out _ _ ⟨k4.c0,k4.c1,k4.c2⟩ (fun hH=>?_);clear hK K;refine rS [(9,some 14),(10,some 3)] ?_
 iterate 2 refine aS ?_
 refine rE ?_;refine aD ?_;go_wp2_with fail;refine wp_region_held_drew (S:=fun w'=>w'.cell? ⟨w.heap.size,0,none⟩=some (.string l)∧w'.cell? ⟨w.heap.size,1,none⟩=some (.string d)∧w'.cell? ⟨w.heap.size,2,none⟩=some (.string ⟨#[]⟩)) (by kernel_rfl) ⟨k4.c0,k4.c1,k4.c2⟩ (fun hH=>?_);have k5:=k4.ret (wh (bQ _));have q5:=q4.drew;have m5:=m4.ret (wh (bQ _));refine rS [(0,some 24),(1,some 25),(2,some 26)] ?_
 iterate 3 refine aS ?_
 refine rE ?_;refine rS [(3,some 27),(4,some 28)] ?_
 iterate 2 refine aF ?_
 refine rE ?_;refine rS [(5,some 29),(6,some 30)] ?_
 iterate 2 refine aS ?_
 refine rE ?_;refine rS [(7,some 31),(8,some 32),(9,some 33),(10,some 34),(11,some 35),(12,some 36)] ?_
 iterate 6 refine aF ?_
 refine rE ?_;refine rS [(13,some 37)] ?_;refine aS ?_;refine rE ?_;refine aD ?_;go_wp2_with fail;go_ret;exact⟨rfl,q5⟩
theorem ly (l d r:ByteArray) (w:World) (zl:l.size≤10000) (_zd:d.size≤10000) (zr:r.size≤10000) (hm:ML w) (hl:l.data.toList.isEmpty=false) (haL:gX l.data.toList=false) (hr:r.data.toList.isEmpty=false) (haR:dM r.data.toList=true):
  Calls prog 91 #[jV l d r] w (Ret w (.int .i64 (8))):=by
 have xp:=JAt.new w l d r;have xn:=(bR w).alloc (wo _) (.cells #[.string l,.string d,.string r] 117);have xq:=hm.ret xn;obtain⟨W,hW⟩:=e_ (w.alloc (.cells #[.string l,.string d,.string r] 117));rw[hW] at xp xn xq;have k0:=xp;have q0:=xn;have m0:=xq;have HW:=h_ hW;clear hW xp xn xq hm;have el:=ak hl;have er:=ak hr;go_enter func91,ntmps91;go_wp2_with fail;rw[HW.out];refine wp_region_held_drew (S:=fun w'=>w'.cell? ⟨w.heap.size,0,none⟩=some (.string l)∧w'.cell? ⟨w.heap.size,1,none⟩=some (.string d)∧w'.cell? ⟨w.heap.size,2,none⟩=some (.string r)) (by kernel_rfl) ⟨k0.c0,k0.c1,k0.c2⟩ (fun hH=>?_);have k1:=k0.ret (wh (bQ _));have q1:=q0.drew;have m1:=m0.ret (wh (bQ _));refine rS [(0,some 5),(1,some 6),(2,some 7),(3,some 8),(4,some 9),(5,some 10)] ?_
 iterate 6 refine aS ?_
 refine rE ?_
 refine aC (i:=6) fun K hK=>?_
 go_simp;refine(gJ rM _).mono ?_;rintro e w2 ⟨B1,rfl,xx,xA,xo⟩;have k2:=k1.ret xo;have q2:=q1.trans (xo.mono q1.size);have m2:=m1.ret xo;clear xo;go_simp;clear hH;refine hK.out _ _ ⟨k2.c0,k2.c1,k2.c2⟩ (fun hH=>?_);clear hK K
 refine aC (i:=7) fun K hK=>?_
 go_simp;have b3:=(bR w2).alloc (wo _) (.cells #[fOf B1] 86);have k3:=k2.ret b3;have q3:=q2.trans (b3.mono q2.size);have m3:=m2.ret b3;have v3:VAt w2.heap.size 0 [fOf B1] (w2.alloc (.cells #[fOf B1] 86)):=nF _ _ _;have xt:=((ag b3).1 _ _ xx).trans xA;have xu:=wq xx b3.size;have P3:=h_ (dG _ _ l _ zl v3 xu xt);rw[haL] at P3;clear b3 v3 xA xx xt xu;clear hH;refine hK.out _ _ ⟨k3.c0,k3.c1,k3.c2⟩ (fun hH=>?_);clear hK K
 refine aC (i:=8) fun K hK=>?_
 go_simp;refine P3.out.mono ?_;rintro e w4 ⟨rfl,xr⟩;have k4:=k3.ret xr;have q4:=q3.trans (xr.mono q3.size);have m4:=m3.ret xr;clear xr;go_simp;clear hH;refine hK.out _ _ ⟨k4.c0,k4.c1,k4.c2⟩ (fun hH=>?_);clear hK K;refine rS [(9,some 14),(10,some 3)] ?_
 iterate 2 refine aS ?_
 refine rE ?_;refine aD ?_;go_wp2_with fail;have b5:=(ws (w4).heap.size (w4)).alloc (wo _) (.cells #[cq] 86);have k5:=k4.ret b5;have q5:=q4.trans (b5.mono q4.size);have m5:=m4.ret b5;have P5:=dv _ r _ zr (nF (w4) cq 86);rw[haR] at P5;have PR:=h_ P5;clear P5 b5;refine PR.out.mono ?_;rintro e w6 ⟨rfl,xw⟩;have k6:=k5.ret xw;have q6:=q5.trans (xw.mono q5.size);have m6:=m5.ret xw;clear xw;go_wp2_with fail;refine wp_region_held_drew (S:=fun w'=>w'.cell? ⟨w.heap.size,0,none⟩=some (.string l)∧w'.cell? ⟨w.heap.size,1,none⟩=some (.string d)∧w'.cell? ⟨w.heap.size,2,none⟩=some (.string r)) (by kernel_rfl) ⟨k6.c0,k6.c1,k6.c2⟩ (fun hH=>?_);have k7:=k6.ret (wh (bQ _));have q7:=q6.drew;have m7:=m6.ret (wh (bQ _));refine rS [(0,some 24),(1,some 25),(2,some 26)] ?_
 iterate 3 refine aS ?_
 refine rE ?_;refine rS [(3,some 27),(4,some 28)] ?_
 iterate 2 refine aF ?_
 refine rE ?_;refine rS [(5,some 29),(6,some 30)] ?_
 iterate 2 refine aS ?_
 refine rE ?_;refine rS [(7,some 31),(8,some 32),(9,some 33),(10,some 34),(11,some 35),(12,some 36)] ?_
 iterate 6 refine aF ?_
 refine rE ?_;refine rS [(13,some 37)] ?_;refine aS ?_;refine rE ?_;refine aD ?_;go_wp2_with fail;go_ret;exact⟨rfl,q7⟩
theorem lC (l d r:ByteArray) (w:World) (zl:l.size≤10000) (_zd:d.size≤10000) (zr:r.size≤10000) (hm:ML w) (hl:l.data.toList.isEmpty=false) (haL:gX l.data.toList=false) (hr:r.data.toList.isEmpty=false) (haR:dM r.data.toList=false):
  Calls prog 91 #[jV l d r] w (Ret w (.int .i64 (8))):=by
 have xp:=JAt.new w l d r;have xn:=(bR w).alloc (wo _) (.cells #[.string l,.string d,.string r] 117);have xq:=hm.ret xn;obtain⟨W,hW⟩:=e_ (w.alloc (.cells #[.string l,.string d,.string r] 117));rw[hW] at xp xn xq;have k0:=xp;have q0:=xn;have m0:=xq;have HW:=h_ hW;clear hW xp xn xq hm;have el:=ak hl;have er:=ak hr;go_enter func91,ntmps91;go_wp2_with fail;rw[HW.out];refine wp_region_held_drew (S:=fun w'=>w'.cell? ⟨w.heap.size,0,none⟩=some (.string l)∧w'.cell? ⟨w.heap.size,1,none⟩=some (.string d)∧w'.cell? ⟨w.heap.size,2,none⟩=some (.string r)) (by kernel_rfl) ⟨k0.c0,k0.c1,k0.c2⟩ (fun hH=>?_);have k1:=k0.ret (wh (bQ _));have q1:=q0.drew;have m1:=m0.ret (wh (bQ _));refine rS [(0,some 5),(1,some 6),(2,some 7),(3,some 8),(4,some 9),(5,some 10)] ?_
 iterate 6 refine aS ?_
 refine rE ?_
 refine aC (i:=6) fun K hK=>?_
 go_simp;refine(gJ rM _).mono ?_;rintro e w2 ⟨B1,rfl,xx,xA,xo⟩;have k2:=k1.ret xo;have q2:=q1.trans (xo.mono q1.size);have m2:=m1.ret xo;clear xo;go_simp;clear hH;refine hK.out _ _ ⟨k2.c0,k2.c1,k2.c2⟩ (fun hH=>?_);clear hK K
 refine aC (i:=7) fun K hK=>?_
 go_simp;have b3:=(bR w2).alloc (wo _) (.cells #[fOf B1] 86);have k3:=k2.ret b3;have q3:=q2.trans (b3.mono q2.size);have m3:=m2.ret b3;have v3:VAt w2.heap.size 0 [fOf B1] (w2.alloc (.cells #[fOf B1] 86)):=nF _ _ _;have xt:=((ag b3).1 _ _ xx).trans xA;have xu:=wq xx b3.size;have P3:=h_ (dG _ _ l _ zl v3 xu xt);rw[haL] at P3;clear b3 v3 xA xx xt xu;clear hH;refine hK.out _ _ ⟨k3.c0,k3.c1,k3.c2⟩ (fun hH=>?_);clear hK K
 refine aC (i:=8) fun K hK=>?_
 go_simp;refine P3.out.mono ?_;rintro e w4 ⟨rfl,xr⟩;have k4:=k3.ret xr;have q4:=q3.trans (xr.mono q3.size);have m4:=m3.ret xr;clear xr;go_simp;clear hH;refine hK.out _ _ ⟨k4.c0,k4.c1,k4.c2⟩ (fun hH=>?_);clear hK K;refine rS [(9,some 14),(10,some 3)] ?_
 iterate 2 refine aS ?_
 refine rE ?_;refine aD ?_;go_wp2_with fail;have b5:=(ws (w4).heap.size (w4)).alloc (wo _) (.cells #[cq] 86);have k5:=k4.ret b5;have q5:=q4.trans (b5.mono q4.size);have m5:=m4.ret b5;have P5:=dv _ r _ zr (nF (w4) cq 86);rw[haR] at P5;have PR:=h_ P5;clear P5 b5;refine PR.out.mono ?_;rintro e w6 ⟨rfl,xw⟩;have k6:=k5.ret xw;have q6:=q5.trans (xw.mono q5.size);have m6:=m5.ret xw;clear xw;go_wp2_with fail;refine wp_region_held_drew (S:=fun w'=>w'.cell? ⟨w.heap.size,0,none⟩=some (.string l)∧w'.cell? ⟨w.heap.size,1,none⟩=some (.string d)∧w'.cell? ⟨w.heap.size,2,none⟩=some (.string r)) (by kernel_rfl) ⟨k6.c0,k6.c1,k6.c2⟩ (fun hH=>?_);have k7:=k6.ret (wh (bQ _));have q7:=q6.drew;have m7:=m6.ret (wh (bQ _));refine rS [(0,some 24),(1,some 25),(2,some 26)] ?_
 iterate 3 refine aS ?_
 refine rE ?_;refine rS [(3,some 27),(4,some 28)] ?_
 iterate 2 refine aF ?_
 refine rE ?_;refine rS [(5,some 29),(6,some 30)] ?_
 iterate 2 refine aS ?_
 refine rE ?_;refine rS [(7,some 31),(8,some 32),(9,some 33),(10,some 34),(11,some 35),(12,some 36)] ?_
 iterate 6 refine aF ?_
 refine rE ?_;refine rS [(13,some 37)] ?_;refine aS ?_;refine rE ?_;refine aD ?_;go_wp2_with fail;go_ret;exact⟨rfl,q7⟩
theorem ei (l d r:ByteArray) (w:World) (zl:l.size≤10000) (zd:d.size≤10000) (zr:r.size≤10000) (hm:ML w):
  Calls prog 91 #[jV l d r] w (Ret w (.int .i64 (if bB l.data.toList d.data.toList r.data.toList=true then 0 else 8))):=by
 cases hl:l.data.toList.isEmpty with
 | false=>
  cases haL:gX l.data.toList with
  | false=>
   cases hr:r.data.toList.isEmpty with
   | true=>
    rw[iG _ _ _ false true (eZ d.data.toList) (by rw[hl,haL];rfl) (by rw[hr];rfl) rfl];exact lI l d r w zl zd zr hm hl haL hr
   | false=>
    cases haR:dM r.data.toList with
    | false=>
     rw[iG _ _ _ false false (eZ d.data.toList) (by rw[hl,haL];rfl) (by rw[hr,haR];rfl) rfl];exact lC l d r w zl zd zr hm hl haL hr haR
    | true=>
     rw[iG _ _ _ false true (eZ d.data.toList) (by rw[hl,haL];rfl) (by rw[hr,haR];rfl) rfl];exact ly l d r w zl zd zr hm hl haL hr haR
  | true=>
   cases hr:r.data.toList.isEmpty with
   | true=>
    rw[iG _ _ _ true true (eZ d.data.toList) (by rw[hl,haL];rfl) (by rw[hr];rfl) rfl];exact lE l d r w zl zd zr hm hl haL hr _ rfl
   | false=>
    cases haR:dM r.data.toList with
    | false=>
     rw[iG _ _ _ true false (eZ d.data.toList) (by rw[hl,haL];rfl) (by rw[hr,haR];rfl) rfl];exact lD l d r w zl zd zr hm hl haL hr haR
    | true=>
     rw[iG _ _ _ true true (eZ d.data.toList) (by rw[hl,haL];rfl) (by rw[hr,haR];rfl) rfl];exact lJ l d r w zl zd zr hm hl haL hr haR _ rfl
 | true=>
  cases hr:r.data.toList.isEmpty with
  | true=>
   rw[iG _ _ _ true true (eZ d.data.toList) (by rw[hl];rfl) (by rw[hr];rfl) rfl];exact li l d r w zl zd zr hm hl hr _ rfl
  | false=>
   cases haR:dM r.data.toList with
   | false=>
    rw[iG _ _ _ true false (eZ d.data.toList) (by rw[hl];rfl) (by rw[hr,haR];rfl) rfl];exact lA l d r w zl zd zr hm hl hr haR
   | true=>
    rw[iG _ _ _ true true (eZ d.data.toList) (by rw[hl];rfl) (by rw[hr,haR];rfl) rfl];exact lz l d r w zl zd zr hm hl hr haR _ rfl
end Go.Proofs.YtjgeiieiinmdnaaGreatDoor
