/- JdG, JdH: put together by mergetpl.py. -/
import Derived.Test.YtjgeiieiinmdnaaGreatDoorKc
import Derived.Test.YtjgeiieiinmdnaaGreatDoorJdA
import Derived.Test.YtjgeiieiinmdnaaGreatDoorGh
open Go.Proofs.Tryz
open Go.Lib renaming toList_data→ww
open Go.RowKit.Below renaming drew→wq,refl→wu
open List renaming all_cons→wy
open Nat renaming le_refl→ws,lt_of_lt_of_le→wt,lt_or_ge→wv
namespace Go.Proofs.YtjgeiieiinmdnaaGreatDoor
set_option maxHeartbeats 8000000
set_option maxRecDepth 100000
open Go.RowKit Go.Lib

def pp (f:Value) (s:ByteArray) (b:Bool) (w:World):Prop:=∃g lb,f=.func (.func g) #[] lb∧(∀args w,(callFunc g args).run prog w=.ok (.enter g args) w)∧∀W,Bl w W→Calls prog g (#[.string s]++lb) W (Ret W (.bool b))
theorem pp.ret {f:Value} {s:ByteArray} {b:Bool} {w w':World} (h:pp f s b w) (hb:Bl w w'):pp f s b w':=by
 obtain⟨g,lb,h1,h2,h3⟩:=h;exact⟨g,lb,h1,h2,fun W hW=>h3 W (hb.trans (hW.mono hb.size))⟩
theorem vN (set:ByteArray) (w:World):Calls prog 148 #[.string set] w fun e w'=>e=.returned (.func (.func 188) #[] #[.pointer (some ⟨w.heap.size,0,none⟩)])∧w'=w.alloc (.cells #[.string set] 9):=by
 go_enter func148,ntmps148;go_wp2_with fail;go_ret;exact⟨rfl,rfl⟩
theorem vG:∀args w,(callFunc 188 args).run prog w=.ok (.enter 188 args) w:=enters_of func188 (by kernel_rfl) rfl
theorem tz:∀args w,(callFunc 149 args).run prog w=.ok (.enter 149 args) w:=enters_of func149 (by kernel_rfl) rfl
theorem uF:∀args w,(callFunc 150 args).run prog w=.ok (.enter 150 args) w:=enters_of func150 (by kernel_rfl) rfl
theorem uY:∀args w,(callFunc 151 args).run prog w=.ok (.enter 151 args) w:=enters_of func151 (by kernel_rfl) rfl
theorem sD:∀args w,(callFunc 186 args).run prog w=.ok (.enter 186 args) w:=enters_of func186 (by kernel_rfl) rfl
theorem uB (B:Nat) (set s:ByteArray) (w:World) (hl:B<w.heap.size) (hc:w.cell? ⟨B,0,none⟩=some (.string set)) (hs:s.size≤10000) (hz:set.size≤1000) (ha:set.data.toList.all (fun b=>decide (b.toNat<128))=true):
  pp (.func (.func 188) #[] #[.pointer (some ⟨B,0,none⟩)]) s (s.data.toList.all (set.data.toList.contains ·)) w:=
 ⟨_,_,rfl,vG,fun W hW=>uK B set s W (((af hW).1 _ _ hl).trans hc) (wt hl hW.size) hs hz ha⟩
theorem pG (s:ByteArray) (w:World) (hs:s.size≤10000):pp (.func (.func 149) #[] #[]) s (txP s.data.toList&&s.data.toList.all fun c=>decide (32≤c.toNat)) w:=
 ⟨_,_,rfl,tz,fun W _=>pH s W hs⟩
theorem tg (s:ByteArray) (w:World) (hs:s.size≤10000) (h0:0<s.size):pp (.func (.func 150) #[] #[]) s (jdA (s.data.toList.headD 0)&&jdA (s.data.toList.getLastD 0)) w:=
 ⟨_,_,rfl,uF,fun W _=>(sj s W hs h0).mono fun _ _ ⟨h1,h2⟩=>⟨h1,by rw[h2];exact bQ _⟩⟩
theorem tf (s:ByteArray) (w:World) (hs:s.size≤10000) (hm:ML w):pp (.func (.func 151) #[] #[]) s (!bo s.data.toList) w:=
 ⟨_,_,rfl,uY,fun W hW=>(tC s W hs (hm.ret hW)).mono fun _ _ ⟨h1,h2⟩=>⟨h1,by rw[h2];exact bQ _⟩⟩
theorem px (f:Value) (L:Nat) (s:ByteArray) (b:Bool) (w:World) (hf:pp f s b w) (hL:w.cell? ⟨L,0,none⟩=some (.string s)):Calls prog 186 #[f,.pointer (some ⟨L,0,none⟩)] w (Ret w (.bool (!b))):=by
 obtain⟨g,lb,rfl,eg,hc⟩:=hf;have C:=h_ (hc w (bQ _));clear hc;go_enter func186,ntmps186;go_wp2_with (go_at_fn g;refine C.out.mono ?_;rintro e w1 ⟨rfl,hb⟩);go_wp2_with fail;go_ret;exact⟨rfl,hb⟩
theorem ri (M L:Nat) (s:ByteArray) (fs:List Value) (bs:List Bool) (w:World) (hl:fs.length=bs.length) (hn:fs.length≤100) (hM:VAt M 0 fs w) (hL:w.cell? ⟨L,0,none⟩=some (.string s)) (hL2:L<w.heap.size)
  (hf:∀i (h:i<fs.length) (h':i<bs.length),pp fs[i] s bs[i] w):
  Calls prog 217 #[.slice (some ⟨M,0,none⟩) fs.length fs.length,.func (.func 186) #[] #[.pointer (some ⟨L,0,none⟩)]] w
   fun e w'=>(∃r:Int,e=.returned (.int .i64 r)∧decide (0≤r)=!bs.all id)∧Bl w w':=by
 have hM2:=hM.1;have HM:=h_ hM;have HF:=h_ hf;have eg:=sD;obtain⟨n,hnn⟩:=e_ fs.length;rw[hnn] at hl hn ⊢;have HN:=h_ hnn;have HL:=h_ hl;clear hf hM hnn hl;go_enter func217,ntmps217;go_wp2_with fail;go_loopw [8] (fun i wr=>∃k:Nat,k≤n∧i=.int .i64 k∧Bl w wr∧bs.all id=(bs.drop k).all id) (fun i _=>n-(intOf i).toNat)
 case atStart=>exact⟨0,Nat.zero_le _,rfl,bQ _,rfl⟩
 case round=>
  obtain⟨k,hk,rfl,hbw,hall⟩:=hrel
  by_cases hlt:k<n
  ·have h1 : k < fs.length := by rw [HN.out]; exact hlt
   have h2:k<bs.length:=(by rw[←HL.out];exact hlt);have hc1:=((HM.out).ret hbw).2 k h1;rw[Nat.zero_add] at hc1;have hF:=(HF.out k h1 h2).ret hbw;obtain⟨f,hfe⟩:=e_ (fs[k]);obtain⟨b,hbe⟩:=e_ (bs[k]);rw[hfe] at hc1 hF;rw[hbe] at hF;have hd:bs.drop k=b :: bs.drop (k+1):=(by rw[List.drop_eq_getElem_cons h2,hbe]);rw[hd,wy] at hall;have C:=h_ (px f L s b wr hF (((af hbw).1 _ _ hL2).trans hL));have HA:=h_ hall;clear hF hfe hbe hd hall
   cases b with
   | true=>
    go_wp2_with (go_at_fn 186;refine C.out.mono ?_;rintro e w1 ⟨rfl,hb⟩);have hb2:=hbw.trans (hb.mono hbw.size);clear hb;go_wp2_with fail;go_roundw
    case rel=>exact⟨k+1,by omega,by go_num,hb2,by rw[HA.out];rfl⟩
    case measure=>simp[intOf];omega
   | false=>
    go_wp2_with (go_at_fn 186;refine C.out.mono ?_;rintro e w1 ⟨rfl,hb⟩);have hb2:=hbw.trans (hb.mono hbw.size);clear hb;go_wp2_with fail;go_ret;exact⟨⟨k,rfl,by rw[HA.out];simp⟩,hb2⟩
  ·obtain rfl : k = n := by omega
   rw[List.drop_eq_nil_of_le (by rw[←HL.out];exact ws _)] at hall;have HA:=h_ hall;clear hall;go_wp2_with fail;go_ret;exact⟨⟨-1,rfl,by rw[HA.out];rfl⟩,hbw⟩
theorem qO (M L:Nat) (s:ByteArray) (fs:List Value) (bs:List Bool) (w:World) (hl:fs.length=bs.length) (hn:fs.length≤100) (hM:VAt M 0 fs w) (hL:w.cell? ⟨L,0,none⟩=some (.string s)) (hL2:L<w.heap.size)
  (hf:∀i (h:i<fs.length) (h':i<bs.length),pp fs[i] s bs[i] w):
  Calls prog 187 #[.slice (some ⟨M,0,none⟩) fs.length fs.length,.func (.func 186) #[] #[.pointer (some ⟨L,0,none⟩)]] w (Ret w (.bool (!bs.all id))):=by
 have I:=h_ (ri M L s fs bs w hl hn hM hL hL2 hf);obtain⟨n,hnn⟩:=e_ fs.length;obtain⟨t,ht⟩:=e_ ((!bs.all id));rw[hnn,ht] at I;rw[hnn,ht];clear hf hM ht;go_enter func187,ntmps187;go_wp2_with fail;refine I.out.mono ?_;rintro e w1 ⟨⟨r,rfl,hr⟩,hb⟩
 cases t with
 | true=>
  have g1:0≤r:=of_decide_eq_true hr;go_wp2_with fail;go_ret;exact⟨rfl,hb⟩
 | false=>
  have g1:¬ 0≤r:=of_decide_eq_false hr;go_wp2_with fail;go_ret;exact⟨rfl,hb⟩
theorem kw (M:Nat) (s:ByteArray) (fs:List Value) (bs:List Bool) (w:World) (hs:s.size≤10000) (hl:fs.length=bs.length) (hn:fs.length≤100) (hM:VAt M 0 fs w)
  (hf:0<s.size→s.size≤64→∀i (h:i<fs.length) (h':i<bs.length),pp fs[i] s bs[i] w):
  Calls prog 147 #[.string s,.slice (some ⟨M,0,none⟩) fs.length fs.length] w (Ret w (.bool (!s.data.toList.isEmpty&&decide (s.data.toList.length≤64)&&bs.all id))):=by
 have hq0:=(bR w).alloc (ws _) (.cells #[.string s] 9);rw[ab]
 by_cases h0:0<s.size
 ·have he:s.toList.isEmpty=false:=am h0
  have he2:s.data.toList.isEmpty=false:=by rw[←ww];exact he
  have he3:(s.toList==[])=false:=by
   have:=au h0
   simpa using this
  rw[he2]
  by_cases h1:s.size≤64
  ·have hc : (w.alloc (.cells #[.string s] 9)).cell? ⟨w.heap.size, 0, none⟩ = some (.string s) := by simp
   have C:=qO M w.heap.size s fs bs _ hl hn (hM.ret hq0) hc (by simp) (fun i h h'=>(hf h0 h1 i h h').ret hq0);rw[decide_eq_true h1];obtain⟨n,hnn⟩:=e_ fs.length;obtain⟨t,ht⟩:=e_ (bs.all id);rw[hnn,ht] at C;rw[hnn,ht];have H:=h_ C;have g1:(s.size:Int)≤64:=(by omega);clear C hf hM ht hc he2;go_enter func147,ntmps147;go_wp2_with fail;refine H.out.mono ?_;rintro e w1 ⟨rfl,hb⟩;have hb2:=hq0.trans (hb.mono hq0.size);clear hb;go_wp2_with fail;go_ret;exact⟨by simp,hb2⟩
  ·rw[decide_eq_false h1]
   have g1:¬ (s.size:Int)≤64:=(by omega);obtain⟨n,hnn⟩:=e_ fs.length;rw[hnn];clear hf hM he2;go_enter func147,ntmps147;go_wp2_with fail;go_ret;exact⟨rfl,hq0⟩
 ·have hz:s.data.toList=[]:=List.eq_nil_of_length_eq_zero (by rw[ab];omega)
  have hz2:s.toList=[]:=by rw[ww];exact hz
  have he3:(s.toList==[])=true:=by rw[hz2];rfl
  rw[hz];obtain⟨n,hnn⟩:=e_ fs.length;rw[hnn];clear hf hM hz;go_enter func147,ntmps147;go_wp2_with fail;go_ret;exact⟨rfl,hq0⟩

abbrev fOf (B:Nat):Value:=.func (.func 188) #[] #[.pointer (some ⟨B,0,none⟩)]
abbrev cu:Value:=.func (.func 149) #[] #[]
abbrev dF:Value:=.func (.func 150) #[] #[]
abbrev dU:Value:=.func (.func 151) #[] #[]
def wi (set:ByteArray) (w:World) (e:Ending) (w':World):Prop:=∃B,e=.returned (fOf B)∧B<w'.heap.size∧w'.cell? ⟨B,0,none⟩=some (.string set)∧Bl w w'
theorem fU (set:ByteArray) (w:World):Calls prog 148 #[.string set] w (wi set w):=
 (vN set w).mono fun e w' ⟨h1,h2⟩=>⟨w.heap.size,h1,by rw[h2];simp,by rw[h2];simp,by rw[h2];exact(bQ _).alloc (ws _) _⟩
theorem mU (w:World) (a:Value) (t:TypeId):VAt w.heap.size 0 [a] (w.alloc (.cells #[a] t)):=by
 refine⟨by simp,fun j hj=>?_⟩
 obtain rfl:j=0:=by simp at hj;omega
 simp
theorem vl (w:World) (a b c:Value) (t:TypeId):VAt w.heap.size 0 [a,b,c] (w.alloc (.cells #[a,b,c] t)):=by
 refine⟨by simp,fun j hj=>?_⟩;have hj:j<3:=hj
 rcases wv j 1 with h | h
 ·obtain rfl : j = 0 := by omega
  simp
 ·rcases wv j 2 with h' | h'
  ·obtain rfl : j = 1 := by omega
   simp
  ·obtain rfl : j = 2 := by omega
   simp
theorem tQ (l:List UInt8):l.all (rD.data.toList.contains ·)=l.all jdL:=by
 congr 1
 funext c
 exact vF c
theorem tk (l:List UInt8):l.all (tW.data.toList.contains ·)=l.all jdD:=by
 congr 1
 funext c
 exact vq c
theorem dl (M B:Nat) (s:ByteArray) (w:World) (hs:s.size≤10000) (hv:VAt M 0 [fOf B] w) (hB:B<w.heap.size) (hc:w.cell? ⟨B,0,none⟩=some (.string rD)):
  Calls prog 147 #[.string s,.slice (some ⟨M,0,none⟩) 1 1] w (Ret w (.bool (iX s.data.toList))):=by
 have h:=kw M s [fOf B] [s.data.toList.all (rD.data.toList.contains ·)] w hs rfl (by simp) hv (fun _ _ i h h'=>by
  obtain rfl:i=0:=by simp at h;omega
  exact uB B rD s w hB hc hs (by decide) (by decide+kernel))
 rw[tQ] at h
 have e:(!s.data.toList.isEmpty&&decide (s.data.toList.length≤64) && [s.data.toList.all jdL].all id)=iX s.data.toList:=by
  unfold iX
  simp
 rw[e] at h;exact h
theorem di (M:Nat) (s:ByteArray) (w:World) (hs:s.size≤10000) (hv:VAt M 0 [cu] w):
  Calls prog 147 #[.string s,.slice (some ⟨M,0,none⟩) 1 1] w (Ret w (.bool (fK s.data.toList))):=by
 have h:=kw M s [cu] [txP s.data.toList&&s.data.toList.all fun c=>decide (32≤c.toNat)] w hs rfl (by simp) hv (fun _ _ i h h'=>by
  obtain rfl:i=0:=by simp at h;omega
  exact pG s w hs)
 have e:(!s.data.toList.isEmpty&&decide (s.data.toList.length≤64) && [txP s.data.toList&&s.data.toList.all fun c=>decide (32≤c.toNat)].all id)=fK s.data.toList:=by
  unfold fK
  simp
 rw[e] at h;exact h
theorem eJ (M B:Nat) (s:ByteArray) (w:World) (hs:s.size≤10000) (hv:VAt M 0 [fOf B,dF,dU] w) (hB:B<w.heap.size) (hc:w.cell? ⟨B,0,none⟩=some (.string tW)) (hm:ML w):
  Calls prog 147 #[.string s,.slice (some ⟨M,0,none⟩) 3 3] w (Ret w (.bool (eQ s.data.toList))):=by
 have h:=kw M s [fOf B,dF,dU] [s.data.toList.all (tW.data.toList.contains ·),jdA (s.data.toList.headD 0)&&jdA (s.data.toList.getLastD 0),!bo s.data.toList] w hs rfl (by simp) hv (fun h0 _ i h h'=>by
  have h:i<3:=h
  rcases wv i 1 with g | g
  ·obtain rfl : i = 0 := by omega
   exact uB B tW s w hB hc hs (by decide) (by decide+kernel)
  ·rcases wv i 2 with g' | g'
   ·obtain rfl : i = 1 := by omega
    exact tg s w hs h0
   ·obtain rfl : i = 2 := by omega
    exact tf s w hs hm)
 rw[tk] at h
 have e:(!s.data.toList.isEmpty&&decide (s.data.toList.length≤64) && [s.data.toList.all jdD,jdA (s.data.toList.headD 0)&&jdA (s.data.toList.getLastD 0),!bo s.data.toList].all id)=eQ s.data.toList:=by
  unfold eQ;simp only[wy,List.all_nil,id,Bool.and_true,Bool.and_assoc]
 rw[e] at h;exact h
theorem iT (l d r:List UInt8) (A B C:Bool) (hA:(l.isEmpty||iX l)=A) (hB:(r.isEmpty||fK r)=B) (hC:eQ d=C):(if cQ l d r=true then (0:Int) else 8)=if (A&&B&&C)=true then 0 else 8:=by
 unfold cQ;rw[hA,hB,hC]
theorem ax {s:ByteArray} (h:s.data.toList.isEmpty=true):s=⟨#[]⟩:=by
 apply aR
 rw[List.isEmpty_iff.1 h]
theorem ak {s:ByteArray} (h:s.data.toList.isEmpty=false):(s.toList==[])=false:=by
 rw[ww]
 cases hs:s.data.toList with
 | nil=>rw[hs] at h;cases h
 | cons a l=>rfl
theorem kL (l d r:ByteArray) (w:World) (zl:l.size≤10000) (zd:d.size≤10000) (zr:r.size≤10000) (hm:ML w) (hl:l.data.toList.isEmpty=true) (hr:r.data.toList.isEmpty=true) (c:Bool) (haD:eQ d.data.toList=c):
  Calls prog 91 #[jV l d r] w (Ret w (.int .i64 (if c=true then (0:Int) else 8))):=by
 have k00:=JAt.new w l d r;obtain⟨O,hO⟩:∃O:Int,(if c=true then (0:Int) else 8)=O:=⟨_,rfl⟩;rw[hO];have HO:=h_ hO;clear hO;have q00:=(bR w).alloc (ws _) (.cells #[.string l,.string d,.string r] 117);have m00:=hm.ret q00;obtain⟨W,hW⟩:=e_ (w.alloc (.cells #[.string l,.string d,.string r] 117));rw[hW] at k00 q00 m00;have k0:=k00;have q0:=q00;have m0:=m00;have HW:=h_ hW;clear hW k00 q00 m00 hm;obtain rfl:=ax hl;obtain rfl:=ax hr;go_enter func91,ntmps91;go_wp2_with fail;rw[HW.out];refine wp_region_held_drew (S:=fun w'=>w'.cell? ⟨w.heap.size,0,none⟩=some (.string ⟨#[]⟩)∧w'.cell? ⟨w.heap.size,1,none⟩=some (.string d)∧w'.cell? ⟨w.heap.size,2,none⟩=some (.string ⟨#[]⟩)) (by kernel_rfl) ⟨k0.c0,k0.c1,k0.c2⟩ (fun hH=>?_);have k1:=k0.ret (wq (bQ _));have q1:=q0.drew;have m1:=m0.ret (wq (bQ _));refine rS [(0,some 5),(1,some 6),(2,some 7),(3,some 8)] ?_
 iterate 4 refine aS ?_
 refine rE ?_;refine rS [(4,some 9),(5,some 10),(6,some 11),(7,some 12),(8,some 13)] ?_
 iterate 5 refine aF ?_
 refine rE ?_;refine rS [(9,some 14),(10,some 3)] ?_
 iterate 2 refine aS ?_
 refine rE ?_;refine aD ?_;go_wp2_with fail;refine wp_region_held_drew (S:=fun w'=>w'.cell? ⟨w.heap.size,0,none⟩=some (.string ⟨#[]⟩)∧w'.cell? ⟨w.heap.size,1,none⟩=some (.string d)∧w'.cell? ⟨w.heap.size,2,none⟩=some (.string ⟨#[]⟩)) (by kernel_rfl) ⟨k1.c0,k1.c1,k1.c2⟩ (fun hH=>?_);have k2:=k1.ret (wq (bQ _));have q2:=q1.drew;have m2:=m1.ret (wq (bQ _));refine rS [(0,some 24),(1,some 25),(2,some 26),(3,some 27),(4,some 28),(5,some 29),(6,some 30),(7,some 31),(8,some 32)] ?_
 iterate 9 refine aS ?_
 refine rE ?_
 refine aC (i:=9) fun K hK=>?_
 go_simp;refine(fU tW _).mono ?_;rintro e w3 ⟨B3,rfl,zb3,cb3,hb3⟩;have k3:=k2.ret hb3;have q3:=q2.trans (hb3.mono q2.size);have m3:=m2.ret hb3;clear hb3;go_simp;clear hH;refine hK.out _ _ ⟨k3.c0,k3.c1,k3.c2⟩ (fun hH=>?_);clear hK K
 refine aC (i:=10) fun K hK=>?_
 go_simp;have b4:=(bR w3).alloc (ws _) (.cells #[fOf B3,dF,dU] 86);have k4:=k3.ret b4;have q4:=q3.trans (b4.mono q3.size);have m4:=m3.ret b4;have v4:VAt w3.heap.size 0 [fOf B3,dF,dU] (w3.alloc (.cells #[fOf B3,dF,dU] 86)):=vl _ _ _ _ _;have cb3':=((af b4).1 _ _ zb3).trans cb3;have zb3':=wt zb3 b4.size;have P4:=h_ (eJ _ _ d _ zd v4 zb3' cb3' m4);rw[haD] at P4;clear b4 v4 cb3 zb3 cb3' zb3';clear hH;refine hK.out _ _ ⟨k4.c0,k4.c1,k4.c2⟩ (fun hH=>?_);clear hK K
 refine aC (i:=11) fun K hK=>?_
 go_simp;refine P4.out.mono ?_;rintro e w5 ⟨rfl,hb5⟩;have k5:=k4.ret hb5;have q5:=q4.trans (hb5.mono q4.size);have m5:=m4.ret hb5;clear hb5;go_simp;clear hH;refine hK.out _ _ ⟨k5.c0,k5.c1,k5.c2⟩ (fun hH=>?_);clear hK K;refine rS [(12,some 36),(13,some 37)] ?_
 iterate 2 refine aS ?_
 refine rE ?_;refine aD ?_
 cases c with
 | true=>
  go_wp2_with fail;go_ret;exact⟨by rw[←HO.out];rfl,q5⟩
 | false=>
  go_wp2_with fail;go_ret;exact⟨by rw[←HO.out];rfl,q5⟩
theorem kv (l d r:ByteArray) (w:World) (zl:l.size≤10000) (zd:d.size≤10000) (zr:r.size≤10000) (hm:ML w) (hl:l.data.toList.isEmpty=true) (hr:r.data.toList.isEmpty=false) (haR:fK r.data.toList=true) (c:Bool) (haD:eQ d.data.toList=c):
  Calls prog 91 #[jV l d r] w (Ret w (.int .i64 (if c=true then (0:Int) else 8))):=by
 have k00:=JAt.new w l d r;obtain⟨O,hO⟩:∃O:Int,(if c=true then (0:Int) else 8)=O:=⟨_,rfl⟩;rw[hO];have HO:=h_ hO;clear hO;have q00:=(bR w).alloc (ws _) (.cells #[.string l,.string d,.string r] 117);have m00:=hm.ret q00;obtain⟨W,hW⟩:=e_ (w.alloc (.cells #[.string l,.string d,.string r] 117));rw[hW] at k00 q00 m00;have k0:=k00;have q0:=q00;have m0:=m00;have HW:=h_ hW;clear hW k00 q00 m00 hm;obtain rfl:=ax hl;have er:=ak hr;go_enter func91,ntmps91;go_wp2_with fail;rw[HW.out];refine wp_region_held_drew (S:=fun w'=>w'.cell? ⟨w.heap.size,0,none⟩=some (.string ⟨#[]⟩)∧w'.cell? ⟨w.heap.size,1,none⟩=some (.string d)∧w'.cell? ⟨w.heap.size,2,none⟩=some (.string r)) (by kernel_rfl) ⟨k0.c0,k0.c1,k0.c2⟩ (fun hH=>?_);have k1:=k0.ret (wq (bQ _));have q1:=q0.drew;have m1:=m0.ret (wq (bQ _));refine rS [(0,some 5),(1,some 6),(2,some 7),(3,some 8)] ?_
 iterate 4 refine aS ?_
 refine rE ?_;refine rS [(4,some 9),(5,some 10),(6,some 11),(7,some 12),(8,some 13)] ?_
 iterate 5 refine aF ?_
 refine rE ?_;refine rS [(9,some 14),(10,some 3)] ?_
 iterate 2 refine aS ?_
 refine rE ?_;refine aD ?_;go_wp2_with fail;have b2:=(wu (W.drew).heap.size (W.drew)).alloc (ws _) (.cells #[cu] 86);have k2:=k1.ret b2;have q2:=q1.trans (b2.mono q1.size);have m2:=m1.ret b2;have P2:=di _ r _ zr (mU (W.drew) cu 86);rw[haR] at P2;have PR:=h_ P2;clear P2 b2;refine PR.out.mono ?_;rintro e w3 ⟨rfl,hb3⟩;have k3:=k2.ret hb3;have q3:=q2.trans (hb3.mono q2.size);have m3:=m2.ret hb3;clear hb3;go_wp2_with fail;refine wp_region_held_drew (S:=fun w'=>w'.cell? ⟨w.heap.size,0,none⟩=some (.string ⟨#[]⟩)∧w'.cell? ⟨w.heap.size,1,none⟩=some (.string d)∧w'.cell? ⟨w.heap.size,2,none⟩=some (.string r)) (by kernel_rfl) ⟨k3.c0,k3.c1,k3.c2⟩ (fun hH=>?_);have k4:=k3.ret (wq (bQ _));have q4:=q3.drew;have m4:=m3.ret (wq (bQ _));refine rS [(0,some 24),(1,some 25),(2,some 26),(3,some 27),(4,some 28),(5,some 29),(6,some 30),(7,some 31),(8,some 32)] ?_
 iterate 9 refine aS ?_
 refine rE ?_
 refine aC (i:=9) fun K hK=>?_
 go_simp;refine(fU tW _).mono ?_;rintro e w5 ⟨B3,rfl,zb3,cb3,hb5⟩;have k5:=k4.ret hb5;have q5:=q4.trans (hb5.mono q4.size);have m5:=m4.ret hb5;clear hb5;go_simp;clear hH;refine hK.out _ _ ⟨k5.c0,k5.c1,k5.c2⟩ (fun hH=>?_);clear hK K
 refine aC (i:=10) fun K hK=>?_
 go_simp;have b6:=(bR w5).alloc (ws _) (.cells #[fOf B3,dF,dU] 86);have k6:=k5.ret b6;have q6:=q5.trans (b6.mono q5.size);have m6:=m5.ret b6;have v6:VAt w5.heap.size 0 [fOf B3,dF,dU] (w5.alloc (.cells #[fOf B3,dF,dU] 86)):=vl _ _ _ _ _;have cb3':=((af b6).1 _ _ zb3).trans cb3;have zb3':=wt zb3 b6.size;have P6:=h_ (eJ _ _ d _ zd v6 zb3' cb3' m6);rw[haD] at P6;clear b6 v6 cb3 zb3 cb3' zb3';clear hH;refine hK.out _ _ ⟨k6.c0,k6.c1,k6.c2⟩ (fun hH=>?_);clear hK K
 refine aC (i:=11) fun K hK=>?_
 go_simp;refine P6.out.mono ?_;rintro e w7 ⟨rfl,hb7⟩;have k7:=k6.ret hb7;have q7:=q6.trans (hb7.mono q6.size);have m7:=m6.ret hb7;clear hb7;go_simp;clear hH;refine hK.out _ _ ⟨k7.c0,k7.c1,k7.c2⟩ (fun hH=>?_);clear hK K;refine rS [(12,some 36),(13,some 37)] ?_
 iterate 2 refine aS ?_
 refine rE ?_;refine aD ?_
 cases c with
 | true=>
  go_wp2_with fail;go_ret;exact⟨by rw[←HO.out];rfl,q7⟩
 | false=>
  go_wp2_with fail;go_ret;exact⟨by rw[←HO.out];rfl,q7⟩
theorem kA (l d r:ByteArray) (w:World) (zl:l.size≤10000) (_zd:d.size≤10000) (zr:r.size≤10000) (hm:ML w) (hl:l.data.toList.isEmpty=true) (hr:r.data.toList.isEmpty=false) (haR:fK r.data.toList=false):
  Calls prog 91 #[jV l d r] w (Ret w (.int .i64 (8))):=by
 have k00:=JAt.new w l d r;have q00:=(bR w).alloc (ws _) (.cells #[.string l,.string d,.string r] 117);have m00:=hm.ret q00;obtain⟨W,hW⟩:=e_ (w.alloc (.cells #[.string l,.string d,.string r] 117));rw[hW] at k00 q00 m00;have k0:=k00;have q0:=q00;have m0:=m00;have HW:=h_ hW;clear hW k00 q00 m00 hm;obtain rfl:=ax hl;have er:=ak hr;go_enter func91,ntmps91;go_wp2_with fail;rw[HW.out];refine wp_region_held_drew (S:=fun w'=>w'.cell? ⟨w.heap.size,0,none⟩=some (.string ⟨#[]⟩)∧w'.cell? ⟨w.heap.size,1,none⟩=some (.string d)∧w'.cell? ⟨w.heap.size,2,none⟩=some (.string r)) (by kernel_rfl) ⟨k0.c0,k0.c1,k0.c2⟩ (fun hH=>?_);have k1:=k0.ret (wq (bQ _));have q1:=q0.drew;have m1:=m0.ret (wq (bQ _));refine rS [(0,some 5),(1,some 6),(2,some 7),(3,some 8)] ?_
 iterate 4 refine aS ?_
 refine rE ?_;refine rS [(4,some 9),(5,some 10),(6,some 11),(7,some 12),(8,some 13)] ?_
 iterate 5 refine aF ?_
 refine rE ?_;refine rS [(9,some 14),(10,some 3)] ?_
 iterate 2 refine aS ?_
 refine rE ?_;refine aD ?_;go_wp2_with fail;have b2:=(wu (W.drew).heap.size (W.drew)).alloc (ws _) (.cells #[cu] 86);have k2:=k1.ret b2;have q2:=q1.trans (b2.mono q1.size);have m2:=m1.ret b2;have P2:=di _ r _ zr (mU (W.drew) cu 86);rw[haR] at P2;have PR:=h_ P2;clear P2 b2;refine PR.out.mono ?_;rintro e w3 ⟨rfl,hb3⟩;have k3:=k2.ret hb3;have q3:=q2.trans (hb3.mono q2.size);have m3:=m2.ret hb3;clear hb3;go_wp2_with fail;refine wp_region_held_drew (S:=fun w'=>w'.cell? ⟨w.heap.size,0,none⟩=some (.string ⟨#[]⟩)∧w'.cell? ⟨w.heap.size,1,none⟩=some (.string d)∧w'.cell? ⟨w.heap.size,2,none⟩=some (.string r)) (by kernel_rfl) ⟨k3.c0,k3.c1,k3.c2⟩ (fun hH=>?_);have k4:=k3.ret (wq (bQ _));have q4:=q3.drew;have m4:=m3.ret (wq (bQ _));refine rS [(0,some 24),(1,some 25),(2,some 26),(3,some 27),(4,some 28),(5,some 29),(6,some 30)] ?_
 iterate 7 refine aS ?_
 refine rE ?_;refine rS [(7,some 31),(8,some 32),(9,some 33),(10,some 34),(11,some 35),(12,some 36)] ?_
 iterate 6 refine aF ?_
 refine rE ?_;refine rS [(13,some 37)] ?_;refine aS ?_;refine rE ?_;refine aD ?_;go_wp2_with fail;go_ret;exact⟨rfl,q4⟩
theorem kT (l d r:ByteArray) (w:World) (zl:l.size≤10000) (zd:d.size≤10000) (zr:r.size≤10000) (hm:ML w) (hl:l.data.toList.isEmpty=false) (haL:iX l.data.toList=true) (hr:r.data.toList.isEmpty=true) (c:Bool) (haD:eQ d.data.toList=c):
  Calls prog 91 #[jV l d r] w (Ret w (.int .i64 (if c=true then (0:Int) else 8))):=by
 have k00:=JAt.new w l d r;obtain⟨O,hO⟩:∃O:Int,(if c=true then (0:Int) else 8)=O:=⟨_,rfl⟩;rw[hO];have HO:=h_ hO;clear hO;have q00:=(bR w).alloc (ws _) (.cells #[.string l,.string d,.string r] 117);have m00:=hm.ret q00;obtain⟨W,hW⟩:=e_ (w.alloc (.cells #[.string l,.string d,.string r] 117));rw[hW] at k00 q00 m00;have k0:=k00;have q0:=q00;have m0:=m00;have HW:=h_ hW;clear hW k00 q00 m00 hm;have el:=ak hl;obtain rfl:=ax hr;go_enter func91,ntmps91;go_wp2_with fail;rw[HW.out];refine wp_region_held_drew (S:=fun w'=>w'.cell? ⟨w.heap.size,0,none⟩=some (.string l)∧w'.cell? ⟨w.heap.size,1,none⟩=some (.string d)∧w'.cell? ⟨w.heap.size,2,none⟩=some (.string ⟨#[]⟩)) (by kernel_rfl) ⟨k0.c0,k0.c1,k0.c2⟩ (fun hH=>?_);have k1:=k0.ret (wq (bQ _));have q1:=q0.drew;have m1:=m0.ret (wq (bQ _));refine rS [(0,some 5),(1,some 6),(2,some 7),(3,some 8),(4,some 9),(5,some 10)] ?_
 iterate 6 refine aS ?_
 refine rE ?_
 refine aC (i:=6) fun K hK=>?_
 go_simp;refine(fU rD _).mono ?_;rintro e w2 ⟨B1,rfl,zb1,cb1,hb2⟩;have k2:=k1.ret hb2;have q2:=q1.trans (hb2.mono q1.size);have m2:=m1.ret hb2;clear hb2;go_simp;clear hH;refine hK.out _ _ ⟨k2.c0,k2.c1,k2.c2⟩ (fun hH=>?_);clear hK K
 refine aC (i:=7) fun K hK=>?_
 go_simp;have b3:=(bR w2).alloc (ws _) (.cells #[fOf B1] 86);have k3:=k2.ret b3;have q3:=q2.trans (b3.mono q2.size);have m3:=m2.ret b3;have v3:VAt w2.heap.size 0 [fOf B1] (w2.alloc (.cells #[fOf B1] 86)):=mU _ _ _;have cb1':=((af b3).1 _ _ zb1).trans cb1;have zb1':=wt zb1 b3.size;have P3:=h_ (dl _ _ l _ zl v3 zb1' cb1');rw[haL] at P3;clear b3 v3 cb1 zb1 cb1' zb1';clear hH;refine hK.out _ _ ⟨k3.c0,k3.c1,k3.c2⟩ (fun hH=>?_);clear hK K
 refine aC (i:=8) fun K hK=>?_
 go_simp;refine P3.out.mono ?_;rintro e w4 ⟨rfl,hb4⟩;have k4:=k3.ret hb4;have q4:=q3.trans (hb4.mono q3.size);have m4:=m3.ret hb4;clear hb4;go_simp;clear hH;refine hK.out _ _ ⟨k4.c0,k4.c1,k4.c2⟩ (fun hH=>?_);clear hK K;refine rS [(9,some 14),(10,some 3)] ?_
 iterate 2 refine aS ?_
 refine rE ?_;refine aD ?_;go_wp2_with fail;refine wp_region_held_drew (S:=fun w'=>w'.cell? ⟨w.heap.size,0,none⟩=some (.string l)∧w'.cell? ⟨w.heap.size,1,none⟩=some (.string d)∧w'.cell? ⟨w.heap.size,2,none⟩=some (.string ⟨#[]⟩)) (by kernel_rfl) ⟨k4.c0,k4.c1,k4.c2⟩ (fun hH=>?_);have k5:=k4.ret (wq (bQ _));have q5:=q4.drew;have m5:=m4.ret (wq (bQ _));refine rS [(0,some 24),(1,some 25),(2,some 26),(3,some 27),(4,some 28),(5,some 29),(6,some 30),(7,some 31),(8,some 32)] ?_
 iterate 9 refine aS ?_
 refine rE ?_
 refine aC (i:=9) fun K hK=>?_
 go_simp;refine(fU tW _).mono ?_;rintro e w6 ⟨B3,rfl,zb3,cb3,hb6⟩;have k6:=k5.ret hb6;have q6:=q5.trans (hb6.mono q5.size);have m6:=m5.ret hb6;clear hb6;go_simp;clear hH;refine hK.out _ _ ⟨k6.c0,k6.c1,k6.c2⟩ (fun hH=>?_);clear hK K
 refine aC (i:=10) fun K hK=>?_
 go_simp;have b7:=(bR w6).alloc (ws _) (.cells #[fOf B3,dF,dU] 86);have k7:=k6.ret b7;have q7:=q6.trans (b7.mono q6.size);have m7:=m6.ret b7;have v7:VAt w6.heap.size 0 [fOf B3,dF,dU] (w6.alloc (.cells #[fOf B3,dF,dU] 86)):=vl _ _ _ _ _;have cb3':=((af b7).1 _ _ zb3).trans cb3;have zb3':=wt zb3 b7.size;have P7:=h_ (eJ _ _ d _ zd v7 zb3' cb3' m7);rw[haD] at P7;clear b7 v7 cb3 zb3 cb3' zb3';clear hH;refine hK.out _ _ ⟨k7.c0,k7.c1,k7.c2⟩ (fun hH=>?_);clear hK K
 refine aC (i:=11) fun K hK=>?_
 go_simp;refine P7.out.mono ?_;rintro e w8 ⟨rfl,hb8⟩;have k8:=k7.ret hb8;have q8:=q7.trans (hb8.mono q7.size);have m8:=m7.ret hb8;clear hb8;go_simp;clear hH;refine hK.out _ _ ⟨k8.c0,k8.c1,k8.c2⟩ (fun hH=>?_);clear hK K;refine rS [(12,some 36),(13,some 37)] ?_
 iterate 2 refine aS ?_
 refine rE ?_;refine aD ?_
 cases c with
 | true=>
  go_wp2_with fail;go_ret;exact⟨by rw[←HO.out];rfl,q8⟩
 | false=>
  go_wp2_with fail;go_ret;exact⟨by rw[←HO.out];rfl,q8⟩
theorem kO (l d r:ByteArray) (w:World) (zl:l.size≤10000) (zd:d.size≤10000) (zr:r.size≤10000) (hm:ML w) (hl:l.data.toList.isEmpty=false) (haL:iX l.data.toList=true) (hr:r.data.toList.isEmpty=false) (haR:fK r.data.toList=true) (c:Bool) (haD:eQ d.data.toList=c):
  Calls prog 91 #[jV l d r] w (Ret w (.int .i64 (if c=true then (0:Int) else 8))):=by
 have k00:=JAt.new w l d r;obtain⟨O,hO⟩:∃O:Int,(if c=true then (0:Int) else 8)=O:=⟨_,rfl⟩;rw[hO];have HO:=h_ hO;clear hO;have q00:=(bR w).alloc (ws _) (.cells #[.string l,.string d,.string r] 117);have m00:=hm.ret q00;obtain⟨W,hW⟩:=e_ (w.alloc (.cells #[.string l,.string d,.string r] 117));rw[hW] at k00 q00 m00;have k0:=k00;have q0:=q00;have m0:=m00;have HW:=h_ hW;clear hW k00 q00 m00 hm;have el:=ak hl;have er:=ak hr;go_enter func91,ntmps91;go_wp2_with fail;rw[HW.out];refine wp_region_held_drew (S:=fun w'=>w'.cell? ⟨w.heap.size,0,none⟩=some (.string l)∧w'.cell? ⟨w.heap.size,1,none⟩=some (.string d)∧w'.cell? ⟨w.heap.size,2,none⟩=some (.string r)) (by kernel_rfl) ⟨k0.c0,k0.c1,k0.c2⟩ (fun hH=>?_);have k1:=k0.ret (wq (bQ _));have q1:=q0.drew;have m1:=m0.ret (wq (bQ _));refine rS [(0,some 5),(1,some 6),(2,some 7),(3,some 8),(4,some 9),(5,some 10)] ?_
 iterate 6 refine aS ?_
 refine rE ?_
 refine aC (i:=6) fun K hK=>?_
 go_simp;refine(fU rD _).mono ?_;rintro e w2 ⟨B1,rfl,zb1,cb1,hb2⟩;have k2:=k1.ret hb2;have q2:=q1.trans (hb2.mono q1.size);have m2:=m1.ret hb2;clear hb2;go_simp;clear hH;refine hK.out _ _ ⟨k2.c0,k2.c1,k2.c2⟩ (fun hH=>?_);clear hK K
 refine aC (i:=7) fun K hK=>?_
 go_simp;have b3:=(bR w2).alloc (ws _) (.cells #[fOf B1] 86);have k3:=k2.ret b3;have q3:=q2.trans (b3.mono q2.size);have m3:=m2.ret b3;have v3:VAt w2.heap.size 0 [fOf B1] (w2.alloc (.cells #[fOf B1] 86)):=mU _ _ _;have cb1':=((af b3).1 _ _ zb1).trans cb1;have zb1':=wt zb1 b3.size;have P3:=h_ (dl _ _ l _ zl v3 zb1' cb1');rw[haL] at P3;clear b3 v3 cb1 zb1 cb1' zb1';clear hH;refine hK.out _ _ ⟨k3.c0,k3.c1,k3.c2⟩ (fun hH=>?_);clear hK K
 refine aC (i:=8) fun K hK=>?_
 go_simp;refine P3.out.mono ?_;rintro e w4 ⟨rfl,hb4⟩;have k4:=k3.ret hb4;have q4:=q3.trans (hb4.mono q3.size);have m4:=m3.ret hb4;clear hb4;go_simp;clear hH;refine hK.out _ _ ⟨k4.c0,k4.c1,k4.c2⟩ (fun hH=>?_);clear hK K;refine rS [(9,some 14),(10,some 3)] ?_
 iterate 2 refine aS ?_
 refine rE ?_;refine aD ?_;go_wp2_with fail;have b5:=(wu (w4).heap.size (w4)).alloc (ws _) (.cells #[cu] 86);have k5:=k4.ret b5;have q5:=q4.trans (b5.mono q4.size);have m5:=m4.ret b5;have P5:=di _ r _ zr (mU (w4) cu 86);rw[haR] at P5;have PR:=h_ P5;clear P5 b5;refine PR.out.mono ?_;rintro e w6 ⟨rfl,hb6⟩;have k6:=k5.ret hb6;have q6:=q5.trans (hb6.mono q5.size);have m6:=m5.ret hb6;clear hb6;go_wp2_with fail;refine wp_region_held_drew (S:=fun w'=>w'.cell? ⟨w.heap.size,0,none⟩=some (.string l)∧w'.cell? ⟨w.heap.size,1,none⟩=some (.string d)∧w'.cell? ⟨w.heap.size,2,none⟩=some (.string r)) (by kernel_rfl) ⟨k6.c0,k6.c1,k6.c2⟩ (fun hH=>?_);have k7:=k6.ret (wq (bQ _));have q7:=q6.drew;have m7:=m6.ret (wq (bQ _));refine rS [(0,some 24),(1,some 25),(2,some 26),(3,some 27),(4,some 28),(5,some 29),(6,some 30),(7,some 31),(8,some 32)] ?_
 iterate 9 refine aS ?_
 refine rE ?_
 refine aC (i:=9) fun K hK=>?_
 go_simp;refine(fU tW _).mono ?_;rintro e w8 ⟨B3,rfl,zb3,cb3,hb8⟩;have k8:=k7.ret hb8;have q8:=q7.trans (hb8.mono q7.size);have m8:=m7.ret hb8;clear hb8;go_simp;clear hH;refine hK.out _ _ ⟨k8.c0,k8.c1,k8.c2⟩ (fun hH=>?_);clear hK K
 refine aC (i:=10) fun K hK=>?_
 go_simp;have b9:=(bR w8).alloc (ws _) (.cells #[fOf B3,dF,dU] 86);have k9:=k8.ret b9;have q9:=q8.trans (b9.mono q8.size);have m9:=m8.ret b9;have v9:VAt w8.heap.size 0 [fOf B3,dF,dU] (w8.alloc (.cells #[fOf B3,dF,dU] 86)):=vl _ _ _ _ _;have cb3':=((af b9).1 _ _ zb3).trans cb3;have zb3':=wt zb3 b9.size;have P9:=h_ (eJ _ _ d _ zd v9 zb3' cb3' m9);rw[haD] at P9;clear b9 v9 cb3 zb3 cb3' zb3';clear hH;refine hK.out _ _ ⟨k9.c0,k9.c1,k9.c2⟩ (fun hH=>?_);clear hK K
 refine aC (i:=11) fun K hK=>?_
 go_simp;refine P9.out.mono ?_;rintro e w10 ⟨rfl,hb10⟩;have k10:=k9.ret hb10;have q10:=q9.trans (hb10.mono q9.size);have m10:=m9.ret hb10;clear hb10;go_simp;clear hH;refine hK.out _ _ ⟨k10.c0,k10.c1,k10.c2⟩ (fun hH=>?_);clear hK K;refine rS [(12,some 36),(13,some 37)] ?_
 iterate 2 refine aS ?_
 refine rE ?_;refine aD ?_
 cases c with
 | true=>
  go_wp2_with fail;go_ret;exact⟨by rw[←HO.out];rfl,q10⟩
 | false=>
  go_wp2_with fail;go_ret;exact⟨by rw[←HO.out];rfl,q10⟩
theorem kp (l d r:ByteArray) (w:World) (zl:l.size≤10000) (_zd:d.size≤10000) (zr:r.size≤10000) (hm:ML w) (hl:l.data.toList.isEmpty=false) (haL:iX l.data.toList=true) (hr:r.data.toList.isEmpty=false) (haR:fK r.data.toList=false):
  Calls prog 91 #[jV l d r] w (Ret w (.int .i64 (8))):=by
 have k00:=JAt.new w l d r;have q00:=(bR w).alloc (ws _) (.cells #[.string l,.string d,.string r] 117);have m00:=hm.ret q00;obtain⟨W,hW⟩:=e_ (w.alloc (.cells #[.string l,.string d,.string r] 117));rw[hW] at k00 q00 m00;have k0:=k00;have q0:=q00;have m0:=m00;have HW:=h_ hW;clear hW k00 q00 m00 hm;have el:=ak hl;have er:=ak hr;go_enter func91,ntmps91;go_wp2_with fail;rw[HW.out];refine wp_region_held_drew (S:=fun w'=>w'.cell? ⟨w.heap.size,0,none⟩=some (.string l)∧w'.cell? ⟨w.heap.size,1,none⟩=some (.string d)∧w'.cell? ⟨w.heap.size,2,none⟩=some (.string r)) (by kernel_rfl) ⟨k0.c0,k0.c1,k0.c2⟩ (fun hH=>?_);have k1:=k0.ret (wq (bQ _));have q1:=q0.drew;have m1:=m0.ret (wq (bQ _));refine rS [(0,some 5),(1,some 6),(2,some 7),(3,some 8),(4,some 9),(5,some 10)] ?_
 iterate 6 refine aS ?_
 refine rE ?_
 refine aC (i:=6) fun K hK=>?_
 go_simp;refine(fU rD _).mono ?_;rintro e w2 ⟨B1,rfl,zb1,cb1,hb2⟩;have k2:=k1.ret hb2;have q2:=q1.trans (hb2.mono q1.size);have m2:=m1.ret hb2;clear hb2;go_simp;clear hH;refine hK.out _ _ ⟨k2.c0,k2.c1,k2.c2⟩ (fun hH=>?_);clear hK K
 refine aC (i:=7) fun K hK=>?_
 go_simp;have b3:=(bR w2).alloc (ws _) (.cells #[fOf B1] 86);have k3:=k2.ret b3;have q3:=q2.trans (b3.mono q2.size);have m3:=m2.ret b3;have v3:VAt w2.heap.size 0 [fOf B1] (w2.alloc (.cells #[fOf B1] 86)):=mU _ _ _;have cb1':=((af b3).1 _ _ zb1).trans cb1;have zb1':=wt zb1 b3.size;have P3:=h_ (dl _ _ l _ zl v3 zb1' cb1');rw[haL] at P3;clear b3 v3 cb1 zb1 cb1' zb1';clear hH;refine hK.out _ _ ⟨k3.c0,k3.c1,k3.c2⟩ (fun hH=>?_);clear hK K
 refine aC (i:=8) fun K hK=>?_
 go_simp;refine P3.out.mono ?_;rintro e w4 ⟨rfl,hb4⟩;have k4:=k3.ret hb4;have q4:=q3.trans (hb4.mono q3.size);have m4:=m3.ret hb4;clear hb4;go_simp;clear hH;refine hK.out _ _ ⟨k4.c0,k4.c1,k4.c2⟩ (fun hH=>?_);clear hK K;refine rS [(9,some 14),(10,some 3)] ?_
 iterate 2 refine aS ?_
 refine rE ?_;refine aD ?_;go_wp2_with fail;have b5:=(wu (w4).heap.size (w4)).alloc (ws _) (.cells #[cu] 86);have k5:=k4.ret b5;have q5:=q4.trans (b5.mono q4.size);have m5:=m4.ret b5;have P5:=di _ r _ zr (mU (w4) cu 86);rw[haR] at P5;have PR:=h_ P5;clear P5 b5;refine PR.out.mono ?_;rintro e w6 ⟨rfl,hb6⟩;have k6:=k5.ret hb6;have q6:=q5.trans (hb6.mono q5.size);have m6:=m5.ret hb6;clear hb6;go_wp2_with fail;refine wp_region_held_drew (S:=fun w'=>w'.cell? ⟨w.heap.size,0,none⟩=some (.string l)∧w'.cell? ⟨w.heap.size,1,none⟩=some (.string d)∧w'.cell? ⟨w.heap.size,2,none⟩=some (.string r)) (by kernel_rfl) ⟨k6.c0,k6.c1,k6.c2⟩ (fun hH=>?_);have k7:=k6.ret (wq (bQ _));have q7:=q6.drew;have m7:=m6.ret (wq (bQ _));refine rS [(0,some 24),(1,some 25),(2,some 26),(3,some 27),(4,some 28),(5,some 29),(6,some 30)] ?_
 iterate 7 refine aS ?_
 refine rE ?_;refine rS [(7,some 31),(8,some 32),(9,some 33),(10,some 34),(11,some 35),(12,some 36)] ?_
 iterate 6 refine aF ?_
 refine rE ?_;refine rS [(13,some 37)] ?_;refine aS ?_;refine rE ?_;refine aD ?_;go_wp2_with fail;go_ret;exact⟨rfl,q7⟩
theorem kE (l d r:ByteArray) (w:World) (zl:l.size≤10000) (_zd:d.size≤10000) (zr:r.size≤10000) (hm:ML w) (hl:l.data.toList.isEmpty=false) (haL:iX l.data.toList=false) (hr:r.data.toList.isEmpty=true):
  Calls prog 91 #[jV l d r] w (Ret w (.int .i64 (8))):=by
 have k00:=JAt.new w l d r;have q00:=(bR w).alloc (ws _) (.cells #[.string l,.string d,.string r] 117);have m00:=hm.ret q00;obtain⟨W,hW⟩:=e_ (w.alloc (.cells #[.string l,.string d,.string r] 117));rw[hW] at k00 q00 m00;have k0:=k00;have q0:=q00;have m0:=m00;have HW:=h_ hW;clear hW k00 q00 m00 hm;have el:=ak hl;obtain rfl:=ax hr;go_enter func91,ntmps91;go_wp2_with fail;rw[HW.out];refine wp_region_held_drew (S:=fun w'=>w'.cell? ⟨w.heap.size,0,none⟩=some (.string l)∧w'.cell? ⟨w.heap.size,1,none⟩=some (.string d)∧w'.cell? ⟨w.heap.size,2,none⟩=some (.string ⟨#[]⟩)) (by kernel_rfl) ⟨k0.c0,k0.c1,k0.c2⟩ (fun hH=>?_);have k1:=k0.ret (wq (bQ _));have q1:=q0.drew;have m1:=m0.ret (wq (bQ _));refine rS [(0,some 5),(1,some 6),(2,some 7),(3,some 8),(4,some 9),(5,some 10)] ?_
 iterate 6 refine aS ?_
 refine rE ?_
 refine aC (i:=6) fun K hK=>?_
 go_simp;refine(fU rD _).mono ?_;rintro e w2 ⟨B1,rfl,zb1,cb1,hb2⟩;have k2:=k1.ret hb2;have q2:=q1.trans (hb2.mono q1.size);have m2:=m1.ret hb2;clear hb2;go_simp;clear hH;refine hK.out _ _ ⟨k2.c0,k2.c1,k2.c2⟩ (fun hH=>?_);clear hK K
 refine aC (i:=7) fun K hK=>?_
 go_simp;have b3:=(bR w2).alloc (ws _) (.cells #[fOf B1] 86);have k3:=k2.ret b3;have q3:=q2.trans (b3.mono q2.size);have m3:=m2.ret b3;have v3:VAt w2.heap.size 0 [fOf B1] (w2.alloc (.cells #[fOf B1] 86)):=mU _ _ _;have cb1':=((af b3).1 _ _ zb1).trans cb1;have zb1':=wt zb1 b3.size;have P3:=h_ (dl _ _ l _ zl v3 zb1' cb1');rw[haL] at P3;clear b3 v3 cb1 zb1 cb1' zb1';clear hH;refine hK.out _ _ ⟨k3.c0,k3.c1,k3.c2⟩ (fun hH=>?_);clear hK K
 refine aC (i:=8) fun K hK=>?_
 go_simp;refine P3.out.mono ?_;rintro e w4 ⟨rfl,hb4⟩;have k4:=k3.ret hb4;have q4:=q3.trans (hb4.mono q3.size);have m4:=m3.ret hb4;clear hb4;go_simp;clear hH;refine hK.out _ _ ⟨k4.c0,k4.c1,k4.c2⟩ (fun hH=>?_);clear hK K;refine rS [(9,some 14),(10,some 3)] ?_
 iterate 2 refine aS ?_
 refine rE ?_;refine aD ?_;go_wp2_with fail;refine wp_region_held_drew (S:=fun w'=>w'.cell? ⟨w.heap.size,0,none⟩=some (.string l)∧w'.cell? ⟨w.heap.size,1,none⟩=some (.string d)∧w'.cell? ⟨w.heap.size,2,none⟩=some (.string ⟨#[]⟩)) (by kernel_rfl) ⟨k4.c0,k4.c1,k4.c2⟩ (fun hH=>?_);have k5:=k4.ret (wq (bQ _));have q5:=q4.drew;have m5:=m4.ret (wq (bQ _));refine rS [(0,some 24),(1,some 25),(2,some 26)] ?_
 iterate 3 refine aS ?_
 refine rE ?_;refine rS [(3,some 27),(4,some 28)] ?_
 iterate 2 refine aF ?_
 refine rE ?_;refine rS [(5,some 29),(6,some 30)] ?_
 iterate 2 refine aS ?_
 refine rE ?_;refine rS [(7,some 31),(8,some 32),(9,some 33),(10,some 34),(11,some 35),(12,some 36)] ?_
 iterate 6 refine aF ?_
 refine rE ?_;refine rS [(13,some 37)] ?_;refine aS ?_;refine rE ?_;refine aD ?_;go_wp2_with fail;go_ret;exact⟨rfl,q5⟩
theorem kh (l d r:ByteArray) (w:World) (zl:l.size≤10000) (_zd:d.size≤10000) (zr:r.size≤10000) (hm:ML w) (hl:l.data.toList.isEmpty=false) (haL:iX l.data.toList=false) (hr:r.data.toList.isEmpty=false) (haR:fK r.data.toList=true):
  Calls prog 91 #[jV l d r] w (Ret w (.int .i64 (8))):=by
 have k00:=JAt.new w l d r;have q00:=(bR w).alloc (ws _) (.cells #[.string l,.string d,.string r] 117);have m00:=hm.ret q00;obtain⟨W,hW⟩:=e_ (w.alloc (.cells #[.string l,.string d,.string r] 117));rw[hW] at k00 q00 m00;have k0:=k00;have q0:=q00;have m0:=m00;have HW:=h_ hW;clear hW k00 q00 m00 hm;have el:=ak hl;have er:=ak hr;go_enter func91,ntmps91;go_wp2_with fail;rw[HW.out];refine wp_region_held_drew (S:=fun w'=>w'.cell? ⟨w.heap.size,0,none⟩=some (.string l)∧w'.cell? ⟨w.heap.size,1,none⟩=some (.string d)∧w'.cell? ⟨w.heap.size,2,none⟩=some (.string r)) (by kernel_rfl) ⟨k0.c0,k0.c1,k0.c2⟩ (fun hH=>?_);have k1:=k0.ret (wq (bQ _));have q1:=q0.drew;have m1:=m0.ret (wq (bQ _));refine rS [(0,some 5),(1,some 6),(2,some 7),(3,some 8),(4,some 9),(5,some 10)] ?_
 iterate 6 refine aS ?_
 refine rE ?_
 refine aC (i:=6) fun K hK=>?_
 go_simp;refine(fU rD _).mono ?_;rintro e w2 ⟨B1,rfl,zb1,cb1,hb2⟩;have k2:=k1.ret hb2;have q2:=q1.trans (hb2.mono q1.size);have m2:=m1.ret hb2;clear hb2;go_simp;clear hH;refine hK.out _ _ ⟨k2.c0,k2.c1,k2.c2⟩ (fun hH=>?_);clear hK K
 refine aC (i:=7) fun K hK=>?_
 go_simp;have b3:=(bR w2).alloc (ws _) (.cells #[fOf B1] 86);have k3:=k2.ret b3;have q3:=q2.trans (b3.mono q2.size);have m3:=m2.ret b3;have v3:VAt w2.heap.size 0 [fOf B1] (w2.alloc (.cells #[fOf B1] 86)):=mU _ _ _;have cb1':=((af b3).1 _ _ zb1).trans cb1;have zb1':=wt zb1 b3.size;have P3:=h_ (dl _ _ l _ zl v3 zb1' cb1');rw[haL] at P3;clear b3 v3 cb1 zb1 cb1' zb1';clear hH;refine hK.out _ _ ⟨k3.c0,k3.c1,k3.c2⟩ (fun hH=>?_);clear hK K
 refine aC (i:=8) fun K hK=>?_
 go_simp;refine P3.out.mono ?_;rintro e w4 ⟨rfl,hb4⟩;have k4:=k3.ret hb4;have q4:=q3.trans (hb4.mono q3.size);have m4:=m3.ret hb4;clear hb4;go_simp;clear hH;refine hK.out _ _ ⟨k4.c0,k4.c1,k4.c2⟩ (fun hH=>?_);clear hK K;refine rS [(9,some 14),(10,some 3)] ?_
 iterate 2 refine aS ?_
 refine rE ?_;refine aD ?_;go_wp2_with fail;have b5:=(wu (w4).heap.size (w4)).alloc (ws _) (.cells #[cu] 86);have k5:=k4.ret b5;have q5:=q4.trans (b5.mono q4.size);have m5:=m4.ret b5;have P5:=di _ r _ zr (mU (w4) cu 86);rw[haR] at P5;have PR:=h_ P5;clear P5 b5;refine PR.out.mono ?_;rintro e w6 ⟨rfl,hb6⟩;have k6:=k5.ret hb6;have q6:=q5.trans (hb6.mono q5.size);have m6:=m5.ret hb6;clear hb6;go_wp2_with fail;refine wp_region_held_drew (S:=fun w'=>w'.cell? ⟨w.heap.size,0,none⟩=some (.string l)∧w'.cell? ⟨w.heap.size,1,none⟩=some (.string d)∧w'.cell? ⟨w.heap.size,2,none⟩=some (.string r)) (by kernel_rfl) ⟨k6.c0,k6.c1,k6.c2⟩ (fun hH=>?_);have k7:=k6.ret (wq (bQ _));have q7:=q6.drew;have m7:=m6.ret (wq (bQ _));refine rS [(0,some 24),(1,some 25),(2,some 26)] ?_
 iterate 3 refine aS ?_
 refine rE ?_;refine rS [(3,some 27),(4,some 28)] ?_
 iterate 2 refine aF ?_
 refine rE ?_;refine rS [(5,some 29),(6,some 30)] ?_
 iterate 2 refine aS ?_
 refine rE ?_;refine rS [(7,some 31),(8,some 32),(9,some 33),(10,some 34),(11,some 35),(12,some 36)] ?_
 iterate 6 refine aF ?_
 refine rE ?_;refine rS [(13,some 37)] ?_;refine aS ?_;refine rE ?_;refine aD ?_;go_wp2_with fail;go_ret;exact⟨rfl,q7⟩
theorem ko (l d r:ByteArray) (w:World) (zl:l.size≤10000) (_zd:d.size≤10000) (zr:r.size≤10000) (hm:ML w) (hl:l.data.toList.isEmpty=false) (haL:iX l.data.toList=false) (hr:r.data.toList.isEmpty=false) (haR:fK r.data.toList=false):
  Calls prog 91 #[jV l d r] w (Ret w (.int .i64 (8))):=by
 have k00:=JAt.new w l d r;have q00:=(bR w).alloc (ws _) (.cells #[.string l,.string d,.string r] 117);have m00:=hm.ret q00;obtain⟨W,hW⟩:=e_ (w.alloc (.cells #[.string l,.string d,.string r] 117));rw[hW] at k00 q00 m00;have k0:=k00;have q0:=q00;have m0:=m00;have HW:=h_ hW;clear hW k00 q00 m00 hm;have el:=ak hl;have er:=ak hr;go_enter func91,ntmps91;go_wp2_with fail;rw[HW.out];refine wp_region_held_drew (S:=fun w'=>w'.cell? ⟨w.heap.size,0,none⟩=some (.string l)∧w'.cell? ⟨w.heap.size,1,none⟩=some (.string d)∧w'.cell? ⟨w.heap.size,2,none⟩=some (.string r)) (by kernel_rfl) ⟨k0.c0,k0.c1,k0.c2⟩ (fun hH=>?_);have k1:=k0.ret (wq (bQ _));have q1:=q0.drew;have m1:=m0.ret (wq (bQ _));refine rS [(0,some 5),(1,some 6),(2,some 7),(3,some 8),(4,some 9),(5,some 10)] ?_
 iterate 6 refine aS ?_
 refine rE ?_
 refine aC (i:=6) fun K hK=>?_
 go_simp;refine(fU rD _).mono ?_;rintro e w2 ⟨B1,rfl,zb1,cb1,hb2⟩;have k2:=k1.ret hb2;have q2:=q1.trans (hb2.mono q1.size);have m2:=m1.ret hb2;clear hb2;go_simp;clear hH;refine hK.out _ _ ⟨k2.c0,k2.c1,k2.c2⟩ (fun hH=>?_);clear hK K
 refine aC (i:=7) fun K hK=>?_
 go_simp;have b3:=(bR w2).alloc (ws _) (.cells #[fOf B1] 86);have k3:=k2.ret b3;have q3:=q2.trans (b3.mono q2.size);have m3:=m2.ret b3;have v3:VAt w2.heap.size 0 [fOf B1] (w2.alloc (.cells #[fOf B1] 86)):=mU _ _ _;have cb1':=((af b3).1 _ _ zb1).trans cb1;have zb1':=wt zb1 b3.size;have P3:=h_ (dl _ _ l _ zl v3 zb1' cb1');rw[haL] at P3;clear b3 v3 cb1 zb1 cb1' zb1';clear hH;refine hK.out _ _ ⟨k3.c0,k3.c1,k3.c2⟩ (fun hH=>?_);clear hK K
 refine aC (i:=8) fun K hK=>?_
 go_simp;refine P3.out.mono ?_;rintro e w4 ⟨rfl,hb4⟩;have k4:=k3.ret hb4;have q4:=q3.trans (hb4.mono q3.size);have m4:=m3.ret hb4;clear hb4;go_simp;clear hH;refine hK.out _ _ ⟨k4.c0,k4.c1,k4.c2⟩ (fun hH=>?_);clear hK K;refine rS [(9,some 14),(10,some 3)] ?_
 iterate 2 refine aS ?_
 refine rE ?_;refine aD ?_;go_wp2_with fail;have b5:=(wu (w4).heap.size (w4)).alloc (ws _) (.cells #[cu] 86);have k5:=k4.ret b5;have q5:=q4.trans (b5.mono q4.size);have m5:=m4.ret b5;have P5:=di _ r _ zr (mU (w4) cu 86);rw[haR] at P5;have PR:=h_ P5;clear P5 b5;refine PR.out.mono ?_;rintro e w6 ⟨rfl,hb6⟩;have k6:=k5.ret hb6;have q6:=q5.trans (hb6.mono q5.size);have m6:=m5.ret hb6;clear hb6;go_wp2_with fail;refine wp_region_held_drew (S:=fun w'=>w'.cell? ⟨w.heap.size,0,none⟩=some (.string l)∧w'.cell? ⟨w.heap.size,1,none⟩=some (.string d)∧w'.cell? ⟨w.heap.size,2,none⟩=some (.string r)) (by kernel_rfl) ⟨k6.c0,k6.c1,k6.c2⟩ (fun hH=>?_);have k7:=k6.ret (wq (bQ _));have q7:=q6.drew;have m7:=m6.ret (wq (bQ _));refine rS [(0,some 24),(1,some 25),(2,some 26)] ?_
 iterate 3 refine aS ?_
 refine rE ?_;refine rS [(3,some 27),(4,some 28)] ?_
 iterate 2 refine aF ?_
 refine rE ?_;refine rS [(5,some 29),(6,some 30)] ?_
 iterate 2 refine aS ?_
 refine rE ?_;refine rS [(7,some 31),(8,some 32),(9,some 33),(10,some 34),(11,some 35),(12,some 36)] ?_
 iterate 6 refine aF ?_
 refine rE ?_;refine rS [(13,some 37)] ?_;refine aS ?_;refine rE ?_;refine aD ?_;go_wp2_with fail;go_ret;exact⟨rfl,q7⟩
theorem eO (l d r:ByteArray) (w:World) (zl:l.size≤10000) (zd:d.size≤10000) (zr:r.size≤10000) (hm:ML w):
  Calls prog 91 #[jV l d r] w (Ret w (.int .i64 (if cQ l.data.toList d.data.toList r.data.toList=true then 0 else 8))):=by
 cases hl:l.data.toList.isEmpty with
 | false=>
  cases haL:iX l.data.toList with
  | false=>
   cases hr:r.data.toList.isEmpty with
   | true=>
    rw[iT _ _ _ false true (eQ d.data.toList) (by rw[hl,haL];rfl) (by rw[hr];rfl) rfl];exact kE l d r w zl zd zr hm hl haL hr
   | false=>
    cases haR:fK r.data.toList with
    | false=>
     rw[iT _ _ _ false false (eQ d.data.toList) (by rw[hl,haL];rfl) (by rw[hr,haR];rfl) rfl];exact ko l d r w zl zd zr hm hl haL hr haR
    | true=>
     rw[iT _ _ _ false true (eQ d.data.toList) (by rw[hl,haL];rfl) (by rw[hr,haR];rfl) rfl];exact kh l d r w zl zd zr hm hl haL hr haR
  | true=>
   cases hr:r.data.toList.isEmpty with
   | true=>
    rw[iT _ _ _ true true (eQ d.data.toList) (by rw[hl,haL];rfl) (by rw[hr];rfl) rfl];exact kT l d r w zl zd zr hm hl haL hr _ rfl
   | false=>
    cases haR:fK r.data.toList with
    | false=>
     rw[iT _ _ _ true false (eQ d.data.toList) (by rw[hl,haL];rfl) (by rw[hr,haR];rfl) rfl];exact kp l d r w zl zd zr hm hl haL hr haR
    | true=>
     rw[iT _ _ _ true true (eQ d.data.toList) (by rw[hl,haL];rfl) (by rw[hr,haR];rfl) rfl];exact kO l d r w zl zd zr hm hl haL hr haR _ rfl
 | true=>
  cases hr:r.data.toList.isEmpty with
  | true=>
   rw[iT _ _ _ true true (eQ d.data.toList) (by rw[hl];rfl) (by rw[hr];rfl) rfl];exact kL l d r w zl zd zr hm hl hr _ rfl
  | false=>
   cases haR:fK r.data.toList with
   | false=>
    rw[iT _ _ _ true false (eQ d.data.toList) (by rw[hl];rfl) (by rw[hr,haR];rfl) rfl];exact kA l d r w zl zd zr hm hl hr haR
   | true=>
    rw[iT _ _ _ true true (eQ d.data.toList) (by rw[hl];rfl) (by rw[hr,haR];rfl) rfl];exact kv l d r w zl zd zr hm hl hr haR _ rfl
end Go.Proofs.YtjgeiieiinmdnaaGreatDoor
