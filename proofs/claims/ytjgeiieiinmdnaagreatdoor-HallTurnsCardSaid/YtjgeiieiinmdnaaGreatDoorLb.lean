/- HsA, HsB, HsC, HsD: put together by mergetpl.py. -/
import Derived.Test.YtjgeiieiinmdnaaGreatDoorLa
open Go.Proofs.Tryz
open Go.Lib renaming run_eql_slice_nil→wy
open Go.Value.slice renaming injEq→wo
open Go.World renaming ownsRow_nil→wA
open List renaming getElem?_eq_getElem→wq,getElem_mem→ws,take_succ_eq_append_getElem→wu,any_append→wv,take_of_length_le→ww,length_nil→wz,nil_append→wC,any_eq_false→wD,findIdx?_eq_none_iff→wE
open Nat renaming le_refl→wh,zero_le→wt,zero_add→wB
namespace Go.Proofs.YtjgeiieiinmdnaaGreatDoor
set_option maxHeartbeats 2000000
set_option maxRecDepth 100000
open Go.RowKit Go.Lib

abbrev ndG (p:NdI):Value:=.agg #[.int .u8 p.1.1,.string ⟨p.1.2.1.toArray⟩,.string ⟨p.1.2.2.1.toArray⟩,ndV p,.string ⟨p.1.2.2.2.2.1.toArray⟩,.int .i64 p.1.2.2.2.2.2]
abbrev atG (a:At):Value:=.agg #[.string ⟨a.1.toArray⟩,.string ⟨a.2.1.toArray⟩,.string ⟨a.2.2.toArray⟩]
def gC {α:Type} (val:α→Value) (f:Value) (q:α→Bool) (M:List α) (w:World):Prop:=∃g lb,f=.func (.func g) #[] lb∧(∀args w,(callFunc g args).run prog w=.ok (.enter g args) w)∧∀p∈M,∀W,Bl w W→Calls prog g (#[val p]++lb) W (Ret W (.bool (q p)))
def dc {α:Type} (q:α→Bool) (L:List α):Int:=match L.findIdx? q with
 | some i=>i
 | none=>-1
theorem eO {α:Type} {q:α→Bool} {L:List α} {k:Nat} (hk:k<L.length) (hn:(L.take k).any q=false) (h:q L[k]=true):dc q L=k:=by
 unfold dc
 have:L.findIdx? q=some k:=by
  rw[List.findIdx?_eq_some_iff_getElem];refine⟨hk,h,fun j hj=>?_⟩
  have:=wD.1 hn (L[j]'(by omega)) (by
   rw[List.mem_iff_getElem];exact⟨j,by rw[List.length_take];omega,by rw[List.getElem_take]⟩)
  simpa using this
 rw[this]
theorem bK {α:Type} {q:α→Bool} {L:List α} (h:L.any q=false):dc q L=-1:=by
 unfold dc
 have:L.findIdx? q=none:=by
  rw[wE];intro x hx;have:=wD.1 h x hx
  simpa using this
 rw[this]
theorem cO {α:Type} (q:α→Bool) (L:List α):decide (0≤dc q L)=L.any q:=by
 cases h:L.any q with
 | false=>rw[bK h];rfl
 | true=>
  unfold dc
  cases hf:L.findIdx? q with
  | none=>
   rw[wE] at hf;obtain⟨x,hx,hq⟩:=List.any_eq_true.1 h;rw[hf x hx] at hq
   cases hq
  | some i=>exact decide_eq_true (Int.natCast_nonneg i)
theorem gv (v f:Value) (q:AcI→Bool) (M:List AcI) (w:World) (hv:IsL acY v M w) (hM:M.length≤100000) (hf:gC (fun x:AcI=>x.v) f q M w):
  Calls prog 105 #[v,f] w (Ret w (.int .i64 (dc q M))):=by
 obtain⟨a,cap,xz,-⟩:=hv.form;obtain⟨g,lb,rfl,eg,hg⟩:=hf;obtain⟨O,hO⟩:=e_ (dc q M);obtain⟨L,hL⟩:=e_ M.length;rw[hL] at xz hM;rw[hO];subst xz;have HO:=h_ hO;have HL:=h_ hL;have HV:=h_ hv;have HG:=h_ hg;clear hO hL hv hg;go_enter func105,ntmps105;go_wp2_with fail;go_loopw [8] (fun i wx=>∃k:Nat,k≤L∧i=.int .i64 k∧(M.take k).any q=false∧Bl w wx) (fun i _=>L-(intOf i).toNat)
 case atStart=>exact⟨0,wt _,rfl,rfl,bQ _⟩
 case round=>
  obtain⟨k,hk,rfl,xp,xo⟩:=hrel;have xw:=xo.size
  by_cases hlt:k<L
  ·have xq : k < M.length := by rw [HL.out]; exact hlt
   obtain⟨x,hx⟩:=e_ (M[k]);obtain⟨b,off,cp,hf,-,hc⟩:=(HV.out.ret xo).cells (k:=k) (x:=x) (by rw[wq xq,hx]);rw[HL.out] at hf;simp only[wo,true_and] at hf;obtain⟨rfl,rfl⟩:=hf
   have xA:(M.take (k+1)).any q=q x:=by
    rw[wu xq,wv,xp,hx]
    simp
   have xB:q x=true→O=k:=fun h=>by rw[←HO.out];exact eO xq xp (by rw[hx];exact h)
   have xn:=HG.out x (by rw[←hx];exact ws xq) wr xo
   have c0:wr.cell? ⟨b,off+k*3,none⟩=some (.string ⟨x.j.toArray⟩):=hc wr (bQ _) 0 _ rfl
   have c1:wr.cell? ⟨b,off+k*3+1,none⟩=some (x.iv):=hc wr (bQ _) 1 _ rfl
   have c2:wr.cell? ⟨b,off+k*3+2,none⟩=some (.int .i64 x.ver):=hc wr (bQ _) 2 _ rfl
   have CH:=h_ xn;obtain⟨y,hy⟩:=e_ (q x);rw[hy] at xA xB CH;have HS:=h_ xA;have HA:=h_ xB;clear hc xA xB xn hx hy xp xq
   cases y with
   | true=>
    have:=HA.out (by first | exact rfl | exact trivial);subst this;go_wp2_with (go_at_fn g;refine CH.out.mono ?_;rintro e w1 ⟨rfl,hb⟩);go_wp2_with fail;go_ret;exact⟨rfl,xo.trans (hb.mono xw)⟩
   | false=>
    go_wp2_with (go_at_fn g;refine CH.out.mono ?_;rintro e w1 ⟨rfl,hb⟩);have xu:=xo.trans (hb.mono xw);clear hb;go_wp2_with fail;go_roundw
    case rel=>exact⟨k+1,by omega,by go_num,HS.out,xu⟩
    case measure=>simp[intOf];omega
  ·have he:M.take k=M:=ww (by rw[HL.out];omega)
   rw[he] at xp;have:O=-1:=(by rw[←HO.out];exact bK xp);subst this;clear he xp;go_wp2_with fail;go_ret;exact⟨rfl,xo⟩
theorem fY (v f:Value) (q:RsI→Bool) (M:List RsI) (w:World) (hv:IsL rsY v M w) (hM:M.length≤100000) (hf:gC (fun x:RsI=>x.v) f q M w):
  Calls prog 110 #[v,f] w (Ret w (.int .i64 (dc q M))):=by
 obtain⟨a,cap,xz,-⟩:=hv.form;obtain⟨g,lb,rfl,eg,hg⟩:=hf;obtain⟨O,hO⟩:=e_ (dc q M);obtain⟨L,hL⟩:=e_ M.length;rw[hL] at xz hM;rw[hO];subst xz;have HO:=h_ hO;have HL:=h_ hL;have HV:=h_ hv;have HG:=h_ hg;clear hO hL hv hg;go_enter func110,ntmps110;go_wp2_with fail;go_loopw [8] (fun i wx=>∃k:Nat,k≤L∧i=.int .i64 k∧(M.take k).any q=false∧Bl w wx) (fun i _=>L-(intOf i).toNat)
 case atStart=>exact⟨0,wt _,rfl,rfl,bQ _⟩
 case round=>
  obtain⟨k,hk,rfl,xp,xo⟩:=hrel;have xw:=xo.size
  by_cases hlt:k<L
  ·have xq : k < M.length := by rw [HL.out]; exact hlt
   obtain⟨x,hx⟩:=e_ (M[k]);obtain⟨b,off,cp,hf,-,hc⟩:=(HV.out.ret xo).cells (k:=k) (x:=x) (by rw[wq xq,hx]);rw[HL.out] at hf;simp only[wo,true_and] at hf;obtain⟨rfl,rfl⟩:=hf
   have xA:(M.take (k+1)).any q=q x:=by
    rw[wu xq,wv,xp,hx]
    simp
   have xB:q x=true→O=k:=fun h=>by rw[←HO.out];exact eO xq xp (by rw[hx];exact h)
   have xn:=HG.out x (by rw[←hx];exact ws xq) wr xo
   have c0:wr.cell? ⟨b,off+k*6,none⟩=some (.string ⟨x.j.toArray⟩):=hc wr (bQ _) 0 _ rfl
   have c1:wr.cell? ⟨b,off+k*6+1,none⟩=some (.bool x.on):=hc wr (bQ _) 1 _ rfl
   have c2:wr.cell? ⟨b,off+k*6+2,none⟩=some (.int .i64 x.pr):=hc wr (bQ _) 2 _ rfl
   have c3:wr.cell? ⟨b,off+k*6+3,none⟩=some (x.lv):=hc wr (bQ _) 3 _ rfl
   have c4:wr.cell? ⟨b,off+k*6+4,none⟩=some (.bool x.ask):=hc wr (bQ _) 4 _ rfl
   have c5:wr.cell? ⟨b,off+k*6+5,none⟩=some (x.sv):=hc wr (bQ _) 5 _ rfl
   have CH:=h_ xn;obtain⟨y,hy⟩:=e_ (q x);rw[hy] at xA xB CH;have HS:=h_ xA;have HA:=h_ xB;clear hc xA xB xn hx hy xp xq
   cases y with
   | true=>
    have:=HA.out (by first | exact rfl | exact trivial);subst this;go_wp2_with (go_at_fn g;refine CH.out.mono ?_;rintro e w1 ⟨rfl,hb⟩);go_wp2_with fail;go_ret;exact⟨rfl,xo.trans (hb.mono xw)⟩
   | false=>
    go_wp2_with (go_at_fn g;refine CH.out.mono ?_;rintro e w1 ⟨rfl,hb⟩);have xu:=xo.trans (hb.mono xw);clear hb;go_wp2_with fail;go_roundw
    case rel=>exact⟨k+1,by omega,by go_num,HS.out,xu⟩
    case measure=>simp[intOf];omega
  ·have he:M.take k=M:=ww (by rw[HL.out];omega)
   rw[he] at xp;have:O=-1:=(by rw[←HO.out];exact bK xp);subst this;clear he xp;go_wp2_with fail;go_ret;exact⟨rfl,xo⟩
theorem oO (v f:Value) (q:AcI→Bool) (M:List AcI) (w:World) (hv:IsL acY v M w) (hM:M.length≤100000) (hf:gC (fun x:AcI=>x.v) f q M w):
  Calls prog 78 #[v,f] w (Ret w (.bool (M.any q))):=by
 have CI:=gv v f q M w hv hM hf;obtain⟨a,cap,rfl,-⟩:=hv.form;rw[←cO];obtain⟨O,hO⟩:=e_ (dc q M);rw[hO] at CI ⊢;have CI:=h_ CI;clear hv hM hf hO
 by_cases h0:0≤O
 ·have h1:decide (0≤O)=true:=decide_eq_true h0
  go_enter func78,ntmps78;go_wp2_with fail;refine CI.out.mono ?_;rintro e w1 ⟨rfl,hb⟩;go_wp2_with fail;go_ret;exact⟨by first | (rw[h1];rfl) | simp[h1],hb⟩
 ·have h1:decide (0≤O)=false:=decide_eq_false h0
  go_enter func78,ntmps78;go_wp2_with fail;refine CI.out.mono ?_;rintro e w1 ⟨rfl,hb⟩;go_wp2_with fail;go_ret;exact⟨by first | (rw[h1];rfl) | simp[h1],hb⟩
theorem oA (v f:Value) (q:RsI→Bool) (M:List RsI) (w:World) (hv:IsL rsY v M w) (hM:M.length≤100000) (hf:gC (fun x:RsI=>x.v) f q M w):
  Calls prog 80 #[v,f] w (Ret w (.bool (M.any q))):=by
 have CI:=fY v f q M w hv hM hf;obtain⟨a,cap,rfl,-⟩:=hv.form;rw[←cO];obtain⟨O,hO⟩:=e_ (dc q M);rw[hO] at CI ⊢;have CI:=h_ CI;clear hv hM hf hO
 by_cases h0:0≤O
 ·have h1:decide (0≤O)=true:=decide_eq_true h0
  go_enter func80,ntmps80;go_wp2_with fail;refine CI.out.mono ?_;rintro e w1 ⟨rfl,hb⟩;go_wp2_with fail;go_ret;exact⟨by first | (rw[h1];rfl) | simp[h1],hb⟩
 ·have h1:decide (0≤O)=false:=decide_eq_false h0
  go_enter func80,ntmps80;go_wp2_with fail;refine CI.out.mono ?_;rintro e w1 ⟨rfl,hb⟩;go_wp2_with fail;go_ret;exact⟨by first | (rw[h1];rfl) | simp[h1],hb⟩

theorem ln (v f:Value) (q:TrI→Bool) (M:List TrI) (w:World) (hv:IsL trY v M w) (hM:M.length≤100000) (hf:gC (fun x:TrI=>trV x) f q M w):
  Calls prog 183 #[v,f] w (Ret w (.int .i64 (dc q M))):=by
 obtain⟨a,cap,xz,-⟩:=hv.form;obtain⟨g,lb,rfl,eg,hg⟩:=hf;obtain⟨O,hO⟩:=e_ (dc q M);obtain⟨L,hL⟩:=e_ M.length;rw[hL] at xz hM;rw[hO];subst xz;have HO:=h_ hO;have HL:=h_ hL;have HV:=h_ hv;have HG:=h_ hg;clear hO hL hv hg;go_enter func183,ntmps183;go_wp2_with fail;go_loopw [8] (fun i wx=>∃k:Nat,k≤L∧i=.int .i64 k∧(M.take k).any q=false∧Bl w wx) (fun i _=>L-(intOf i).toNat)
 case atStart=>exact⟨0,wt _,rfl,rfl,bQ _⟩
 case round=>
  obtain⟨k,hk,rfl,xp,xo⟩:=hrel;have xw:=xo.size
  by_cases hlt:k<L
  ·have xq : k < M.length := by rw [HL.out]; exact hlt
   obtain⟨x,hx⟩:=e_ (M[k]);obtain⟨b,off,cp,hf,-,hc⟩:=(HV.out.ret xo).cells (k:=k) (x:=x) (by rw[wq xq,hx]);rw[HL.out] at hf;simp only[wo,true_and] at hf;obtain⟨rfl,rfl⟩:=hf
   have xA:(M.take (k+1)).any q=q x:=by
    rw[wu xq,wv,xp,hx]
    simp
   have xB:q x=true→O=k:=fun h=>by rw[←HO.out];exact eO xq xp (by rw[hx];exact h)
   have xn:=HG.out x (by rw[←hx];exact ws xq) wr xo
   have c0:wr.cell? ⟨b,off+k,none⟩=some (trV x):=by
    have h:=hc wr (bQ _) 0 _ rfl
    rwa [show off+k*trY.n+0=off+k from (by show off+k*1+0=off+k;omega)] at h
   have CH:=h_ xn;obtain⟨y,hy⟩:=e_ (q x);rw[hy] at xA xB CH;have HS:=h_ xA;have HA:=h_ xB;clear hc xA xB xn hx hy xp xq
   cases y with
   | true=>
    have:=HA.out (by first | exact rfl | exact trivial);subst this;go_wp2_with (go_at_fn g;refine CH.out.mono ?_;rintro e w1 ⟨rfl,hb⟩);go_wp2_with fail;go_ret;exact⟨rfl,xo.trans (hb.mono xw)⟩
   | false=>
    go_wp2_with (go_at_fn g;refine CH.out.mono ?_;rintro e w1 ⟨rfl,hb⟩);have xu:=xo.trans (hb.mono xw);clear hb;go_wp2_with fail;go_roundw
    case rel=>exact⟨k+1,by omega,by go_num,HS.out,xu⟩
    case measure=>simp[intOf];omega
  ·have he:M.take k=M:=ww (by rw[HL.out];omega)
   rw[he] at xp;have:O=-1:=(by rw[←HO.out];exact bK xp);subst this;clear he xp;go_wp2_with fail;go_ret;exact⟨rfl,xo⟩
theorem lf (v f:Value) (q:NdI→Bool) (M:List NdI) (w:World) (hv:IsL ndY v M w) (hM:M.length≤100000) (hf:gC (fun x:NdI=>ndG x) f q M w):
  Calls prog 215 #[v,f] w (Ret w (.int .i64 (dc q M))):=by
 obtain⟨a,cap,xz,-⟩:=hv.form;obtain⟨g,lb,rfl,eg,hg⟩:=hf;obtain⟨O,hO⟩:=e_ (dc q M);obtain⟨L,hL⟩:=e_ M.length;rw[hL] at xz hM;rw[hO];subst xz;have HO:=h_ hO;have HL:=h_ hL;have HV:=h_ hv;have HG:=h_ hg;clear hO hL hv hg;go_enter func215,ntmps215;go_wp2_with fail;go_loopw [8] (fun i wx=>∃k:Nat,k≤L∧i=.int .i64 k∧(M.take k).any q=false∧Bl w wx) (fun i _=>L-(intOf i).toNat)
 case atStart=>exact⟨0,wt _,rfl,rfl,bQ _⟩
 case round=>
  obtain⟨k,hk,rfl,xp,xo⟩:=hrel;have xw:=xo.size
  by_cases hlt:k<L
  ·have xq : k < M.length := by rw [HL.out]; exact hlt
   obtain⟨x,hx⟩:=e_ (M[k]);obtain⟨b,off,cp,hf,-,hc⟩:=(HV.out.ret xo).cells (k:=k) (x:=x) (by rw[wq xq,hx]);rw[HL.out] at hf;simp only[wo,true_and] at hf;obtain⟨rfl,rfl⟩:=hf
   have xA:(M.take (k+1)).any q=q x:=by
    rw[wu xq,wv,xp,hx]
    simp
   have xB:q x=true→O=k:=fun h=>by rw[←HO.out];exact eO xq xp (by rw[hx];exact h)
   have xn:=HG.out x (by rw[←hx];exact ws xq) wr xo
   have c0:wr.cell? ⟨b,off+k*6,none⟩=some (.int .u8 x.1.1):=hc wr (bQ _) 0 _ rfl
   have c1:wr.cell? ⟨b,off+k*6+1,none⟩=some (.string ⟨x.1.2.1.toArray⟩):=hc wr (bQ _) 1 _ rfl
   have c2:wr.cell? ⟨b,off+k*6+2,none⟩=some (.string ⟨x.1.2.2.1.toArray⟩):=hc wr (bQ _) 2 _ rfl
   have c3:wr.cell? ⟨b,off+k*6+3,none⟩=some (ndV x):=hc wr (bQ _) 3 _ rfl
   have c4:wr.cell? ⟨b,off+k*6+4,none⟩=some (.string ⟨x.1.2.2.2.2.1.toArray⟩):=hc wr (bQ _) 4 _ rfl
   have c5:wr.cell? ⟨b,off+k*6+5,none⟩=some (.int .i64 x.1.2.2.2.2.2):=hc wr (bQ _) 5 _ rfl
   have CH:=h_ xn;obtain⟨y,hy⟩:=e_ (q x);rw[hy] at xA xB CH;have HS:=h_ xA;have HA:=h_ xB;clear hc xA xB xn hx hy xp xq
   cases y with
   | true=>
    have:=HA.out (by first | exact rfl | exact trivial);subst this;go_wp2_with (go_at_fn g;refine CH.out.mono ?_;rintro e w1 ⟨rfl,hb⟩);go_wp2_with fail;go_ret;exact⟨rfl,xo.trans (hb.mono xw)⟩
   | false=>
    go_wp2_with (go_at_fn g;refine CH.out.mono ?_;rintro e w1 ⟨rfl,hb⟩);have xu:=xo.trans (hb.mono xw);clear hb;go_wp2_with fail;go_roundw
    case rel=>exact⟨k+1,by omega,by go_num,HS.out,xu⟩
    case measure=>simp[intOf];omega
  ·have he:M.take k=M:=ww (by rw[HL.out];omega)
   rw[he] at xp;have:O=-1:=(by rw[←HO.out];exact bK xp);subst this;clear he xp;go_wp2_with fail;go_ret;exact⟨rfl,xo⟩
theorem lk (v f:Value) (q:At→Bool) (M:List At) (w:World) (hv:IsL atY v M w) (hM:M.length≤100000) (hf:gC (fun x:At=>atG x) f q M w):
  Calls prog 214 #[v,f] w (Ret w (.int .i64 (dc q M))):=by
 obtain⟨a,cap,xz,-⟩:=hv.form;obtain⟨g,lb,rfl,eg,hg⟩:=hf;obtain⟨O,hO⟩:=e_ (dc q M);obtain⟨L,hL⟩:=e_ M.length;rw[hL] at xz hM;rw[hO];subst xz;have HO:=h_ hO;have HL:=h_ hL;have HV:=h_ hv;have HG:=h_ hg;clear hO hL hv hg;go_enter func214,ntmps214;go_wp2_with fail;go_loopw [8] (fun i wx=>∃k:Nat,k≤L∧i=.int .i64 k∧(M.take k).any q=false∧Bl w wx) (fun i _=>L-(intOf i).toNat)
 case atStart=>exact⟨0,wt _,rfl,rfl,bQ _⟩
 case round=>
  obtain⟨k,hk,rfl,xp,xo⟩:=hrel;have xw:=xo.size
  by_cases hlt:k<L
  ·have xq : k < M.length := by rw [HL.out]; exact hlt
   obtain⟨x,hx⟩:=e_ (M[k]);obtain⟨b,off,cp,hf,-,hc⟩:=(HV.out.ret xo).cells (k:=k) (x:=x) (by rw[wq xq,hx]);rw[HL.out] at hf;simp only[wo,true_and] at hf;obtain⟨rfl,rfl⟩:=hf
   have xA:(M.take (k+1)).any q=q x:=by
    rw[wu xq,wv,xp,hx]
    simp
   have xB:q x=true→O=k:=fun h=>by rw[←HO.out];exact eO xq xp (by rw[hx];exact h)
   have xn:=HG.out x (by rw[←hx];exact ws xq) wr xo
   have c0:wr.cell? ⟨b,off+k*3,none⟩=some (.string ⟨x.1.toArray⟩):=hc wr (bQ _) 0 _ rfl
   have c1:wr.cell? ⟨b,off+k*3+1,none⟩=some (.string ⟨x.2.1.toArray⟩):=hc wr (bQ _) 1 _ rfl
   have c2:wr.cell? ⟨b,off+k*3+2,none⟩=some (.string ⟨x.2.2.toArray⟩):=hc wr (bQ _) 2 _ rfl
   have CH:=h_ xn;obtain⟨y,hy⟩:=e_ (q x);rw[hy] at xA xB CH;have HS:=h_ xA;have HA:=h_ xB;clear hc xA xB xn hx hy xp xq
   cases y with
   | true=>
    have:=HA.out (by first | exact rfl | exact trivial);subst this;go_wp2_with (go_at_fn g;refine CH.out.mono ?_;rintro e w1 ⟨rfl,hb⟩);go_wp2_with fail;go_ret;exact⟨rfl,xo.trans (hb.mono xw)⟩
   | false=>
    go_wp2_with (go_at_fn g;refine CH.out.mono ?_;rintro e w1 ⟨rfl,hb⟩);have xu:=xo.trans (hb.mono xw);clear hb;go_wp2_with fail;go_roundw
    case rel=>exact⟨k+1,by omega,by go_num,HS.out,xu⟩
    case measure=>simp[intOf];omega
  ·have he:M.take k=M:=ww (by rw[HL.out];omega)
   rw[he] at xp;have:O=-1:=(by rw[←HO.out];exact bK xp);subst this;clear he xp;go_wp2_with fail;go_ret;exact⟨rfl,xo⟩
theorem pn (v f:Value) (q:TrI→Bool) (M:List TrI) (w:World) (hv:IsL trY v M w) (hM:M.length≤100000) (hf:gC (fun x:TrI=>trV x) f q M w):
  Calls prog 136 #[v,f] w (Ret w (.bool (M.any q))):=by
 have CI:=ln v f q M w hv hM hf;obtain⟨a,cap,rfl,-⟩:=hv.form;rw[←cO];obtain⟨O,hO⟩:=e_ (dc q M);rw[hO] at CI ⊢;have CI:=h_ CI;clear hv hM hf hO
 by_cases h0:0≤O
 ·have h1:decide (0≤O)=true:=decide_eq_true h0
  go_enter func136,ntmps136;go_wp2_with fail;refine CI.out.mono ?_;rintro e w1 ⟨rfl,hb⟩;go_wp2_with fail;go_ret;exact⟨by first | (rw[h1];rfl) | simp[h1],hb⟩
 ·have h1:decide (0≤O)=false:=decide_eq_false h0
  go_enter func136,ntmps136;go_wp2_with fail;refine CI.out.mono ?_;rintro e w1 ⟨rfl,hb⟩;go_wp2_with fail;go_ret;exact⟨by first | (rw[h1];rfl) | simp[h1],hb⟩
theorem o6 (v f:Value) (q:NdI→Bool) (M:List NdI) (w:World) (hv:IsL ndY v M w) (hM:M.length≤100000) (hf:gC (fun x:NdI=>ndG x) f q M w):
  Calls prog 181 #[v,f] w (Ret w (.bool (M.any q))):=by
 have CI:=lf v f q M w hv hM hf;obtain⟨a,cap,rfl,-⟩:=hv.form;rw[←cO];obtain⟨O,hO⟩:=e_ (dc q M);rw[hO] at CI ⊢;have CI:=h_ CI;clear hv hM hf hO
 by_cases h0:0≤O
 ·have h1:decide (0≤O)=true:=decide_eq_true h0
  go_enter func181,ntmps181;go_wp2_with fail;refine CI.out.mono ?_;rintro e w1 ⟨rfl,hb⟩;go_wp2_with fail;go_ret;exact⟨by first | (rw[h1];rfl) | simp[h1],hb⟩
 ·have h1:decide (0≤O)=false:=decide_eq_false h0
  go_enter func181,ntmps181;go_wp2_with fail;refine CI.out.mono ?_;rintro e w1 ⟨rfl,hb⟩;go_wp2_with fail;go_ret;exact⟨by first | (rw[h1];rfl) | simp[h1],hb⟩
theorem kO (v f:Value) (q:At→Bool) (M:List At) (w:World) (hv:IsL atY v M w) (hM:M.length≤100000) (hf:gC (fun x:At=>atG x) f q M w):
  Calls prog 180 #[v,f] w (Ret w (.bool (M.any q))):=by
 have CI:=lk v f q M w hv hM hf;obtain⟨a,cap,rfl,-⟩:=hv.form;rw[←cO];obtain⟨O,hO⟩:=e_ (dc q M);rw[hO] at CI ⊢;have CI:=h_ CI;clear hv hM hf hO
 by_cases h0:0≤O
 ·have h1:decide (0≤O)=true:=decide_eq_true h0
  go_enter func180,ntmps180;go_wp2_with fail;refine CI.out.mono ?_;rintro e w1 ⟨rfl,hb⟩;go_wp2_with fail;go_ret;exact⟨by first | (rw[h1];rfl) | simp[h1],hb⟩
 ·have h1:decide (0≤O)=false:=decide_eq_false h0
  go_enter func180,ntmps180;go_wp2_with fail;refine CI.out.mono ?_;rintro e w1 ⟨rfl,hb⟩;go_wp2_with fail;go_ret;exact⟨by first | (rw[h1];rfl) | simp[h1],hb⟩

def pQ {α:Type} (Y:Ly α) (w:World) (M:List α) (e:Ending) (w':World):Prop:=∃a c,e=.returned (.slice a M.length c)∧w'.ownsRow w.heap.size Y.e Y.n (.slice a M.length c) M.length (Y.fl M)∧Bl w w'
theorem IsL.none {α:Type} {Y:Ly α} {n cap:Nat} {M:List α} {w:World} (h:IsL Y (.slice none n cap) M w):M=[]∧cap=0:=by
 obtain⟨⟨_,a,c,hv,h0,h1⟩,-,-⟩:=h;simp only[wo] at hv;obtain⟨rfl,_,rfl⟩:=hv;refine⟨?_,h0 rfl⟩
 rcases h1 with h1 | ⟨b,off,h1,_⟩
 ·exact List.eq_nil_of_length_eq_zero h1
 ·cases h1
theorem es:(prog.info? 33).map (fun i=>(i.zero,i.size,i.bytes))=some (some (.agg #[.string ⟨#[]⟩,.slice none 0 0,.int .i64 0]),3,48):=by kernel_rfl
theorem gq (v:Value) (M:List AcI) (w:World) (h:IsL acY v M w) (hz:M.length≤100000):Calls prog 61 #[v] w (pQ acY w M):=by
 obtain⟨a,cap,rfl,xC⟩:=h.form;have xr:cx 3 (.slice a M.length cap) M.length (acY.fl M) w:=h.1;obtain⟨i0,hi,xF,xG,xH⟩:=info_parts es
 have xI:∀(w:World) (a:Option Addr) (n c n' c':Nat),(binOp .eql 22 (.slice a n c) (.slice none n' c')).run prog w=.ok (.bool a.isNone) w:=fun w a n c n' c'=>wy w _ _ a n c n' c' underlying22
 cases a with
 | none=>
  obtain⟨h1,h2⟩:=IsL.none h;subst h1;simp only[wz] at h2 ⊢;subst h2;clear h xr xC;go_enter func61,ntmps61;go_wp2_with fail;go_ret;exact⟨none,0,rfl,wA _ _ _ _,bQ _⟩
 | some ad=>
  have xx:=dV acY M
  have xD:pQ acY w M=fun e w'=>∃a c,e=.returned (.slice a M.length c)∧w'.ownsRow w.heap.size 33 3 (.slice a M.length c) M.length (acY.fl M)∧Bl w w':=rfl
  rw[xD];obtain⟨L,hL⟩:=e_ M.length;obtain⟨X,hX⟩:=e_ (acY.fl M);rw[hL] at xr hz xC ⊢;rw[hX] at xr xx ⊢;have HR:=h_ xr;have H1:=h_ xx;clear hX xx h xr hL xD;go_enter func61,ntmps61;go_wp2_with (at_builtin;refine Hid.out ?_);refine h_ ?_;refine am rfl _ _ _ rfl w.heap.size 33 i0 _ 3 48 underlying22 hi xF xG xH rfl (by omega) _ 0 [] rfl (bb w (wh _)) (.slice (some ad) L cap) (by rfl) L X (HR.out.ret ((bQ _).alloc (wh _) _)) H1.out (by omega) (by omega) (by simp) ?_;intro v' w' xt xy;rw[wB,wC] at xt;have hb:=((bR w).alloc (wh _) (.cells #[] 33)).grown xy (by simp) (fun k hk=>by cases hk;exact wh _);obtain⟨a',c',rfl,_⟩:=aw xt;have HO:=h_ xt;clear xt xy xI;go_wp2_with fail;go_ret;exact⟨a',c',rfl,HO.out,hb⟩
theorem ck:(prog.info? 38).map (fun i=>(i.zero,i.size,i.bytes))=some (some (.agg #[.string ⟨#[]⟩,.bool false,.int .i64 0,.slice none 0 0,.bool false,.slice none 0 0]),6,88):=by kernel_rfl
theorem fG (v:Value) (M:List RsI) (w:World) (h:IsL rsY v M w) (hz:M.length≤100000):Calls prog 62 #[v] w (pQ rsY w M):=by
 obtain⟨a,cap,rfl,xC⟩:=h.form;have xr:cx 6 (.slice a M.length cap) M.length (rsY.fl M) w:=h.1;obtain⟨i0,hi,xF,xG,xH⟩:=info_parts ck
 have xI:∀(w:World) (a:Option Addr) (n c n' c':Nat),(binOp .eql 23 (.slice a n c) (.slice none n' c')).run prog w=.ok (.bool a.isNone) w:=fun w a n c n' c'=>wy w _ _ a n c n' c' underlying23
 cases a with
 | none=>
  obtain⟨h1,h2⟩:=IsL.none h;subst h1;simp only[wz] at h2 ⊢;subst h2;clear h xr xC;go_enter func62,ntmps62;go_wp2_with fail;go_ret;exact⟨none,0,rfl,wA _ _ _ _,bQ _⟩
 | some ad=>
  have xx:=dV rsY M
  have xD:pQ rsY w M=fun e w'=>∃a c,e=.returned (.slice a M.length c)∧w'.ownsRow w.heap.size 38 6 (.slice a M.length c) M.length (rsY.fl M)∧Bl w w':=rfl
  rw[xD];obtain⟨L,hL⟩:=e_ M.length;obtain⟨X,hX⟩:=e_ (rsY.fl M);rw[hL] at xr hz xC ⊢;rw[hX] at xr xx ⊢;have HR:=h_ xr;have H1:=h_ xx;clear hX xx h xr hL xD;go_enter func62,ntmps62;go_wp2_with (at_builtin;refine Hid.out ?_);refine h_ ?_;refine am rfl _ _ _ rfl w.heap.size 38 i0 _ 6 88 underlying23 hi xF xG xH rfl (by omega) _ 0 [] rfl (bb w (wh _)) (.slice (some ad) L cap) (by rfl) L X (HR.out.ret ((bQ _).alloc (wh _) _)) H1.out (by omega) (by omega) (by simp) ?_;intro v' w' xt xy;rw[wB,wC] at xt;have hb:=((bR w).alloc (wh _) (.cells #[] 38)).grown xy (by simp) (fun k hk=>by cases hk;exact wh _);obtain⟨a',c',rfl,_⟩:=aw xt;have HO:=h_ xt;clear xt xy xI;go_wp2_with fail;go_ret;exact⟨a',c',rfl,HO.out,hb⟩
theorem mf:(prog.info? 114).map (fun i=>(i.zero,i.size,i.bytes))=some (some (.agg #[.int .u8 0,.string ⟨#[]⟩,.string ⟨#[]⟩,.slice none 0 0,.string ⟨#[]⟩,.int .i64 0]),6,88):=by kernel_rfl
theorem ls (v:Value) (M:List NdI) (w:World) (h:IsL ndY v M w) (hz:M.length≤100000):Calls prog 163 #[v] w (pQ ndY w M):=by
 obtain⟨a,cap,rfl,xC⟩:=h.form;have xr:cx 6 (.slice a M.length cap) M.length (ndY.fl M) w:=h.1;obtain⟨i0,hi,xF,xG,xH⟩:=info_parts mf
 have xI:∀(w:World) (a:Option Addr) (n c n' c':Nat),(binOp .eql 108 (.slice a n c) (.slice none n' c')).run prog w=.ok (.bool a.isNone) w:=fun w a n c n' c'=>wy w _ _ a n c n' c' underlying108
 cases a with
 | none=>
  obtain⟨h1,h2⟩:=IsL.none h;subst h1;simp only[wz] at h2 ⊢;subst h2;clear h xr xC;go_enter func163,ntmps163;go_wp2_with fail;go_ret;exact⟨none,0,rfl,wA _ _ _ _,bQ _⟩
 | some ad=>
  have xx:=dV ndY M
  have xD:pQ ndY w M=fun e w'=>∃a c,e=.returned (.slice a M.length c)∧w'.ownsRow w.heap.size 114 6 (.slice a M.length c) M.length (ndY.fl M)∧Bl w w':=rfl
  rw[xD];obtain⟨L,hL⟩:=e_ M.length;obtain⟨X,hX⟩:=e_ (ndY.fl M);rw[hL] at xr hz xC ⊢;rw[hX] at xr xx ⊢;have HR:=h_ xr;have H1:=h_ xx;clear hX xx h xr hL xD;go_enter func163,ntmps163;go_wp2_with (at_builtin;refine Hid.out ?_);refine h_ ?_;refine am rfl _ _ _ rfl w.heap.size 114 i0 _ 6 88 underlying108 hi xF xG xH rfl (by omega) _ 0 [] rfl (bb w (wh _)) (.slice (some ad) L cap) (by rfl) L X (HR.out.ret ((bQ _).alloc (wh _) _)) H1.out (by omega) (by omega) (by simp) ?_;intro v' w' xt xy;rw[wB,wC] at xt;have hb:=((bR w).alloc (wh _) (.cells #[] 114)).grown xy (by simp) (fun k hk=>by cases hk;exact wh _);obtain⟨a',c',rfl,_⟩:=aw xt;have HO:=h_ xt;clear xt xy xI;go_wp2_with fail;go_ret;exact⟨a',c',rfl,HO.out,hb⟩
theorem l8:(prog.info? 160).map (fun i=>(i.zero,i.size,i.bytes))=some (some (.agg #[.string ⟨#[]⟩,.string ⟨#[]⟩,.string ⟨#[]⟩]),3,48):=by kernel_rfl
theorem lN (v:Value) (M:List At) (w:World) (h:IsL atY v M w) (hz:M.length≤100000):Calls prog 164 #[v] w (pQ atY w M):=by
 obtain⟨a,cap,rfl,xC⟩:=h.form;have xr:cx 3 (.slice a M.length cap) M.length (atY.fl M) w:=h.1;obtain⟨i0,hi,xF,xG,xH⟩:=info_parts l8
 have xI:∀(w:World) (a:Option Addr) (n c n' c':Nat),(binOp .eql 112 (.slice a n c) (.slice none n' c')).run prog w=.ok (.bool a.isNone) w:=fun w a n c n' c'=>wy w _ _ a n c n' c' underlying112
 cases a with
 | none=>
  obtain⟨h1,h2⟩:=IsL.none h;subst h1;simp only[wz] at h2 ⊢;subst h2;clear h xr xC;go_enter func164,ntmps164;go_wp2_with fail;go_ret;exact⟨none,0,rfl,wA _ _ _ _,bQ _⟩
 | some ad=>
  have xx:=dV atY M
  have xD:pQ atY w M=fun e w'=>∃a c,e=.returned (.slice a M.length c)∧w'.ownsRow w.heap.size 160 3 (.slice a M.length c) M.length (atY.fl M)∧Bl w w':=rfl
  rw[xD];obtain⟨L,hL⟩:=e_ M.length;obtain⟨X,hX⟩:=e_ (atY.fl M);rw[hL] at xr hz xC ⊢;rw[hX] at xr xx ⊢;have HR:=h_ xr;have H1:=h_ xx;clear hX xx h xr hL xD;go_enter func164,ntmps164;go_wp2_with (at_builtin;refine Hid.out ?_);refine h_ ?_;refine am rfl _ _ _ rfl w.heap.size 160 i0 _ 3 48 underlying112 hi xF xG xH rfl (by omega) _ 0 [] rfl (bb w (wh _)) (.slice (some ad) L cap) (by rfl) L X (HR.out.ret ((bQ _).alloc (wh _) _)) H1.out (by omega) (by omega) (by simp) ?_;intro v' w' xt xy;rw[wB,wC] at xt;have hb:=((bR w).alloc (wh _) (.cells #[] 160)).grown xy (by simp) (fun k hk=>by cases hk;exact wh _);obtain⟨a',c',rfl,_⟩:=aw xt;have HO:=h_ xt;clear xt xy xI;go_wp2_with fail;go_ret;exact⟨a',c',rfl,HO.out,hb⟩

def vT {α:Type} (val:α→Value) (f:Value) (t:ByteArray) (q:α→Int) (M:List α) (w:World):Prop:=∃g lb,f=.func (.func g) #[] lb∧(∀args w,(callFunc g args).run prog w=.ok (.enter g args) w)∧∀p∈M,∀W,Bl w W→Calls prog g (#[val p,.string t]++lb) W (Ret W (.int .i64 (q p)))
theorem kQ (v f:Value) (t:ByteArray) (q:AcI→Int) (M:List AcI) (N:Nat) (F:Bool) (w:World) (hv:IsL acY v M w) (hM:M.length≤100000) (hf:vT (fun x:AcI=>x.v) f t q M w) (hN:N≤M.length)
  (hq:∀k (h:k<M.length),decide (q M[k] < 0)=decide (k<N)) (xK:∀(h:N<M.length),F=decide (q M[N]=0)) (xL:¬ N<M.length→F=false):
  Calls prog 117 #[v,.string t,f] w (Ret w (.tuple #[.int .i64 N,.bool F])):=by
 obtain⟨a,cap,xz,-⟩:=hv.form;obtain⟨g,lb,rfl,eg,hg⟩:=hf;obtain⟨L,hL⟩:=e_ M.length;rw[hL] at xz hM hN;subst xz;have HL:=h_ hL;have HV:=h_ hv;have HG:=h_ hg;have HQ:=h_ hq;have F1:=h_ xK;have F2:=h_ xL;clear hL hv hg hq xK xL;go_enter func117,ntmps117;go_wp2_with fail;go_loopw [9,10] (fun i j wx=>∃lo hi:Nat,i=.int .i64 lo∧j=.int .i64 hi∧lo≤N∧N≤hi∧hi≤L∧Bl w wx) (fun i j _=>(intOf j).toNat-(intOf i).toNat)
 case atStart=>exact⟨0,L,rfl,rfl,wt _,hN,wh _,bQ _⟩
 case round=>
  obtain⟨lo,hi,rfl,rfl,h1,h2,h3,xo⟩:=hrel;have xw:=xo.size
  by_cases hlt:lo<hi
  ·obtain⟨m,hm⟩:=e_ ((lo+hi) / 2)
   have xM:(((lo:Int)+(hi:Int)) / 2)=(m:Int):=(by omega);have xN:lo≤m:=(by omega);have xO:m<hi:=(by omega);have xq:m<M.length:=(by rw[HL.out];omega);have xP:m<L:=(by omega);obtain⟨x,hx⟩:=e_ (M[m]);obtain⟨b,off,cp,hf,-,hc⟩:=(HV.out.ret xo).cells (k:=m) (x:=x) (by rw[wq xq,hx]);rw[HL.out] at hf;simp only[wo,true_and] at hf;obtain⟨rfl,rfl⟩:=hf;have xE:=HQ.out m xq;have xn:=HG.out x (by rw[←hx];exact ws xq) wr xo
   have c0:wr.cell? ⟨b,off+m*3,none⟩=some (.string ⟨x.j.toArray⟩):=hc wr (bQ _) 0 _ rfl
   have c1:wr.cell? ⟨b,off+m*3+1,none⟩=some (x.iv):=hc wr (bQ _) 1 _ rfl
   have c2:wr.cell? ⟨b,off+m*3+2,none⟩=some (.int .i64 x.ver):=hc wr (bQ _) 2 _ rfl
   rw[hx] at xE;obtain⟨y,hy⟩:=e_ (q x);rw[hy] at xE xn;have CH:=h_ xn;have HM:=h_ hm;clear hc hx hy xn hm xq
   by_cases hyn:y<0
   ·have xJ : m < N := by rw [decide_eq_true hyn] at xE; exact of_decide_eq_true xE.symm
    clear xE;go_wp2_with (go_at_fn g;refine CH.out.mono ?_;rintro e w1 ⟨rfl,hb⟩);have xu:=xo.trans (hb.mono xw);clear hb;go_wp2_with fail;go_roundw
    case rel=>exact⟨m+1,hi,by first | rfl | go_num,rfl,xJ,h2,h3,xu⟩
    case measure=>simp[intOf];omega
   ·have xJ : N ≤ m := by rw [decide_eq_false hyn] at xE; have := of_decide_eq_false xE.symm; omega
    clear xE;go_wp2_with (go_at_fn g;refine CH.out.mono ?_;rintro e w1 ⟨rfl,hb⟩);have xu:=xo.trans (hb.mono xw);clear hb;go_wp2_with fail;go_roundw
    case rel=>exact⟨lo,m,rfl,by first | rfl | go_num,h1,xJ,by omega,xu⟩
    case measure=>simp[intOf];omega
  ·obtain rfl : lo = N := by omega
   obtain rfl:hi=lo:=by omega
   by_cases hNL:hi<L
   ·have xq : hi < M.length := by rw [HL.out]; exact hNL
    obtain⟨x,hx⟩:=e_ (M[hi]);obtain⟨b,off,cp,hf,-,hc⟩:=(HV.out.ret xo).cells (k:=hi) (x:=x) (by rw[wq xq,hx]);rw[HL.out] at hf;simp only[wo,true_and] at hf;obtain⟨rfl,rfl⟩:=hf;have hF:=F1.out xq;have xn:=HG.out x (by rw[←hx];exact ws xq) wr xo
    have c0:wr.cell? ⟨b,off+hi*3,none⟩=some (.string ⟨x.j.toArray⟩):=hc wr (bQ _) 0 _ rfl
    have c1:wr.cell? ⟨b,off+hi*3+1,none⟩=some (x.iv):=hc wr (bQ _) 1 _ rfl
    have c2:wr.cell? ⟨b,off+hi*3+2,none⟩=some (.int .i64 x.ver):=hc wr (bQ _) 2 _ rfl
    rw[hx] at hF;obtain⟨y,hy⟩:=e_ (q x);rw[hy] at hF xn;have CH:=h_ xn;have HF:=h_ hF;clear hc hx hy xn hF xq
    by_cases hyn:y=0
    ·go_wp2_with (go_at_fn g;refine CH.out.mono ?_;rintro e w1 ⟨rfl,hb⟩)
     have xu:=xo.trans (hb.mono xw);clear hb;go_wp2_with fail;go_ret2;exact⟨by rw[HF.out];first | rfl | simp[hyn],xu⟩
    ·go_wp2_with (go_at_fn g;refine CH.out.mono ?_;rintro e w1 ⟨rfl,hb⟩)
     have xu:=xo.trans (hb.mono xw);clear hb;go_wp2_with fail;go_ret2;exact⟨by rw[HF.out];first | rfl | simp[hyn],xu⟩
   ·have hF:=F2.out (by rw[HL.out];exact hNL)
    subst hF;go_wp2_with fail;go_ret2;exact⟨rfl,xo⟩
theorem kF (v f:Value) (t:ByteArray) (q:RsI→Int) (M:List RsI) (N:Nat) (F:Bool) (w:World) (hv:IsL rsY v M w) (hM:M.length≤100000) (hf:vT (fun x:RsI=>x.v) f t q M w) (hN:N≤M.length)
  (hq:∀k (h:k<M.length),decide (q M[k] < 0)=decide (k<N)) (xK:∀(h:N<M.length),F=decide (q M[N]=0)) (xL:¬ N<M.length→F=false):
  Calls prog 153 #[v,.string t,f] w (Ret w (.tuple #[.int .i64 N,.bool F])):=by
 obtain⟨a,cap,xz,-⟩:=hv.form;obtain⟨g,lb,rfl,eg,hg⟩:=hf;obtain⟨L,hL⟩:=e_ M.length;rw[hL] at xz hM hN;subst xz;have HL:=h_ hL;have HV:=h_ hv;have HG:=h_ hg;have HQ:=h_ hq;have F1:=h_ xK;have F2:=h_ xL;clear hL hv hg hq xK xL;go_enter func153,ntmps153;go_wp2_with fail;go_loopw [9,10] (fun i j wx=>∃lo hi:Nat,i=.int .i64 lo∧j=.int .i64 hi∧lo≤N∧N≤hi∧hi≤L∧Bl w wx) (fun i j _=>(intOf j).toNat-(intOf i).toNat)
 case atStart=>exact⟨0,L,rfl,rfl,wt _,hN,wh _,bQ _⟩
 case round=>
  obtain⟨lo,hi,rfl,rfl,h1,h2,h3,xo⟩:=hrel;have xw:=xo.size
  by_cases hlt:lo<hi
  ·obtain⟨m,hm⟩:=e_ ((lo+hi) / 2)
   have xM:(((lo:Int)+(hi:Int)) / 2)=(m:Int):=(by omega);have xN:lo≤m:=(by omega);have xO:m<hi:=(by omega);have xq:m<M.length:=(by rw[HL.out];omega);have xP:m<L:=(by omega);obtain⟨x,hx⟩:=e_ (M[m]);obtain⟨b,off,cp,hf,-,hc⟩:=(HV.out.ret xo).cells (k:=m) (x:=x) (by rw[wq xq,hx]);rw[HL.out] at hf;simp only[wo,true_and] at hf;obtain⟨rfl,rfl⟩:=hf;have xE:=HQ.out m xq;have xn:=HG.out x (by rw[←hx];exact ws xq) wr xo
   have c0:wr.cell? ⟨b,off+m*6,none⟩=some (.string ⟨x.j.toArray⟩):=hc wr (bQ _) 0 _ rfl
   have c1:wr.cell? ⟨b,off+m*6+1,none⟩=some (.bool x.on):=hc wr (bQ _) 1 _ rfl
   have c2:wr.cell? ⟨b,off+m*6+2,none⟩=some (.int .i64 x.pr):=hc wr (bQ _) 2 _ rfl
   have c3:wr.cell? ⟨b,off+m*6+3,none⟩=some (x.lv):=hc wr (bQ _) 3 _ rfl
   have c4:wr.cell? ⟨b,off+m*6+4,none⟩=some (.bool x.ask):=hc wr (bQ _) 4 _ rfl
   have c5:wr.cell? ⟨b,off+m*6+5,none⟩=some (x.sv):=hc wr (bQ _) 5 _ rfl
   rw[hx] at xE;obtain⟨y,hy⟩:=e_ (q x);rw[hy] at xE xn;have CH:=h_ xn;have HM:=h_ hm;clear hc hx hy xn hm xq
   by_cases hyn:y<0
   ·have xJ : m < N := by rw [decide_eq_true hyn] at xE; exact of_decide_eq_true xE.symm
    clear xE;go_wp2_with (go_at_fn g;refine CH.out.mono ?_;rintro e w1 ⟨rfl,hb⟩);have xu:=xo.trans (hb.mono xw);clear hb;go_wp2_with fail;go_roundw
    case rel=>exact⟨m+1,hi,by first | rfl | go_num,rfl,xJ,h2,h3,xu⟩
    case measure=>simp[intOf];omega
   ·have xJ : N ≤ m := by rw [decide_eq_false hyn] at xE; have := of_decide_eq_false xE.symm; omega
    clear xE;go_wp2_with (go_at_fn g;refine CH.out.mono ?_;rintro e w1 ⟨rfl,hb⟩);have xu:=xo.trans (hb.mono xw);clear hb;go_wp2_with fail;go_roundw
    case rel=>exact⟨lo,m,rfl,by first | rfl | go_num,h1,xJ,by omega,xu⟩
    case measure=>simp[intOf];omega
  ·obtain rfl : lo = N := by omega
   obtain rfl:hi=lo:=by omega
   by_cases hNL:hi<L
   ·have xq : hi < M.length := by rw [HL.out]; exact hNL
    obtain⟨x,hx⟩:=e_ (M[hi]);obtain⟨b,off,cp,hf,-,hc⟩:=(HV.out.ret xo).cells (k:=hi) (x:=x) (by rw[wq xq,hx]);rw[HL.out] at hf;simp only[wo,true_and] at hf;obtain⟨rfl,rfl⟩:=hf;have hF:=F1.out xq;have xn:=HG.out x (by rw[←hx];exact ws xq) wr xo
    have c0:wr.cell? ⟨b,off+hi*6,none⟩=some (.string ⟨x.j.toArray⟩):=hc wr (bQ _) 0 _ rfl
    have c1:wr.cell? ⟨b,off+hi*6+1,none⟩=some (.bool x.on):=hc wr (bQ _) 1 _ rfl
    have c2:wr.cell? ⟨b,off+hi*6+2,none⟩=some (.int .i64 x.pr):=hc wr (bQ _) 2 _ rfl
    have c3:wr.cell? ⟨b,off+hi*6+3,none⟩=some (x.lv):=hc wr (bQ _) 3 _ rfl
    have c4:wr.cell? ⟨b,off+hi*6+4,none⟩=some (.bool x.ask):=hc wr (bQ _) 4 _ rfl
    have c5:wr.cell? ⟨b,off+hi*6+5,none⟩=some (x.sv):=hc wr (bQ _) 5 _ rfl
    rw[hx] at hF;obtain⟨y,hy⟩:=e_ (q x);rw[hy] at hF xn;have CH:=h_ xn;have HF:=h_ hF;clear hc hx hy xn hF xq
    by_cases hyn:y=0
    ·go_wp2_with (go_at_fn g;refine CH.out.mono ?_;rintro e w1 ⟨rfl,hb⟩)
     have xu:=xo.trans (hb.mono xw);clear hb;go_wp2_with fail;go_ret2;exact⟨by rw[HF.out];first | rfl | simp[hyn],xu⟩
    ·go_wp2_with (go_at_fn g;refine CH.out.mono ?_;rintro e w1 ⟨rfl,hb⟩)
     have xu:=xo.trans (hb.mono xw);clear hb;go_wp2_with fail;go_ret2;exact⟨by rw[HF.out];first | rfl | simp[hyn],xu⟩
   ·have hF:=F2.out (by rw[HL.out];exact hNL)
    subst hF;go_wp2_with fail;go_ret2;exact⟨rfl,xo⟩
end Go.Proofs.YtjgeiieiinmdnaaGreatDoor
