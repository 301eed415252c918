/- slices.Equal and slices.Contains at lists of strings. -/
import Derived.Test.YtjgeiieiinmdnaaGreatDoorGc
import Derived.Test.YtjgeiieiinmdnaaGreatDoorShelf
open Go.Proofs.Tryz
open List renaming length_eq_zero_iff→wq,take_of_length_le→ws,mem_map→wt
namespace Go.Proofs.YtjgeiieiinmdnaaGreatDoor
open Go.RowKit

theorem bn {v:Value} {vs:List Value} {w:World} (h:bJ v vs w) {k:Nat} (hk:k<vs.length):∃b off cap,v=.slice (some ⟨b,off,none⟩) vs.length cap∧b<w.heap.size∧∀j (hj:j<vs.length),w.cell? ⟨b,off+j,none⟩=some vs[j]:=by
 obtain⟨a,cap,rfl,_,hc⟩:=h
 rcases hc with rfl | ⟨b,off,rfl,h1,h2⟩
 ·simp at hk
 ·exact⟨b,off,cap,rfl,h1,h2⟩
def bts (xs:List (List UInt8)):List ByteArray:=xs.map fun l=>⟨l.toArray⟩
theorem ef (xs:List (List UInt8)):(bts xs).length=xs.length:=by simp[bts]
theorem sf {xs ys:List (List UInt8)}:bts xs=bts ys↔xs=ys:=by
 constructor
 ·intro h
  have h2:=congrArg (List.map fun b:ByteArray=>b.data.toList) h
  simpa [bts,Function.comp_def] using h2
 ·rintro rfl
  rfl
theorem iS {v:Value} {xs:List (List UInt8)} {w:World} (h:bJ v (aY xs) w) (h0:0<xs.length):∃b off cap,v=.slice (some ⟨b,off,none⟩) xs.length cap∧∀j,j<(bts xs).length→w.cell? ⟨b,off+j,none⟩=some (.string ((bts xs).getD j ByteArray.empty)):=by
 obtain⟨b,off,cap,rfl,_,hc⟩:=bn h (k:=0) (by rw[aj];exact h0);refine⟨b,off,cap,by rw[aj],fun j hj=>?_⟩
 have hj':j<xs.length:=by simpa [bts] using hj
 rw[hc j (by rw[aj];exact hj')]
 simp[aY,bts,hj']
theorem gm (v u:Value) (xs ys:List (List UInt8)) (w:World) (hv:bJ v (aY xs) w) (hu:bJ u (aY ys) w) (hx:xs.length≤1000001) (hy:ys.length≤1000001):
  Calls prog 86 #[v,u] w (Ret w (.bool (decide (xs=ys)))):=by
 by_cases hl:xs.length=ys.length
 ·by_cases h0:ys.length=0
  ·have e1:xs=[]:=wq.1 (by omega)
   have e2:ys=[]:=wq.1 h0
   subst e1 e2;obtain⟨a,ca,rfl,_,_⟩:=hv;obtain⟨b,cb,rfl,_,_⟩:=hu;refine(Tryz.slices_Equal_string_empty a b ca 0 cb w (by decide)).mono ?_;rintro e w' ⟨rfl,rfl⟩;exact⟨rfl,bQ _⟩
  ·obtain⟨b,off,cap,rfl,hc⟩:=iS hv (by omega)
   obtain⟨b',off',cap',rfl,hc'⟩:=iS hu (by omega);refine(Tryz.slices_Equal_string b off xs.length cap b' off' ys.length cap' (bts xs) (bts ys) w (by rw[ef];omega) (by rw[ef];omega) (by omega) (by omega) hc hc').mono ?_;rintro e w' ⟨rfl,q,rfl⟩;refine⟨bY ?_,below_drewN w q⟩;rw[ws (by rw[ef];omega),ws (by rw[ef];omega)];exact decide_eq_decide.2 sf
 ·obtain⟨a,ca,rfl,_,_⟩:=hv
  obtain⟨b,cb,rfl,_,_⟩:=hu;rw[aj,aj];refine(Tryz.slices_Equal_string_lens a b xs.length ca ys.length cb w hl).mono ?_;rintro e w' ⟨rfl,rfl⟩;exact⟨bY (decide_eq_false (fun h=>hl (by rw[h]))).symm,bQ _⟩
theorem tJ {xs:List (List UInt8)} {x:List UInt8}:(⟨x.toArray⟩:ByteArray)∈bts xs↔x∈xs:=by
 constructor
 ·intro h
  obtain⟨y,hy,e⟩:=wt.1 h;have e2:=congrArg (fun b:ByteArray=>b.data.toList) e
  simp only at e2
  have e3:y=x:=by simpa using e2
  exact e3 ▸ hy
 ·intro h
  exact wt.2 ⟨x,h,rfl⟩
theorem cL (v:Value) (xs:List (List UInt8)) (x:List UInt8) (w:World) (hv:bJ v (aY xs) w) (hx:xs.length≤1000001):
  Calls prog 57 #[v,.string ⟨x.toArray⟩] w (Ret w (.bool (decide (x∈xs)))):=by
 by_cases h0:xs.length=0
 ·have e1:xs=[]:=wq.1 h0
  subst e1;obtain⟨a,ca,rfl,_,_⟩:=hv;refine(Tryz.slices_Contains_string_empty a ca ⟨x.toArray⟩ w).mono ?_;rintro e w' ⟨rfl,rfl⟩;exact⟨rfl,bQ _⟩
 ·obtain⟨b,off,cap,rfl,hc⟩:=iS hv (by omega)
  refine(Tryz.slices_Contains_string b off xs.length cap (bts xs) ⟨x.toArray⟩ w (by rw[ef];omega) (by omega) hc).mono ?_;rintro e w' ⟨rfl,rfl⟩;refine⟨bY ?_,bQ _⟩;rw[ws (by rw[ef];omega)];rw[Bool.eq_iff_iff,Lib.containsS_iff,tJ,decide_eq_true_eq]
end Go.Proofs.YtjgeiieiinmdnaaGreatDoor
