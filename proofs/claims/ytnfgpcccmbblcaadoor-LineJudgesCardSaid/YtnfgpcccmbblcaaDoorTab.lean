/- strconv.Itoa, over the table of powers that it reads. -/
import Derived.Test.YtnfgpcccmbblcaaDoorKit
import Derived.Test.YtnfgpcccmbblcaaDoorShelf
import Derived.WalkSmall
import Derived.Lib.ItoaMem
namespace Go.Proofs.YtnfgpcccmbblcaaDoor
open Go.RowKit Go.Sort

/-- The table that Itoa reads lies in the world. -/
def Tab (w : World) : Prop := Lib.TabIs Tryd.prog w "internal/strconv.uint64pow10" .u64 Lib.pow10Tab
theorem gPow : Tryd.prog.globalNamed "internal/strconv.uint64pow10" = some 1 := by kernel_rfl
theorem Tab.below {B : Nat} {w w' : World} (h : Tab w) (hb : Below B w w') (hB : 1 < B) : Tab w' := var?_below hb gPow hB h
theorem Tab.lt {w : World} (h : Tab w) : 1 < w.heap.size := by
  have h1 : w.var? Tryd.prog "internal/strconv.uint64pow10" = some (Lib.pow10Tab.map fun z => Value.int .u64 z).toArray := h
  unfold World.var? at h1
  rw [gPow] at h1
  simp only [Option.bind_some] at h1
  rcases Nat.lt_or_ge 1 w.heap.size with h2 | h2
  · exact h2
  · rw [Array.getElem?_eq_none h2] at h1
    cases h1
theorem Tab.ret {w w' : World} (h : Tab w) (hb : Below w.heap.size w w') : Tab w' := h.below hb h.lt
theorem itoa_nat (n : Nat) : Lib.itoa (n : Int) = Lib.decDigits n := by
  unfold Lib.itoa
  rw [if_neg (by omega)]
  simp

theorem below_grow (w : World) (k : Nat) (os : Array Obj) : Below w.heap.size w (grow (w.drewN k) os) := by
  refine ⟨rfl, rfl, rfl, ?_, fun i hi => ?_⟩
  · show w.heap.size ≤ (w.heap ++ os).size
    simp
  · show (w.heap ++ os)[i]? = w.heap[i]?
    rw [Array.getElem?_append_left hi]
theorem Itoa_c (n : Nat) (hn : n ≤ 9223372036854775807) (w : World) (ht : Tab w) : Calls Tryd.prog 56 #[.int .i64 n] w (Ret w (.string ⟨(Lib.decDigits n).toArray⟩)) := by
  refine (Tryd.strconv_Itoa n (by omega) (by omega) w ht).mono ?_
  rintro e w' ⟨rfl, k, os, rfl⟩
  rw [itoa_nat]
  exact ⟨rfl, below_grow w k os⟩

end Go.Proofs.YtnfgpcccmbblcaaDoor
