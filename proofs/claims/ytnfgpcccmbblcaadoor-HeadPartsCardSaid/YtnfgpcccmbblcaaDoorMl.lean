/- internal/bytealg.MaxLen: a number, by the world's shape. -/
import Derived.Test.YtnfgpcccmbblcaaDoorSpl
import Derived.ShapedOpen
import Derived.Shelf.Vars
namespace Go.Proofs.YtnfgpcccmbblcaaDoor
open Go.RowKit

theorem ML.of {w : World} (h : ∃ m : Int, w.cell? ⟨0, 0, none⟩ = some (.int .i64 m)) : ML w := by
  obtain ⟨m, h⟩ := h
  refine ⟨?_, m, h⟩
  rcases Nat.lt_or_ge 0 w.heap.size with h' | h'
  · exact h'
  · simp [World.cell?, Array.getElem?_eq_none h'] at h
theorem ML.shaped {W : World} (h : W.ShapedOpen Tryd.prog) : ML W :=
  ML.of (cell_of_shapedOpen_int (P := Tryd.prog) (g := 0) (t := 3) (zero := #[.int .i64 0]) h (of_decide_eq_true (by kernel_rfl)) (by kernel_rfl) rfl (by kernel_rfl) (by kernel_rfl) Tryd.underlying3)
end Go.Proofs.YtnfgpcccmbblcaaDoor
