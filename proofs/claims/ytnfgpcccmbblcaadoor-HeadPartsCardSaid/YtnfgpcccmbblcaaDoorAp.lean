/- Lists of fields put together: appends onto an empty row of the call's own. -/
import Derived.Test.YtnfgpcccmbblcaaDoorHdC
import Derived.RangeFuncRecord
namespace Go.Proofs.YtnfgpcccmbblcaaDoor
open Go.RowKit

/-- An empty row of the call's own. -/
theorem ap_new {B : Nat} {w W : World} (K : Nat) (h : Below B w W) (hB : B ≤ w.heap.size) (hK : K = W.heap.size) : (W.alloc (.cells #[] 52)).ownsRow B 52 2 (.slice (some ⟨K, 0, none⟩) 0 0) 0 [] := by
  subst hK
  have := h.size
  refine ⟨rfl, .inr ⟨W.heap.size, 0, #[], rfl, by omega, ?_, Nat.le_refl _, by simp [maxLen], rfl, rfl⟩⟩
  exact World.alloc_heap_new W _
/-- A row of one pair. -/
theorem ap_two {B : Nat} {w W : World} (K : Nat) (a b : Value) (h : Below B w W) (hB : B ≤ w.heap.size) (hK : K = W.heap.size) : (W.alloc (.cells #[a, b] 52)).ownsRow B 52 2 (.slice (some ⟨K, 0, none⟩) 1 1) 1 [a, b] := by
  subst hK
  have := h.size
  refine ⟨rfl, .inr ⟨W.heap.size, 1, #[a, b], rfl, by omega, ?_, Nat.le_refl _, by simp [maxLen], rfl, rfl⟩⟩
  exact World.alloc_heap_new W _
theorem ap_ne {B g K : Nat} {e : TypeId} {W : World} {a b : Value} (h0 : W.ownsRow B e 2 (.slice (some ⟨g, 0, none⟩) 0 0) 0 []) (h1 : W.ownsRow B e 2 (.slice (some ⟨K, 0, none⟩) 1 1) 1 [a, b]) : K ≠ g := by
  rintro rfl
  rcases h0.2 with ⟨h, _⟩ | ⟨g0, c0, u0, e0, _, k0, _, _, z0, _⟩
  · cases h
  rcases h1.2 with ⟨h, _⟩ | ⟨g1, c1, u1, e1, _, k1, _, _, z1, _⟩
  · cases h
  cases e0
  cases e1
  rw [k0] at k1
  cases k1
  omega
theorem ap_below {B n : Nat} {e : TypeId} {size : Nat} {v : Value} {xs : List Value} {w W w1 : World} (hb : Below B w W) (hB : B ≤ w.heap.size) (hown : W.ownsRow B e size v n xs) (hg : W.grownBy w1 v.ownBlock) : Below B w w1 :=
  hb.grown hg (Nat.le_trans hB hb.size) (fun r hr => (hown.lt r hr).1)
theorem ap_pairs {B m : Nat} {l : List Pr} {v : Value} {pn pv : ByteArray} {W : World} (hm : l.length = m) (h : W.ownsRow B 52 2 v (0 + m + 1) ([] ++ prV l ++ [.string pn, .string pv])) : IsPairs v (l ++ [(pn.data.toList, pv.data.toList)]) W := by
  unfold IsPairs
  rw [List.length_append, hm, prV_app]
  have := own_row h
  rw [Nat.zero_add] at this
  exact this
end Go.Proofs.YtnfgpcccmbblcaaDoor
