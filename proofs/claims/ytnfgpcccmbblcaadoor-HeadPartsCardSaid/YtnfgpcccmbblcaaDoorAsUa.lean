/- Contracts of ascii's functions, their answers named. -/
import Derived.Test.YtnfgpcccmbblcaaDoorAsN
namespace Go.Proofs.YtnfgpcccmbblcaaDoor
open Go.RowKit

theorem ret_thru {w w1 w2 : World} (h1 : Below w.heap.size w w1) (h2 : Below w1.heap.size w1 w2) : Below w.heap.size w w2 := h1.trans (h2.mono h1.size)
theorem bytes_of {l : List UInt8} {t : ByteArray} (h : l = t.data.toList) : (⟨l.toArray⟩ : ByteArray) = t := str_ext h
theorem lower_at (s t : ByteArray) (w : World) (hs : s.size ≤ 1000000) (h : lowL s.data.toList = t.data.toList) : Calls Tryd.prog 52 #[.string s] w (Ret w (.string t)) := by
  have := as_Lower s w hs
  rwa [bytes_of h] at this
theorem trim_at (s t : ByteArray) (w : World) (hs : s.size ≤ 1000000) (h : trm s.data.toList = t.data.toList) : Calls Tryd.prog 53 #[.string s] w (Ret w (.string t)) := by
  have := as_Trim s w hs
  rwa [bytes_of h] at this
theorem token_at (s : ByteArray) (b : Bool) (w : World) (hs : s.size ≤ 1000000) (h : tok s.data.toList = b) : Calls Tryd.prog 27 #[.string s] w (Ret w (.bool b)) := h ▸ as_Token s w hs
theorem plain_at (s : ByteArray) (b : Bool) (w : World) (hs : s.size ≤ 1000000) (h : pln s.data.toList = b) : Calls Tryd.prog 51 #[.string s] w (Ret w (.bool b)) := h ▸ as_Plain s w hs
theorem same_at (s t : ByteArray) (b : Bool) (w : World) (hs : s.size ≤ 1000000) (ht : t.size ≤ 1000000) (h : decide (lowL s.data.toList = lowL t.data.toList) = b) : Calls Tryd.prog 30 #[.string s, .string t] w (Ret w (.bool b)) := h ▸ as_Same s t w hs ht
/-- List, its answer named. -/
theorem list_at (s : ByteArray) (E : Int) (V : List (List UInt8)) (w : World) (hs : s.size ≤ 1000000) (hE : lstE s.data.toList = E) (hV : lstV s.data.toList = V) :
    Calls Tryd.prog 74 #[.string s] w fun e w' => ∃ v, e = .returned (.tuple #[v, .int .i64 E]) ∧ IsVals v (strV V) w' ∧ Below w.heap.size w w' := by
  have := as_List s w hs
  unfold LstIs at this
  rwa [hE, hV] at this
theorem two_vals (w : World) (x y : List UInt8) : IsVals (.slice (some ⟨w.heap.size, 0, none⟩) 2 2) (strV [x, y]) (w.alloc (.cells #[.string ⟨x.toArray⟩, .string ⟨y.toArray⟩] 9)) := by
  refine ⟨some ⟨w.heap.size, 0, none⟩, 2, rfl, (fun h => by cases h), .inr ⟨w.heap.size, 0, rfl, by simp, fun j hj => ?_⟩⟩
  simp [strV] at hj
  rw [Nat.zero_add, World.cell?_alloc_new]
  match j, hj with
  | 0, _ => rfl
  | 1, _ => rfl
end Go.Proofs.YtnfgpcccmbblcaaDoor
