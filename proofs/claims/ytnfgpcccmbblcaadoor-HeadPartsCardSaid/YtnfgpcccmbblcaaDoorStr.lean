/- A string turned into bytes: the block that is made, by its cells. -/
import Derived.Test.YtnfgpcccmbblcaaDoorKit
import Derived.Laws.IdiomStrings
import Derived.Lib.Strings
namespace Go.Proofs.YtnfgpcccmbblcaaDoor
open Go.RowKit
/-- '[]byte(s)': a slice over a new block C, of which the first cells are the string's bytes, and may be written. -/
theorem str_bytes {P : Program} (w : World) (src dst e : TypeId) (s : ByteArray) (hs : P.underlying src = some .string) (hd : P.underlying dst = some (.slice e)) (he : P.underlying e = some (.int .u8)) :
    ∃ cap C, (∀ j (h : j < s.size), C[j]? = some (.int .u8 (s[j].toNat : Int))) ∧ s.size ≤ C.size ∧
      (convert src dst (.string s)).run P w = .ok (.slice (some ⟨w.heap.size, 0, none⟩) s.size cap) (w.alloc (.cells C e (C.size, C.size + 1))).drew :=
  ⟨grownCap w s.size 0 e, bytesRow s (grownCap w s.size 0 e), fun j h => bytesRow_at s _ j h, by simp [bytesRow], run_bytes_of_string w src dst e s hs hd he⟩
theorem size_toList (s : ByteArray) : s.data.toList.length = s.size := by simp
theorem isEmpty_of_pos {s : ByteArray} (h : 0 < s.size) : s.toList.isEmpty = false := by
  rw [Lib.toList_data]
  have := size_toList s
  cases hl : s.data.toList with
  | nil => rw [hl] at this; simp at this; omega
  | cons => rfl
theorem ne_nil_of_pos {s : ByteArray} (h : 0 < s.size) : ¬ s.toList = [] := by
  have := isEmpty_of_pos h
  intro e
  rw [e] at this
  simp at this
theorem getElem_data (s : ByteArray) (j : Nat) (h : j < s.size) : s.data.toList[j]? = some s[j] := by
  rw [List.getElem?_eq_getElem (by rw [size_toList]; exact h)]
  rfl
end Go.Proofs.YtnfgpcccmbblcaaDoor
