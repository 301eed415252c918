/- strings.Split at one byte: what is cut by that byte. The variable that it reads. -/
import Derived.Test.YtnfgpcccmbblcaaDoorAsK
import Derived.Test.YtnfgpcccmbblcaaDoorShelf
import Derived.Lib.SplitLaws
import Derived.Lib.IndexBytes
namespace Go.Proofs.YtnfgpcccmbblcaaDoor
open Go.RowKit

/-- internal/bytealg.MaxLen holds a number. -/
def ML (w : World) : Prop := 0 < w.heap.size ∧ ∃ m : Int, w.cell? ⟨0, 0, none⟩ = some (.int .i64 m)
theorem ML.ret {w w' : World} (h : ML w) (hb : Below w.heap.size w w') : ML w' := by
  obtain ⟨h1, m, h2⟩ := h
  exact ⟨Nat.lt_of_lt_of_le h1 hb.size, m, ((bcell hb).1 _ _ h1).trans h2⟩
theorem split_cut (c : UInt8) : ∀ (n : Nat) (s : ByteArray), s.size ≤ n → (Lib.splitB ⟨#[c]⟩ 0 (Lib.countB s ⟨#[c]⟩) s).map (·.data.toList) = cutG c [] s.data.toList := by
  intro n
  induction n with
  | zero =>
    intro s hs
    have hl : s.data.toList = [] := List.eq_nil_of_length_eq_zero (by rw [size_toList]; omega)
    have hi : Lib.indexB s ⟨#[c]⟩ = -1 := by
      show Lib.index s.data.toList [c] = -1
      rw [hl]
      rfl
    rw [Lib.countB_miss s ⟨#[c]⟩ hi, Lib.splitB_zero, hl]
    simp [hl, cutG]
  | succ n ih =>
    intro s hs
    rw [cutG_step, List.nil_append]
    rcases ib_cases c s.data.toList with ⟨h1, h2, h3, h4⟩ | ⟨i, h1, h0, h2, h3, h4⟩
    · have hi : Lib.indexB s ⟨#[c]⟩ = -1 := (Lib.index_one s.data.toList c).trans h1
      rw [Lib.countB_miss s ⟨#[c]⟩ hi, Lib.splitB_zero, h2, h4]
      simp
    · have hi : Lib.indexB s ⟨#[c]⟩ = i := (Lib.index_one s.data.toList c).trans h1
      have hsz : (⟨#[c]⟩ : ByteArray).size = 1 := rfl
      rw [size_toList] at h0
      have hk : Lib.countB s ⟨#[c]⟩ = Lib.countB (s.extract (i + 1) s.size) ⟨#[c]⟩ + 1 := by
        have := Lib.countB_hit s ⟨#[c]⟩ i (by rw [hsz]; exact Nat.le_refl _) hi
        rw [hsz] at this
        omega
      rw [hk, Lib.splitB_hit ⟨#[c]⟩ 0 _ s i hi, hsz, List.map_cons]
      rw [ih (s.extract (i + 1) s.size) (by rw [← size_toList, ext_tail, List.length_drop, size_toList]; omega)]
      rw [ext_tail, h2, h3, h4, ext_data]
      rfl
/-- strings.Split at one byte. -/
theorem st_Split1 (s : ByteArray) (c : UInt8) (w : World) (hs : s.size ≤ 1000000) (hm : ML w) : Calls Tryd.prog 60 #[.string s, .string ⟨#[c]⟩] w fun e w' => ∃ v, e = .returned v ∧ IsVals v (strV (cutG c [] s.data.toList)) w' ∧ Below w.heap.size w w' := by
  obtain ⟨_, m, hm⟩ := hm
  refine (Tryd.strings_Split s ⟨#[c]⟩ m w (by omega) hm (Nat.le_refl 1)).mono ?_
  rintro e w' ⟨rfl, rfl⟩
  have hl := Lib.splitB_all ⟨#[c]⟩ (Nat.le_refl 1) 0 _ s rfl
  have hd := split_cut c s.size s (Nat.le_refl _)
  obtain ⟨L, hL⟩ : ∃ L, Lib.splitB ⟨#[c]⟩ 0 (Lib.countB s ⟨#[c]⟩) s = L := ⟨_, rfl⟩
  rw [hL] at hl hd ⊢
  have hv : L.map Value.string = strV (cutG c [] s.data.toList) := by
    rw [← hd]
    unfold strV
    rw [List.map_map]
    exact List.map_congr_left fun x _ => by rw [Function.comp_apply, str_mk]
  have hn : (strV (cutG c [] s.data.toList)).length = Lib.countB s ⟨#[c]⟩ + 1 := by rw [← hv, List.length_map, hl]
  refine ⟨_, rfl, ⟨some ⟨w.heap.size, 0, none⟩, Lib.countB s ⟨#[c]⟩ + 1, by rw [hn], (fun h => by cases h), .inr ⟨w.heap.size, 0, rfl, by simp, fun j hj => ?_⟩⟩, (Below.refl _ w).alloc (Nat.le_refl _) _⟩
  rw [Nat.zero_add, World.cell?_alloc_new, hv]
  rw [List.getElem?_toArray, List.getElem?_eq_getElem hj]
end Go.Proofs.YtnfgpcccmbblcaaDoor
