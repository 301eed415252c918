/- num.Write and num.Sum, and the document's (over the table of powers that strconv.Itoa reads). -/
import Derived.Test.YtgechifpappipaaDoorNumB
import Derived.Test.YtgechifpappipaaDoorNumK
import Derived.Test.YtgechifpappipaaDoorShelf
import Derived.WalkSmall
import Derived.Lib.ItoaMem
namespace Go.Proofs.YtgechifpappipaaDoor
open Go.RowKit Go.Sort

/-- The table that Itoa reads lies in the world. -/
def Tab (w : World) : Prop := Lib.TabIs Tryd.prog w "internal/strconv.uint64pow10" .u64 Lib.pow10Tab
theorem gPow : Tryd.prog.globalNamed "internal/strconv.uint64pow10" = some 0 := by kernel_rfl
theorem Tab.below {B : Nat} {w w' : World} (h : Tab w) (hb : Below B w w') (hB : 0 < B) : Tab w' := var?_below hb gPow hB h
theorem Tab.lt {w : World} (h : Tab w) : 0 < w.heap.size := by
  have h1 : w.var? Tryd.prog "internal/strconv.uint64pow10" = some (Lib.pow10Tab.map fun z => Value.int .u64 z).toArray := h
  unfold World.var? at h1
  rw [gPow] at h1
  simp only [Option.bind_some] at h1
  rcases Nat.lt_or_ge 0 w.heap.size with h2 | h2
  · exact h2
  · rw [Array.getElem?_eq_none h2] at h1
    cases h1
theorem Tab.ret {w w' : World} (h : Tab w) (hb : Below w.heap.size w w') : Tab w' := h.below hb h.lt
theorem itoa_nat (n : Nat) : Lib.itoa (n : Int) = Lib.decDigits n := by
  unfold Lib.itoa
  rw [if_neg (by omega)]
  simp

theorem below_grow (w : World) (k : Nat) (os : Array Obj) : Below w.heap.size w (grow (w.drewN k) os) := by
  refine ⟨rfl, rfl, rfl, ?_, fun i hi => ?_⟩
  · show w.heap.size ≤ (w.heap ++ os).size
    simp
  · show (w.heap ++ os)[i]? = w.heap[i]?
    rw [Array.getElem?_append_left hi]
theorem Itoa_c (n : Nat) (hn : n ≤ 9223372036854775807) (w : World) (ht : Tab w) : Calls Tryd.prog 20 #[.int .i64 n] w (Ret w (.string ⟨(Lib.decDigits n).toArray⟩)) := by
  refine (Tryd.strconv_Itoa n (by omega) (by omega) w ht).mono ?_
  rintro e w' ⟨rfl, k, os, rfl⟩
  rw [itoa_nat]
  exact ⟨rfl, below_grow w k os⟩

/-- num.Write of a number. -/
theorem num_Write_ok (n : Nat) (hn : n ≤ 9007199254740991) (w : World) (ht : Tab w) : Calls Tryd.prog 9 #[.int .i64 n] w (Ret w (.tuple #[.string ⟨(Lib.decDigits n).toArray⟩, .int .i64 0])) := by
  have c := fun w => Itoa_c n (by omega) w
  generalize Lib.decDigits n = d at c
  have C := Lib.hid c
  have HT := Lib.hid ht
  clear c ht
  go_enter Tryd.func9, Tryd.ntmps9
  go_wp2_with fail
  refine (num_from_t _ _ _ (by omega) (by omega) _).mono ?_
  rintro e w1 ⟨rfl, hb1⟩
  go_wp2_with fail
  refine (C.out _ (HT.out.ret hb1)).mono ?_
  rintro e w2 ⟨rfl, hb2⟩
  go_wp2_with fail
  go_ret2
  exact ⟨rfl, hb1.trans (hb2.mono hb1.size)⟩
theorem num_Write_no (n : Int) (hn : n < 0 ∨ 9007199254740991 < n) (w : World) : Calls Tryd.prog 9 #[.int .i64 n] w (Ret w (.tuple #[.string ⟨#[]⟩, .int .i64 2])) := by
  have HN := Lib.hid hn
  clear hn
  go_enter Tryd.func9, Tryd.ntmps9
  go_wp2_with fail
  refine (num_from_f _ _ _ (by have := HN.out; omega) _).mono ?_
  rintro e w1 ⟨rfl, hb1⟩
  go_wp2_with fail
  go_ret2
  exact ⟨rfl, hb1⟩
theorem ref06_Write_ok (n : Nat) (hn : n ≤ 9007199254740991) (w : World) : Calls Tryd.prog 10 #[.int .i64 n] w (Ret w (.tuple #[.string ⟨(Lib.decDigits n).toArray⟩, .int .i64 0])) := by
  have c := fun w => ref06_Digits n (by omega) w
  generalize Lib.decDigits n = d at c
  have C := Lib.hid c
  have h1 : (0 : Int) ≤ (n : Int) := by omega
  have h2 : (n : Int) ≤ 9007199254740991 := by omega
  clear c
  go_enter Tryd.func10, Tryd.ntmps10
  go_wp2_with fail
  refine (C.out _).mono ?_
  rintro e w1 ⟨rfl, hb1⟩
  go_wp2_with fail
  go_ret2
  exact ⟨rfl, hb1⟩
theorem ref06_Write_no (n : Int) (hn : n < 0 ∨ 9007199254740991 < n) (w : World) : Calls Tryd.prog 10 #[.int .i64 n] w (Ret w (.tuple #[.string ⟨#[]⟩, .int .i64 2])) := by
  rcases hn with h | h
  · go_enter Tryd.func10, Tryd.ntmps10
    go_wp2_with fail
    go_ret2
    exact ⟨rfl, Below.refl _ _⟩
  · have h1 : 0 ≤ n := by omega
    go_enter Tryd.func10, Tryd.ntmps10
    go_wp2_with fail
    go_ret2
    exact ⟨rfl, Below.refl _ _⟩

/-- A sum may be. -/
def SumOk (n m : Int) : Prop := 0 ≤ n ∧ n ≤ 9007199254740991 ∧ -9007199254740991 ≤ m ∧ m ≤ 9007199254740991 ∧ 0 ≤ n + m ∧ n + m ≤ 9007199254740991
theorem num_Sum_ok (n m : Int) (h : SumOk n m) (w : World) : Calls Tryd.prog 11 #[.int .i64 n, .int .i64 m] w (Ret w (.tuple #[.int .i64 (n + m), .int .i64 0])) := by
  obtain ⟨h1, h2, h3, h4, h5, h6⟩ := h
  go_enter Tryd.func11, Tryd.ntmps11
  go_wp2_with fail
  refine (num_from_t _ _ _ (by omega) (by omega) _).mono ?_
  rintro e w1 ⟨rfl, hb1⟩
  go_wp2_with fail
  refine (num_from_t _ _ _ (by omega) (by omega) _).mono ?_
  rintro e w2 ⟨rfl, hb2⟩
  go_wp2_with fail
  refine (num_from_t _ _ _ (by omega) (by omega) _).mono ?_
  rintro e w3 ⟨rfl, hb3⟩
  go_wp2_with fail
  go_ret2
  have q := hb1.trans (hb2.mono hb1.size)
  exact ⟨rfl, q.trans (hb3.mono q.size)⟩
theorem num_Sum_no1 (n m : Int) (h : n < 0 ∨ 9007199254740991 < n) (w : World) : Calls Tryd.prog 11 #[.int .i64 n, .int .i64 m] w (Ret w (.tuple #[.int .i64 0, .int .i64 2])) := by
  have HN := Lib.hid h
  clear h
  go_enter Tryd.func11, Tryd.ntmps11
  go_wp2_with fail
  refine (num_from_f _ _ _ (by have := HN.out; omega) _).mono ?_
  rintro e w1 ⟨rfl, hb1⟩
  go_wp2_with fail
  go_ret2
  exact ⟨rfl, hb1⟩
theorem num_Sum_no2 (n m : Int) (h1 : 0 ≤ n) (h2 : n ≤ 9007199254740991) (h : m < -9007199254740991 ∨ 9007199254740991 < m) (w : World) : Calls Tryd.prog 11 #[.int .i64 n, .int .i64 m] w (Ret w (.tuple #[.int .i64 0, .int .i64 2])) := by
  have HN := Lib.hid h
  clear h
  go_enter Tryd.func11, Tryd.ntmps11
  go_wp2_with fail
  refine (num_from_t _ _ _ (by omega) (by omega) _).mono ?_
  rintro e w1 ⟨rfl, hb1⟩
  go_wp2_with fail
  refine (num_from_f _ _ _ (by have := HN.out; omega) _).mono ?_
  rintro e w2 ⟨rfl, hb2⟩
  go_wp2_with fail
  go_ret2
  exact ⟨rfl, hb1.trans (hb2.mono hb1.size)⟩
theorem num_Sum_no3 (n m : Int) (h1 : 0 ≤ n) (h2 : n ≤ 9007199254740991) (h3 : -9007199254740991 ≤ m) (h4 : m ≤ 9007199254740991) (h : n + m < 0 ∨ 9007199254740991 < n + m) (w : World) : Calls Tryd.prog 11 #[.int .i64 n, .int .i64 m] w (Ret w (.tuple #[.int .i64 0, .int .i64 2])) := by
  have HN := Lib.hid h
  clear h
  go_enter Tryd.func11, Tryd.ntmps11
  go_wp2_with fail
  refine (num_from_t _ _ _ (by omega) (by omega) _).mono ?_
  rintro e w1 ⟨rfl, hb1⟩
  go_wp2_with fail
  refine (num_from_t _ _ _ (by omega) (by omega) _).mono ?_
  rintro e w2 ⟨rfl, hb2⟩
  go_wp2_with fail
  refine (num_from_f _ _ _ (by have := HN.out; omega) _).mono ?_
  rintro e w3 ⟨rfl, hb3⟩
  go_wp2_with fail
  go_ret2
  have q := hb1.trans (hb2.mono hb1.size)
  exact ⟨rfl, q.trans (hb3.mono q.size)⟩
theorem num_Sum_no (n m : Int) (h : ¬ SumOk n m) (w : World) : Calls Tryd.prog 11 #[.int .i64 n, .int .i64 m] w (Ret w (.tuple #[.int .i64 0, .int .i64 2])) := by
  unfold SumOk at h
  by_cases h1 : n < 0 ∨ 9007199254740991 < n
  · exact num_Sum_no1 n m h1 w
  by_cases h2 : m < -9007199254740991 ∨ 9007199254740991 < m
  · exact num_Sum_no2 n m (by omega) (by omega) h2 w
  exact num_Sum_no3 n m (by omega) (by omega) (by omega) (by omega) (by omega) w
end Go.Proofs.YtgechifpappipaaDoor
