/- ascii.Trim (by the shelf's strings.Trim at an ASCII cutset). -/
import Derived.Test.YtnfgpcccmbblcaaDoorAsI
import Derived.Test.YtnfgpcccmbblcaaDoorShelf
import Derived.Shelf.Strings.SlTrimAscii
namespace Go.Proofs.YtnfgpcccmbblcaaDoor
open Go.RowKit

theorem blk_mem (c : UInt8) : ([32, 9] : List UInt8).contains c = blk c := by
  unfold blk
  rw [List.contains_cons, List.contains_cons, List.contains_nil, Bool.or_false]
theorem trmR_cons (c : UInt8) (l : List UInt8) : trmR (c :: l) = if (trmR l).isEmpty then (if blk c then [] else [c]) else c :: trmR l := by
  unfold trmR
  rw [List.reverse_cons, List.dropWhile_append]
  cases h : (l.reverse.dropWhile blk).isEmpty with
  | true =>
    rw [if_pos rfl, if_pos (by rw [List.isEmpty_iff] at h ⊢; rw [h]; rfl)]
    cases hc : blk c <;> simp [hc]
  | false =>
    rw [if_neg (by simp), if_neg (by simp only [Bool.not_eq_true]; rw [List.isEmpty_eq_false_iff] at h ⊢; simpa using h)]
    simp
theorem trm_comm (l : List UInt8) : trm l = (trmR l).dropWhile blk := by
  induction l with
  | nil => rfl
  | cons c l ih =>
    rw [trmR_cons]
    cases hc : blk c with
    | true =>
      rw [trm_cons hc, ih]
      cases h : (trmR l).isEmpty with
      | true =>
        rw [List.isEmpty_iff] at h
        rw [h]
        rfl
      | false =>
        rw [if_neg (by simp), List.dropWhile_cons_of_pos hc]
    | false =>
      rw [trm_eq hc, trmR_cons, hc]
      cases h : (trmR l).isEmpty with
      | true => simp [hc]
      | false => simp [hc]
theorem dropW_rev (l : List UInt8) : trm l = Lib.trimS l [32, 9] := by
  have hb : (fun c => ([32, 9] : List UInt8).contains c) = blk := funext blk_mem
  rw [trm_comm]
  unfold Lib.trimS Lib.trimLeftS Lib.trimRightS
  rw [hb]
  rfl
theorem as_Trim (s : ByteArray) (w : World) (hs : s.size ≤ 1000000) : Calls Tryd.prog 53 #[.string s] w (Ret w (.string ⟨(trm s.data.toList).toArray⟩)) := by
  have T := fun w => Any.strings_Trim_laid Tryd.lays160 (by kernel_rfl) s ⟨#[32, 9]⟩ w (by omega) (by decide) (ascii_of_all (by decide))
  have hd := dropW_rev s.data.toList
  obtain ⟨l, hl⟩ : ∃ l, trm s.data.toList = l := ⟨_, rfl⟩
  rw [hl] at hd ⊢
  have T2 : ∀ w, Calls Tryd.prog 92 #[.string s, .string ⟨#[32, 9]⟩] w (Ret w (.string ⟨l.toArray⟩)) := by
    intro w
    have := T w
    rw [show (Lib.trimS s.data.toList (ByteArray.mk #[32, 9]).data.toList) = l from hd.symm] at this
    exact this
  have TH := Lib.hid T2
  clear T T2 hd hl
  go_enter Tryd.func53, Tryd.ntmps53
  go_wp2_with fail
  refine (TH.out _).mono ?_
  rintro e w1 ⟨rfl, hb⟩
  go_wp2_with fail
  go_ret
  exact ⟨rfl, hb⟩
end Go.Proofs.YtnfgpcccmbblcaaDoor
