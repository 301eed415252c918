/- strings.Cut at one byte; a list's parts, one behind the other. -/
import Derived.Test.YtnfgpcccmbblcaaDoorAsJ
import Derived.Test.YtnfgpcccmbblcaaDoorShelfB
import Derived.Lib.Bytealg
namespace Go.Proofs.YtnfgpcccmbblcaaDoor
open Go.RowKit

/-- What stands ahead of a byte, and behind it. -/
def cA (c : UInt8) (l : List UInt8) : List UInt8 := l.takeWhile (· != c)
def cR (c : UInt8) (l : List UInt8) : List UInt8 := (l.dropWhile (· != c)).drop 1
theorem ib_cases (c : UInt8) (l : List UInt8) : (Lib.indexByte l c = -1 ∧ cA c l = l ∧ cR c l = [] ∧ l.contains c = false) ∨ ∃ i : Nat, Lib.indexByte l c = i ∧ i < l.length ∧ cA c l = l.take i ∧ cR c l = l.drop (i + 1) ∧ l.contains c = true := by
  induction l with
  | nil => exact .inl ⟨rfl, rfl, rfl, rfl⟩
  | cons b l ih =>
    by_cases hb : b = c
    · subst hb
      refine .inr ⟨0, by simp [Lib.indexByte], by simp, by simp [cA], by simp [cR], by simp⟩
    · have hb1 : (b == c) = false := by simpa using hb
      have hcb : (c == b) = false := by rw [beq_comm_u8]; exact hb1
      have h1 : cA c (b :: l) = b :: cA c l := by unfold cA; simp [hb]
      have h2 : cR c (b :: l) = cR c l := by unfold cR; simp [hb]
      rcases ih with ⟨i1, i2, i3, i4⟩ | ⟨i, i1, i0, i2, i3, i4⟩
      · refine .inl ⟨by simp [Lib.indexByte, hb1, i1], by rw [h1, i2], by rw [h2, i3], by rw [List.contains_cons, hcb, i4]; rfl⟩
      · refine .inr ⟨i + 1, ?_, by simp; omega, by rw [h1, i2]; rfl, by rw [h2, i3]; rfl, by rw [List.contains_cons, i4, Bool.or_true]⟩
        have hne : ¬ (i : Int) = -1 := by omega
        simp [Lib.indexByte, hb1, i1, hne]
theorem cR_lt (c : UInt8) {l : List UInt8} (h : l ≠ []) : (cR c l).length < l.length := by
  have hp : 0 < l.length := List.length_pos_iff.2 h
  rcases ib_cases c l with ⟨_, _, h3, _⟩ | ⟨i, _, hi, _, h3, _⟩
  · rw [h3]
    simpa using hp
  · rw [h3, List.length_drop]
    omega
theorem cA_le (c : UInt8) (l : List UInt8) : (cA c l).length ≤ l.length := (List.takeWhile_sublist _).length_le
theorem cutG_step (c : UInt8) (l : List UInt8) : ∀ cur, cutG c cur l = (cur ++ cA c l) :: (if l.contains c then cutG c [] (cR c l) else []) := by
  induction l with
  | nil => intro cur; simp [cutG, cA]
  | cons b l ih =>
    intro cur
    simp only [cutG]
    by_cases hb : b = c
    · subst hb
      rw [if_pos rfl]
      simp [cA, cR]
    · have hb2 : (b != c) = true := by simpa using hb
      have hcb : (c == b) = false := by rw [beq_comm_u8]; simpa using hb
      rw [if_neg hb, ih, List.contains_cons, hcb, Bool.false_or]
      have h1 : cA c (b :: l) = b :: cA c l := by unfold cA; simp [hb]
      have h2 : cR c (b :: l) = cR c l := by unfold cR; simp [hb]
      rw [h1, h2]
      simp
theorem lstP_nil : lstP [] = [] := rfl
theorem lstP_step (l : List UInt8) : lstP l = (if (trm (cA 44 l)).isEmpty then [] else [lowL (trm (cA 44 l))]) ++ lstP (cR 44 l) := by
  have h0 : lstP l = lstG (cutG 44 [] l) := rfl
  rw [h0, cutG_step, List.nil_append]
  have hc : ∀ (p : List UInt8) (ps : List (List UInt8)), lstG (p :: ps) = (if (trm p).isEmpty then [] else [lowL (trm p)]) ++ lstG ps := by
    intro p ps
    unfold lstG
    simp only [List.map_cons, List.filter_cons]
    cases h : (trm p).isEmpty <;> simp
  rw [hc]
  congr 1
  cases h : l.contains 44 with
  | true => rfl
  | false =>
    rcases ib_cases 44 l with ⟨_, _, h3, _⟩ | ⟨i, _, _, _, _, h4⟩
    · rw [h3]
      rfl
    · rw [h] at h4
      cases h4
set_option maxHeartbeats 2000000 in
theorem sl_Cut1 (s : ByteArray) (c : UInt8) (w : World) (hs : s.size ≤ 1000000) :
    Calls Tryd.prog 90 #[.string s, .string ⟨#[c]⟩] w (Ret w (.tuple #[.string ⟨(cA c s.data.toList).toArray⟩, .string ⟨(cR c s.data.toList).toArray⟩, .bool (s.data.toList.contains c)])) := by
  have I := fun w => Tryd.stringslite_Index_one s c w
  obtain ⟨b, hb⟩ : ∃ b, s.data.toList.contains c = b := ⟨_, rfl⟩
  obtain ⟨x, hx⟩ : ∃ x, cA c s.data.toList = x := ⟨_, rfl⟩
  obtain ⟨y, hy⟩ : ∃ y, cR c s.data.toList = y := ⟨_, rfl⟩
  rcases ib_cases c s.data.toList with ⟨h1, h2, h3, h4⟩ | ⟨i, h1, h0, h2, h3, h4⟩
  · rw [h1] at I
    rw [hb, hx, hy]
    rw [hb] at h4
    rw [hx] at h2
    rw [hy] at h3
    subst h4
    subst h3
    have hxs : (⟨x.toArray⟩ : ByteArray) = s := by rw [h2, str_mk]
    have IH := Lib.hid I
    have HX := Lib.hid hxs
    clear I hb hx hy h1 h2 hxs
    go_enter Tryd.func90, Tryd.ntmps90
    go_wp2_with fail
    refine (IH.out _).mono ?_
    rintro e w1 ⟨rfl, rfl⟩
    go_wp2_with fail
    go_ret3
    rw [HX.out]
    exact ⟨rfl, Below.refl _ _⟩
  · rw [h1] at I
    rw [hb, hx, hy]
    rw [hb] at h4
    rw [hx] at h2
    rw [hy] at h3
    rw [size_toList] at h0
    subst h4
    have hxs : (⟨x.toArray⟩ : ByteArray) = s.extract 0 i := str_ext (by rw [ext_data, h2]; rfl)
    have hys : (⟨y.toArray⟩ : ByteArray) = s.extract (i + 1) s.size := str_ext (by rw [ext_tail, h3])
    have IH := Lib.hid I
    have HX := Lib.hid hxs
    have HY := Lib.hid hys
    have g1 : (i : Int) ≤ s.size := by omega
    have e1 : IntKind.i64.wrap ((i : Int) + 1) = (i : Int) + 1 := IntWalk.i64_in _ (by omega)
    have e2 : (0 : Int) ≤ (i : Int) + 1 := by omega
    have e3 : ((i : Int) + 1).toNat = i + 1 := by omega
    have e4 : (i : Int) + 1 ≤ s.size := by omega
    clear I hb hx hy h1 h2 h3 hxs hys
    go_enter Tryd.func90, Tryd.ntmps90
    go_wp2_with fail
    refine (IH.out _).mono ?_
    rintro e w1 ⟨rfl, rfl⟩
    go_wp2_with fail
    go_quiet (fail)
    go_wp2_with fail
    go_ret3
    rw [HX.out, HY.out]
    exact ⟨rfl, below_drewN _ _⟩
theorem st_Cut1 (s : ByteArray) (c : UInt8) (w : World) (hs : s.size ≤ 1000000) :
    Calls Tryd.prog 50 #[.string s, .string ⟨#[c]⟩] w (Ret w (.tuple #[.string ⟨(cA c s.data.toList).toArray⟩, .string ⟨(cR c s.data.toList).toArray⟩, .bool (s.data.toList.contains c)])) := by
  have C := Lib.hid (sl_Cut1 s c w hs)
  obtain ⟨b, hb⟩ : ∃ b, s.data.toList.contains c = b := ⟨_, rfl⟩
  obtain ⟨x, hx⟩ : ∃ x, cA c s.data.toList = x := ⟨_, rfl⟩
  obtain ⟨y, hy⟩ : ∃ y, cR c s.data.toList = y := ⟨_, rfl⟩
  rw [hb, hx, hy] at C ⊢
  clear hb hx hy
  go_enter Tryd.func50, Tryd.ntmps50
  go_wp2_with fail
  refine (C.out).mono ?_
  rintro e w1 ⟨rfl, hb⟩
  go_wp2_with fail
  go_ret3
  exact ⟨rfl, hb⟩
end Go.Proofs.YtnfgpcccmbblcaaDoor
