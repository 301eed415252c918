/- jid.Parse, of every text. -/
import Derived.Test.YtfonkblbgadhmaaDoorJdJ
namespace Go.Proofs.YtfonkblbgadhmaaDoor
open Go.RowKit Go.Lib

theorem jB_list (l : List UInt8) : (jB l).data.toList = l := by simp
theorem jB_size (l : List UInt8) : (jB l).size = l.length := by
  rw [← size_toList, jB_list]
theorem len_cA (c : UInt8) (l : List UInt8) : (cA c l).length ≤ l.length := by
  unfold cA
  exact (List.takeWhile_sublist _).length_le
theorem len_cR (c : UInt8) (l : List UInt8) : (cR c l).length ≤ l.length := by
  unfold cR
  rw [List.length_drop]
  have := (List.dropWhile_sublist (l := l) (· != c)).length_le
  omega
theorem len_low (l : List UInt8) : (lowL l).length = l.length := by simp [lowL]
theorem len_lowA (l : List UInt8) : (lowA l).length ≤ l.length := by
  unfold lowA
  rw [len_low]
  exact len_cA 47 l
theorem jB_ne {l : List UInt8} (h : l.isEmpty = false) : ((jB l).toList == []) = false := by
  rw [Lib.toList_data, jB_list]
  cases l with
  | nil => cases h
  | cons a l => rfl
/-- what Parse answers. -/
def prsV (l : List UInt8) : Value := if prsP l = true then .tuple #[jV (jB (jLoc l)) (jB (jDom l)) (jB (jRes l)), .int .i64 0] else .tuple #[jV ⟨#[]⟩ ⟨#[]⟩ ⟨#[]⟩, .int .i64 190]
theorem jd_Parse (s : ByteArray) (w : World) (hs : s.size ≤ 10000) (hm : ML w) :
    Calls Tryd.prog 11 #[.string s] w (Ret w (prsV s.data.toList)) := by
  have C1 := fun w => st_Cut1 s 47 w (by omega)
  have hz := size_toList s
  obtain ⟨l, hl⟩ : ∃ l, s.data.toList = l := ⟨_, rfl⟩
  rw [hl] at C1 hz ⊢
  have zA := len_cA 47 l
  have zR := len_cR 47 l
  have zLo := len_lowA l
  have zX := len_cA 64 (lowA l)
  have zY := len_cR 64 (lowA l)
  have C2 := fun w => as_Lower (jB (cA 47 l)) w (by rw [jB_size]; omega)
  rw [jB_list] at C2
  have C3 := fun w => st_Cut1 (jB (lowA l)) 64 w (by rw [jB_size]; omega)
  rw [jB_list] at C3
  have C4 : ∀ a b c : List UInt8, a.length ≤ 10000 → b.length ≤ 10000 → c.length ≤ 10000 → ∀ w : World, ML w → Calls Tryd.prog 13 #[jV (jB a) (jB b) (jB c)] w (Ret w (.int .i64 (if chkP a b c = true then 0 else 8))) := by
    intro a b c za zb zc w hm
    have := jd_Check (jB a) (jB b) (jB c) w (by rw [jB_size]; exact za) (by rw [jB_size]; exact zb) (by rw [jB_size]; exact zc) hm
    rw [jB_list, jB_list, jB_list] at this
    exact this
  unfold prsV
  cases hh : (lowA l).contains 64 with
  | true =>
    have eL : jLoc l = cA 64 (lowA l) := by unfold jLoc; rw [hh]; rfl
    have eD : jDom l = cR 64 (lowA l) := by unfold jDom; rw [hh]; rfl
    rw [hh] at C3
    cases hx : (jLoc l).isEmpty with
    | true =>
      have hp : prsP l = false := by unfold prsP; rw [hh, hx]; rfl
      rw [hp]
      rw [show cA 64 (lowA l) = [] by rw [← eL]; exact List.isEmpty_iff.1 hx] at C3
      cases hb : l.contains 47 with
      | true => rw [hb] at C1; exact jd_Parse_tet s _ _ _ _ w C1 C2 C3
      | false => rw [hb] at C1; exact jd_Parse_tef s _ _ _ _ w C1 C2 C3
    | false =>
      have eX : ((jB (cA 64 (lowA l))).toList == []) = false := jB_ne (by rw [← eL]; exact hx)
      cases hb : l.contains 47 with
      | true =>
        rw [hb] at C1
        cases hr : (jRes l).isEmpty with
        | true =>
          have hp : prsP l = false := by unfold prsP; rw [hh, hx, hb, hr]; rfl
          rw [hp]
          rw [show cR 47 l = [] from List.isEmpty_iff.1 hr] at C1
          exact jd_Parse_tte s _ _ _ _ w C1 C2 C3 eX
        | false =>
          have hp : prsP l = chkP (jLoc l) (jDom l) (jRes l) := by unfold prsP; rw [hh, hx, hb, hr]; rfl
          have C5 := C4 (jLoc l) (jDom l) (jRes l) (by rw [eL]; omega) (by rw [eD]; omega) (by unfold jRes; omega)
          rw [hp]
          rw [eL, eD] at C5 ⊢
          cases hc : chkP (cA 64 (lowA l)) (cR 64 (lowA l)) (jRes l) with
          | true => rw [hc] at C5; exact jd_Parse_ttT s _ _ _ _ _ w hm C1 C2 C3 eX (jB_ne hr) C5
          | false => rw [hc] at C5; exact jd_Parse_ttF s _ _ _ _ _ w hm C1 C2 C3 eX (jB_ne hr) C5
      | false =>
        rw [hb] at C1
        have hp : prsP l = chkP (jLoc l) (jDom l) (jRes l) := by unfold prsP; rw [hh, hx, hb]; rfl
        have C5 := C4 (jLoc l) (jDom l) (jRes l) (by rw [eL]; omega) (by rw [eD]; omega) (by unfold jRes; omega)
        rw [hp]
        rw [eL, eD] at C5 ⊢
        cases hc : chkP (cA 64 (lowA l)) (cR 64 (lowA l)) (jRes l) with
        | true => rw [hc] at C5; exact jd_Parse_tfT s _ _ _ _ _ w hm C1 C2 C3 eX C5
        | false => rw [hc] at C5; exact jd_Parse_tfF s _ _ _ _ _ w hm C1 C2 C3 eX C5
  | false =>
    have eL : jLoc l = [] := by unfold jLoc; rw [hh]; rfl
    have eD : jDom l = lowA l := by unfold jDom; rw [hh]; rfl
    rw [hh] at C3
    cases hb : l.contains 47 with
    | true =>
      rw [hb] at C1
      cases hr : (jRes l).isEmpty with
      | true =>
        have hp : prsP l = false := by unfold prsP; rw [hh, hb, hr]; rfl
        rw [hp]
        rw [show cR 47 l = [] from List.isEmpty_iff.1 hr] at C1
        exact jd_Parse_fte s _ _ _ _ w C1 C2 C3
      | false =>
        have hp : prsP l = chkP (jLoc l) (jDom l) (jRes l) := by unfold prsP; rw [hh, hb, hr]; rfl
        have C5 := C4 (jLoc l) (jDom l) (jRes l) (by rw [eL]; exact Nat.zero_le _) (by rw [eD]; omega) (by unfold jRes; omega)
        rw [hp]
        rw [eL, eD] at C5 ⊢
        cases hc : chkP [] (lowA l) (jRes l) with
        | true => rw [hc] at C5; exact jd_Parse_ftT s _ _ _ _ _ w hm C1 C2 C3 (jB_ne hr) C5
        | false => rw [hc] at C5; exact jd_Parse_ftF s _ _ _ _ _ w hm C1 C2 C3 (jB_ne hr) C5
    | false =>
      rw [hb] at C1
      have hp : prsP l = chkP (jLoc l) (jDom l) (jRes l) := by unfold prsP; rw [hh, hb]; rfl
      have C5 := C4 (jLoc l) (jDom l) (jRes l) (by rw [eL]; exact Nat.zero_le _) (by rw [eD]; omega) (by unfold jRes; omega)
      rw [hp]
      rw [eL, eD] at C5 ⊢
      cases hc : chkP [] (lowA l) (jRes l) with
      | true => rw [hc] at C5; exact jd_Parse_ffT s _ _ _ _ _ w hm C1 C2 C3 C5
      | false => rw [hc] at C5; exact jd_Parse_ffF s _ _ _ _ _ w hm C1 C2 C3 C5
end Go.Proofs.YtfonkblbgadhmaaDoor
