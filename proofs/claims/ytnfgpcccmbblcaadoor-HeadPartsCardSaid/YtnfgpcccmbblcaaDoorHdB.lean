/- The document's answers for header fields, second part: field, All, Parse, and SamePairs: walks. -/
import Derived.Test.YtnfgpcccmbblcaaDoorHdA
namespace Go.Proofs.YtnfgpcccmbblcaaDoor
open Go.RowKit

abbrev prS (p : Pr) : Value := .agg #[.string ⟨p.1.toArray⟩, .string ⟨p.2.toArray⟩]
/-- What field answers. -/
def fldP (l : List UInt8) : Pr := if fldB l = true then fldV l else ([], [])
theorem fldB_def (l : List UInt8) : fldB l = (l.contains 58 && (tok (ptA l) && pln (ptR l))) := by
  unfold fldB ptA ptR
  cases h : l.contains 58 with
  | false => rfl
  | true => rw [if_pos rfl, if_pos rfl]
/-- A pair in two cells of its own. -/
structure PrAt (L : Nat) (a b : Value) (w : World) : Prop where
  lt : L < w.heap.size
  c0 : w.cell? ⟨L, 0, none⟩ = some a
  c1 : w.cell? ⟨L, 1, none⟩ = some b
  f0 : w.frozen? ⟨L, 0, none⟩ = false
  f1 : w.frozen? ⟨L, 1, none⟩ = false
theorem PrAt.ret {L : Nat} {a b : Value} {w w' : World} (h : PrAt L a b w) (hb : Below w.heap.size w w') : PrAt L a b w' := by
  obtain ⟨h0, h1, h2, h3, h4⟩ := h
  obtain ⟨q, r⟩ := bcell hb
  exact ⟨Nat.lt_of_lt_of_le h0 hb.size, (q _ _ h0).trans h1, (q _ _ h0).trans h2, (r _ _ h0).trans h3, (r _ _ h0).trans h4⟩
theorem PrAt.new (w : World) (a b : Value) : PrAt w.heap.size a b (w.alloc (.cells #[a, b] 52)) := by constructor <;> simp
theorem PrAt.alloc {L : Nat} {a b : Value} {w : World} (h : PrAt L a b w) (o : Obj) : PrAt L a b (w.alloc o) := h.ret ((Below.refl _ w).alloc (Nat.le_refl _) o)
theorem below_al {w w' : World} (h : Below w.heap.size w w') (o : Obj) : Below w.heap.size w (w'.alloc o) := h.alloc h.size o
set_option maxHeartbeats 4000000 in
theorem r14_field (s : ByteArray) (w : World) (hs : s.size ≤ 1000000) : Calls Tryd.prog 94 #[.string s] w (Ret w (.tuple #[prS (fldP s.data.toList), .bool (fldB s.data.toList)])) := by
  have P0 := fun w => r9_Parts s w hs
  have hdef := fldB_def s.data.toList
  have hAs : (ptA s.data.toList).length ≤ 1000000 := by
    unfold ptA
    split
    · exact Nat.le_trans (cA_le _ _) (by rw [size_toList]; exact hs)
    · simp
  have hRs : (ptR s.data.toList).length ≤ 1000000 := by
    unfold ptR
    split
    · by_cases h0 : s.data.toList = []
      · rw [h0]; simp [cR]
      · exact Nat.le_trans (Nat.le_of_lt (cR_lt 58 h0)) (by rw [size_toList]; exact hs)
    · rw [size_toList]; exact hs
  have hV : s.data.toList.contains 58 = true → fldV s.data.toList = (lowL (ptA s.data.toList), trm (ptR s.data.toList)) := fun h => by
    unfold fldV ptA ptR
    rw [if_pos h, if_pos h]
  obtain ⟨A, hA⟩ : ∃ x : ByteArray, ⟨(ptA s.data.toList).toArray⟩ = x := ⟨_, rfl⟩
  obtain ⟨R, hR⟩ : ∃ x : ByteArray, ⟨(ptR s.data.toList).toArray⟩ = x := ⟨_, rfl⟩
  have hAl : A.data.toList = ptA s.data.toList := by rw [← hA]
  have hRl : R.data.toList = ptR s.data.toList := by rw [← hR]
  have zA : A.size ≤ 1000000 := by rw [← size_toList, hAl]; exact hAs
  have zR : R.size ≤ 1000000 := by rw [← size_toList, hRl]; exact hRs
  rw [hA, hR] at P0
  rw [← hAl, ← hRl] at hdef hV
  obtain ⟨b, hb⟩ : ∃ x, s.data.toList.contains 58 = x := ⟨_, rfl⟩
  obtain ⟨k, hk⟩ : ∃ x, tok A.data.toList = x := ⟨_, rfl⟩
  obtain ⟨p, hp⟩ : ∃ x, pln R.data.toList = x := ⟨_, rfl⟩
  obtain ⟨F, hF⟩ : ∃ x, fldP s.data.toList = x := ⟨_, rfl⟩
  rw [hb] at P0 hV
  rw [hb, hk, hp] at hdef
  have T := Lib.hid fun w => (by have h := r7_Token A w zA; rwa [hk] at h : Calls Tryd.prog 86 #[.string A] w fun e w' => e = .returned (.bool k) ∧ w' = w)
  have Q := Lib.hid fun w => (by have h := r7_Plain R w zR; rwa [hp] at h : Calls Tryd.prog 109 #[.string R] w fun e w' => e = .returned (.bool p) ∧ w' = w)
  have LW := Lib.hid fun w => r7_Lower A w zA
  have TR := Lib.hid fun w => r7_Trim R w zR
  rw [hdef, hF]
  have hFv : fldP s.data.toList = if (b && (k && p)) = true then fldV s.data.toList else ([], []) := by unfold fldP; rw [hdef]
  rw [hF] at hFv
  have PH := Lib.hid P0
  have HV := Lib.hid hV
  have HFV := Lib.hid hFv
  clear P0 hdef hAs hRs hV hA hR hAl hRl hb hk hp hF hFv
  have q0 : Below w.heap.size w (w.alloc (.cells #[.string ⟨#[]⟩, .string ⟨#[]⟩] 52)) := (Below.refl _ w).alloc (Nat.le_refl _) _
  have A0 := Lib.hid (PrAt.new w (.string ⟨#[]⟩) (.string ⟨#[]⟩))
  cases b with
  | false =>
    obtain rfl : F = ([], []) := HFV.out
    clear HV HFV T Q LW TR
    go_enter Tryd.func94, Tryd.ntmps94
    go_wp2_with fail
    refine (PH.out _).mono ?_
    rintro e w1 ⟨rfl, hb1⟩
    have a1 := A0.out.ret hb1
    have q1 := q0.trans (hb1.mono q0.size)
    obtain ⟨j0, j1, j2, j3, j4⟩ := a1
    clear hb1 q0 A0 PH
    go_wp2_with fail
    refine bodyPost_ret (v := .tuple #[.agg #[.string ⟨#[]⟩, .string ⟨#[]⟩], .bool false]) (by simp (maxDischargeDepth := 9) [results, Tryd.results94, go_sem, *]) rfl ⟨rfl, ?_⟩
    repeat (first | with_reducible exact q1 | with_reducible refine Below.drew ?_ | with_reducible refine Below.setCell ?_ (by simp) _)
  | true =>
    cases k with
    | false =>
      obtain rfl : F = ([], []) := HFV.out
      clear HV HFV Q LW TR
      go_enter Tryd.func94, Tryd.ntmps94
      go_wp2_with fail
      refine (PH.out _).mono ?_
      rintro e w1 ⟨rfl, hb1⟩
      have a1 := A0.out.ret hb1
      have q1 := q0.trans (hb1.mono q0.size)
      obtain ⟨j0, j1, j2, j3, j4⟩ := a1
      clear hb1 q0 A0 PH
      go_wp2_with fail
      refine (T.out _).mono ?_
      rintro e w2 ⟨rfl, rfl⟩
      go_wp2_with fail
      refine bodyPost_ret (v := .tuple #[.agg #[.string ⟨#[]⟩, .string ⟨#[]⟩], .bool false]) (by simp (maxDischargeDepth := 9) [results, Tryd.results94, go_sem, *]) rfl ⟨rfl, ?_⟩
      repeat (first | with_reducible exact q1 | with_reducible refine Below.drew ?_ | with_reducible refine Below.setCell ?_ (by simp) _)
    | true =>
      cases p with
      | false =>
        obtain rfl : F = ([], []) := HFV.out
        clear HV HFV LW TR
        go_enter Tryd.func94, Tryd.ntmps94
        go_wp2_with fail
        refine (PH.out _).mono ?_
        rintro e w1 ⟨rfl, hb1⟩
        have a1 := A0.out.ret hb1
        have q1 := q0.trans (hb1.mono q0.size)
        obtain ⟨j0, j1, j2, j3, j4⟩ := a1
        clear hb1 q0 A0 PH
        go_wp2_with fail
        refine (T.out _).mono ?_
        rintro e w2 ⟨rfl, rfl⟩
        go_wp2_with fail
        refine (Q.out _).mono ?_
        rintro e w2 ⟨rfl, rfl⟩
        go_wp2_with fail
        refine bodyPost_ret (v := .tuple #[.agg #[.string ⟨#[]⟩, .string ⟨#[]⟩], .bool false]) (by simp (maxDischargeDepth := 9) [results, Tryd.results94, go_sem, *]) rfl ⟨rfl, ?_⟩
        repeat (first | with_reducible exact q1 | with_reducible refine Below.drew ?_ | with_reducible refine Below.setCell ?_ (by simp) _)
      | true =>
        obtain rfl : F = (lowL A.data.toList, trm R.data.toList) := HFV.out.trans ((if_pos rfl).trans (HV.out rfl))
        obtain ⟨X, hX⟩ : ∃ x : ByteArray, ⟨(lowL A.data.toList).toArray⟩ = x := ⟨_, rfl⟩
        obtain ⟨Y, hY⟩ : ∃ x : ByteArray, ⟨(trm R.data.toList).toArray⟩ = x := ⟨_, rfl⟩
        have LW2 := Lib.hid (by have h := LW.out; rwa [hX] at h : ∀ w, Calls Tryd.prog 87 #[.string A] w (Ret w (.string X)))
        have TR2 := Lib.hid (by have h := TR.out; rwa [hY] at h : ∀ w, Calls Tryd.prog 110 #[.string R] w fun e w' => e = .returned (.string Y) ∧ w' = w)
        unfold prS
        simp only [hX, hY]
        clear HV HFV LW TR hX hY
        go_enter Tryd.func94, Tryd.ntmps94
        go_wp2_with fail
        refine (PH.out _).mono ?_
        rintro e w1 ⟨rfl, hb1⟩
        have a1 := A0.out.ret hb1
        have q1 := q0.trans (hb1.mono q0.size)
        obtain ⟨j0, j1, j2, j3, j4⟩ := a1
        clear hb1 q0 A0 PH
        go_wp2_with fail
        refine (T.out _).mono ?_
        rintro e w2 ⟨rfl, rfl⟩
        go_wp2_with fail
        refine (Q.out _).mono ?_
        rintro e w2 ⟨rfl, rfl⟩
        go_wp2_with fail
        refine (LW2.out _).mono ?_
        rintro e w3 ⟨rfl, hb3⟩
        have a3 := (PrAt.mk j0 j1 j2 j3 j4).ret hb3
        have q3 := q1.trans (hb3.mono q1.size)
        clear j0 j1 j2 j3 j4 q1 hb3 T Q LW2
        obtain ⟨j0, j1, j2, j3, j4⟩ := a3
        go_wp2_with fail
        refine (TR2.out _).mono ?_
        rintro e w4 ⟨rfl, rfl⟩
        clear TR2
        go_wp2_with fail
        refine bodyPost_ret (v := .tuple #[.agg #[.string X, .string Y], .bool true]) (by simp (maxDischargeDepth := 9) [results, Tryd.results94, go_sem, *]) rfl ⟨rfl, ?_⟩
        repeat (first | with_reducible exact q3 | with_reducible refine Below.drew ?_ | with_reducible refine Below.setCell ?_ (by simp) _)
end Go.Proofs.YtnfgpcccmbblcaaDoor
