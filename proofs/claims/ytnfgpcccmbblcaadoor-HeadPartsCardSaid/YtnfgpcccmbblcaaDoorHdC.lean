/- The document's All and Parse for header fields, and SamePairs: walks. -/
import Derived.Test.YtnfgpcccmbblcaaDoorHdB
namespace Go.Proofs.YtnfgpcccmbblcaaDoor
open Go.RowKit

theorem new_row2 (w : World) (a b : Value) : IsRow 2 (.slice (some ⟨w.heap.size, 0, none⟩) 1 1) 1 [a, b] (w.alloc (.cells #[a, b] 52)) := by
  refine ⟨rfl, some ⟨w.heap.size, 0, none⟩, 1, rfl, (fun h => by cases h), .inr ⟨w.heap.size, 0, rfl, by simp, fun j hj => ?_⟩⟩
  rw [Nat.zero_add, World.cell?_alloc_new]
  match j, hj with
  | 0, _ => rfl
  | 1, _ => rfl
theorem lns_len : ∀ (n : Nat) (l : List UInt8), l.length ≤ n → (lns l).length ≤ l.length := by
  intro n
  induction n with
  | zero =>
    intro l hl
    obtain rfl : l = [] := List.eq_nil_of_length_eq_zero (by omega)
    exact Nat.le_refl _
  | succ n ih =>
    intro l hl
    by_cases h0 : l = []
    · subst h0
      exact Nat.le_refl _
    · cases hc : crA l with
      | none =>
        rw [lns_none h0 hc]
        have : 0 < l.length := List.length_pos_iff.2 h0
        simp
        omega
      | some x =>
        obtain ⟨x, r⟩ := x
        have h1 := crA_lt hc
        have h2 := ih r (by omega)
        rw [lns_some hc, List.length_cons]
        omega
theorem flds_len {a : List (List UInt8 × Bool)} : ∀ {fs : List Pr}, flds a = some fs → fs.length = a.length := by
  induction a with
  | nil =>
    intro fs h
    cases h
    rfl
  | cons x a ih =>
    intro fs h
    simp only [flds] at h
    split at h
    · obtain ⟨q, h1, h2⟩ := Option.map_eq_some_iff.1 h
      subst h2
      simp [ih h1]
    · cases h
theorem hdA_len {l : List UInt8} {fs : List Pr} (h : hdA l = some fs) : fs.length ≤ l.length := by
  rw [flds_len h]
  exact lns_len l.length l (Nat.le_refl _)
/-- What All answers. -/
def HdAll (l : List UInt8) (w : World) (e : Ending) (w' : World) : Prop :=
  (∃ v fs, hdA l = some fs ∧ e = .returned (.tuple #[v, .bool true]) ∧ IsPairs v fs w' ∧ Below w.heap.size w w') ∨ (hdA l = none ∧ e = .returned (.tuple #[.slice none 0 0, .bool false]) ∧ Below w.heap.size w w')
theorem fldB_nil : fldB [] = false := rfl
set_option maxHeartbeats 8000000 in
set_option maxRecDepth 100000 in
theorem r14_All (s : ByteArray) (w : World) (hs : s.size ≤ 1000000) : Calls Tryd.prog 54 #[.string s] w (HdAll s.data.toList w) := by
  obtain ⟨i0, hi, hz0, hz1, hz2⟩ := info_parts vinfo_pair
  go_enter Tryd.func54, Tryd.ntmps54
  go_wp2_with fail
  go_loopw [0, 4] (fun z v wr => ∃ (r : ByteArray) (fs : List Pr), z = .string r ∧ r.size + fs.length ≤ s.size ∧ hdA s.data.toList = (hdA r.data.toList).map (fs ++ ·) ∧ wr.ownsRow w.heap.size 52 2 v fs.length (prV fs) ∧ Below w.heap.size w wr) (fun z _ _ => strLen z)
  case atStart =>
    refine ⟨s, [], rfl, by simp, ?_, World.ownsRow_nil _ _ _ _, Below.refl _ _⟩
    cases hdA s.data.toList <;> rfl
  case round =>
    obtain ⟨r, fs, rfl, hn, hd, hown, hB⟩ := hrel
    by_cases h0 : r.size = 0
    · obtain rfl : r = ⟨#[]⟩ := str_ext (List.eq_nil_of_length_eq_zero (by rw [size_toList]; exact h0))
      have hd2 : hdA s.data.toList = some fs := by
        rw [hd]
        show (some ([] : List Pr)).map (fs ++ ·) = _
        simp
      have HD := Lib.hid hd2
      have HO := Lib.hid hown
      clear hd hd2 hown h0
      go_wp2_with fail
      go_ret2
      exact .inl ⟨_, fs, HD.out, rfl, own_row HO.out, hB⟩
    · have e1 := isEmpty_of_pos (s := r) (by omega)
      have e2 := ne_nil_of_pos (s := r) (by omega)
      have hne : r.data.toList ≠ [] := fun h => h0 (by rw [← size_toList, h]; rfl)
      have L0 := fun w => r14_Line r w (by omega)
      cases hc : crA r.data.toList with
      | none =>
        have hd2 : hdA s.data.toList = none := by rw [hd, hdA_none hne hc]; rfl
        unfold lnX lnR lnB at L0
        rw [hc] at L0
        have LH := Lib.hid L0
        have FH := Lib.hid fun w => (r14_field ⟨#[]⟩ w (by decide) : Calls Tryd.prog 94 #[.string ⟨#[]⟩] w (Ret w (.tuple #[.agg #[.string ⟨#[]⟩, .string ⟨#[]⟩], .bool false])))
        have HD := Lib.hid hd2
        clear L0 hc hd hd2 hown h0 hne
        go_wp2_with fail
        refine (LH.out _).mono ?_
        rintro e w1 ⟨rfl, hb1⟩
        go_wp2_with fail
        refine (FH.out _).mono ?_
        rintro e w2 ⟨rfl, hb2⟩
        have q2 := (hB.trans (hb1.mono hB.size)).trans (hb2.mono (Nat.le_trans hB.size hb1.size))
        go_wp2_with fail
        go_ret2
        exact .inr ⟨HD.out, rfl, below_al q2 _⟩
      | some z =>
        obtain ⟨x, y⟩ := z
        have hlt := crA_lt hc
        rw [size_toList] at hlt
        unfold lnX lnR lnB at L0
        rw [hc] at L0
        simp only [Option.isSome_some] at L0
        obtain ⟨X, hX⟩ : ∃ X : ByteArray, ⟨x.toArray⟩ = X := ⟨_, rfl⟩
        obtain ⟨Y, hY⟩ : ∃ X : ByteArray, ⟨y.toArray⟩ = X := ⟨_, rfl⟩
        have hXl : X.data.toList = x := by rw [← hX]
        have hYl : Y.data.toList = y := by rw [← hY]
        rw [hX, hY] at L0
        have F0 := fun w => r14_field X w (by rw [← size_toList, hXl]; omega)
        have zY : Y.size + (fs.length + 1) ≤ s.size := by rw [← size_toList, hYl]; omega
        have zYr : Y.size < r.size := by rw [← size_toList, hYl]; omega
        unfold fldP at F0
        rw [hXl] at F0
        cases hf : fldB x with
        | false =>
          have hd2 : hdA s.data.toList = none := by rw [hd, hdA_some hc, hf]; rfl
          rw [hf] at F0
          have LH := Lib.hid L0
          have FH := Lib.hid F0
          have HD := Lib.hid hd2
          clear L0 F0 hc hd hd2 hown h0 hne hX hY hXl hYl hf hlt zY zYr
          go_wp2_with fail
          refine (LH.out _).mono ?_
          rintro e w1 ⟨rfl, hb1⟩
          go_wp2_with fail
          refine (FH.out _).mono ?_
          rintro e w2 ⟨rfl, hb2⟩
          have q2 := (hB.trans (hb1.mono hB.size)).trans (hb2.mono (Nat.le_trans hB.size hb1.size))
          go_wp2_with fail
          go_ret2
          exact .inr ⟨HD.out, rfl, below_al q2 _⟩
        | true =>
          have hd2 : hdA s.data.toList = (hdA Y.data.toList).map ((fs ++ [fldV x]) ++ ·) := by
            rw [hd, hdA_some hc, hf, if_pos rfl, hYl, Option.map_map]
            congr 1
            funext z
            simp
          rw [hf, if_pos rfl] at F0
          obtain ⟨P, hP⟩ : ∃ P, fldV x = P := ⟨_, rfl⟩
          rw [hP] at F0 hd2
          obtain ⟨p1, p2⟩ := P
          obtain ⟨A, hA⟩ : ∃ X : ByteArray, ⟨p1.toArray⟩ = X := ⟨_, rfl⟩
          obtain ⟨D, hD⟩ : ∃ X : ByteArray, ⟨p2.toArray⟩ = X := ⟨_, rfl⟩
          unfold prS at F0
          simp only [hA, hD] at F0
          have hpv : prV (fs ++ [(p1, p2)]) = prV fs ++ [.string A, .string D] := by
            rw [prV_app, ← hA, ← hD]
            rfl
          have LH := Lib.hid L0
          have FH := Lib.hid F0
          have HD := Lib.hid hd2
          have HO := Lib.hid hown
          have HPV := Lib.hid hpv
          clear L0 F0 hc hd hd2 hown h0 hne hX hY hXl hYl hf hlt hP hA hD hpv
          go_wp2_with fail
          refine (LH.out _).mono ?_
          rintro e w1 ⟨rfl, hb1⟩
          go_wp2_with fail
          refine (FH.out _).mono ?_
          rintro e w2 ⟨rfl, hb2⟩
          have q2 := (hB.trans (hb1.mono hB.size)).trans (hb2.mono (Nat.le_trans hB.size hb1.size))
          have HO2 := Lib.hid (own_below (own_below HO.out hb1) hb2)
          clear hb1 hb2 hB LH FH HO
          go_wp2_with (at_builtin; refine Hid.out ?_)
          refine Lib.hid ?_
          have hsz := q2.size
          refine wpList_app_row rfl _ _ _ rfl w.heap.size 52 i0 _ 2 32 Tryd.underlying22 hi hz0 hz1 hz2 rfl (by omega) _ fs.length (prV fs) rfl ((HO2.out.alloc _).alloc _) (.slice (some ⟨w2.heap.size + 1, 0, none⟩) 1 1) (by rfl) 1 [.string A, .string D] (by have h := new_row2 (w2.alloc (.cells #[.string A, .string D] 52)) (.string A) (.string D); rwa [World.size_alloc] at h) (by simp [Value.oneCell']) (by omega) (by omega) (by simp; omega) ?_
          intro v' w' hown' hgrow
          have q3 := ((q2.alloc q2.size (.cells #[.string A, .string D] 52)).alloc (by simp; omega) (.cells #[.string A, .string D] 52)).grown hgrow (by simp; omega) (fun k hk => (HO2.out.lt k hk).1)
          have HO3 := Lib.hid hown'
          clear hown' hgrow
          go_wp2_with fail
          go_roundw
          case rel => exact ⟨Y, fs ++ [(p1, p2)], rfl, by rw [List.length_append]; exact zY, HD.out, by rw [HPV.out, List.length_append]; exact HO3.out, q3⟩
          case measure => simpa [strLen] using zYr
end Go.Proofs.YtnfgpcccmbblcaaDoor
