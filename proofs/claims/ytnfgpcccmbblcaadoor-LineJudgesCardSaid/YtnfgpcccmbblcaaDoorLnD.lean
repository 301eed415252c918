/- line.Parse: the walk where there are three words. -/
import Derived.Test.YtnfgpcccmbblcaaDoorLnC
import Derived.Deep.RegionHeld3
import Derived.StillTailTactics
namespace Go.Proofs.YtnfgpcccmbblcaaDoor
open Go.RowKit

theorem lnW_no {m t v : List UInt8} (h : Lib.hasPrefix v http = false) : lnW m t v = none := by
  unfold lnW
  split
  · rename_i a0 a1 a2 a3 a4 a p b
    rw [if_neg]
    rintro ⟨h1, _⟩
    have : Lib.hasPrefix [a0, a1, a2, a3, a4, a, p, b] http = true := by
      have e : [a0, a1, a2, a3, a4, a, p, b] = http ++ [a, p, b] := by rw [← h1]; rfl
      rw [e]
      unfold Lib.hasPrefix
      rw [List.isPrefixOf_iff_prefix]
      exact List.prefix_append _ _
    rw [h] at this
    cases this
  · rfl
theorem lnW_pre (m t r : List UInt8) : lnW m t (http ++ r) = match r with
    | [a, p, b] => if p = 46 ∧ lnMay m t (dgt a) (dgt b) = true then some (m, t, dgt a, dgt b) else none
    | _ => none := by
  show lnW m t (72 :: 84 :: 84 :: 80 :: 47 :: r) = _
  unfold lnW
  match r with
  | [] => rfl
  | [_] => rfl
  | [_, _] => rfl
  | [a, p, b] =>
    simp only
    by_cases h : p = 46 ∧ lnMay m t (dgt a) (dgt b) = true
    · rw [if_pos h, if_pos ⟨rfl, h⟩]
    · rw [if_neg h, if_neg (fun e => h e.2)]
  | _ :: _ :: _ :: _ :: _ => rfl
theorem hasPre {v p : List UInt8} (h : Lib.hasPrefix v p = true) : v = p ++ Lib.trimPrefix v p := by
  unfold Lib.trimPrefix
  rw [if_pos h]
  unfold Lib.hasPrefix at h
  rw [List.isPrefixOf_iff_prefix] at h
  obtain ⟨r, rfl⟩ := h
  simp
/-- What Parse answers. -/
def lnA : Option (List UInt8 × List UInt8 × Int × Int) → Value
  | none => .tuple #[lnV ⟨#[]⟩ ⟨#[]⟩ 0 0, .int .i64 150]
  | some (m, t, g, s) => .tuple #[lnV ⟨m.toArray⟩ ⟨t.toArray⟩ g s, .int .i64 0]
theorem lnA_some (M T : ByteArray) (g s : Int) : lnA (some (M.data.toList, T.data.toList, g, s)) = .tuple #[.agg #[.string M, .string T, .int .i64 g, .int .i64 s], .int .i64 0] := by
  show Value.tuple #[lnV ⟨M.data.toList.toArray⟩ ⟨T.data.toList.toArray⟩ g s, _] = _
  rw [str_mk, str_mk]
set_option maxHeartbeats 8000000 in
set_option maxRecDepth 100000 in
theorem ln_ParseW (s M T V : ByteArray) (w : World) (hs : s.size ≤ 1000000) (hm : ML w) (hc : cutG 32 [] s.data.toList = [M.data.toList, T.data.toList, V.data.toList]) : Calls Tryd.prog 21 #[.string s] w (Ret w (lnA (lnOf s.data.toList))) := by
  have hj := congrArg List.length (cut3_join hc)
  simp only [List.length_append, List.length_cons, size_toList] at hj
  have zM : M.size ≤ 1000000 := by omega
  have zT : T.size ≤ 1000000 := by omega
  have zV : V.size ≤ 1000000 := by omega
  rw [lnOf_3 hc]
  have hsv : strV (cutG 32 [] s.data.toList) = [.string M, .string T, .string V] := by
    rw [hc]
    simp [strV]
  have S := Lib.hid fun w hm => st_Split1 s 32 w hs hm
  have TH := Lib.hid fun v w hv => ln_three v M T V w hv
  have hpre := @hasPre V.data.toList http
  have hno := @lnW_no M.data.toList T.data.toList V.data.toList
  have CP0 := fun w => Tryd.strings_CutPrefix V ⟨#[72, 84, 84, 80, 47]⟩ w
  rw [show (⟨#[72, 84, 84, 80, 47]⟩ : ByteArray).data.toList = http from rfl] at CP0
  obtain ⟨R, hR⟩ : ∃ R : ByteArray, ⟨(Lib.trimPrefix V.data.toList http).toArray⟩ = R := ⟨_, rfl⟩
  have hRl : R.data.toList = Lib.trimPrefix V.data.toList http := by rw [← hR]
  rw [hR] at CP0
  rw [← hRl] at hpre
  obtain ⟨H, hH⟩ : ∃ H, Lib.hasPrefix V.data.toList http = H := ⟨_, rfl⟩
  rw [hH] at CP0 hpre hno
  have zR : R.size ≤ 1000000 := by
    rw [← size_toList, hRl]
    unfold Lib.trimPrefix
    split
    · rw [List.length_drop, size_toList]; omega
    · rw [size_toList]; exact zV
  have CP := Lib.hid CP0
  have HM := Lib.hid hm
  have HSV := Lib.hid hsv
  clear hm hc CP0 hR hRl hH hsv hj
  have A0 : LnAt w.heap.size (.string ⟨#[]⟩) (.string ⟨#[]⟩) (.int .i64 0) (.int .i64 0) ((w.alloc (.cells #[.string ⟨#[]⟩, .string ⟨#[]⟩, .int .i64 0, .int .i64 0] 36)).alloc (.cells #[.int .i64 0] 23)) := by
    constructor <;> simp <;> omega
  have b0 : Below w.heap.size w ((w.alloc (.cells #[.string ⟨#[]⟩, .string ⟨#[]⟩, .int .i64 0, .int .i64 0] 36)).alloc (.cells #[.int .i64 0] 23)) := ((Below.refl _ w).alloc (Nat.le_refl _) _).alloc (by simp) _
  have HA := Lib.hid A0
  have HB := Lib.hid b0
  have HPRE := Lib.hid hpre
  have HNO := Lib.hid hno
  obtain ⟨O, hO⟩ : ∃ O, lnW M.data.toList T.data.toList V.data.toList = O := ⟨_, rfl⟩
  rw [hO]
  have HO := Lib.hid hO
  clear A0 b0 hpre hno hO
  go_enter_defers Tryd.func21, Tryd.ntmps21
  go_wp2_with fail
  refine (S.out _ (HM.out.ret HB.out)).mono ?_
  rintro e w1 ⟨v, rfl, iv, hb1⟩
  have a1 := HA.out.ret hb1
  have e1 := (bcell hb1).1 (w.heap.size + 1) 0 (by simp)
  have g1 := (bcell hb1).2 (w.heap.size + 1) 0 (by simp)
  simp at e1 g1
  have q1 := HB.out.trans (hb1.mono HB.out.size)
  have z1 : w.heap.size + 2 ≤ w1.heap.size := by have := hb1.size; simp at this; omega
  rw [HSV.out] at iv
  have IV := Lib.hid iv
  clear iv
  go_wp2_with fail
  refine (TH.out v _ IV.out).mono ?_
  rintro e w2 ⟨rfl, hb2⟩
  have a2 := a1.ret hb2
  have e2 := ((bcell hb2).1 (w.heap.size + 1) 0 (by omega)).trans e1
  have g2 := ((bcell hb2).2 (w.heap.size + 1) 0 (by omega)).trans g1
  have q2 := q1.trans (hb2.mono q1.size)
  have z2 : w.heap.size + 2 ≤ w2.heap.size := by have := hb2.size; omega
  clear a1 e1 g1 hb1 hb2 S TH HM HA HB IV HSV z1 q1
  have A2 := Lib.hid a2
  obtain ⟨h0, h1, h2, h3, h4, h5, h6, h7, h8⟩ := a2
  go_wp2_with fail
  refine (CP.out _).mono ?_
  rintro e w3 ⟨rfl, rfl⟩
  clear CP
  cases H with
  | false =>
    have hO : O = none := HO.out.symm.trans (HNO.out rfl)
    subst hO
    go_wp2_with fail
    refine ln_door _ w _ (.string ⟨#[]⟩) (.string ⟨#[]⟩) (.int .i64 0) (.int .i64 0) ((A2.out.put _ _ _ _).far (by simp) _) (by simp [go_sem, *]) ?_ rfl rfl
    exact (lnPut_below q2 (Nat.le_refl _) _ _ _ _).setCell (by simp) _
  | true =>
    have hV := HPRE.out rfl
    have hO := HO.out
    rw [hV, lnW_pre] at hO
    clear HPRE HNO HO
    by_cases hl : R.size = 3
    · obtain ⟨a, p, b, hRL⟩ : ∃ a p b, R.data.toList = [a, p, b] := by
        have h : R.data.toList.length = 3 := by rw [size_toList]; exact hl
        match hr : R.data.toList, h with
        | [a, p, b], _ => exact ⟨a, p, b, rfl⟩
      have l0 : 0 < R.size := by omega
      have l1 : 1 < R.size := by omega
      have l2 : 2 < R.size := by omega
      have r0 : R[0] = a := by
        have := getElem_data R 0 l0
        rw [hRL] at this
        exact (Option.some.inj this).symm
      have r1 : R[1] = p := by
        have := getElem_data R 1 l1
        rw [hRL] at this
        exact (Option.some.inj this).symm
      have r2 : R[2] = b := by
        have := getElem_data R 2 l2
        rw [hRL] at this
        exact (Option.some.inj this).symm
      rw [hRL] at hO
      simp only at hO
      have g3 : ((R.size : Int) != 3) = false := by rw [hl]; rfl
      have g4 : (R.size : Int) ≤ 3 := by omega
      have g5 : (3 : Int) ≤ R.size := by omega
      have hp46 := u8_beq p 46
      rw [show ((UInt8.toNat 46 : Nat) : Int) = 46 from rfl] at hp46
      by_cases hp : p = 46
      · have n1 : ((R[1].toNat : Int) != 46) = false := by rw [r1, hp]; rfl
        rw [← r0, ← r2] at hO
        obtain ⟨ga, hga⟩ : ∃ g, dgt R[0] = g := ⟨_, rfl⟩
        obtain ⟨gb, hgb⟩ : ∃ g, dgt R[2] = g := ⟨_, rfl⟩
        rw [hga, hgb] at hO
        have MY0 := fun w => ln_may M T ga gb w zM zT
        obtain ⟨K, hK⟩ : ∃ K, lnMay M.data.toList T.data.toList ga gb = K := ⟨_, rfl⟩
        rw [hK] at hO MY0
        have MY := Lib.hid MY0
        have HO2 := Lib.hid hO
        have P0 := Lib.hid hp
        clear hK hO hV hp46 r0 r1 r2 MY0 hRL hl hp
        go_wp2_with fail
        go_region_held3 (fun _ => True) (trivial) (first | (go_at_call 62; refine (ln_digit _ _).mono ?_; rintro e w5 ⟨rfl, rfl⟩))
        all_goals
          have P5 := lnPut_below q2 (Nat.le_refl _) (.string M) (.string T) (.int .i64 ga) (.int .i64 gb)
          unfold lnPut at P5
          go_wp2_with fail
          refine (MY.out _).mono ?_
          rintro e w6 ⟨rfl, hb6⟩
          have a6 := ((A2.out.put (.string M) (.string T) (.int .i64 ga) (.int .i64 gb)).drew).ret hb6
          have e6 := ((bcell hb6).1 (w.heap.size + 1) 0 (by simp; omega))
          have g6 := ((bcell hb6).2 (w.heap.size + 1) 0 (by simp; omega))
          simp [go_sem, e2, g2] at e6 g6
          have q6 := P5.drew.trans (hb6.mono (by simp; omega))
          have A6 := Lib.hid a6
          obtain ⟨j0, j1, j2, j3, j4, j5, j6, j7, j8⟩ := a6
          clear h0 h1 h2 h3 h4 h5 h6 h7 h8 e2 g2 P5 hb6 MY A2 q2
          cases K with
          | false =>
            have hO' : O = none := by rw [← HO2.out, if_neg (fun e => (by cases e.2))]
            subst hO'
            go_wp2_with fail
            go_region
            all_goals
              go_wp2_with fail
              refine ln_door _ w _ (.string M) (.string T) (.int .i64 ga) (.int .i64 gb) ?_ ?_ ?_ rfl rfl
              · constructor <;> simp (maxDischargeDepth := 9) [go_sem, *]
              · simp (maxDischargeDepth := 9) [go_sem, *]
              · repeat (first | with_reducible exact q6 | with_reducible refine Below.drew ?_ | with_reducible refine Below.setCell ?_ (by simp) _)
          | true =>
            have hO' : O = some (M.data.toList, T.data.toList, ga, gb) := by rw [← HO2.out, if_pos ⟨P0.out, rfl⟩]
            subst hO'
            rw [lnA_some]
            go_wp2_with fail
            go_region
            all_goals
              go_wp2_with fail
              refine ln_door0 _ w _ (.string M) (.string T) (.int .i64 ga) (.int .i64 gb) ?_ ?_ ?_ rfl rfl
              · constructor <;> simp (maxDischargeDepth := 9) [go_sem, *]
              · simp (maxDischargeDepth := 9) [go_sem, *]
              · repeat (first | with_reducible exact q6 | with_reducible refine Below.drew ?_ | with_reducible refine Below.setCell ?_ (by simp) _)
      · have hO' : O = none := by rw [← hO, if_neg (fun e => hp e.1)]
        subst hO'
        have n1 : ((R[1].toNat : Int) != 46) = true := by
          unfold bne
          rw [r1, hp46]
          simpa using hp
        clear hO hV hp46 r0 r1 r2 hRL hl hp
        go_wp2_with fail
        refine ln_door _ w _ (.string ⟨#[]⟩) (.string ⟨#[]⟩) (.int .i64 0) (.int .i64 0) ((A2.out.put _ _ _ _).far (by simp) _) (by simp [go_sem, *]) ?_ rfl rfl
        exact (lnPut_below q2 (Nat.le_refl _) _ _ _ _).setCell (by simp) _
    · have hO' : O = none := by
        rw [← hO]
        split
        · rename_i a p b e
          exact absurd (by rw [← size_toList, e]; rfl) hl
        · rfl
      subst hO'
      have g3 : ((R.size : Int) != 3) = true := by simp; omega
      have g4 : ¬ (R.size : Int) = 3 := by omega
      clear hO hl hV
      go_wp2_with fail
      refine ln_door _ w _ (.string ⟨#[]⟩) (.string ⟨#[]⟩) (.int .i64 0) (.int .i64 0) ((A2.out.put _ _ _ _).far (by simp) _) (by simp [go_sem, *]) ?_ rfl rfl
      exact (lnPut_below q2 (Nat.le_refl _) _ _ _ _).setCell (by simp) _
theorem ln_Parse (s : ByteArray) (w : World) (hs : s.size ≤ 1000000) (hm : ML w) : Calls Tryd.prog 21 #[.string s] w (Ret w (lnA (lnOf s.data.toList))) := by
  by_cases h : (cutG 32 [] s.data.toList).length = 3
  · match hc : cutG 32 [] s.data.toList, h with
    | [m, t, v], _ => exact ln_ParseW s ⟨m.toArray⟩ ⟨t.toArray⟩ ⟨v.toArray⟩ w hs hm hc
  · rw [lnOf_len h]
    exact ln_Parse3 s w hs hm h
end Go.Proofs.YtnfgpcccmbblcaaDoor
