/- The document's Parse of first lines (tidewaiterref15.Parse): the walk. -/
import Derived.Test.YtnfgpcccmbblcaaDoorLnF
import Derived.Test.YtnfgpcccmbblcaaDoorLnD
import Derived.Deep.RegionHeld3
namespace Go.Proofs.YtnfgpcccmbblcaaDoor
open Go.RowKit

theorem lnOf_ref {l m t v : List UInt8} (hc : cutG 32 [] l = [m, t, v]) (h8 : v.length = 8) {x y : UInt8} (hx : v[5]? = some x) (hy : v[7]? = some y) :
    lnOf l = if lnMay m t ((x.toNat : Int) - 48) ((y.toNat : Int) - 48) = true ∧ lnTxt m t ((x.toNat : Int) - 48) ((y.toNat : Int) - 48) = l then some (m, t, (x.toNat : Int) - 48, (y.toNat : Int) - 48) else none := by
  by_cases hq : lnMay m t ((x.toNat : Int) - 48) ((y.toNat : Int) - 48) = true ∧ lnTxt m t ((x.toNat : Int) - 48) ((y.toNat : Int) - 48) = l
  · rw [if_pos hq]
    have := lnOf_txt hq.1
    rw [hq.2] at this
    exact this
  · rw [if_neg hq]
    cases ho : lnOf l with
    | none => rfl
    | some z =>
      obtain ⟨m', t', g, s⟩ := z
      obtain ⟨k1, k2⟩ := lnOf_some ho
      rw [lnOf_3 hc] at ho
      unfold lnW at ho
      match v, h8 with
      | [a0, a1, a2, a3, a4, a, p, b], _ =>
        simp only at ho
        simp only [List.getElem?_cons_succ, List.getElem?_cons_zero, Option.some.injEq] at hx hy
        subst hx
        subst hy
        split at ho
        · simp only [Option.some.injEq, Prod.mk.injEq] at ho
          obtain ⟨rfl, rfl, rfl, rfl⟩ := ho
          obtain ⟨_, _, r1, r2, r3, r4⟩ := lnMay_parts k1
          have e1 : dgt a = (a.toNat : Int) - 48 := by
            rcases dgt_range a with h | h
            · omega
            · omega
          have e2 : dgt b = (b.toNat : Int) - 48 := by
            rcases dgt_range b with h | h
            · omega
            · omega
          rw [e1, e2] at k1 k2
          exact absurd ⟨k1, k2.symm⟩ hq
        · cases ho
set_option maxHeartbeats 8000000 in
set_option maxRecDepth 100000 in
theorem r15_ParseW (s M T V : ByteArray) (w : World) (hs : s.size ≤ 1000000) (hc : cutG 32 [] s.data.toList = [M.data.toList, T.data.toList, V.data.toList]) : Calls Tryd.prog 22 #[.string s] w (Ret w (lnA (lnOf s.data.toList))) := by
  have hj := congrArg List.length (cut3_join hc)
  simp only [List.length_append, List.length_cons, size_toList] at hj
  have zM : M.size ≤ 1000000 := by omega
  have zT : T.size ≤ 1000000 := by omega
  have hsv : strV (cutG 32 [] s.data.toList) = [.string M, .string T, .string V] := by
    rw [hc]
    simp [strV]
  have S := Lib.hid fun w => r7_Cut s 32 w hs
  have HSV := Lib.hid hsv
  have HN : Hid ((cutG 32 [] s.data.toList).length = 3) := Lib.hid (by rw [hc]; rfl)
  have q0 : Below w.heap.size w (w.alloc (.cells #[.string ⟨#[]⟩, .string ⟨#[]⟩, .int .i64 0, .int .i64 0] 36)) := (Below.refl _ w).alloc (Nat.le_refl _) _
  have A0 : LnAt w.heap.size (.string ⟨#[]⟩) (.string ⟨#[]⟩) (.int .i64 0) (.int .i64 0) (w.alloc (.cells #[.string ⟨#[]⟩, .string ⟨#[]⟩, .int .i64 0, .int .i64 0] 36)) := by
    constructor <;> simp
  have HA := Lib.hid A0
  by_cases h8 : V.size = 8
  · have l5 : 5 < V.size := by omega
    have l7 : 7 < V.size := by omega
    have hof := lnOf_ref hc (by rw [size_toList]; exact h8) (getElem_data V 5 l5) (getElem_data V 7 l7)
    have b5 := V[5].toNat_lt
    have b7 := V[7].toNat_lt
    obtain ⟨g, hg⟩ : ∃ g : Int, (V[5].toNat : Int) - 48 = g := ⟨_, rfl⟩
    obtain ⟨f, hf⟩ : ∃ g : Int, (V[7].toNat : Int) - 48 = g := ⟨_, rfl⟩
    rw [hg, hf] at hof
    have w5 : IntKind.i64.wrap ((V[5].toNat : Int) - 48) = g := (IntWalk.i64_in _ (by omega)).trans hg
    have w7 : IntKind.i64.wrap ((V[7].toNat : Int) - 48) = f := (IntWalk.i64_in _ (by omega)).trans hf
    have MY0 := fun w => r15_May M T g f w zM zT
    have hp := @lnMay_parts M.data.toList T.data.toList g f
    obtain ⟨K, hK⟩ : ∃ K, lnMay M.data.toList T.data.toList g f = K := ⟨_, rfl⟩
    rw [hK] at MY0 hof hp
    have MY := Lib.hid MY0
    have HOF := Lib.hid hof
    have HP := Lib.hid hp
    have g8 : ((V.size : Int) != 8) = false := by rw [h8]; rfl
    have g9 : (8 : Int) ≤ V.size := by omega
    have k5 : (5 : Int) < V.size := by omega
    have k7 : (7 : Int) < V.size := by omega
    have g10 : (V.size : Int) ≤ 8 := by omega
    clear hc MY0 hof hp hK hj A0 hsv h8
    obtain ⟨O, hO⟩ : ∃ O, lnOf s.data.toList = O := ⟨_, rfl⟩
    rw [hO]
    have HO := Lib.hid (hO.symm.trans HOF.out)
    clear hO HOF
    go_enter Tryd.func22, Tryd.ntmps22
    go_wp2_with fail
    refine (S.out _).mono ?_
    rintro e w1 ⟨v, rfl, ow, hb1⟩
    have iv := own_vals ow
    rw [HSV.out] at iv
    have q1 := q0.trans (hb1.mono q0.size)
    have a1 := HA.out.ret hb1
    obtain ⟨b, off, cap, rfl, hbl, hcell⟩ := vals_cell iv (k := 0) (by simp)
    have c0 := hcell 0 (by simp)
    have c1 := hcell 1 (by simp)
    have c2 := hcell 2 (by simp)
    simp only [List.getElem_cons_zero, List.getElem_cons_succ, Nat.add_zero, List.length_cons, List.length_nil] at c0 c1 c2 ⊢
    have A1 := Lib.hid a1
    clear ow iv hcell a1 hb1 S HSV HN HA q0
    go_wp2_with fail
    go_region_held3 (fun w' => w'.cell? ⟨b, off, none⟩ = some (.string M) ∧ w'.cell? ⟨b, off + 1, none⟩ = some (.string T) ∧ w'.cell? ⟨b, off + 2, none⟩ = some (.string V)) (first | exact ⟨c0, c1, c2⟩ | (simp (maxDischargeDepth := 9) [go_sem, World.cell?_alloc_some, *])) (first | fail)
    all_goals
      go_wp2_with fail
      refine (MY.out _).mono ?_
      rintro e w2 ⟨rfl, hb2⟩
      have z1 := q1.size
      have q2 := (q1.alloc z1 (.cells #[.string M, .string T, .int .i64 g, .int .i64 f] 36)).drew.trans (hb2.mono (by simp; omega))
      have d0 := (bcell hb2).1 w1.heap.size 0 (by simp)
      have d1 := (bcell hb2).1 w1.heap.size 1 (by simp)
      have d2 := (bcell hb2).1 w1.heap.size 2 (by simp)
      have d3 := (bcell hb2).1 w1.heap.size 3 (by simp)
      simp at d0 d1 d2 d3
      have a2 := (A1.out.ret ((Below.refl _ w1).alloc (Nat.le_refl _) (.cells #[.string M, .string T, .int .i64 g, .int .i64 f] 36))).drew.ret hb2
      have A2 := Lib.hid a2
      have z2 : w1.heap.size < w2.heap.size := by have := hb2.size; simp at this; omega
      have z3 : w.heap.size < w1.heap.size := A1.out.lt
      clear a2 hb2 A1 MY q1
      cases K with
      | false =>
        obtain rfl : O = none := HO.out.trans (if_neg (fun e => (by cases e.1)))
        obtain ⟨j0, j1, j2, j3, j4, j5, j6, j7, j8⟩ := A2.out
        go_wp2_with fail
        refine bodyPost_ret (v := .tuple #[lnV ⟨#[]⟩ ⟨#[]⟩ 0 0, .int .i64 150]) (by simp (maxDischargeDepth := 9) [results, Tryd.results22, go_sem, *]) rfl ⟨rfl, ?_⟩
        repeat (first | with_reducible exact q2 | with_reducible refine Below.drew ?_ | with_reducible refine Below.setCell ?_ (by simp) _)
      | true =>
        obtain ⟨_, _, i1, i2, i3, i4⟩ := HP.out rfl
        have TX0 := fun w => r15_Text M T g f w zM zT i1 i2 i3 i4
        have htx := eqb_bytes (lnTxt M.data.toList T.data.toList g f) s.data.toList
        rw [str_mk] at htx
        obtain ⟨X, hX⟩ : ∃ X : ByteArray, ⟨(lnTxt M.data.toList T.data.toList g f).toArray⟩ = X := ⟨_, rfl⟩
        rw [hX] at TX0 htx
        have TX := Lib.hid TX0
        clear TX0 hX
        by_cases hl : lnTxt M.data.toList T.data.toList g f = s.data.toList
        · obtain rfl : O = some (M.data.toList, T.data.toList, g, f) := HO.out.trans (if_pos ⟨rfl, hl⟩)
          rw [decide_eq_true hl] at htx
          rw [lnA_some]
          clear hl HO
          go_wp2_with fail
          refine (TX.out _).mono ?_
          rintro e w3 ⟨rfl, hb3⟩
          have f0 := ((bcell hb3).1 w1.heap.size 0 z2).trans d0
          have f1 := ((bcell hb3).1 w1.heap.size 1 z2).trans d1
          have f2 := ((bcell hb3).1 w1.heap.size 2 z2).trans d2
          have f3 := ((bcell hb3).1 w1.heap.size 3 z2).trans d3
          have q3 := q2.trans (hb3.mono q2.size)
          obtain ⟨j0, j1, j2, j3, j4, j5, j6, j7, j8⟩ := A2.out.ret hb3
          clear d0 d1 d2 d3 hb3 TX
          go_wp2_with fail
          refine bodyPost_ret (v := .tuple #[.agg #[.string M, .string T, .int .i64 g, .int .i64 f], .int .i64 0]) (by simp (maxDischargeDepth := 9) [results, Tryd.results22, go_sem, *]) rfl ⟨rfl, ?_⟩
          repeat (first | with_reducible exact q3 | with_reducible refine Below.drew ?_ | with_reducible refine Below.setCell ?_ (by simp) _)
        · obtain rfl : O = none := HO.out.trans (if_neg (fun e => hl e.2))
          rw [decide_eq_false hl] at htx
          clear hl HO
          go_wp2_with fail
          refine (TX.out _).mono ?_
          rintro e w3 ⟨rfl, hb3⟩
          have q3 := q2.trans (hb3.mono q2.size)
          obtain ⟨j0, j1, j2, j3, j4, j5, j6, j7, j8⟩ := A2.out.ret hb3
          clear d0 d1 d2 d3 hb3 TX
          go_wp2_with fail
          refine bodyPost_ret (v := .tuple #[lnV ⟨#[]⟩ ⟨#[]⟩ 0 0, .int .i64 150]) (by simp (maxDischargeDepth := 9) [results, Tryd.results22, go_sem, *]) rfl ⟨rfl, ?_⟩
          repeat (first | with_reducible exact q3 | with_reducible refine Below.drew ?_ | with_reducible refine Below.setCell ?_ (by simp) _)
  · have hof : lnOf s.data.toList = none := by
      rw [lnOf_3 hc]
      exact lnW_len (by rw [size_toList]; exact h8)
    have zV : V.size ≤ 1000000 := by omega
    have g8 : ((V.size : Int) != 8) = true := by simp; omega
    have g9 : ¬ (V.size : Int) = 8 := by omega
    rw [hof]
    clear hc hj A0 hsv h8 hof
    go_enter Tryd.func22, Tryd.ntmps22
    go_wp2_with fail
    refine (S.out _).mono ?_
    rintro e w1 ⟨v, rfl, ow, hb1⟩
    have iv := own_vals ow
    rw [HSV.out] at iv
    have q1 := q0.trans (hb1.mono q0.size)
    have a1 := HA.out.ret hb1
    obtain ⟨b, off, cap, rfl, hbl, hcell⟩ := vals_cell iv (k := 0) (by simp)
    have c2 := hcell 2 (by simp)
    simp only [List.getElem_cons_zero, List.getElem_cons_succ, List.length_cons, List.length_nil] at c2 ⊢
    obtain ⟨j0, j1, j2, j3, j4, j5, j6, j7, j8⟩ := a1
    clear ow iv hcell hb1 S HSV HN HA q0
    go_wp2_with fail
    refine bodyPost_ret (v := .tuple #[lnV ⟨#[]⟩ ⟨#[]⟩ 0 0, .int .i64 150]) (by simp (maxDischargeDepth := 9) [results, Tryd.results22, go_sem, *]) rfl ⟨rfl, ?_⟩
    repeat (first | with_reducible exact q1 | with_reducible refine Below.drew ?_ | with_reducible refine Below.setCell ?_ (by simp) _)
set_option maxHeartbeats 2000000 in
theorem r15_Parse (s : ByteArray) (w : World) (hs : s.size ≤ 1000000) : Calls Tryd.prog 22 #[.string s] w (Ret w (lnA (lnOf s.data.toList))) := by
  by_cases h : (cutG 32 [] s.data.toList).length = 3
  · match hc : cutG 32 [] s.data.toList, h with
    | [m, t, v], _ => exact r15_ParseW s ⟨m.toArray⟩ ⟨t.toArray⟩ ⟨v.toArray⟩ w hs hc
  · rw [lnOf_len h]
    have S := Lib.hid fun w => r7_Cut s 32 w hs
    have q0 : Below w.heap.size w (w.alloc (.cells #[.string ⟨#[]⟩, .string ⟨#[]⟩, .int .i64 0, .int .i64 0] 36)) := (Below.refl _ w).alloc (Nat.le_refl _) _
    have A0 : LnAt w.heap.size (.string ⟨#[]⟩) (.string ⟨#[]⟩) (.int .i64 0) (.int .i64 0) (w.alloc (.cells #[.string ⟨#[]⟩, .string ⟨#[]⟩, .int .i64 0, .int .i64 0] 36)) := by
      constructor <;> simp
    have HA := Lib.hid A0
    have hb := cutG_len 32 s.data.toList []
    rw [size_toList] at hb
    obtain ⟨n, hn⟩ : ∃ n, (cutG 32 [] s.data.toList).length = n := ⟨_, rfl⟩
    have HN := Lib.hid hn
    rw [hn] at h hb
    have g1 : ((n : Int) != 3) = true := by simp; omega
    have g2 : ¬ (n : Int) = 3 := by omega
    clear A0 hn h
    go_enter Tryd.func22, Tryd.ntmps22
    go_wp2_with fail
    refine (S.out _).mono ?_
    rintro e w1 ⟨v, rfl, ow, hb1⟩
    obtain ⟨a, cap, rfl, _, _⟩ := own_vals ow
    rw [strV_len, HN.out]
    have q1 := q0.trans (hb1.mono q0.size)
    obtain ⟨j0, j1, j2, j3, j4, j5, j6, j7, j8⟩ := HA.out.ret hb1
    clear ow hb1 S HN HA q0
    go_wp2_with fail
    refine bodyPost_ret (v := .tuple #[lnV ⟨#[]⟩ ⟨#[]⟩ 0 0, .int .i64 150]) (by simp (maxDischargeDepth := 9) [results, Tryd.results22, go_sem, *]) rfl ⟨rfl, ?_⟩
    repeat (first | with_reducible exact q1 | with_reducible refine Below.drew ?_ | with_reducible refine Below.setCell ?_ (by simp) _)
end Go.Proofs.YtnfgpcccmbblcaaDoor
