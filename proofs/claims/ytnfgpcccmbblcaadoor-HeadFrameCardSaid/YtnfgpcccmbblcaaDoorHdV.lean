/- HeadFrame: the walk. -/
import Derived.Test.YtnfgpcccmbblcaaDoorHdU
import Derived.Test.YtnfgpcccmbblcaaDoorTk
namespace Go.Proofs.YtnfgpcccmbblcaaDoor
open Go.RowKit

abbrev prT : TypeId := 52
/-- An empty row of the call's own. -/
theorem ap_new {B : Nat} {w W : World} (K : Nat) (h : Below B w W) (hB : B ≤ w.heap.size) (hK : K = W.heap.size) : (W.alloc (.cells #[] 52)).ownsRow B 52 2 (.slice (some ⟨K, 0, none⟩) 0 0) 0 [] := by
  subst hK
  have := h.size
  refine ⟨rfl, .inr ⟨W.heap.size, 0, #[], rfl, by omega, ?_, Nat.le_refl _, by simp [maxLen], rfl, rfl⟩⟩
  exact World.alloc_heap_new W _
/-- A row of one pair. -/
theorem ap_two {B : Nat} {w W : World} (K : Nat) (a b : Value) (h : Below B w W) (hB : B ≤ w.heap.size) (hK : K = W.heap.size) : (W.alloc (.cells #[a, b] 52)).ownsRow B 52 2 (.slice (some ⟨K, 0, none⟩) 1 1) 1 [a, b] := by
  subst hK
  have := h.size
  refine ⟨rfl, .inr ⟨W.heap.size, 1, #[a, b], rfl, by omega, ?_, Nat.le_refl _, by simp [maxLen], rfl, rfl⟩⟩
  exact World.alloc_heap_new W _
theorem ap_ne {B g K : Nat} {e : TypeId} {W : World} {a b : Value} (h0 : W.ownsRow B e 2 (.slice (some ⟨g, 0, none⟩) 0 0) 0 []) (h1 : W.ownsRow B e 2 (.slice (some ⟨K, 0, none⟩) 1 1) 1 [a, b]) : K ≠ g := by
  rintro rfl
  rcases h0.2 with ⟨h, _⟩ | ⟨g0, c0, u0, e0, _, k0, _, _, z0, _⟩
  · cases h
  rcases h1.2 with ⟨h, _⟩ | ⟨g1, c1, u1, e1, _, k1, _, _, z1, _⟩
  · cases h
  cases e0
  cases e1
  rw [k0] at k1
  cases k1
  omega
theorem ap_below {B n : Nat} {e : TypeId} {size : Nat} {v : Value} {xs : List Value} {w W w1 : World} (hb : Below B w W) (hB : B ≤ w.heap.size) (hown : W.ownsRow B e size v n xs) (hg : W.grownBy w1 v.ownBlock) : Below B w w1 :=
  hb.grown hg (Nat.le_trans hB hb.size) (fun r hr => (hown.lt r hr).1)
theorem ap_pairs {B m : Nat} {l : List Pr} {v : Value} {pn pv : ByteArray} {W : World} (hm : l.length = m) (h : W.ownsRow B 52 2 v (0 + m + 1) ([] ++ prV l ++ [.string pn, .string pv])) : IsPairs v (l ++ [(pn.data.toList, pv.data.toList)]) W := by
  unfold IsPairs
  rw [List.length_append, hm, prV_app]
  have := own_row h
  rw [Nat.zero_add] at this
  exact this
set_option maxHeartbeats 16000000 in
set_option maxRecDepth 100000 in
theorem frame14 (v : Value) (l : List Pr) (pn pv : ByteArray) (w : World) (hv : IsPairs v l w) (hl : l.length ≤ 9223372036854775807) (zn : pn.size ≤ 9223372036854775807) (zv : pv.size ≤ 9223372036854775807) (hm : ML w) :
    Calls Tryd.prog 9 #[v, .agg #[.string pn, .string pv]] w (Ret w (.bool true)) := by
  have GH0 := fun w (h : IsPairs v l w) => r14_Great v l w h hl
  have HV := Lib.hid hv
  have HM := Lib.hid hm
  clear hv hm
  obtain ⟨g, hg⟩ : ∃ g, grt l = g := ⟨_, rfl⟩
  rw [hg] at GH0
  have GH := Lib.hid GH0
  clear GH0
  by_cases hgood : g = false ∧ pn.size ≤ 1000 ∧ pv.size ≤ 1000
  · obtain ⟨rfl, z1, z2⟩ := hgood
    obtain ⟨s1, s2, s3⟩ := grt_small hg
    have F0 := fun w (h : IsPairs v l w) => hd_Frame v l w h (by omega) (fun p hp => by have := (s3 p hp).1; omega) (fun p hp => by have := (s3 p hp).2; omega)
    have S3 := Lib.hid s3
    obtain ⟨⟨k0, n0, f0⟩, hx⟩ : ∃ x, frm l = x := ⟨_, rfl⟩
    have HX := Lib.hid hx
    rw [hx] at F0
    unfold frmT at F0
    have FH := Lib.hid F0
    obtain ⟨⟨k1, n1, f1⟩, hx1⟩ : ∃ x, frm (l ++ [(pn.data.toList, pv.data.toList)]) = x := ⟨_, rfl⟩
    have F1 := fun v w (h : IsPairs v (l ++ [(pn.data.toList, pv.data.toList)]) w) => hd_Frame v (l ++ [(pn.data.toList, pv.data.toList)]) w h (by rw [List.length_append]; simp; omega) (fun p hp => by
      rcases List.mem_append.1 hp with hp | hp
      · have := (s3 p hp).1; omega
      · rw [List.mem_singleton.1 hp]; show pn.data.toList.length ≤ _; rw [size_toList]; omega) (fun p hp => by
      rcases List.mem_append.1 hp with hp | hp
      · have := (s3 p hp).2; omega
      · rw [List.mem_singleton.1 hp]; show pv.data.toList.length ≤ _; rw [size_toList]; omega)
    have HX1 := Lib.hid hx1
    rw [hx1] at F1
    unfold frmT at F1
    have FQ := Lib.hid F1
    have T0 := fun w => as_Same pn ⟨#[116, 114, 97, 110, 115, 102, 101, 114, 45, 101, 110, 99, 111, 100, 105, 110, 103]⟩ w (by omega) (by decide)
    have L0 := fun w => as_Same pn ⟨#[99, 111, 110, 116, 101, 110, 116, 45, 108, 101, 110, 103, 116, 104]⟩ w (by omega) (by decide)
    change ∀ w, Calls Tryd.prog 30 _ w (Ret w (.bool (decide (lowL pn.data.toList = lowL teL)))) at T0
    change ∀ w, Calls Tryd.prog 30 _ w (Ret w (.bool (decide (lowL pn.data.toList = lowL clL)))) at L0
    rw [low_te] at T0
    rw [low_cl] at L0
    obtain ⟨pt, hpt⟩ : ∃ x, decide (lowL pn.data.toList = teL) = x := ⟨_, rfl⟩
    obtain ⟨pc, hpc⟩ : ∃ x, decide (lowL pn.data.toList = clL) = x := ⟨_, rfl⟩
    rw [hpt] at T0
    rw [hpc] at L0
    have PT := Lib.hid hpt
    have PC := Lib.hid hpc
    have TS := Lib.hid T0
    have LS := Lib.hid L0
    have FT0 := fun w (h : IsPairs v l w) => hd_Find v l ⟨#[116, 114, 97, 110, 115, 102, 101, 114, 45, 101, 110, 99, 111, 100, 105, 110, 103]⟩ w h (by omega) (fun p hp => by have := (s3 p hp).1; omega) (by decide)
    have FC0 := fun w (h : IsPairs v l w) => hd_Find v l ⟨#[99, 111, 110, 116, 101, 110, 116, 45, 108, 101, 110, 103, 116, 104]⟩ w h (by omega) (fun p hp => by have := (s3 p hp).1; omega) (by decide)
    unfold FndIs at FT0 FC0
    change ∀ w, IsPairs v l w → Calls Tryd.prog 29 _ w (fun e w' => ∃ u, e = .returned u ∧ IsVals u (strV (fndV l teL)) w' ∧ Below w.heap.size w w') at FT0
    change ∀ w, IsPairs v l w → Calls Tryd.prog 29 _ w (fun e w' => ∃ u, e = .returned u ∧ IsVals u (strV (fndV l clL)) w' ∧ Below w.heap.size w w') at FC0
    have FT := Lib.hid FT0
    have FC := Lib.hid FC0
    have lT := fndV_len l teL
    have lC := fndV_len l clL
    obtain ⟨nT, hnT⟩ : ∃ x, (fndV l teL).length = x := ⟨_, rfl⟩
    obtain ⟨nC, hnC⟩ : ∃ x, (fndV l clL).length = x := ⟨_, rfl⟩
    have HT := Lib.hid hnT
    have HC := Lib.hid hnC
    rw [hnT] at lT
    rw [hnC] at lC
    clear s3 hg hx F0 hx1 F1 hpt hpc T0 L0 FT0 FC0 hnT hnC
    have e1 : decide ((1000 : Int) < pn.size) = false := decide_eq_false (by omega)
    have e2 : decide ((1000 : Int) < pv.size) = false := decide_eq_false (by omega)
    go_enter Tryd.func9, Tryd.ntmps9
    go_wp2_with fail
    have a0 := PrAt.new w (.string pn) (.string pv)
    have b0 := (Below.refl w.heap.size w).alloc (Nat.le_refl _) (.cells #[.string pn, .string pv] 52)
    refine (alive14 _ (HM.out.ret b0)).mono ?_
    rintro e w1 ⟨rfl, hb⟩
    have A1 := Lib.hid (a0.ret hb)
    have q1 := b0.trans (hb.mono b0.size)
    clear hb a0 b0
    go_wp2_with fail
    refine (GH.out _ (HV.out.ret q1)).mono ?_
    rintro e w2 ⟨rfl, hb⟩
    have A2 := Lib.hid (A1.out.ret hb)
    have q2 := q1.trans (hb.mono q1.size)
    clear hb A1 q1
    obtain ⟨y0, y1, y2, y3⟩ := A2.out
    go_wp2_with fail
    refine (FH.out _ (HV.out.ret q2)).mono ?_
    rintro e w3 ⟨rfl, hb⟩
    have A3 := Lib.hid (A2.out.ret hb)
    have q3 := q2.trans (hb.mono q2.size)
    clear hb A2 q2 y0 y1 y2 y3
    go_wp2_with fail
    obtain ⟨i0, hi, hz0, hz1, hz2⟩ := info_parts vinfo_pair
    obtain ⟨va, vc, rfl⟩ := HV.out.form
    obtain ⟨m, hmm⟩ : ∃ m, l.length = m := ⟨_, rfl⟩
    rw [hmm] at HV FT FC ⊢
    have zm : m ≤ 40 := by omega
    have HV3 := Lib.hid (HV.out.ret q3)
    go_cut [9, 10, 11] (fun s9 s10 s11 wx => s9 = .int .u8 k1 ∧ s10 = .int .i64 n1 ∧ s11 = .int .i64 f1 ∧ Below w3.heap.size w3 wx)
    case first =>
      refine wp_region_held_drew (S := fun _ => True) (by kernel_rfl) trivial (fun hHeld => ?_)
      have hb := (Below.refl w3.heap.size w3).drew
      refine tk_on (i := 1) (some 43) (v := ?_) (by kernel_rfl) (by kernel_rfl) (by kernel_rfl) (by kernel_rfl) (fun _ _ _ h => h) (by assumption) (fun o ho w' hSw => ?_) ?_
      rotate_left
      · (simp only [List.getElem?_toArray, List.getElem?_cons_succ, List.getElem?_cons_zero, Option.some.injEq] at ho; subst ho; (try dsimp only at hSw); go_simp; try with_reducible rfl)
      simp only [Act.put, List.setIfInBounds_toArray, List.set_cons_zero, List.set_cons_succ]
      refine wpAnyH_ready (rs := [0, 3]) (by kernel_rfl) (by simp) ?_
      refine tk_cons (by kernel_rfl) (fun o ho K hK => ?_) ?_
      · simp only [List.getElem?_toArray, List.getElem?_cons_zero, Option.some.injEq] at ho
        subst ho
        clear hHeld
        go_simp
        refine hK.out _ _ trivial (fun hHeld => ?_)
        clear hK K
        have r0 := ap_new (w3.heap.size) hb (Nat.le_refl _) (by simp)
        have hb : Below w3.heap.size w3 (w3.alloc (.cells #[] 52)).drew := hb.alloc hb.size (.cells #[] 52)
        refine wpAnyH_ready (rs := [2, 3]) (by kernel_rfl) (by simp) ?_
        refine tk_cons (by kernel_rfl) (fun o ho K hK => ?_) ?_
        · simp only [List.getElem?_toArray, List.getElem?_cons_succ, List.getElem?_cons_zero, Option.some.injEq] at ho
          subst ho
          clear hHeld
          refine wp_app_row _ _ _ (by rfl) w3.heap.size 52 i0 _ 2 32 Tryd.underlying22 hi hz0 hz1 hz2 rfl (by omega) _ 0 [] (by rfl) r0 (.slice va m vc) (by rfl) m (prV l) (by have := HV3.out.ret hb; unfold IsPairs at this; rwa [hmm] at this) (prV_one l) (by omega) (by omega) hb.size ?_
          intro v8 w8 hown hgrow
          have hb := ap_below hb (Nat.le_refl _) r0 hgrow
          have r2 := hown
          clear hown hgrow r0
          refine hK.out _ _ trivial (fun hHeld => ?_)
          clear hK K
          refine wpAnyH_ready (rs := [3]) (by kernel_rfl) (by simp) ?_
          refine tk_cons (by kernel_rfl) (fun o ho K hK => ?_) ?_
          · simp only [List.getElem?_toArray, List.getElem?_cons_succ, List.getElem?_cons_zero, Option.some.injEq] at ho
            subst ho
            clear hHeld
            obtain ⟨y0, y1, y2, y3, y4⟩ := A3.out.ret hb
            go_simp
            refine hK.out _ _ trivial (fun hHeld => ?_)
            clear hK K
            clear y0 y1 y2 y3 y4
            refine wpAnyH_ready (rs := [4]) (by kernel_rfl) (by simp) ?_
            refine tk_cons (by kernel_rfl) (fun o ho K hK => ?_) ?_
            · simp only [List.getElem?_toArray, List.getElem?_cons_succ, List.getElem?_cons_zero, Option.some.injEq] at ho
              subst ho
              clear hHeld
              go_simp
              refine hK.out _ _ trivial (fun hHeld => ?_)
              clear hK K
              have r4 := ap_two (w8.heap.size) (.string pn) (.string pv) hb (Nat.le_refl _) (by simp)
              have r2 := r2.alloc (.cells #[.string pn, .string pv] 52)
              have hb : Below w3.heap.size w3 (w8.alloc (.cells #[.string pn, .string pv] 52)) := hb.alloc hb.size (.cells #[.string pn, .string pv] 52)
              refine wpAnyH_ready (rs := [5]) (by kernel_rfl) (by simp) ?_
              refine tk_cons (by kernel_rfl) (fun o ho K hK => ?_) ?_
              · simp only [List.getElem?_toArray, List.getElem?_cons_succ, List.getElem?_cons_zero, Option.some.injEq] at ho
                subst ho
                clear hHeld
                refine wp_app_row _ _ _ (by rfl) w3.heap.size 52 i0 _ 2 32 Tryd.underlying22 hi hz0 hz1 hz2 rfl (by omega) v8 (0 + m) ([] ++ prV l) (by rfl) r2 _ (by rfl) 1 [.string pn, .string pv] (own_row r4) (by simp [Value.oneCell']) (by omega) (by omega) hb.size ?_
                intro v9 w9 hown hgrow
                have hb := ap_below hb (Nat.le_refl _) r2 hgrow
                have r5 := hown
                clear hown hgrow r2 r4
                refine hK.out _ _ trivial (fun hHeld => ?_)
                clear hK K
                refine wpAnyH_ready (rs := [6]) (by kernel_rfl) (by simp) ?_
                refine tk_cons (by kernel_rfl) (fun o ho K hK => ?_) ?_
                · simp only [List.getElem?_toArray, List.getElem?_cons_succ, List.getElem?_cons_zero, Option.some.injEq] at ho
                  subst ho
                  clear hHeld
                  go_simp
                  refine (FQ.out v9 _ (ap_pairs hmm r5)).mono ?_
                  rintro e w10 ⟨rfl, hb10⟩
                  have hb := hb.trans (hb10.mono hb.size)
                  clear hb10 r5
                  go_simp
                  refine hK.out _ _ trivial (fun hHeld => ?_)
                  clear hK K
                  refine tk_on (i := 7) (some 41) (v := ?_) (by kernel_rfl) (by kernel_rfl) (by kernel_rfl) (by kernel_rfl) (fun _ _ _ h => h) (by assumption) (fun o ho w' hSw => ?_) ?_
                  rotate_left
                  · (simp only [List.getElem?_toArray, List.getElem?_cons_succ, List.getElem?_cons_zero, Option.some.injEq] at ho; subst ho; (try dsimp only at hSw); go_simp; try with_reducible rfl)
                  simp only [Act.put, List.setIfInBounds_toArray, List.set_cons_zero, List.set_cons_succ]
                  refine tk_on (i := 8) (some 49) (v := ?_) (by kernel_rfl) (by kernel_rfl) (by kernel_rfl) (by kernel_rfl) (fun _ _ _ h => h) (by assumption) (fun o ho w' hSw => ?_) ?_
                  rotate_left
                  · (simp only [List.getElem?_toArray, List.getElem?_cons_succ, List.getElem?_cons_zero, Option.some.injEq] at ho; subst ho; (try dsimp only at hSw); go_simp; try with_reducible rfl)
                  simp only [Act.put, List.setIfInBounds_toArray, List.set_cons_zero, List.set_cons_succ]
                  refine tk_on (i := 9) (some 50) (v := ?_) (by kernel_rfl) (by kernel_rfl) (by kernel_rfl) (by kernel_rfl) (fun _ _ _ h => h) (by assumption) (fun o ho w' hSw => ?_) ?_
                  rotate_left
                  · (simp only [List.getElem?_toArray, List.getElem?_cons_succ, List.getElem?_cons_zero, Option.some.injEq] at ho; subst ho; (try dsimp only at hSw); go_simp; try with_reducible rfl)
                  simp only [Act.put, List.setIfInBounds_toArray, List.set_cons_zero, List.set_cons_succ]
                  refine tk_on (i := 10) (some 51) (v := ?_) (by kernel_rfl) (by kernel_rfl) (by kernel_rfl) (by kernel_rfl) (fun _ _ _ h => h) (by assumption) (fun o ho w' hSw => ?_) ?_
                  rotate_left
                  · (simp only [List.getElem?_toArray, List.getElem?_cons_succ, List.getElem?_cons_zero, Option.some.injEq] at ho; subst ho; (try dsimp only at hSw); go_simp; try with_reducible rfl)
                  simp only [Act.put, List.setIfInBounds_toArray, List.set_cons_zero, List.set_cons_succ]
                  refine tk_on (i := 11) (some 9) (v := ?_) (by kernel_rfl) (by kernel_rfl) (by kernel_rfl) (by kernel_rfl) (fun _ _ _ h => h) (by assumption) (fun o ho w' hSw => ?_) ?_
                  rotate_left
                  · (simp only [List.getElem?_toArray, List.getElem?_cons_succ, List.getElem?_cons_zero, Option.some.injEq] at ho; subst ho; (try dsimp only at hSw); go_simp; try with_reducible rfl)
                  simp only [Act.put, List.setIfInBounds_toArray, List.set_cons_zero, List.set_cons_succ]
                  refine tk_on (i := 12) (some 10) (v := ?_) (by kernel_rfl) (by kernel_rfl) (by kernel_rfl) (by kernel_rfl) (fun _ _ _ h => h) (by assumption) (fun o ho w' hSw => ?_) ?_
                  rotate_left
                  · (simp only [List.getElem?_toArray, List.getElem?_cons_succ, List.getElem?_cons_zero, Option.some.injEq] at ho; subst ho; (try dsimp only at hSw); go_simp; try with_reducible rfl)
                  simp only [Act.put, List.setIfInBounds_toArray, List.set_cons_zero, List.set_cons_succ]
                  refine tk_on (i := 13) (some 11) (v := ?_) (by kernel_rfl) (by kernel_rfl) (by kernel_rfl) (by kernel_rfl) (fun _ _ _ h => h) (by assumption) (fun o ho w' hSw => ?_) ?_
                  rotate_left
                  · (simp only [List.getElem?_toArray, List.getElem?_cons_succ, List.getElem?_cons_zero, Option.some.injEq] at ho; subst ho; (try dsimp only at hSw); go_simp; try with_reducible rfl)
                  simp only [Act.put, List.setIfInBounds_toArray, List.set_cons_zero, List.set_cons_succ]
                  refine wpAnyH_done (by kernel_rfl) ?_ _
                  go_wp2_with fail
                  go_meet
                  exact ⟨rfl, rfl, rfl, hb⟩
                exact AllReadyH.nil
              exact AllReadyH.nil
            exact AllReadyH.nil
          exact AllReadyH.nil
        refine tk_cons (by kernel_rfl) (fun o ho K hK => ?_) ?_
        · simp only [List.getElem?_toArray, List.getElem?_cons_succ, List.getElem?_cons_zero, Option.some.injEq] at ho
          subst ho
          clear hHeld
          obtain ⟨y0, y1, y2, y3, y4⟩ := A3.out.ret hb
          go_simp
          refine hK.out _ _ trivial (fun hHeld => ?_)
          clear hK K
          clear y0 y1 y2 y3 y4
          refine wpAnyH_ready (rs := [2, 4]) (by kernel_rfl) (by simp) ?_
          refine tk_cons (by kernel_rfl) (fun o ho K hK => ?_) ?_
          · simp only [List.getElem?_toArray, List.getElem?_cons_succ, List.getElem?_cons_zero, Option.some.injEq] at ho
            subst ho
            clear hHeld
            refine wp_app_row _ _ _ (by rfl) w3.heap.size 52 i0 _ 2 32 Tryd.underlying22 hi hz0 hz1 hz2 rfl (by omega) _ 0 [] (by rfl) r0 (.slice va m vc) (by rfl) m (prV l) (by have := HV3.out.ret hb; unfold IsPairs at this; rwa [hmm] at this) (prV_one l) (by omega) (by omega) hb.size ?_
            intro v8 w8 hown hgrow
            have hb := ap_below hb (Nat.le_refl _) r0 hgrow
            have r2 := hown
            clear hown hgrow r0
            refine hK.out _ _ trivial (fun hHeld => ?_)
            clear hK K
            refine wpAnyH_ready (rs := [4]) (by kernel_rfl) (by simp) ?_
            refine tk_cons (by kernel_rfl) (fun o ho K hK => ?_) ?_
            · simp only [List.getElem?_toArray, List.getElem?_cons_succ, List.getElem?_cons_zero, Option.some.injEq] at ho
              subst ho
              clear hHeld
              go_simp
              refine hK.out _ _ trivial (fun hHeld => ?_)
              clear hK K
              have r4 := ap_two (w8.heap.size) (.string pn) (.string pv) hb (Nat.le_refl _) (by simp)
              have r2 := r2.alloc (.cells #[.string pn, .string pv] 52)
              have hb : Below w3.heap.size w3 (w8.alloc (.cells #[.string pn, .string pv] 52)) := hb.alloc hb.size (.cells #[.string pn, .string pv] 52)
              refine wpAnyH_ready (rs := [5]) (by kernel_rfl) (by simp) ?_
              refine tk_cons (by kernel_rfl) (fun o ho K hK => ?_) ?_
              · simp only [List.getElem?_toArray, List.getElem?_cons_succ, List.getElem?_cons_zero, Option.some.injEq] at ho
                subst ho
                clear hHeld
                refine wp_app_row _ _ _ (by rfl) w3.heap.size 52 i0 _ 2 32 Tryd.underlying22 hi hz0 hz1 hz2 rfl (by omega) v8 (0 + m) ([] ++ prV l) (by rfl) r2 _ (by rfl) 1 [.string pn, .string pv] (own_row r4) (by simp [Value.oneCell']) (by omega) (by omega) hb.size ?_
                intro v9 w9 hown hgrow
                have hb := ap_below hb (Nat.le_refl _) r2 hgrow
                have r5 := hown
                clear hown hgrow r2 r4
                refine hK.out _ _ trivial (fun hHeld => ?_)
                clear hK K
                refine wpAnyH_ready (rs := [6]) (by kernel_rfl) (by simp) ?_
                refine tk_cons (by kernel_rfl) (fun o ho K hK => ?_) ?_
                · simp only [List.getElem?_toArray, List.getElem?_cons_succ, List.getElem?_cons_zero, Option.some.injEq] at ho
                  subst ho
                  clear hHeld
                  go_simp
                  refine (FQ.out v9 _ (ap_pairs hmm r5)).mono ?_
                  rintro e w10 ⟨rfl, hb10⟩
                  have hb := hb.trans (hb10.mono hb.size)
                  clear hb10 r5
                  go_simp
                  refine hK.out _ _ trivial (fun hHeld => ?_)
                  clear hK K
                  refine tk_on (i := 7) (some 41) (v := ?_) (by kernel_rfl) (by kernel_rfl) (by kernel_rfl) (by kernel_rfl) (fun _ _ _ h => h) (by assumption) (fun o ho w' hSw => ?_) ?_
                  rotate_left
                  · (simp only [List.getElem?_toArray, List.getElem?_cons_succ, List.getElem?_cons_zero, Option.some.injEq] at ho; subst ho; (try dsimp only at hSw); go_simp; try with_reducible rfl)
                  simp only [Act.put, List.setIfInBounds_toArray, List.set_cons_zero, List.set_cons_succ]
                  refine tk_on (i := 8) (some 49) (v := ?_) (by kernel_rfl) (by kernel_rfl) (by kernel_rfl) (by kernel_rfl) (fun _ _ _ h => h) (by assumption) (fun o ho w' hSw => ?_) ?_
                  rotate_left
                  · (simp only [List.getElem?_toArray, List.getElem?_cons_succ, List.getElem?_cons_zero, Option.some.injEq] at ho; subst ho; (try dsimp only at hSw); go_simp; try with_reducible rfl)
                  simp only [Act.put, List.setIfInBounds_toArray, List.set_cons_zero, List.set_cons_succ]
                  refine tk_on (i := 9) (some 50) (v := ?_) (by kernel_rfl) (by kernel_rfl) (by kernel_rfl) (by kernel_rfl) (fun _ _ _ h => h) (by assumption) (fun o ho w' hSw => ?_) ?_
                  rotate_left
                  · (simp only [List.getElem?_toArray, List.getElem?_cons_succ, List.getElem?_cons_zero, Option.some.injEq] at ho; subst ho; (try dsimp only at hSw); go_simp; try with_reducible rfl)
                  simp only [Act.put, List.setIfInBounds_toArray, List.set_cons_zero, List.set_cons_succ]
                  refine tk_on (i := 10) (some 51) (v := ?_) (by kernel_rfl) (by kernel_rfl) (by kernel_rfl) (by kernel_rfl) (fun _ _ _ h => h) (by assumption) (fun o ho w' hSw => ?_) ?_
                  rotate_left
                  · (simp only [List.getElem?_toArray, List.getElem?_cons_succ, List.getElem?_cons_zero, Option.some.injEq] at ho; subst ho; (try dsimp only at hSw); go_simp; try with_reducible rfl)
                  simp only [Act.put, List.setIfInBounds_toArray, List.set_cons_zero, List.set_cons_succ]
                  refine tk_on (i := 11) (some 9) (v := ?_) (by kernel_rfl) (by kernel_rfl) (by kernel_rfl) (by kernel_rfl) (fun _ _ _ h => h) (by assumption) (fun o ho w' hSw => ?_) ?_
                  rotate_left
                  · (simp only [List.getElem?_toArray, List.getElem?_cons_succ, List.getElem?_cons_zero, Option.some.injEq] at ho; subst ho; (try dsimp only at hSw); go_simp; try with_reducible rfl)
                  simp only [Act.put, List.setIfInBounds_toArray, List.set_cons_zero, List.set_cons_succ]
                  refine tk_on (i := 12) (some 10) (v := ?_) (by kernel_rfl) (by kernel_rfl) (by kernel_rfl) (by kernel_rfl) (fun _ _ _ h => h) (by assumption) (fun o ho w' hSw => ?_) ?_
                  rotate_left
                  · (simp only [List.getElem?_toArray, List.getElem?_cons_succ, List.getElem?_cons_zero, Option.some.injEq] at ho; subst ho; (try dsimp only at hSw); go_simp; try with_reducible rfl)
                  simp only [Act.put, List.setIfInBounds_toArray, List.set_cons_zero, List.set_cons_succ]
                  refine tk_on (i := 13) (some 11) (v := ?_) (by kernel_rfl) (by kernel_rfl) (by kernel_rfl) (by kernel_rfl) (fun _ _ _ h => h) (by assumption) (fun o ho w' hSw => ?_) ?_
                  rotate_left
                  · (simp only [List.getElem?_toArray, List.getElem?_cons_succ, List.getElem?_cons_zero, Option.some.injEq] at ho; subst ho; (try dsimp only at hSw); go_simp; try with_reducible rfl)
                  simp only [Act.put, List.setIfInBounds_toArray, List.set_cons_zero, List.set_cons_succ]
                  refine wpAnyH_done (by kernel_rfl) ?_ _
                  go_wp2_with fail
                  go_meet
                  exact ⟨rfl, rfl, rfl, hb⟩
                exact AllReadyH.nil
              exact AllReadyH.nil
            exact AllReadyH.nil
          refine tk_cons (by kernel_rfl) (fun o ho K hK => ?_) ?_
          · simp only [List.getElem?_toArray, List.getElem?_cons_succ, List.getElem?_cons_zero, Option.some.injEq] at ho
            subst ho
            clear hHeld
            go_simp
            refine hK.out _ _ trivial (fun hHeld => ?_)
            clear hK K
            have r4 := ap_two (w3.heap.size + 1) (.string pn) (.string pv) hb (Nat.le_refl _) (by simp)
            have r0 := r0.alloc (.cells #[.string pn, .string pv] 52)
            have hb : Below w3.heap.size w3 ((w3.alloc (.cells #[] 52)).alloc (.cells #[.string pn, .string pv] 52)).drew := hb.alloc hb.size (.cells #[.string pn, .string pv] 52)
            refine wpAnyH_ready (rs := [2]) (by kernel_rfl) (by simp) ?_
            refine tk_cons (by kernel_rfl) (fun o ho K hK => ?_) ?_
            · simp only [List.getElem?_toArray, List.getElem?_cons_succ, List.getElem?_cons_zero, Option.some.injEq] at ho
              subst ho
              clear hHeld
              refine wp_app_row _ _ _ (by rfl) w3.heap.size 52 i0 _ 2 32 Tryd.underlying22 hi hz0 hz1 hz2 rfl (by omega) _ 0 [] (by rfl) r0 (.slice va m vc) (by rfl) m (prV l) (by have := HV3.out.ret hb; unfold IsPairs at this; rwa [hmm] at this) (prV_one l) (by omega) (by omega) hb.size ?_
              intro v8 w8 hown hgrow
              have r4 := r4.kept hgrow (.inr (fun e => ap_ne r0 r4 (Option.some.inj e)))
              have hb := ap_below hb (Nat.le_refl _) r0 hgrow
              have r2 := hown
              clear hown hgrow r0
              refine hK.out _ _ trivial (fun hHeld => ?_)
              clear hK K
              refine wpAnyH_ready (rs := [5]) (by kernel_rfl) (by simp) ?_
              refine tk_cons (by kernel_rfl) (fun o ho K hK => ?_) ?_
              · simp only [List.getElem?_toArray, List.getElem?_cons_succ, List.getElem?_cons_zero, Option.some.injEq] at ho
                subst ho
                clear hHeld
                refine wp_app_row _ _ _ (by rfl) w3.heap.size 52 i0 _ 2 32 Tryd.underlying22 hi hz0 hz1 hz2 rfl (by omega) v8 (0 + m) ([] ++ prV l) (by rfl) r2 _ (by rfl) 1 [.string pn, .string pv] (own_row r4) (by simp [Value.oneCell']) (by omega) (by omega) hb.size ?_
                intro v9 w9 hown hgrow
                have hb := ap_below hb (Nat.le_refl _) r2 hgrow
                have r5 := hown
                clear hown hgrow r2 r4
                refine hK.out _ _ trivial (fun hHeld => ?_)
                clear hK K
                refine wpAnyH_ready (rs := [6]) (by kernel_rfl) (by simp) ?_
                refine tk_cons (by kernel_rfl) (fun o ho K hK => ?_) ?_
                · simp only [List.getElem?_toArray, List.getElem?_cons_succ, List.getElem?_cons_zero, Option.some.injEq] at ho
                  subst ho
                  clear hHeld
                  go_simp
                  refine (FQ.out v9 _ (ap_pairs hmm r5)).mono ?_
                  rintro e w10 ⟨rfl, hb10⟩
                  have hb := hb.trans (hb10.mono hb.size)
                  clear hb10 r5
                  go_simp
                  refine hK.out _ _ trivial (fun hHeld => ?_)
                  clear hK K
                  refine tk_on (i := 7) (some 41) (v := ?_) (by kernel_rfl) (by kernel_rfl) (by kernel_rfl) (by kernel_rfl) (fun _ _ _ h => h) (by assumption) (fun o ho w' hSw => ?_) ?_
                  rotate_left
                  · (simp only [List.getElem?_toArray, List.getElem?_cons_succ, List.getElem?_cons_zero, Option.some.injEq] at ho; subst ho; (try dsimp only at hSw); go_simp; try with_reducible rfl)
                  simp only [Act.put, List.setIfInBounds_toArray, List.set_cons_zero, List.set_cons_succ]
                  refine tk_on (i := 8) (some 49) (v := ?_) (by kernel_rfl) (by kernel_rfl) (by kernel_rfl) (by kernel_rfl) (fun _ _ _ h => h) (by assumption) (fun o ho w' hSw => ?_) ?_
                  rotate_left
                  · (simp only [List.getElem?_toArray, List.getElem?_cons_succ, List.getElem?_cons_zero, Option.some.injEq] at ho; subst ho; (try dsimp only at hSw); go_simp; try with_reducible rfl)
                  simp only [Act.put, List.setIfInBounds_toArray, List.set_cons_zero, List.set_cons_succ]
                  refine tk_on (i := 9) (some 50) (v := ?_) (by kernel_rfl) (by kernel_rfl) (by kernel_rfl) (by kernel_rfl) (fun _ _ _ h => h) (by assumption) (fun o ho w' hSw => ?_) ?_
                  rotate_left
                  · (simp only [List.getElem?_toArray, List.getElem?_cons_succ, List.getElem?_cons_zero, Option.some.injEq] at ho; subst ho; (try dsimp only at hSw); go_simp; try with_reducible rfl)
                  simp only [Act.put, List.setIfInBounds_toArray, List.set_cons_zero, List.set_cons_succ]
                  refine tk_on (i := 10) (some 51) (v := ?_) (by kernel_rfl) (by kernel_rfl) (by kernel_rfl) (by kernel_rfl) (fun _ _ _ h => h) (by assumption) (fun o ho w' hSw => ?_) ?_
                  rotate_left
                  · (simp only [List.getElem?_toArray, List.getElem?_cons_succ, List.getElem?_cons_zero, Option.some.injEq] at ho; subst ho; (try dsimp only at hSw); go_simp; try with_reducible rfl)
                  simp only [Act.put, List.setIfInBounds_toArray, List.set_cons_zero, List.set_cons_succ]
                  refine tk_on (i := 11) (some 9) (v := ?_) (by kernel_rfl) (by kernel_rfl) (by kernel_rfl) (by kernel_rfl) (fun _ _ _ h => h) (by assumption) (fun o ho w' hSw => ?_) ?_
                  rotate_left
                  · (simp only [List.getElem?_toArray, List.getElem?_cons_succ, List.getElem?_cons_zero, Option.some.injEq] at ho; subst ho; (try dsimp only at hSw); go_simp; try with_reducible rfl)
                  simp only [Act.put, List.setIfInBounds_toArray, List.set_cons_zero, List.set_cons_succ]
                  refine tk_on (i := 12) (some 10) (v := ?_) (by kernel_rfl) (by kernel_rfl) (by kernel_rfl) (by kernel_rfl) (fun _ _ _ h => h) (by assumption) (fun o ho w' hSw => ?_) ?_
                  rotate_left
                  · (simp only [List.getElem?_toArray, List.getElem?_cons_succ, List.getElem?_cons_zero, Option.some.injEq] at ho; subst ho; (try dsimp only at hSw); go_simp; try with_reducible rfl)
                  simp only [Act.put, List.setIfInBounds_toArray, List.set_cons_zero, List.set_cons_succ]
                  refine tk_on (i := 13) (some 11) (v := ?_) (by kernel_rfl) (by kernel_rfl) (by kernel_rfl) (by kernel_rfl) (fun _ _ _ h => h) (by assumption) (fun o ho w' hSw => ?_) ?_
                  rotate_left
                  · (simp only [List.getElem?_toArray, List.getElem?_cons_succ, List.getElem?_cons_zero, Option.some.injEq] at ho; subst ho; (try dsimp only at hSw); go_simp; try with_reducible rfl)
                  simp only [Act.put, List.setIfInBounds_toArray, List.set_cons_zero, List.set_cons_succ]
                  refine wpAnyH_done (by kernel_rfl) ?_ _
                  go_wp2_with fail
                  go_meet
                  exact ⟨rfl, rfl, rfl, hb⟩
                exact AllReadyH.nil
              exact AllReadyH.nil
            exact AllReadyH.nil
          exact AllReadyH.nil
        exact AllReadyH.nil
      refine tk_cons (by kernel_rfl) (fun o ho K hK => ?_) ?_
      · simp only [List.getElem?_toArray, List.getElem?_cons_succ, List.getElem?_cons_zero, Option.some.injEq] at ho
        subst ho
        clear hHeld
        obtain ⟨y0, y1, y2, y3, y4⟩ := A3.out.ret hb
        go_simp
        refine hK.out _ _ trivial (fun hHeld => ?_)
        clear hK K
        clear y0 y1 y2 y3 y4
        refine wpAnyH_ready (rs := [0, 4]) (by kernel_rfl) (by simp) ?_
        refine tk_cons (by kernel_rfl) (fun o ho K hK => ?_) ?_
        · simp only [List.getElem?_toArray, List.getElem?_cons_zero, Option.some.injEq] at ho
          subst ho
          clear hHeld
          go_simp
          refine hK.out _ _ trivial (fun hHeld => ?_)
          clear hK K
          have r0 := ap_new (w3.heap.size) hb (Nat.le_refl _) (by simp)
          have hb : Below w3.heap.size w3 (w3.alloc (.cells #[] 52)).drew := hb.alloc hb.size (.cells #[] 52)
          refine wpAnyH_ready (rs := [2, 4]) (by kernel_rfl) (by simp) ?_
          refine tk_cons (by kernel_rfl) (fun o ho K hK => ?_) ?_
          · simp only [List.getElem?_toArray, List.getElem?_cons_succ, List.getElem?_cons_zero, Option.some.injEq] at ho
            subst ho
            clear hHeld
            refine wp_app_row _ _ _ (by rfl) w3.heap.size 52 i0 _ 2 32 Tryd.underlying22 hi hz0 hz1 hz2 rfl (by omega) _ 0 [] (by rfl) r0 (.slice va m vc) (by rfl) m (prV l) (by have := HV3.out.ret hb; unfold IsPairs at this; rwa [hmm] at this) (prV_one l) (by omega) (by omega) hb.size ?_
            intro v8 w8 hown hgrow
            have hb := ap_below hb (Nat.le_refl _) r0 hgrow
            have r2 := hown
            clear hown hgrow r0
            refine hK.out _ _ trivial (fun hHeld => ?_)
            clear hK K
            refine wpAnyH_ready (rs := [4]) (by kernel_rfl) (by simp) ?_
            refine tk_cons (by kernel_rfl) (fun o ho K hK => ?_) ?_
            · simp only [List.getElem?_toArray, List.getElem?_cons_succ, List.getElem?_cons_zero, Option.some.injEq] at ho
              subst ho
              clear hHeld
              go_simp
              refine hK.out _ _ trivial (fun hHeld => ?_)
              clear hK K
              have r4 := ap_two (w8.heap.size) (.string pn) (.string pv) hb (Nat.le_refl _) (by simp)
              have r2 := r2.alloc (.cells #[.string pn, .string pv] 52)
              have hb : Below w3.heap.size w3 (w8.alloc (.cells #[.string pn, .string pv] 52)) := hb.alloc hb.size (.cells #[.string pn, .string pv] 52)
              refine wpAnyH_ready (rs := [5]) (by kernel_rfl) (by simp) ?_
              refine tk_cons (by kernel_rfl) (fun o ho K hK => ?_) ?_
              · simp only [List.getElem?_toArray, List.getElem?_cons_succ, List.getElem?_cons_zero, Option.some.injEq] at ho
                subst ho
                clear hHeld
                refine wp_app_row _ _ _ (by rfl) w3.heap.size 52 i0 _ 2 32 Tryd.underlying22 hi hz0 hz1 hz2 rfl (by omega) v8 (0 + m) ([] ++ prV l) (by rfl) r2 _ (by rfl) 1 [.string pn, .string pv] (own_row r4) (by simp [Value.oneCell']) (by omega) (by omega) hb.size ?_
                intro v9 w9 hown hgrow
                have hb := ap_below hb (Nat.le_refl _) r2 hgrow
                have r5 := hown
                clear hown hgrow r2 r4
                refine hK.out _ _ trivial (fun hHeld => ?_)
                clear hK K
                refine wpAnyH_ready (rs := [6]) (by kernel_rfl) (by simp) ?_
                refine tk_cons (by kernel_rfl) (fun o ho K hK => ?_) ?_
                · simp only [List.getElem?_toArray, List.getElem?_cons_succ, List.getElem?_cons_zero, Option.some.injEq] at ho
                  subst ho
                  clear hHeld
                  go_simp
                  refine (FQ.out v9 _ (ap_pairs hmm r5)).mono ?_
                  rintro e w10 ⟨rfl, hb10⟩
                  have hb := hb.trans (hb10.mono hb.size)
                  clear hb10 r5
                  go_simp
                  refine hK.out _ _ trivial (fun hHeld => ?_)
                  clear hK K
                  refine tk_on (i := 7) (some 41) (v := ?_) (by kernel_rfl) (by kernel_rfl) (by kernel_rfl) (by kernel_rfl) (fun _ _ _ h => h) (by assumption) (fun o ho w' hSw => ?_) ?_
                  rotate_left
                  · (simp only [List.getElem?_toArray, List.getElem?_cons_succ, List.getElem?_cons_zero, Option.some.injEq] at ho; subst ho; (try dsimp only at hSw); go_simp; try with_reducible rfl)
                  simp only [Act.put, List.setIfInBounds_toArray, List.set_cons_zero, List.set_cons_succ]
                  refine tk_on (i := 8) (some 49) (v := ?_) (by kernel_rfl) (by kernel_rfl) (by kernel_rfl) (by kernel_rfl) (fun _ _ _ h => h) (by assumption) (fun o ho w' hSw => ?_) ?_
                  rotate_left
                  · (simp only [List.getElem?_toArray, List.getElem?_cons_succ, List.getElem?_cons_zero, Option.some.injEq] at ho; subst ho; (try dsimp only at hSw); go_simp; try with_reducible rfl)
                  simp only [Act.put, List.setIfInBounds_toArray, List.set_cons_zero, List.set_cons_succ]
                  refine tk_on (i := 9) (some 50) (v := ?_) (by kernel_rfl) (by kernel_rfl) (by kernel_rfl) (by kernel_rfl) (fun _ _ _ h => h) (by assumption) (fun o ho w' hSw => ?_) ?_
                  rotate_left
                  · (simp only [List.getElem?_toArray, List.getElem?_cons_succ, List.getElem?_cons_zero, Option.some.injEq] at ho; subst ho; (try dsimp only at hSw); go_simp; try with_reducible rfl)
                  simp only [Act.put, List.setIfInBounds_toArray, List.set_cons_zero, List.set_cons_succ]
                  refine tk_on (i := 10) (some 51) (v := ?_) (by kernel_rfl) (by kernel_rfl) (by kernel_rfl) (by kernel_rfl) (fun _ _ _ h => h) (by assumption) (fun o ho w' hSw => ?_) ?_
                  rotate_left
                  · (simp only [List.getElem?_toArray, List.getElem?_cons_succ, List.getElem?_cons_zero, Option.some.injEq] at ho; subst ho; (try dsimp only at hSw); go_simp; try with_reducible rfl)
                  simp only [Act.put, List.setIfInBounds_toArray, List.set_cons_zero, List.set_cons_succ]
                  refine tk_on (i := 11) (some 9) (v := ?_) (by kernel_rfl) (by kernel_rfl) (by kernel_rfl) (by kernel_rfl) (fun _ _ _ h => h) (by assumption) (fun o ho w' hSw => ?_) ?_
                  rotate_left
                  · (simp only [List.getElem?_toArray, List.getElem?_cons_succ, List.getElem?_cons_zero, Option.some.injEq] at ho; subst ho; (try dsimp only at hSw); go_simp; try with_reducible rfl)
                  simp only [Act.put, List.setIfInBounds_toArray, List.set_cons_zero, List.set_cons_succ]
                  refine tk_on (i := 12) (some 10) (v := ?_) (by kernel_rfl) (by kernel_rfl) (by kernel_rfl) (by kernel_rfl) (fun _ _ _ h => h) (by assumption) (fun o ho w' hSw => ?_) ?_
                  rotate_left
                  · (simp only [List.getElem?_toArray, List.getElem?_cons_succ, List.getElem?_cons_zero, Option.some.injEq] at ho; subst ho; (try dsimp only at hSw); go_simp; try with_reducible rfl)
                  simp only [Act.put, List.setIfInBounds_toArray, List.set_cons_zero, List.set_cons_succ]
                  refine tk_on (i := 13) (some 11) (v := ?_) (by kernel_rfl) (by kernel_rfl) (by kernel_rfl) (by kernel_rfl) (fun _ _ _ h => h) (by assumption) (fun o ho w' hSw => ?_) ?_
                  rotate_left
                  · (simp only [List.getElem?_toArray, List.getElem?_cons_succ, List.getElem?_cons_zero, Option.some.injEq] at ho; subst ho; (try dsimp only at hSw); go_simp; try with_reducible rfl)
                  simp only [Act.put, List.setIfInBounds_toArray, List.set_cons_zero, List.set_cons_succ]
                  refine wpAnyH_done (by kernel_rfl) ?_ _
                  go_wp2_with fail
                  go_meet
                  exact ⟨rfl, rfl, rfl, hb⟩
                exact AllReadyH.nil
              exact AllReadyH.nil
            exact AllReadyH.nil
          refine tk_cons (by kernel_rfl) (fun o ho K hK => ?_) ?_
          · simp only [List.getElem?_toArray, List.getElem?_cons_succ, List.getElem?_cons_zero, Option.some.injEq] at ho
            subst ho
            clear hHeld
            go_simp
            refine hK.out _ _ trivial (fun hHeld => ?_)
            clear hK K
            have r4 := ap_two (w3.heap.size + 1) (.string pn) (.string pv) hb (Nat.le_refl _) (by simp)
            have r0 := r0.alloc (.cells #[.string pn, .string pv] 52)
            have hb : Below w3.heap.size w3 ((w3.alloc (.cells #[] 52)).alloc (.cells #[.string pn, .string pv] 52)).drew := hb.alloc hb.size (.cells #[.string pn, .string pv] 52)
            refine wpAnyH_ready (rs := [2]) (by kernel_rfl) (by simp) ?_
            refine tk_cons (by kernel_rfl) (fun o ho K hK => ?_) ?_
            · simp only [List.getElem?_toArray, List.getElem?_cons_succ, List.getElem?_cons_zero, Option.some.injEq] at ho
              subst ho
              clear hHeld
              refine wp_app_row _ _ _ (by rfl) w3.heap.size 52 i0 _ 2 32 Tryd.underlying22 hi hz0 hz1 hz2 rfl (by omega) _ 0 [] (by rfl) r0 (.slice va m vc) (by rfl) m (prV l) (by have := HV3.out.ret hb; unfold IsPairs at this; rwa [hmm] at this) (prV_one l) (by omega) (by omega) hb.size ?_
              intro v8 w8 hown hgrow
              have r4 := r4.kept hgrow (.inr (fun e => ap_ne r0 r4 (Option.some.inj e)))
              have hb := ap_below hb (Nat.le_refl _) r0 hgrow
              have r2 := hown
              clear hown hgrow r0
              refine hK.out _ _ trivial (fun hHeld => ?_)
              clear hK K
              refine wpAnyH_ready (rs := [5]) (by kernel_rfl) (by simp) ?_
              refine tk_cons (by kernel_rfl) (fun o ho K hK => ?_) ?_
              · simp only [List.getElem?_toArray, List.getElem?_cons_succ, List.getElem?_cons_zero, Option.some.injEq] at ho
                subst ho
                clear hHeld
                refine wp_app_row _ _ _ (by rfl) w3.heap.size 52 i0 _ 2 32 Tryd.underlying22 hi hz0 hz1 hz2 rfl (by omega) v8 (0 + m) ([] ++ prV l) (by rfl) r2 _ (by rfl) 1 [.string pn, .string pv] (own_row r4) (by simp [Value.oneCell']) (by omega) (by omega) hb.size ?_
                intro v9 w9 hown hgrow
                have hb := ap_below hb (Nat.le_refl _) r2 hgrow
                have r5 := hown
                clear hown hgrow r2 r4
                refine hK.out _ _ trivial (fun hHeld => ?_)
                clear hK K
                refine wpAnyH_ready (rs := [6]) (by kernel_rfl) (by simp) ?_
                refine tk_cons (by kernel_rfl) (fun o ho K hK => ?_) ?_
                · simp only [List.getElem?_toArray, List.getElem?_cons_succ, List.getElem?_cons_zero, Option.some.injEq] at ho
                  subst ho
                  clear hHeld
                  go_simp
                  refine (FQ.out v9 _ (ap_pairs hmm r5)).mono ?_
                  rintro e w10 ⟨rfl, hb10⟩
                  have hb := hb.trans (hb10.mono hb.size)
                  clear hb10 r5
                  go_simp
                  refine hK.out _ _ trivial (fun hHeld => ?_)
                  clear hK K
                  refine tk_on (i := 7) (some 41) (v := ?_) (by kernel_rfl) (by kernel_rfl) (by kernel_rfl) (by kernel_rfl) (fun _ _ _ h => h) (by assumption) (fun o ho w' hSw => ?_) ?_
                  rotate_left
                  · (simp only [List.getElem?_toArray, List.getElem?_cons_succ, List.getElem?_cons_zero, Option.some.injEq] at ho; subst ho; (try dsimp only at hSw); go_simp; try with_reducible rfl)
                  simp only [Act.put, List.setIfInBounds_toArray, List.set_cons_zero, List.set_cons_succ]
                  refine tk_on (i := 8) (some 49) (v := ?_) (by kernel_rfl) (by kernel_rfl) (by kernel_rfl) (by kernel_rfl) (fun _ _ _ h => h) (by assumption) (fun o ho w' hSw => ?_) ?_
                  rotate_left
                  · (simp only [List.getElem?_toArray, List.getElem?_cons_succ, List.getElem?_cons_zero, Option.some.injEq] at ho; subst ho; (try dsimp only at hSw); go_simp; try with_reducible rfl)
                  simp only [Act.put, List.setIfInBounds_toArray, List.set_cons_zero, List.set_cons_succ]
                  refine tk_on (i := 9) (some 50) (v := ?_) (by kernel_rfl) (by kernel_rfl) (by kernel_rfl) (by kernel_rfl) (fun _ _ _ h => h) (by assumption) (fun o ho w' hSw => ?_) ?_
                  rotate_left
                  · (simp only [List.getElem?_toArray, List.getElem?_cons_succ, List.getElem?_cons_zero, Option.some.injEq] at ho; subst ho; (try dsimp only at hSw); go_simp; try with_reducible rfl)
                  simp only [Act.put, List.setIfInBounds_toArray, List.set_cons_zero, List.set_cons_succ]
                  refine tk_on (i := 10) (some 51) (v := ?_) (by kernel_rfl) (by kernel_rfl) (by kernel_rfl) (by kernel_rfl) (fun _ _ _ h => h) (by assumption) (fun o ho w' hSw => ?_) ?_
                  rotate_left
                  · (simp only [List.getElem?_toArray, List.getElem?_cons_succ, List.getElem?_cons_zero, Option.some.injEq] at ho; subst ho; (try dsimp only at hSw); go_simp; try with_reducible rfl)
                  simp only [Act.put, List.setIfInBounds_toArray, List.set_cons_zero, List.set_cons_succ]
                  refine tk_on (i := 11) (some 9) (v := ?_) (by kernel_rfl) (by kernel_rfl) (by kernel_rfl) (by kernel_rfl) (fun _ _ _ h => h) (by assumption) (fun o ho w' hSw => ?_) ?_
                  rotate_left
                  · (simp only [List.getElem?_toArray, List.getElem?_cons_succ, List.getElem?_cons_zero, Option.some.injEq] at ho; subst ho; (try dsimp only at hSw); go_simp; try with_reducible rfl)
                  simp only [Act.put, List.setIfInBounds_toArray, List.set_cons_zero, List.set_cons_succ]
                  refine tk_on (i := 12) (some 10) (v := ?_) (by kernel_rfl) (by kernel_rfl) (by kernel_rfl) (by kernel_rfl) (fun _ _ _ h => h) (by assumption) (fun o ho w' hSw => ?_) ?_
                  rotate_left
                  · (simp only [List.getElem?_toArray, List.getElem?_cons_succ, List.getElem?_cons_zero, Option.some.injEq] at ho; subst ho; (try dsimp only at hSw); go_simp; try with_reducible rfl)
                  simp only [Act.put, List.setIfInBounds_toArray, List.set_cons_zero, List.set_cons_succ]
                  refine tk_on (i := 13) (some 11) (v := ?_) (by kernel_rfl) (by kernel_rfl) (by kernel_rfl) (by kernel_rfl) (fun _ _ _ h => h) (by assumption) (fun o ho w' hSw => ?_) ?_
                  rotate_left
                  · (simp only [List.getElem?_toArray, List.getElem?_cons_succ, List.getElem?_cons_zero, Option.some.injEq] at ho; subst ho; (try dsimp only at hSw); go_simp; try with_reducible rfl)
                  simp only [Act.put, List.setIfInBounds_toArray, List.set_cons_zero, List.set_cons_succ]
                  refine wpAnyH_done (by kernel_rfl) ?_ _
                  go_wp2_with fail
                  go_meet
                  exact ⟨rfl, rfl, rfl, hb⟩
                exact AllReadyH.nil
              exact AllReadyH.nil
            exact AllReadyH.nil
          exact AllReadyH.nil
        refine tk_cons (by kernel_rfl) (fun o ho K hK => ?_) ?_
        · simp only [List.getElem?_toArray, List.getElem?_cons_succ, List.getElem?_cons_zero, Option.some.injEq] at ho
          subst ho
          clear hHeld
          go_simp
          refine hK.out _ _ trivial (fun hHeld => ?_)
          clear hK K
          have r4 := ap_two (w3.heap.size) (.string pn) (.string pv) hb (Nat.le_refl _) (by simp)
          have hb : Below w3.heap.size w3 (w3.alloc (.cells #[.string pn, .string pv] 52)).drew := hb.alloc hb.size (.cells #[.string pn, .string pv] 52)
          refine wpAnyH_ready (rs := [0]) (by kernel_rfl) (by simp) ?_
          refine tk_cons (by kernel_rfl) (fun o ho K hK => ?_) ?_
          · simp only [List.getElem?_toArray, List.getElem?_cons_zero, Option.some.injEq] at ho
            subst ho
            clear hHeld
            go_simp
            refine hK.out _ _ trivial (fun hHeld => ?_)
            clear hK K
            have r0 := ap_new (w3.heap.size + 1) hb (Nat.le_refl _) (by simp)
            have r4 := r4.alloc (.cells #[] 52)
            have hb : Below w3.heap.size w3 ((w3.alloc (.cells #[.string pn, .string pv] 52)).alloc (.cells #[] 52)).drew := hb.alloc hb.size (.cells #[] 52)
            refine wpAnyH_ready (rs := [2]) (by kernel_rfl) (by simp) ?_
            refine tk_cons (by kernel_rfl) (fun o ho K hK => ?_) ?_
            · simp only [List.getElem?_toArray, List.getElem?_cons_succ, List.getElem?_cons_zero, Option.some.injEq] at ho
              subst ho
              clear hHeld
              refine wp_app_row _ _ _ (by rfl) w3.heap.size 52 i0 _ 2 32 Tryd.underlying22 hi hz0 hz1 hz2 rfl (by omega) _ 0 [] (by rfl) r0 (.slice va m vc) (by rfl) m (prV l) (by have := HV3.out.ret hb; unfold IsPairs at this; rwa [hmm] at this) (prV_one l) (by omega) (by omega) hb.size ?_
              intro v8 w8 hown hgrow
              have r4 := r4.kept hgrow (.inr (fun e => ap_ne r0 r4 (Option.some.inj e)))
              have hb := ap_below hb (Nat.le_refl _) r0 hgrow
              have r2 := hown
              clear hown hgrow r0
              refine hK.out _ _ trivial (fun hHeld => ?_)
              clear hK K
              refine wpAnyH_ready (rs := [5]) (by kernel_rfl) (by simp) ?_
              refine tk_cons (by kernel_rfl) (fun o ho K hK => ?_) ?_
              · simp only [List.getElem?_toArray, List.getElem?_cons_succ, List.getElem?_cons_zero, Option.some.injEq] at ho
                subst ho
                clear hHeld
                refine wp_app_row _ _ _ (by rfl) w3.heap.size 52 i0 _ 2 32 Tryd.underlying22 hi hz0 hz1 hz2 rfl (by omega) v8 (0 + m) ([] ++ prV l) (by rfl) r2 _ (by rfl) 1 [.string pn, .string pv] (own_row r4) (by simp [Value.oneCell']) (by omega) (by omega) hb.size ?_
                intro v9 w9 hown hgrow
                have hb := ap_below hb (Nat.le_refl _) r2 hgrow
                have r5 := hown
                clear hown hgrow r2 r4
                refine hK.out _ _ trivial (fun hHeld => ?_)
                clear hK K
                refine wpAnyH_ready (rs := [6]) (by kernel_rfl) (by simp) ?_
                refine tk_cons (by kernel_rfl) (fun o ho K hK => ?_) ?_
                · simp only [List.getElem?_toArray, List.getElem?_cons_succ, List.getElem?_cons_zero, Option.some.injEq] at ho
                  subst ho
                  clear hHeld
                  go_simp
                  refine (FQ.out v9 _ (ap_pairs hmm r5)).mono ?_
                  rintro e w10 ⟨rfl, hb10⟩
                  have hb := hb.trans (hb10.mono hb.size)
                  clear hb10 r5
                  go_simp
                  refine hK.out _ _ trivial (fun hHeld => ?_)
                  clear hK K
                  refine tk_on (i := 7) (some 41) (v := ?_) (by kernel_rfl) (by kernel_rfl) (by kernel_rfl) (by kernel_rfl) (fun _ _ _ h => h) (by assumption) (fun o ho w' hSw => ?_) ?_
                  rotate_left
                  · (simp only [List.getElem?_toArray, List.getElem?_cons_succ, List.getElem?_cons_zero, Option.some.injEq] at ho; subst ho; (try dsimp only at hSw); go_simp; try with_reducible rfl)
                  simp only [Act.put, List.setIfInBounds_toArray, List.set_cons_zero, List.set_cons_succ]
                  refine tk_on (i := 8) (some 49) (v := ?_) (by kernel_rfl) (by kernel_rfl) (by kernel_rfl) (by kernel_rfl) (fun _ _ _ h => h) (by assumption) (fun o ho w' hSw => ?_) ?_
                  rotate_left
                  · (simp only [List.getElem?_toArray, List.getElem?_cons_succ, List.getElem?_cons_zero, Option.some.injEq] at ho; subst ho; (try dsimp only at hSw); go_simp; try with_reducible rfl)
                  simp only [Act.put, List.setIfInBounds_toArray, List.set_cons_zero, List.set_cons_succ]
                  refine tk_on (i := 9) (some 50) (v := ?_) (by kernel_rfl) (by kernel_rfl) (by kernel_rfl) (by kernel_rfl) (fun _ _ _ h => h) (by assumption) (fun o ho w' hSw => ?_) ?_
                  rotate_left
                  · (simp only [List.getElem?_toArray, List.getElem?_cons_succ, List.getElem?_cons_zero, Option.some.injEq] at ho; subst ho; (try dsimp only at hSw); go_simp; try with_reducible rfl)
                  simp only [Act.put, List.setIfInBounds_toArray, List.set_cons_zero, List.set_cons_succ]
                  refine tk_on (i := 10) (some 51) (v := ?_) (by kernel_rfl) (by kernel_rfl) (by kernel_rfl) (by kernel_rfl) (fun _ _ _ h => h) (by assumption) (fun o ho w' hSw => ?_) ?_
                  rotate_left
                  · (simp only [List.getElem?_toArray, List.getElem?_cons_succ, List.getElem?_cons_zero, Option.some.injEq] at ho; subst ho; (try dsimp only at hSw); go_simp; try with_reducible rfl)
                  simp only [Act.put, List.setIfInBounds_toArray, List.set_cons_zero, List.set_cons_succ]
                  refine tk_on (i := 11) (some 9) (v := ?_) (by kernel_rfl) (by kernel_rfl) (by kernel_rfl) (by kernel_rfl) (fun _ _ _ h => h) (by assumption) (fun o ho w' hSw => ?_) ?_
                  rotate_left
                  · (simp only [List.getElem?_toArray, List.getElem?_cons_succ, List.getElem?_cons_zero, Option.some.injEq] at ho; subst ho; (try dsimp only at hSw); go_simp; try with_reducible rfl)
                  simp only [Act.put, List.setIfInBounds_toArray, List.set_cons_zero, List.set_cons_succ]
                  refine tk_on (i := 12) (some 10) (v := ?_) (by kernel_rfl) (by kernel_rfl) (by kernel_rfl) (by kernel_rfl) (fun _ _ _ h => h) (by assumption) (fun o ho w' hSw => ?_) ?_
                  rotate_left
                  · (simp only [List.getElem?_toArray, List.getElem?_cons_succ, List.getElem?_cons_zero, Option.some.injEq] at ho; subst ho; (try dsimp only at hSw); go_simp; try with_reducible rfl)
                  simp only [Act.put, List.setIfInBounds_toArray, List.set_cons_zero, List.set_cons_succ]
                  refine tk_on (i := 13) (some 11) (v := ?_) (by kernel_rfl) (by kernel_rfl) (by kernel_rfl) (by kernel_rfl) (fun _ _ _ h => h) (by assumption) (fun o ho w' hSw => ?_) ?_
                  rotate_left
                  · (simp only [List.getElem?_toArray, List.getElem?_cons_succ, List.getElem?_cons_zero, Option.some.injEq] at ho; subst ho; (try dsimp only at hSw); go_simp; try with_reducible rfl)
                  simp only [Act.put, List.setIfInBounds_toArray, List.set_cons_zero, List.set_cons_succ]
                  refine wpAnyH_done (by kernel_rfl) ?_ _
                  go_wp2_with fail
                  go_meet
                  exact ⟨rfl, rfl, rfl, hb⟩
                exact AllReadyH.nil
              exact AllReadyH.nil
            exact AllReadyH.nil
          exact AllReadyH.nil
        exact AllReadyH.nil
      exact AllReadyH.nil
    case rest =>
      obtain ⟨rfl, rfl, rfl, hb⟩ := hcut
      have A4 := A3.out.ret hb
      have q4 := q3.trans (hb.mono q3.size)
      have k0' := A4.ret (Below.drew (Below.refl _ _))
      have q0' := q4.drew
      clear hb A3 q3 i0 hi hz0 hz1 hz2 HV3 FQ
      go_wp2_with fail
      refine wp_region_held_drew (S := fun w' => w'.cell? ⟨w.heap.size, 0, none⟩ = some (.string pn)) (by kernel_rfl) k0'.c0 (fun hHeld => ?_)
      refine tk_on (i := 0) (some 52) (v := ?_) (by kernel_rfl) (by kernel_rfl) (by kernel_rfl) (by kernel_rfl) (fun _ _ _ h => h) (by assumption) (fun o ho w' hSw => ?_) ?_
      rotate_left
      · (simp only [List.getElem?_toArray, List.getElem?_cons_zero, Option.some.injEq] at ho; subst ho; (try dsimp only at hSw); go_simp; try with_reducible rfl)
      simp only [Act.put, List.setIfInBounds_toArray, List.set_cons_zero, List.set_cons_succ]
      refine tk_on (i := 1) (some 53) (v := ?_) (by kernel_rfl) (by kernel_rfl) (by kernel_rfl) (by kernel_rfl) (fun _ _ _ h => h) (by assumption) (fun o ho w' hSw => ?_) ?_
      rotate_left
      · (simp only [List.getElem?_toArray, List.getElem?_cons_succ, List.getElem?_cons_zero, Option.some.injEq] at ho; subst ho; (try dsimp only at hSw); go_simp; try with_reducible rfl)
      simp only [Act.put, List.setIfInBounds_toArray, List.set_cons_zero, List.set_cons_succ]
      refine tk_on (i := 3) (some 55) (v := ?_) (by kernel_rfl) (by kernel_rfl) (by kernel_rfl) (by kernel_rfl) (fun _ _ _ h => h) (by assumption) (fun o ho w' hSw => ?_) ?_
      rotate_left
      · (simp only [List.getElem?_toArray, List.getElem?_cons_succ, List.getElem?_cons_zero, Option.some.injEq] at ho; subst ho; (try dsimp only at hSw); go_simp; try with_reducible rfl)
      simp only [Act.put, List.setIfInBounds_toArray, List.set_cons_zero, List.set_cons_succ]
      refine tk_on (i := 4) (some 56) (v := ?_) (by kernel_rfl) (by kernel_rfl) (by kernel_rfl) (by kernel_rfl) (fun _ _ _ h => h) (by assumption) (fun o ho w' hSw => ?_) ?_
      rotate_left
      · (simp only [List.getElem?_toArray, List.getElem?_cons_succ, List.getElem?_cons_zero, Option.some.injEq] at ho; subst ho; (try dsimp only at hSw); go_simp; try with_reducible rfl)
      simp only [Act.put, List.setIfInBounds_toArray, List.set_cons_zero, List.set_cons_succ]
      refine tk_call (i := 2) (by kernel_rfl) (by kernel_rfl) (fun o ho K hK => ?_)
      simp only [List.getElem?_toArray, List.getElem?_cons_succ, List.getElem?_cons_zero, Option.some.injEq] at ho
      subst ho
      go_simp
      refine (TS.out _).mono ?_
      rintro e w5 ⟨rfl, hb⟩
      have k1 := k0'.ret hb
      have r1 := q0'.trans (hb.mono q0'.size)
      clear hb
      go_simp
      clear hHeld
      refine hK.out _ _ k1.c0 (fun hHeld => ?_)
      clear hK K
      refine tk_call (i := 5) (by kernel_rfl) (by kernel_rfl) (fun o ho K hK => ?_)
      simp only [List.getElem?_toArray, List.getElem?_cons_succ, List.getElem?_cons_zero, Option.some.injEq] at ho
      subst ho
      go_simp
      refine (LS.out _).mono ?_
      rintro e w6 ⟨rfl, hb⟩
      have k2 := k1.ret hb
      have r2 := r1.trans (hb.mono r1.size)
      clear hb
      go_simp
      clear hHeld
      refine hK.out _ _ k2.c0 (fun hHeld => ?_)
      clear hK K
      refine tk_on (i := 6) (some 12) (v := ?_) (by kernel_rfl) (by kernel_rfl) (by kernel_rfl) (by kernel_rfl) (fun _ _ _ h => h) (by assumption) (fun o ho w' hSw => ?_) ?_
      rotate_left
      · (simp only [List.getElem?_toArray, List.getElem?_cons_succ, List.getElem?_cons_zero, Option.some.injEq] at ho; subst ho; (try dsimp only at hSw); go_simp; try with_reducible rfl)
      simp only [Act.put, List.setIfInBounds_toArray, List.set_cons_zero, List.set_cons_succ]
      refine tk_on (i := 7) (some 13) (v := ?_) (by kernel_rfl) (by kernel_rfl) (by kernel_rfl) (by kernel_rfl) (fun _ _ _ h => h) (by assumption) (fun o ho w' hSw => ?_) ?_
      rotate_left
      · (simp only [List.getElem?_toArray, List.getElem?_cons_succ, List.getElem?_cons_zero, Option.some.injEq] at ho; subst ho; (try dsimp only at hSw); go_simp; try with_reducible rfl)
      simp only [Act.put, List.setIfInBounds_toArray, List.set_cons_zero, List.set_cons_succ]
      refine wpAnyH_done (by kernel_rfl) ?_ _
      go_wp2_with fail
      refine (FT.out _ (HV.out.ret r2)).mono ?_
      rintro e w7 ⟨u, rfl, hu, hb⟩
      have r3 := r2.trans (hb.mono r2.size)
      obtain ⟨ua, uc, rfl, _, _⟩ := hu
      rw [strV_len, HT.out]
      clear hb k2 hHeld
      go_wp2_with fail
      refine (FC.out _ (HV.out.ret r3)).mono ?_
      rintro e w8 ⟨u, rfl, hu, hb⟩
      have r4 := r3.trans (hb.mono r3.size)
      obtain ⟨va', vc', rfl, _, _⟩ := hu
      rw [strV_len, HC.out]
      clear hb
      have hm := HX.out
      have hn := HX1.out
      have ht := HT.out
      have hc := HC.out
      have hpt := PT.out
      have hpc := PC.out
      clear HX HX1 HT HC PT PC HV FT FC GH FH HM
      by_cases h0 : nT + nC = 0
      · obtain rfl : nT = 0 := by omega
        obtain rfl : nC = 0 := by omega
        have f1 := frm_none (l := l) (by omega)
        rw [hm] at f1
        obtain ⟨rfl, rfl, rfl⟩ : k0 = 0 ∧ n0 = 0 ∧ f0 = 0 := by
          injection f1 with x1 x2
          injection x2 with x2 x3
          exact ⟨x1, x2, x3⟩
        cases pt with
        | true =>
          cases pc with
          | true => exact absurd ((of_decide_eq_true hpt).symm.trans (of_decide_eq_true hpc)) te_cl
          | false =>
            rcases frm_te (l := l) (p := (pn.data.toList, pv.data.toList)) (by omega) (of_decide_eq_true hpt) with h | h
            · rw [hn] at h
              injection h with x1 x2
              injection x2 with x2 x3
              subst x1 x2 x3
              clear hm hn ht hc hpt hpc f1
              go_wp2_with fail
              go_ret
              exact ⟨rfl, r4⟩
            · rw [hn] at h
              injection h with x1 x2
              injection x2 with x2 x3
              subst x1 x2 x3
              clear hm hn ht hc hpt hpc f1
              go_wp2_with fail
              go_ret
              exact ⟨rfl, r4⟩
        | false =>
          cases pc with
          | true =>
            rcases frm_cl (l := l) (p := (pn.data.toList, pv.data.toList)) (by omega) (of_decide_eq_true hpc) with h | h
            · rw [hn] at h
              injection h with x1 x2
              injection x2 with x2 x3
              subst x1 x3
              clear hm hn ht hc hpt hpc f1 x2
              go_wp2_with fail
              go_ret
              exact ⟨rfl, r4⟩
            · rw [hn] at h
              injection h with x1 x2
              injection x2 with x2 x3
              subst x1 x2 x3
              clear hm hn ht hc hpt hpc f1
              go_wp2_with fail
              go_ret
              exact ⟨rfl, r4⟩
          | false =>
            have h := frm_same (l := l) (p := (pn.data.toList, pv.data.toList)) (of_decide_eq_false hpt) (of_decide_eq_false hpc)
            rw [hn, hm] at h
            injection h with x1 x2
            injection x2 with x2 x3
            subst x1 x2 x3
            clear hm hn ht hc hpt hpc f1
            go_wp2_with fail
            go_ret
            exact ⟨rfl, r4⟩
      · have g0 : decide ((0 : Int) < (nT : Int) + nC) = true := decide_eq_true (by omega)
        have g00 : (0 : Int) < (nT : Int) + nC := by omega
        by_cases hboth : pt = false ∧ pc = false
        · obtain ⟨rfl, rfl⟩ := hboth
          have h := frm_same (l := l) (p := (pn.data.toList, pv.data.toList)) (of_decide_eq_false hpt) (of_decide_eq_false hpc)
          rw [hn, hm] at h
          injection h with x1 x2
          injection x2 with x2 x3
          subst x1 x2 x3
          by_cases h1 : 1 < nT + nC
          · have f1' := frm_many (l := l) (by omega)
            rw [hm] at f1'
            injection f1' with x1 x2
            injection x2 with x2 x3
            subst x1 x2 x3
            have g1 : decide ((1 : Int) < (nT : Int) + nC) = true := decide_eq_true (by omega)
            have g11 : (1 : Int) < (nT : Int) + nC := by omega
            clear hm hn ht hc hpt hpc
            go_wp2_with fail
            go_ret
            exact ⟨rfl, r4⟩
          · have g1 : decide ((1 : Int) < (nT : Int) + nC) = false := decide_eq_false (by omega)
            have g11 : ¬ (1 : Int) < (nT : Int) + nC := by omega
            clear hm hn ht hc hpt hpc
            go_wp2_with fail
            go_ret
            exact ⟨ret_b (by simp), r4⟩
        · have hor : lowL (pn.data.toList, pv.data.toList).1 = teL ∨ lowL (pn.data.toList, pv.data.toList).1 = clL := by
            cases pt with
            | true => exact .inl (of_decide_eq_true hpt)
            | false =>
              cases pc with
              | true => exact .inr (of_decide_eq_true hpc)
              | false => exact absurd ⟨rfl, rfl⟩ hboth
          have h := frm_more (l := l) (p := (pn.data.toList, pv.data.toList)) hor (by omega)
          rw [hn] at h
          injection h with x1 x2
          injection x2 with x2 x3
          subst x1 x2 x3
          by_cases h1 : 1 < nT + nC
          · have f1' := frm_many (l := l) (by omega)
            rw [hm] at f1'
            injection f1' with x1 x2
            injection x2 with x2 x3
            subst x1 x2 x3
            have g1 : decide ((1 : Int) < (nT : Int) + nC) = true := decide_eq_true (by omega)
            have g11 : (1 : Int) < (nT : Int) + nC := by omega
            clear hm hn ht hc hor
            cases pt with
            | true =>
              clear hpt hpc hboth
              go_wp2_with fail
              go_ret
              exact ⟨rfl, r4⟩
            | false =>
              cases pc with
              | true =>
                clear hpt hpc hboth
                go_wp2_with fail
                go_ret
                exact ⟨rfl, r4⟩
              | false => exact absurd ⟨rfl, rfl⟩ hboth
          · have g1 : decide ((1 : Int) < (nT : Int) + nC) = false := decide_eq_false (by omega)
            have g11 : ¬ (1 : Int) < (nT : Int) + nC := by omega
            clear hm hn ht hc hor
            cases pt with
            | true =>
              clear hpt hpc hboth
              go_wp2_with fail
              go_ret
              exact ⟨rfl, r4⟩
            | false =>
              cases pc with
              | true =>
                clear hpt hpc hboth
                go_wp2_with fail
                go_ret
                exact ⟨rfl, r4⟩
              | false => exact absurd ⟨rfl, rfl⟩ hboth
  · have done : ∀ (h : g = true ∨ decide ((1000 : Int) < pn.size) = true ∨ decide ((1000 : Int) < pv.size) = true), Calls Tryd.prog 9 #[v, .agg #[.string pn, .string pv]] w (Ret w (.bool true)) := by
      intro h
      clear hgood hg
      cases g with
      | true =>
        clear h
        go_enter Tryd.func9, Tryd.ntmps9
        go_wp2_with fail
        have a0 := PrAt.new w (.string pn) (.string pv)
        have b0 := (Below.refl w.heap.size w).alloc (Nat.le_refl _) (.cells #[.string pn, .string pv] 52)
        refine (alive14 _ (HM.out.ret b0)).mono ?_
        rintro e w1 ⟨rfl, hb⟩
        have A1 := Lib.hid (a0.ret hb)
        have q1 := b0.trans (hb.mono b0.size)
        clear hb a0 b0
        go_wp2_with fail
        refine (GH.out _ (HV.out.ret q1)).mono ?_
        rintro e w2 ⟨rfl, hb⟩
        have A2 := Lib.hid (A1.out.ret hb)
        have q2 := q1.trans (hb.mono q1.size)
        clear hb A1 q1
        obtain ⟨y0, y1, y2, y3, y4⟩ := A2.out
        go_wp2_with fail
        go_ret
        exact ⟨rfl, q2⟩
      | false =>
        have h2 : decide ((1000 : Int) < pn.size) = true ∨ decide ((1000 : Int) < pv.size) = true := by
          rcases h with h | h
          · cases h
          · exact h
        clear h
        cases e1 : decide ((1000 : Int) < pn.size) with
        | true =>
          clear h2
          go_enter Tryd.func9, Tryd.ntmps9
          go_wp2_with fail
          have a0 := PrAt.new w (.string pn) (.string pv)
          have b0 := (Below.refl w.heap.size w).alloc (Nat.le_refl _) (.cells #[.string pn, .string pv] 52)
          refine (alive14 _ (HM.out.ret b0)).mono ?_
          rintro e w1 ⟨rfl, hb⟩
          have A1 := Lib.hid (a0.ret hb)
          have q1 := b0.trans (hb.mono b0.size)
          clear hb a0 b0
          go_wp2_with fail
          refine (GH.out _ (HV.out.ret q1)).mono ?_
          rintro e w2 ⟨rfl, hb⟩
          have A2 := Lib.hid (A1.out.ret hb)
          have q2 := q1.trans (hb.mono q1.size)
          clear hb A1 q1
          obtain ⟨y0, y1, y2, y3, y4⟩ := A2.out
          go_wp2_with fail
          go_ret
          exact ⟨rfl, q2⟩
        | false =>
          cases e2 : decide ((1000 : Int) < pv.size) with
          | true =>
            clear h2
            go_enter Tryd.func9, Tryd.ntmps9
            go_wp2_with fail
            have a0 := PrAt.new w (.string pn) (.string pv)
            have b0 := (Below.refl w.heap.size w).alloc (Nat.le_refl _) (.cells #[.string pn, .string pv] 52)
            refine (alive14 _ (HM.out.ret b0)).mono ?_
            rintro e w1 ⟨rfl, hb⟩
            have A1 := Lib.hid (a0.ret hb)
            have q1 := b0.trans (hb.mono b0.size)
            clear hb a0 b0
            go_wp2_with fail
            refine (GH.out _ (HV.out.ret q1)).mono ?_
            rintro e w2 ⟨rfl, hb⟩
            have A2 := Lib.hid (A1.out.ret hb)
            have q2 := q1.trans (hb.mono q1.size)
            clear hb A1 q1
            obtain ⟨y0, y1, y2, y3, y4⟩ := A2.out
            go_wp2_with fail
            go_ret
            exact ⟨rfl, q2⟩
          | false =>
            rw [e1, e2] at h2
            rcases h2 with h | h <;> cases h
    refine done ?_
    cases g with
    | true => exact .inl rfl
    | false =>
      right
      by_cases h1 : pn.size ≤ 1000
      · right
        by_cases h2 : pv.size ≤ 1000
        · exact absurd ⟨rfl, h1, h2⟩ hgood
        · exact decide_eq_true (by omega)
      · left
        exact decide_eq_true (by omega)
end Go.Proofs.YtnfgpcccmbblcaaDoor
