/- head.Parse: a range over lines' iterator that collects into the result's own box, or leaves by a goto. -/
import Derived.Test.YtnfgpcccmbblcaaDoorHdFa
namespace Go.Proofs.YtnfgpcccmbblcaaDoor
open Go.RowKit

attribute [local go_sem] Oper.semAt_some

set_option maxRecDepth 100000 in
set_option maxHeartbeats 16000000 in
theorem hd_Parse_in (s : ByteArray) (w : World) (hs : s.size ≤ 16384) (hm : ML w) : Calls Tryd.prog 13 #[.string s] w (HdIs s.data.toList w) := by
  obtain ⟨i0, hi, hz0, hz1, hz2⟩ := info_parts vinfo_pair
  have LD := Lib.hid fun w => hd_lines s w
  have HNB := Lib.hid (lns_len s.data.toList.length s.data.toList (Nat.le_refl _))
  have HM := Lib.hid hm
  have g0 : ¬ (16384 : Int) < s.size := by omega
  have g00 : decide ((16384 : Int) < s.size) = false := decide_eq_false g0
  have HLM := Lib.hid (lns_mem s.data.toList.length s.data.toList (Nat.le_refl _))
  clear hm
  refine (callsIn_wide (n := 3)).1 ?_
  refine callsIn_of_wp_marks Tryd.func13 rfl trivial ?_ rfl
  simp only [Tryd.ntmps13, List.size_toArray, List.length_cons, List.length_nil, Nat.reduceAdd, Nat.reduceSub, Array.replicate_succ, Array.replicate_zero, List.push_toArray, List.append_toArray, List.nil_append, List.cons_append]
  refine wpIn_wide.2 ?_
  go_wp2_with fail
  refine wp_scope_jumps 0 (HdJ s.data.toList w) (fun _ _ => 0) (by rfl) ?_ ?_
  · refine (wpIn_wide (n := 3)).1 ?_
    gi_wp2_with fail
    refine ⟨trivial, callsIn_wide.2 ((LD.out _).mono ?_)⟩
    rintro e w1 ⟨rfl, rfl⟩
    gi_wp2_with fail
    have bR := (Boxed.new w 22 (.slice none 0 0)).alloc (.cells #[.string s] 9)
    have bS := Boxed.new (w.alloc (.cells #[.slice none 0 0] 22)) 9 (.string s)
    rw [World.size_alloc] at bS
    have hB0 : Below w.heap.size w ((w.alloc (.cells #[.slice none 0 0] 22)).alloc (.cells #[.string s] 9)) := ((Below.refl _ w).alloc (Nat.le_refl _) _).alloc (by simp) _
    refine range_lawG (gf := 89) (lb := #[.pointer (some ⟨w.heap.size + 1, 0, none⟩)]) rfl (enters_of Tryd.func89 (by kernel_rfl) rfl) (B := w.heap.size + 1) (by simp) (encs := encP) (S := fun xs => xs = lns s.data.toList) (Sp := fun pre => pre <+: lns s.data.toList) (N := (lns s.data.toList).length) (G := ML)
      (lines1_seq (w.heap.size + 1) s _ (by omega) bS) (fun _ => rfl) (HdI w.heap.size (w.heap.size + 1) w) (HdX w.heap.size w) (hdI_own rfl rfl (by simp; omega)) (hdX_own rfl rfl (by simp; omega)) (fun _ _ h => HM.out.ret h.2.1) ⟨⟨_, [], rfl, bR, World.ownsRow_nil _ _ _ _⟩, hB0, by simp⟩
      (fun x => { tmps := #[.string s, undef, .pointer (some ⟨w.heap.size, 0, none⟩), .int .i64 140, .string ⟨x.1.toArray⟩, .bool x.2, undef, undef, undef, .string s, .int .i64 s.size, .bool false, .string s, .func (.func 89) #[] #[.pointer (some ⟨w.heap.size + 1, 0, none⟩)], .string ⟨x.1.toArray⟩, .bool x.2, undef, undef, undef, undef, undef, undef, undef, undef, undef, undef, undef, undef, undef, undef, undef, undef, undef, undef, undef, undef, undef, undef, undef, undef, undef, undef, undef, undef, undef, undef, undef, undef, undef, undef, undef], defers := [] }) ?assign ?body ?done ?stop
    case assign =>
      intro l x W K hK
      obtain ⟨X, hX⟩ : ∃ X : ByteArray, ⟨x.1.toArray⟩ = X := ⟨_, rfl⟩
      rw [hX] at hK
      unfold encP
      rw [hX]
      gi_wp2_with fail
      exact hK
    case body =>
      rintro l pre ⟨x1, x2⟩ W ⟨⟨v, fs, hf, hv, hrow⟩, hBl, hL⟩ hlt hyp
      have zx : x1.length ≤ s.data.toList.length := HLM.out _ hyp
      rw [size_toList] at zx
      have zfs := flds_len hf
      have hHN := HNB.out
      rw [size_toList] at hHN
      obtain ⟨X, hX⟩ : ∃ X : ByteArray, ⟨x1.toArray⟩ = X := ⟨_, rfl⟩
      have hXl : X.data.toList = x1 := by rw [← hX]
      have zX : X.size ≤ 1000000 := by rw [← size_toList, hXl]; omega
      have C0 := fun w => st_Cut1 X 58 w zX
      rw [hXl] at C0
      simp only at hX ⊢
      rw [hX]
      have hfb : fldB x1 = (x1.contains 58 && (tok (cA 58 x1) && pln (cR 58 x1))) := rfl
      have hfv : fldV x1 = (lowL (cA 58 x1), trm (cR 58 x1)) := rfl
      have zA0 := cA_le 58 x1
      have zR0 : (cR 58 x1).length ≤ x1.length := by
        unfold cR
        rw [List.length_drop]
        exact Nat.le_trans (Nat.sub_le _ _) (List.dropWhile_sublist _).length_le
      obtain ⟨N, hN⟩ : ∃ X : ByteArray, ⟨(cA 58 x1).toArray⟩ = X := ⟨_, rfl⟩
      obtain ⟨V, hV⟩ : ∃ X : ByteArray, ⟨(cR 58 x1).toArray⟩ = X := ⟨_, rfl⟩
      have hNl : N.data.toList = cA 58 x1 := by rw [← hN]
      have hVl : V.data.toList = cR 58 x1 := by rw [← hV]
      have zN : N.size ≤ 1000000 := by rw [← size_toList, hNl]; omega
      have zV : V.size ≤ 1000000 := by rw [← size_toList, hVl]; omega
      rw [hN, hV] at C0
      rw [← hNl, ← hVl] at hfb hfv
      obtain ⟨c, hcc⟩ : ∃ b, x1.contains 58 = b := ⟨_, rfl⟩
      obtain ⟨k, hk⟩ : ∃ b, tok N.data.toList = b := ⟨_, rfl⟩
      obtain ⟨p, hp⟩ : ∃ b, pln V.data.toList = b := ⟨_, rfl⟩
      rw [hcc] at C0 hfb
      rw [hk, hp] at hfb
      have CH := Lib.hid C0
      have KH := Lib.hid fun w => token_at N k w zN hk
      have PH := Lib.hid fun w => plain_at V p w zV hp
      have hflds : flds (pre ++ [(x1, x2)]) = if x2 = true ∧ (c && (k && p)) = true then some (fs ++ [(lowL N.data.toList, trm V.data.toList)]) else none := by
        rw [flds_app, hf, Option.bind_some]
        simp only [flds, hfb, hfv]
        split <;> simp
      have LH0 := fun w => as_Lower N w zN
      have TH0 := fun w => as_Trim V w zV
      obtain ⟨A, hA⟩ : ∃ X : ByteArray, ⟨(lowL N.data.toList).toArray⟩ = X := ⟨_, rfl⟩
      obtain ⟨D, hD⟩ : ∃ X : ByteArray, ⟨(trm V.data.toList).toArray⟩ = X := ⟨_, rfl⟩
      rw [hA] at LH0
      rw [hD] at TH0
      have LH := Lib.hid LH0
      have TH := Lib.hid TH0
      have hpv : prV (fs ++ [(lowL N.data.toList, trm V.data.toList)]) = prV fs ++ [.string A, .string D] := by
        rw [prV_app, ← hA, ← hD]
        rfl
      have HPV := Lib.hid hpv
      have HFL := Lib.hid hflds
      have HS0 := Lib.hid (RSt.mk hv hrow hBl (KeepsOthers.refl W) ⟨Nat.le_refl _, rfl⟩ hL : RSt w.heap.size (w.heap.size + 1) v (prV fs) fs.length w W W)
      have HBAD : Hid (∀ W', (flds (pre ++ [(x1, x2)]) = none) → RSt w.heap.size (w.heap.size + 1) v (prV fs) fs.length w W W' → KeepsOthers W W' ∧ HdX w.heap.size w (.goto 0) (pre ++ [(x1, x2)]) W') := Lib.hid fun W' h1 h2 => ⟨h2.oth, rfl, h1, ⟨_, h2.box⟩, h2.bel⟩
      clear C0 LH0 TH0 hX hXl hN hV hNl hVl hcc hk hp hfb hfv hA hD hpv hflds hf hv hrow hBl hL zx zA0 zR0 hyp
      cases x2 with
      | false =>
        gi_wp2_with fail
        refine ⟨trivial, callsIn_wide.2 ((CH.out _).mono ?_)⟩
        rintro e w2 ⟨rfl, hb2⟩
        gi_wp2_with fail
        refine ⟨trivial, ?_⟩
        gi_wp2_with fail
        refine ⟨trivial, ?_⟩
        gi_wp2_with fail
        refine wpIn_goto ?_
        exact HBAD.out _ (by rw [HFL.out]; simp) (HS0.out.call hb2)
      | true =>
        gi_wp2_with fail
        refine ⟨trivial, callsIn_wide.2 ((CH.out _).mono ?_)⟩
        rintro e w2 ⟨rfl, hb2⟩
        have HS := Lib.hid (HS0.out.call hb2)
        clear hb2
        cases c with
        | false =>
          gi_wp2_with fail
          refine ⟨trivial, ?_⟩
          gi_wp2_with fail
          refine ⟨trivial, ?_⟩
          gi_wp2_with fail
          refine wpIn_goto ?_
          exact HBAD.out _ (by rw [HFL.out]; simp) HS.out
        | true =>
          gi_wp2_with fail
          refine ⟨trivial, callsIn_wide.2 ((KH.out _).mono ?_)⟩
          rintro e w3 ⟨rfl, hb3⟩
          have HS := Lib.hid (HS.out.call hb3)
          clear hb3
          cases k with
          | false =>
            gi_wp2_with fail
            refine ⟨trivial, ?_⟩
            gi_wp2_with fail
            refine wpIn_goto ?_
            exact HBAD.out _ (by rw [HFL.out]; simp) HS.out
          | true =>
            gi_wp2_with fail
            refine ⟨trivial, callsIn_wide.2 ((PH.out _).mono ?_)⟩
            rintro e w4 ⟨rfl, hb4⟩
            have HS := Lib.hid (HS.out.call hb4)
            clear hb4
            cases p with
            | false =>
              gi_wp2_with fail
              refine wpIn_goto ?_
              exact HBAD.out _ (by rw [HFL.out]; simp) HS.out
            | true =>
              gi_wp2_with fail
              have fin8 : ∀ v' m W', m = pre.length + 1 → REnd w.heap.size (w.heap.size + 1) v' (prV fs ++ [.string A, .string D]) m w W W' → KeepsOthers W W' ∧ KeepV (w.heap.size + 1) W W' ∧ HdI w.heap.size (w.heap.size + 1) w (pre ++ [(x1, true)]) W' := by
                rintro v' m W' rfl ⟨r1, r2, r3, r4, r5, r6⟩
                refine ⟨r4, r5, ⟨v', fs ++ [(lowL N.data.toList, trm V.data.toList)], by rw [HFL.out]; simp, r1, ?_⟩, r3, r6⟩
                rw [HPV.out, List.length_append, zfs]
                exact r2
              have HS := Lib.hid (HS.out.call (Below.drew (Below.refl _ _)))
              have hc := HS.out.box.cell
              refine wpIn_region_any (by kernel_rfl) ?_
              change wpAnyIn _ _ _ _ _ _ _ _ _ (World.drew _)
              refine wpAnyIn_ready (rs := [0, 1, 3]) (by kernel_rfl) (by simp) ?_
              refine AllReadyIn.cons rfl (fun K hK => ?_) ?_
              · go_simp
                refine hK _ _ ?_
                clear hK K
                refine wpAnyIn_ready (rs := [1, 3]) (by kernel_rfl) (by simp) ?_
                refine AllReadyIn.cons rfl (fun K hK => ?_) ?_
                · go_simp
                  refine hK _ _ ?_
                  clear hK K
                  refine wpAnyIn_ready (rs := [2, 3]) (by kernel_rfl) (by simp) ?_
                  refine AllReadyIn.cons rfl (fun K hK => ?_) ?_
                  · go_simp
                    refine ⟨trivial, callsIn_wide.2 ((LH.out _).mono ?_)⟩
                    rintro e w5 ⟨rfl, hb5⟩
                    have HS := Lib.hid (HS.out.call hb5)
                    have hc := HS.out.box.cell
                    clear hb5
                    refine hK _ _ ?_
                    clear hK K
                    refine wpAnyIn_ready (rs := [3]) (by kernel_rfl) (by simp) ?_
                    refine AllReadyIn.cons rfl (fun K hK => ?_) ?_
                    · go_simp
                      refine hK _ _ ?_
                      clear hK K
                      refine wpAnyIn_ready (rs := [4]) (by kernel_rfl) (by simp) ?_
                      refine AllReadyIn.cons rfl (fun K hK => ?_) ?_
                      · go_simp
                        refine ⟨trivial, callsIn_wide.2 ((TH.out _).mono ?_)⟩
                        rintro e w5 ⟨rfl, hb5⟩
                        have HS := Lib.hid (HS.out.call hb5)
                        have hc := HS.out.box.cell
                        clear hb5
                        refine hK _ _ ?_
                        clear hK K
                        refine wpAnyIn_ready (rs := [5]) (by kernel_rfl) (by simp) ?_
                        refine AllReadyIn.cons rfl (fun K hK => ?_) ?_
                        · go_simp
                          refine hK _ _ ?_
                          clear hK K
                          refine wpAnyIn_ready (rs := [6]) (by kernel_rfl) (by simp) ?_
                          refine AllReadyIn.cons rfl (fun K hK => ?_) ?_
                          · go_simp
                            refine hK _ _ ?_
                            clear hK K
                            have hc6 := (HS.out.box.alloc (.cells #[.string A, .string D] 52)).cell
                            refine wpAnyIn_ready (rs := [7]) (by kernel_rfl) (by simp) ?_
                            refine AllReadyIn.cons rfl (fun K hK => ?_) ?_
                            · rw [if_pos (by rfl)]
                              refine wpIn_app_row _ _ _ (by rfl) (w.heap.size + 1 + 1) 52 i0 _ 2 32 Tryd.underlying22 hi hz0 hz1 hz2 rfl (by omega) v fs.length (prV fs) (by rfl) (HS.out.row.alloc _) (.slice (some ⟨_, 0, none⟩) 1 1) (by rfl) 1 [.string A, .string D] (new_row2 _ _ _) (by simp [Value.oneCell']) (by omega) (by omega) (by have := HS.out.lt; simp; omega) ?_
                              intro v' w7 hown' hgrow
                              obtain ⟨g', cap', rfl⟩ := ownsRow_succ hown'
                              obtain ⟨hc7, hf7, HE⟩ := HS.out.done rfl rfl _ hown' hgrow
                              clear hown' hgrow
                              refine hK _ _ ?_
                              clear hK K
                              refine wpAnyIn_ready (rs := [8]) (by kernel_rfl) (by simp) ?_
                              refine AllReadyIn.cons rfl (fun K hK => ?_) ?_
                              · go_simp
                                refine hK _ _ ?_
                                clear hK K
                                refine wpAnyIn_done (by kernel_rfl) ?_ _
                                rw [zfs] at HE
                                exact fin8 _ _ _ (by rfl) HE
                              exact AllReadyIn.nil
                            exact AllReadyIn.nil
                          exact AllReadyIn.nil
                        exact AllReadyIn.nil
                      exact AllReadyIn.nil
                    exact AllReadyIn.nil
                  refine AllReadyIn.cons rfl (fun K hK => ?_) ?_
                  · go_simp
                    refine hK _ _ ?_
                    clear hK K
                    refine wpAnyIn_ready (rs := [2]) (by kernel_rfl) (by simp) ?_
                    refine AllReadyIn.cons rfl (fun K hK => ?_) ?_
                    · go_simp
                      refine ⟨trivial, callsIn_wide.2 ((LH.out _).mono ?_)⟩
                      rintro e w5 ⟨rfl, hb5⟩
                      have HS := Lib.hid (HS.out.call hb5)
                      have hc := HS.out.box.cell
                      clear hb5
                      refine hK _ _ ?_
                      clear hK K
                      refine wpAnyIn_ready (rs := [4]) (by kernel_rfl) (by simp) ?_
                      refine AllReadyIn.cons rfl (fun K hK => ?_) ?_
                      · go_simp
                        refine ⟨trivial, callsIn_wide.2 ((TH.out _).mono ?_)⟩
                        rintro e w5 ⟨rfl, hb5⟩
                        have HS := Lib.hid (HS.out.call hb5)
                        have hc := HS.out.box.cell
                        clear hb5
                        refine hK _ _ ?_
                        clear hK K
                        refine wpAnyIn_ready (rs := [5]) (by kernel_rfl) (by simp) ?_
                        refine AllReadyIn.cons rfl (fun K hK => ?_) ?_
                        · go_simp
                          refine hK _ _ ?_
                          clear hK K
                          refine wpAnyIn_ready (rs := [6]) (by kernel_rfl) (by simp) ?_
                          refine AllReadyIn.cons rfl (fun K hK => ?_) ?_
                          · go_simp
                            refine hK _ _ ?_
                            clear hK K
                            have hc6 := (HS.out.box.alloc (.cells #[.string A, .string D] 52)).cell
                            refine wpAnyIn_ready (rs := [7]) (by kernel_rfl) (by simp) ?_
                            refine AllReadyIn.cons rfl (fun K hK => ?_) ?_
                            · rw [if_pos (by rfl)]
                              refine wpIn_app_row _ _ _ (by rfl) (w.heap.size + 1 + 1) 52 i0 _ 2 32 Tryd.underlying22 hi hz0 hz1 hz2 rfl (by omega) v fs.length (prV fs) (by rfl) (HS.out.row.alloc _) (.slice (some ⟨_, 0, none⟩) 1 1) (by rfl) 1 [.string A, .string D] (new_row2 _ _ _) (by simp [Value.oneCell']) (by omega) (by omega) (by have := HS.out.lt; simp; omega) ?_
                              intro v' w7 hown' hgrow
                              obtain ⟨g', cap', rfl⟩ := ownsRow_succ hown'
                              obtain ⟨hc7, hf7, HE⟩ := HS.out.done rfl rfl _ hown' hgrow
                              clear hown' hgrow
                              refine hK _ _ ?_
                              clear hK K
                              refine wpAnyIn_ready (rs := [8]) (by kernel_rfl) (by simp) ?_
                              refine AllReadyIn.cons rfl (fun K hK => ?_) ?_
                              · go_simp
                                refine hK _ _ ?_
                                clear hK K
                                refine wpAnyIn_done (by kernel_rfl) ?_ _
                                rw [zfs] at HE
                                exact fin8 _ _ _ (by rfl) HE
                              exact AllReadyIn.nil
                            exact AllReadyIn.nil
                          exact AllReadyIn.nil
                        exact AllReadyIn.nil
                      exact AllReadyIn.nil
                    exact AllReadyIn.nil
                  exact AllReadyIn.nil
                refine AllReadyIn.cons rfl (fun K hK => ?_) ?_
                · go_simp
                  refine hK _ _ ?_
                  clear hK K
                  refine wpAnyIn_ready (rs := [1]) (by kernel_rfl) (by simp) ?_
                  refine AllReadyIn.cons rfl (fun K hK => ?_) ?_
                  · go_simp
                    refine hK _ _ ?_
                    clear hK K
                    refine wpAnyIn_ready (rs := [2]) (by kernel_rfl) (by simp) ?_
                    refine AllReadyIn.cons rfl (fun K hK => ?_) ?_
                    · go_simp
                      refine ⟨trivial, callsIn_wide.2 ((LH.out _).mono ?_)⟩
                      rintro e w5 ⟨rfl, hb5⟩
                      have HS := Lib.hid (HS.out.call hb5)
                      have hc := HS.out.box.cell
                      clear hb5
                      refine hK _ _ ?_
                      clear hK K
                      refine wpAnyIn_ready (rs := [4]) (by kernel_rfl) (by simp) ?_
                      refine AllReadyIn.cons rfl (fun K hK => ?_) ?_
                      · go_simp
                        refine ⟨trivial, callsIn_wide.2 ((TH.out _).mono ?_)⟩
                        rintro e w5 ⟨rfl, hb5⟩
                        have HS := Lib.hid (HS.out.call hb5)
                        have hc := HS.out.box.cell
                        clear hb5
                        refine hK _ _ ?_
                        clear hK K
                        refine wpAnyIn_ready (rs := [5]) (by kernel_rfl) (by simp) ?_
                        refine AllReadyIn.cons rfl (fun K hK => ?_) ?_
                        · go_simp
                          refine hK _ _ ?_
                          clear hK K
                          refine wpAnyIn_ready (rs := [6]) (by kernel_rfl) (by simp) ?_
                          refine AllReadyIn.cons rfl (fun K hK => ?_) ?_
                          · go_simp
                            refine hK _ _ ?_
                            clear hK K
                            have hc6 := (HS.out.box.alloc (.cells #[.string A, .string D] 52)).cell
                            refine wpAnyIn_ready (rs := [7]) (by kernel_rfl) (by simp) ?_
                            refine AllReadyIn.cons rfl (fun K hK => ?_) ?_
                            · rw [if_pos (by rfl)]
                              refine wpIn_app_row _ _ _ (by rfl) (w.heap.size + 1 + 1) 52 i0 _ 2 32 Tryd.underlying22 hi hz0 hz1 hz2 rfl (by omega) v fs.length (prV fs) (by rfl) (HS.out.row.alloc _) (.slice (some ⟨_, 0, none⟩) 1 1) (by rfl) 1 [.string A, .string D] (new_row2 _ _ _) (by simp [Value.oneCell']) (by omega) (by omega) (by have := HS.out.lt; simp; omega) ?_
                              intro v' w7 hown' hgrow
                              obtain ⟨g', cap', rfl⟩ := ownsRow_succ hown'
                              obtain ⟨hc7, hf7, HE⟩ := HS.out.done rfl rfl _ hown' hgrow
                              clear hown' hgrow
                              refine hK _ _ ?_
                              clear hK K
                              refine wpAnyIn_ready (rs := [8]) (by kernel_rfl) (by simp) ?_
                              refine AllReadyIn.cons rfl (fun K hK => ?_) ?_
                              · go_simp
                                refine hK _ _ ?_
                                clear hK K
                                refine wpAnyIn_done (by kernel_rfl) ?_ _
                                rw [zfs] at HE
                                exact fin8 _ _ _ (by rfl) HE
                              exact AllReadyIn.nil
                            exact AllReadyIn.nil
                          exact AllReadyIn.nil
                        exact AllReadyIn.nil
                      exact AllReadyIn.nil
                    exact AllReadyIn.nil
                  exact AllReadyIn.nil
                exact AllReadyIn.nil
              refine AllReadyIn.cons rfl (fun K hK => ?_) ?_
              · go_simp
                refine hK _ _ ?_
                clear hK K
                refine wpAnyIn_ready (rs := [0, 2, 3]) (by kernel_rfl) (by simp) ?_
                refine AllReadyIn.cons rfl (fun K hK => ?_) ?_
                · go_simp
                  refine hK _ _ ?_
                  clear hK K
                  refine wpAnyIn_ready (rs := [2, 3]) (by kernel_rfl) (by simp) ?_
                  refine AllReadyIn.cons rfl (fun K hK => ?_) ?_
                  · go_simp
                    refine ⟨trivial, callsIn_wide.2 ((LH.out _).mono ?_)⟩
                    rintro e w5 ⟨rfl, hb5⟩
                    have HS := Lib.hid (HS.out.call hb5)
                    have hc := HS.out.box.cell
                    clear hb5
                    refine hK _ _ ?_
                    clear hK K
                    refine wpAnyIn_ready (rs := [3]) (by kernel_rfl) (by simp) ?_
                    refine AllReadyIn.cons rfl (fun K hK => ?_) ?_
                    · go_simp
                      refine hK _ _ ?_
                      clear hK K
                      refine wpAnyIn_ready (rs := [4]) (by kernel_rfl) (by simp) ?_
                      refine AllReadyIn.cons rfl (fun K hK => ?_) ?_
                      · go_simp
                        refine ⟨trivial, callsIn_wide.2 ((TH.out _).mono ?_)⟩
                        rintro e w5 ⟨rfl, hb5⟩
                        have HS := Lib.hid (HS.out.call hb5)
                        have hc := HS.out.box.cell
                        clear hb5
                        refine hK _ _ ?_
                        clear hK K
                        refine wpAnyIn_ready (rs := [5]) (by kernel_rfl) (by simp) ?_
                        refine AllReadyIn.cons rfl (fun K hK => ?_) ?_
                        · go_simp
                          refine hK _ _ ?_
                          clear hK K
                          refine wpAnyIn_ready (rs := [6]) (by kernel_rfl) (by simp) ?_
                          refine AllReadyIn.cons rfl (fun K hK => ?_) ?_
                          · go_simp
                            refine hK _ _ ?_
                            clear hK K
                            have hc6 := (HS.out.box.alloc (.cells #[.string A, .string D] 52)).cell
                            refine wpAnyIn_ready (rs := [7]) (by kernel_rfl) (by simp) ?_
                            refine AllReadyIn.cons rfl (fun K hK => ?_) ?_
                            · rw [if_pos (by rfl)]
                              refine wpIn_app_row _ _ _ (by rfl) (w.heap.size + 1 + 1) 52 i0 _ 2 32 Tryd.underlying22 hi hz0 hz1 hz2 rfl (by omega) v fs.length (prV fs) (by rfl) (HS.out.row.alloc _) (.slice (some ⟨_, 0, none⟩) 1 1) (by rfl) 1 [.string A, .string D] (new_row2 _ _ _) (by simp [Value.oneCell']) (by omega) (by omega) (by have := HS.out.lt; simp; omega) ?_
                              intro v' w7 hown' hgrow
                              obtain ⟨g', cap', rfl⟩ := ownsRow_succ hown'
                              obtain ⟨hc7, hf7, HE⟩ := HS.out.done rfl rfl _ hown' hgrow
                              clear hown' hgrow
                              refine hK _ _ ?_
                              clear hK K
                              refine wpAnyIn_ready (rs := [8]) (by kernel_rfl) (by simp) ?_
                              refine AllReadyIn.cons rfl (fun K hK => ?_) ?_
                              · go_simp
                                refine hK _ _ ?_
                                clear hK K
                                refine wpAnyIn_done (by kernel_rfl) ?_ _
                                rw [zfs] at HE
                                exact fin8 _ _ _ (by rfl) HE
                              exact AllReadyIn.nil
                            exact AllReadyIn.nil
                          exact AllReadyIn.nil
                        exact AllReadyIn.nil
                      exact AllReadyIn.nil
                    exact AllReadyIn.nil
                  refine AllReadyIn.cons rfl (fun K hK => ?_) ?_
                  · go_simp
                    refine hK _ _ ?_
                    clear hK K
                    refine wpAnyIn_ready (rs := [2]) (by kernel_rfl) (by simp) ?_
                    refine AllReadyIn.cons rfl (fun K hK => ?_) ?_
                    · go_simp
                      refine ⟨trivial, callsIn_wide.2 ((LH.out _).mono ?_)⟩
                      rintro e w5 ⟨rfl, hb5⟩
                      have HS := Lib.hid (HS.out.call hb5)
                      have hc := HS.out.box.cell
                      clear hb5
                      refine hK _ _ ?_
                      clear hK K
                      refine wpAnyIn_ready (rs := [4]) (by kernel_rfl) (by simp) ?_
                      refine AllReadyIn.cons rfl (fun K hK => ?_) ?_
                      · go_simp
                        refine ⟨trivial, callsIn_wide.2 ((TH.out _).mono ?_)⟩
                        rintro e w5 ⟨rfl, hb5⟩
                        have HS := Lib.hid (HS.out.call hb5)
                        have hc := HS.out.box.cell
                        clear hb5
                        refine hK _ _ ?_
                        clear hK K
                        refine wpAnyIn_ready (rs := [5]) (by kernel_rfl) (by simp) ?_
                        refine AllReadyIn.cons rfl (fun K hK => ?_) ?_
                        · go_simp
                          refine hK _ _ ?_
                          clear hK K
                          refine wpAnyIn_ready (rs := [6]) (by kernel_rfl) (by simp) ?_
                          refine AllReadyIn.cons rfl (fun K hK => ?_) ?_
                          · go_simp
                            refine hK _ _ ?_
                            clear hK K
                            have hc6 := (HS.out.box.alloc (.cells #[.string A, .string D] 52)).cell
                            refine wpAnyIn_ready (rs := [7]) (by kernel_rfl) (by simp) ?_
                            refine AllReadyIn.cons rfl (fun K hK => ?_) ?_
                            · rw [if_pos (by rfl)]
                              refine wpIn_app_row _ _ _ (by rfl) (w.heap.size + 1 + 1) 52 i0 _ 2 32 Tryd.underlying22 hi hz0 hz1 hz2 rfl (by omega) v fs.length (prV fs) (by rfl) (HS.out.row.alloc _) (.slice (some ⟨_, 0, none⟩) 1 1) (by rfl) 1 [.string A, .string D] (new_row2 _ _ _) (by simp [Value.oneCell']) (by omega) (by omega) (by have := HS.out.lt; simp; omega) ?_
                              intro v' w7 hown' hgrow
                              obtain ⟨g', cap', rfl⟩ := ownsRow_succ hown'
                              obtain ⟨hc7, hf7, HE⟩ := HS.out.done rfl rfl _ hown' hgrow
                              clear hown' hgrow
                              refine hK _ _ ?_
                              clear hK K
                              refine wpAnyIn_ready (rs := [8]) (by kernel_rfl) (by simp) ?_
                              refine AllReadyIn.cons rfl (fun K hK => ?_) ?_
                              · go_simp
                                refine hK _ _ ?_
                                clear hK K
                                refine wpAnyIn_done (by kernel_rfl) ?_ _
                                rw [zfs] at HE
                                exact fin8 _ _ _ (by rfl) HE
                              exact AllReadyIn.nil
                            exact AllReadyIn.nil
                          exact AllReadyIn.nil
                        exact AllReadyIn.nil
                      exact AllReadyIn.nil
                    exact AllReadyIn.nil
                  exact AllReadyIn.nil
                refine AllReadyIn.cons rfl (fun K hK => ?_) ?_
                · go_simp
                  refine ⟨trivial, callsIn_wide.2 ((LH.out _).mono ?_)⟩
                  rintro e w5 ⟨rfl, hb5⟩
                  have HS := Lib.hid (HS.out.call hb5)
                  have hc := HS.out.box.cell
                  clear hb5
                  refine hK _ _ ?_
                  clear hK K
                  refine wpAnyIn_ready (rs := [0, 3]) (by kernel_rfl) (by simp) ?_
                  refine AllReadyIn.cons rfl (fun K hK => ?_) ?_
                  · go_simp
                    refine hK _ _ ?_
                    clear hK K
                    refine wpAnyIn_ready (rs := [3]) (by kernel_rfl) (by simp) ?_
                    refine AllReadyIn.cons rfl (fun K hK => ?_) ?_
                    · go_simp
                      refine hK _ _ ?_
                      clear hK K
                      refine wpAnyIn_ready (rs := [4]) (by kernel_rfl) (by simp) ?_
                      refine AllReadyIn.cons rfl (fun K hK => ?_) ?_
                      · go_simp
                        refine ⟨trivial, callsIn_wide.2 ((TH.out _).mono ?_)⟩
                        rintro e w5 ⟨rfl, hb5⟩
                        have HS := Lib.hid (HS.out.call hb5)
                        have hc := HS.out.box.cell
                        clear hb5
                        refine hK _ _ ?_
                        clear hK K
                        refine wpAnyIn_ready (rs := [5]) (by kernel_rfl) (by simp) ?_
                        refine AllReadyIn.cons rfl (fun K hK => ?_) ?_
                        · go_simp
                          refine hK _ _ ?_
                          clear hK K
                          refine wpAnyIn_ready (rs := [6]) (by kernel_rfl) (by simp) ?_
                          refine AllReadyIn.cons rfl (fun K hK => ?_) ?_
                          · go_simp
                            refine hK _ _ ?_
                            clear hK K
                            have hc6 := (HS.out.box.alloc (.cells #[.string A, .string D] 52)).cell
                            refine wpAnyIn_ready (rs := [7]) (by kernel_rfl) (by simp) ?_
                            refine AllReadyIn.cons rfl (fun K hK => ?_) ?_
                            · rw [if_pos (by rfl)]
                              refine wpIn_app_row _ _ _ (by rfl) (w.heap.size + 1 + 1) 52 i0 _ 2 32 Tryd.underlying22 hi hz0 hz1 hz2 rfl (by omega) v fs.length (prV fs) (by rfl) (HS.out.row.alloc _) (.slice (some ⟨_, 0, none⟩) 1 1) (by rfl) 1 [.string A, .string D] (new_row2 _ _ _) (by simp [Value.oneCell']) (by omega) (by omega) (by have := HS.out.lt; simp; omega) ?_
                              intro v' w7 hown' hgrow
                              obtain ⟨g', cap', rfl⟩ := ownsRow_succ hown'
                              obtain ⟨hc7, hf7, HE⟩ := HS.out.done rfl rfl _ hown' hgrow
                              clear hown' hgrow
                              refine hK _ _ ?_
                              clear hK K
                              refine wpAnyIn_ready (rs := [8]) (by kernel_rfl) (by simp) ?_
                              refine AllReadyIn.cons rfl (fun K hK => ?_) ?_
                              · go_simp
                                refine hK _ _ ?_
                                clear hK K
                                refine wpAnyIn_done (by kernel_rfl) ?_ _
                                rw [zfs] at HE
                                exact fin8 _ _ _ (by rfl) HE
                              exact AllReadyIn.nil
                            exact AllReadyIn.nil
                          exact AllReadyIn.nil
                        exact AllReadyIn.nil
                      exact AllReadyIn.nil
                    exact AllReadyIn.nil
                  refine AllReadyIn.cons rfl (fun K hK => ?_) ?_
                  · go_simp
                    refine hK _ _ ?_
                    clear hK K
                    refine wpAnyIn_ready (rs := [0, 4]) (by kernel_rfl) (by simp) ?_
                    refine AllReadyIn.cons rfl (fun K hK => ?_) ?_
                    · go_simp
                      refine hK _ _ ?_
                      clear hK K
                      refine wpAnyIn_ready (rs := [4]) (by kernel_rfl) (by simp) ?_
                      refine AllReadyIn.cons rfl (fun K hK => ?_) ?_
                      · go_simp
                        refine ⟨trivial, callsIn_wide.2 ((TH.out _).mono ?_)⟩
                        rintro e w5 ⟨rfl, hb5⟩
                        have HS := Lib.hid (HS.out.call hb5)
                        have hc := HS.out.box.cell
                        clear hb5
                        refine hK _ _ ?_
                        clear hK K
                        refine wpAnyIn_ready (rs := [5]) (by kernel_rfl) (by simp) ?_
                        refine AllReadyIn.cons rfl (fun K hK => ?_) ?_
                        · go_simp
                          refine hK _ _ ?_
                          clear hK K
                          refine wpAnyIn_ready (rs := [6]) (by kernel_rfl) (by simp) ?_
                          refine AllReadyIn.cons rfl (fun K hK => ?_) ?_
                          · go_simp
                            refine hK _ _ ?_
                            clear hK K
                            have hc6 := (HS.out.box.alloc (.cells #[.string A, .string D] 52)).cell
                            refine wpAnyIn_ready (rs := [7]) (by kernel_rfl) (by simp) ?_
                            refine AllReadyIn.cons rfl (fun K hK => ?_) ?_
                            · rw [if_pos (by rfl)]
                              refine wpIn_app_row _ _ _ (by rfl) (w.heap.size + 1 + 1) 52 i0 _ 2 32 Tryd.underlying22 hi hz0 hz1 hz2 rfl (by omega) v fs.length (prV fs) (by rfl) (HS.out.row.alloc _) (.slice (some ⟨_, 0, none⟩) 1 1) (by rfl) 1 [.string A, .string D] (new_row2 _ _ _) (by simp [Value.oneCell']) (by omega) (by omega) (by have := HS.out.lt; simp; omega) ?_
                              intro v' w7 hown' hgrow
                              obtain ⟨g', cap', rfl⟩ := ownsRow_succ hown'
                              obtain ⟨hc7, hf7, HE⟩ := HS.out.done rfl rfl _ hown' hgrow
                              clear hown' hgrow
                              refine hK _ _ ?_
                              clear hK K
                              refine wpAnyIn_ready (rs := [8]) (by kernel_rfl) (by simp) ?_
                              refine AllReadyIn.cons rfl (fun K hK => ?_) ?_
                              · go_simp
                                refine hK _ _ ?_
                                clear hK K
                                refine wpAnyIn_done (by kernel_rfl) ?_ _
                                rw [zfs] at HE
                                exact fin8 _ _ _ (by rfl) HE
                              exact AllReadyIn.nil
                            exact AllReadyIn.nil
                          exact AllReadyIn.nil
                        exact AllReadyIn.nil
                      exact AllReadyIn.nil
                    refine AllReadyIn.cons rfl (fun K hK => ?_) ?_
                    · go_simp
                      refine ⟨trivial, callsIn_wide.2 ((TH.out _).mono ?_)⟩
                      rintro e w5 ⟨rfl, hb5⟩
                      have HS := Lib.hid (HS.out.call hb5)
                      have hc := HS.out.box.cell
                      clear hb5
                      refine hK _ _ ?_
                      clear hK K
                      refine wpAnyIn_ready (rs := [0, 5]) (by kernel_rfl) (by simp) ?_
                      refine AllReadyIn.cons rfl (fun K hK => ?_) ?_
                      · go_simp
                        refine hK _ _ ?_
                        clear hK K
                        refine wpAnyIn_ready (rs := [5]) (by kernel_rfl) (by simp) ?_
                        refine AllReadyIn.cons rfl (fun K hK => ?_) ?_
                        · go_simp
                          refine hK _ _ ?_
                          clear hK K
                          refine wpAnyIn_ready (rs := [6]) (by kernel_rfl) (by simp) ?_
                          refine AllReadyIn.cons rfl (fun K hK => ?_) ?_
                          · go_simp
                            refine hK _ _ ?_
                            clear hK K
                            have hc6 := (HS.out.box.alloc (.cells #[.string A, .string D] 52)).cell
                            refine wpAnyIn_ready (rs := [7]) (by kernel_rfl) (by simp) ?_
                            refine AllReadyIn.cons rfl (fun K hK => ?_) ?_
                            · rw [if_pos (by rfl)]
                              refine wpIn_app_row _ _ _ (by rfl) (w.heap.size + 1 + 1) 52 i0 _ 2 32 Tryd.underlying22 hi hz0 hz1 hz2 rfl (by omega) v fs.length (prV fs) (by rfl) (HS.out.row.alloc _) (.slice (some ⟨_, 0, none⟩) 1 1) (by rfl) 1 [.string A, .string D] (new_row2 _ _ _) (by simp [Value.oneCell']) (by omega) (by omega) (by have := HS.out.lt; simp; omega) ?_
                              intro v' w7 hown' hgrow
                              obtain ⟨g', cap', rfl⟩ := ownsRow_succ hown'
                              obtain ⟨hc7, hf7, HE⟩ := HS.out.done rfl rfl _ hown' hgrow
                              clear hown' hgrow
                              refine hK _ _ ?_
                              clear hK K
                              refine wpAnyIn_ready (rs := [8]) (by kernel_rfl) (by simp) ?_
                              refine AllReadyIn.cons rfl (fun K hK => ?_) ?_
                              · go_simp
                                refine hK _ _ ?_
                                clear hK K
                                refine wpAnyIn_done (by kernel_rfl) ?_ _
                                rw [zfs] at HE
                                exact fin8 _ _ _ (by rfl) HE
                              exact AllReadyIn.nil
                            exact AllReadyIn.nil
                          exact AllReadyIn.nil
                        exact AllReadyIn.nil
                      refine AllReadyIn.cons rfl (fun K hK => ?_) ?_
                      · go_simp
                        refine hK _ _ ?_
                        clear hK K
                        refine wpAnyIn_ready (rs := [0, 6]) (by kernel_rfl) (by simp) ?_
                        refine AllReadyIn.cons rfl (fun K hK => ?_) ?_
                        · go_simp
                          refine hK _ _ ?_
                          clear hK K
                          refine wpAnyIn_ready (rs := [6]) (by kernel_rfl) (by simp) ?_
                          refine AllReadyIn.cons rfl (fun K hK => ?_) ?_
                          · go_simp
                            refine hK _ _ ?_
                            clear hK K
                            have hc6 := (HS.out.box.alloc (.cells #[.string A, .string D] 52)).cell
                            refine wpAnyIn_ready (rs := [7]) (by kernel_rfl) (by simp) ?_
                            refine AllReadyIn.cons rfl (fun K hK => ?_) ?_
                            · rw [if_pos (by rfl)]
                              refine wpIn_app_row _ _ _ (by rfl) (w.heap.size + 1 + 1) 52 i0 _ 2 32 Tryd.underlying22 hi hz0 hz1 hz2 rfl (by omega) v fs.length (prV fs) (by rfl) (HS.out.row.alloc _) (.slice (some ⟨_, 0, none⟩) 1 1) (by rfl) 1 [.string A, .string D] (new_row2 _ _ _) (by simp [Value.oneCell']) (by omega) (by omega) (by have := HS.out.lt; simp; omega) ?_
                              intro v' w7 hown' hgrow
                              obtain ⟨g', cap', rfl⟩ := ownsRow_succ hown'
                              obtain ⟨hc7, hf7, HE⟩ := HS.out.done rfl rfl _ hown' hgrow
                              clear hown' hgrow
                              refine hK _ _ ?_
                              clear hK K
                              refine wpAnyIn_ready (rs := [8]) (by kernel_rfl) (by simp) ?_
                              refine AllReadyIn.cons rfl (fun K hK => ?_) ?_
                              · go_simp
                                refine hK _ _ ?_
                                clear hK K
                                refine wpAnyIn_done (by kernel_rfl) ?_ _
                                rw [zfs] at HE
                                exact fin8 _ _ _ (by rfl) HE
                              exact AllReadyIn.nil
                            exact AllReadyIn.nil
                          exact AllReadyIn.nil
                        refine AllReadyIn.cons rfl (fun K hK => ?_) ?_
                        · go_simp
                          refine hK _ _ ?_
                          clear hK K
                          have hc6 := (HS.out.box.alloc (.cells #[.string A, .string D] 52)).cell
                          refine wpAnyIn_ready (rs := [0]) (by kernel_rfl) (by simp) ?_
                          refine AllReadyIn.cons rfl (fun K hK => ?_) ?_
                          · go_simp
                            refine hK _ _ ?_
                            clear hK K
                            refine wpAnyIn_ready (rs := [7]) (by kernel_rfl) (by simp) ?_
                            refine AllReadyIn.cons rfl (fun K hK => ?_) ?_
                            · rw [if_pos (by rfl)]
                              refine wpIn_app_row _ _ _ (by rfl) (w.heap.size + 1 + 1) 52 i0 _ 2 32 Tryd.underlying22 hi hz0 hz1 hz2 rfl (by omega) v fs.length (prV fs) (by rfl) (HS.out.row.alloc _) (.slice (some ⟨_, 0, none⟩) 1 1) (by rfl) 1 [.string A, .string D] (new_row2 _ _ _) (by simp [Value.oneCell']) (by omega) (by omega) (by have := HS.out.lt; simp; omega) ?_
                              intro v' w7 hown' hgrow
                              obtain ⟨g', cap', rfl⟩ := ownsRow_succ hown'
                              obtain ⟨hc7, hf7, HE⟩ := HS.out.done rfl rfl _ hown' hgrow
                              clear hown' hgrow
                              refine hK _ _ ?_
                              clear hK K
                              refine wpAnyIn_ready (rs := [8]) (by kernel_rfl) (by simp) ?_
                              refine AllReadyIn.cons rfl (fun K hK => ?_) ?_
                              · go_simp
                                refine hK _ _ ?_
                                clear hK K
                                refine wpAnyIn_done (by kernel_rfl) ?_ _
                                rw [zfs] at HE
                                exact fin8 _ _ _ (by rfl) HE
                              exact AllReadyIn.nil
                            exact AllReadyIn.nil
                          exact AllReadyIn.nil
                        exact AllReadyIn.nil
                      exact AllReadyIn.nil
                    exact AllReadyIn.nil
                  exact AllReadyIn.nil
                refine AllReadyIn.cons rfl (fun K hK => ?_) ?_
                · go_simp
                  refine hK _ _ ?_
                  clear hK K
                  refine wpAnyIn_ready (rs := [0, 2]) (by kernel_rfl) (by simp) ?_
                  refine AllReadyIn.cons rfl (fun K hK => ?_) ?_
                  · go_simp
                    refine hK _ _ ?_
                    clear hK K
                    refine wpAnyIn_ready (rs := [2]) (by kernel_rfl) (by simp) ?_
                    refine AllReadyIn.cons rfl (fun K hK => ?_) ?_
                    · go_simp
                      refine ⟨trivial, callsIn_wide.2 ((LH.out _).mono ?_)⟩
                      rintro e w5 ⟨rfl, hb5⟩
                      have HS := Lib.hid (HS.out.call hb5)
                      have hc := HS.out.box.cell
                      clear hb5
                      refine hK _ _ ?_
                      clear hK K
                      refine wpAnyIn_ready (rs := [4]) (by kernel_rfl) (by simp) ?_
                      refine AllReadyIn.cons rfl (fun K hK => ?_) ?_
                      · go_simp
                        refine ⟨trivial, callsIn_wide.2 ((TH.out _).mono ?_)⟩
                        rintro e w5 ⟨rfl, hb5⟩
                        have HS := Lib.hid (HS.out.call hb5)
                        have hc := HS.out.box.cell
                        clear hb5
                        refine hK _ _ ?_
                        clear hK K
                        refine wpAnyIn_ready (rs := [5]) (by kernel_rfl) (by simp) ?_
                        refine AllReadyIn.cons rfl (fun K hK => ?_) ?_
                        · go_simp
                          refine hK _ _ ?_
                          clear hK K
                          refine wpAnyIn_ready (rs := [6]) (by kernel_rfl) (by simp) ?_
                          refine AllReadyIn.cons rfl (fun K hK => ?_) ?_
                          · go_simp
                            refine hK _ _ ?_
                            clear hK K
                            have hc6 := (HS.out.box.alloc (.cells #[.string A, .string D] 52)).cell
                            refine wpAnyIn_ready (rs := [7]) (by kernel_rfl) (by simp) ?_
                            refine AllReadyIn.cons rfl (fun K hK => ?_) ?_
                            · rw [if_pos (by rfl)]
                              refine wpIn_app_row _ _ _ (by rfl) (w.heap.size + 1 + 1) 52 i0 _ 2 32 Tryd.underlying22 hi hz0 hz1 hz2 rfl (by omega) v fs.length (prV fs) (by rfl) (HS.out.row.alloc _) (.slice (some ⟨_, 0, none⟩) 1 1) (by rfl) 1 [.string A, .string D] (new_row2 _ _ _) (by simp [Value.oneCell']) (by omega) (by omega) (by have := HS.out.lt; simp; omega) ?_
                              intro v' w7 hown' hgrow
                              obtain ⟨g', cap', rfl⟩ := ownsRow_succ hown'
                              obtain ⟨hc7, hf7, HE⟩ := HS.out.done rfl rfl _ hown' hgrow
                              clear hown' hgrow
                              refine hK _ _ ?_
                              clear hK K
                              refine wpAnyIn_ready (rs := [8]) (by kernel_rfl) (by simp) ?_
                              refine AllReadyIn.cons rfl (fun K hK => ?_) ?_
                              · go_simp
                                refine hK _ _ ?_
                                clear hK K
                                refine wpAnyIn_done (by kernel_rfl) ?_ _
                                rw [zfs] at HE
                                exact fin8 _ _ _ (by rfl) HE
                              exact AllReadyIn.nil
                            exact AllReadyIn.nil
                          exact AllReadyIn.nil
                        exact AllReadyIn.nil
                      exact AllReadyIn.nil
                    exact AllReadyIn.nil
                  refine AllReadyIn.cons rfl (fun K hK => ?_) ?_
                  · go_simp
                    refine ⟨trivial, callsIn_wide.2 ((LH.out _).mono ?_)⟩
                    rintro e w5 ⟨rfl, hb5⟩
                    have HS := Lib.hid (HS.out.call hb5)
                    have hc := HS.out.box.cell
                    clear hb5
                    refine hK _ _ ?_
                    clear hK K
                    refine wpAnyIn_ready (rs := [0, 4]) (by kernel_rfl) (by simp) ?_
                    refine AllReadyIn.cons rfl (fun K hK => ?_) ?_
                    · go_simp
                      refine hK _ _ ?_
                      clear hK K
                      refine wpAnyIn_ready (rs := [4]) (by kernel_rfl) (by simp) ?_
                      refine AllReadyIn.cons rfl (fun K hK => ?_) ?_
                      · go_simp
                        refine ⟨trivial, callsIn_wide.2 ((TH.out _).mono ?_)⟩
                        rintro e w5 ⟨rfl, hb5⟩
                        have HS := Lib.hid (HS.out.call hb5)
                        have hc := HS.out.box.cell
                        clear hb5
                        refine hK _ _ ?_
                        clear hK K
                        refine wpAnyIn_ready (rs := [5]) (by kernel_rfl) (by simp) ?_
                        refine AllReadyIn.cons rfl (fun K hK => ?_) ?_
                        · go_simp
                          refine hK _ _ ?_
                          clear hK K
                          refine wpAnyIn_ready (rs := [6]) (by kernel_rfl) (by simp) ?_
                          refine AllReadyIn.cons rfl (fun K hK => ?_) ?_
                          · go_simp
                            refine hK _ _ ?_
                            clear hK K
                            have hc6 := (HS.out.box.alloc (.cells #[.string A, .string D] 52)).cell
                            refine wpAnyIn_ready (rs := [7]) (by kernel_rfl) (by simp) ?_
                            refine AllReadyIn.cons rfl (fun K hK => ?_) ?_
                            · rw [if_pos (by rfl)]
                              refine wpIn_app_row _ _ _ (by rfl) (w.heap.size + 1 + 1) 52 i0 _ 2 32 Tryd.underlying22 hi hz0 hz1 hz2 rfl (by omega) v fs.length (prV fs) (by rfl) (HS.out.row.alloc _) (.slice (some ⟨_, 0, none⟩) 1 1) (by rfl) 1 [.string A, .string D] (new_row2 _ _ _) (by simp [Value.oneCell']) (by omega) (by omega) (by have := HS.out.lt; simp; omega) ?_
                              intro v' w7 hown' hgrow
                              obtain ⟨g', cap', rfl⟩ := ownsRow_succ hown'
                              obtain ⟨hc7, hf7, HE⟩ := HS.out.done rfl rfl _ hown' hgrow
                              clear hown' hgrow
                              refine hK _ _ ?_
                              clear hK K
                              refine wpAnyIn_ready (rs := [8]) (by kernel_rfl) (by simp) ?_
                              refine AllReadyIn.cons rfl (fun K hK => ?_) ?_
                              · go_simp
                                refine hK _ _ ?_
                                clear hK K
                                refine wpAnyIn_done (by kernel_rfl) ?_ _
                                rw [zfs] at HE
                                exact fin8 _ _ _ (by rfl) HE
                              exact AllReadyIn.nil
                            exact AllReadyIn.nil
                          exact AllReadyIn.nil
                        exact AllReadyIn.nil
                      exact AllReadyIn.nil
                    refine AllReadyIn.cons rfl (fun K hK => ?_) ?_
                    · go_simp
                      refine ⟨trivial, callsIn_wide.2 ((TH.out _).mono ?_)⟩
                      rintro e w5 ⟨rfl, hb5⟩
                      have HS := Lib.hid (HS.out.call hb5)
                      have hc := HS.out.box.cell
                      clear hb5
                      refine hK _ _ ?_
                      clear hK K
                      refine wpAnyIn_ready (rs := [0, 5]) (by kernel_rfl) (by simp) ?_
                      refine AllReadyIn.cons rfl (fun K hK => ?_) ?_
                      · go_simp
                        refine hK _ _ ?_
                        clear hK K
                        refine wpAnyIn_ready (rs := [5]) (by kernel_rfl) (by simp) ?_
                        refine AllReadyIn.cons rfl (fun K hK => ?_) ?_
                        · go_simp
                          refine hK _ _ ?_
                          clear hK K
                          refine wpAnyIn_ready (rs := [6]) (by kernel_rfl) (by simp) ?_
                          refine AllReadyIn.cons rfl (fun K hK => ?_) ?_
                          · go_simp
                            refine hK _ _ ?_
                            clear hK K
                            have hc6 := (HS.out.box.alloc (.cells #[.string A, .string D] 52)).cell
                            refine wpAnyIn_ready (rs := [7]) (by kernel_rfl) (by simp) ?_
                            refine AllReadyIn.cons rfl (fun K hK => ?_) ?_
                            · rw [if_pos (by rfl)]
                              refine wpIn_app_row _ _ _ (by rfl) (w.heap.size + 1 + 1) 52 i0 _ 2 32 Tryd.underlying22 hi hz0 hz1 hz2 rfl (by omega) v fs.length (prV fs) (by rfl) (HS.out.row.alloc _) (.slice (some ⟨_, 0, none⟩) 1 1) (by rfl) 1 [.string A, .string D] (new_row2 _ _ _) (by simp [Value.oneCell']) (by omega) (by omega) (by have := HS.out.lt; simp; omega) ?_
                              intro v' w7 hown' hgrow
                              obtain ⟨g', cap', rfl⟩ := ownsRow_succ hown'
                              obtain ⟨hc7, hf7, HE⟩ := HS.out.done rfl rfl _ hown' hgrow
                              clear hown' hgrow
                              refine hK _ _ ?_
                              clear hK K
                              refine wpAnyIn_ready (rs := [8]) (by kernel_rfl) (by simp) ?_
                              refine AllReadyIn.cons rfl (fun K hK => ?_) ?_
                              · go_simp
                                refine hK _ _ ?_
                                clear hK K
                                refine wpAnyIn_done (by kernel_rfl) ?_ _
                                rw [zfs] at HE
                                exact fin8 _ _ _ (by rfl) HE
                              exact AllReadyIn.nil
                            exact AllReadyIn.nil
                          exact AllReadyIn.nil
                        exact AllReadyIn.nil
                      refine AllReadyIn.cons rfl (fun K hK => ?_) ?_
                      · go_simp
                        refine hK _ _ ?_
                        clear hK K
                        refine wpAnyIn_ready (rs := [0, 6]) (by kernel_rfl) (by simp) ?_
                        refine AllReadyIn.cons rfl (fun K hK => ?_) ?_
                        · go_simp
                          refine hK _ _ ?_
                          clear hK K
                          refine wpAnyIn_ready (rs := [6]) (by kernel_rfl) (by simp) ?_
                          refine AllReadyIn.cons rfl (fun K hK => ?_) ?_
                          · go_simp
                            refine hK _ _ ?_
                            clear hK K
                            have hc6 := (HS.out.box.alloc (.cells #[.string A, .string D] 52)).cell
                            refine wpAnyIn_ready (rs := [7]) (by kernel_rfl) (by simp) ?_
                            refine AllReadyIn.cons rfl (fun K hK => ?_) ?_
                            · rw [if_pos (by rfl)]
                              refine wpIn_app_row _ _ _ (by rfl) (w.heap.size + 1 + 1) 52 i0 _ 2 32 Tryd.underlying22 hi hz0 hz1 hz2 rfl (by omega) v fs.length (prV fs) (by rfl) (HS.out.row.alloc _) (.slice (some ⟨_, 0, none⟩) 1 1) (by rfl) 1 [.string A, .string D] (new_row2 _ _ _) (by simp [Value.oneCell']) (by omega) (by omega) (by have := HS.out.lt; simp; omega) ?_
                              intro v' w7 hown' hgrow
                              obtain ⟨g', cap', rfl⟩ := ownsRow_succ hown'
                              obtain ⟨hc7, hf7, HE⟩ := HS.out.done rfl rfl _ hown' hgrow
                              clear hown' hgrow
                              refine hK _ _ ?_
                              clear hK K
                              refine wpAnyIn_ready (rs := [8]) (by kernel_rfl) (by simp) ?_
                              refine AllReadyIn.cons rfl (fun K hK => ?_) ?_
                              · go_simp
                                refine hK _ _ ?_
                                clear hK K
                                refine wpAnyIn_done (by kernel_rfl) ?_ _
                                rw [zfs] at HE
                                exact fin8 _ _ _ (by rfl) HE
                              exact AllReadyIn.nil
                            exact AllReadyIn.nil
                          exact AllReadyIn.nil
                        refine AllReadyIn.cons rfl (fun K hK => ?_) ?_
                        · go_simp
                          refine hK _ _ ?_
                          clear hK K
                          have hc6 := (HS.out.box.alloc (.cells #[.string A, .string D] 52)).cell
                          refine wpAnyIn_ready (rs := [0]) (by kernel_rfl) (by simp) ?_
                          refine AllReadyIn.cons rfl (fun K hK => ?_) ?_
                          · go_simp
                            refine hK _ _ ?_
                            clear hK K
                            refine wpAnyIn_ready (rs := [7]) (by kernel_rfl) (by simp) ?_
                            refine AllReadyIn.cons rfl (fun K hK => ?_) ?_
                            · rw [if_pos (by rfl)]
                              refine wpIn_app_row _ _ _ (by rfl) (w.heap.size + 1 + 1) 52 i0 _ 2 32 Tryd.underlying22 hi hz0 hz1 hz2 rfl (by omega) v fs.length (prV fs) (by rfl) (HS.out.row.alloc _) (.slice (some ⟨_, 0, none⟩) 1 1) (by rfl) 1 [.string A, .string D] (new_row2 _ _ _) (by simp [Value.oneCell']) (by omega) (by omega) (by have := HS.out.lt; simp; omega) ?_
                              intro v' w7 hown' hgrow
                              obtain ⟨g', cap', rfl⟩ := ownsRow_succ hown'
                              obtain ⟨hc7, hf7, HE⟩ := HS.out.done rfl rfl _ hown' hgrow
                              clear hown' hgrow
                              refine hK _ _ ?_
                              clear hK K
                              refine wpAnyIn_ready (rs := [8]) (by kernel_rfl) (by simp) ?_
                              refine AllReadyIn.cons rfl (fun K hK => ?_) ?_
                              · go_simp
                                refine hK _ _ ?_
                                clear hK K
                                refine wpAnyIn_done (by kernel_rfl) ?_ _
                                rw [zfs] at HE
                                exact fin8 _ _ _ (by rfl) HE
                              exact AllReadyIn.nil
                            exact AllReadyIn.nil
                          exact AllReadyIn.nil
                        exact AllReadyIn.nil
                      exact AllReadyIn.nil
                    exact AllReadyIn.nil
                  exact AllReadyIn.nil
                exact AllReadyIn.nil
              refine AllReadyIn.cons rfl (fun K hK => ?_) ?_
              · go_simp
                refine hK _ _ ?_
                clear hK K
                refine wpAnyIn_ready (rs := [0, 1]) (by kernel_rfl) (by simp) ?_
                refine AllReadyIn.cons rfl (fun K hK => ?_) ?_
                · go_simp
                  refine hK _ _ ?_
                  clear hK K
                  refine wpAnyIn_ready (rs := [1]) (by kernel_rfl) (by simp) ?_
                  refine AllReadyIn.cons rfl (fun K hK => ?_) ?_
                  · go_simp
                    refine hK _ _ ?_
                    clear hK K
                    refine wpAnyIn_ready (rs := [2]) (by kernel_rfl) (by simp) ?_
                    refine AllReadyIn.cons rfl (fun K hK => ?_) ?_
                    · go_simp
                      refine ⟨trivial, callsIn_wide.2 ((LH.out _).mono ?_)⟩
                      rintro e w5 ⟨rfl, hb5⟩
                      have HS := Lib.hid (HS.out.call hb5)
                      have hc := HS.out.box.cell
                      clear hb5
                      refine hK _ _ ?_
                      clear hK K
                      refine wpAnyIn_ready (rs := [4]) (by kernel_rfl) (by simp) ?_
                      refine AllReadyIn.cons rfl (fun K hK => ?_) ?_
                      · go_simp
                        refine ⟨trivial, callsIn_wide.2 ((TH.out _).mono ?_)⟩
                        rintro e w5 ⟨rfl, hb5⟩
                        have HS := Lib.hid (HS.out.call hb5)
                        have hc := HS.out.box.cell
                        clear hb5
                        refine hK _ _ ?_
                        clear hK K
                        refine wpAnyIn_ready (rs := [5]) (by kernel_rfl) (by simp) ?_
                        refine AllReadyIn.cons rfl (fun K hK => ?_) ?_
                        · go_simp
                          refine hK _ _ ?_
                          clear hK K
                          refine wpAnyIn_ready (rs := [6]) (by kernel_rfl) (by simp) ?_
                          refine AllReadyIn.cons rfl (fun K hK => ?_) ?_
                          · go_simp
                            refine hK _ _ ?_
                            clear hK K
                            have hc6 := (HS.out.box.alloc (.cells #[.string A, .string D] 52)).cell
                            refine wpAnyIn_ready (rs := [7]) (by kernel_rfl) (by simp) ?_
                            refine AllReadyIn.cons rfl (fun K hK => ?_) ?_
                            · rw [if_pos (by rfl)]
                              refine wpIn_app_row _ _ _ (by rfl) (w.heap.size + 1 + 1) 52 i0 _ 2 32 Tryd.underlying22 hi hz0 hz1 hz2 rfl (by omega) v fs.length (prV fs) (by rfl) (HS.out.row.alloc _) (.slice (some ⟨_, 0, none⟩) 1 1) (by rfl) 1 [.string A, .string D] (new_row2 _ _ _) (by simp [Value.oneCell']) (by omega) (by omega) (by have := HS.out.lt; simp; omega) ?_
                              intro v' w7 hown' hgrow
                              obtain ⟨g', cap', rfl⟩ := ownsRow_succ hown'
                              obtain ⟨hc7, hf7, HE⟩ := HS.out.done rfl rfl _ hown' hgrow
                              clear hown' hgrow
                              refine hK _ _ ?_
                              clear hK K
                              refine wpAnyIn_ready (rs := [8]) (by kernel_rfl) (by simp) ?_
                              refine AllReadyIn.cons rfl (fun K hK => ?_) ?_
                              · go_simp
                                refine hK _ _ ?_
                                clear hK K
                                refine wpAnyIn_done (by kernel_rfl) ?_ _
                                rw [zfs] at HE
                                exact fin8 _ _ _ (by rfl) HE
                              exact AllReadyIn.nil
                            exact AllReadyIn.nil
                          exact AllReadyIn.nil
                        exact AllReadyIn.nil
                      exact AllReadyIn.nil
                    exact AllReadyIn.nil
                  exact AllReadyIn.nil
                refine AllReadyIn.cons rfl (fun K hK => ?_) ?_
                · go_simp
                  refine hK _ _ ?_
                  clear hK K
                  refine wpAnyIn_ready (rs := [0, 2]) (by kernel_rfl) (by simp) ?_
                  refine AllReadyIn.cons rfl (fun K hK => ?_) ?_
                  · go_simp
                    refine hK _ _ ?_
                    clear hK K
                    refine wpAnyIn_ready (rs := [2]) (by kernel_rfl) (by simp) ?_
                    refine AllReadyIn.cons rfl (fun K hK => ?_) ?_
                    · go_simp
                      refine ⟨trivial, callsIn_wide.2 ((LH.out _).mono ?_)⟩
                      rintro e w5 ⟨rfl, hb5⟩
                      have HS := Lib.hid (HS.out.call hb5)
                      have hc := HS.out.box.cell
                      clear hb5
                      refine hK _ _ ?_
                      clear hK K
                      refine wpAnyIn_ready (rs := [4]) (by kernel_rfl) (by simp) ?_
                      refine AllReadyIn.cons rfl (fun K hK => ?_) ?_
                      · go_simp
                        refine ⟨trivial, callsIn_wide.2 ((TH.out _).mono ?_)⟩
                        rintro e w5 ⟨rfl, hb5⟩
                        have HS := Lib.hid (HS.out.call hb5)
                        have hc := HS.out.box.cell
                        clear hb5
                        refine hK _ _ ?_
                        clear hK K
                        refine wpAnyIn_ready (rs := [5]) (by kernel_rfl) (by simp) ?_
                        refine AllReadyIn.cons rfl (fun K hK => ?_) ?_
                        · go_simp
                          refine hK _ _ ?_
                          clear hK K
                          refine wpAnyIn_ready (rs := [6]) (by kernel_rfl) (by simp) ?_
                          refine AllReadyIn.cons rfl (fun K hK => ?_) ?_
                          · go_simp
                            refine hK _ _ ?_
                            clear hK K
                            have hc6 := (HS.out.box.alloc (.cells #[.string A, .string D] 52)).cell
                            refine wpAnyIn_ready (rs := [7]) (by kernel_rfl) (by simp) ?_
                            refine AllReadyIn.cons rfl (fun K hK => ?_) ?_
                            · rw [if_pos (by rfl)]
                              refine wpIn_app_row _ _ _ (by rfl) (w.heap.size + 1 + 1) 52 i0 _ 2 32 Tryd.underlying22 hi hz0 hz1 hz2 rfl (by omega) v fs.length (prV fs) (by rfl) (HS.out.row.alloc _) (.slice (some ⟨_, 0, none⟩) 1 1) (by rfl) 1 [.string A, .string D] (new_row2 _ _ _) (by simp [Value.oneCell']) (by omega) (by omega) (by have := HS.out.lt; simp; omega) ?_
                              intro v' w7 hown' hgrow
                              obtain ⟨g', cap', rfl⟩ := ownsRow_succ hown'
                              obtain ⟨hc7, hf7, HE⟩ := HS.out.done rfl rfl _ hown' hgrow
                              clear hown' hgrow
                              refine hK _ _ ?_
                              clear hK K
                              refine wpAnyIn_ready (rs := [8]) (by kernel_rfl) (by simp) ?_
                              refine AllReadyIn.cons rfl (fun K hK => ?_) ?_
                              · go_simp
                                refine hK _ _ ?_
                                clear hK K
                                refine wpAnyIn_done (by kernel_rfl) ?_ _
                                rw [zfs] at HE
                                exact fin8 _ _ _ (by rfl) HE
                              exact AllReadyIn.nil
                            exact AllReadyIn.nil
                          exact AllReadyIn.nil
                        exact AllReadyIn.nil
                      exact AllReadyIn.nil
                    exact AllReadyIn.nil
                  refine AllReadyIn.cons rfl (fun K hK => ?_) ?_
                  · go_simp
                    refine ⟨trivial, callsIn_wide.2 ((LH.out _).mono ?_)⟩
                    rintro e w5 ⟨rfl, hb5⟩
                    have HS := Lib.hid (HS.out.call hb5)
                    have hc := HS.out.box.cell
                    clear hb5
                    refine hK _ _ ?_
                    clear hK K
                    refine wpAnyIn_ready (rs := [0, 4]) (by kernel_rfl) (by simp) ?_
                    refine AllReadyIn.cons rfl (fun K hK => ?_) ?_
                    · go_simp
                      refine hK _ _ ?_
                      clear hK K
                      refine wpAnyIn_ready (rs := [4]) (by kernel_rfl) (by simp) ?_
                      refine AllReadyIn.cons rfl (fun K hK => ?_) ?_
                      · go_simp
                        refine ⟨trivial, callsIn_wide.2 ((TH.out _).mono ?_)⟩
                        rintro e w5 ⟨rfl, hb5⟩
                        have HS := Lib.hid (HS.out.call hb5)
                        have hc := HS.out.box.cell
                        clear hb5
                        refine hK _ _ ?_
                        clear hK K
                        refine wpAnyIn_ready (rs := [5]) (by kernel_rfl) (by simp) ?_
                        refine AllReadyIn.cons rfl (fun K hK => ?_) ?_
                        · go_simp
                          refine hK _ _ ?_
                          clear hK K
                          refine wpAnyIn_ready (rs := [6]) (by kernel_rfl) (by simp) ?_
                          refine AllReadyIn.cons rfl (fun K hK => ?_) ?_
                          · go_simp
                            refine hK _ _ ?_
                            clear hK K
                            have hc6 := (HS.out.box.alloc (.cells #[.string A, .string D] 52)).cell
                            refine wpAnyIn_ready (rs := [7]) (by kernel_rfl) (by simp) ?_
                            refine AllReadyIn.cons rfl (fun K hK => ?_) ?_
                            · rw [if_pos (by rfl)]
                              refine wpIn_app_row _ _ _ (by rfl) (w.heap.size + 1 + 1) 52 i0 _ 2 32 Tryd.underlying22 hi hz0 hz1 hz2 rfl (by omega) v fs.length (prV fs) (by rfl) (HS.out.row.alloc _) (.slice (some ⟨_, 0, none⟩) 1 1) (by rfl) 1 [.string A, .string D] (new_row2 _ _ _) (by simp [Value.oneCell']) (by omega) (by omega) (by have := HS.out.lt; simp; omega) ?_
                              intro v' w7 hown' hgrow
                              obtain ⟨g', cap', rfl⟩ := ownsRow_succ hown'
                              obtain ⟨hc7, hf7, HE⟩ := HS.out.done rfl rfl _ hown' hgrow
                              clear hown' hgrow
                              refine hK _ _ ?_
                              clear hK K
                              refine wpAnyIn_ready (rs := [8]) (by kernel_rfl) (by simp) ?_
                              refine AllReadyIn.cons rfl (fun K hK => ?_) ?_
                              · go_simp
                                refine hK _ _ ?_
                                clear hK K
                                refine wpAnyIn_done (by kernel_rfl) ?_ _
                                rw [zfs] at HE
                                exact fin8 _ _ _ (by rfl) HE
                              exact AllReadyIn.nil
                            exact AllReadyIn.nil
                          exact AllReadyIn.nil
                        exact AllReadyIn.nil
                      exact AllReadyIn.nil
                    refine AllReadyIn.cons rfl (fun K hK => ?_) ?_
                    · go_simp
                      refine ⟨trivial, callsIn_wide.2 ((TH.out _).mono ?_)⟩
                      rintro e w5 ⟨rfl, hb5⟩
                      have HS := Lib.hid (HS.out.call hb5)
                      have hc := HS.out.box.cell
                      clear hb5
                      refine hK _ _ ?_
                      clear hK K
                      refine wpAnyIn_ready (rs := [0, 5]) (by kernel_rfl) (by simp) ?_
                      refine AllReadyIn.cons rfl (fun K hK => ?_) ?_
                      · go_simp
                        refine hK _ _ ?_
                        clear hK K
                        refine wpAnyIn_ready (rs := [5]) (by kernel_rfl) (by simp) ?_
                        refine AllReadyIn.cons rfl (fun K hK => ?_) ?_
                        · go_simp
                          refine hK _ _ ?_
                          clear hK K
                          refine wpAnyIn_ready (rs := [6]) (by kernel_rfl) (by simp) ?_
                          refine AllReadyIn.cons rfl (fun K hK => ?_) ?_
                          · go_simp
                            refine hK _ _ ?_
                            clear hK K
                            have hc6 := (HS.out.box.alloc (.cells #[.string A, .string D] 52)).cell
                            refine wpAnyIn_ready (rs := [7]) (by kernel_rfl) (by simp) ?_
                            refine AllReadyIn.cons rfl (fun K hK => ?_) ?_
                            · rw [if_pos (by rfl)]
                              refine wpIn_app_row _ _ _ (by rfl) (w.heap.size + 1 + 1) 52 i0 _ 2 32 Tryd.underlying22 hi hz0 hz1 hz2 rfl (by omega) v fs.length (prV fs) (by rfl) (HS.out.row.alloc _) (.slice (some ⟨_, 0, none⟩) 1 1) (by rfl) 1 [.string A, .string D] (new_row2 _ _ _) (by simp [Value.oneCell']) (by omega) (by omega) (by have := HS.out.lt; simp; omega) ?_
                              intro v' w7 hown' hgrow
                              obtain ⟨g', cap', rfl⟩ := ownsRow_succ hown'
                              obtain ⟨hc7, hf7, HE⟩ := HS.out.done rfl rfl _ hown' hgrow
                              clear hown' hgrow
                              refine hK _ _ ?_
                              clear hK K
                              refine wpAnyIn_ready (rs := [8]) (by kernel_rfl) (by simp) ?_
                              refine AllReadyIn.cons rfl (fun K hK => ?_) ?_
                              · go_simp
                                refine hK _ _ ?_
                                clear hK K
                                refine wpAnyIn_done (by kernel_rfl) ?_ _
                                rw [zfs] at HE
                                exact fin8 _ _ _ (by rfl) HE
                              exact AllReadyIn.nil
                            exact AllReadyIn.nil
                          exact AllReadyIn.nil
                        exact AllReadyIn.nil
                      refine AllReadyIn.cons rfl (fun K hK => ?_) ?_
                      · go_simp
                        refine hK _ _ ?_
                        clear hK K
                        refine wpAnyIn_ready (rs := [0, 6]) (by kernel_rfl) (by simp) ?_
                        refine AllReadyIn.cons rfl (fun K hK => ?_) ?_
                        · go_simp
                          refine hK _ _ ?_
                          clear hK K
                          refine wpAnyIn_ready (rs := [6]) (by kernel_rfl) (by simp) ?_
                          refine AllReadyIn.cons rfl (fun K hK => ?_) ?_
                          · go_simp
                            refine hK _ _ ?_
                            clear hK K
                            have hc6 := (HS.out.box.alloc (.cells #[.string A, .string D] 52)).cell
                            refine wpAnyIn_ready (rs := [7]) (by kernel_rfl) (by simp) ?_
                            refine AllReadyIn.cons rfl (fun K hK => ?_) ?_
                            · rw [if_pos (by rfl)]
                              refine wpIn_app_row _ _ _ (by rfl) (w.heap.size + 1 + 1) 52 i0 _ 2 32 Tryd.underlying22 hi hz0 hz1 hz2 rfl (by omega) v fs.length (prV fs) (by rfl) (HS.out.row.alloc _) (.slice (some ⟨_, 0, none⟩) 1 1) (by rfl) 1 [.string A, .string D] (new_row2 _ _ _) (by simp [Value.oneCell']) (by omega) (by omega) (by have := HS.out.lt; simp; omega) ?_
                              intro v' w7 hown' hgrow
                              obtain ⟨g', cap', rfl⟩ := ownsRow_succ hown'
                              obtain ⟨hc7, hf7, HE⟩ := HS.out.done rfl rfl _ hown' hgrow
                              clear hown' hgrow
                              refine hK _ _ ?_
                              clear hK K
                              refine wpAnyIn_ready (rs := [8]) (by kernel_rfl) (by simp) ?_
                              refine AllReadyIn.cons rfl (fun K hK => ?_) ?_
                              · go_simp
                                refine hK _ _ ?_
                                clear hK K
                                refine wpAnyIn_done (by kernel_rfl) ?_ _
                                rw [zfs] at HE
                                exact fin8 _ _ _ (by rfl) HE
                              exact AllReadyIn.nil
                            exact AllReadyIn.nil
                          exact AllReadyIn.nil
                        refine AllReadyIn.cons rfl (fun K hK => ?_) ?_
                        · go_simp
                          refine hK _ _ ?_
                          clear hK K
                          have hc6 := (HS.out.box.alloc (.cells #[.string A, .string D] 52)).cell
                          refine wpAnyIn_ready (rs := [0]) (by kernel_rfl) (by simp) ?_
                          refine AllReadyIn.cons rfl (fun K hK => ?_) ?_
                          · go_simp
                            refine hK _ _ ?_
                            clear hK K
                            refine wpAnyIn_ready (rs := [7]) (by kernel_rfl) (by simp) ?_
                            refine AllReadyIn.cons rfl (fun K hK => ?_) ?_
                            · rw [if_pos (by rfl)]
                              refine wpIn_app_row _ _ _ (by rfl) (w.heap.size + 1 + 1) 52 i0 _ 2 32 Tryd.underlying22 hi hz0 hz1 hz2 rfl (by omega) v fs.length (prV fs) (by rfl) (HS.out.row.alloc _) (.slice (some ⟨_, 0, none⟩) 1 1) (by rfl) 1 [.string A, .string D] (new_row2 _ _ _) (by simp [Value.oneCell']) (by omega) (by omega) (by have := HS.out.lt; simp; omega) ?_
                              intro v' w7 hown' hgrow
                              obtain ⟨g', cap', rfl⟩ := ownsRow_succ hown'
                              obtain ⟨hc7, hf7, HE⟩ := HS.out.done rfl rfl _ hown' hgrow
                              clear hown' hgrow
                              refine hK _ _ ?_
                              clear hK K
                              refine wpAnyIn_ready (rs := [8]) (by kernel_rfl) (by simp) ?_
                              refine AllReadyIn.cons rfl (fun K hK => ?_) ?_
                              · go_simp
                                refine hK _ _ ?_
                                clear hK K
                                refine wpAnyIn_done (by kernel_rfl) ?_ _
                                rw [zfs] at HE
                                exact fin8 _ _ _ (by rfl) HE
                              exact AllReadyIn.nil
                            exact AllReadyIn.nil
                          exact AllReadyIn.nil
                        exact AllReadyIn.nil
                      exact AllReadyIn.nil
                    exact AllReadyIn.nil
                  exact AllReadyIn.nil
                exact AllReadyIn.nil
              exact AllReadyIn.nil
    case done =>
      rintro D xs W hD rfl ⟨⟨v, fs, hf, hv, hrow⟩, hB, hL⟩ hK
      have hD' : w.heap.size ≤ D := by simp at hD; omega
      have hc := hv.cell
      have hfz := hv.frozen
      clear bR bS
      have hip : IsPairs v fs W := own_row hrow
      obtain ⟨sa, cap, rfl⟩ := hip.form
      have hHN := HNB.out
      rw [size_toList] at hHN
      have zfs := flds_len hf
      obtain ⟨m, hm⟩ : ∃ m, fs.length = m := ⟨_, rfl⟩
      have HIP := Lib.hid hip
      have HA : Hid (hdA s.data.toList = some fs) := Lib.hid hf
      have HV := Lib.hid hv
      have HK := Lib.hid hK
      have HM := Lib.hid hm
      have HR := Lib.hid hrow
      rw [hm] at hc zfs
      have hml : m ≤ s.size := by rw [zfs]; exact hHN
      clear hv hK hrow hip hf zfs
      by_cases h32 : 32 < m
      · have hE := hdE_many HA.out (by rw [HM.out]; exact h32)
        have HE := Lib.hid hE
        have g1 : (32 : Int) < m := by omega
        clear hE
        rw [hm] at HV
        clear hm
        gi_wp2_with fail
        refine wpIn_goto ?_
        refine ⟨rfl, HE.out.2, ⟨_, HV.out⟩, hB, D, hD', HK.out, ?_⟩
        rw [HE.out.1]
        exact ⟨_, _, _, _, _, _, _, _, _, _, _, _, _, _, _, _, _, _, _, _, _, _, _, _, _, _, _, _, _, _, _, _, _, _, _, _, _, _, _, _, _, _, _, _, _, _, _, _, _, rfl⟩
      · have hE := hdE_of (by rw [size_toList]; exact hs) HA.out (by rw [HM.out]; omega)
        have HE := Lib.hid hE
        have g1 : ¬ (32 : Int) < m := by omega
        clear hE
        rw [hm] at HV HR
        clear hm
        gi_wp2_with fail
        obtain ⟨k1, k2, k3⟩ := hd_end rfl hB HV.out HK.out hD' (.slice sa m cap)
        refine ⟨by simp, .inl ⟨_, _, rfl, run_takeDeferred k1, ?_⟩⟩
        refine ⟨_, hd_ret rfl rfl rfl k2, .slice sa m cap, by rw [HE.out.1]; rfl, ?_, k3⟩
        rw [HE.out.2]
        show IsRow 2 _ fs.length _ _
        rw [HM.out]
        exact own_row (ownsRow_putObj (HR.out.kept (grownBy_setCell' W w.heap.size _) (.inr (HV.out.not_row (by decide) HR.out).symm)) _ k1 rfl)
    case stop =>
      rintro D c pre W hD hpre ⟨rfl, hf, ⟨v, hv⟩, hB⟩ hK
      have hD' : w.heap.size ≤ D := by simp at hD; omega
      clear bR bS
      refine wpIn_goto ?_
      obtain ⟨hE, hV⟩ := hdE_none (by rw [size_toList]; exact hs) (flds_stop hpre hf)
      refine ⟨rfl, hV, ⟨v, hv⟩, hB, D, hD', hK, ?_⟩
      rw [hE]
      exact ⟨_, _, _, _, _, _, _, _, _, _, _, _, _, _, _, _, _, _, _, _, _, _, _, _, _, _, _, _, _, _, _, _, _, _, _, _, _, _, _, _, _, _, _, _, _, _, _, _, _, rfl⟩
  · rintro a W ⟨hV, ⟨v, hv⟩, hB, D, hD, hK, y0, y1, y4, y5, y6, y7, y8, y9, y10, y11, y12, y13, y14, y15, y16, y17, y18, y19, y20, y21, y22, y23, y24, y25, y26, y27, y28, y29, y30, y31, y32, y33, y34, y35, y36, y37, y38, y39, y40, y41, y42, y43, y44, y45, y46, y47, y48, y49, y50, rfl⟩
    have hc := hv.cell
    have hfz := hv.frozen
    clear LD HNB HM HLM
    obtain ⟨E, hE⟩ : ∃ E, hdE s.data.toList = E := ⟨_, rfl⟩
    have HE := Lib.hid hE
    rw [hE]
    clear hE
    go_wp2_with fail
    obtain ⟨k1, k2, k3⟩ := hd_end rfl hB hv hK hD (.slice none 0 0)
    refine ⟨by simp, .inl ⟨_, _, rfl, run_takeDeferred k1, ?_⟩⟩
    exact ⟨_, hd_ret rfl rfl rfl k2, .slice none 0 0, by rw [HE.out]; rfl, by rw [hV]; exact IsPairs.nil _, k3⟩
end Go.Proofs.YtnfgpcccmbblcaaDoor
