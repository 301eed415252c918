/- The document's answers for first lines (tidewaiterref15): the walks. -/
import Derived.Test.YtnfgpcccmbblcaaDoorLnE
import Derived.Test.YtnfgpcccmbblcaaDoorNumB
import Derived.Test.YtnfgpcccmbblcaaDoorAsE
import Derived.Deep.RegionHeld3
namespace Go.Proofs.YtnfgpcccmbblcaaDoor
open Go.RowKit

set_option maxHeartbeats 4000000 in
theorem r15_target (s : ByteArray) (w : World) (hs : s.size ≤ 1000000) : Calls Tryd.prog 99 #[.string s] w fun e w' => e = .returned (.bool (tgt s.data.toList)) ∧ w' = w := by
  go_enter Tryd.func99, Tryd.ntmps99
  go_wp2_with fail
  go_loop [3] (fun i => ∃ k : Nat, k ≤ s.size ∧ i = .int .i64 k ∧ (s.data.toList.take k).all tgC = true) (fun i => s.size - (intOf i).toNat)
  case atStart => exact ⟨0, Nat.zero_le _, rfl, rfl⟩
  case round =>
    obtain ⟨k, hk, rfl, hall⟩ := hrel
    by_cases hlt : k < s.size
    · have hsn : (s.data.toList.take (k + 1)).all tgC = tgC s[k] := by
        rw [take_snoc s k hlt, List.all_append, hall]
        simp
      have hlast : tgC s[k] = false → s.data.toList.all tgC = false := fun h => by
        rw [← List.take_append_drop (k + 1) s.data.toList, List.all_append, hsn, h]
        rfl
      have hc := s[k].toNat_lt
      by_cases ha : s[k].toNat < 33
      · have g1 : (s[k].toNat : Int) < 33 := by omega
        have hd : tgC s[k] = false := by unfold tgC; rw [decide_eq_false (by omega)]; rfl
        have HL := Lib.hid (hlast hd)
        clear hd hsn hlast hall
        go_wp2_with fail
        go_ret
        exact ⟨ret_b (by unfold tgt; rw [HL.out]; simp), rfl⟩
      · have g1 : ¬ (s[k].toNat : Int) < 33 := by omega
        by_cases hb : 126 < s[k].toNat
        · have g2 : (126 : Int) < s[k].toNat := by omega
          have hd : tgC s[k] = false := by unfold tgC; rw [decide_eq_false (by omega : ¬ s[k].toNat ≤ 126)]; simp
          have HL := Lib.hid (hlast hd)
          clear hd hsn hlast hall
          go_wp2_with fail
          go_ret
          exact ⟨ret_b (by unfold tgt; rw [HL.out]; simp), rfl⟩
        · have g2 : ¬ (126 : Int) < s[k].toNat := by omega
          have hd : tgC s[k] = true := by unfold tgC; rw [decide_eq_true (by omega), decide_eq_true (by omega)]; rfl
          rw [hd] at hsn
          have HS := Lib.hid hsn
          clear hd hsn hlast hall
          go_wp2_with fail
          go_round
          case rel => exact ⟨k + 1, by omega, by go_num, HS.out⟩
          case measure => simp [intOf]; omega
    · have hfull : s.data.toList.all tgC = true := by
        rw [List.take_of_length_le (by rw [size_toList]; omega)] at hall
        exact hall
      have HF := Lib.hid hfull
      clear hfull hall
      by_cases h0 : s.size = 0
      · obtain rfl : s = ⟨#[]⟩ := str_ext (List.eq_nil_of_length_eq_zero (by rw [size_toList]; exact h0))
        clear h0
        go_wp2_with fail
        go_ret
        exact ⟨ret_b (by first | rfl | simp [tgt]), rfl⟩
      · have e1 := isEmpty_of_pos (s := s) (by omega)
        have e2 := ne_nil_of_pos (s := s) (by omega)
        have e3 : s.data.toList.isEmpty = false := by rw [← Lib.toList_data]; exact e1
        have HE := Lib.hid e3
        clear e3
        go_wp2_with fail
        go_ret
        exact ⟨ret_b (by unfold tgt; rw [HF.out, HE.out]; first | rfl | simp), rfl⟩
set_option maxHeartbeats 4000000 in
set_option maxRecDepth 100000 in
theorem r15_May (m t : ByteArray) (g s : Int) (w : World) (hm : m.size ≤ 1000000) (ht : t.size ≤ 1000000) :
    Calls Tryd.prog 64 #[lnV m t g s] w (Ret w (.bool (lnMay m.data.toList t.data.toList g s))) := by
  have T0 := fun w => r7_Token m w hm
  have G0 := fun w => r15_target t w ht
  have hres : lnMay m.data.toList t.data.toList g s = (tok m.data.toList && (tgt t.data.toList && ((decide (0 ≤ g) && decide (g ≤ 9)) && (decide (0 ≤ s) && decide (s ≤ 9))))) := rfl
  obtain ⟨K, hK⟩ : ∃ K, tok m.data.toList = K := ⟨_, rfl⟩
  obtain ⟨p, hp⟩ : ∃ p, tgt t.data.toList = p := ⟨_, rfl⟩
  rw [hK] at T0 hres
  rw [hp] at G0 hres
  have T := Lib.hid T0
  have G := Lib.hid G0
  have HR := Lib.hid hres
  clear T0 G0 hK hp hres
  have b0 : Below w.heap.size w (w.alloc (.cells #[.string m, .string t, .int .i64 g, .int .i64 s] 36)) := (Below.refl _ w).alloc (Nat.le_refl _) _
  cases K with
  | false =>
    go_enter Tryd.func64, Tryd.ntmps64
    go_wp2_with fail
    refine (T.out _).mono ?_
    rintro e w1 ⟨rfl, rfl⟩
    go_wp2_with fail
    go_ret
    exact ⟨ret_b (by rw [HR.out]; rfl), b0⟩
  | true =>
    cases p with
    | false =>
      go_enter Tryd.func64, Tryd.ntmps64
      go_wp2_with fail
      refine (T.out _).mono ?_
      rintro e w1 ⟨rfl, rfl⟩
      go_wp2_with fail
      refine (G.out _).mono ?_
      rintro e w1 ⟨rfl, rfl⟩
      go_wp2_with fail
      go_ret
      exact ⟨ret_b (by rw [HR.out]; rfl), b0⟩
    | true =>
      go_enter Tryd.func64, Tryd.ntmps64
      go_wp2_with fail
      refine (T.out _).mono ?_
      rintro e w1 ⟨rfl, rfl⟩
      go_wp2_with fail
      refine (G.out _).mono ?_
      rintro e w1 ⟨rfl, rfl⟩
      go_wp2_with fail
      all_goals
        go_ret
        refine ⟨ret_b ?_, b0⟩
        rw [HR.out, Bool.eq_iff_iff]
        simp
        omega
theorem digits1 (g : Int) (w : World) (h0 : 0 ≤ g) (h9 : g ≤ 9) : Calls Tryd.prog 100 #[.int .i64 g] w (Ret w (.string ⟨#[dC g]⟩)) := by
  obtain ⟨n, rfl⟩ : ∃ n : Nat, g = (n : Int) := ⟨g.toNat, by omega⟩
  have := ref06_Digits n (by omega) w
  have e := dec1 h0 h9
  rw [Int.toNat_natCast] at e
  rwa [e] at this
theorem keep4 {L : Nat} {a b c d : Value} {w w' : World} (h : w.cell? ⟨L, 0, none⟩ = some a ∧ w.cell? ⟨L, 1, none⟩ = some b ∧ w.cell? ⟨L, 2, none⟩ = some c ∧ w.cell? ⟨L, 3, none⟩ = some d) (hb : Below w.heap.size w w') (hl : L < w.heap.size) :
    w'.cell? ⟨L, 0, none⟩ = some a ∧ w'.cell? ⟨L, 1, none⟩ = some b ∧ w'.cell? ⟨L, 2, none⟩ = some c ∧ w'.cell? ⟨L, 3, none⟩ = some d :=
  ⟨((bcell hb).1 _ _ hl).trans h.1, ((bcell hb).1 _ _ hl).trans h.2.1, ((bcell hb).1 _ _ hl).trans h.2.2.1, ((bcell hb).1 _ _ hl).trans h.2.2.2⟩
set_option maxHeartbeats 8000000 in
set_option maxRecDepth 100000 in
theorem r15_Text (m t : ByteArray) (g s : Int) (w : World) (hm : m.size ≤ 1000000) (ht : t.size ≤ 1000000) (i1 : 0 ≤ g) (i2 : g ≤ 9) (i3 : 0 ≤ s) (i4 : s ≤ 9) :
    Calls Tryd.prog 65 #[lnV m t g s] w (Ret w (.string ⟨(lnTxt m.data.toList t.data.toList g s).toArray⟩)) := by
  have htx : (⟨(lnTxt m.data.toList t.data.toList g s).toArray⟩ : ByteArray) = ((((((m ++ ⟨#[32]⟩) ++ t) ++ ⟨#[32, 72, 84, 84, 80, 47]⟩) ++ ⟨#[dC g]⟩) ++ ⟨#[46]⟩) ++ ⟨#[dC s]⟩) := by
    apply str_ext
    simp [lnTxt, http]
  rw [htx]
  clear htx
  have n1 : ¬ 9223372036854775807 < m.size + 1 := by omega
  have n2 : ¬ 9223372036854775807 < m.size + 1 + t.size := by omega
  have n3 : ¬ 9223372036854775807 < m.size + 1 + t.size + 6 := by omega
  have n4 : ¬ 9223372036854775807 < m.size + 1 + t.size + 6 + 1 := by omega
  have n5 : ¬ 9223372036854775807 < m.size + 1 + t.size + 6 + 1 + 1 := by omega
  have n6 : ¬ 9223372036854775807 < m.size + 1 + t.size + 6 + 1 + 1 + 1 := by omega
  have q5 : Below w.heap.size w (w.alloc (.cells #[.string m, .string t, .int .i64 g, .int .i64 s] 36)) := (Below.refl _ w).alloc (Nat.le_refl _) _
  go_enter Tryd.func65, Tryd.ntmps65
  go_wp2_with fail
  go_region_held3 (fun w' => w'.cell? ⟨w.heap.size, 0, none⟩ = some (.string m) ∧ w'.cell? ⟨w.heap.size, 1, none⟩ = some (.string t) ∧ w'.cell? ⟨w.heap.size, 2, none⟩ = some (.int .i64 g) ∧ w'.cell? ⟨w.heap.size, 3, none⟩ = some (.int .i64 s)) (first | exact S7 | (simp (maxDischargeDepth := 9) [go_sem, *]))
    (first
      | (go_at_call 100; refine (digits1 _ _ (by first | exact i1 | exact i3) (by first | exact i2 | exact i4)).mono ?_; rintro e w5 ⟨rfl, hb5⟩; have S7 := keep4 (L := w.heap.size) (by assumption) hb5 (by first | (simp; done) | omega); have z5 : w.heap.size < w5.heap.size := (by have := hb5.size; (try simp at this); omega); have q5 := (show Below w.heap.size w w5 from by first | exact q5.drew.trans (hb5.mono (by simp)) | exact q5.trans (hb5.mono q5.size))))
  all_goals
    go_wp2_with fail
    go_ret
    exact ⟨rfl, q5⟩
set_option maxHeartbeats 4000000 in
set_option maxRecDepth 100000 in
theorem r15_Write (m t : ByteArray) (g s : Int) (w : World) (hm : m.size ≤ 1000000) (ht : t.size ≤ 1000000) :
    Calls Tryd.prog 24 #[lnV m t g s] w (Ret w (lnWr m.data.toList t.data.toList g s)) := by
  have MY0 := fun w => r15_May m t g s w hm ht
  have hp := @lnMay_parts m.data.toList t.data.toList g s
  have q0 : Below w.heap.size w (w.alloc (.cells #[.string m, .string t, .int .i64 g, .int .i64 s] 36)) := (Below.refl _ w).alloc (Nat.le_refl _) _
  unfold lnWr
  obtain ⟨K, hK⟩ : ∃ K, lnMay m.data.toList t.data.toList g s = K := ⟨_, rfl⟩
  rw [hK] at MY0 hp ⊢
  have MY := Lib.hid MY0
  clear MY0 hK
  cases K with
  | false =>
    clear hp
    go_enter Tryd.func24, Tryd.ntmps24
    go_wp2_with fail
    refine (MY.out _).mono ?_
    rintro e w2 ⟨rfl, hb2⟩
    go_wp2_with fail
    go_ret2
    exact ⟨rfl, q0.trans (hb2.mono q0.size)⟩
  | true =>
    obtain ⟨_, _, i1, i2, i3, i4⟩ := hp rfl
    have TX := Lib.hid fun w => r15_Text m t g s w hm ht i1 i2 i3 i4
    rw [if_pos rfl]
    clear hp
    go_enter Tryd.func24, Tryd.ntmps24
    go_wp2_with fail
    refine (MY.out _).mono ?_
    rintro e w2 ⟨rfl, hb2⟩
    have d0 := (bcell hb2).1 w.heap.size 0 (by simp)
    have d1 := (bcell hb2).1 w.heap.size 1 (by simp)
    have d2 := (bcell hb2).1 w.heap.size 2 (by simp)
    have d3 := (bcell hb2).1 w.heap.size 3 (by simp)
    simp at d0 d1 d2 d3
    have q2 := q0.trans (hb2.mono q0.size)
    clear hb2 MY
    go_wp2_with fail
    refine (TX.out _).mono ?_
    rintro e w3 ⟨rfl, hb3⟩
    go_wp2_with fail
    go_ret2
    exact ⟨rfl, q2.trans (hb3.mono q2.size)⟩
set_option maxHeartbeats 4000000 in
theorem r15_Judged (m t : ByteArray) (g s : Int) (w : World) : Calls Tryd.prog 66 #[lnV m t g s] w (Ret w (.int .i64 (jdg m.data.toList t.data.toList g s))) := by
  obtain ⟨J, hJ⟩ : ∃ J, jdg m.data.toList t.data.toList g s = J := ⟨_, rfl⟩
  rw [hJ]
  have HJ := Lib.hid hJ
  clear hJ
  go_enter Tryd.func66, Tryd.ntmps66
  go_wp2_with fail
  all_goals
    go_ret
    refine ⟨?_, (Below.refl _ w).alloc (Nat.le_refl _) _⟩
    rw [← HJ.out]
    clear HJ
    unfold jdg bindT post
    simp_all [Lib.toList_data]
set_option maxHeartbeats 4000000 in
set_option maxRecDepth 100000 in
theorem r15_Judge (m t : ByteArray) (g s : Int) (w : World) (hm : m.size ≤ 1000000) (ht : t.size ≤ 1000000) :
    Calls Tryd.prog 25 #[lnV m t g s] w (Ret w (lnJ m.data.toList t.data.toList g s)) := by
  have MY0 := fun w => r15_May m t g s w hm ht
  have JD := Lib.hid fun w => r15_Judged m t g s w
  have q0 : Below w.heap.size w (w.alloc (.cells #[.string m, .string t, .int .i64 g, .int .i64 s] 36)) := (Below.refl _ w).alloc (Nat.le_refl _) _
  unfold lnJ
  obtain ⟨K, hK⟩ : ∃ K, lnMay m.data.toList t.data.toList g s = K := ⟨_, rfl⟩
  rw [hK] at MY0 ⊢
  have MY := Lib.hid MY0
  clear MY0 hK
  cases K with
  | false =>
    go_enter Tryd.func25, Tryd.ntmps25
    go_wp2_with fail
    refine (MY.out _).mono ?_
    rintro e w2 ⟨rfl, hb2⟩
    go_wp2_with fail
    go_ret2
    exact ⟨rfl, q0.trans (hb2.mono q0.size)⟩
  | true =>
    rw [if_pos rfl]
    go_enter Tryd.func25, Tryd.ntmps25
    go_wp2_with fail
    refine (MY.out _).mono ?_
    rintro e w2 ⟨rfl, hb2⟩
    have d0 := (bcell hb2).1 w.heap.size 0 (by simp)
    have d1 := (bcell hb2).1 w.heap.size 1 (by simp)
    have d2 := (bcell hb2).1 w.heap.size 2 (by simp)
    have d3 := (bcell hb2).1 w.heap.size 3 (by simp)
    simp at d0 d1 d2 d3
    have q2 := q0.trans (hb2.mono q0.size)
    clear hb2 MY
    go_wp2_with fail
    refine (JD.out _).mono ?_
    rintro e w3 ⟨rfl, hb3⟩
    go_wp2_with fail
    go_ret2
    exact ⟨rfl, q2.trans (hb3.mono q2.size)⟩
end Go.Proofs.YtnfgpcccmbblcaaDoor
