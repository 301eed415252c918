/- The document's ends and wrong. -/
import Derived.Test.YthgmgmbjjjnhnaaGreatDoorWiK
namespace Go.Proofs.YthgmgmbjjjnhnaaGreatDoor
open Go.RowKit

theorem crA_end : ∀ a : List UInt8, ∃ x r, crA (a ++ [13, 10]) = some (x, r)
  | [] => ⟨[], [], rfl⟩
  | c :: a => by
    obtain ⟨x, r, h⟩ := crA_end a
    cases hl : a ++ [13, 10] with
    | nil => simp at hl
    | cons d l =>
      rw [hl] at h
      rw [List.cons_append, hl]
      by_cases hc : c = 13 ∧ d = 10
      · obtain ⟨rfl, rfl⟩ := hc
        exact ⟨[], l, crA_of [] l (fun c hc => by cases hc)⟩
      · unfold crA
        simp [hc, h]
theorem occ_eq {l : List UInt8} {k : Nat} (_ : k + 4 ≤ l.length) (h2 : k + 4 ≤ 4096) : Lib.occAt (l.take 4096) sep4 k = ((l.drop k).take 4 == sep4) := by
  unfold Lib.occAt
  rw [Bool.eq_iff_iff, List.isPrefixOf_iff_prefix, beq_iff_eq, List.prefix_iff_eq_take, List.drop_take, List.take_take]
  have : min sep4.length (4096 - k) = 4 := by
    show min 4 (4096 - k) = 4
    omega
  rw [this]
  exact eq_comm
def endV (s : List UInt8) : Int := if wiN s < 0 then 0 else wiN s + 4
set_option maxHeartbeats 4000000 in
set_option maxRecDepth 100000 in
theorem r17_ends (s : ByteArray) (w : World) (hs : s.size ≤ 1000000) : Calls Tryz.prog 36 #[.string s] w fun e w' => e = .returned (.int .i64 (endV s.data.toList)) ∧ w' = w := by
  obtain ⟨O, hO⟩ : ∃ O, endV s.data.toList = O := ⟨_, rfl⟩
  rw [hO]
  have HO := Lib.hid hO
  clear hO
  go_enter Tryz.func36, Tryz.ntmps36
  go_wp2_with fail
  go_loop [3] (fun i => ∃ k : Nat, k ≤ s.size ∧ i = .int .i64 k ∧ Lib.NoOcc (s.data.toList.take 4096) sep4 k) (fun i => s.size - (intOf i).toNat)
  case atStart => exact ⟨0, Nat.zero_le _, rfl, Lib.NoOcc.zero _ _⟩
  case round =>
    obtain ⟨k, hk, rfl, hno⟩ := hrel
    by_cases h1 : k + 4 ≤ s.size ∧ k + 4 ≤ 4096
    · obtain ⟨h1, h2⟩ := h1
      have hoc := occ_eq (l := s.data.toList) (k := k) (by rw [size_toList]; exact h1) h2
      have g1 : (k : Int) + 4 ≤ s.size := by omega
      have g2 : (k : Int) + 4 ≤ 4096 := by omega
      have g3 : (0 : Int) ≤ (k : Int) := by omega
      have g4 : (k : Int) ≤ (k : Int) + 4 := by omega
      have g5 : ((k : Int) + 4).toNat = k + 4 := by omega
      obtain ⟨b, hb⟩ : ∃ b, ((s.data.toList.drop k).take 4 == sep4) = b := ⟨_, rfl⟩
      have hq : ((s.extract k (k + 4)).toList == [13, 10, 13, 10]) = b := by
        rw [ext_list, Nat.add_sub_cancel_left]
        exact hb
      rw [hb] at hoc
      cases b with
      | true =>
        have hidx : wiN s.data.toList = k := Lib.index_hit hno (by rw [List.length_take, size_toList]; omega) hoc
        have hO : O = (k : Int) + 4 := by rw [← HO.out]; unfold endV; rw [hidx, if_neg (by omega)]
        subst hO
        clear hno hoc hb hidx
        go_wp2_with fail
        go_ret
        exact ⟨rfl, rfl⟩
      | false =>
        have HN : Hid (Lib.NoOcc (s.data.toList.take 4096) sep4 (k + 1)) := Lib.hid fun j hj => by
          by_cases hjk : j = k
          · rw [hjk]; exact hoc
          · exact hno j (by omega)
        clear hno hoc hb
        go_wp2_with fail
        go_round
        case rel => exact ⟨k + 1, by omega, by go_num, HN.out⟩
        case measure => simp [intOf]; omega
    · have hidx : wiN s.data.toList = -1 := Lib.index_past (by decide) hno (by rw [List.length_take, size_toList]; show _ < k + 4; omega)
      have hO : O = 0 := by rw [← HO.out]; unfold endV; rw [hidx, if_pos (by decide)]
      subst hO
      by_cases h2 : k + 4 ≤ s.size
      · have g1 : (k : Int) + 4 ≤ s.size := by omega
        have g2 : ¬ (k : Int) + 4 ≤ 4096 := by omega
        clear hno hidx
        go_wp2_with fail
        go_ret
        exact ⟨rfl, rfl⟩
      · have g1 : ¬ (k : Int) + 4 ≤ s.size := by omega
        clear hno hidx
        go_wp2_with fail
        go_ret
        exact ⟨rfl, rfl⟩
set_option maxHeartbeats 4000000 in
theorem r17_wrong (st : Int) (s : ByteArray) (w : World) : Calls Tryz.prog 37 #[.int .i64 st, .string s] w (Ret w (.tuple #[.agg #[.int .i64 st, .string ⟨#[]⟩, .string ⟨#[]⟩, .bool false], .int .i64 s.size, .bool false])) := by
  have q0 := (Below.refl w.heap.size w).alloc (Nat.le_refl _) (.cells #[.int .i64 st, .string ⟨#[]⟩, .string ⟨#[]⟩, .bool false] 40)
  have q1 := (Below.refl w.heap.size w).alloc (Nat.le_refl _) (.cells #[.int .i64 0, .string ⟨#[]⟩, .string ⟨#[]⟩, .bool false] 40)
  go_enter Tryz.func37, Tryz.ntmps37
  go_wp2_with fail
  refine bodyPost_ret (v := .tuple #[.agg #[.int .i64 st, .string ⟨#[]⟩, .string ⟨#[]⟩, .bool false], .int .i64 s.size, .bool false]) (by simp (maxDischargeDepth := 9) [results, Tryz.results37, go_sem, *]) rfl ⟨rfl, ?_⟩
  repeat (first | with_reducible exact q0 | with_reducible exact q1 | with_reducible refine Below.setCell ?_ (by first | omega | (simp <;> omega)) _)
end Go.Proofs.YthgmgmbjjjnhnaaGreatDoor
