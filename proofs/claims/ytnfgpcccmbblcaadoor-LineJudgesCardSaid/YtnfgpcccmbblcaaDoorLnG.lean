/- Statuses, their names, and their first lines: the walks. PRINTED BY PROGRAM (gen_ln.py). -/
import Derived.Test.YtnfgpcccmbblcaaDoorLnF
namespace Go.Proofs.YtnfgpcccmbblcaaDoor
open Go.RowKit

/-- A status's name; empty: it is none. -/
def stN (n : Int) : List UInt8 := if n = 200 then [79, 75] else if n = 400 then [66, 97, 100, 32, 82, 101, 113, 117, 101, 115, 116] else if n = 403 then [70, 111, 114, 98, 105, 100, 100, 101, 110] else if n = 404 then [78, 111, 116, 32, 70, 111, 117, 110, 100] else if n = 405 then [77, 101, 116, 104, 111, 100, 32, 78, 111, 116, 32, 65, 108, 108, 111, 119, 101, 100] else if n = 413 then [67, 111, 110, 116, 101, 110, 116, 32, 84, 111, 111, 32, 76, 97, 114, 103, 101] else if n = 505 then [72, 84, 84, 80, 32, 86, 101, 114, 115, 105, 111, 110, 32, 78, 111, 116, 32, 83, 117, 112, 112, 111, 114, 116, 101, 100] else []
def stT (n : Int) : List UInt8 := [72, 84, 84, 80, 47, 49, 46, 49, 32] ++ (Lib.decDigits n.toNat ++ ([32] ++ (stN n ++ [13, 10])))
def stV (n : Int) : Value := if stN n = [] then .tuple #[.string ⟨#[]⟩, .int .i64 2] else .tuple #[.string ⟨(stT n).toArray⟩, .int .i64 0]
def stMap : Array MapEntry := #[{ key := .int .i64 200, val := .agg #[.string ⟨#[79, 75]⟩], born := 0 }, { key := .int .i64 400, val := .agg #[.string ⟨#[66, 97, 100, 32, 82, 101, 113, 117, 101, 115, 116]⟩], born := 1 }, { key := .int .i64 403, val := .agg #[.string ⟨#[70, 111, 114, 98, 105, 100, 100, 101, 110]⟩], born := 2 }, { key := .int .i64 404, val := .agg #[.string ⟨#[78, 111, 116, 32, 70, 111, 117, 110, 100]⟩], born := 3 }, { key := .int .i64 405, val := .agg #[.string ⟨#[77, 101, 116, 104, 111, 100, 32, 78, 111, 116, 32, 65, 108, 108, 111, 119, 101, 100]⟩], born := 4 }, { key := .int .i64 413, val := .agg #[.string ⟨#[67, 111, 110, 116, 101, 110, 116, 32, 84, 111, 111, 32, 76, 97, 114, 103, 101]⟩], born := 5 }, { key := .int .i64 505, val := .agg #[.string ⟨#[72, 84, 84, 80, 32, 86, 101, 114, 115, 105, 111, 110, 32, 78, 111, 116, 32, 83, 117, 112, 112, 111, 114, 116, 101, 100]⟩], born := 6 }]
theorem stU (w : World) (es : Array MapEntry) (c : Nat) (a : Int) (v : Value) (hf : Instr.findNow (.int .i64) (.int .i64 a) es.toList 0 = some none) :
    (Instr.mapUpdate 89 (.map (some w.heap.size)) (.int .i64 a) v).run Tryd.prog (w.alloc (.map es c)) = .ok () (w.alloc (.map (es.push { key := .int .i64 a, val := v, born := c }) (c + 1))) :=
  run_mapUpdate_new Tryd.underlying89 Tryd.underlying3 w es c a v hf
def StMapIs (w : World) (e : Ending) (w' : World) : Prop := ∃ b, e = .returned (.map (some b)) ∧ w'.heap[b]? = some (.map stMap 7) ∧ Below w.heap.size w w'
set_option maxHeartbeats 2000000 in
set_option maxRecDepth 100000 in
theorem ln_statuses (w : World) : Calls Tryd.prog 55 #[] w (StMapIs w) := by
  have hmm := @run_makeMap Tryd.prog
  have h0 := stU w #[] 0 200 (.agg #[.string ⟨#[79, 75]⟩]) rfl
  have h1 := stU w #[{ key := .int .i64 200, val := .agg #[.string ⟨#[79, 75]⟩], born := 0 }] 1 400 (.agg #[.string ⟨#[66, 97, 100, 32, 82, 101, 113, 117, 101, 115, 116]⟩]) rfl
  have h2 := stU w #[{ key := .int .i64 200, val := .agg #[.string ⟨#[79, 75]⟩], born := 0 }, { key := .int .i64 400, val := .agg #[.string ⟨#[66, 97, 100, 32, 82, 101, 113, 117, 101, 115, 116]⟩], born := 1 }] 2 403 (.agg #[.string ⟨#[70, 111, 114, 98, 105, 100, 100, 101, 110]⟩]) rfl
  have h3 := stU w #[{ key := .int .i64 200, val := .agg #[.string ⟨#[79, 75]⟩], born := 0 }, { key := .int .i64 400, val := .agg #[.string ⟨#[66, 97, 100, 32, 82, 101, 113, 117, 101, 115, 116]⟩], born := 1 }, { key := .int .i64 403, val := .agg #[.string ⟨#[70, 111, 114, 98, 105, 100, 100, 101, 110]⟩], born := 2 }] 3 404 (.agg #[.string ⟨#[78, 111, 116, 32, 70, 111, 117, 110, 100]⟩]) rfl
  have h4 := stU w #[{ key := .int .i64 200, val := .agg #[.string ⟨#[79, 75]⟩], born := 0 }, { key := .int .i64 400, val := .agg #[.string ⟨#[66, 97, 100, 32, 82, 101, 113, 117, 101, 115, 116]⟩], born := 1 }, { key := .int .i64 403, val := .agg #[.string ⟨#[70, 111, 114, 98, 105, 100, 100, 101, 110]⟩], born := 2 }, { key := .int .i64 404, val := .agg #[.string ⟨#[78, 111, 116, 32, 70, 111, 117, 110, 100]⟩], born := 3 }] 4 405 (.agg #[.string ⟨#[77, 101, 116, 104, 111, 100, 32, 78, 111, 116, 32, 65, 108, 108, 111, 119, 101, 100]⟩]) rfl
  have h5 := stU w #[{ key := .int .i64 200, val := .agg #[.string ⟨#[79, 75]⟩], born := 0 }, { key := .int .i64 400, val := .agg #[.string ⟨#[66, 97, 100, 32, 82, 101, 113, 117, 101, 115, 116]⟩], born := 1 }, { key := .int .i64 403, val := .agg #[.string ⟨#[70, 111, 114, 98, 105, 100, 100, 101, 110]⟩], born := 2 }, { key := .int .i64 404, val := .agg #[.string ⟨#[78, 111, 116, 32, 70, 111, 117, 110, 100]⟩], born := 3 }, { key := .int .i64 405, val := .agg #[.string ⟨#[77, 101, 116, 104, 111, 100, 32, 78, 111, 116, 32, 65, 108, 108, 111, 119, 101, 100]⟩], born := 4 }] 5 413 (.agg #[.string ⟨#[67, 111, 110, 116, 101, 110, 116, 32, 84, 111, 111, 32, 76, 97, 114, 103, 101]⟩]) rfl
  have h6 := stU w #[{ key := .int .i64 200, val := .agg #[.string ⟨#[79, 75]⟩], born := 0 }, { key := .int .i64 400, val := .agg #[.string ⟨#[66, 97, 100, 32, 82, 101, 113, 117, 101, 115, 116]⟩], born := 1 }, { key := .int .i64 403, val := .agg #[.string ⟨#[70, 111, 114, 98, 105, 100, 100, 101, 110]⟩], born := 2 }, { key := .int .i64 404, val := .agg #[.string ⟨#[78, 111, 116, 32, 70, 111, 117, 110, 100]⟩], born := 3 }, { key := .int .i64 405, val := .agg #[.string ⟨#[77, 101, 116, 104, 111, 100, 32, 78, 111, 116, 32, 65, 108, 108, 111, 119, 101, 100]⟩], born := 4 }, { key := .int .i64 413, val := .agg #[.string ⟨#[67, 111, 110, 116, 101, 110, 116, 32, 84, 111, 111, 32, 76, 97, 114, 103, 101]⟩], born := 5 }] 6 505 (.agg #[.string ⟨#[72, 84, 84, 80, 32, 86, 101, 114, 115, 105, 111, 110, 32, 78, 111, 116, 32, 83, 117, 112, 112, 111, 114, 116, 101, 100]⟩]) rfl
  simp only [List.push_toArray, List.nil_append, List.cons_append, Nat.reduceAdd] at h0 h1 h2 h3 h4 h5 h6
  go_enter Tryd.func55, Tryd.ntmps55
  go_wp2
  go_ret
  exact ⟨_, rfl, heap_alloc_new _ _, (Below.refl _ _).alloc (Nat.le_refl _) _⟩
theorem zeroStatus (w : World) : (zeroValue 87).run Tryd.prog w = .ok (.agg #[.string ⟨#[]⟩]) w := by kernel_rfl
theorem stN_not (n : Int) (h : stN n = []) : ¬ n = 200 ∧ ¬ n = 400 ∧ ¬ n = 403 ∧ ¬ n = 404 ∧ ¬ n = 405 ∧ ¬ n = 413 ∧ ¬ n = 505 := by
  unfold stN at h
  refine ⟨?_, ?_, ?_, ?_, ?_, ?_, ?_⟩ <;> (rintro rfl; simp at h)
set_option maxHeartbeats 2000000 in
theorem ln_Status_no (n : Int) (w : World) (h : stN n = []) : Calls Tryd.prog 18 #[.int .i64 n] w (Ret w (.tuple #[.string ⟨#[]⟩, .int .i64 2])) := by
  have hf : Instr.findNow (.int .i64) (.int .i64 n) stMap.toList 0 = some none := by
    obtain ⟨k0, k1, k2, k3, k4, k5, k6⟩ := stN_not n h
    have i0 : (n == (200 : Int)) = false := by simp; omega
    have i1 : (n == (400 : Int)) = false := by simp; omega
    have i2 : (n == (403 : Int)) = false := by simp; omega
    have i3 : (n == (404 : Int)) = false := by simp; omega
    have i4 : (n == (405 : Int)) = false := by simp; omega
    have i5 : (n == (413 : Int)) = false := by simp; omega
    have i6 : (n == (505 : Int)) = false := by simp; omega
    have sN : ∀ b : Int, Instr.sameNow (TypeDesc.int .i64) (.int .i64 n) (.int .i64 b) = some (n == b) := fun b => rfl
    simp only [stMap, Instr.findNow, sN, i0, i1, i2, i3, i4, i5, i6]
  have hl := fun (w1 : World) (m : Nat) (h : w1.heap[m]? = some (.map stMap 7)) => run_lookup_not (P := Tryd.prog) Tryd.underlying89 Tryd.underlying3 h n (zeroStatus w1) hf
  have HL := Lib.hid hl
  have SS := Lib.hid ln_statuses
  clear hl hf h
  go_enter Tryd.func18, Tryd.ntmps18
  go_wp2_with fail
  refine (SS.out _).mono ?_
  rintro e w1 ⟨b, rfl, hm, hb1⟩
  have hl := HL.out w1 b hm
  clear HL SS
  go_wp2_with fail
  go_ret2
  exact ⟨rfl, hb1.alloc hb1.size _⟩
set_option maxHeartbeats 4000000 in
set_option maxRecDepth 100000 in
theorem ln_Status_at (n i : Nat) (N : ByteArray) (w : World) (ht : Tab w) (hn : n ≤ 999) (hN : N.size ≤ 30) (hs : stN n = N.data.toList) (hf : Instr.findNow (.int .i64) (.int .i64 n) stMap.toList 0 = some (some (i, .agg #[.string N]))) : Calls Tryd.prog 18 #[.int .i64 n] w (Ret w (.tuple #[.string ⟨(stT n).toArray⟩, .int .i64 0])) := by
  have hl := fun (w1 : World) (m : Nat) (h : w1.heap[m]? = some (.map stMap 7)) => run_lookup_there (P := Tryd.prog) Tryd.underlying89 Tryd.underlying3 h n hf
  have IT0 := fun w ht => Itoa_c n (by omega) w ht
  obtain ⟨D, hD⟩ : ∃ D : ByteArray, ⟨(Lib.decDigits n).toArray⟩ = D := ⟨_, rfl⟩
  have hDl : D.data.toList = Lib.decDigits n := by rw [← hD]
  have hDs : D.size ≤ 20 := by
    rw [← size_toList, hDl, Lib.decDigits_length]
    exact Lib.nDigits_le20 n (by omega)
  rw [hD] at IT0
  have htx : (⟨(stT n).toArray⟩ : ByteArray) = (((⟨#[72, 84, 84, 80, 47, 49, 46, 49, 32]⟩ ++ D) ++ ⟨#[32]⟩) ++ N) ++ ⟨#[13, 10]⟩ := by
    apply str_ext
    unfold stT
    rw [hs, Int.toNat_natCast, ← hDl]
    simp
  rw [htx]
  have IT := Lib.hid IT0
  have HL := Lib.hid hl
  have SS := Lib.hid ln_statuses
  have HT := Lib.hid ht
  have n1 : ¬ 9223372036854775807 < 9 + D.size := by omega
  have n2 : ¬ 9223372036854775807 < 9 + D.size + 1 := by omega
  have n3 : ¬ 9223372036854775807 < 9 + D.size + 1 + N.size := by omega
  have n4 : ¬ 9223372036854775807 < 9 + D.size + 1 + N.size + 2 := by omega
  clear hl hf hs ht hD hDl IT0 htx
  go_enter Tryd.func18, Tryd.ntmps18
  go_wp2_with fail
  refine (SS.out _).mono ?_
  rintro e w1 ⟨b, rfl, hm, hb1⟩
  have hl := HL.out w1 b hm
  have HT1 := Lib.hid (HT.out.ret hb1)
  have q1 := hb1.alloc hb1.size (.cells #[.string N] 87)
  have HT2 := Lib.hid (HT1.out.ret ((Below.refl _ w1).alloc (Nat.le_refl _) (.cells #[.string N] 87)))
  clear HL SS
  go_wp2_with fail
  go_region_held3 (fun w' => w'.cell? ⟨w1.heap.size, 0, none⟩ = some (.string N)) (first | exact S7 | (simp (maxDischargeDepth := 9) [go_sem, *]))
    (first | (go_at_call 56; refine (IT.out _ (by first | exact HT2.out | exact HT2.out.ret (below_drew _))).mono ?_; rintro e w5 ⟨rfl, hb5⟩; have S7 := ((bcell hb5).1 w1.heap.size 0 (by simp)).trans (by simp : _ = some (Value.string N)); have q5 := (show Below w.heap.size w w5 from q1.drew.trans (hb5.mono (by simpa using q1.size)))))
  all_goals
    go_wp2_with fail
    go_ret2
    exact ⟨rfl, q5⟩
theorem ln_Status (n : Int) (w : World) (ht : Tab w) : Calls Tryd.prog 18 #[.int .i64 n] w (Ret w (stV n)) := by
  unfold stV
  by_cases h : stN n = []
  · rw [if_pos h]
    exact ln_Status_no n w h
  · rw [if_neg h]
    by_cases h0 : n = 200
    · subst h0
      exact ln_Status_at 200 0 ⟨#[79, 75]⟩ w ht (by omega) (by decide) rfl (by rfl)
    by_cases h1 : n = 400
    · subst h1
      exact ln_Status_at 400 1 ⟨#[66, 97, 100, 32, 82, 101, 113, 117, 101, 115, 116]⟩ w ht (by omega) (by decide) rfl (by rfl)
    by_cases h2 : n = 403
    · subst h2
      exact ln_Status_at 403 2 ⟨#[70, 111, 114, 98, 105, 100, 100, 101, 110]⟩ w ht (by omega) (by decide) rfl (by rfl)
    by_cases h3 : n = 404
    · subst h3
      exact ln_Status_at 404 3 ⟨#[78, 111, 116, 32, 70, 111, 117, 110, 100]⟩ w ht (by omega) (by decide) rfl (by rfl)
    by_cases h4 : n = 405
    · subst h4
      exact ln_Status_at 405 4 ⟨#[77, 101, 116, 104, 111, 100, 32, 78, 111, 116, 32, 65, 108, 108, 111, 119, 101, 100]⟩ w ht (by omega) (by decide) rfl (by rfl)
    by_cases h5 : n = 413
    · subst h5
      exact ln_Status_at 413 5 ⟨#[67, 111, 110, 116, 101, 110, 116, 32, 84, 111, 111, 32, 76, 97, 114, 103, 101]⟩ w ht (by omega) (by decide) rfl (by rfl)
    by_cases h6 : n = 505
    · subst h6
      exact ln_Status_at 505 6 ⟨#[72, 84, 84, 80, 32, 86, 101, 114, 115, 105, 111, 110, 32, 78, 111, 116, 32, 83, 117, 112, 112, 111, 114, 116, 101, 100]⟩ w ht (by omega) (by decide) rfl (by rfl)
    exact absurd (by unfold stN; simp [h0, h1, h2, h3, h4, h5, h6]) h
set_option maxHeartbeats 2000000 in
theorem r15_Name (n : Int) (w : World) : Calls Tryd.prog 67 #[.int .i64 n] w fun e w' => e = .returned (.string ⟨(stN n).toArray⟩) ∧ w' = w := by
  obtain ⟨N, hN⟩ : ∃ N : ByteArray, ⟨(stN n).toArray⟩ = N := ⟨_, rfl⟩
  rw [hN]
  have HN := Lib.hid hN
  clear hN
  go_enter Tryd.func67, Tryd.ntmps67
  go_wp2_with fail
  all_goals
    go_ret
    refine ⟨ret_s ?_, rfl⟩
    rw [← HN.out]
    clear HN
    unfold stN
    simp_all
set_option maxHeartbeats 2000000 in
theorem r15_First (n : Nat) (w : World) (hn : n ≤ 999) : Calls Tryd.prog 68 #[.int .i64 n] w (Ret w (.string ⟨(stT n).toArray⟩)) := by
  have NM0 := fun w => r15_Name n w
  have DG0 := fun w => ref06_Digits n (by omega) w
  obtain ⟨N, hN⟩ : ∃ N : ByteArray, ⟨(stN n).toArray⟩ = N := ⟨_, rfl⟩
  have hNl : N.data.toList = stN n := by rw [← hN]
  have hNs : N.size ≤ 30 := by
    rw [← size_toList, hNl]
    unfold stN
    repeat (first | (split; decide) | decide)
  obtain ⟨D, hD⟩ : ∃ D : ByteArray, ⟨(Lib.decDigits n).toArray⟩ = D := ⟨_, rfl⟩
  have hDl : D.data.toList = Lib.decDigits n := by rw [← hD]
  have hDs : D.size ≤ 20 := by
    rw [← size_toList, hDl, Lib.decDigits_length]
    exact Lib.nDigits_le20 n (by omega)
  have htx : (⟨(stT n).toArray⟩ : ByteArray) = (((⟨#[72, 84, 84, 80, 47, 49, 46, 49, 32]⟩ ++ D) ++ ⟨#[32]⟩) ++ N) ++ ⟨#[13, 10]⟩ := by
    apply str_ext
    unfold stT
    rw [← hNl, Int.toNat_natCast, ← hDl]
    simp
  rw [htx]
  rw [hN] at NM0
  rw [hD] at DG0
  have NM := Lib.hid NM0
  have DG := Lib.hid DG0
  have n1 : ¬ 9223372036854775807 < 9 + D.size := by omega
  have n2 : ¬ 9223372036854775807 < 9 + D.size + 1 := by omega
  have n3 : ¬ 9223372036854775807 < 9 + D.size + 1 + N.size := by omega
  have n4 : ¬ 9223372036854775807 < 9 + D.size + 1 + N.size + 2 := by omega
  clear hN hNl hD hDl NM0 DG0 htx
  go_enter Tryd.func68, Tryd.ntmps68
  go_wp2_with fail
  refine (DG.out _).mono ?_
  rintro e w1 ⟨rfl, hb1⟩
  go_wp2_with fail
  refine (NM.out _).mono ?_
  rintro e w2 ⟨rfl, rfl⟩
  go_wp2_with fail
  go_ret
  exact ⟨rfl, hb1⟩
set_option maxHeartbeats 2000000 in
theorem r15_Status (n : Int) (w : World) : Calls Tryd.prog 26 #[.int .i64 n] w (Ret w (stV n)) := by
  have NM0 := fun w => r15_Name n w
  unfold stV
  by_cases h : stN n = []
  · rw [if_pos h]
    rw [h] at NM0
    have NM := Lib.hid NM0
    clear NM0 h
    go_enter Tryd.func26, Tryd.ntmps26
    go_wp2_with fail
    refine (NM.out _).mono ?_
    rintro e w1 ⟨rfl, rfl⟩
    go_wp2_with fail
    go_ret2
    exact ⟨rfl, Below.refl _ _⟩
  · rw [if_neg h]
    have hn : 0 ≤ n ∧ n ≤ 999 := by
      unfold stN at h
      repeat (first | (split at h; omega) | exact absurd rfl h)
    obtain ⟨m, rfl⟩ : ∃ m : Nat, n = (m : Int) := ⟨n.toNat, by omega⟩
    have FS := Lib.hid fun w => r15_First m w (by omega)
    obtain ⟨N, hN⟩ : ∃ N : ByteArray, ⟨(stN m).toArray⟩ = N := ⟨_, rfl⟩
    have hp : 0 < N.size := by
      rw [← size_toList, ← hN]
      exact List.length_pos_iff.2 h
    rw [hN] at NM0
    have NM := Lib.hid NM0
    have e1 := isEmpty_of_pos hp
    have e2 := ne_nil_of_pos hp
    clear NM0 h hN
    go_enter Tryd.func26, Tryd.ntmps26
    go_wp2_with fail
    refine (NM.out _).mono ?_
    rintro e w1 ⟨rfl, rfl⟩
    go_wp2_with fail
    refine (FS.out _).mono ?_
    rintro e w2 ⟨rfl, hb2⟩
    go_wp2_with fail
    go_ret2
    exact ⟨rfl, hb2⟩
end Go.Proofs.YtnfgpcccmbblcaaDoor
