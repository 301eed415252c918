/- The document's One, May, Check. PRINTED BY PROGRAM (gen_wix.py). -/
import Derived.Test.YthgmgmbjjjnhnaaGreatDoorWiU
namespace Go.Proofs.YthgmgmbjjjnhnaaGreatDoor
open Go.RowKit

theorem jg_bad (x : List UInt8) : (wiJ x).1 = 200 ∨ ∃ st, st ≠ 200 ∧ wiJ x = (st, [], false, 0, 0) := by
  unfold wiJ
  split
  · rename_i h
    exact .inr ⟨_, h, rfl⟩
  · rcases wiF_200 (lnR x) with h | h
    · exact .inl h
    · exact .inr ⟨400, by decide, h⟩
set_option maxHeartbeats 16000000 in
set_option maxRecDepth 100000 in
theorem r17_One (s : ByteArray) (w : World) (hs : s.size ≤ 1000000) : Calls Tryz.prog 21 #[.string s] w (Ret w (oneV s.data.toList)) := by
  have q0 := (Below.refl w.heap.size w).alloc (Nat.le_refl _) (.cells #[.int .i64 0, .string ⟨#[]⟩, .string ⟨#[]⟩, .bool false] 40)
  have C0 := Lib.hid (CmAt.new w (.int .i64 0) (.string ⟨#[]⟩) (.string ⟨#[]⟩) (.bool false))
  obtain ⟨z, z0, z1, z2, z3, z4, z5, z6, z7⟩ := C0.out
  have E0 := fun w => r17_ends s w hs
  unfold endV at E0
  obtain ⟨O, hO⟩ : ∃ O, oneV s.data.toList = O := ⟨_, rfl⟩
  rw [hO]
  have HOV := Lib.hid hO
  clear hO
  by_cases hn : wiN s.data.toList < 0
  · rw [if_pos hn] at E0
    have EH := Lib.hid E0
    by_cases h4 : 4096 ≤ s.size
    · have HO : Hid (wiO s.data.toList = .bad 400) := Lib.hid (by unfold wiO; rw [if_pos hn, if_pos (by rw [size_toList]; exact h4)])
      have WH := Lib.hid fun w => r17_wrong 400 s w
      have g1 : ¬ (s.size : Int) < 4096 := by omega
      clear E0 hn
      go_enter Tryz.func21, Tryz.ntmps21
      go_wp2_with fail
      refine (EH.out _).mono ?_
      rintro e w1 ⟨rfl, rfl⟩
      go_wp2_with fail
      refine (WH.out _).mono ?_
      rintro e w2 ⟨rfl, hb⟩
      have q2 := q0.trans (hb.mono q0.size)
      have C2 := Lib.hid (C0.out.ret' hb)
      clear z z0 z1 z2 z3 z4 z5 z6 z7 hb
      obtain ⟨z, z0, z1, z2, z3, z4, z5, z6, z7⟩ := C2.out
      go_wp2_with fail
      refine bodyPost_ret (v := .tuple #[.agg #[.int .i64 400, .string ⟨#[]⟩, .string ⟨#[]⟩, .bool false], .int .i64 s.size, .bool false]) (by simp (maxDischargeDepth := 9) [results, Tryz.results21, go_sem, *]) rfl ⟨by rw [← HOV.out, oneV_bad HO.out], ?_⟩
      repeat (first | with_reducible exact q2 | with_reducible exact Below.refl _ _ | with_reducible refine Below.drew ?_ | with_reducible refine Below.setCell ?_ (by first | omega | (simp <;> omega)) _ | with_reducible refine Below.alloc ?_ (by first | omega | (simp <;> omega)) _)
    · have HO : Hid (wiO s.data.toList = .more) := Lib.hid (by unfold wiO; rw [if_pos hn, if_neg (by rw [size_toList]; exact h4)])
      have g1 : (s.size : Int) < 4096 := by omega
      clear E0 hn
      go_enter Tryz.func21, Tryz.ntmps21
      go_wp2_with fail
      refine (EH.out _).mono ?_
      rintro e w1 ⟨rfl, rfl⟩
      go_wp2_with fail
      refine bodyPost_ret (v := .tuple #[cm0, .int .i64 0, .bool true]) (by simp (maxDischargeDepth := 9) [results, Tryz.results21, go_sem, *]) rfl ⟨by rw [← HOV.out, oneV_more HO.out], ?_⟩
      repeat (first | with_reducible exact q0 | with_reducible exact Below.refl _ _ | with_reducible refine Below.drew ?_ | with_reducible refine Below.setCell ?_ (by first | omega | (simp <;> omega)) _ | with_reducible refine Below.alloc ?_ (by first | omega | (simp <;> omega)) _)
  obtain ⟨b1, b2⟩ := wiN_lt hn
  rw [size_toList] at b2
  have ho := wiO_in hn
  rw [if_neg hn] at E0
  obtain ⟨N, hN⟩ : ∃ N : Nat, wiN s.data.toList = (N : Int) := ⟨(wiN s.data.toList).toNat, by omega⟩
  have hix : Lib.index (s.data.toList.take 4096) sep4 = (N : Int) := hN
  rw [hN] at E0
  rw [hN, Int.toNat_natCast] at ho b1 b2
  have EH := Lib.hid E0
  have hA : N + 4 ≤ s.size := b2
  have g0 : ((N : Int) + 4 == 0) = false := by rw [beq_eq_false_iff_ne]; omega
  have g1 : (N : Int) + 4 ≤ s.size := by omega
  have g2 : (0 : Int) ≤ (N : Int) + 4 := by omega
  have g3 : ((N : Int) + 4).toNat = N + 4 := by omega
  have hsplit : ∃ a, (s.extract 0 (N + 2)).data.toList = a ++ [13, 10] := by
    rcases Lib.index_spec (s.data.toList.take 4096) sep4 with ⟨h1, _⟩ | ⟨i, h1, _, h3, _⟩
    · omega
    · have hiN : i = N := by omega
      subst hiN
      rw [occ_eq (by rw [size_toList]; exact hA) (by omega), beq_iff_eq] at h3
      refine ⟨s.data.toList.take i, ?_⟩
      rw [ext_data, List.drop_zero, Nat.sub_zero, List.take_add]
      congr 1
      have := congrArg (List.take 2) h3
      rw [List.take_take] at this
      exact this
  have hp : (s.extract 0 (N + 4)).data.toList = (s.extract 0 (N + 2)).data.toList ++ [13, 10] := by
    rcases Lib.index_spec (s.data.toList.take 4096) sep4 with ⟨h1, _⟩ | ⟨i, h1, _, h3, _⟩
    · omega
    · have hiN : i = N := by omega
      subst hiN
      rw [occ_eq (by rw [size_toList]; exact hA) (by omega), beq_iff_eq] at h3
      rw [ext_data, ext_data, List.drop_zero, Nat.sub_zero, Nat.sub_zero, show i + 4 = (i + 2) + 2 by omega, List.take_add]
      congr 1
      have := congrArg (List.drop 2) h3
      rw [List.drop_take, List.drop_drop] at this
      exact this
  have J0 := fun w => r17_judged (s.extract 0 (N + 4)) (s.extract 0 (N + 2)) w hp hsplit (by rw [ByteArray.size_extract]; omega)
  have hx : (s.extract 0 (N + 2)).data.toList = s.data.toList.take (N + 2) := by rw [ext_data, List.drop_zero, Nat.sub_zero]
  rw [hx] at J0
  clear E0 hn hN hix hsplit hp hx b2
  rcases jg_bad (s.data.toList.take (N + 2)) with h2 | ⟨st, h2, hj⟩
  rotate_left
  · rw [hj] at J0 ho
    unfold jgV at J0
    simp only at J0
    unfold wiH at ho
    rw [if_pos h2] at ho
    have HO := Lib.hid ho
    have JH := Lib.hid J0
    have WH := Lib.hid fun w => r17_wrong st s w
    have f1 : (st == 200) = false := by rw [beq_eq_false_iff_ne]; exact h2
    have f2 : (st != 200) = true := by rw [bne_iff_ne]; exact h2
    clear J0 ho hj
    go_enter Tryz.func21, Tryz.ntmps21
    go_wp2_with fail
    refine (EH.out _).mono ?_
    rintro e w1 ⟨rfl, rfl⟩
    go_wp2_with fail
    refine (JH.out _).mono ?_
    rintro e w2 ⟨rfl, hb⟩
    have q2 := q0.trans (hb.mono q0.size)
    have C2 := Lib.hid (C0.out.ret' hb)
    have al := (Below.refl w2.heap.size w2).alloc (Nat.le_refl _) (.cells #[.int .i64 st, .string ⟨#[]⟩, .string ⟨#[]⟩, .bool false] 40)
    have q3 := q2.trans (al.mono q2.size)
    have C3 := Lib.hid (C2.out.ret' al)
    have hlt := C2.out.lt
    clear z z0 z1 z2 z3 z4 z5 z6 z7 hb al
    obtain ⟨z, z0, z1, z2, z3, z4, z5, z6, z7⟩ := C2.out
    go_wp2_with fail
    refine (WH.out _).mono ?_
    rintro e w4 ⟨rfl, hb⟩
    have q4 := q3.trans (hb.mono q3.size)
    have C4 := Lib.hid (C3.out.ret' hb)
    clear z z0 z1 z2 z3 z4 z5 z6 z7 hb
    obtain ⟨z, z0, z1, z2, z3, z4, z5, z6, z7⟩ := C4.out
    go_wp2_with fail
    refine bodyPost_ret (v := .tuple #[.agg #[.int .i64 st, .string ⟨#[]⟩, .string ⟨#[]⟩, .bool false], .int .i64 s.size, .bool false]) (by simp (maxDischargeDepth := 9) [results, Tryz.results21, go_sem, *]) rfl ⟨by rw [← HOV.out, oneV_bad HO.out], ?_⟩
    repeat (first | with_reducible exact q4 | with_reducible exact Below.refl _ _ | with_reducible refine Below.drew ?_ | with_reducible refine Below.setCell ?_ (by first | omega | (simp <;> omega)) _ | with_reducible refine Below.alloc ?_ (by first | omega | (simp <;> omega)) _)
  obtain ⟨⟨st, ho', kp, k, n⟩, hj⟩ : ∃ j, wiJ (s.data.toList.take (N + 2)) = j := ⟨_, rfl⟩
  rw [hj] at h2 J0 ho
  have h2' : st = 200 := h2
  subst h2'
  obtain ⟨hk, hn0, hn1⟩ := wiJ_ok hj
  unfold jgV at J0
  unfold wiH at ho
  rw [if_neg (fun h => h rfl)] at ho
  simp only at J0 ho
  obtain ⟨HH, hHH⟩ : ∃ X : ByteArray, ⟨ho'.toArray⟩ = X := ⟨_, rfl⟩
  have hHl : HH.data.toList = ho' := by rw [← hHH]
  rw [hHH] at J0
  rw [← hHl] at ho
  have JH := Lib.hid J0
  clear J0 hj h2 hHH hHl
  rcases hk with rfl | rfl
  · rw [if_pos rfl] at ho
    by_cases h8 : 8192 < n
    · rw [if_pos h8] at ho
      have HO := Lib.hid ho
      have XH := Lib.hid fun w => long_bad s HH kp (N + 4) n h8 w hs hA
      clear ho
      go_enter Tryz.func21, Tryz.ntmps21
      go_wp2_with fail
      refine (EH.out _).mono ?_
      rintro e w1 ⟨rfl, rfl⟩
      go_wp2_with fail
      refine (JH.out _).mono ?_
      rintro e w2 ⟨rfl, hb⟩
      have q2 := q0.trans (hb.mono q0.size)
      have C2 := Lib.hid (C0.out.ret' hb)
      have al := (Below.refl w2.heap.size w2).alloc (Nat.le_refl _) (.cells #[.int .i64 200, .string HH, .string ⟨#[]⟩, .bool kp] 40)
      have q3 := q2.trans (al.mono q2.size)
      have C3 := Lib.hid (C2.out.ret' al)
      have hlt := C2.out.lt
      clear z z0 z1 z2 z3 z4 z5 z6 z7 hb al
      obtain ⟨z, z0, z1, z2, z3, z4, z5, z6, z7⟩ := C2.out
      go_wp2_with fail
      refine (XH.out _).mono ?_
      rintro e w4 ⟨rfl, hb⟩
      have q4 := q3.trans (hb.mono q3.size)
      have C4 := Lib.hid (C3.out.ret' hb)
      clear z z0 z1 z2 z3 z4 z5 z6 z7 hb
      obtain ⟨z, z0, z1, z2, z3, z4, z5, z6, z7⟩ := C4.out
      go_wp2_with fail
      refine bodyPost_ret (v := .tuple #[.agg #[.int .i64 413, .string ⟨#[]⟩, .string ⟨#[]⟩, .bool false], .int .i64 s.size, .bool false]) (by simp (maxDischargeDepth := 9) [results, Tryz.results21, go_sem, *]) rfl ⟨by rw [← HOV.out, oneV_bad HO.out], ?_⟩
      repeat (first | with_reducible exact q4 | with_reducible exact Below.refl _ _ | with_reducible refine Below.drew ?_ | with_reducible refine Below.setCell ?_ (by first | omega | (simp <;> omega)) _ | with_reducible refine Below.alloc ?_ (by first | omega | (simp <;> omega)) _)
    · obtain ⟨n, rfl⟩ : ∃ m : Nat, n = (m : Int) := ⟨n.toNat, by omega⟩
      rw [if_neg h8, Int.toNat_natCast] at ho
      by_cases h9 : s.size < N + 4 + n
      · rw [if_pos (by rw [size_toList]; exact h9)] at ho
        have HO := Lib.hid ho
        have XH := Lib.hid fun w => long_more s HH kp (N + 4) n (by omega) h9 w hs hA
        clear ho
        go_enter Tryz.func21, Tryz.ntmps21
        go_wp2_with fail
        refine (EH.out _).mono ?_
        rintro e w1 ⟨rfl, rfl⟩
        go_wp2_with fail
        refine (JH.out _).mono ?_
        rintro e w2 ⟨rfl, hb⟩
        have q2 := q0.trans (hb.mono q0.size)
        have C2 := Lib.hid (C0.out.ret' hb)
        have al := (Below.refl w2.heap.size w2).alloc (Nat.le_refl _) (.cells #[.int .i64 200, .string HH, .string ⟨#[]⟩, .bool kp] 40)
        have q3 := q2.trans (al.mono q2.size)
        have C3 := Lib.hid (C2.out.ret' al)
        have hlt := C2.out.lt
        clear z z0 z1 z2 z3 z4 z5 z6 z7 hb al
        obtain ⟨z, z0, z1, z2, z3, z4, z5, z6, z7⟩ := C2.out
        go_wp2_with fail
        refine (XH.out _).mono ?_
        rintro e w4 ⟨rfl, hb⟩
        have q4 := q3.trans (hb.mono q3.size)
        have C4 := Lib.hid (C3.out.ret' hb)
        clear z z0 z1 z2 z3 z4 z5 z6 z7 hb
        obtain ⟨z, z0, z1, z2, z3, z4, z5, z6, z7⟩ := C4.out
        go_wp2_with fail
        refine bodyPost_ret (v := .tuple #[cm0, .int .i64 0, .bool true]) (by simp (maxDischargeDepth := 9) [results, Tryz.results21, go_sem, *]) rfl ⟨by rw [← HOV.out, oneV_more HO.out], ?_⟩
        repeat (first | with_reducible exact q4 | with_reducible exact Below.refl _ _ | with_reducible refine Below.drew ?_ | with_reducible refine Below.setCell ?_ (by first | omega | (simp <;> omega)) _ | with_reducible refine Below.alloc ?_ (by first | omega | (simp <;> omega)) _)
      · rw [if_neg (by rw [size_toList]; exact h9)] at ho
        have hb : (s.extract (N + 4) (N + 4 + n)).data.toList = (s.data.toList.drop (N + 4)).take n := by rw [ext_data, Nat.add_sub_cancel_left]
        rw [← hb] at ho
        have HO := Lib.hid ho
        have XH := Lib.hid fun w => long_done s HH kp (N + 4) n (by omega) (by omega) w hs hA
        clear ho hb
        go_enter Tryz.func21, Tryz.ntmps21
        go_wp2_with fail
        refine (EH.out _).mono ?_
        rintro e w1 ⟨rfl, rfl⟩
        go_wp2_with fail
        refine (JH.out _).mono ?_
        rintro e w2 ⟨rfl, hb⟩
        have q2 := q0.trans (hb.mono q0.size)
        have C2 := Lib.hid (C0.out.ret' hb)
        have al := (Below.refl w2.heap.size w2).alloc (Nat.le_refl _) (.cells #[.int .i64 200, .string HH, .string ⟨#[]⟩, .bool kp] 40)
        have q3 := q2.trans (al.mono q2.size)
        have C3 := Lib.hid (C2.out.ret' al)
        have hlt := C2.out.lt
        clear z z0 z1 z2 z3 z4 z5 z6 z7 hb al
        obtain ⟨z, z0, z1, z2, z3, z4, z5, z6, z7⟩ := C2.out
        go_wp2_with fail
        refine (XH.out _).mono ?_
        rintro e w4 ⟨rfl, hb⟩
        have q4 := q3.trans (hb.mono q3.size)
        have C4 := Lib.hid (C3.out.ret' hb)
        clear z z0 z1 z2 z3 z4 z5 z6 z7 hb
        obtain ⟨z, z0, z1, z2, z3, z4, z5, z6, z7⟩ := C4.out
        go_wp2_with fail
        refine bodyPost_ret (v := .tuple #[.agg #[.int .i64 200, .string HH, .string (s.extract (N + 4) (N + 4 + n)), .bool kp], .int .i64 (N + 4 + n : Nat), .bool false]) (by simp (maxDischargeDepth := 9) [results, Tryz.results21, go_sem, *]) rfl ⟨by rw [← HOV.out, oneV_done HO.out], ?_⟩
        repeat (first | with_reducible exact q4 | with_reducible exact Below.refl _ _ | with_reducible refine Below.drew ?_ | with_reducible refine Below.setCell ?_ (by first | omega | (simp <;> omega)) _ | with_reducible refine Below.alloc ?_ (by first | omega | (simp <;> omega)) _)
  rw [if_neg (by show ¬ (2 : Int) = 1; decide)] at ho
  have hd1 := fun h => dc_not' (l := (s.data.toList.take 16384).drop (N + 4)) h
  have hd2 := fun h => dc_true' (l := (s.data.toList.take 16384).drop (N + 4)) h
  have hd3 := dc_len ((s.data.toList.take 16384).drop (N + 4))
  rw [List.length_drop, List.length_take] at hd3
  obtain ⟨⟨bd, u, dn, E⟩, hD⟩ : ∃ d, dcOf ((s.data.toList.take 16384).drop (N + 4)) = d := ⟨_, rfl⟩
  rw [hD] at ho hd1 hd2 hd3
  simp only at hd1 hd2 hd3
  obtain ⟨BB, hBl⟩ : ∃ X : ByteArray, X.data.toList = bd := ⟨⟨bd.toArray⟩, rfl⟩
  rw [← hBl] at hD ho
  unfold wiC at ho
  simp only at ho
  have hA4 : N + 4 ≤ 16384 := by omega
  have hdn : E ≠ 0 → dn = false := fun h => by
    cases dn with
    | false => rfl
    | true => exact absurd (hd2 rfl) h
  clear hd1 hd2 hBl
  by_cases h4 : E = 4
  · obtain rfl := hdn (by omega)
    subst h4
    rw [if_pos rfl] at ho
    have HO := Lib.hid ho
    have XH := Lib.hid fun w => parts_many s HH kp (N + 4) BB u hA4 hD w hs hA
    clear ho hD hdn
    go_enter Tryz.func21, Tryz.ntmps21
    go_wp2_with fail
    refine (EH.out _).mono ?_
    rintro e w1 ⟨rfl, rfl⟩
    go_wp2_with fail
    refine (JH.out _).mono ?_
    rintro e w2 ⟨rfl, hb⟩
    have q2 := q0.trans (hb.mono q0.size)
    have C2 := Lib.hid (C0.out.ret' hb)
    have al := (Below.refl w2.heap.size w2).alloc (Nat.le_refl _) (.cells #[.int .i64 200, .string HH, .string ⟨#[]⟩, .bool kp] 40)
    have q3 := q2.trans (al.mono q2.size)
    have C3 := Lib.hid (C2.out.ret' al)
    have hlt := C2.out.lt
    clear z z0 z1 z2 z3 z4 z5 z6 z7 hb al
    obtain ⟨z, z0, z1, z2, z3, z4, z5, z6, z7⟩ := C2.out
    go_wp2_with fail
    refine (XH.out _).mono ?_
    rintro e w4 ⟨rfl, hb⟩
    have q4 := q3.trans (hb.mono q3.size)
    have C4 := Lib.hid (C3.out.ret' hb)
    clear z z0 z1 z2 z3 z4 z5 z6 z7 hb
    obtain ⟨z, z0, z1, z2, z3, z4, z5, z6, z7⟩ := C4.out
    go_wp2_with fail
    refine bodyPost_ret (v := .tuple #[.agg #[.int .i64 413, .string ⟨#[]⟩, .string ⟨#[]⟩, .bool false], .int .i64 s.size, .bool false]) (by simp (maxDischargeDepth := 9) [results, Tryz.results21, go_sem, *]) rfl ⟨by rw [← HOV.out, oneV_bad HO.out], ?_⟩
    repeat (first | with_reducible exact q4 | with_reducible exact Below.refl _ _ | with_reducible refine Below.drew ?_ | with_reducible refine Below.setCell ?_ (by first | omega | (simp <;> omega)) _ | with_reducible refine Below.alloc ?_ (by first | omega | (simp <;> omega)) _)
  rw [if_neg h4] at ho
  by_cases h0 : E ≠ 0
  · obtain rfl := hdn h0
    rw [if_pos h0] at ho
    have HO := Lib.hid ho
    have XH := Lib.hid fun w => parts_bad s HH kp (N + 4) BB u E h0 h4 hA4 hD w hs hA
    clear ho hD hdn
    go_enter Tryz.func21, Tryz.ntmps21
    go_wp2_with fail
    refine (EH.out _).mono ?_
    rintro e w1 ⟨rfl, rfl⟩
    go_wp2_with fail
    refine (JH.out _).mono ?_
    rintro e w2 ⟨rfl, hb⟩
    have q2 := q0.trans (hb.mono q0.size)
    have C2 := Lib.hid (C0.out.ret' hb)
    have al := (Below.refl w2.heap.size w2).alloc (Nat.le_refl _) (.cells #[.int .i64 200, .string HH, .string ⟨#[]⟩, .bool kp] 40)
    have q3 := q2.trans (al.mono q2.size)
    have C3 := Lib.hid (C2.out.ret' al)
    have hlt := C2.out.lt
    clear z z0 z1 z2 z3 z4 z5 z6 z7 hb al
    obtain ⟨z, z0, z1, z2, z3, z4, z5, z6, z7⟩ := C2.out
    go_wp2_with fail
    refine (XH.out _).mono ?_
    rintro e w4 ⟨rfl, hb⟩
    have q4 := q3.trans (hb.mono q3.size)
    have C4 := Lib.hid (C3.out.ret' hb)
    clear z z0 z1 z2 z3 z4 z5 z6 z7 hb
    obtain ⟨z, z0, z1, z2, z3, z4, z5, z6, z7⟩ := C4.out
    go_wp2_with fail
    refine bodyPost_ret (v := .tuple #[.agg #[.int .i64 400, .string ⟨#[]⟩, .string ⟨#[]⟩, .bool false], .int .i64 s.size, .bool false]) (by simp (maxDischargeDepth := 9) [results, Tryz.results21, go_sem, *]) rfl ⟨by rw [← HOV.out, oneV_bad HO.out], ?_⟩
    repeat (first | with_reducible exact q4 | with_reducible exact Below.refl _ _ | with_reducible refine Below.drew ?_ | with_reducible refine Below.setCell ?_ (by first | omega | (simp <;> omega)) _ | with_reducible refine Below.alloc ?_ (by first | omega | (simp <;> omega)) _)
  obtain rfl : E = 0 := by omega
  rw [if_neg (by decide)] at ho
  clear hdn h4 h0
  cases dn with
  | true =>
    rw [if_pos rfl] at ho
    have HO := Lib.hid ho
    have XH := Lib.hid fun w => parts_done s HH kp (N + 4) BB u (by omega) hA4 hD w hs hA
    clear ho hD
    go_enter Tryz.func21, Tryz.ntmps21
    go_wp2_with fail
    refine (EH.out _).mono ?_
    rintro e w1 ⟨rfl, rfl⟩
    go_wp2_with fail
    refine (JH.out _).mono ?_
    rintro e w2 ⟨rfl, hb⟩
    have q2 := q0.trans (hb.mono q0.size)
    have C2 := Lib.hid (C0.out.ret' hb)
    have al := (Below.refl w2.heap.size w2).alloc (Nat.le_refl _) (.cells #[.int .i64 200, .string HH, .string ⟨#[]⟩, .bool kp] 40)
    have q3 := q2.trans (al.mono q2.size)
    have C3 := Lib.hid (C2.out.ret' al)
    have hlt := C2.out.lt
    clear z z0 z1 z2 z3 z4 z5 z6 z7 hb al
    obtain ⟨z, z0, z1, z2, z3, z4, z5, z6, z7⟩ := C2.out
    go_wp2_with fail
    refine (XH.out _).mono ?_
    rintro e w4 ⟨rfl, hb⟩
    have q4 := q3.trans (hb.mono q3.size)
    have C4 := Lib.hid (C3.out.ret' hb)
    clear z z0 z1 z2 z3 z4 z5 z6 z7 hb
    obtain ⟨z, z0, z1, z2, z3, z4, z5, z6, z7⟩ := C4.out
    go_wp2_with fail
    refine bodyPost_ret (v := .tuple #[.agg #[.int .i64 200, .string HH, .string BB, .bool kp], .int .i64 (N + 4 + u : Nat), .bool false]) (by simp (maxDischargeDepth := 9) [results, Tryz.results21, go_sem, *]) rfl ⟨by rw [← HOV.out, oneV_done HO.out], ?_⟩
    repeat (first | with_reducible exact q4 | with_reducible exact Below.refl _ _ | with_reducible refine Below.drew ?_ | with_reducible refine Below.setCell ?_ (by first | omega | (simp <;> omega)) _ | with_reducible refine Below.alloc ?_ (by first | omega | (simp <;> omega)) _)
  | false =>
    rw [if_neg (by decide)] at ho
    by_cases h6 : 16384 ≤ s.size
    · rw [if_pos (by rw [size_toList]; exact h6)] at ho
      have HO := Lib.hid ho
      have XH := Lib.hid fun w => parts_great s HH kp (N + 4) BB u h6 hA4 hD w hs hA
      clear ho hD
      go_enter Tryz.func21, Tryz.ntmps21
      go_wp2_with fail
      refine (EH.out _).mono ?_
      rintro e w1 ⟨rfl, rfl⟩
      go_wp2_with fail
      refine (JH.out _).mono ?_
      rintro e w2 ⟨rfl, hb⟩
      have q2 := q0.trans (hb.mono q0.size)
      have C2 := Lib.hid (C0.out.ret' hb)
      have al := (Below.refl w2.heap.size w2).alloc (Nat.le_refl _) (.cells #[.int .i64 200, .string HH, .string ⟨#[]⟩, .bool kp] 40)
      have q3 := q2.trans (al.mono q2.size)
      have C3 := Lib.hid (C2.out.ret' al)
      have hlt := C2.out.lt
      clear z z0 z1 z2 z3 z4 z5 z6 z7 hb al
      obtain ⟨z, z0, z1, z2, z3, z4, z5, z6, z7⟩ := C2.out
      go_wp2_with fail
      refine (XH.out _).mono ?_
      rintro e w4 ⟨rfl, hb⟩
      have q4 := q3.trans (hb.mono q3.size)
      have C4 := Lib.hid (C3.out.ret' hb)
      clear z z0 z1 z2 z3 z4 z5 z6 z7 hb
      obtain ⟨z, z0, z1, z2, z3, z4, z5, z6, z7⟩ := C4.out
      go_wp2_with fail
      refine bodyPost_ret (v := .tuple #[.agg #[.int .i64 413, .string ⟨#[]⟩, .string ⟨#[]⟩, .bool false], .int .i64 s.size, .bool false]) (by simp (maxDischargeDepth := 9) [results, Tryz.results21, go_sem, *]) rfl ⟨by rw [← HOV.out, oneV_bad HO.out], ?_⟩
      repeat (first | with_reducible exact q4 | with_reducible exact Below.refl _ _ | with_reducible refine Below.drew ?_ | with_reducible refine Below.setCell ?_ (by first | omega | (simp <;> omega)) _ | with_reducible refine Below.alloc ?_ (by first | omega | (simp <;> omega)) _)
    · rw [if_neg (by rw [size_toList]; exact h6)] at ho
      have HO := Lib.hid ho
      have XH := Lib.hid fun w => parts_more s HH kp (N + 4) BB u h6 hA4 hD w hs hA
      clear ho hD
      go_enter Tryz.func21, Tryz.ntmps21
      go_wp2_with fail
      refine (EH.out _).mono ?_
      rintro e w1 ⟨rfl, rfl⟩
      go_wp2_with fail
      refine (JH.out _).mono ?_
      rintro e w2 ⟨rfl, hb⟩
      have q2 := q0.trans (hb.mono q0.size)
      have C2 := Lib.hid (C0.out.ret' hb)
      have al := (Below.refl w2.heap.size w2).alloc (Nat.le_refl _) (.cells #[.int .i64 200, .string HH, .string ⟨#[]⟩, .bool kp] 40)
      have q3 := q2.trans (al.mono q2.size)
      have C3 := Lib.hid (C2.out.ret' al)
      have hlt := C2.out.lt
      clear z z0 z1 z2 z3 z4 z5 z6 z7 hb al
      obtain ⟨z, z0, z1, z2, z3, z4, z5, z6, z7⟩ := C2.out
      go_wp2_with fail
      refine (XH.out _).mono ?_
      rintro e w4 ⟨rfl, hb⟩
      have q4 := q3.trans (hb.mono q3.size)
      have C4 := Lib.hid (C3.out.ret' hb)
      clear z z0 z1 z2 z3 z4 z5 z6 z7 hb
      obtain ⟨z, z0, z1, z2, z3, z4, z5, z6, z7⟩ := C4.out
      go_wp2_with fail
      refine bodyPost_ret (v := .tuple #[cm0, .int .i64 0, .bool true]) (by simp (maxDischargeDepth := 9) [results, Tryz.results21, go_sem, *]) rfl ⟨by rw [← HOV.out, oneV_more HO.out], ?_⟩
      repeat (first | with_reducible exact q4 | with_reducible exact Below.refl _ _ | with_reducible refine Below.drew ?_ | with_reducible refine Below.setCell ?_ (by first | omega | (simp <;> omega)) _ | with_reducible refine Below.alloc ?_ (by first | omega | (simp <;> omega)) _)
end Go.Proofs.YthgmgmbjjjnhnaaGreatDoor
