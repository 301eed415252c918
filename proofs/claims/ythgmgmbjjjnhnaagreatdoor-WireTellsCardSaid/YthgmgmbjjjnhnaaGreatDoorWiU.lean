/- The document's long, parts, One, May, Check. PRINTED BY PROGRAM (gen_wiu.py). -/
import Derived.Test.YthgmgmbjjjnhnaaGreatDoorWiR
import Derived.IntWalk
namespace Go.Proofs.YthgmgmbjjjnhnaaGreatDoor
open Go.RowKit

set_option maxHeartbeats 8000000 in
set_option maxRecDepth 100000 in
theorem long_bad (s HH : ByteArray) (kp : Bool) (A : Nat) (n : Int) (hn : 8192 < n) (w : World) (hs : s.size ≤ 1000000) (hA : A ≤ s.size) : Calls Tryz.prog 39 #[.string s, .int .i64 A, .agg #[.int .i64 200, .string HH, .string ⟨#[]⟩, .bool kp], .int .i64 n] w (Ret w (.tuple #[.agg #[.int .i64 413, .string ⟨#[]⟩, .string ⟨#[]⟩, .bool false], .int .i64 s.size, .bool false])) := by
  have _ := hs
  have _ := hA
  have q0 := ((Below.refl w.heap.size w).alloc (Nat.le_refl _) (.cells #[.int .i64 200, .string HH, .string ⟨#[]⟩, .bool kp] 40)).alloc (by simp) (.cells #[.int .i64 0, .string ⟨#[]⟩, .string ⟨#[]⟩, .bool false] 40)
  have B0 := Lib.hid ((CmAt.new w (.int .i64 200) (.string HH) (.string ⟨#[]⟩) (.bool kp)).ret' ((Below.refl _ _).alloc (Nat.le_refl _) (.cells #[.int .i64 0, .string ⟨#[]⟩, .string ⟨#[]⟩, .bool false] 40)))
  have C00 := CmAt.new (w.alloc (.cells #[.int .i64 200, .string HH, .string ⟨#[]⟩, .bool kp] 40)) (.int .i64 0) (.string ⟨#[]⟩) (.string ⟨#[]⟩) (.bool false)
  rw [World.size_alloc] at C00
  have C0 := Lib.hid C00
  clear C00
  obtain ⟨y, y0, y1, y2, y3, y4, y5, y6, y7⟩ := B0.out
  obtain ⟨z, z0, z1, z2, z3, z4, z5, z6, z7⟩ := C0.out
  have WH := Lib.hid fun w => r17_wrong 413 s w
  go_enter Tryz.func39, Tryz.ntmps39
  go_wp2_with fail
  refine (WH.out _).mono ?_
  rintro e w1 ⟨rfl, hb⟩
  have q1 := q0.trans (hb.mono q0.size)
  clear y y0 y1 y2 y3 y4 y5 y6 y7 z z0 z1 z2 z3 z4 z5 z6 z7
  obtain ⟨y, y0, y1, y2, y3, y4, y5, y6, y7⟩ := B0.out.ret' hb
  obtain ⟨z, z0, z1, z2, z3, z4, z5, z6, z7⟩ := C0.out.ret' hb
  clear hb
  go_wp2_with fail
  refine bodyPost_ret (v := .tuple #[.agg #[.int .i64 413, .string ⟨#[]⟩, .string ⟨#[]⟩, .bool false], .int .i64 s.size, .bool false]) (by simp (maxDischargeDepth := 9) [results, Tryz.results39, go_sem, *]) rfl ⟨rfl, ?_⟩
  repeat (first | with_reducible exact q1 | with_reducible exact Below.refl _ _ | with_reducible refine Below.drew ?_ | with_reducible refine Below.setCell ?_ (by first | omega | (simp <;> omega)) _ | with_reducible refine Below.alloc ?_ (by first | omega | (simp <;> omega)) _)
set_option maxHeartbeats 8000000 in
set_option maxRecDepth 100000 in
theorem long_more (s HH : ByteArray) (kp : Bool) (A : Nat) (n : Nat) (hn : n ≤ 8192) (h : s.size < A + n) (w : World) (hs : s.size ≤ 1000000) (hA : A ≤ s.size) : Calls Tryz.prog 39 #[.string s, .int .i64 A, .agg #[.int .i64 200, .string HH, .string ⟨#[]⟩, .bool kp], .int .i64 n] w (Ret w (.tuple #[cm0, .int .i64 0, .bool true])) := by
  have _ := hs
  have _ := hA
  have q0 := ((Below.refl w.heap.size w).alloc (Nat.le_refl _) (.cells #[.int .i64 200, .string HH, .string ⟨#[]⟩, .bool kp] 40)).alloc (by simp) (.cells #[.int .i64 0, .string ⟨#[]⟩, .string ⟨#[]⟩, .bool false] 40)
  have B0 := Lib.hid ((CmAt.new w (.int .i64 200) (.string HH) (.string ⟨#[]⟩) (.bool kp)).ret' ((Below.refl _ _).alloc (Nat.le_refl _) (.cells #[.int .i64 0, .string ⟨#[]⟩, .string ⟨#[]⟩, .bool false] 40)))
  have C00 := CmAt.new (w.alloc (.cells #[.int .i64 200, .string HH, .string ⟨#[]⟩, .bool kp] 40)) (.int .i64 0) (.string ⟨#[]⟩) (.string ⟨#[]⟩) (.bool false)
  rw [World.size_alloc] at C00
  have C0 := Lib.hid C00
  clear C00
  obtain ⟨y, y0, y1, y2, y3, y4, y5, y6, y7⟩ := B0.out
  obtain ⟨z, z0, z1, z2, z3, z4, z5, z6, z7⟩ := C0.out
  have g1 : ¬ (8192 : Int) < (n : Int) := by omega
  have g2 : (s.size : Int) < (A : Int) + n := by omega
  go_enter Tryz.func39, Tryz.ntmps39
  go_wp2_with fail
  refine bodyPost_ret (v := .tuple #[cm0, .int .i64 0, .bool true]) (by simp (maxDischargeDepth := 9) [results, Tryz.results39, go_sem, *]) rfl ⟨rfl, ?_⟩
  repeat (first | with_reducible exact q0 | with_reducible exact Below.refl _ _ | with_reducible refine Below.drew ?_ | with_reducible refine Below.setCell ?_ (by first | omega | (simp <;> omega)) _ | with_reducible refine Below.alloc ?_ (by first | omega | (simp <;> omega)) _)
set_option maxHeartbeats 8000000 in
set_option maxRecDepth 100000 in
theorem long_done (s HH : ByteArray) (kp : Bool) (A : Nat) (n : Nat) (hn : n ≤ 8192) (h : A + n ≤ s.size) (w : World) (hs : s.size ≤ 1000000) (hA : A ≤ s.size) : Calls Tryz.prog 39 #[.string s, .int .i64 A, .agg #[.int .i64 200, .string HH, .string ⟨#[]⟩, .bool kp], .int .i64 n] w (Ret w (.tuple #[.agg #[.int .i64 200, .string HH, .string (s.extract A (A + n)), .bool kp], .int .i64 (A + n : Nat), .bool false])) := by
  have _ := hs
  have _ := hA
  have q0 := ((Below.refl w.heap.size w).alloc (Nat.le_refl _) (.cells #[.int .i64 200, .string HH, .string ⟨#[]⟩, .bool kp] 40)).alloc (by simp) (.cells #[.int .i64 0, .string ⟨#[]⟩, .string ⟨#[]⟩, .bool false] 40)
  have B0 := Lib.hid ((CmAt.new w (.int .i64 200) (.string HH) (.string ⟨#[]⟩) (.bool kp)).ret' ((Below.refl _ _).alloc (Nat.le_refl _) (.cells #[.int .i64 0, .string ⟨#[]⟩, .string ⟨#[]⟩, .bool false] 40)))
  have C00 := CmAt.new (w.alloc (.cells #[.int .i64 200, .string HH, .string ⟨#[]⟩, .bool kp] 40)) (.int .i64 0) (.string ⟨#[]⟩) (.string ⟨#[]⟩) (.bool false)
  rw [World.size_alloc] at C00
  have C0 := Lib.hid C00
  clear C00
  obtain ⟨y, y0, y1, y2, y3, y4, y5, y6, y7⟩ := B0.out
  obtain ⟨z, z0, z1, z2, z3, z4, z5, z6, z7⟩ := C0.out
  have g1 : ¬ (8192 : Int) < (n : Int) := by omega
  have g2 : ¬ (s.size : Int) < (A : Int) + n := by omega
  have g3 : (A : Int) + n ≤ s.size := by omega
  have g4 : (0 : Int) ≤ (A : Int) := by omega
  have g5 : (A : Int) ≤ (A : Int) + n := by omega
  have g6 : ((A : Int) + n).toNat = A + n := by omega
  go_enter Tryz.func39, Tryz.ntmps39
  go_wp2_with fail
  refine bodyPost_ret (v := .tuple #[.agg #[.int .i64 200, .string HH, .string (s.extract A (A + n)), .bool kp], .int .i64 (A + n : Nat), .bool false]) (by simp (maxDischargeDepth := 9) [results, Tryz.results39, go_sem, *]) rfl ⟨rfl, ?_⟩
  repeat (first | with_reducible exact q0 | with_reducible exact Below.refl _ _ | with_reducible refine Below.drew ?_ | with_reducible refine Below.setCell ?_ (by first | omega | (simp <;> omega)) _ | with_reducible refine Below.alloc ?_ (by first | omega | (simp <;> omega)) _)
set_option maxHeartbeats 8000000 in
set_option maxRecDepth 100000 in
theorem parts_many (s HH : ByteArray) (kp : Bool) (A : Nat) (BB : ByteArray) (u : Nat)  (hA4 : A ≤ 16384) (hd : dcOf ((s.data.toList.take 16384).drop A) = (BB.data.toList, u, false, 4)) (w : World) (hs : s.size ≤ 1000000) (hA : A ≤ s.size) : Calls Tryz.prog 40 #[.string s, .int .i64 A, .agg #[.int .i64 200, .string HH, .string ⟨#[]⟩, .bool kp]] w (Ret w (.tuple #[.agg #[.int .i64 413, .string ⟨#[]⟩, .string ⟨#[]⟩, .bool false], .int .i64 s.size, .bool false])) := by
  have _ := hs
  have _ := hA
  have q0 := ((Below.refl w.heap.size w).alloc (Nat.le_refl _) (.cells #[.int .i64 200, .string HH, .string ⟨#[]⟩, .bool kp] 40)).alloc (by simp) (.cells #[.int .i64 0, .string ⟨#[]⟩, .string ⟨#[]⟩, .bool false] 40)
  have B0 := Lib.hid ((CmAt.new w (.int .i64 200) (.string HH) (.string ⟨#[]⟩) (.bool kp)).ret' ((Below.refl _ _).alloc (Nat.le_refl _) (.cells #[.int .i64 0, .string ⟨#[]⟩, .string ⟨#[]⟩, .bool false] 40)))
  have C00 := CmAt.new (w.alloc (.cells #[.int .i64 200, .string HH, .string ⟨#[]⟩, .bool kp] 40)) (.int .i64 0) (.string ⟨#[]⟩) (.string ⟨#[]⟩) (.bool false)
  rw [World.size_alloc] at C00
  have C0 := Lib.hid C00
  clear C00
  obtain ⟨y, y0, y1, y2, y3, y4, y5, y6, y7⟩ := B0.out
  obtain ⟨z, z0, z1, z2, z3, z4, z5, z6, z7⟩ := C0.out
  obtain ⟨K, hK⟩ : ∃ K, min s.size 16384 = K := ⟨_, rfl⟩
  have e0 : min (s.size : Int) 16384 = (K : Int) := by omega
  have D0 := fun w => r16_Decode (s.extract A K) w (by rw [ByteArray.size_extract]; omega)
  have hx : (s.extract A K).data.toList = (s.data.toList.take 16384).drop A := by
    rw [ext_data, List.drop_take]
    rcases Nat.le_total s.size 16384 with h | h
    · rw [Nat.min_eq_left h] at hK
      subst hK
      rw [List.take_of_length_le (by rw [List.length_drop, size_toList]; exact Nat.le_refl _), List.take_of_length_le (by rw [List.length_drop, size_toList]; omega)]
    · rw [Nat.min_eq_right h] at hK
      subst hK
      rfl
  unfold dcV at D0
  rw [hx, hd] at D0
  simp only [str_mk] at D0
  have DH := Lib.hid D0
  have g0 : (A : Int) ≤ K := by omega
  have g1 : (K : Int) ≤ s.size := by omega
  have g2 : A ≤ K := by omega
  have g3 : K ≤ s.size := by omega
  have g4 : (0 : Int) ≤ (A : Int) := by omega
  clear D0 hx hd hK
  have WH := Lib.hid fun w => r17_wrong 413 s w
  go_enter Tryz.func40, Tryz.ntmps40
  go_wp2_with fail
  refine (DH.out _).mono ?_
  rintro e wd ⟨rfl, rfl⟩
  go_wp2_with fail
  refine (WH.out _).mono ?_
  rintro e w1 ⟨rfl, hb⟩
  have q1 := q0.trans (hb.mono q0.size)
  clear y y0 y1 y2 y3 y4 y5 y6 y7 z z0 z1 z2 z3 z4 z5 z6 z7
  obtain ⟨y, y0, y1, y2, y3, y4, y5, y6, y7⟩ := B0.out.ret' hb
  obtain ⟨z, z0, z1, z2, z3, z4, z5, z6, z7⟩ := C0.out.ret' hb
  clear hb
  go_wp2_with fail
  refine bodyPost_ret (v := .tuple #[.agg #[.int .i64 413, .string ⟨#[]⟩, .string ⟨#[]⟩, .bool false], .int .i64 s.size, .bool false]) (by simp (maxDischargeDepth := 9) [results, Tryz.results40, go_sem, *]) rfl ⟨rfl, ?_⟩
  repeat (first | with_reducible exact q1 | with_reducible exact Below.refl _ _ | with_reducible refine Below.drew ?_ | with_reducible refine Below.setCell ?_ (by first | omega | (simp <;> omega)) _ | with_reducible refine Below.alloc ?_ (by first | omega | (simp <;> omega)) _)
set_option maxHeartbeats 8000000 in
set_option maxRecDepth 100000 in
theorem parts_bad (s HH : ByteArray) (kp : Bool) (A : Nat) (BB : ByteArray) (u : Nat) (E : Int) (h0 : E ≠ 0) (h4 : E ≠ 4) (hA4 : A ≤ 16384) (hd : dcOf ((s.data.toList.take 16384).drop A) = (BB.data.toList, u, false, E)) (w : World) (hs : s.size ≤ 1000000) (hA : A ≤ s.size) : Calls Tryz.prog 40 #[.string s, .int .i64 A, .agg #[.int .i64 200, .string HH, .string ⟨#[]⟩, .bool kp]] w (Ret w (.tuple #[.agg #[.int .i64 400, .string ⟨#[]⟩, .string ⟨#[]⟩, .bool false], .int .i64 s.size, .bool false])) := by
  have _ := hs
  have _ := hA
  have q0 := ((Below.refl w.heap.size w).alloc (Nat.le_refl _) (.cells #[.int .i64 200, .string HH, .string ⟨#[]⟩, .bool kp] 40)).alloc (by simp) (.cells #[.int .i64 0, .string ⟨#[]⟩, .string ⟨#[]⟩, .bool false] 40)
  have B0 := Lib.hid ((CmAt.new w (.int .i64 200) (.string HH) (.string ⟨#[]⟩) (.bool kp)).ret' ((Below.refl _ _).alloc (Nat.le_refl _) (.cells #[.int .i64 0, .string ⟨#[]⟩, .string ⟨#[]⟩, .bool false] 40)))
  have C00 := CmAt.new (w.alloc (.cells #[.int .i64 200, .string HH, .string ⟨#[]⟩, .bool kp] 40)) (.int .i64 0) (.string ⟨#[]⟩) (.string ⟨#[]⟩) (.bool false)
  rw [World.size_alloc] at C00
  have C0 := Lib.hid C00
  clear C00
  obtain ⟨y, y0, y1, y2, y3, y4, y5, y6, y7⟩ := B0.out
  obtain ⟨z, z0, z1, z2, z3, z4, z5, z6, z7⟩ := C0.out
  obtain ⟨K, hK⟩ : ∃ K, min s.size 16384 = K := ⟨_, rfl⟩
  have e0 : min (s.size : Int) 16384 = (K : Int) := by omega
  have D0 := fun w => r16_Decode (s.extract A K) w (by rw [ByteArray.size_extract]; omega)
  have hx : (s.extract A K).data.toList = (s.data.toList.take 16384).drop A := by
    rw [ext_data, List.drop_take]
    rcases Nat.le_total s.size 16384 with h | h
    · rw [Nat.min_eq_left h] at hK
      subst hK
      rw [List.take_of_length_le (by rw [List.length_drop, size_toList]; exact Nat.le_refl _), List.take_of_length_le (by rw [List.length_drop, size_toList]; omega)]
    · rw [Nat.min_eq_right h] at hK
      subst hK
      rfl
  unfold dcV at D0
  rw [hx, hd] at D0
  simp only [str_mk] at D0
  have DH := Lib.hid D0
  have g0 : (A : Int) ≤ K := by omega
  have g1 : (K : Int) ≤ s.size := by omega
  have g2 : A ≤ K := by omega
  have g3 : K ≤ s.size := by omega
  have g4 : (0 : Int) ≤ (A : Int) := by omega
  clear D0 hx hd hK
  have e1 : (E == 4) = false := by rw [beq_eq_false_iff_ne]; exact h4
  have e2 : (E == 0) = false := by rw [beq_eq_false_iff_ne]; exact h0
  have e3 : (E != 0) = true := by rw [bne_iff_ne]; exact h0
  have WH := Lib.hid fun w => r17_wrong 400 s w
  go_enter Tryz.func40, Tryz.ntmps40
  go_wp2_with fail
  refine (DH.out _).mono ?_
  rintro e wd ⟨rfl, rfl⟩
  go_wp2_with fail
  refine (WH.out _).mono ?_
  rintro e w1 ⟨rfl, hb⟩
  have q1 := q0.trans (hb.mono q0.size)
  clear y y0 y1 y2 y3 y4 y5 y6 y7 z z0 z1 z2 z3 z4 z5 z6 z7
  obtain ⟨y, y0, y1, y2, y3, y4, y5, y6, y7⟩ := B0.out.ret' hb
  obtain ⟨z, z0, z1, z2, z3, z4, z5, z6, z7⟩ := C0.out.ret' hb
  clear hb
  go_wp2_with fail
  refine bodyPost_ret (v := .tuple #[.agg #[.int .i64 400, .string ⟨#[]⟩, .string ⟨#[]⟩, .bool false], .int .i64 s.size, .bool false]) (by simp (maxDischargeDepth := 9) [results, Tryz.results40, go_sem, *]) rfl ⟨rfl, ?_⟩
  repeat (first | with_reducible exact q1 | with_reducible exact Below.refl _ _ | with_reducible refine Below.drew ?_ | with_reducible refine Below.setCell ?_ (by first | omega | (simp <;> omega)) _ | with_reducible refine Below.alloc ?_ (by first | omega | (simp <;> omega)) _)
set_option maxHeartbeats 8000000 in
set_option maxRecDepth 100000 in
theorem parts_done (s HH : ByteArray) (kp : Bool) (A : Nat) (BB : ByteArray) (u : Nat) (hu : u ≤ 1000000) (hA4 : A ≤ 16384) (hd : dcOf ((s.data.toList.take 16384).drop A) = (BB.data.toList, u, true, 0)) (w : World) (hs : s.size ≤ 1000000) (hA : A ≤ s.size) : Calls Tryz.prog 40 #[.string s, .int .i64 A, .agg #[.int .i64 200, .string HH, .string ⟨#[]⟩, .bool kp]] w (Ret w (.tuple #[.agg #[.int .i64 200, .string HH, .string BB, .bool kp], .int .i64 (A + u : Nat), .bool false])) := by
  have _ := hs
  have _ := hA
  have q0 := ((Below.refl w.heap.size w).alloc (Nat.le_refl _) (.cells #[.int .i64 200, .string HH, .string ⟨#[]⟩, .bool kp] 40)).alloc (by simp) (.cells #[.int .i64 0, .string ⟨#[]⟩, .string ⟨#[]⟩, .bool false] 40)
  have B0 := Lib.hid ((CmAt.new w (.int .i64 200) (.string HH) (.string ⟨#[]⟩) (.bool kp)).ret' ((Below.refl _ _).alloc (Nat.le_refl _) (.cells #[.int .i64 0, .string ⟨#[]⟩, .string ⟨#[]⟩, .bool false] 40)))
  have C00 := CmAt.new (w.alloc (.cells #[.int .i64 200, .string HH, .string ⟨#[]⟩, .bool kp] 40)) (.int .i64 0) (.string ⟨#[]⟩) (.string ⟨#[]⟩) (.bool false)
  rw [World.size_alloc] at C00
  have C0 := Lib.hid C00
  clear C00
  obtain ⟨y, y0, y1, y2, y3, y4, y5, y6, y7⟩ := B0.out
  obtain ⟨z, z0, z1, z2, z3, z4, z5, z6, z7⟩ := C0.out
  obtain ⟨K, hK⟩ : ∃ K, min s.size 16384 = K := ⟨_, rfl⟩
  have e0 : min (s.size : Int) 16384 = (K : Int) := by omega
  have D0 := fun w => r16_Decode (s.extract A K) w (by rw [ByteArray.size_extract]; omega)
  have hx : (s.extract A K).data.toList = (s.data.toList.take 16384).drop A := by
    rw [ext_data, List.drop_take]
    rcases Nat.le_total s.size 16384 with h | h
    · rw [Nat.min_eq_left h] at hK
      subst hK
      rw [List.take_of_length_le (by rw [List.length_drop, size_toList]; exact Nat.le_refl _), List.take_of_length_le (by rw [List.length_drop, size_toList]; omega)]
    · rw [Nat.min_eq_right h] at hK
      subst hK
      rfl
  unfold dcV at D0
  rw [hx, hd] at D0
  simp only [str_mk] at D0
  have DH := Lib.hid D0
  have g0 : (A : Int) ≤ K := by omega
  have g1 : (K : Int) ≤ s.size := by omega
  have g2 : A ≤ K := by omega
  have g3 : K ≤ s.size := by omega
  have g4 : (0 : Int) ≤ (A : Int) := by omega
  clear D0 hx hd hK
  go_enter Tryz.func40, Tryz.ntmps40
  go_wp2_with fail
  refine (DH.out _).mono ?_
  rintro e wd ⟨rfl, rfl⟩
  go_wp2_with fail
  refine bodyPost_ret (v := .tuple #[.agg #[.int .i64 200, .string HH, .string BB, .bool kp], .int .i64 (A + u : Nat), .bool false]) (by simp (maxDischargeDepth := 9) [results, Tryz.results40, go_sem, *]) rfl ⟨rfl, ?_⟩
  repeat (first | with_reducible exact q0 | with_reducible exact Below.refl _ _ | with_reducible refine Below.drew ?_ | with_reducible refine Below.setCell ?_ (by first | omega | (simp <;> omega)) _ | with_reducible refine Below.alloc ?_ (by first | omega | (simp <;> omega)) _)
set_option maxHeartbeats 8000000 in
set_option maxRecDepth 100000 in
theorem parts_great (s HH : ByteArray) (kp : Bool) (A : Nat) (BB : ByteArray) (u : Nat) (hg : 16384 ≤ s.size) (hA4 : A ≤ 16384) (hd : dcOf ((s.data.toList.take 16384).drop A) = (BB.data.toList, u, false, 0)) (w : World) (hs : s.size ≤ 1000000) (hA : A ≤ s.size) : Calls Tryz.prog 40 #[.string s, .int .i64 A, .agg #[.int .i64 200, .string HH, .string ⟨#[]⟩, .bool kp]] w (Ret w (.tuple #[.agg #[.int .i64 413, .string ⟨#[]⟩, .string ⟨#[]⟩, .bool false], .int .i64 s.size, .bool false])) := by
  have _ := hs
  have _ := hA
  have q0 := ((Below.refl w.heap.size w).alloc (Nat.le_refl _) (.cells #[.int .i64 200, .string HH, .string ⟨#[]⟩, .bool kp] 40)).alloc (by simp) (.cells #[.int .i64 0, .string ⟨#[]⟩, .string ⟨#[]⟩, .bool false] 40)
  have B0 := Lib.hid ((CmAt.new w (.int .i64 200) (.string HH) (.string ⟨#[]⟩) (.bool kp)).ret' ((Below.refl _ _).alloc (Nat.le_refl _) (.cells #[.int .i64 0, .string ⟨#[]⟩, .string ⟨#[]⟩, .bool false] 40)))
  have C00 := CmAt.new (w.alloc (.cells #[.int .i64 200, .string HH, .string ⟨#[]⟩, .bool kp] 40)) (.int .i64 0) (.string ⟨#[]⟩) (.string ⟨#[]⟩) (.bool false)
  rw [World.size_alloc] at C00
  have C0 := Lib.hid C00
  clear C00
  obtain ⟨y, y0, y1, y2, y3, y4, y5, y6, y7⟩ := B0.out
  obtain ⟨z, z0, z1, z2, z3, z4, z5, z6, z7⟩ := C0.out
  obtain ⟨K, hK⟩ : ∃ K, min s.size 16384 = K := ⟨_, rfl⟩
  have e0 : min (s.size : Int) 16384 = (K : Int) := by omega
  have D0 := fun w => r16_Decode (s.extract A K) w (by rw [ByteArray.size_extract]; omega)
  have hx : (s.extract A K).data.toList = (s.data.toList.take 16384).drop A := by
    rw [ext_data, List.drop_take]
    rcases Nat.le_total s.size 16384 with h | h
    · rw [Nat.min_eq_left h] at hK
      subst hK
      rw [List.take_of_length_le (by rw [List.length_drop, size_toList]; exact Nat.le_refl _), List.take_of_length_le (by rw [List.length_drop, size_toList]; omega)]
    · rw [Nat.min_eq_right h] at hK
      subst hK
      rfl
  unfold dcV at D0
  rw [hx, hd] at D0
  simp only [str_mk] at D0
  have DH := Lib.hid D0
  have g0 : (A : Int) ≤ K := by omega
  have g1 : (K : Int) ≤ s.size := by omega
  have g2 : A ≤ K := by omega
  have g3 : K ≤ s.size := by omega
  have g4 : (0 : Int) ≤ (A : Int) := by omega
  clear D0 hx hd hK
  have g6 : (16384 : Int) ≤ s.size := by omega
  have WH := Lib.hid fun w => r17_wrong 413 s w
  go_enter Tryz.func40, Tryz.ntmps40
  go_wp2_with fail
  refine (DH.out _).mono ?_
  rintro e wd ⟨rfl, rfl⟩
  go_wp2_with fail
  refine (WH.out _).mono ?_
  rintro e w1 ⟨rfl, hb⟩
  have q1 := q0.trans (hb.mono q0.size)
  clear y y0 y1 y2 y3 y4 y5 y6 y7 z z0 z1 z2 z3 z4 z5 z6 z7
  obtain ⟨y, y0, y1, y2, y3, y4, y5, y6, y7⟩ := B0.out.ret' hb
  obtain ⟨z, z0, z1, z2, z3, z4, z5, z6, z7⟩ := C0.out.ret' hb
  clear hb
  go_wp2_with fail
  refine bodyPost_ret (v := .tuple #[.agg #[.int .i64 413, .string ⟨#[]⟩, .string ⟨#[]⟩, .bool false], .int .i64 s.size, .bool false]) (by simp (maxDischargeDepth := 9) [results, Tryz.results40, go_sem, *]) rfl ⟨rfl, ?_⟩
  repeat (first | with_reducible exact q1 | with_reducible exact Below.refl _ _ | with_reducible refine Below.drew ?_ | with_reducible refine Below.setCell ?_ (by first | omega | (simp <;> omega)) _ | with_reducible refine Below.alloc ?_ (by first | omega | (simp <;> omega)) _)
set_option maxHeartbeats 8000000 in
set_option maxRecDepth 100000 in
theorem parts_more (s HH : ByteArray) (kp : Bool) (A : Nat) (BB : ByteArray) (u : Nat) (hg : ¬ 16384 ≤ s.size) (hA4 : A ≤ 16384) (hd : dcOf ((s.data.toList.take 16384).drop A) = (BB.data.toList, u, false, 0)) (w : World) (hs : s.size ≤ 1000000) (hA : A ≤ s.size) : Calls Tryz.prog 40 #[.string s, .int .i64 A, .agg #[.int .i64 200, .string HH, .string ⟨#[]⟩, .bool kp]] w (Ret w (.tuple #[cm0, .int .i64 0, .bool true])) := by
  have _ := hs
  have _ := hA
  have q0 := ((Below.refl w.heap.size w).alloc (Nat.le_refl _) (.cells #[.int .i64 200, .string HH, .string ⟨#[]⟩, .bool kp] 40)).alloc (by simp) (.cells #[.int .i64 0, .string ⟨#[]⟩, .string ⟨#[]⟩, .bool false] 40)
  have B0 := Lib.hid ((CmAt.new w (.int .i64 200) (.string HH) (.string ⟨#[]⟩) (.bool kp)).ret' ((Below.refl _ _).alloc (Nat.le_refl _) (.cells #[.int .i64 0, .string ⟨#[]⟩, .string ⟨#[]⟩, .bool false] 40)))
  have C00 := CmAt.new (w.alloc (.cells #[.int .i64 200, .string HH, .string ⟨#[]⟩, .bool kp] 40)) (.int .i64 0) (.string ⟨#[]⟩) (.string ⟨#[]⟩) (.bool false)
  rw [World.size_alloc] at C00
  have C0 := Lib.hid C00
  clear C00
  obtain ⟨y, y0, y1, y2, y3, y4, y5, y6, y7⟩ := B0.out
  obtain ⟨z, z0, z1, z2, z3, z4, z5, z6, z7⟩ := C0.out
  obtain ⟨K, hK⟩ : ∃ K, min s.size 16384 = K := ⟨_, rfl⟩
  have e0 : min (s.size : Int) 16384 = (K : Int) := by omega
  have D0 := fun w => r16_Decode (s.extract A K) w (by rw [ByteArray.size_extract]; omega)
  have hx : (s.extract A K).data.toList = (s.data.toList.take 16384).drop A := by
    rw [ext_data, List.drop_take]
    rcases Nat.le_total s.size 16384 with h | h
    · rw [Nat.min_eq_left h] at hK
      subst hK
      rw [List.take_of_length_le (by rw [List.length_drop, size_toList]; exact Nat.le_refl _), List.take_of_length_le (by rw [List.length_drop, size_toList]; omega)]
    · rw [Nat.min_eq_right h] at hK
      subst hK
      rfl
  unfold dcV at D0
  rw [hx, hd] at D0
  simp only [str_mk] at D0
  have DH := Lib.hid D0
  have g0 : (A : Int) ≤ K := by omega
  have g1 : (K : Int) ≤ s.size := by omega
  have g2 : A ≤ K := by omega
  have g3 : K ≤ s.size := by omega
  have g4 : (0 : Int) ≤ (A : Int) := by omega
  clear D0 hx hd hK
  have g6 : ¬ (16384 : Int) ≤ s.size := by omega
  go_enter Tryz.func40, Tryz.ntmps40
  go_wp2_with fail
  refine (DH.out _).mono ?_
  rintro e wd ⟨rfl, rfl⟩
  go_wp2_with fail
  refine bodyPost_ret (v := .tuple #[cm0, .int .i64 0, .bool true]) (by simp (maxDischargeDepth := 9) [results, Tryz.results40, go_sem, *]) rfl ⟨rfl, ?_⟩
  repeat (first | with_reducible exact q0 | with_reducible exact Below.refl _ _ | with_reducible refine Below.drew ?_ | with_reducible refine Below.setCell ?_ (by first | omega | (simp <;> omega)) _ | with_reducible refine Below.alloc ?_ (by first | omega | (simp <;> omega)) _)
end Go.Proofs.YthgmgmbjjjnhnaaGreatDoor
