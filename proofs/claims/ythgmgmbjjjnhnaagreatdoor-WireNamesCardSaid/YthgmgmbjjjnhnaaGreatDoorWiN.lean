/- WireNames: the limits, and the chapter's examples. PRINTED BY PROGRAM (gen_win.py). -/
import Derived.Test.YthgmgmbjjjnhnaaGreatDoorWiS
import Derived.Test.YthgmgmbjjjnhnaaGreatDoorMk
namespace Go.Proofs.YthgmgmbjjjnhnaaGreatDoor
open Go.RowKit

set_option maxHeartbeats 4000000 in
theorem comes_at (s : ByteArray) (st : Int) (w : World) (hs : s.size ≤ 1000000) (hm : ML w) (h : wiO s.data.toList = .bad st) : Calls Tryz.prog 14 #[.string s, .int .i64 st] w (Ret w (.bool true)) := by
  have O0 := Lib.hid (one_bad s st w hs hm h)
  clear hm h
  go_enter Tryz.func14, Tryz.ntmps14
  go_wp2_with fail
  refine O0.out.mono ?_
  rintro e w1 ⟨rfl, hb⟩
  go_wp2_with fail
  go_ret
  exact ⟨rfl, hb.alloc hb.size _⟩
theorem ix_zero : ∀ n : Nat, Lib.index (List.replicate n 0) sep4 = -1
  | 0 => rfl
  | n + 1 => by
    have ih := ix_zero n
    rw [List.replicate_succ, Lib.index, ih]
    have : sep4.isPrefixOf ((0 : UInt8) :: List.replicate n 0) = false := sep_no (by decide)
    rw [this]
    rfl
theorem wiN_zero (n : Nat) : wiN (List.replicate n 0) = -1 := by
  unfold wiN
  rw [List.take_replicate]
  exact ix_zero _
theorem wiO_zero : wiO (zstr 4096).data.toList = .bad 400 := by
  unfold wiO
  rw [zstr_list, wiN_zero, if_pos (by decide), if_pos (by rw [List.length_replicate]; decide)]
theorem wiO_zero' : wiO (zstr 4095).data.toList = .more := by
  unfold wiO
  rw [zstr_list, wiN_zero, if_pos (by decide), if_neg (by rw [List.length_replicate]; decide)]
def lst2 : List Cm := [(200, [97], [97, 98], true), (200, [97], [99], false)]
theorem cm_two (w : World) : IsCames (.slice (some ⟨w.heap.size, 0, none⟩) 2 2) lst2 (w.alloc (.cells #[.int .i64 200, .string ⟨#[97]⟩, .string ⟨#[97, 98]⟩, .bool true, .int .i64 200, .string ⟨#[97]⟩, .string ⟨#[99]⟩, .bool false] 40)) := by
  refine ⟨rfl, some ⟨w.heap.size, 0, none⟩, 2, rfl, (fun h => by cases h), .inr ⟨w.heap.size, 0, rfl, by simp, fun j hj => ?_⟩⟩
  rw [Nat.zero_add, World.cell?_alloc_new]
  have hj8 : j < 8 := hj
  match j, hj8 with
  | 0, _ => rfl
  | 1, _ => rfl
  | 2, _ => rfl
  | 3, _ => rfl
  | 4, _ => rfl
  | 5, _ => rfl
  | 6, _ => rfl
  | 7, _ => rfl
theorem wn_1 : wiO [71, 69, 84, 32, 47, 32, 72, 84, 84, 80, 47, 49, 46, 49, 13, 10, 13, 10] = .bad 404 := by kernel_rfl
theorem wn_2 : wiO [120, 13, 10, 13, 10] = .bad 400 := by kernel_rfl
theorem wn_5 : wiO [80, 79, 83, 84, 32, 47, 104, 116, 116, 112, 45, 98, 105, 110, 100, 32, 72, 84, 84, 80, 47, 50, 46, 48, 13, 10, 13, 10] = .bad 505 := by kernel_rfl
theorem wn_6 : wiO [71, 69, 84, 32, 47, 104, 116, 116, 112, 45, 98, 105, 110, 100, 32, 72, 84, 84, 80, 47, 49, 46, 49, 13, 10, 13, 10] = .bad 405 := by kernel_rfl
theorem wn_10 : wiO [13, 10, 13, 10] = .bad 400 := by kernel_rfl
theorem wn_3 : wiO (rqT [] [97, 98]) = .bad 400 := by kernel_rfl
theorem wn_4 : wiO (rqT [99, 111, 110, 116, 101, 110, 116, 45, 108, 101, 110, 103, 116, 104, 58, 32, 56, 49, 57, 51, 13, 10] []) = .bad 413 := by kernel_rfl
theorem wn_7 : wiO (rqT [116, 114, 97, 110, 115, 102, 101, 114, 45, 101, 110, 99, 111, 100, 105, 110, 103, 58, 32, 99, 104, 117, 110, 107, 101, 100, 13, 10] [50, 48, 48, 49, 13, 10]) = .bad 413 := by kernel_rfl
theorem wn_8 : wiO (rqT [116, 114, 97, 110, 115, 102, 101, 114, 45, 101, 110, 99, 111, 100, 105, 110, 103, 58, 32, 99, 104, 117, 110, 107, 101, 100, 13, 10] [120]) = .bad 400 := by kernel_rfl
def sA : List UInt8 := rqT [99, 111, 110, 116, 101, 110, 116, 45, 108, 101, 110, 103, 116, 104, 58, 32, 50, 13, 10] [97, 98]
def sB : List UInt8 := rqT [116, 114, 97, 110, 115, 102, 101, 114, 45, 101, 110, 99, 111, 100, 105, 110, 103, 58, 32, 99, 104, 117, 110, 107, 101, 100, 13, 10, 99, 111, 110, 110, 101, 99, 116, 105, 111, 110, 58, 32, 99, 108, 111, 115, 101, 13, 10] [49, 13, 10, 99, 13, 10, 48, 13, 10, 13, 10]
theorem wn_feed : fdT [] false (sA ++ sB ++ [109, 111, 114, 101]) = (([], true), lst2, 0) := by kernel_rfl
theorem wn_check : wiCk (sA ++ sB) false = 8 := by kernel_rfl
theorem wn_len : sA.length = 58 ∧ sB.length = 95 := by decide +kernel
theorem wn_feed2 : fdT [] true [109, 111, 114, 101] = (([], true), [], 0) := by kernel_rfl
theorem wn_feed3 : fdT [120] true [] = (([], false), [], 8) := by kernel_rfl
theorem wn_feed4 : fdT [] false (List.replicate 16385 0) = (([], false), [], 4) := by
  have h : wiCk [] false = 0 := by kernel_rfl
  unfold fdT
  rw [h, if_neg (by decide), if_pos (by rw [List.length_replicate]; decide)]
set_option maxHeartbeats 16000000 in
set_option maxRecDepth 100000 in
theorem names17 (w : World) (hm : ML w) : Calls Tryz.prog 4 #[] w (Ret w (.bool true)) := by
  have M0 := Lib.hid hm
  have q0 := Below.refl w.heap.size w
  clear hm
  have H1 := Lib.hid fun w hm => comes_at ⟨#[71, 69, 84, 32, 47, 32, 72, 84, 84, 80, 47, 49, 46, 49, 13, 10, 13, 10]⟩ 404 w (by decide) hm wn_1
  have H2 := Lib.hid fun w hm => comes_at ⟨#[120, 13, 10, 13, 10]⟩ 400 w (by decide) hm wn_2
  have H5 := Lib.hid fun w hm => comes_at ⟨#[80, 79, 83, 84, 32, 47, 104, 116, 116, 112, 45, 98, 105, 110, 100, 32, 72, 84, 84, 80, 47, 50, 46, 48, 13, 10, 13, 10]⟩ 505 w (by decide) hm wn_5
  have H6 := Lib.hid fun w hm => comes_at ⟨#[71, 69, 84, 32, 47, 104, 116, 116, 112, 45, 98, 105, 110, 100, 32, 72, 84, 84, 80, 47, 49, 46, 49, 13, 10, 13, 10]⟩ 405 w (by decide) hm wn_6
  have H10 := Lib.hid fun w hm => comes_at ⟨#[13, 10, 13, 10]⟩ 400 w (by decide) hm wn_10
  have Q3 := fun w => wi_request ⟨#[]⟩ ⟨#[97, 98]⟩ w (by decide) (by decide)
  obtain ⟨S3, hS3⟩ : ∃ X : ByteArray, ⟨(rqT (⟨#[]⟩ : ByteArray).data.toList (⟨#[97, 98]⟩ : ByteArray).data.toList).toArray⟩ = X := ⟨_, rfl⟩
  have hL3 : S3.data.toList = rqT [] [97, 98] := by rw [← hS3]
  rw [hS3] at Q3
  have Q3 := Lib.hid Q3
  have zS3 : S3.size ≤ 1000000 := by rw [← size_toList, hL3]; decide +kernel
  have H3 := Lib.hid fun w hm => comes_at S3 400 w zS3 hm (by rw [hL3]; exact wn_3)
  clear hS3 hL3 zS3
  have Q4 := fun w => wi_request ⟨#[99, 111, 110, 116, 101, 110, 116, 45, 108, 101, 110, 103, 116, 104, 58, 32, 56, 49, 57, 51, 13, 10]⟩ ⟨#[]⟩ w (by decide) (by decide)
  obtain ⟨S4, hS4⟩ : ∃ X : ByteArray, ⟨(rqT (⟨#[99, 111, 110, 116, 101, 110, 116, 45, 108, 101, 110, 103, 116, 104, 58, 32, 56, 49, 57, 51, 13, 10]⟩ : ByteArray).data.toList (⟨#[]⟩ : ByteArray).data.toList).toArray⟩ = X := ⟨_, rfl⟩
  have hL4 : S4.data.toList = rqT [99, 111, 110, 116, 101, 110, 116, 45, 108, 101, 110, 103, 116, 104, 58, 32, 56, 49, 57, 51, 13, 10] [] := by rw [← hS4]
  rw [hS4] at Q4
  have Q4 := Lib.hid Q4
  have zS4 : S4.size ≤ 1000000 := by rw [← size_toList, hL4]; decide +kernel
  have H4 := Lib.hid fun w hm => comes_at S4 413 w zS4 hm (by rw [hL4]; exact wn_4)
  clear hS4 hL4 zS4
  have Q7 := fun w => wi_request ⟨#[116, 114, 97, 110, 115, 102, 101, 114, 45, 101, 110, 99, 111, 100, 105, 110, 103, 58, 32, 99, 104, 117, 110, 107, 101, 100, 13, 10]⟩ ⟨#[50, 48, 48, 49, 13, 10]⟩ w (by decide) (by decide)
  obtain ⟨S7, hS7⟩ : ∃ X : ByteArray, ⟨(rqT (⟨#[116, 114, 97, 110, 115, 102, 101, 114, 45, 101, 110, 99, 111, 100, 105, 110, 103, 58, 32, 99, 104, 117, 110, 107, 101, 100, 13, 10]⟩ : ByteArray).data.toList (⟨#[50, 48, 48, 49, 13, 10]⟩ : ByteArray).data.toList).toArray⟩ = X := ⟨_, rfl⟩
  have hL7 : S7.data.toList = rqT [116, 114, 97, 110, 115, 102, 101, 114, 45, 101, 110, 99, 111, 100, 105, 110, 103, 58, 32, 99, 104, 117, 110, 107, 101, 100, 13, 10] [50, 48, 48, 49, 13, 10] := by rw [← hS7]
  rw [hS7] at Q7
  have Q7 := Lib.hid Q7
  have zS7 : S7.size ≤ 1000000 := by rw [← size_toList, hL7]; decide +kernel
  have H7 := Lib.hid fun w hm => comes_at S7 413 w zS7 hm (by rw [hL7]; exact wn_7)
  clear hS7 hL7 zS7
  have Q8 := fun w => wi_request ⟨#[116, 114, 97, 110, 115, 102, 101, 114, 45, 101, 110, 99, 111, 100, 105, 110, 103, 58, 32, 99, 104, 117, 110, 107, 101, 100, 13, 10]⟩ ⟨#[120]⟩ w (by decide) (by decide)
  obtain ⟨S8, hS8⟩ : ∃ X : ByteArray, ⟨(rqT (⟨#[116, 114, 97, 110, 115, 102, 101, 114, 45, 101, 110, 99, 111, 100, 105, 110, 103, 58, 32, 99, 104, 117, 110, 107, 101, 100, 13, 10]⟩ : ByteArray).data.toList (⟨#[120]⟩ : ByteArray).data.toList).toArray⟩ = X := ⟨_, rfl⟩
  have hL8 : S8.data.toList = rqT [116, 114, 97, 110, 115, 102, 101, 114, 45, 101, 110, 99, 111, 100, 105, 110, 103, 58, 32, 99, 104, 117, 110, 107, 101, 100, 13, 10] [120] := by rw [← hS8]
  rw [hS8] at Q8
  have Q8 := Lib.hid Q8
  have zS8 : S8.size ≤ 1000000 := by rw [← size_toList, hL8]; decide +kernel
  have H8 := Lib.hid fun w hm => comes_at S8 400 w zS8 hm (by rw [hL8]; exact wn_8)
  clear hS8 hL8 zS8
  have H9 := Lib.hid fun w hm => comes_at (zstr 4096) 400 w (by rw [zstr_size]; decide) hm wiO_zero
  have O9 := Lib.hid fun w hm => one_more (zstr 4095) w (by rw [zstr_size]; decide) hm wiO_zero'
  have QA := fun w => wi_request ⟨#[99, 111, 110, 116, 101, 110, 116, 45, 108, 101, 110, 103, 116, 104, 58, 32, 50, 13, 10]⟩ ⟨#[97, 98]⟩ w (by decide) (by decide)
  obtain ⟨SA, hSA⟩ : ∃ X : ByteArray, ⟨(rqT (⟨#[99, 111, 110, 116, 101, 110, 116, 45, 108, 101, 110, 103, 116, 104, 58, 32, 50, 13, 10]⟩ : ByteArray).data.toList (⟨#[97, 98]⟩ : ByteArray).data.toList).toArray⟩ = X := ⟨_, rfl⟩
  have hLA : SA.data.toList = rqT [99, 111, 110, 116, 101, 110, 116, 45, 108, 101, 110, 103, 116, 104, 58, 32, 50, 13, 10] [97, 98] := by rw [← hSA]
  rw [hSA] at QA
  have QA := Lib.hid QA
  have QB := fun w => wi_request ⟨#[116, 114, 97, 110, 115, 102, 101, 114, 45, 101, 110, 99, 111, 100, 105, 110, 103, 58, 32, 99, 104, 117, 110, 107, 101, 100, 13, 10, 99, 111, 110, 110, 101, 99, 116, 105, 111, 110, 58, 32, 99, 108, 111, 115, 101, 13, 10]⟩ ⟨#[49, 13, 10, 99, 13, 10, 48, 13, 10, 13, 10]⟩ w (by decide) (by decide)
  obtain ⟨SB, hSB⟩ : ∃ X : ByteArray, ⟨(rqT (⟨#[116, 114, 97, 110, 115, 102, 101, 114, 45, 101, 110, 99, 111, 100, 105, 110, 103, 58, 32, 99, 104, 117, 110, 107, 101, 100, 13, 10, 99, 111, 110, 110, 101, 99, 116, 105, 111, 110, 58, 32, 99, 108, 111, 115, 101, 13, 10]⟩ : ByteArray).data.toList (⟨#[49, 13, 10, 99, 13, 10, 48, 13, 10, 13, 10]⟩ : ByteArray).data.toList).toArray⟩ = X := ⟨_, rfl⟩
  have hLB : SB.data.toList = rqT [116, 114, 97, 110, 115, 102, 101, 114, 45, 101, 110, 99, 111, 100, 105, 110, 103, 58, 32, 99, 104, 117, 110, 107, 101, 100, 13, 10, 99, 111, 110, 110, 101, 99, 116, 105, 111, 110, 58, 32, 99, 108, 111, 115, 101, 13, 10] [49, 13, 10, 99, 13, 10, 48, 13, 10, 13, 10] := by rw [← hSB]
  rw [hSB] at QB
  have QB := Lib.hid QB
  have zA : SA.size = 58 := by rw [← size_toList, hLA]; exact wn_len.1
  have zB : SB.size = 95 := by rw [← size_toList, hLB]; exact wn_len.2
  have zAB : (SA ++ SB).size = SA.size + SB.size := ByteArray.size_append
  have zABm : ((SA ++ SB) ++ ⟨#[109, 111, 114, 101]⟩ : ByteArray).size = SA.size + SB.size + 4 := by rw [ByteArray.size_append, zAB]; rfl
  have F1 := Lib.hid fun w hm => feed_at ⟨#[]⟩ ((SA ++ SB) ++ ⟨#[109, 111, 114, 101]⟩) ⟨#[]⟩ false true lst2 0 w (by decide) hm (by rw [app_data, app_data, hLA, hLB]; exact wn_feed)
  have F2 := Lib.hid fun w hm => feed_at ⟨#[]⟩ ⟨#[109, 111, 114, 101]⟩ ⟨#[]⟩ true true [] 0 w (by decide) hm wn_feed2
  have F3 := Lib.hid fun w hm => feed_at ⟨#[120]⟩ ⟨#[]⟩ ⟨#[]⟩ true false [] 8 w (by decide) hm wn_feed3
  have F4 := Lib.hid fun w hm => feed_at ⟨#[]⟩ (zstr 16385) ⟨#[]⟩ false false [] 4 w (by decide) hm (by rw [zstr_list]; exact wn_feed4)
  have CK0 := fun w hm => wi_Check (SA ++ SB) false w (by rw [zAB, zA, zB]; decide) hm
  rw [app_data, hLA, hLB] at CK0
  have CK1 : ∀ w, ML w → Calls Tryz.prog 20 #[.agg #[.string (SA ++ SB), .bool false]] w (Ret w (.int .i64 8)) := by
    intro w hm
    have := CK0 w hm
    rwa [show wiCk (rqT [99, 111, 110, 116, 101, 110, 116, 45, 108, 101, 110, 103, 116, 104, 58, 32, 50, 13, 10] [97, 98] ++ rqT [116, 114, 97, 110, 115, 102, 101, 114, 45, 101, 110, 99, 111, 100, 105, 110, 103, 58, 32, 99, 104, 117, 110, 107, 101, 100, 13, 10, 99, 111, 110, 110, 101, 99, 116, 105, 111, 110, 58, 32, 99, 108, 111, 115, 101, 13, 10] [49, 13, 10, 99, 13, 10, 48, 13, 10, 13, 10]) false = 8 from wn_check] at this
  have CK := Lib.hid CK1
  have n1 : ¬ 9223372036854775807 < SA.size + SB.size := by omega
  have n2 : ¬ 9223372036854775807 < SA.size + SB.size + 4 := by omega
  clear CK0 CK1 zAB zABm hLA hLB hSA hSB zA zB
  go_enter Tryz.func4, Tryz.ntmps4
  go_wp2_with fail
  refine (H1.out _ M0.out).mono ?_
  rintro e w1 ⟨rfl, hb⟩
  have q1 := q0.trans (hb.mono q0.size)
  have M1 := Lib.hid (M0.out.ret hb)
  clear hb
  go_wp2_with fail
  refine (H2.out _ M1.out).mono ?_
  rintro e w2 ⟨rfl, hb⟩
  have q2 := q1.trans (hb.mono q1.size)
  have M2 := Lib.hid (M1.out.ret hb)
  clear hb
  go_wp2_with fail
  refine (Q3.out _).mono ?_
  rintro e u ⟨rfl, rfl⟩
  go_wp2_with fail
  refine (H3.out _ M2.out).mono ?_
  rintro e w3 ⟨rfl, hb⟩
  have q3 := q2.trans (hb.mono q2.size)
  have M3 := Lib.hid (M2.out.ret hb)
  clear hb
  go_wp2_with fail
  refine (Q4.out _).mono ?_
  rintro e u ⟨rfl, rfl⟩
  go_wp2_with fail
  refine (H4.out _ M3.out).mono ?_
  rintro e w4 ⟨rfl, hb⟩
  have q4 := q3.trans (hb.mono q3.size)
  have M4 := Lib.hid (M3.out.ret hb)
  clear hb
  go_wp2_with fail
  refine (H5.out _ M4.out).mono ?_
  rintro e w5 ⟨rfl, hb⟩
  have q5 := q4.trans (hb.mono q4.size)
  have M5 := Lib.hid (M4.out.ret hb)
  clear hb
  go_wp2_with fail
  refine (H6.out _ M5.out).mono ?_
  rintro e w6 ⟨rfl, hb⟩
  have q6 := q5.trans (hb.mono q5.size)
  have M6 := Lib.hid (M5.out.ret hb)
  clear hb
  go_wp2_with fail
  refine (Q7.out _).mono ?_
  rintro e u ⟨rfl, rfl⟩
  go_wp2_with fail
  refine (H7.out _ M6.out).mono ?_
  rintro e w7 ⟨rfl, hb⟩
  have q7 := q6.trans (hb.mono q6.size)
  have M7 := Lib.hid (M6.out.ret hb)
  clear hb
  go_wp2_with fail
  refine (Q8.out _).mono ?_
  rintro e u ⟨rfl, rfl⟩
  go_wp2_with fail
  refine (H8.out _ M7.out).mono ?_
  rintro e w8 ⟨rfl, hb⟩
  have q8 := q7.trans (hb.mono q7.size)
  have M8 := Lib.hid (M7.out.ret hb)
  clear hb
  have hmk := mk_bytes 4096 (by omega) w8
  have hcv := mk_conv 4096 w8
  simp only [Int.cast_ofNat_Int] at hmk
  go_wp2_with fail
  have al := (Below.refl w8.heap.size w8).alloc (Nat.le_refl _) (.cells (zrow 4096) 5)
  have q9 := q8.trans (al.mono q8.size)
  have M9 := Lib.hid (M8.out.ret al)
  clear al hmk hcv
  refine (H9.out _ M9.out).mono ?_
  rintro e w10 ⟨rfl, hb⟩
  have q10 := q9.trans (hb.mono q9.size)
  have M10 := Lib.hid (M9.out.ret hb)
  clear hb
  go_wp2_with fail
  refine (H10.out _ M10.out).mono ?_
  rintro e w11 ⟨rfl, hb⟩
  have q11 := q10.trans (hb.mono q10.size)
  have M11 := Lib.hid (M10.out.ret hb)
  clear hb
  have hmk := mk_bytes 4095 (by omega) w11
  have hcv := mk_conv 4095 w11
  simp only [Int.cast_ofNat_Int] at hmk
  go_wp2_with fail
  have al := (Below.refl w11.heap.size w11).alloc (Nat.le_refl _) (.cells (zrow 4095) 5)
  have q12 := q11.trans (al.mono q11.size)
  have M12 := Lib.hid (M11.out.ret al)
  clear al hmk hcv
  refine (O9.out _ M12.out).mono ?_
  rintro e w13 ⟨rfl, hb⟩
  have q13 := q12.trans (hb.mono q12.size)
  have M13 := Lib.hid (M12.out.ret hb)
  clear hb
  have al := (Below.refl w13.heap.size w13).alloc (Nat.le_refl _) (.cells #[.int .i64 0, .string ⟨#[]⟩, .string ⟨#[]⟩, .bool false] 40)
  have q14 := q13.trans (al.mono q13.size)
  have M14 := Lib.hid (M13.out.ret al)
  clear al
  go_wp2_with fail
  refine (QA.out _).mono ?_
  rintro e u ⟨rfl, rfl⟩
  go_wp2_with fail
  refine (QB.out _).mono ?_
  rintro e u ⟨rfl, rfl⟩
  go_wp2_with fail
  refine (F1.out _ M14.out).mono ?_
  rintro e w15 ⟨v1, rfl, hv, hb⟩
  have q15 := q14.trans (hb.mono q14.size)
  have M15 := Lib.hid (M14.out.ret hb)
  have Vv1 := Lib.hid hv
  clear hv hb
  have WA0 := Lib.hid (WrAt.new w15 (.string ⟨#[]⟩) (.bool true))
  have al := (Below.refl w15.heap.size w15).alloc (Nat.le_refl _) (.cells #[.string ⟨#[]⟩, .bool true] 44)
  have q16 := q15.trans (al.mono q15.size)
  have M16 := Lib.hid (M15.out.ret al)
  have Vv1 := Lib.hid (Vv1.out.ret al)
  clear al
  have WA := WA0
  clear WA0
  obtain ⟨m, m0, m1, m2, m3⟩ := WA.out
  go_wp2_with fail
  have LT0 := cm_two (w15.alloc (.cells #[.string ⟨#[]⟩, .bool true] 44))
  rw [World.size_alloc] at LT0
  have LT := Lib.hid LT0
  clear LT0
  have al := (Below.refl (w15.alloc (.cells #[.string ⟨#[]⟩, .bool true] 44)).heap.size (w15.alloc (.cells #[.string ⟨#[]⟩, .bool true] 44))).alloc (Nat.le_refl _) (.cells #[.int .i64 200, .string ⟨#[97]⟩, .string ⟨#[97, 98]⟩, .bool true, .int .i64 200, .string ⟨#[97]⟩, .string ⟨#[99]⟩, .bool false] 40)
  have q17 := q16.trans (al.mono q16.size)
  have M17 := Lib.hid (M16.out.ret al)
  have Vv1 := Lib.hid (Vv1.out.ret al)
  have WA := Lib.hid (WA.out.ret' al)
  clear al
  have SM := Lib.hid (r17_Same v1 _ lst2 _ Vv1.out LT.out (by decide))
  refine SM.out.mono ?_
  rintro e w18 ⟨rfl, hb⟩
  have q18 := q17.trans (hb.mono q17.size)
  have M18 := Lib.hid (M17.out.ret hb)
  have Vv1 := Lib.hid (Vv1.out.ret hb)
  have WA := Lib.hid (WA.out.ret' hb)
  clear hb m m0 m1 m2 m3
  obtain ⟨m, m0, m1, m2, m3⟩ := WA.out
  go_wp2_with fail
  refine (F2.out _ M18.out).mono ?_
  rintro e w19 ⟨v2, rfl, hv, hb⟩
  have q19 := q18.trans (hb.mono q18.size)
  have M19 := Lib.hid (M18.out.ret hb)
  have Vv1 := Lib.hid (Vv1.out.ret hb)
  have WA := Lib.hid (WA.out.ret' hb)
  have Vv2 := Lib.hid hv
  clear hv hb
  have XA0 := Lib.hid (WrAt.new w19 (.string ⟨#[]⟩) (.bool true))
  have al := (Below.refl w19.heap.size w19).alloc (Nat.le_refl _) (.cells #[.string ⟨#[]⟩, .bool true] 44)
  have q20 := q19.trans (al.mono q19.size)
  have M20 := Lib.hid (M19.out.ret al)
  have Vv1 := Lib.hid (Vv1.out.ret al)
  have WA := Lib.hid (WA.out.ret' al)
  have Vv2 := Lib.hid (Vv2.out.ret al)
  clear al
  have XA := XA0
  clear XA0
  go_wp2_with fail
  refine (F3.out _ M20.out).mono ?_
  rintro e w21 ⟨v3, rfl, hv, hb⟩
  have q21 := q20.trans (hb.mono q20.size)
  have M21 := Lib.hid (M20.out.ret hb)
  have Vv1 := Lib.hid (Vv1.out.ret hb)
  have WA := Lib.hid (WA.out.ret' hb)
  have Vv2 := Lib.hid (Vv2.out.ret hb)
  have XA := Lib.hid (XA.out.ret' hb)
  have Vv3 := Lib.hid hv
  clear hv hb
  have al := (Below.refl w21.heap.size w21).alloc (Nat.le_refl _) (.cells #[.string ⟨#[]⟩, .bool false] 44)
  have q22 := q21.trans (al.mono q21.size)
  have M22 := Lib.hid (M21.out.ret al)
  have Vv1 := Lib.hid (Vv1.out.ret al)
  have WA := Lib.hid (WA.out.ret' al)
  have Vv2 := Lib.hid (Vv2.out.ret al)
  have XA := Lib.hid (XA.out.ret' al)
  have Vv3 := Lib.hid (Vv3.out.ret al)
  clear al
  have hmk := mk_bytes 16385 (by omega) (w21.alloc (.cells #[.string ⟨#[]⟩, .bool false] 44))
  have hcv := mk_conv 16385 (w21.alloc (.cells #[.string ⟨#[]⟩, .bool false] 44))
  simp only [Int.cast_ofNat_Int] at hmk
  rw [World.size_alloc] at hmk hcv
  go_wp2_with fail
  have al := (Below.refl (w21.alloc (.cells #[.string ⟨#[]⟩, .bool false] 44)).heap.size (w21.alloc (.cells #[.string ⟨#[]⟩, .bool false] 44))).alloc (Nat.le_refl _) (.cells (zrow 16385) 5)
  have q23 := q22.trans (al.mono q22.size)
  have M23 := Lib.hid (M22.out.ret al)
  have Vv1 := Lib.hid (Vv1.out.ret al)
  have WA := Lib.hid (WA.out.ret' al)
  have Vv2 := Lib.hid (Vv2.out.ret al)
  have XA := Lib.hid (XA.out.ret' al)
  have Vv3 := Lib.hid (Vv3.out.ret al)
  clear al hmk hcv
  refine (F4.out _ M23.out).mono ?_
  rintro e w24 ⟨v4, rfl, hv, hb⟩
  have q24 := q23.trans (hb.mono q23.size)
  have M24 := Lib.hid (M23.out.ret hb)
  have Vv1 := Lib.hid (Vv1.out.ret hb)
  have WA := Lib.hid (WA.out.ret' hb)
  have Vv2 := Lib.hid (Vv2.out.ret hb)
  have XA := Lib.hid (XA.out.ret' hb)
  have Vv3 := Lib.hid (Vv3.out.ret hb)
  have Vv4 := Lib.hid hv
  clear hv hb
  have al := (Below.refl w24.heap.size w24).alloc (Nat.le_refl _) (.cells #[.string ⟨#[]⟩, .bool false] 44)
  have q25 := q24.trans (al.mono q24.size)
  have M25 := Lib.hid (M24.out.ret al)
  have Vv1 := Lib.hid (Vv1.out.ret al)
  have WA := Lib.hid (WA.out.ret' al)
  have Vv2 := Lib.hid (Vv2.out.ret al)
  have XA := Lib.hid (XA.out.ret' al)
  have Vv3 := Lib.hid (Vv3.out.ret al)
  have Vv4 := Lib.hid (Vv4.out.ret al)
  clear al
  go_wp2_with fail
  refine (alive17 _ M25.out).mono ?_
  rintro e w26 ⟨rfl, hb⟩
  have q26 := q25.trans (hb.mono q25.size)
  have M26 := Lib.hid (M25.out.ret hb)
  have Vv1 := Lib.hid (Vv1.out.ret hb)
  have WA := Lib.hid (WA.out.ret' hb)
  have Vv2 := Lib.hid (Vv2.out.ret hb)
  have XA := Lib.hid (XA.out.ret' hb)
  have Vv3 := Lib.hid (Vv3.out.ret hb)
  have Vv4 := Lib.hid (Vv4.out.ret hb)
  clear hb m m0 m1 m2 m3
  obtain ⟨m, m0, m1, m2, m3⟩ := WA.out
  obtain ⟨x, x0, x1, x2, x3⟩ := XA.out
  obtain ⟨va, vc, rfl⟩ := Vv2.out.form
  go_wp2_with fail
  refine (CK.out _ M26.out).mono ?_
  rintro e w27 ⟨rfl, hb⟩
  have q27 := q26.trans (hb.mono q26.size)
  go_wp2_with fail
  go_ret
  exact ⟨rfl, q27⟩
end Go.Proofs.YthgmgmbjjjnhnaaGreatDoor
