/- sub.Take: what comes of a stanza that the contact sent. PRINTED BY PROGRAM (gen_sub.py). -/
import Derived.Test.YtfonkblbgadhmaaGreatDoorKh
namespace Go.Proofs.YtfonkblbgadhmaaGreatDoor
open Go.RowKit
attribute [local go_sem ↓] Go.wp_at_zero Go.wp_at_succ

set_option maxHeartbeats 4000000 in
theorem sub_Take1t (a b d : Bool) (ho : (a && b || true && d) = false) (w : World) :
  Calls Tryz.prog 34 #[.agg #[.bool a, .bool b, .bool true, .bool d], .int .u8 1] w (Ret w (.tuple #[.agg #[.bool a, .bool b, .bool true, .bool !true], .bool !(true || d), .int .u8 2, .int .i64 0])) := by
 have HO := Lib.hid ho
 clear ho
 go_enter Tryz.func34, Tryz.ntmps34
 go_upto_region 1 with fail
 go_cut [7, 8] (fun s6 s7 wx => s6 = .int .i64 0 ∧ ∃ G : Nat, s7 = .pointer (some ⟨G, 0, none⟩) ∧ w.heap.size + 2 ≤ G ∧ G < wx.heap.size ∧ wx.cell? ⟨G, 0, none⟩ = some (.func (.func 93) #[] #[]) ∧ wx.cell? ⟨G, 1, none⟩ = some (.func (.func 99) #[] #[]) ∧ wx.cell? ⟨w.heap.size, 0, none⟩ = some (.bool a) ∧ wx.cell? ⟨w.heap.size, 1, none⟩ = some (.bool b) ∧ wx.cell? ⟨w.heap.size, 2, none⟩ = some (.bool true) ∧ wx.cell? ⟨w.heap.size, 3, none⟩ = some (.bool d) ∧ wx.cell? ⟨w.heap.size + 1, 0, none⟩ = some (.bool false) ∧ wx.cell? ⟨w.heap.size + 1, 1, none⟩ = some (.bool false) ∧ wx.cell? ⟨w.heap.size + 1, 2, none⟩ = some (.bool false) ∧ wx.cell? ⟨w.heap.size + 1, 3, none⟩ = some (.bool false) ∧ wx.frozen? ⟨w.heap.size + 1, 0, none⟩ = false ∧ wx.frozen? ⟨w.heap.size + 1, 1, none⟩ = false ∧ wx.frozen? ⟨w.heap.size + 1, 2, none⟩ = false ∧ wx.frozen? ⟨w.heap.size + 1, 3, none⟩ = false ∧ Below w.heap.size w wx)
 case first =>
  go_region_held3 (fun w' => w'.cell? ⟨w.heap.size, 0, none⟩ = some (.bool a) ∧ w'.cell? ⟨w.heap.size, 1, none⟩ = some (.bool b) ∧ w'.cell? ⟨w.heap.size, 2, none⟩ = some (.bool true) ∧ w'.cell? ⟨w.heap.size, 3, none⟩ = some (.bool d)) (simp (maxDischargeDepth := 9) [go_sem, World.cell?_alloc_some, *])
   (first
    | (go_at_call 68; refine (sub_taken _).mono ?_; rintro e w1 ⟨m, rfl, hm, hb⟩; obtain ⟨hc, hf, hz, hB⟩ := bfacts (w := w) hb (by go_grown); simp only [World.size_alloc, World.size_drew] at hz; have z0 : w.heap.size < w1.heap.size := (by omega); have z1 : w.heap.size + 1 < w1.heap.size := (by omega); (try have z2 : w.heap.size + 2 < w1.heap.size := (by omega)))
    | (go_at_call 64; refine (sub_asked a b true d 1 m takenMap 0 _ _ _ (by first | exact hm | (exact (Below.heap_alloc _ _ _ (Array.getElem?_eq_some_iff.1 hm).1).trans hm)) HO.out rfl).mono ?_; rintro e w2 ⟨rfl, hb2⟩; obtain ⟨hc2, hf2, hz2, hB2⟩ := bfacts (w := w) hb2 (by go_grown); (try simp only [World.size_alloc] at hz2); have z20 : w.heap.size < w2.heap.size := (by omega); have z21 : w.heap.size + 1 < w2.heap.size := (by omega); (try have z22 : w.heap.size + 2 < w2.heap.size := (by omega))))
  all_goals
   go_wp2_with fail
   go_meet
   refine ⟨rfl, _, rfl, ?_, ?_, ?_⟩
   ·first | omega | (simp; done)
   ·simp <;> omega
   ·simp (maxDischargeDepth := 9) [go_sem, World.cell?_alloc_some, *]
    go_grown
 case rest =>
  obtain ⟨rfl, G, rfl, hG, hG2, g0, g1, b0, b1, b2, b3, r0, r1, r2, r3, f0, f1, f2, f3, hB⟩ := hcut
  have z0 := Nat.lt_trans (Nat.lt_of_succ_le hG) hG2
  go_wp2_with (go_at_call 66; refine (sub_halves _ _ _ _ _).mono ?_; rintro e w1 ⟨rfl, hb⟩; obtain ⟨hc, hf, hz, hB1⟩ := bfacts (w := w) hb (by go_grown); have z1 : w.heap.size < w1.heap.size := (by omega); have z2 : w.heap.size + 1 < w1.heap.size := (by omega); have z3 : G < w1.heap.size := (by omega))
  go_region_held3 (fun w' => w'.cell? ⟨G, 0, none⟩ = some (.func (.func 93) #[] #[]) ∧ w'.cell? ⟨G, 1, none⟩ = some (.func (.func 99) #[] #[]) ∧ w'.cell? ⟨w1.heap.size, 0, none⟩ = some (.bool a) ∧ w'.cell? ⟨w1.heap.size, 1, none⟩ = some (.bool b) ∧ w'.cell? ⟨w1.heap.size + 1, 0, none⟩ = some (.bool true) ∧ w'.cell? ⟨w1.heap.size + 1, 1, none⟩ = some (.bool d)) (simp (maxDischargeDepth := 9) [go_sem, World.cell?_alloc_some, *])
   (first
    | (go_at_call 93; refine (sub_ask _ _ _).mono ?_; rintro e w2 ⟨rfl, hb2⟩; obtain ⟨hc2, hf2, hz2, hB2⟩ := bfacts (w := w) hb2 (by go_grown); simp only [World.size_alloc, World.size_drew] at hz2; have z20 : w.heap.size + 1 < w2.heap.size := (by omega); have z21 : w1.heap.size < w2.heap.size := (by omega); have z22 : w1.heap.size + 1 < w2.heap.size := (by omega); have z23 : G < w2.heap.size := (by omega))
    | (go_at_call 67; refine (sub_whole _ _ _ _ _).mono ?_; rintro e w3 ⟨rfl, hb3⟩; obtain ⟨hc3, hf3, hz3, hB3⟩ := bfacts (w := w) hb3 (by go_grown); have z30 : w.heap.size + 1 < w3.heap.size := (by omega); have z31 : w1.heap.size < w3.heap.size := (by omega); have z32 : w1.heap.size + 1 < w3.heap.size := (by omega); have z33 : G < w3.heap.size := (by omega))
    | (go_at_call 99; refine (sub_never _ _ _).mono ?_; rintro e w4 ⟨rfl, hb4⟩; obtain ⟨hc4, hf4, hz4, hB4⟩ := bfacts (w := w) hb4 (by go_grown); have z40 : w.heap.size + 1 < w4.heap.size := (by omega); have z41 : w1.heap.size < w4.heap.size := (by omega); have z42 : w1.heap.size + 1 < w4.heap.size := (by omega); have z43 : G < w4.heap.size := (by omega)))
  all_goals go_wp2
  all_goals refine bodyPost_ret (v := .tuple #[.agg #[.bool a, .bool b, .bool true, .bool !true], .bool !(true || d), .int .u8 2, .int .i64 0]) (by simp (maxDischargeDepth := 9) [results, Tryz.results34, go_sem, *]) rfl ?_
  all_goals exact ⟨rfl, by go_grown⟩

set_option maxHeartbeats 4000000 in
theorem sub_Take1f (a b d : Bool) (ho : (a && b || false && d) = false) (w : World) :
  Calls Tryz.prog 34 #[.agg #[.bool a, .bool b, .bool false, .bool d], .int .u8 1] w (Ret w (.tuple #[.agg #[.bool a, .bool b, .bool false, .bool !false], .bool !(false || d), .int .u8 0, .int .i64 0])) := by
 have HO := Lib.hid ho
 clear ho
 go_enter Tryz.func34, Tryz.ntmps34
 go_upto_region 1 with fail
 go_cut [7, 8] (fun s6 s7 wx => s6 = .int .i64 0 ∧ ∃ G : Nat, s7 = .pointer (some ⟨G, 0, none⟩) ∧ w.heap.size + 2 ≤ G ∧ G < wx.heap.size ∧ wx.cell? ⟨G, 0, none⟩ = some (.func (.func 93) #[] #[]) ∧ wx.cell? ⟨G, 1, none⟩ = some (.func (.func 99) #[] #[]) ∧ wx.cell? ⟨w.heap.size, 0, none⟩ = some (.bool a) ∧ wx.cell? ⟨w.heap.size, 1, none⟩ = some (.bool b) ∧ wx.cell? ⟨w.heap.size, 2, none⟩ = some (.bool false) ∧ wx.cell? ⟨w.heap.size, 3, none⟩ = some (.bool d) ∧ wx.cell? ⟨w.heap.size + 1, 0, none⟩ = some (.bool false) ∧ wx.cell? ⟨w.heap.size + 1, 1, none⟩ = some (.bool false) ∧ wx.cell? ⟨w.heap.size + 1, 2, none⟩ = some (.bool false) ∧ wx.cell? ⟨w.heap.size + 1, 3, none⟩ = some (.bool false) ∧ wx.frozen? ⟨w.heap.size + 1, 0, none⟩ = false ∧ wx.frozen? ⟨w.heap.size + 1, 1, none⟩ = false ∧ wx.frozen? ⟨w.heap.size + 1, 2, none⟩ = false ∧ wx.frozen? ⟨w.heap.size + 1, 3, none⟩ = false ∧ Below w.heap.size w wx)
 case first =>
  go_region_held3 (fun w' => w'.cell? ⟨w.heap.size, 0, none⟩ = some (.bool a) ∧ w'.cell? ⟨w.heap.size, 1, none⟩ = some (.bool b) ∧ w'.cell? ⟨w.heap.size, 2, none⟩ = some (.bool false) ∧ w'.cell? ⟨w.heap.size, 3, none⟩ = some (.bool d)) (simp (maxDischargeDepth := 9) [go_sem, World.cell?_alloc_some, *])
   (first
    | (go_at_call 68; refine (sub_taken _).mono ?_; rintro e w1 ⟨m, rfl, hm, hb⟩; obtain ⟨hc, hf, hz, hB⟩ := bfacts (w := w) hb (by go_grown); simp only [World.size_alloc, World.size_drew] at hz; have z0 : w.heap.size < w1.heap.size := (by omega); have z1 : w.heap.size + 1 < w1.heap.size := (by omega); (try have z2 : w.heap.size + 2 < w1.heap.size := (by omega)))
    | (go_at_call 64; refine (sub_asked a b false d 1 m takenMap 0 _ _ _ (by first | exact hm | (exact (Below.heap_alloc _ _ _ (Array.getElem?_eq_some_iff.1 hm).1).trans hm)) HO.out rfl).mono ?_; rintro e w2 ⟨rfl, hb2⟩; obtain ⟨hc2, hf2, hz2, hB2⟩ := bfacts (w := w) hb2 (by go_grown); (try simp only [World.size_alloc] at hz2); have z20 : w.heap.size < w2.heap.size := (by omega); have z21 : w.heap.size + 1 < w2.heap.size := (by omega); (try have z22 : w.heap.size + 2 < w2.heap.size := (by omega))))
  all_goals
   go_wp2_with fail
   go_meet
   refine ⟨rfl, _, rfl, ?_, ?_, ?_⟩
   ·first | omega | (simp; done)
   ·simp <;> omega
   ·simp (maxDischargeDepth := 9) [go_sem, World.cell?_alloc_some, *]
    go_grown
 case rest =>
  obtain ⟨rfl, G, rfl, hG, hG2, g0, g1, b0, b1, b2, b3, r0, r1, r2, r3, f0, f1, f2, f3, hB⟩ := hcut
  have z0 := Nat.lt_trans (Nat.lt_of_succ_le hG) hG2
  go_wp2_with (go_at_call 66; refine (sub_halves _ _ _ _ _).mono ?_; rintro e w1 ⟨rfl, hb⟩; obtain ⟨hc, hf, hz, hB1⟩ := bfacts (w := w) hb (by go_grown); have z1 : w.heap.size < w1.heap.size := (by omega); have z2 : w.heap.size + 1 < w1.heap.size := (by omega); have z3 : G < w1.heap.size := (by omega))
  go_region_held3 (fun w' => w'.cell? ⟨G, 0, none⟩ = some (.func (.func 93) #[] #[]) ∧ w'.cell? ⟨G, 1, none⟩ = some (.func (.func 99) #[] #[]) ∧ w'.cell? ⟨w1.heap.size, 0, none⟩ = some (.bool a) ∧ w'.cell? ⟨w1.heap.size, 1, none⟩ = some (.bool b) ∧ w'.cell? ⟨w1.heap.size + 1, 0, none⟩ = some (.bool false) ∧ w'.cell? ⟨w1.heap.size + 1, 1, none⟩ = some (.bool d)) (simp (maxDischargeDepth := 9) [go_sem, World.cell?_alloc_some, *])
   (first
    | (go_at_call 93; refine (sub_ask _ _ _).mono ?_; rintro e w2 ⟨rfl, hb2⟩; obtain ⟨hc2, hf2, hz2, hB2⟩ := bfacts (w := w) hb2 (by go_grown); simp only [World.size_alloc, World.size_drew] at hz2; have z20 : w.heap.size + 1 < w2.heap.size := (by omega); have z21 : w1.heap.size < w2.heap.size := (by omega); have z22 : w1.heap.size + 1 < w2.heap.size := (by omega); have z23 : G < w2.heap.size := (by omega))
    | (go_at_call 67; refine (sub_whole _ _ _ _ _).mono ?_; rintro e w3 ⟨rfl, hb3⟩; obtain ⟨hc3, hf3, hz3, hB3⟩ := bfacts (w := w) hb3 (by go_grown); have z30 : w.heap.size + 1 < w3.heap.size := (by omega); have z31 : w1.heap.size < w3.heap.size := (by omega); have z32 : w1.heap.size + 1 < w3.heap.size := (by omega); have z33 : G < w3.heap.size := (by omega))
    | (go_at_call 99; refine (sub_never _ _ _).mono ?_; rintro e w4 ⟨rfl, hb4⟩; obtain ⟨hc4, hf4, hz4, hB4⟩ := bfacts (w := w) hb4 (by go_grown); have z40 : w.heap.size + 1 < w4.heap.size := (by omega); have z41 : w1.heap.size < w4.heap.size := (by omega); have z42 : w1.heap.size + 1 < w4.heap.size := (by omega); have z43 : G < w4.heap.size := (by omega)))
  all_goals go_wp2
  all_goals refine bodyPost_ret (v := .tuple #[.agg #[.bool a, .bool b, .bool false, .bool !false], .bool !(false || d), .int .u8 0, .int .i64 0]) (by simp (maxDischargeDepth := 9) [results, Tryz.results34, go_sem, *]) rfl ?_
  all_goals exact ⟨rfl, by go_grown⟩

set_option maxHeartbeats 4000000 in
theorem sub_Take3 (a b c d : Bool) (ho : (a && b || c && d) = false) (w : World) :
  Calls Tryz.prog 34 #[.agg #[.bool a, .bool b, .bool c, .bool d], .int .u8 3] w (Ret w (.tuple #[.agg #[.bool a, .bool b, .bool false, .bool false], .bool (c || d), .int .u8 0, .int .i64 0])) := by
 have HO := Lib.hid ho
 clear ho
 go_enter Tryz.func34, Tryz.ntmps34
 go_upto_region 1 with fail
 go_cut [7, 8] (fun s6 s7 wx => s6 = .int .i64 0 ∧ ∃ G : Nat, s7 = .pointer (some ⟨G, 0, none⟩) ∧ w.heap.size + 2 ≤ G ∧ G < wx.heap.size ∧ wx.cell? ⟨G, 0, none⟩ = some (.func (.func 95) #[] #[]) ∧ wx.cell? ⟨G, 1, none⟩ = some (.func (.func 98) #[] #[]) ∧ wx.cell? ⟨w.heap.size, 0, none⟩ = some (.bool a) ∧ wx.cell? ⟨w.heap.size, 1, none⟩ = some (.bool b) ∧ wx.cell? ⟨w.heap.size, 2, none⟩ = some (.bool c) ∧ wx.cell? ⟨w.heap.size, 3, none⟩ = some (.bool d) ∧ wx.cell? ⟨w.heap.size + 1, 0, none⟩ = some (.bool false) ∧ wx.cell? ⟨w.heap.size + 1, 1, none⟩ = some (.bool false) ∧ wx.cell? ⟨w.heap.size + 1, 2, none⟩ = some (.bool false) ∧ wx.cell? ⟨w.heap.size + 1, 3, none⟩ = some (.bool false) ∧ wx.frozen? ⟨w.heap.size + 1, 0, none⟩ = false ∧ wx.frozen? ⟨w.heap.size + 1, 1, none⟩ = false ∧ wx.frozen? ⟨w.heap.size + 1, 2, none⟩ = false ∧ wx.frozen? ⟨w.heap.size + 1, 3, none⟩ = false ∧ Below w.heap.size w wx)
 case first =>
  go_region_held3 (fun w' => w'.cell? ⟨w.heap.size, 0, none⟩ = some (.bool a) ∧ w'.cell? ⟨w.heap.size, 1, none⟩ = some (.bool b) ∧ w'.cell? ⟨w.heap.size, 2, none⟩ = some (.bool c) ∧ w'.cell? ⟨w.heap.size, 3, none⟩ = some (.bool d)) (simp (maxDischargeDepth := 9) [go_sem, World.cell?_alloc_some, *])
   (first
    | (go_at_call 68; refine (sub_taken _).mono ?_; rintro e w1 ⟨m, rfl, hm, hb⟩; obtain ⟨hc, hf, hz, hB⟩ := bfacts (w := w) hb (by go_grown); simp only [World.size_alloc, World.size_drew] at hz; have z0 : w.heap.size < w1.heap.size := (by omega); have z1 : w.heap.size + 1 < w1.heap.size := (by omega); (try have z2 : w.heap.size + 2 < w1.heap.size := (by omega)))
    | (go_at_call 64; refine (sub_asked a b c d 3 m takenMap 1 _ _ _ (by first | exact hm | (exact (Below.heap_alloc _ _ _ (Array.getElem?_eq_some_iff.1 hm).1).trans hm)) HO.out rfl).mono ?_; rintro e w2 ⟨rfl, hb2⟩; obtain ⟨hc2, hf2, hz2, hB2⟩ := bfacts (w := w) hb2 (by go_grown); (try simp only [World.size_alloc] at hz2); have z20 : w.heap.size < w2.heap.size := (by omega); have z21 : w.heap.size + 1 < w2.heap.size := (by omega); (try have z22 : w.heap.size + 2 < w2.heap.size := (by omega))))
  all_goals
   go_wp2_with fail
   go_meet
   refine ⟨rfl, _, rfl, ?_, ?_, ?_⟩
   ·first | omega | (simp; done)
   ·simp <;> omega
   ·simp (maxDischargeDepth := 9) [go_sem, World.cell?_alloc_some, *]
    go_grown
 case rest =>
  obtain ⟨rfl, G, rfl, hG, hG2, g0, g1, b0, b1, b2, b3, r0, r1, r2, r3, f0, f1, f2, f3, hB⟩ := hcut
  have z0 := Nat.lt_trans (Nat.lt_of_succ_le hG) hG2
  go_wp2_with (go_at_call 66; refine (sub_halves _ _ _ _ _).mono ?_; rintro e w1 ⟨rfl, hb⟩; obtain ⟨hc, hf, hz, hB1⟩ := bfacts (w := w) hb (by go_grown); have z1 : w.heap.size < w1.heap.size := (by omega); have z2 : w.heap.size + 1 < w1.heap.size := (by omega); have z3 : G < w1.heap.size := (by omega))
  go_region_held3 (fun w' => w'.cell? ⟨G, 0, none⟩ = some (.func (.func 95) #[] #[]) ∧ w'.cell? ⟨G, 1, none⟩ = some (.func (.func 98) #[] #[]) ∧ w'.cell? ⟨w1.heap.size, 0, none⟩ = some (.bool a) ∧ w'.cell? ⟨w1.heap.size, 1, none⟩ = some (.bool b) ∧ w'.cell? ⟨w1.heap.size + 1, 0, none⟩ = some (.bool c) ∧ w'.cell? ⟨w1.heap.size + 1, 1, none⟩ = some (.bool d)) (simp (maxDischargeDepth := 9) [go_sem, World.cell?_alloc_some, *])
   (first
    | (go_at_call 95; refine (sub_none _ _ _).mono ?_; rintro e w2 ⟨rfl, hb2⟩; obtain ⟨hc2, hf2, hz2, hB2⟩ := bfacts (w := w) hb2 (by go_grown); simp only [World.size_alloc, World.size_drew] at hz2; have z20 : w.heap.size + 1 < w2.heap.size := (by omega); have z21 : w1.heap.size < w2.heap.size := (by omega); have z22 : w1.heap.size + 1 < w2.heap.size := (by omega); have z23 : G < w2.heap.size := (by omega))
    | (go_at_call 67; refine (sub_whole _ _ _ _ _).mono ?_; rintro e w3 ⟨rfl, hb3⟩; obtain ⟨hc3, hf3, hz3, hB3⟩ := bfacts (w := w) hb3 (by go_grown); have z30 : w.heap.size + 1 < w3.heap.size := (by omega); have z31 : w1.heap.size < w3.heap.size := (by omega); have z32 : w1.heap.size + 1 < w3.heap.size := (by omega); have z33 : G < w3.heap.size := (by omega))
    | (go_at_call 98; refine (sub_either _ _ _).mono ?_; rintro e w4 ⟨rfl, hb4⟩; obtain ⟨hc4, hf4, hz4, hB4⟩ := bfacts (w := w) hb4 (by go_grown); have z40 : w.heap.size + 1 < w4.heap.size := (by omega); have z41 : w1.heap.size < w4.heap.size := (by omega); have z42 : w1.heap.size + 1 < w4.heap.size := (by omega); have z43 : G < w4.heap.size := (by omega)))
  all_goals go_wp2
  all_goals refine bodyPost_ret (v := .tuple #[.agg #[.bool a, .bool b, .bool false, .bool false], .bool (c || d), .int .u8 0, .int .i64 0]) (by simp (maxDischargeDepth := 9) [results, Tryz.results34, go_sem, *]) rfl ?_
  all_goals exact ⟨rfl, by go_grown⟩

set_option maxHeartbeats 4000000 in
theorem sub_Take2 (a b c d : Bool) (ho : (a && b || c && d) = false) (w : World) :
  Calls Tryz.prog 34 #[.agg #[.bool a, .bool b, .bool c, .bool d], .int .u8 2] w (Ret w (.tuple #[.agg #[.bool (a || b), .bool false, .bool c, .bool d], .bool b, .int .u8 0, .int .i64 0])) := by
 have HO := Lib.hid ho
 clear ho
 go_enter Tryz.func34, Tryz.ntmps34
 go_upto_region 1 with fail
 go_cut [7, 8] (fun s6 s7 wx => s6 = .int .i64 0 ∧ ∃ G : Nat, s7 = .pointer (some ⟨G, 0, none⟩) ∧ w.heap.size + 2 ≤ G ∧ G < wx.heap.size ∧ wx.cell? ⟨G, 0, none⟩ = some (.func (.func 96) #[] #[]) ∧ wx.cell? ⟨G, 1, none⟩ = some (.func (.func 97) #[] #[]) ∧ wx.cell? ⟨w.heap.size, 0, none⟩ = some (.bool a) ∧ wx.cell? ⟨w.heap.size, 1, none⟩ = some (.bool b) ∧ wx.cell? ⟨w.heap.size, 2, none⟩ = some (.bool c) ∧ wx.cell? ⟨w.heap.size, 3, none⟩ = some (.bool d) ∧ wx.cell? ⟨w.heap.size + 1, 0, none⟩ = some (.bool false) ∧ wx.cell? ⟨w.heap.size + 1, 1, none⟩ = some (.bool false) ∧ wx.cell? ⟨w.heap.size + 1, 2, none⟩ = some (.bool false) ∧ wx.cell? ⟨w.heap.size + 1, 3, none⟩ = some (.bool false) ∧ wx.frozen? ⟨w.heap.size + 1, 0, none⟩ = false ∧ wx.frozen? ⟨w.heap.size + 1, 1, none⟩ = false ∧ wx.frozen? ⟨w.heap.size + 1, 2, none⟩ = false ∧ wx.frozen? ⟨w.heap.size + 1, 3, none⟩ = false ∧ Below w.heap.size w wx)
 case first =>
  go_region_held3 (fun w' => w'.cell? ⟨w.heap.size, 0, none⟩ = some (.bool a) ∧ w'.cell? ⟨w.heap.size, 1, none⟩ = some (.bool b) ∧ w'.cell? ⟨w.heap.size, 2, none⟩ = some (.bool c) ∧ w'.cell? ⟨w.heap.size, 3, none⟩ = some (.bool d)) (simp (maxDischargeDepth := 9) [go_sem, World.cell?_alloc_some, *])
   (first
    | (go_at_call 68; refine (sub_taken _).mono ?_; rintro e w1 ⟨m, rfl, hm, hb⟩; obtain ⟨hc, hf, hz, hB⟩ := bfacts (w := w) hb (by go_grown); simp only [World.size_alloc, World.size_drew] at hz; have z0 : w.heap.size < w1.heap.size := (by omega); have z1 : w.heap.size + 1 < w1.heap.size := (by omega); (try have z2 : w.heap.size + 2 < w1.heap.size := (by omega)))
    | (go_at_call 64; refine (sub_asked a b c d 2 m takenMap 2 _ _ _ (by first | exact hm | (exact (Below.heap_alloc _ _ _ (Array.getElem?_eq_some_iff.1 hm).1).trans hm)) HO.out rfl).mono ?_; rintro e w2 ⟨rfl, hb2⟩; obtain ⟨hc2, hf2, hz2, hB2⟩ := bfacts (w := w) hb2 (by go_grown); (try simp only [World.size_alloc] at hz2); have z20 : w.heap.size < w2.heap.size := (by omega); have z21 : w.heap.size + 1 < w2.heap.size := (by omega); (try have z22 : w.heap.size + 2 < w2.heap.size := (by omega))))
  all_goals
   go_wp2_with fail
   go_meet
   refine ⟨rfl, _, rfl, ?_, ?_, ?_⟩
   ·first | omega | (simp; done)
   ·simp <;> omega
   ·simp (maxDischargeDepth := 9) [go_sem, World.cell?_alloc_some, *]
    go_grown
 case rest =>
  obtain ⟨rfl, G, rfl, hG, hG2, g0, g1, b0, b1, b2, b3, r0, r1, r2, r3, f0, f1, f2, f3, hB⟩ := hcut
  have z0 := Nat.lt_trans (Nat.lt_of_succ_le hG) hG2
  go_wp2_with (go_at_call 66; refine (sub_halves _ _ _ _ _).mono ?_; rintro e w1 ⟨rfl, hb⟩; obtain ⟨hc, hf, hz, hB1⟩ := bfacts (w := w) hb (by go_grown); have z1 : w.heap.size < w1.heap.size := (by omega); have z2 : w.heap.size + 1 < w1.heap.size := (by omega); have z3 : G < w1.heap.size := (by omega))
  go_region_held3 (fun w' => w'.cell? ⟨G, 0, none⟩ = some (.func (.func 96) #[] #[]) ∧ w'.cell? ⟨G, 1, none⟩ = some (.func (.func 97) #[] #[]) ∧ w'.cell? ⟨w1.heap.size, 0, none⟩ = some (.bool a) ∧ w'.cell? ⟨w1.heap.size, 1, none⟩ = some (.bool b) ∧ w'.cell? ⟨w1.heap.size + 1, 0, none⟩ = some (.bool c) ∧ w'.cell? ⟨w1.heap.size + 1, 1, none⟩ = some (.bool d)) (simp (maxDischargeDepth := 9) [go_sem, World.cell?_alloc_some, *])
   (first
    | (go_at_call 96; refine (sub_yes _ _ _).mono ?_; rintro e w2 ⟨rfl, hb2⟩; obtain ⟨hc2, hf2, hz2, hB2⟩ := bfacts (w := w) hb2 (by go_grown); simp only [World.size_alloc, World.size_drew] at hz2; have z20 : w.heap.size + 1 < w2.heap.size := (by omega); have z21 : w1.heap.size < w2.heap.size := (by omega); have z22 : w1.heap.size + 1 < w2.heap.size := (by omega); have z23 : G < w2.heap.size := (by omega))
    | (go_at_call 67; refine (sub_whole _ _ _ _ _).mono ?_; rintro e w3 ⟨rfl, hb3⟩; obtain ⟨hc3, hf3, hz3, hB3⟩ := bfacts (w := w) hb3 (by go_grown); have z30 : w.heap.size + 1 < w3.heap.size := (by omega); have z31 : w1.heap.size < w3.heap.size := (by omega); have z32 : w1.heap.size + 1 < w3.heap.size := (by omega); have z33 : G < w3.heap.size := (by omega))
    | (go_at_call 97; refine (sub_waits _ _ _).mono ?_; rintro e w4 ⟨rfl, hb4⟩; obtain ⟨hc4, hf4, hz4, hB4⟩ := bfacts (w := w) hb4 (by go_grown); have z40 : w.heap.size + 1 < w4.heap.size := (by omega); have z41 : w1.heap.size < w4.heap.size := (by omega); have z42 : w1.heap.size + 1 < w4.heap.size := (by omega); have z43 : G < w4.heap.size := (by omega)))
  all_goals go_wp2
  all_goals refine bodyPost_ret (v := .tuple #[.agg #[.bool (a || b), .bool false, .bool c, .bool d], .bool b, .int .u8 0, .int .i64 0]) (by simp (maxDischargeDepth := 9) [results, Tryz.results34, go_sem, *]) rfl ?_
  all_goals exact ⟨rfl, by go_grown⟩

set_option maxHeartbeats 4000000 in
theorem sub_Take4 (a b c d : Bool) (ho : (a && b || c && d) = false) (w : World) :
  Calls Tryz.prog 34 #[.agg #[.bool a, .bool b, .bool c, .bool d], .int .u8 4] w (Ret w (.tuple #[.agg #[.bool false, .bool false, .bool c, .bool d], .bool (a || b), .int .u8 0, .int .i64 0])) := by
 have HO := Lib.hid ho
 clear ho
 go_enter Tryz.func34, Tryz.ntmps34
 go_upto_region 1 with fail
 go_cut [7, 8] (fun s6 s7 wx => s6 = .int .i64 0 ∧ ∃ G : Nat, s7 = .pointer (some ⟨G, 0, none⟩) ∧ w.heap.size + 2 ≤ G ∧ G < wx.heap.size ∧ wx.cell? ⟨G, 0, none⟩ = some (.func (.func 95) #[] #[]) ∧ wx.cell? ⟨G, 1, none⟩ = some (.func (.func 98) #[] #[]) ∧ wx.cell? ⟨w.heap.size, 0, none⟩ = some (.bool a) ∧ wx.cell? ⟨w.heap.size, 1, none⟩ = some (.bool b) ∧ wx.cell? ⟨w.heap.size, 2, none⟩ = some (.bool c) ∧ wx.cell? ⟨w.heap.size, 3, none⟩ = some (.bool d) ∧ wx.cell? ⟨w.heap.size + 1, 0, none⟩ = some (.bool false) ∧ wx.cell? ⟨w.heap.size + 1, 1, none⟩ = some (.bool false) ∧ wx.cell? ⟨w.heap.size + 1, 2, none⟩ = some (.bool false) ∧ wx.cell? ⟨w.heap.size + 1, 3, none⟩ = some (.bool false) ∧ wx.frozen? ⟨w.heap.size + 1, 0, none⟩ = false ∧ wx.frozen? ⟨w.heap.size + 1, 1, none⟩ = false ∧ wx.frozen? ⟨w.heap.size + 1, 2, none⟩ = false ∧ wx.frozen? ⟨w.heap.size + 1, 3, none⟩ = false ∧ Below w.heap.size w wx)
 case first =>
  go_region_held3 (fun w' => w'.cell? ⟨w.heap.size, 0, none⟩ = some (.bool a) ∧ w'.cell? ⟨w.heap.size, 1, none⟩ = some (.bool b) ∧ w'.cell? ⟨w.heap.size, 2, none⟩ = some (.bool c) ∧ w'.cell? ⟨w.heap.size, 3, none⟩ = some (.bool d)) (simp (maxDischargeDepth := 9) [go_sem, World.cell?_alloc_some, *])
   (first
    | (go_at_call 68; refine (sub_taken _).mono ?_; rintro e w1 ⟨m, rfl, hm, hb⟩; obtain ⟨hc, hf, hz, hB⟩ := bfacts (w := w) hb (by go_grown); simp only [World.size_alloc, World.size_drew] at hz; have z0 : w.heap.size < w1.heap.size := (by omega); have z1 : w.heap.size + 1 < w1.heap.size := (by omega); (try have z2 : w.heap.size + 2 < w1.heap.size := (by omega)))
    | (go_at_call 64; refine (sub_asked a b c d 4 m takenMap 3 _ _ _ (by first | exact hm | (exact (Below.heap_alloc _ _ _ (Array.getElem?_eq_some_iff.1 hm).1).trans hm)) HO.out rfl).mono ?_; rintro e w2 ⟨rfl, hb2⟩; obtain ⟨hc2, hf2, hz2, hB2⟩ := bfacts (w := w) hb2 (by go_grown); (try simp only [World.size_alloc] at hz2); have z20 : w.heap.size < w2.heap.size := (by omega); have z21 : w.heap.size + 1 < w2.heap.size := (by omega); (try have z22 : w.heap.size + 2 < w2.heap.size := (by omega))))
  all_goals
   go_wp2_with fail
   go_meet
   refine ⟨rfl, _, rfl, ?_, ?_, ?_⟩
   ·first | omega | (simp; done)
   ·simp <;> omega
   ·simp (maxDischargeDepth := 9) [go_sem, World.cell?_alloc_some, *]
    go_grown
 case rest =>
  obtain ⟨rfl, G, rfl, hG, hG2, g0, g1, b0, b1, b2, b3, r0, r1, r2, r3, f0, f1, f2, f3, hB⟩ := hcut
  have z0 := Nat.lt_trans (Nat.lt_of_succ_le hG) hG2
  go_wp2_with (go_at_call 66; refine (sub_halves _ _ _ _ _).mono ?_; rintro e w1 ⟨rfl, hb⟩; obtain ⟨hc, hf, hz, hB1⟩ := bfacts (w := w) hb (by go_grown); have z1 : w.heap.size < w1.heap.size := (by omega); have z2 : w.heap.size + 1 < w1.heap.size := (by omega); have z3 : G < w1.heap.size := (by omega))
  go_region_held3 (fun w' => w'.cell? ⟨G, 0, none⟩ = some (.func (.func 95) #[] #[]) ∧ w'.cell? ⟨G, 1, none⟩ = some (.func (.func 98) #[] #[]) ∧ w'.cell? ⟨w1.heap.size, 0, none⟩ = some (.bool a) ∧ w'.cell? ⟨w1.heap.size, 1, none⟩ = some (.bool b) ∧ w'.cell? ⟨w1.heap.size + 1, 0, none⟩ = some (.bool c) ∧ w'.cell? ⟨w1.heap.size + 1, 1, none⟩ = some (.bool d)) (simp (maxDischargeDepth := 9) [go_sem, World.cell?_alloc_some, *])
   (first
    | (go_at_call 95; refine (sub_none _ _ _).mono ?_; rintro e w2 ⟨rfl, hb2⟩; obtain ⟨hc2, hf2, hz2, hB2⟩ := bfacts (w := w) hb2 (by go_grown); simp only [World.size_alloc, World.size_drew] at hz2; have z20 : w.heap.size + 1 < w2.heap.size := (by omega); have z21 : w1.heap.size < w2.heap.size := (by omega); have z22 : w1.heap.size + 1 < w2.heap.size := (by omega); have z23 : G < w2.heap.size := (by omega))
    | (go_at_call 67; refine (sub_whole _ _ _ _ _).mono ?_; rintro e w3 ⟨rfl, hb3⟩; obtain ⟨hc3, hf3, hz3, hB3⟩ := bfacts (w := w) hb3 (by go_grown); have z30 : w.heap.size + 1 < w3.heap.size := (by omega); have z31 : w1.heap.size < w3.heap.size := (by omega); have z32 : w1.heap.size + 1 < w3.heap.size := (by omega); have z33 : G < w3.heap.size := (by omega))
    | (go_at_call 98; refine (sub_either _ _ _).mono ?_; rintro e w4 ⟨rfl, hb4⟩; obtain ⟨hc4, hf4, hz4, hB4⟩ := bfacts (w := w) hb4 (by go_grown); have z40 : w.heap.size + 1 < w4.heap.size := (by omega); have z41 : w1.heap.size < w4.heap.size := (by omega); have z42 : w1.heap.size + 1 < w4.heap.size := (by omega); have z43 : G < w4.heap.size := (by omega)))
  all_goals go_wp2
  all_goals refine bodyPost_ret (v := .tuple #[.agg #[.bool false, .bool false, .bool c, .bool d], .bool (a || b), .int .u8 0, .int .i64 0]) (by simp (maxDischargeDepth := 9) [results, Tryz.results34, go_sem, *]) rfl ?_
  all_goals exact ⟨rfl, by go_grown⟩

end Go.Proofs.YtfonkblbgadhmaaGreatDoor
