/- The document's answer for layer 20: what each of its functions comes to. PRINTED BY PROGRAM (gen_ref20.py). -/
import Derived.Test.YtgechifpappipaaKit
import Derived.Test.YtgechifpappipaaRows
namespace Go.Proofs.Ytgechifpappipaa
open Go.RowKit

theorem ref20_May (a b c d : Bool) (w : World) : Calls Try.prog 39 #[.agg #[.bool a, .bool b, .bool c, .bool d]] w (Ret w (.bool !(a && b || c && d))) := by
  cases a <;> cases b <;> cases c <;> cases d
  all_goals
    go_enter Try.func39, Try.ntmps39
    go_wp2
    go_returns
    exact ⟨rfl, by go_grown⟩
theorem ref20_Check (a b c d : Bool) (w : World) : Calls Try.prog 24 #[.agg #[.bool a, .bool b, .bool c, .bool d]] w (Ret w (.int .i64 (if a && b || c && d then 8 else 0))) := by
  cases h : (a && b || c && d)
  all_goals
    have H := Lib.hid h
    clear h
    go_enter Try.func24, Try.ntmps24
    go_wp2_with (go_at_call 39; refine (ref20_May _ _ _ _ _).mono ?_; rw [H.out]; rintro e w' ⟨rfl, hb⟩; obtain ⟨hc, hf, hz, hB⟩ := bfacts (w := w) hb (by go_grown))
    go_returns
    exact ⟨rfl, by go_grown⟩
def subName (a c : Bool) : ByteArray := match a, c with
  | true, true => ⟨#[98, 111, 116, 104]⟩
  | true, false => ⟨#[116, 111]⟩
  | false, true => ⟨#[102, 114, 111, 109]⟩
  | false, false => ⟨#[110, 111, 110, 101]⟩
theorem ref20_Word (a b c d : Bool) (w : World) : Calls Try.prog 40 #[.agg #[.bool a, .bool b, .bool c, .bool d]] w (Ret w (.string (subName a c))) := by
  cases a <;> cases c
  all_goals
    go_enter Try.func40, Try.ntmps40
    go_wp2
    go_returns
    exact ⟨rfl, by go_grown⟩
theorem ref20_Name (a b c d : Bool) (w : World) (ho : (a && b || c && d) = false) : Calls Try.prog 23 #[.agg #[.bool a, .bool b, .bool c, .bool d]] w (Ret w (.tuple #[.string (subName a c), .bool b, .int .i64 0])) := by
  have HO := Lib.hid ho
  clear ho
  go_enter Try.func23, Try.ntmps23
  go_wp2_with (go_at_call 39; refine (ref20_May _ _ _ _ _).mono ?_; rw [HO.out]; rintro e w1 ⟨rfl, hb⟩; obtain ⟨hc, hf, hz, hB⟩ := bfacts (w := w) hb (by go_grown); simp only [World.size_alloc] at hz; have z0 : w.heap.size < w1.heap.size := (by omega))
  go_region_held3 (fun w' => w'.cell? ⟨w.heap.size, 0, none⟩ = some (.bool a) ∧ w'.cell? ⟨w.heap.size, 1, none⟩ = some (.bool b) ∧ w'.cell? ⟨w.heap.size, 2, none⟩ = some (.bool c) ∧ w'.cell? ⟨w.heap.size, 3, none⟩ = some (.bool d)) (simp (maxDischargeDepth := 9) [go_sem, *])
    (first
      | (go_at_call 40; refine (ref20_Word _ _ _ _ _).mono ?_; rintro e w2 ⟨rfl, hb2⟩; obtain ⟨hc2, hf2, hz2, hB2⟩ := bfactsD (w := w) hb2 (by go_grown)))
  all_goals go_wp2
  all_goals go_returns
  all_goals exact ⟨rfl, by go_grown⟩
theorem ref20_Name_bad (a b c d : Bool) (w : World) (ho : (a && b || c && d) = true) : Calls Try.prog 23 #[.agg #[.bool a, .bool b, .bool c, .bool d]] w (Ret w (.tuple #[.string ⟨#[]⟩, .bool false, .int .i64 8])) := by
  have HO := Lib.hid ho
  clear ho
  go_enter Try.func23, Try.ntmps23
  go_wp2_with (go_at_call 39; refine (ref20_May _ _ _ _ _).mono ?_; rw [HO.out]; rintro e w1 ⟨rfl, hb⟩; obtain ⟨hc, hf, hz, hB⟩ := bfacts (w := w) hb (by go_grown))
  go_returns
  exact ⟨rfl, by go_grown⟩
theorem ref20_Sent1 (a b c d : Bool) (w : World) : Calls Try.prog 37 #[.agg #[.bool a, .bool b, .bool c, .bool d], .int .u8 1] w (Ret w (.tuple #[.agg #[.bool a, .bool !a, .bool c, .bool d], .bool true])) := by
  cases a
  all_goals
    go_enter Try.func37, Try.ntmps37
    go_wp2
    go_returns
    exact ⟨by simp, by go_grown⟩
theorem ref20_Sent3 (a b c d : Bool) (w : World) : Calls Try.prog 37 #[.agg #[.bool a, .bool b, .bool c, .bool d], .int .u8 3] w (Ret w (.tuple #[.agg #[.bool false, .bool false, .bool c, .bool d], .bool true])) := by
  cases a
  all_goals
    go_enter Try.func37, Try.ntmps37
    go_wp2
    go_returns
    exact ⟨by simp, by go_grown⟩
theorem ref20_Sent2 (a b c d : Bool) (w : World) : Calls Try.prog 37 #[.agg #[.bool a, .bool b, .bool c, .bool d], .int .u8 2] w (Ret w (.tuple #[.agg #[.bool a, .bool b, .bool (c || d), .bool false], .bool d])) := by
  cases c
  all_goals
    go_enter Try.func37, Try.ntmps37
    go_wp2
    go_returns
    exact ⟨by simp, by go_grown⟩
theorem ref20_Sent4 (a b c d : Bool) (w : World) : Calls Try.prog 37 #[.agg #[.bool a, .bool b, .bool c, .bool d], .int .u8 4] w (Ret w (.tuple #[.agg #[.bool a, .bool b, .bool false, .bool false], .bool (c || d)])) := by
  cases c
  all_goals
    go_enter Try.func37, Try.ntmps37
    go_wp2
    go_returns
    exact ⟨by simp, by go_grown⟩
theorem ref20_Taken1 (a b c d : Bool) (w : World) : Calls Try.prog 38 #[.agg #[.bool a, .bool b, .bool c, .bool d], .int .u8 1] w (Ret w (.tuple #[.agg #[.bool a, .bool b, .bool c, .bool (!c || d)], .bool (!(c || d)), .int .u8 (if c then 2 else 0)])) := by
  cases c
  all_goals
    go_enter Try.func38, Try.ntmps38
    go_wp2
    go_returns
    exact ⟨by simp, by go_grown⟩
theorem ref20_Taken3 (a b c d : Bool) (w : World) : Calls Try.prog 38 #[.agg #[.bool a, .bool b, .bool c, .bool d], .int .u8 3] w (Ret w (.tuple #[.agg #[.bool a, .bool b, .bool false, .bool false], .bool (c || d), .int .u8 0])) := by
  cases c
  all_goals
    go_enter Try.func38, Try.ntmps38
    go_wp2
    go_returns
    exact ⟨by simp, by go_grown⟩
theorem ref20_Taken2 (a b c d : Bool) (w : World) : Calls Try.prog 38 #[.agg #[.bool a, .bool b, .bool c, .bool d], .int .u8 2] w (Ret w (.tuple #[.agg #[.bool (a || b), .bool false, .bool c, .bool d], .bool b, .int .u8 0])) := by
  cases a
  all_goals
    go_enter Try.func38, Try.ntmps38
    go_wp2
    go_returns
    exact ⟨by simp, by go_grown⟩
theorem ref20_Taken4 (a b c d : Bool) (w : World) : Calls Try.prog 38 #[.agg #[.bool a, .bool b, .bool c, .bool d], .int .u8 4] w (Ret w (.tuple #[.agg #[.bool false, .bool false, .bool c, .bool d], .bool (a || b), .int .u8 0])) := by
  cases a
  all_goals
    go_enter Try.func38, Try.ntmps38
    go_wp2
    go_returns
    exact ⟨by simp, by go_grown⟩
theorem ref20_asked (a b c d : Bool) (k : Int) (w : World) (ho : (a && b || c && d) = false) (h1 : 1 ≤ k) (h2 : k ≤ 4) : Calls Try.prog 36 #[.agg #[.bool a, .bool b, .bool c, .bool d], .int .u8 k] w (Ret w (.int .i64 0)) := by
  have HO := Lib.hid ho
  have e1 : decide (k < 1) = false := by simp; omega
  have e2 : decide (4 < k) = false := by simp; omega
  clear ho
  go_enter Try.func36, Try.ntmps36
  go_wp2_with (go_at_call 39; refine (ref20_May _ _ _ _ _).mono ?_; rw [HO.out]; rintro e w1 ⟨rfl, hb⟩; obtain ⟨hc, hf, hz, hB⟩ := bfacts (w := w) hb (by go_grown))
  go_returns
  exact ⟨rfl, by go_grown⟩
theorem ref20_asked_bad (a b c d : Bool) (k : Int) (w : World) (ho : (a && b || c && d) = true) : Calls Try.prog 36 #[.agg #[.bool a, .bool b, .bool c, .bool d], .int .u8 k] w (Ret w (.int .i64 8)) := by
  have HO := Lib.hid ho
  clear ho
  go_enter Try.func36, Try.ntmps36
  go_wp2_with (go_at_call 39; refine (ref20_May _ _ _ _ _).mono ?_; rw [HO.out]; rintro e w1 ⟨rfl, hb⟩; obtain ⟨hc, hf, hz, hB⟩ := bfacts (w := w) hb (by go_grown))
  go_returns
  exact ⟨rfl, by go_grown⟩
theorem ref20_asked_not (a b c d : Bool) (k : Int) (w : World) (ho : (a && b || c && d) = false) (hk : k < 1 ∨ 4 < k) : Calls Try.prog 36 #[.agg #[.bool a, .bool b, .bool c, .bool d], .int .u8 k] w (Ret w (.int .i64 2)) := by
  have HO := Lib.hid ho
  clear ho
  rcases hk with h | h
  · have e1 : decide (k < 1) = true := by simp; omega
    go_enter Try.func36, Try.ntmps36
    go_wp2_with (go_at_call 39; refine (ref20_May _ _ _ _ _).mono ?_; rw [HO.out]; rintro e w1 ⟨rfl, hb⟩; obtain ⟨hc, hf, hz, hB⟩ := bfacts (w := w) hb (by go_grown))
    go_returns
    exact ⟨rfl, by go_grown⟩
  · have e1 : decide (k < 1) = false := by simp; omega
    have e2 : decide (4 < k) = true := by simp; omega
    go_enter Try.func36, Try.ntmps36
    go_wp2_with (go_at_call 39; refine (ref20_May _ _ _ _ _).mono ?_; rw [HO.out]; rintro e w1 ⟨rfl, hb⟩; obtain ⟨hc, hf, hz, hB⟩ := bfacts (w := w) hb (by go_grown))
    go_returns
    exact ⟨rfl, by go_grown⟩
set_option maxHeartbeats 2000000 in
theorem ref20_Send1 (a b c d : Bool) (w : World) (ho : (a && b || c && d) = false) : Calls Try.prog 21 #[.agg #[.bool a, .bool b, .bool c, .bool d], .int .u8 1] w (Ret w (.tuple #[.agg #[.bool a, .bool !a, .bool c, .bool d], .bool true, .int .i64 0])) := by
  have HO := Lib.hid ho
  clear ho
  go_enter Try.func21, Try.ntmps21
  go_wp2_with (first
    | (go_at_call 36; refine (ref20_asked _ _ _ _ _ _ HO.out (by omega) (by omega)).mono ?_; rintro e w1 ⟨rfl, hb⟩; obtain ⟨hc, hf, hz, hB⟩ := bfacts (w := w) hb (by go_grown); simp only [World.size_alloc] at hz; have z0 : w.heap.size < w1.heap.size := (by omega); have z1 : w.heap.size + 1 < w1.heap.size := (by omega))
    | (go_at_call 37; refine (ref20_Sent1 _ _ _ _ _).mono ?_; rintro e w2 ⟨rfl, hb2⟩; obtain ⟨hc2, hf2, hz2, hB2⟩ := bfacts (w := w) hb2 (by go_grown); have z2 : w.heap.size + 1 < w2.heap.size := (by omega)))
  all_goals refine bodyPost_ret (v := .tuple #[.agg #[.bool a, .bool !a, .bool c, .bool d], .bool true, .int .i64 0]) (by simp (maxDischargeDepth := 9) [results, Try.results21, go_sem, *]) rfl ?_
  all_goals exact ⟨rfl, by go_grown⟩
set_option maxHeartbeats 2000000 in
theorem ref20_Send3 (a b c d : Bool) (w : World) (ho : (a && b || c && d) = false) : Calls Try.prog 21 #[.agg #[.bool a, .bool b, .bool c, .bool d], .int .u8 3] w (Ret w (.tuple #[.agg #[.bool false, .bool false, .bool c, .bool d], .bool true, .int .i64 0])) := by
  have HO := Lib.hid ho
  clear ho
  go_enter Try.func21, Try.ntmps21
  go_wp2_with (first
    | (go_at_call 36; refine (ref20_asked _ _ _ _ _ _ HO.out (by omega) (by omega)).mono ?_; rintro e w1 ⟨rfl, hb⟩; obtain ⟨hc, hf, hz, hB⟩ := bfacts (w := w) hb (by go_grown); simp only [World.size_alloc] at hz; have z0 : w.heap.size < w1.heap.size := (by omega); have z1 : w.heap.size + 1 < w1.heap.size := (by omega))
    | (go_at_call 37; refine (ref20_Sent3 _ _ _ _ _).mono ?_; rintro e w2 ⟨rfl, hb2⟩; obtain ⟨hc2, hf2, hz2, hB2⟩ := bfacts (w := w) hb2 (by go_grown); have z2 : w.heap.size + 1 < w2.heap.size := (by omega)))
  all_goals refine bodyPost_ret (v := .tuple #[.agg #[.bool false, .bool false, .bool c, .bool d], .bool true, .int .i64 0]) (by simp (maxDischargeDepth := 9) [results, Try.results21, go_sem, *]) rfl ?_
  all_goals exact ⟨rfl, by go_grown⟩
set_option maxHeartbeats 2000000 in
theorem ref20_Send2 (a b c d : Bool) (w : World) (ho : (a && b || c && d) = false) : Calls Try.prog 21 #[.agg #[.bool a, .bool b, .bool c, .bool d], .int .u8 2] w (Ret w (.tuple #[.agg #[.bool a, .bool b, .bool (c || d), .bool false], .bool d, .int .i64 0])) := by
  have HO := Lib.hid ho
  clear ho
  go_enter Try.func21, Try.ntmps21
  go_wp2_with (first
    | (go_at_call 36; refine (ref20_asked _ _ _ _ _ _ HO.out (by omega) (by omega)).mono ?_; rintro e w1 ⟨rfl, hb⟩; obtain ⟨hc, hf, hz, hB⟩ := bfacts (w := w) hb (by go_grown); simp only [World.size_alloc] at hz; have z0 : w.heap.size < w1.heap.size := (by omega); have z1 : w.heap.size + 1 < w1.heap.size := (by omega))
    | (go_at_call 37; refine (ref20_Sent2 _ _ _ _ _).mono ?_; rintro e w2 ⟨rfl, hb2⟩; obtain ⟨hc2, hf2, hz2, hB2⟩ := bfacts (w := w) hb2 (by go_grown); have z2 : w.heap.size + 1 < w2.heap.size := (by omega)))
  all_goals refine bodyPost_ret (v := .tuple #[.agg #[.bool a, .bool b, .bool (c || d), .bool false], .bool d, .int .i64 0]) (by simp (maxDischargeDepth := 9) [results, Try.results21, go_sem, *]) rfl ?_
  all_goals exact ⟨rfl, by go_grown⟩
set_option maxHeartbeats 2000000 in
theorem ref20_Send4 (a b c d : Bool) (w : World) (ho : (a && b || c && d) = false) : Calls Try.prog 21 #[.agg #[.bool a, .bool b, .bool c, .bool d], .int .u8 4] w (Ret w (.tuple #[.agg #[.bool a, .bool b, .bool false, .bool false], .bool (c || d), .int .i64 0])) := by
  have HO := Lib.hid ho
  clear ho
  go_enter Try.func21, Try.ntmps21
  go_wp2_with (first
    | (go_at_call 36; refine (ref20_asked _ _ _ _ _ _ HO.out (by omega) (by omega)).mono ?_; rintro e w1 ⟨rfl, hb⟩; obtain ⟨hc, hf, hz, hB⟩ := bfacts (w := w) hb (by go_grown); simp only [World.size_alloc] at hz; have z0 : w.heap.size < w1.heap.size := (by omega); have z1 : w.heap.size + 1 < w1.heap.size := (by omega))
    | (go_at_call 37; refine (ref20_Sent4 _ _ _ _ _).mono ?_; rintro e w2 ⟨rfl, hb2⟩; obtain ⟨hc2, hf2, hz2, hB2⟩ := bfacts (w := w) hb2 (by go_grown); have z2 : w.heap.size + 1 < w2.heap.size := (by omega)))
  all_goals refine bodyPost_ret (v := .tuple #[.agg #[.bool a, .bool b, .bool false, .bool false], .bool (c || d), .int .i64 0]) (by simp (maxDischargeDepth := 9) [results, Try.results21, go_sem, *]) rfl ?_
  all_goals exact ⟨rfl, by go_grown⟩
set_option maxHeartbeats 2000000 in
theorem ref20_Take3 (a b c d : Bool) (w : World) (ho : (a && b || c && d) = false) : Calls Try.prog 22 #[.agg #[.bool a, .bool b, .bool c, .bool d], .int .u8 3] w (Ret w (.tuple #[.agg #[.bool a, .bool b, .bool false, .bool false], .bool (c || d), .int .u8 0, .int .i64 0])) := by
  have HO := Lib.hid ho
  clear ho
  go_enter Try.func22, Try.ntmps22
  go_wp2_with (first
    | (go_at_call 36; refine (ref20_asked _ _ _ _ _ _ HO.out (by omega) (by omega)).mono ?_; rintro e w1 ⟨rfl, hb⟩; obtain ⟨hc, hf, hz, hB⟩ := bfacts (w := w) hb (by go_grown); simp only [World.size_alloc] at hz; have z0 : w.heap.size < w1.heap.size := (by omega); have z1 : w.heap.size + 1 < w1.heap.size := (by omega))
    | (go_at_call 38; refine (ref20_Taken3 _ _ _ _ _).mono ?_; rintro e w2 ⟨rfl, hb2⟩; obtain ⟨hc2, hf2, hz2, hB2⟩ := bfacts (w := w) hb2 (by go_grown); have z2 : w.heap.size + 1 < w2.heap.size := (by omega)))
  all_goals refine bodyPost_ret (v := .tuple #[.agg #[.bool a, .bool b, .bool false, .bool false], .bool (c || d), .int .u8 0, .int .i64 0]) (by simp (maxDischargeDepth := 9) [results, Try.results22, go_sem, *]) rfl ?_
  all_goals exact ⟨rfl, by go_grown⟩
set_option maxHeartbeats 2000000 in
theorem ref20_Take2 (a b c d : Bool) (w : World) (ho : (a && b || c && d) = false) : Calls Try.prog 22 #[.agg #[.bool a, .bool b, .bool c, .bool d], .int .u8 2] w (Ret w (.tuple #[.agg #[.bool (a || b), .bool false, .bool c, .bool d], .bool b, .int .u8 0, .int .i64 0])) := by
  have HO := Lib.hid ho
  clear ho
  go_enter Try.func22, Try.ntmps22
  go_wp2_with (first
    | (go_at_call 36; refine (ref20_asked _ _ _ _ _ _ HO.out (by omega) (by omega)).mono ?_; rintro e w1 ⟨rfl, hb⟩; obtain ⟨hc, hf, hz, hB⟩ := bfacts (w := w) hb (by go_grown); simp only [World.size_alloc] at hz; have z0 : w.heap.size < w1.heap.size := (by omega); have z1 : w.heap.size + 1 < w1.heap.size := (by omega))
    | (go_at_call 38; refine (ref20_Taken2 _ _ _ _ _).mono ?_; rintro e w2 ⟨rfl, hb2⟩; obtain ⟨hc2, hf2, hz2, hB2⟩ := bfacts (w := w) hb2 (by go_grown); have z2 : w.heap.size + 1 < w2.heap.size := (by omega)))
  all_goals refine bodyPost_ret (v := .tuple #[.agg #[.bool (a || b), .bool false, .bool c, .bool d], .bool b, .int .u8 0, .int .i64 0]) (by simp (maxDischargeDepth := 9) [results, Try.results22, go_sem, *]) rfl ?_
  all_goals exact ⟨rfl, by go_grown⟩
set_option maxHeartbeats 2000000 in
theorem ref20_Take4 (a b c d : Bool) (w : World) (ho : (a && b || c && d) = false) : Calls Try.prog 22 #[.agg #[.bool a, .bool b, .bool c, .bool d], .int .u8 4] w (Ret w (.tuple #[.agg #[.bool false, .bool false, .bool c, .bool d], .bool (a || b), .int .u8 0, .int .i64 0])) := by
  have HO := Lib.hid ho
  clear ho
  go_enter Try.func22, Try.ntmps22
  go_wp2_with (first
    | (go_at_call 36; refine (ref20_asked _ _ _ _ _ _ HO.out (by omega) (by omega)).mono ?_; rintro e w1 ⟨rfl, hb⟩; obtain ⟨hc, hf, hz, hB⟩ := bfacts (w := w) hb (by go_grown); simp only [World.size_alloc] at hz; have z0 : w.heap.size < w1.heap.size := (by omega); have z1 : w.heap.size + 1 < w1.heap.size := (by omega))
    | (go_at_call 38; refine (ref20_Taken4 _ _ _ _ _).mono ?_; rintro e w2 ⟨rfl, hb2⟩; obtain ⟨hc2, hf2, hz2, hB2⟩ := bfacts (w := w) hb2 (by go_grown); have z2 : w.heap.size + 1 < w2.heap.size := (by omega)))
  all_goals refine bodyPost_ret (v := .tuple #[.agg #[.bool false, .bool false, .bool c, .bool d], .bool (a || b), .int .u8 0, .int .i64 0]) (by simp (maxDischargeDepth := 9) [results, Try.results22, go_sem, *]) rfl ?_
  all_goals exact ⟨rfl, by go_grown⟩
set_option maxHeartbeats 2000000 in
theorem ref20_Take1t (a b d : Bool) (w : World) (ho : (a && b || true && d) = false) : Calls Try.prog 22 #[.agg #[.bool a, .bool b, .bool true, .bool d], .int .u8 1] w (Ret w (.tuple #[.agg #[.bool a, .bool b, .bool true, .bool d], .bool false, .int .u8 2, .int .i64 0])) := by
  have HO := Lib.hid ho
  clear ho
  go_enter Try.func22, Try.ntmps22
  go_wp2_with (first
    | (go_at_call 36; refine (ref20_asked _ _ _ _ _ _ HO.out (by omega) (by omega)).mono ?_; rintro e w1 ⟨rfl, hb⟩; obtain ⟨hc, hf, hz, hB⟩ := bfacts (w := w) hb (by go_grown); simp only [World.size_alloc] at hz; have z0 : w.heap.size < w1.heap.size := (by omega); have z1 : w.heap.size + 1 < w1.heap.size := (by omega))
    | (go_at_call 38; refine (ref20_Taken1 _ _ _ _ _).mono ?_; rintro e w2 ⟨rfl, hb2⟩; obtain ⟨hc2, hf2, hz2, hB2⟩ := bfacts (w := w) hb2 (by go_grown); have z2 : w.heap.size + 1 < w2.heap.size := (by omega)))
  all_goals refine bodyPost_ret (v := .tuple #[.agg #[.bool a, .bool b, .bool true, .bool d], .bool false, .int .u8 2, .int .i64 0]) (by simp (maxDischargeDepth := 9) [results, Try.results22, go_sem, *]) rfl ?_
  all_goals exact ⟨rfl, by go_grown⟩
set_option maxHeartbeats 2000000 in
theorem ref20_Take1f (a b d : Bool) (w : World) (ho : (a && b || false && d) = false) : Calls Try.prog 22 #[.agg #[.bool a, .bool b, .bool false, .bool d], .int .u8 1] w (Ret w (.tuple #[.agg #[.bool a, .bool b, .bool false, .bool true], .bool !d, .int .u8 0, .int .i64 0])) := by
  have HO := Lib.hid ho
  clear ho
  go_enter Try.func22, Try.ntmps22
  go_wp2_with (first
    | (go_at_call 36; refine (ref20_asked _ _ _ _ _ _ HO.out (by omega) (by omega)).mono ?_; rintro e w1 ⟨rfl, hb⟩; obtain ⟨hc, hf, hz, hB⟩ := bfacts (w := w) hb (by go_grown); simp only [World.size_alloc] at hz; have z0 : w.heap.size < w1.heap.size := (by omega); have z1 : w.heap.size + 1 < w1.heap.size := (by omega))
    | (go_at_call 38; refine (ref20_Taken1 _ _ _ _ _).mono ?_; rintro e w2 ⟨rfl, hb2⟩; obtain ⟨hc2, hf2, hz2, hB2⟩ := bfacts (w := w) hb2 (by go_grown); have z2 : w.heap.size + 1 < w2.heap.size := (by omega)))
  all_goals refine bodyPost_ret (v := .tuple #[.agg #[.bool a, .bool b, .bool false, .bool true], .bool !d, .int .u8 0, .int .i64 0]) (by simp (maxDischargeDepth := 9) [results, Try.results22, go_sem, *]) rfl ?_
  all_goals exact ⟨rfl, by go_grown⟩
set_option maxHeartbeats 2000000 in
theorem ref20_Send_bad (a b c d : Bool) (k : Int) (w : World) (ho : (a && b || c && d) = true) : Calls Try.prog 21 #[.agg #[.bool a, .bool b, .bool c, .bool d], .int .u8 k] w (Ret w (.tuple #[.agg #[.bool false, .bool false, .bool false, .bool false], .bool false, .int .i64 8])) := by
  have HO := Lib.hid ho
  clear ho
  go_enter Try.func21, Try.ntmps21
  go_wp2_with (go_at_call 36; refine (ref20_asked_bad _ _ _ _ _ _ HO.out).mono ?_; rintro e w1 ⟨rfl, hb⟩; obtain ⟨hc, hf, hz, hB⟩ := bfacts (w := w) hb (by go_grown); simp only [World.size_alloc] at hz; have z0 : w.heap.size < w1.heap.size := (by omega); have z1 : w.heap.size + 1 < w1.heap.size := (by omega))
  refine bodyPost_ret (v := .tuple #[.agg #[.bool false, .bool false, .bool false, .bool false], .bool false, .int .i64 8]) (by simp (maxDischargeDepth := 9) [results, Try.results21, go_sem, *]) rfl ?_
  exact ⟨rfl, by go_grown⟩
set_option maxHeartbeats 2000000 in
theorem ref20_Send_not (a b c d : Bool) (k : Int) (w : World) (ho : (a && b || c && d) = false) (hk : k < 1 ∨ 4 < k) : Calls Try.prog 21 #[.agg #[.bool a, .bool b, .bool c, .bool d], .int .u8 k] w (Ret w (.tuple #[.agg #[.bool false, .bool false, .bool false, .bool false], .bool false, .int .i64 2])) := by
  have HO := Lib.hid ho
  clear ho
  go_enter Try.func21, Try.ntmps21
  go_wp2_with (go_at_call 36; refine (ref20_asked_not _ _ _ _ _ _ HO.out hk).mono ?_; rintro e w1 ⟨rfl, hb⟩; obtain ⟨hc, hf, hz, hB⟩ := bfacts (w := w) hb (by go_grown); simp only [World.size_alloc] at hz; have z0 : w.heap.size < w1.heap.size := (by omega); have z1 : w.heap.size + 1 < w1.heap.size := (by omega))
  refine bodyPost_ret (v := .tuple #[.agg #[.bool false, .bool false, .bool false, .bool false], .bool false, .int .i64 2]) (by simp (maxDischargeDepth := 9) [results, Try.results21, go_sem, *]) rfl ?_
  exact ⟨rfl, by go_grown⟩
set_option maxHeartbeats 2000000 in
theorem ref20_Take_bad (a b c d : Bool) (k : Int) (w : World) (ho : (a && b || c && d) = true) : Calls Try.prog 22 #[.agg #[.bool a, .bool b, .bool c, .bool d], .int .u8 k] w (Ret w (.tuple #[.agg #[.bool false, .bool false, .bool false, .bool false], .bool false, .int .u8 0, .int .i64 8])) := by
  have HO := Lib.hid ho
  clear ho
  go_enter Try.func22, Try.ntmps22
  go_wp2_with (go_at_call 36; refine (ref20_asked_bad _ _ _ _ _ _ HO.out).mono ?_; rintro e w1 ⟨rfl, hb⟩; obtain ⟨hc, hf, hz, hB⟩ := bfacts (w := w) hb (by go_grown); simp only [World.size_alloc] at hz; have z0 : w.heap.size < w1.heap.size := (by omega); have z1 : w.heap.size + 1 < w1.heap.size := (by omega))
  refine bodyPost_ret (v := .tuple #[.agg #[.bool false, .bool false, .bool false, .bool false], .bool false, .int .u8 0, .int .i64 8]) (by simp (maxDischargeDepth := 9) [results, Try.results22, go_sem, *]) rfl ?_
  exact ⟨rfl, by go_grown⟩
set_option maxHeartbeats 2000000 in
theorem ref20_Take_not (a b c d : Bool) (k : Int) (w : World) (ho : (a && b || c && d) = false) (hk : k < 1 ∨ 4 < k) : Calls Try.prog 22 #[.agg #[.bool a, .bool b, .bool c, .bool d], .int .u8 k] w (Ret w (.tuple #[.agg #[.bool false, .bool false, .bool false, .bool false], .bool false, .int .u8 0, .int .i64 2])) := by
  have HO := Lib.hid ho
  clear ho
  go_enter Try.func22, Try.ntmps22
  go_wp2_with (go_at_call 36; refine (ref20_asked_not _ _ _ _ _ _ HO.out hk).mono ?_; rintro e w1 ⟨rfl, hb⟩; obtain ⟨hc, hf, hz, hB⟩ := bfacts (w := w) hb (by go_grown); simp only [World.size_alloc] at hz; have z0 : w.heap.size < w1.heap.size := (by omega); have z1 : w.heap.size + 1 < w1.heap.size := (by omega))
  refine bodyPost_ret (v := .tuple #[.agg #[.bool false, .bool false, .bool false, .bool false], .bool false, .int .u8 0, .int .i64 2]) (by simp (maxDischargeDepth := 9) [results, Try.results22, go_sem, *]) rfl ?_
  exact ⟨rfl, by go_grown⟩
end Go.Proofs.Ytgechifpappipaa
