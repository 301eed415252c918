/- chunk's machine: take, arm by arm. PRINTED BY PROGRAM (gen_take.py). -/
import Derived.Test.YtcmbmbkglglljaaDoorChA
import Derived.Test.YtcmbmbkglglljaaDoorChF
namespace Go.Proofs.YtcmbmbkglglljaaDoor
open Go.RowKit

theorem ch_dg (c : UInt8) (w : World) : Calls Tryd.prog 57 #[.int .u8 c.toNat] w fun e w' => e = .returned (.int .i64 (dgN c)) ∧ w' = w := ch_digit c w

set_option maxHeartbeats 1000000 in
theorem take_first0 (B b : Nat) (sz mn sn : Int) (bs : List Value) (w : World) (h : IsM B b 0 sz mn sn bs w) :
    Calls Tryd.prog 39 #[.pointer (some ⟨b, 0, none⟩), .int .u8 48] w fun e w' => e = .returned (.int .i64 0) ∧ IsM B b 5 sz mn 0 bs w' ∧ Below B w w' := by
  obtain ⟨p, hp, h'⟩ := h.at
  obtain ⟨c0, c1, c2, c3, f0, f1, f2, f3⟩ := h'.facts
  have H := Lib.hid h'
  have HM := Lib.hid h
  have HB := Lib.hid h'.1
  have HP := Lib.hid hp
  clear h h' hp
  go_enter Tryd.func39, Tryd.ntmps39
  go_wp2_with fail
  refine (mc_next B b 0 sz mn sn 5 bs w HM.out).mono ?_
  rintro e w1 ⟨rfl, h3, hb⟩
  go_wp2_with fail
  go_ret
  exact ⟨rfl, h3, hb⟩

set_option maxHeartbeats 1000000 in
theorem take_digit (B b : Nat) (sz mn sn d : Int) (c : UInt8) (bs : List Value) (w : World) (h : IsM B b 1 sz mn sn bs w) (hd : dgN c = d) (h0 : 0 ≤ d) (h1 : d ≤ 15) (h2 : mn < 4) (h4 : 0 ≤ mn) (h3 : 0 ≤ sz) (h5 : sz ≤ 65536) :
    Calls Tryd.prog 39 #[.pointer (some ⟨b, 0, none⟩), .int .u8 c.toNat] w fun e w' => e = .returned (.int .i64 0) ∧ IsM B b 1 (16 * sz + d) (mn + 1) sn bs w' ∧ Below B w w' := by
  obtain ⟨p, hp, h'⟩ := h.at
  obtain ⟨c0, c1, c2, c3, f0, f1, f2, f3⟩ := h'.facts
  have D0 := fun w => ch_dg c w
  rw [hd] at D0
  have D := Lib.hid D0
  clear hd D0
  have e1 : IntKind.i64.wrap (16 * sz) = 16 * sz := IntWalk.i64_in _ (by omega)
  have e2 : IntKind.i64.wrap (16 * sz + d) = 16 * sz + d := IntWalk.i64_in _ (by omega)
  have e3 : IntKind.i64.wrap (mn + 1) = mn + 1 := IntWalk.i64_in _ (by omega)
  have H := Lib.hid h'
  have HM := Lib.hid h
  have HB := Lib.hid h'.1
  have HP := Lib.hid hp
  clear h h' hp
  go_enter Tryd.func39, Tryd.ntmps39
  go_wp2_with fail
  refine (D.out _).mono ?_
  rintro e w1 ⟨rfl, rfl⟩
  go_wp2_with fail
  go_region
  all_goals go_wp2_with fail
  all_goals go_ret
  all_goals exact ⟨rfl, IsM.of HP.out (((show MAt B b 1 sz mn sn p bs w1.drew from H.out).set 1 _ 1 (16 * sz + d) mn sn rfl (by omega)).set 2 _ 1 (16 * sz + d) (mn + 1) sn rfl (by omega)), (((Below.refl B w1).drew).setCell (p := ⟨b, 1, none⟩) HB.out _).setCell (p := ⟨b, 2, none⟩) HB.out _⟩

set_option maxHeartbeats 1000000 in
theorem take_bad_neg (B b : Nat) (sz mn sn d : Int) (c : UInt8) (bs : List Value) (w : World) (h : IsM B b 1 sz mn sn bs w) (hd : dgN c = d) (h0 : d < 0) (hc : ((c.toNat : Int) == 13) = false) :
    Calls Tryd.prog 39 #[.pointer (some ⟨b, 0, none⟩), .int .u8 c.toNat] w fun e w' => e = .returned (.int .i64 160) ∧ Below B w w' := by
  obtain ⟨p, hp, h'⟩ := h.at
  obtain ⟨c0, c1, c2, c3, f0, f1, f2, f3⟩ := h'.facts
  have D0 := fun w => ch_dg c w
  rw [hd] at D0
  have D := Lib.hid D0
  clear hd D0
  have H := Lib.hid h'
  have HM := Lib.hid h
  have HB := Lib.hid h'.1
  have HP := Lib.hid hp
  clear h h' hp
  go_enter Tryd.func39, Tryd.ntmps39
  go_wp2_with fail
  refine (D.out _).mono ?_
  rintro e w1 ⟨rfl, rfl⟩
  go_wp2_with fail
  go_ret
  exact ⟨rfl, Below.refl B _⟩

set_option maxHeartbeats 1000000 in
theorem take_line_neg (B b : Nat) (sz mn sn d : Int) (bs : List Value) (w : World) (h : IsM B b 1 sz mn sn bs w) (hd : dgN 13 = d) (h0 : d < 0) (hm : (mn == 0) = false) :
    Calls Tryd.prog 39 #[.pointer (some ⟨b, 0, none⟩), .int .u8 13] w fun e w' => e = .returned (.int .i64 0) ∧ IsM B b 2 sz mn 0 bs w' ∧ Below B w w' := by
  obtain ⟨p, hp, h'⟩ := h.at
  obtain ⟨c0, c1, c2, c3, f0, f1, f2, f3⟩ := h'.facts
  have D0 := fun w => ch_dg 13 w
  rw [hd] at D0
  have D := Lib.hid D0
  clear hd D0
  have H := Lib.hid h'
  have HM := Lib.hid h
  have HB := Lib.hid h'.1
  have HP := Lib.hid hp
  clear h h' hp
  go_enter Tryd.func39, Tryd.ntmps39
  go_wp2_with fail
  refine (D.out _).mono ?_
  rintro e w1 ⟨rfl, rfl⟩
  go_wp2_with fail
  refine (mc_next B b 1 sz mn sn 2 bs w1 HM.out).mono ?_
  rintro e w2 ⟨rfl, h3, hb⟩
  go_wp2_with fail
  go_ret
  exact ⟨rfl, h3, hb⟩

set_option maxHeartbeats 1000000 in
theorem take_bad_full (B b : Nat) (sz mn sn d : Int) (c : UInt8) (bs : List Value) (w : World) (h : IsM B b 1 sz mn sn bs w) (hd : dgN c = d) (h0 : 0 ≤ d) (h2 : 4 ≤ mn) (hc : ((c.toNat : Int) == 13) = false) :
    Calls Tryd.prog 39 #[.pointer (some ⟨b, 0, none⟩), .int .u8 c.toNat] w fun e w' => e = .returned (.int .i64 160) ∧ Below B w w' := by
  obtain ⟨p, hp, h'⟩ := h.at
  obtain ⟨c0, c1, c2, c3, f0, f1, f2, f3⟩ := h'.facts
  have D0 := fun w => ch_dg c w
  rw [hd] at D0
  have D := Lib.hid D0
  clear hd D0
  have H := Lib.hid h'
  have HM := Lib.hid h
  have HB := Lib.hid h'.1
  have HP := Lib.hid hp
  clear h h' hp
  go_enter Tryd.func39, Tryd.ntmps39
  go_wp2_with fail
  refine (D.out _).mono ?_
  rintro e w1 ⟨rfl, rfl⟩
  go_wp2_with fail
  go_ret
  exact ⟨rfl, Below.refl B _⟩

set_option maxHeartbeats 1000000 in
theorem take_line_full (B b : Nat) (sz mn sn d : Int) (bs : List Value) (w : World) (h : IsM B b 1 sz mn sn bs w) (hd : dgN 13 = d) (h0 : 0 ≤ d) (h2 : 4 ≤ mn) (hm : (mn == 0) = false) :
    Calls Tryd.prog 39 #[.pointer (some ⟨b, 0, none⟩), .int .u8 13] w fun e w' => e = .returned (.int .i64 0) ∧ IsM B b 2 sz mn 0 bs w' ∧ Below B w w' := by
  obtain ⟨p, hp, h'⟩ := h.at
  obtain ⟨c0, c1, c2, c3, f0, f1, f2, f3⟩ := h'.facts
  have D0 := fun w => ch_dg 13 w
  rw [hd] at D0
  have D := Lib.hid D0
  clear hd D0
  have H := Lib.hid h'
  have HM := Lib.hid h
  have HB := Lib.hid h'.1
  have HP := Lib.hid hp
  clear h h' hp
  go_enter Tryd.func39, Tryd.ntmps39
  go_wp2_with fail
  refine (D.out _).mono ?_
  rintro e w1 ⟨rfl, rfl⟩
  go_wp2_with fail
  refine (mc_next B b 1 sz mn sn 2 bs w1 HM.out).mono ?_
  rintro e w2 ⟨rfl, h3, hb⟩
  go_wp2_with fail
  go_ret
  exact ⟨rfl, h3, hb⟩

set_option maxHeartbeats 1000000 in
theorem take_lf_no (B b : Nat) (sz mn sn : Int) (c : UInt8) (bs : List Value) (w : World) (h : IsM B b 2 sz mn sn bs w) (hc : ((c.toNat : Int) == 10) = false) :
    Calls Tryd.prog 39 #[.pointer (some ⟨b, 0, none⟩), .int .u8 c.toNat] w fun e w' => e = .returned (.int .i64 160) ∧ Below B w w' := by
  obtain ⟨p, hp, h'⟩ := h.at
  obtain ⟨c0, c1, c2, c3, f0, f1, f2, f3⟩ := h'.facts
  have H := Lib.hid h'
  have HM := Lib.hid h
  have HB := Lib.hid h'.1
  have HP := Lib.hid hp
  clear h h' hp
  go_enter Tryd.func39, Tryd.ntmps39
  go_wp2_with fail
  go_ret
  exact ⟨rfl, Below.refl B _⟩

set_option maxHeartbeats 1000000 in
theorem take_lf_ok (B b : Nat) (sz mn sn : Int) (bs : List Value) (w : World) (h : IsM B b 2 sz mn sn bs w) (h0 : 0 ≤ sz) (h2 : sz ≤ 100000) (h1 : (bs.length : Int) + sz ≤ 8192) :
    Calls Tryd.prog 39 #[.pointer (some ⟨b, 0, none⟩), .int .u8 10] w fun e w' => e = .returned (.int .i64 0) ∧ IsM B b 3 sz mn 0 bs w' ∧ Below B w w' := by
  obtain ⟨p, hp, h'⟩ := h.at
  obtain ⟨c0, c1, c2, c3, f0, f1, f2, f3⟩ := h'.facts
  have H := Lib.hid h'
  have HM := Lib.hid h
  have HB := Lib.hid h'.1
  have HP := Lib.hid hp
  clear h h' hp
  go_enter Tryd.func39, Tryd.ntmps39
  go_wp2_with fail
  refine (mc_told_ok B b 2 sz mn sn bs w HM.out h0 h2 h1).mono ?_
  rintro e w1 ⟨rfl, h3, hb⟩
  go_wp2_with fail
  go_ret
  exact ⟨rfl, h3, hb⟩

set_option maxHeartbeats 1000000 in
theorem take_lf_many (B b : Nat) (sz mn sn : Int) (bs : List Value) (w : World) (h : IsM B b 2 sz mn sn bs w) (h0 : 0 ≤ sz) (h2 : sz ≤ 100000) (h3 : bs.length ≤ 8192) (h1 : 8192 < (bs.length : Int) + sz) :
    Calls Tryd.prog 39 #[.pointer (some ⟨b, 0, none⟩), .int .u8 10] w fun e w' => e = .returned (.int .i64 4) ∧ Below B w w' := by
  obtain ⟨p, hp, h'⟩ := h.at
  obtain ⟨c0, c1, c2, c3, f0, f1, f2, f3⟩ := h'.facts
  have H := Lib.hid h'
  have HM := Lib.hid h
  have HB := Lib.hid h'.1
  have HP := Lib.hid hp
  clear h h' hp
  go_enter Tryd.func39, Tryd.ntmps39
  go_wp2_with fail
  refine (mc_told_no B b 2 sz mn sn bs w HM.out h0 h2 h3 h1).mono ?_
  rintro e w1 ⟨rfl, hb⟩
  go_wp2_with fail
  go_ret
  exact ⟨rfl, hb⟩

set_option maxHeartbeats 1000000 in
theorem take_4_cr_no (B b : Nat) (sz mn : Int) (c : UInt8) (bs : List Value) (w : World) (h : IsM B b 4 sz mn 0 bs w) (hc : ((c.toNat : Int) == 13) = false) :
    Calls Tryd.prog 39 #[.pointer (some ⟨b, 0, none⟩), .int .u8 c.toNat] w fun e w' => e = .returned (.int .i64 160) ∧ Below B w w' := by
  obtain ⟨p, hp, h'⟩ := h.at
  obtain ⟨c0, c1, c2, c3, f0, f1, f2, f3⟩ := h'.facts
  have H := Lib.hid h'
  have HM := Lib.hid h
  have HB := Lib.hid h'.1
  have HP := Lib.hid hp
  clear h h' hp
  go_enter Tryd.func39, Tryd.ntmps39
  go_wp2_with fail
  refine (mc_mark0 B b 4 sz mn bs c w HM.out).mono ?_
  rintro e w1 ⟨rfl, h3, hb⟩
  go_wp2_with fail
  go_ret
  exact ⟨rfl, hb⟩

set_option maxHeartbeats 1000000 in
theorem take_4_cr (B b : Nat) (sz mn : Int) (bs : List Value) (w : World) (h : IsM B b 4 sz mn 0 bs w) :
    Calls Tryd.prog 39 #[.pointer (some ⟨b, 0, none⟩), .int .u8 13] w fun e w' => e = .returned (.int .i64 0) ∧ IsM B b 4 sz mn 1 bs w' ∧ Below B w w' := by
  obtain ⟨p, hp, h'⟩ := h.at
  obtain ⟨c0, c1, c2, c3, f0, f1, f2, f3⟩ := h'.facts
  have H := Lib.hid h'
  have HM := Lib.hid h
  have HB := Lib.hid h'.1
  have HP := Lib.hid hp
  clear h h' hp
  go_enter Tryd.func39, Tryd.ntmps39
  go_wp2_with fail
  refine (mc_mark0 B b 4 sz mn bs 13 w HM.out).mono ?_
  rintro e w1 ⟨rfl, h3, hb⟩
  go_wp2_with fail
  go_ret
  exact ⟨rfl, h3, hb⟩

set_option maxHeartbeats 1000000 in
theorem take_4_lf_no (B b : Nat) (sz mn : Int) (c : UInt8) (bs : List Value) (w : World) (h : IsM B b 4 sz mn 1 bs w) (hc : ((c.toNat : Int) == 10) = false) :
    Calls Tryd.prog 39 #[.pointer (some ⟨b, 0, none⟩), .int .u8 c.toNat] w fun e w' => e = .returned (.int .i64 160) ∧ Below B w w' := by
  obtain ⟨p, hp, h'⟩ := h.at
  obtain ⟨c0, c1, c2, c3, f0, f1, f2, f3⟩ := h'.facts
  have H := Lib.hid h'
  have HM := Lib.hid h
  have HB := Lib.hid h'.1
  have HP := Lib.hid hp
  clear h h' hp
  go_enter Tryd.func39, Tryd.ntmps39
  go_wp2_with fail
  refine (mc_mark1 B b 4 sz mn bs c w HM.out).mono ?_
  rintro e w1 ⟨rfl, h3, hb⟩
  obtain ⟨p1, hp1, h1'⟩ := h3.at
  obtain ⟨d0, d1, d2, d3, g0, g1, g2, g3⟩ := h1'.facts
  have H3 := Lib.hid h3
  clear h3 h1' hp1
  go_wp2_with fail
  refine (mc_next B b 4 sz mn 2 0 bs w1 H3.out).mono ?_
  rintro e w2 ⟨rfl, h4, hb2⟩
  go_wp2_with fail
  go_ret
  exact ⟨rfl, hb.trans hb2⟩

set_option maxHeartbeats 1000000 in
theorem take_4_lf (B b : Nat) (sz mn : Int) (bs : List Value) (w : World) (h : IsM B b 4 sz mn 1 bs w) :
    Calls Tryd.prog 39 #[.pointer (some ⟨b, 0, none⟩), .int .u8 10] w fun e w' => e = .returned (.int .i64 0) ∧ IsM B b 0 sz mn 0 bs w' ∧ Below B w w' := by
  obtain ⟨p, hp, h'⟩ := h.at
  obtain ⟨c0, c1, c2, c3, f0, f1, f2, f3⟩ := h'.facts
  have H := Lib.hid h'
  have HM := Lib.hid h
  have HB := Lib.hid h'.1
  have HP := Lib.hid hp
  clear h h' hp
  go_enter Tryd.func39, Tryd.ntmps39
  go_wp2_with fail
  refine (mc_mark1 B b 4 sz mn bs 10 w HM.out).mono ?_
  rintro e w1 ⟨rfl, h3, hb⟩
  obtain ⟨p1, hp1, h1'⟩ := h3.at
  obtain ⟨d0, d1, d2, d3, g0, g1, g2, g3⟩ := h1'.facts
  have H3 := Lib.hid h3
  clear h3 h1' hp1
  go_wp2_with fail
  refine (mc_next B b 4 sz mn 2 0 bs w1 H3.out).mono ?_
  rintro e w2 ⟨rfl, h4, hb2⟩
  go_wp2_with fail
  go_ret
  exact ⟨rfl, h4, hb.trans hb2⟩

set_option maxHeartbeats 1000000 in
theorem take_5_cr_no (B b : Nat) (sz mn : Int) (c : UInt8) (bs : List Value) (w : World) (h : IsM B b 5 sz mn 0 bs w) (hc : ((c.toNat : Int) == 13) = false) :
    Calls Tryd.prog 39 #[.pointer (some ⟨b, 0, none⟩), .int .u8 c.toNat] w fun e w' => e = .returned (.int .i64 160) ∧ Below B w w' := by
  obtain ⟨p, hp, h'⟩ := h.at
  obtain ⟨c0, c1, c2, c3, f0, f1, f2, f3⟩ := h'.facts
  have H := Lib.hid h'
  have HM := Lib.hid h
  have HB := Lib.hid h'.1
  have HP := Lib.hid hp
  clear h h' hp
  go_enter Tryd.func39, Tryd.ntmps39
  go_wp2_with fail
  refine (mc_mark0 B b 5 sz mn bs c w HM.out).mono ?_
  rintro e w1 ⟨rfl, h3, hb⟩
  go_wp2_with fail
  go_ret
  exact ⟨rfl, hb⟩

set_option maxHeartbeats 1000000 in
theorem take_5_cr (B b : Nat) (sz mn : Int) (bs : List Value) (w : World) (h : IsM B b 5 sz mn 0 bs w) :
    Calls Tryd.prog 39 #[.pointer (some ⟨b, 0, none⟩), .int .u8 13] w fun e w' => e = .returned (.int .i64 0) ∧ IsM B b 5 sz mn 1 bs w' ∧ Below B w w' := by
  obtain ⟨p, hp, h'⟩ := h.at
  obtain ⟨c0, c1, c2, c3, f0, f1, f2, f3⟩ := h'.facts
  have H := Lib.hid h'
  have HM := Lib.hid h
  have HB := Lib.hid h'.1
  have HP := Lib.hid hp
  clear h h' hp
  go_enter Tryd.func39, Tryd.ntmps39
  go_wp2_with fail
  refine (mc_mark0 B b 5 sz mn bs 13 w HM.out).mono ?_
  rintro e w1 ⟨rfl, h3, hb⟩
  go_wp2_with fail
  go_ret
  exact ⟨rfl, h3, hb⟩

set_option maxHeartbeats 1000000 in
theorem take_5_lf_no (B b : Nat) (sz mn : Int) (c : UInt8) (bs : List Value) (w : World) (h : IsM B b 5 sz mn 1 bs w) (hc : ((c.toNat : Int) == 10) = false) :
    Calls Tryd.prog 39 #[.pointer (some ⟨b, 0, none⟩), .int .u8 c.toNat] w fun e w' => e = .returned (.int .i64 160) ∧ Below B w w' := by
  obtain ⟨p, hp, h'⟩ := h.at
  obtain ⟨c0, c1, c2, c3, f0, f1, f2, f3⟩ := h'.facts
  have H := Lib.hid h'
  have HM := Lib.hid h
  have HB := Lib.hid h'.1
  have HP := Lib.hid hp
  clear h h' hp
  go_enter Tryd.func39, Tryd.ntmps39
  go_wp2_with fail
  refine (mc_mark1 B b 5 sz mn bs c w HM.out).mono ?_
  rintro e w1 ⟨rfl, h3, hb⟩
  obtain ⟨p1, hp1, h1'⟩ := h3.at
  obtain ⟨d0, d1, d2, d3, g0, g1, g2, g3⟩ := h1'.facts
  have H3 := Lib.hid h3
  clear h3 h1' hp1
  go_wp2_with fail
  refine (mc_next B b 5 sz mn 2 6 bs w1 H3.out).mono ?_
  rintro e w2 ⟨rfl, h4, hb2⟩
  go_wp2_with fail
  go_ret
  exact ⟨rfl, hb.trans hb2⟩

set_option maxHeartbeats 1000000 in
theorem take_5_lf (B b : Nat) (sz mn : Int) (bs : List Value) (w : World) (h : IsM B b 5 sz mn 1 bs w) :
    Calls Tryd.prog 39 #[.pointer (some ⟨b, 0, none⟩), .int .u8 10] w fun e w' => e = .returned (.int .i64 0) ∧ IsM B b 6 sz mn 0 bs w' ∧ Below B w w' := by
  obtain ⟨p, hp, h'⟩ := h.at
  obtain ⟨c0, c1, c2, c3, f0, f1, f2, f3⟩ := h'.facts
  have H := Lib.hid h'
  have HM := Lib.hid h
  have HB := Lib.hid h'.1
  have HP := Lib.hid hp
  clear h h' hp
  go_enter Tryd.func39, Tryd.ntmps39
  go_wp2_with fail
  refine (mc_mark1 B b 5 sz mn bs 10 w HM.out).mono ?_
  rintro e w1 ⟨rfl, h3, hb⟩
  obtain ⟨p1, hp1, h1'⟩ := h3.at
  obtain ⟨d0, d1, d2, d3, g0, g1, g2, g3⟩ := h1'.facts
  have H3 := Lib.hid h3
  clear h3 h1' hp1
  go_wp2_with fail
  refine (mc_next B b 5 sz mn 2 6 bs w1 H3.out).mono ?_
  rintro e w2 ⟨rfl, h4, hb2⟩
  go_wp2_with fail
  go_ret
  exact ⟨rfl, h4, hb.trans hb2⟩

set_option maxHeartbeats 1000000 in
theorem take_6_cr_no (B b : Nat) (sz mn : Int) (c : UInt8) (bs : List Value) (w : World) (h : IsM B b 6 sz mn 0 bs w) (hc : ((c.toNat : Int) == 13) = false) :
    Calls Tryd.prog 39 #[.pointer (some ⟨b, 0, none⟩), .int .u8 c.toNat] w fun e w' => e = .returned (.int .i64 160) ∧ Below B w w' := by
  obtain ⟨p, hp, h'⟩ := h.at
  obtain ⟨c0, c1, c2, c3, f0, f1, f2, f3⟩ := h'.facts
  have H := Lib.hid h'
  have HM := Lib.hid h
  have HB := Lib.hid h'.1
  have HP := Lib.hid hp
  clear h h' hp
  go_enter Tryd.func39, Tryd.ntmps39
  go_wp2_with fail
  refine (mc_mark0 B b 6 sz mn bs c w HM.out).mono ?_
  rintro e w1 ⟨rfl, h3, hb⟩
  go_wp2_with fail
  go_ret
  exact ⟨rfl, hb⟩

set_option maxHeartbeats 1000000 in
theorem take_6_cr (B b : Nat) (sz mn : Int) (bs : List Value) (w : World) (h : IsM B b 6 sz mn 0 bs w) :
    Calls Tryd.prog 39 #[.pointer (some ⟨b, 0, none⟩), .int .u8 13] w fun e w' => e = .returned (.int .i64 0) ∧ IsM B b 6 sz mn 1 bs w' ∧ Below B w w' := by
  obtain ⟨p, hp, h'⟩ := h.at
  obtain ⟨c0, c1, c2, c3, f0, f1, f2, f3⟩ := h'.facts
  have H := Lib.hid h'
  have HM := Lib.hid h
  have HB := Lib.hid h'.1
  have HP := Lib.hid hp
  clear h h' hp
  go_enter Tryd.func39, Tryd.ntmps39
  go_wp2_with fail
  refine (mc_mark0 B b 6 sz mn bs 13 w HM.out).mono ?_
  rintro e w1 ⟨rfl, h3, hb⟩
  go_wp2_with fail
  go_ret
  exact ⟨rfl, h3, hb⟩

set_option maxHeartbeats 1000000 in
theorem take_6_lf_no (B b : Nat) (sz mn : Int) (c : UInt8) (bs : List Value) (w : World) (h : IsM B b 6 sz mn 1 bs w) (hc : ((c.toNat : Int) == 10) = false) :
    Calls Tryd.prog 39 #[.pointer (some ⟨b, 0, none⟩), .int .u8 c.toNat] w fun e w' => e = .returned (.int .i64 160) ∧ Below B w w' := by
  obtain ⟨p, hp, h'⟩ := h.at
  obtain ⟨c0, c1, c2, c3, f0, f1, f2, f3⟩ := h'.facts
  have H := Lib.hid h'
  have HM := Lib.hid h
  have HB := Lib.hid h'.1
  have HP := Lib.hid hp
  clear h h' hp
  go_enter Tryd.func39, Tryd.ntmps39
  go_wp2_with fail
  refine (mc_mark1 B b 6 sz mn bs c w HM.out).mono ?_
  rintro e w1 ⟨rfl, h3, hb⟩
  obtain ⟨p1, hp1, h1'⟩ := h3.at
  obtain ⟨d0, d1, d2, d3, g0, g1, g2, g3⟩ := h1'.facts
  have H3 := Lib.hid h3
  clear h3 h1' hp1
  go_wp2_with fail
  refine (mc_next B b 6 sz mn 2 7 bs w1 H3.out).mono ?_
  rintro e w2 ⟨rfl, h4, hb2⟩
  go_wp2_with fail
  go_ret
  exact ⟨rfl, hb.trans hb2⟩

set_option maxHeartbeats 1000000 in
theorem take_6_lf (B b : Nat) (sz mn : Int) (bs : List Value) (w : World) (h : IsM B b 6 sz mn 1 bs w) :
    Calls Tryd.prog 39 #[.pointer (some ⟨b, 0, none⟩), .int .u8 10] w fun e w' => e = .returned (.int .i64 0) ∧ IsM B b 7 sz mn 0 bs w' ∧ Below B w w' := by
  obtain ⟨p, hp, h'⟩ := h.at
  obtain ⟨c0, c1, c2, c3, f0, f1, f2, f3⟩ := h'.facts
  have H := Lib.hid h'
  have HM := Lib.hid h
  have HB := Lib.hid h'.1
  have HP := Lib.hid hp
  clear h h' hp
  go_enter Tryd.func39, Tryd.ntmps39
  go_wp2_with fail
  refine (mc_mark1 B b 6 sz mn bs 10 w HM.out).mono ?_
  rintro e w1 ⟨rfl, h3, hb⟩
  obtain ⟨p1, hp1, h1'⟩ := h3.at
  obtain ⟨d0, d1, d2, d3, g0, g1, g2, g3⟩ := h1'.facts
  have H3 := Lib.hid h3
  clear h3 h1' hp1
  go_wp2_with fail
  refine (mc_next B b 6 sz mn 2 7 bs w1 H3.out).mono ?_
  rintro e w2 ⟨rfl, h4, hb2⟩
  go_wp2_with fail
  go_ret
  exact ⟨rfl, h4, hb.trans hb2⟩
end Go.Proofs.YtcmbmbkglglljaaDoor
