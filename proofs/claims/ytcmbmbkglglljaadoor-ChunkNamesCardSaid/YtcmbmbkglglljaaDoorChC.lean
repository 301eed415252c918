/- chunk's machine: take, the first byte of a chunk, and its data. PRINTED BY PROGRAM (gen_take.py). -/
import Derived.Test.YtcmbmbkglglljaaDoorChB
namespace Go.Proofs.YtcmbmbkglglljaaDoor
open Go.RowKit

set_option maxHeartbeats 1000000 in
theorem take_first_bad (B b : Nat) (sz mn sn d : Int) (c : UInt8) (bs : List Value) (w : World) (h : IsM B b 0 sz mn sn bs w) (h48 : ((c.toNat : Int) == 48) = false) (hd : dgN c = d) (h0 : d < 0) :
    Calls Tryd.prog 39 #[.pointer (some ⟨b, 0, none⟩), .int .u8 c.toNat] w fun e w' => e = .returned (.int .i64 160) ∧ Below B w w' := by
  obtain ⟨p, hp, h'⟩ := h.at
  obtain ⟨c0, c1, c2, c3, f0, f1, f2, f3⟩ := h'.facts
  have D0 := fun w => ch_dg c w
  rw [hd] at D0
  have D := Lib.hid D0
  clear hd D0
  have H := Lib.hid h'
  have HM := Lib.hid h
  have HB := Lib.hid h'.1
  have HP := Lib.hid hp
  clear h h' hp
  go_enter Tryd.func39, Tryd.ntmps39
  go_wp2_with fail
  refine (mc_next B b 0 sz mn sn 1 bs w HM.out).mono ?_
  rintro e w1 ⟨rfl, h3, hb⟩
  obtain ⟨p1, hp1, h1'⟩ := h3.at
  obtain ⟨d0, d1, d2, d3, g0, g1, g2, g3⟩ := h1'.facts
  have H3 := Lib.hid h3
  have H4 := Lib.hid h1'
  have HQ := Lib.hid hp1
  clear h3 h1' hp1
  go_wp2_with fail
  refine (D.out _).mono ?_
  rintro e w2 ⟨rfl, rfl⟩
  go_wp2_with fail
  all_goals go_ret
  all_goals exact ⟨rfl, (hb.setCell (p := ⟨b, 1, none⟩) HB.out _).setCell (p := ⟨b, 2, none⟩) HB.out _⟩

set_option maxHeartbeats 1000000 in
theorem take_first (B b : Nat) (sz mn sn d : Int) (c : UInt8) (bs : List Value) (w : World) (h : IsM B b 0 sz mn sn bs w) (h48 : ((c.toNat : Int) == 48) = false) (hd : dgN c = d) (h0 : 0 ≤ d) (h1 : d ≤ 15) :
    Calls Tryd.prog 39 #[.pointer (some ⟨b, 0, none⟩), .int .u8 c.toNat] w fun e w' => e = .returned (.int .i64 0) ∧ IsM B b 1 d 1 0 bs w' ∧ Below B w w' := by
  obtain ⟨p, hp, h'⟩ := h.at
  obtain ⟨c0, c1, c2, c3, f0, f1, f2, f3⟩ := h'.facts
  have D0 := fun w => ch_dg c w
  rw [hd] at D0
  have D := Lib.hid D0
  clear hd D0
  have H := Lib.hid h'
  have HM := Lib.hid h
  have HB := Lib.hid h'.1
  have HP := Lib.hid hp
  clear h h' hp
  go_enter Tryd.func39, Tryd.ntmps39
  go_wp2_with fail
  refine (mc_next B b 0 sz mn sn 1 bs w HM.out).mono ?_
  rintro e w1 ⟨rfl, h3, hb⟩
  obtain ⟨p1, hp1, h1'⟩ := h3.at
  obtain ⟨d0, d1, d2, d3, g0, g1, g2, g3⟩ := h1'.facts
  have H3 := Lib.hid h3
  have H4 := Lib.hid h1'
  have HQ := Lib.hid hp1
  clear h3 h1' hp1
  go_wp2_with fail
  refine (D.out _).mono ?_
  rintro e w2 ⟨rfl, hw2⟩
  have H5 := Lib.hid ((H4.out.set 1 0 1 0 mn 0 rfl (by omega)).set 2 0 1 0 0 0 rfl (by omega))
  rw [← hw2] at H5
  have hB2 : Below B w1 w2 := by rw [hw2]; exact ((Below.refl B w1).setCell (p := ⟨b, 1, none⟩) HB.out _).setCell (p := ⟨b, 2, none⟩) HB.out _
  clear hw2
  obtain ⟨k0, k1, k2, k3, l0, l1, l2, l3⟩ := H5.out.facts
  have e2 : IntKind.i64.wrap d = d := IntWalk.i64_in _ (by omega)
  go_wp2_with fail
  go_region
  all_goals go_wp2_with fail
  all_goals go_ret
  all_goals exact ⟨rfl, IsM.of HQ.out (((show MAt B b 1 0 0 0 p1 bs w2.drew from H5.out).set 1 _ 1 d 0 0 rfl (by omega)).set 2 _ 1 d 1 0 rfl (by omega)), ((((hb.trans hB2)).drew).setCell (p := ⟨b, 1, none⟩) HB.out _).setCell (p := ⟨b, 2, none⟩) HB.out _⟩

set_option maxHeartbeats 1000000 in
theorem take_3_cr_no (B b : Nat) (mn sn : Int) (c : UInt8) (bs : List Value) (w : World) (h : IsM B b 3 0 mn sn bs w) (hc : ((c.toNat : Int) == 13) = false) :
    Calls Tryd.prog 39 #[.pointer (some ⟨b, 0, none⟩), .int .u8 c.toNat] w fun e w' => e = .returned (.int .i64 160) ∧ Below B w w' := by
  obtain ⟨p, hp, h'⟩ := h.at
  obtain ⟨c0, c1, c2, c3, f0, f1, f2, f3⟩ := h'.facts
  have H := Lib.hid h'
  have HM := Lib.hid h
  have HB := Lib.hid h'.1
  have HP := Lib.hid hp
  clear h h' hp
  go_enter Tryd.func39, Tryd.ntmps39
  go_wp2_with fail
  refine (mc_next B b 3 0 mn sn 4 bs w HM.out).mono ?_
  rintro e w1 ⟨rfl, h3, hb⟩
  obtain ⟨p1, hp1, h1'⟩ := h3.at
  obtain ⟨d0, d1, d2, d3, g0, g1, g2, g3⟩ := h1'.facts
  have H3 := Lib.hid h3
  have H4 := Lib.hid h1'
  have HQ := Lib.hid hp1
  clear h3 h1' hp1
  go_wp2_with fail
  refine (mc_mark0 B b 4 0 mn bs c w1 H3.out).mono ?_
  rintro e w2 ⟨rfl, h4, hb2⟩
  go_wp2_with fail
  go_ret
  exact ⟨rfl, hb.trans hb2⟩

set_option maxHeartbeats 1000000 in
theorem take_3_cr (B b : Nat) (mn sn : Int) (bs : List Value) (w : World) (h : IsM B b 3 0 mn sn bs w) :
    Calls Tryd.prog 39 #[.pointer (some ⟨b, 0, none⟩), .int .u8 13] w fun e w' => e = .returned (.int .i64 0) ∧ IsM B b 4 0 mn 1 bs w' ∧ Below B w w' := by
  obtain ⟨p, hp, h'⟩ := h.at
  obtain ⟨c0, c1, c2, c3, f0, f1, f2, f3⟩ := h'.facts
  have H := Lib.hid h'
  have HM := Lib.hid h
  have HB := Lib.hid h'.1
  have HP := Lib.hid hp
  clear h h' hp
  go_enter Tryd.func39, Tryd.ntmps39
  go_wp2_with fail
  refine (mc_next B b 3 0 mn sn 4 bs w HM.out).mono ?_
  rintro e w1 ⟨rfl, h3, hb⟩
  obtain ⟨p1, hp1, h1'⟩ := h3.at
  obtain ⟨d0, d1, d2, d3, g0, g1, g2, g3⟩ := h1'.facts
  have H3 := Lib.hid h3
  have H4 := Lib.hid h1'
  have HQ := Lib.hid hp1
  clear h3 h1' hp1
  go_wp2_with fail
  refine (mc_mark0 B b 4 0 mn bs 13 w1 H3.out).mono ?_
  rintro e w2 ⟨rfl, h4, hb2⟩
  go_wp2_with fail
  go_ret
  exact ⟨rfl, h4, hb.trans hb2⟩

set_option maxHeartbeats 1000000 in
theorem take_3_data (B b : Nat) (sz mn sn : Int) (c : UInt8) (bs : List Value) (w : World) (h : IsM B b 3 sz mn sn bs w) (h0 : 0 < sz) (h1 : sz ≤ 100000) (hl : bs.length ≤ 9000) (hBw : B ≤ w.heap.size) :
    Calls Tryd.prog 39 #[.pointer (some ⟨b, 0, none⟩), .int .u8 c.toNat] w fun e w' => e = .returned (.int .i64 0) ∧ IsM B b 3 (sz - 1) mn sn (bs ++ [.int .u8 c.toNat]) w' ∧ Below B w w' := by
  obtain ⟨p, hp, h'⟩ := h.at
  obtain ⟨c0, c1, c2, c3, f0, f1, f2, f3⟩ := h'.facts
  have H := Lib.hid h'
  have HM := Lib.hid h
  have HB := Lib.hid h'.1
  have HP := Lib.hid hp
  clear h h' hp
  go_enter Tryd.func39, Tryd.ntmps39
  go_wp2_with fail
  refine (mc_WriteByte B b 3 sz mn sn bs c.toNat w HM.out (by omega) hBw).mono ?_
  rintro e w1 ⟨rfl, h3, hb⟩
  obtain ⟨d0, d1, d2, d3, g0, g1, g2, g3⟩ := h3.facts
  have H3 := Lib.hid h3
  clear h3
  go_wp2_with fail
  go_ret
  exact ⟨rfl, .inr (H3.out.set 1 _ 3 (sz - 1) mn sn rfl (by omega)), hb.setCell (p := ⟨b, 1, none⟩) HB.out _⟩
end Go.Proofs.YtcmbmbkglglljaaDoor
