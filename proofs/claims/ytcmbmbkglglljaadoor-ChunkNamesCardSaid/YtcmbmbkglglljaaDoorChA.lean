/- chunk's machine: next, told, mark, digit. -/
import Derived.Test.YtcmbmbkglglljaaDoorMach
import Derived.Test.YtcmbmbkglglljaaDoorKit
import Derived.Deep.QuietTactic
import Derived.BigQuiet
namespace Go.Proofs.YtcmbmbkglglljaaDoor
open Go.RowKit

theorem MAt.facts {B b : Nat} {st sz mn sn : Int} {p : Value} {bs : List Value} {w : World} (h : MAt B b st sz mn sn p bs w) :
    w.cell? ⟨b, 0, none⟩ = some (.int .i64 st) ∧ w.cell? ⟨b, 1, none⟩ = some (.int .i64 sz) ∧ w.cell? ⟨b, 2, none⟩ = some (.int .i64 mn) ∧ w.cell? ⟨b, 3, none⟩ = some (.int .i64 sn)
    ∧ w.frozen? ⟨b, 0, none⟩ = false ∧ w.frozen? ⟨b, 1, none⟩ = false ∧ w.frozen? ⟨b, 2, none⟩ = false ∧ w.frozen? ⟨b, 3, none⟩ = false := by
  obtain ⟨_, v, hb, _⟩ := h
  simp [World.cell?, World.frozen?, hb]
theorem IsM.at {B b : Nat} {st sz mn sn : Int} {bs : List Value} {w : World} (h : IsM B b st sz mn sn bs w) : ∃ p, (p = .pointer none ∨ p = .pointer (some ⟨b, 4, none⟩)) ∧ MAt B b st sz mn sn p bs w := by
  rcases h with h | h
  · exact ⟨_, .inl rfl, h⟩
  · exact ⟨_, .inr rfl, h⟩
theorem IsM.of {B b : Nat} {st sz mn sn : Int} {bs : List Value} {w : World} {p : Value} (hp : p = .pointer none ∨ p = .pointer (some ⟨b, 4, none⟩)) (h : MAt B b st sz mn sn p bs w) : IsM B b st sz mn sn bs w := by
  rcases hp with rfl | rfl
  · exact .inl h
  · exact .inr h

theorem IsM.drewN {B b : Nat} {st sz mn sn : Int} {bs : List Value} {w : World} (h : IsM B b st sz mn sn bs w) (n : Nat) : IsM B b st sz mn sn bs (w.drewN n) := h
theorem Below.drewN_ (B : Nat) (w : World) (n : Nat) : Below B w (w.drewN n) := ⟨rfl, rfl, rfl, Nat.le_refl _, fun _ _ => rfl⟩
set_option maxHeartbeats 1000000 in
theorem mc_next (B b : Nat) (st sz mn sn x : Int) (bs : List Value) (w : World) (h : IsM B b st sz mn sn bs w) :
    Calls Tryd.prog 56 #[.pointer (some ⟨b, 0, none⟩), .int .i64 x] w fun e w' => e = .returned (.tuple #[]) ∧ IsM B b x sz mn 0 bs w' ∧ Below B w w' := by
  obtain ⟨p, hp, h⟩ := h.at
  obtain ⟨c0, c1, c2, c3, f0, f1, f2, f3⟩ := h.facts
  go_enter Tryd.func56, Tryd.ntmps56
  go_wp2_with fail
  go_end0
  exact ⟨rfl, IsM.of hp ((h.set 0 x x sz mn sn rfl (by omega)).set 3 0 x sz mn 0 rfl (by omega)), ((Below.refl B w).setCell (p := ⟨b, 0, none⟩) h.1 _).setCell (p := ⟨b, 3, none⟩) h.1 _⟩

set_option maxHeartbeats 1000000 in
theorem mc_told_ok (B b : Nat) (st sz mn sn : Int) (bs : List Value) (w : World) (h : IsM B b st sz mn sn bs w) (h0 : 0 ≤ sz) (h2 : sz ≤ 100000) (h1 : (bs.length : Int) + sz ≤ 8192) :
    Calls Tryd.prog 58 #[.pointer (some ⟨b, 0, none⟩)] w fun e w' => e = .returned (.int .i64 0) ∧ IsM B b 3 sz mn 0 bs w' ∧ Below B w w' := by
  obtain ⟨p, hp, h'⟩ := h.at
  obtain ⟨c0, c1, c2, c3, f0, f1, f2, f3⟩ := h'.facts
  have e1 : IntKind.i64.wrap ((bs.length : Int) + sz) = (bs.length : Int) + sz := IntWalk.i64_in _ (by omega)
  have H := Lib.hid h
  clear h h' hp
  go_enter Tryd.func58, Tryd.ntmps58
  go_wp2_with fail
  go_quiet ((go_at_call 79; exact Calls.quiet_of_same (mc_Len B b st sz mn sn bs _ H.out)))
  go_wp2_with fail
  refine (mc_next B b st sz mn sn 3 bs _ (H.out.drewN _)).mono ?_
  rintro e w1 ⟨rfl, h3, hb⟩
  go_wp2_with fail
  go_ret
  exact ⟨rfl, h3, (Below.drewN_ B w _).trans hb⟩
theorem mc_told_no (B b : Nat) (st sz mn sn : Int) (bs : List Value) (w : World) (h : IsM B b st sz mn sn bs w) (h0 : 0 ≤ sz) (h2 : sz ≤ 100000) (h3 : bs.length ≤ 8192) (h1 : 8192 < (bs.length : Int) + sz) :
    Calls Tryd.prog 58 #[.pointer (some ⟨b, 0, none⟩)] w fun e w' => e = .returned (.int .i64 4) ∧ Below B w w' := by
  obtain ⟨p, hp, h'⟩ := h.at
  obtain ⟨c0, c1, c2, c3, f0, f1, f2, f3⟩ := h'.facts
  have e1 : IntKind.i64.wrap ((bs.length : Int) + sz) = (bs.length : Int) + sz := IntWalk.i64_in _ (by omega)
  have H := Lib.hid h
  clear h h' hp
  go_enter Tryd.func58, Tryd.ntmps58
  go_wp2_with fail
  go_quiet ((go_at_call 79; exact Calls.quiet_of_same (mc_Len B b st sz mn sn bs _ H.out)))
  go_wp2_with fail
  go_ret
  exact ⟨rfl, Below.drewN_ B w _⟩
set_option maxHeartbeats 1000000 in
theorem ch_digit (c : UInt8) (w : World) : Calls Tryd.prog 57 #[.int .u8 c.toNat] w fun e w' => e = .returned (.int .i64 (if Lib.indexByte [48, 49, 50, 51, 52, 53, 54, 55, 56, 57, 97, 98, 99, 100, 101, 102] c < 0 then Lib.indexByte [48, 49, 50, 51, 52, 53, 54, 55, 56, 57, 65, 66, 67, 68, 69, 70] c else Lib.indexByte [48, 49, 50, 51, 52, 53, 54, 55, 56, 57, 97, 98, 99, 100, 101, 102] c)) ∧ w' = w := by
  have e : c.toNat.toUInt8 = c := by simp
  have I1 := fun w => Tryd.strings_IndexByte ⟨#[48, 49, 50, 51, 52, 53, 54, 55, 56, 57, 97, 98, 99, 100, 101, 102]⟩ c.toNat w
  have I2 := fun w => Tryd.strings_IndexByte ⟨#[48, 49, 50, 51, 52, 53, 54, 55, 56, 57, 65, 66, 67, 68, 69, 70]⟩ c.toNat w
  rw [show ((c.toNat : Int)).toNat.toUInt8 = c by simp] at I1 I2
  obtain ⟨x, hx⟩ : ∃ x, Lib.indexByte [48, 49, 50, 51, 52, 53, 54, 55, 56, 57, 97, 98, 99, 100, 101, 102] c = x := ⟨_, rfl⟩
  obtain ⟨y, hy⟩ : ∃ y, Lib.indexByte [48, 49, 50, 51, 52, 53, 54, 55, 56, 57, 65, 66, 67, 68, 69, 70] c = y := ⟨_, rfl⟩
  rw [hx, hy]
  rw [show (ByteArray.mk #[48, 49, 50, 51, 52, 53, 54, 55, 56, 57, 97, 98, 99, 100, 101, 102]).data.toList = [48, 49, 50, 51, 52, 53, 54, 55, 56, 57, 97, 98, 99, 100, 101, 102] from rfl, hx] at I1
  rw [show (ByteArray.mk #[48, 49, 50, 51, 52, 53, 54, 55, 56, 57, 65, 66, 67, 68, 69, 70]).data.toList = [48, 49, 50, 51, 52, 53, 54, 55, 56, 57, 65, 66, 67, 68, 69, 70] from rfl, hy] at I2
  have J1 := Lib.hid I1
  have J2 := Lib.hid I2
  clear I1 I2 hx hy e
  by_cases h : x < 0
  · rw [if_pos h]
    go_enter Tryd.func57, Tryd.ntmps57
    go_wp2_with fail
    refine (J1.out _).mono ?_
    rintro e w1 ⟨rfl, rfl⟩
    go_wp2_with fail
    refine (J2.out _).mono ?_
    rintro e w2 ⟨rfl, rfl⟩
    go_wp2_with fail
    go_ret
    exact ⟨rfl, rfl⟩
  · rw [if_neg h]
    go_enter Tryd.func57, Tryd.ntmps57
    go_wp2_with fail
    refine (J1.out _).mono ?_
    rintro e w1 ⟨rfl, rfl⟩
    go_wp2_with fail
    go_ret
    exact ⟨rfl, rfl⟩

set_option maxHeartbeats 1000000 in
/-- mark: the first byte of a line's end, and the second. -/
theorem mc_mark0 (B b : Nat) (st sz mn : Int) (bs : List Value) (c : UInt8) (w : World) (h : IsM B b st sz mn 0 bs w) :
    Calls Tryd.prog 60 #[.pointer (some ⟨b, 0, none⟩), .int .u8 c.toNat] w fun e w' => e = .returned (.tuple #[.bool ((c.toNat : Int) == 13), .bool false]) ∧ IsM B b st sz mn 1 bs w' ∧ Below B w w' := by
  obtain ⟨p, hp, h⟩ := h.at
  obtain ⟨c0, c1, c2, c3, f0, f1, f2, f3⟩ := h.facts
  go_enter Tryd.func60, Tryd.ntmps60
  go_wp2_with fail
  go_quiet (fail)
  go_wp2_with fail
  go_ret2
  exact ⟨rfl, (IsM.of hp (h.set 3 1 st sz mn 1 rfl (by omega))).drewN _, ((Below.refl B w).setCell (p := ⟨b, 3, none⟩) h.1 _).trans (Below.drewN_ B _ _)⟩
set_option maxHeartbeats 1000000 in
theorem mc_mark1 (B b : Nat) (st sz mn : Int) (bs : List Value) (c : UInt8) (w : World) (h : IsM B b st sz mn 1 bs w) :
    Calls Tryd.prog 60 #[.pointer (some ⟨b, 0, none⟩), .int .u8 c.toNat] w fun e w' => e = .returned (.tuple #[.bool ((c.toNat : Int) == 10), .bool true]) ∧ IsM B b st sz mn 2 bs w' ∧ Below B w w' := by
  obtain ⟨p, hp, h⟩ := h.at
  obtain ⟨c0, c1, c2, c3, f0, f1, f2, f3⟩ := h.facts
  go_enter Tryd.func60, Tryd.ntmps60
  go_wp2_with fail
  go_quiet (fail)
  go_wp2_with fail
  go_ret2
  exact ⟨rfl, (IsM.of hp (h.set 3 2 st sz mn 2 rfl (by omega))).drewN _, ((Below.refl B w).setCell (p := ⟨b, 3, none⟩) h.1 _).trans (Below.drewN_ B _ _)⟩
end Go.Proofs.YtcmbmbkglglljaaDoor
