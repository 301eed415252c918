/- chunk's machine: take is the plain machine's. -/
import Derived.Test.YtcmbmbkglglljaaDoorChC
namespace Go.Proofs.YtcmbmbkglglljaaDoor
open Go.RowKit

/-- The machine lies in block b. -/
def CM.In (B b : Nat) (m : CM) (w : World) : Prop := IsM B b m.st m.sz m.mn m.sn (Lib.byteCells m.body) w
/-- What take's contract says. -/
def TakeIs (B b : Nat) (m : CM) (c : UInt8) (w : World) : Prop :=
  Calls Tryd.prog 39 #[.pointer (some ⟨b, 0, none⟩), .int .u8 c.toNat] w fun e w' => e = .returned (.int .i64 (m.take c).2) ∧ ((m.take c).2 = 0 → CM.In B b (m.take c).1 w') ∧ Below B w w'

theorem takes_bad {B b : Nat} {m : CM} {c : UInt8} {w : World} {r : CM × Int} (h : m.take c = r) (h0 : r.2 ≠ 0)
    (k : Calls Tryd.prog 39 #[.pointer (some ⟨b, 0, none⟩), .int .u8 c.toNat] w fun e w' => e = .returned (.int .i64 r.2) ∧ Below B w w') : TakeIs B b m c w := by
  unfold TakeIs
  rw [h]
  exact k.mono fun e w' ⟨h1, h2⟩ => ⟨h1, fun h3 => absurd h3 h0, h2⟩
theorem takes_ok {B b : Nat} {m : CM} {c : UInt8} {w : World} {r : CM × Int} (h : m.take c = r) (h0 : r.2 = 0)
    (k : Calls Tryd.prog 39 #[.pointer (some ⟨b, 0, none⟩), .int .u8 c.toNat] w fun e w' => e = .returned (.int .i64 0) ∧ CM.In B b r.1 w' ∧ Below B w w') : TakeIs B b m c w := by
  unfold TakeIs
  rw [h, h0]
  exact k.mono fun e w' ⟨h1, h2, h3⟩ => ⟨h1, fun _ => h2, h3⟩
theorem u8_ne {c : UInt8} {n : Nat} (hn : n < 256) (h : c ≠ UInt8.ofNat n) : ((c.toNat : Int) == (n : Int)) = false := by
  apply beq_false_of_ne
  intro e
  have e' : c.toNat = n := by omega
  apply h
  apply UInt8.toNat_inj.1
  rw [UInt8.toNat_ofNat', e']
  omega
theorem byteCells_snoc (l : List UInt8) (c : UInt8) : Lib.byteCells (l ++ [c]) = Lib.byteCells l ++ [.int .u8 c.toNat] := by simp [Lib.byteCells]

theorem mc_take (B b : Nat) (m : CM) (hm : m.Ok) (h7 : m.st ≤ 6) (c : UInt8) (w : World) (h : CM.In B b m w) (hBw : B ≤ w.heap.size) : TakeIs B b m c w := by
  obtain ⟨st, sz, mn, sn, body⟩ := m
  have o1 := hm.sn
  have o2 := hm.mn
  have o3 := hm.sz
  have o4 := hm.body
  have o5 := hm.data
  have o6 := hm.dig
  clear hm
  simp only at o1 o2 o3 o4 o5 o6 h7
  have o7 : sz < 65536 := by
    have : 16 ^ mn ≤ 16 ^ 4 := Nat.pow_le_pow_right (by omega) o2
    omega
  have hl : (Lib.byteCells body).length = body.length := Lib.byteCells_length _
  have hx := hexN_le c
  unfold CM.In at h
  simp only at h
  match st, h7 with
  | 0, _ =>
    by_cases h48 : c = 48
    · subst h48
      exact takes_ok (r := (⟨5, sz, mn, 0, body⟩, 0)) (by simp [CM.take]) rfl (take_first0 B b sz mn sn _ w h)
    · have hc := u8_ne (n := 48) (by omega) h48
      by_cases hd : 0 ≤ hexN c
      · refine takes_ok (r := (⟨1, (hexN c).toNat, 1, 0, body⟩, 0)) (by simp [CM.take, CM.digits, h48, hd]) rfl ?_
        have := take_first B b sz mn sn (hexN c) c _ w h hc (dg_hex c) hd hx.2
        refine this.mono fun e w' ⟨h1, h2, h3⟩ => ⟨h1, ?_, h3⟩
        show IsM B b 1 ((hexN c).toNat : Nat) _ _ _ _
        rw [Int.toNat_of_nonneg hd]
        exact h2
      · refine takes_bad (r := (⟨1, 0, 0, 0, body⟩, 160)) (by simp [CM.take, CM.digits, h48, hd]) (by simp) ?_
        exact take_first_bad B b sz mn sn (hexN c) c _ w h hc (dg_hex c) (by omega)
  | 1, _ =>
    have o8 := o6 rfl
    by_cases hd : 0 ≤ hexN c
    · by_cases hf : mn < 4
      · refine takes_ok (r := (⟨1, 16 * sz + (hexN c).toNat, mn + 1, sn, body⟩, 0)) (by simp [CM.take, CM.digits, hd, hf]) rfl ?_
        have := take_digit B b sz mn sn (hexN c) c _ w h (dg_hex c) hd hx.2 (by omega) (by omega) (by omega) (by omega)
        refine this.mono fun e w' ⟨h1, h2, h3⟩ => ⟨h1, ?_, h3⟩
        show IsM B b 1 ((16 * sz + (hexN c).toNat : Nat) : Int) ((mn + 1 : Nat) : Int) _ _ _
        rw [show ((16 * sz + (hexN c).toNat : Nat) : Int) = 16 * (sz : Int) + hexN c by omega, show ((mn + 1 : Nat) : Int) = (mn : Int) + 1 by omega]
        exact h2
      · have hne : c ≠ 13 := by
          intro e
          subst e
          exact absurd hd (by decide)
        exact takes_bad (r := (⟨1, sz, mn, sn, body⟩, 160)) (by simp [CM.take, CM.digits, hd, hf, hne]) (by simp) (take_bad_full B b sz mn sn (hexN c) c _ w h (dg_hex c) hd (by omega) (u8_ne (n := 13) (by omega) hne))
    · by_cases hc : c = 13
      · subst hc
        exact takes_ok (r := (⟨2, sz, mn, 0, body⟩, 0)) (by simp [CM.take, CM.digits, hd]; omega) rfl (take_line_neg B b sz mn sn _ _ w h (dg_hex 13) (by omega) (by apply beq_false_of_ne; omega))
      · exact takes_bad (r := (⟨1, sz, mn, sn, body⟩, 160)) (by simp [CM.take, CM.digits, hd, hc]) (by simp) (take_bad_neg B b sz mn sn _ c _ w h (dg_hex c) (by omega) (u8_ne (n := 13) (by omega) hc))
  | 2, _ =>
    by_cases hc : c = 10
    · subst hc
      by_cases ht : 8192 < body.length + sz
      · exact takes_bad (r := (⟨2, sz, mn, sn, body⟩, 4)) (by simp [CM.take, CM.told, ht]) (by simp) (take_lf_many B b sz mn sn _ w h (by omega) (by omega) (by omega) (by omega))
      · exact takes_ok (r := (⟨3, sz, mn, 0, body⟩, 0)) (by simp [CM.take, CM.told, ht]) rfl (take_lf_ok B b sz mn sn _ w h (by omega) (by omega) (by show ((Lib.byteCells body).length : Int) + sz ≤ 8192; omega))
    · exact takes_bad (r := (⟨2, sz, mn, sn, body⟩, 160)) (by simp [CM.take, hc]) (by simp) (take_lf_no B b sz mn sn c _ w h (u8_ne (n := 10) (by omega) hc))
  | 3, _ =>
    by_cases hs : 0 < sz
    · refine takes_ok (r := (⟨3, sz - 1, mn, sn, body ++ [c]⟩, 0)) (by simp [CM.take, hs]) rfl ?_
      have := take_3_data B b sz mn sn c _ w h (by omega) (by omega) (by omega) hBw
      refine this.mono fun e w' ⟨h1, h2, h3⟩ => ⟨h1, ?_, h3⟩
      show IsM B b 3 ((sz - 1 : Nat) : Int) _ _ (Lib.byteCells (body ++ [c])) _
      rw [byteCells_snoc, show ((sz - 1 : Nat) : Int) = (sz : Int) - 1 by omega]
      exact h2
    · obtain rfl : sz = 0 := by omega
      by_cases hc : c = 13
      · subst hc
        exact takes_ok (r := (⟨4, 0, mn, 1, body⟩, 0)) (by simp [CM.take, CM.mark]) rfl (take_3_cr B b mn sn _ w h)
      · exact takes_bad (r := (⟨4, 0, mn, 1, body⟩, 160)) (by simp [CM.take, CM.mark, hc]) (by simp) (take_3_cr_no B b mn sn c _ w h (u8_ne (n := 13) (by omega) hc))
  | 4, _ =>
    match sn, o1 with
    | 0, _ =>
      by_cases hc : c = 13
      · subst hc
        exact takes_ok (r := (⟨4, sz, mn, 1, body⟩, 0)) (by simp [CM.take, CM.mark]) rfl (take_4_cr B b sz mn _ w h)
      · exact takes_bad (r := (⟨4, sz, mn, 1, body⟩, 160)) (by simp [CM.take, CM.mark, hc]) (by simp) (take_4_cr_no B b sz mn c _ w h (u8_ne (n := 13) (by omega) hc))
    | 1, _ =>
      by_cases hc : c = 10
      · subst hc
        exact takes_ok (r := (⟨0, sz, mn, 0, body⟩, 0)) (by simp [CM.take, CM.mark]) rfl (take_4_lf B b sz mn _ w h)
      · exact takes_bad (r := (⟨0, sz, mn, 0, body⟩, 160)) (by simp [CM.take, CM.mark, hc]) (by simp) (take_4_lf_no B b sz mn c _ w h (u8_ne (n := 10) (by omega) hc))
  | 5, _ =>
    match sn, o1 with
    | 0, _ =>
      by_cases hc : c = 13
      · subst hc
        exact takes_ok (r := (⟨5, sz, mn, 1, body⟩, 0)) (by simp [CM.take, CM.mark]) rfl (take_5_cr B b sz mn _ w h)
      · exact takes_bad (r := (⟨5, sz, mn, 1, body⟩, 160)) (by simp [CM.take, CM.mark, hc]) (by simp) (take_5_cr_no B b sz mn c _ w h (u8_ne (n := 13) (by omega) hc))
    | 1, _ =>
      by_cases hc : c = 10
      · subst hc
        exact takes_ok (r := (⟨6, sz, mn, 0, body⟩, 0)) (by simp [CM.take, CM.mark]) rfl (take_5_lf B b sz mn _ w h)
      · exact takes_bad (r := (⟨6, sz, mn, 0, body⟩, 160)) (by simp [CM.take, CM.mark, hc]) (by simp) (take_5_lf_no B b sz mn c _ w h (u8_ne (n := 10) (by omega) hc))
  | 6, _ =>
    match sn, o1 with
    | 0, _ =>
      by_cases hc : c = 13
      · subst hc
        exact takes_ok (r := (⟨6, sz, mn, 1, body⟩, 0)) (by simp [CM.take, CM.mark]) rfl (take_6_cr B b sz mn _ w h)
      · exact takes_bad (r := (⟨6, sz, mn, 1, body⟩, 160)) (by simp [CM.take, CM.mark, hc]) (by simp) (take_6_cr_no B b sz mn c _ w h (u8_ne (n := 13) (by omega) hc))
    | 1, _ =>
      by_cases hc : c = 10
      · subst hc
        exact takes_ok (r := (⟨7, sz, mn, 0, body⟩, 0)) (by simp [CM.take, CM.mark]) rfl (take_6_lf B b sz mn _ w h)
      · exact takes_bad (r := (⟨7, sz, mn, 0, body⟩, 160)) (by simp [CM.take, CM.mark, hc]) (by simp) (take_6_lf_no B b sz mn c _ w h (u8_ne (n := 10) (by omega) hc))
end Go.Proofs.YtcmbmbkglglljaaDoor
