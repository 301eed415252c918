/- reply.fields. -/
import Derived.Test.YthgmgmbjjjnhnaaGreatDoorRpA
import Derived.RangeFuncRecord
namespace Go.Proofs.YthgmgmbjjjnhnaaGreatDoor
open Go.RowKit

abbrev sT1 : Value := .string ⟨#[99, 111, 110, 116, 101, 110, 116, 45, 116, 121, 112, 101]⟩
abbrev sT2 : Value := .string ⟨#[116, 101, 120, 116, 47, 120, 109, 108, 59, 32, 99, 104, 97, 114, 115, 101, 116, 61, 117, 116, 102, 45, 56]⟩
abbrev sL1 : Value := .string ⟨#[99, 111, 110, 116, 101, 110, 116, 45, 108, 101, 110, 103, 116, 104]⟩
abbrev sC1 : Value := .string ⟨#[99, 111, 110, 110, 101, 99, 116, 105, 111, 110]⟩
abbrev sC2 : Value := .string ⟨#[99, 108, 111, 115, 101]⟩
/-- Some of six cells, as a row of pairs. -/
theorem six_row {W : World} {g : Nat} {t : TypeId} {c : List Value} (hg : W.heap[g]? = some (.cells c.toArray t)) (off n cap : Nat) (cs : List Value) (hl : cs.length = n * 2) (hc : ∀ j (h : j < cs.length), c[off + j]? = some cs[j]) : IsRow 2 (.slice (some ⟨g, off, none⟩) n cap) n cs W := by
  refine ⟨hl, some ⟨g, off, none⟩, cap, rfl, (fun h => by cases h), .inr ⟨g, off, rfl, ?_, fun j hj => ?_⟩⟩
  · exact lt_of_get hg
  · rw [Lib.cell_of_heap hg]
    simpa using hc j hj
set_option maxHeartbeats 8000000 in
set_option maxRecDepth 100000 in
theorem rp_fields (st : Int) (B : ByteArray) (k : Bool) (w : World) (ht : Tab w) (hz : B.size ≤ 1000000) : Calls Tryz.prog 28 #[rpV st B k] w (fun e w' => ∃ v, e = .returned v ∧ IsPairs v (rpF st B.data.toList k) w' ∧ Below w.heap.size w w') := by
  have q0 := (Below.refl w.heap.size w).alloc (Nat.le_refl _) (.cells #[.int .i64 st, .string B, .bool k] 23)
  have a0 := RpAt.new w (.int .i64 st) (.string B) (.bool k)
  obtain ⟨m0, m1, m2, m3, m4, m5, m6⟩ := a0
  have I0 := Itoa_c B.size (by omega) _ (ht.ret q0)
  obtain ⟨D, hD⟩ : ∃ D : ByteArray, ⟨(Lib.decDigits B.size).toArray⟩ = D := ⟨_, rfl⟩
  rw [hD] at I0
  have I := Lib.hid I0
  have HD := Lib.hid hD
  have a1 := RpAt.new w (.int .i64 st) (.string B) (.bool k)
  have A1 := Lib.hid a1
  clear I0 hD ht a1
  unfold rpF
  rw [size_toList]
  unfold clen
  by_cases h2 : st = 200
  · subst h2
    cases k with
    | true =>
      show Calls _ _ _ _ (fun e w' => ∃ v, e = .returned v ∧ IsPairs v [ctype, (clL, Lib.decDigits B.size)] w' ∧ Below w.heap.size w w')
      have HP : prV [ctype, (clL, Lib.decDigits B.size)] = [sT1, sT2, sL1, .string D] := by rw [← HD.out]; rfl
      have HPP := Lib.hid HP
      clear HP
      go_enter Tryz.func28, Tryz.ntmps28
      go_wp2_with fail
      refine I.out.mono ?_
      rintro e w1 ⟨rfl, hb⟩
      have q1 := q0.trans (hb.mono q0.size)
      obtain ⟨y0, y1, y2, y3, y4, y5, y6⟩ := A1.out.ret hb
      clear hb m0 m1 m2 m3 m4 m5 m6
      go_wp2_with fail
      go_ret
      refine ⟨_, rfl, ?_, q1.alloc q1.size _⟩
      unfold IsPairs
      show IsRow 2 _ 2 _ _
      rw [HPP.out]
      refine six_row (World.alloc_heap_new _ _) 0 2 _ _ rfl (fun j h => ?_)
      match j, h with
      | 0, _ => rfl
      | 1, _ => rfl
      | 2, _ => rfl
      | 3, _ => rfl
    | false =>
      show Calls _ _ _ _ (fun e w' => ∃ v, e = .returned v ∧ IsPairs v [ctype, (clL, Lib.decDigits B.size), cclose] w' ∧ Below w.heap.size w w')
      have HP : prV [ctype, (clL, Lib.decDigits B.size), cclose] = [sT1, sT2, sL1, .string D, sC1, sC2] := by rw [← HD.out]; rfl
      have HPP := Lib.hid HP
      clear HP
      go_enter Tryz.func28, Tryz.ntmps28
      go_wp2_with fail
      refine I.out.mono ?_
      rintro e w1 ⟨rfl, hb⟩
      have q1 := q0.trans (hb.mono q0.size)
      obtain ⟨y0, y1, y2, y3, y4, y5, y6⟩ := A1.out.ret hb
      clear hb m0 m1 m2 m3 m4 m5 m6
      go_wp2_with fail
      go_ret
      refine ⟨_, rfl, ?_, q1.alloc q1.size _⟩
      unfold IsPairs
      show IsRow 2 _ 3 _ _
      rw [HPP.out]
      refine six_row (World.alloc_heap_new _ _) 0 3 _ _ rfl (fun j h => ?_)
      match j, h with
      | 0, _ => rfl
      | 1, _ => rfl
      | 2, _ => rfl
      | 3, _ => rfl
      | 4, _ => rfl
      | 5, _ => rfl
  · rw [if_neg h2]
    have g0 : (st == 200) = false := by rw [beq_eq_false_iff_ne]; exact h2
    have g1 : (st != 200) = true := by rw [bne_iff_ne]; exact h2
    clear h2
    cases k with
    | true =>
      show Calls _ _ _ _ (fun e w' => ∃ v, e = .returned v ∧ IsPairs v [(clL, Lib.decDigits B.size)] w' ∧ Below w.heap.size w w')
      have HP : prV [(clL, Lib.decDigits B.size)] = [sL1, .string D] := by rw [← HD.out]; rfl
      have HPP := Lib.hid HP
      clear HP
      go_enter Tryz.func28, Tryz.ntmps28
      go_wp2_with fail
      refine I.out.mono ?_
      rintro e w1 ⟨rfl, hb⟩
      have q1 := q0.trans (hb.mono q0.size)
      obtain ⟨y0, y1, y2, y3, y4, y5, y6⟩ := A1.out.ret hb
      clear hb m0 m1 m2 m3 m4 m5 m6
      go_wp2_with fail
      go_ret
      refine ⟨_, rfl, ?_, q1.alloc q1.size _⟩
      unfold IsPairs
      show IsRow 2 _ 1 _ _
      rw [HPP.out]
      refine six_row (World.alloc_heap_new _ _) 2 1 _ _ rfl (fun j h => ?_)
      match j, h with
      | 0, _ => rfl
      | 1, _ => rfl
    | false =>
      show Calls _ _ _ _ (fun e w' => ∃ v, e = .returned v ∧ IsPairs v [(clL, Lib.decDigits B.size), cclose] w' ∧ Below w.heap.size w w')
      have HP : prV [(clL, Lib.decDigits B.size), cclose] = [sL1, .string D, sC1, sC2] := by rw [← HD.out]; rfl
      have HPP := Lib.hid HP
      clear HP
      go_enter Tryz.func28, Tryz.ntmps28
      go_wp2_with fail
      refine I.out.mono ?_
      rintro e w1 ⟨rfl, hb⟩
      have q1 := q0.trans (hb.mono q0.size)
      obtain ⟨y0, y1, y2, y3, y4, y5, y6⟩ := A1.out.ret hb
      clear hb m0 m1 m2 m3 m4 m5 m6
      go_wp2_with fail
      go_ret
      refine ⟨_, rfl, ?_, q1.alloc q1.size _⟩
      unfold IsPairs
      show IsRow 2 _ 2 _ _
      rw [HPP.out]
      refine six_row (World.alloc_heap_new _ _) 2 2 _ _ rfl (fun j h => ?_)
      match j, h with
      | 0, _ => rfl
      | 1, _ => rfl
      | 2, _ => rfl
      | 3, _ => rfl
end Go.Proofs.YthgmgmbjjjnhnaaGreatDoor
