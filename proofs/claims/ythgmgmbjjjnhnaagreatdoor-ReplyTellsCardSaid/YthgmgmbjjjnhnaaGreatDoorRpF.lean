/- reply.Read. -/
import Derived.Test.YthgmgmbjjjnhnaaGreatDoorRpE
namespace Go.Proofs.YthgmgmbjjjnhnaaGreatDoor
open Go.RowKit

abbrev rp0 : Value := .agg #[.int .i64 0, .string ⟨#[]⟩, .bool false]
def rdV : Option (Int × List UInt8 × Bool) → Value
  | none => .tuple #[rp0, .int .i64 0, .int .i64 180]
  | some (c, b, k) => .tuple #[.agg #[.int .i64 c, .string ⟨b.toArray⟩, .bool k], .int .i64 (rpT c b k).length, .int .i64 0]
theorem rpG_le {s b : List UInt8} {c : Int} {k : Bool} (h : rpG s = some (c, b, k)) : b.length ≤ s.length := by
  rw [rpG_def] at h
  split at h
  · cases h
  · split at h
    · injection h with h
      injection h with h1 h2
      injection h2 with h2 h3
      rw [← h2, List.length_take]
      have := (cut4_le s).2
      omega
    · cases h
def rpPut (w : World) (L : Nat) (a b c : Value) : World := ((w.setCell ⟨L, 0, none⟩ a).setCell ⟨L, 1, none⟩ b).setCell ⟨L, 2, none⟩ c
theorem RpAt.put {L : Nat} {a b c : Value} {w : World} (h : RpAt L a b c w) (a' b' c' : Value) : RpAt L a' b' c' (rpPut w L a' b' c') := by
  obtain ⟨h0, h1, h2, h3, h4, h5, h6⟩ := h
  unfold rpPut
  constructor <;> simp (maxDischargeDepth := 9) [go_sem, *]
theorem rpPut_below {w0 w : World} {B L : Nat} (h : Below B w0 w) (hB : B ≤ L) (a b c : Value) : Below B w0 (rpPut w L a b c) :=
  ((h.setCell (p := ⟨L, 0, none⟩) hB a).setCell (p := ⟨L, 1, none⟩) hB b).setCell (p := ⟨L, 2, none⟩) hB c
set_option maxHeartbeats 8000000 in
set_option maxRecDepth 100000 in
theorem rp_Read (s : ByteArray) (w : World) (ht : Tab w) (hm : ML w) (hs : s.size ≤ 100000) : Calls Tryz.prog 10 #[.string s] w (Ret w (rdV (rpR s.data.toList))) := by
  have q0 := (Below.refl w.heap.size w).alloc (Nat.le_refl _) (.cells #[.int .i64 0, .string ⟨#[]⟩, .bool false] 23)
  have A0 := Lib.hid (RpAt.new w (.int .i64 0) (.string ⟨#[]⟩) (.bool false))
  have G0 := rp_guess s _ (ht.ret q0) (hm.ret q0) hs
  have HT := Lib.hid ht
  clear ht hm
  cases hg : rpG s.data.toList with
  | none =>
    have hr : rpR s.data.toList = none := by unfold rpR; rw [hg]
    rw [hr]
    rw [hg] at G0
    have W0 := fun w ht => rp_Write 0 ⟨#[]⟩ false w ht (by decide)
    unfold wpW at W0
    rw [if_neg (by decide)] at W0
    unfold gsV at G0
    have G := Lib.hid G0
    have WH := Lib.hid W0
    clear G0 W0 hg hr
    go_enter Tryz.func10, Tryz.ntmps10
    go_wp2_with fail
    refine G.out.mono ?_
    rintro e w1 ⟨rfl, hb⟩
    have q1 := q0.trans (hb.mono q0.size)
    have A1 := A0.out.ret hb
    have A2 := Lib.hid (A1.put (.int .i64 0) (.string ⟨#[]⟩) (.bool false))
    have q2 := rpPut_below q1 (Nat.le_refl _) (.int .i64 0) (.string ⟨#[]⟩) (.bool false)
    obtain ⟨y0, y1, y2, y3, y4, y5, y6⟩ := A1
    clear hb
    go_wp2_with fail
    refine (WH.out _ (HT.out.ret q2)).mono ?_
    rintro e w3 ⟨rfl, hb⟩
    have q3 := q2.trans (hb.mono q2.size)
    have A3 := Lib.hid (A2.out.ret hb)
    clear hb y0 y1 y2 y3 y4 y5 y6 A2 q2 q1
    obtain ⟨y0, y1, y2, y3, y4, y5, y6⟩ := A3.out
    go_wp2_with fail
    refine bodyPost_ret (v := .tuple #[rp0, .int .i64 0, .int .i64 180]) (by simp (maxDischargeDepth := 9) [results, Tryz.results10, go_sem, *]) rfl ⟨rfl, ?_⟩
    repeat (first | with_reducible exact q3 | with_reducible refine Below.drew ?_ | with_reducible refine Below.setCell ?_ (by simp) _)
  | some x =>
    obtain ⟨c, d, k⟩ := x
    have hle := rpG_le hg
    rw [size_toList] at hle
    rw [hg] at G0
    unfold gsV at G0
    obtain ⟨D, hD⟩ : ∃ X : ByteArray, ⟨d.toArray⟩ = X := ⟨_, rfl⟩
    have hDl : D.data.toList = d := by rw [← hD]
    simp only [hD] at G0
    have W0 := fun w ht => rp_Write c D k w ht (by rw [← size_toList, hDl]; omega)
    unfold wpW at W0
    rw [hDl] at W0
    have G := Lib.hid G0
    by_cases hmay : rpMay c d k = true
    rotate_left
    · have hr : rpR s.data.toList = none := by unfold rpR; rw [hg]; simp only; rw [if_neg (fun h => hmay h.1)]
      rw [hr]
      rw [if_neg hmay] at W0
      have WH := Lib.hid W0
      clear G0 W0 hg hr hD hDl hmay hle
      go_enter Tryz.func10, Tryz.ntmps10
      go_wp2_with fail
      refine G.out.mono ?_
      rintro e w1 ⟨rfl, hb⟩
      have q1 := q0.trans (hb.mono q0.size)
      have A1 := A0.out.ret hb
      have A2 := Lib.hid (A1.put (.int .i64 c) (.string D) (.bool k))
      have q2 := rpPut_below q1 (Nat.le_refl _) (.int .i64 c) (.string D) (.bool k)
      obtain ⟨y0, y1, y2, y3, y4, y5, y6⟩ := A1
      clear hb
      go_wp2_with fail
      refine (WH.out _ (HT.out.ret q2)).mono ?_
      rintro e w3 ⟨rfl, hb⟩
      have q3 := q2.trans (hb.mono q2.size)
      have A3 := Lib.hid (A2.out.ret hb)
      clear hb y0 y1 y2 y3 y4 y5 y6 A2 q2 q1
      obtain ⟨y0, y1, y2, y3, y4, y5, y6⟩ := A3.out
      go_wp2_with fail
      refine bodyPost_ret (v := .tuple #[rp0, .int .i64 0, .int .i64 180]) (by simp (maxDischargeDepth := 9) [results, Tryz.results10, go_sem, *]) rfl ⟨rfl, ?_⟩
      repeat (first | with_reducible exact q3 | with_reducible refine Below.drew ?_ | with_reducible refine Below.setCell ?_ (by simp) _)
    · rw [if_pos hmay] at W0
      obtain ⟨X, hX⟩ : ∃ X : ByteArray, ⟨(rpT c d k).toArray⟩ = X := ⟨_, rfl⟩
      have hXl : X.data.toList = rpT c d k := by rw [← hX]
      rw [hX] at W0
      have P0 := fun w => Tryz.strings_HasPrefix s X w
      unfold Lib.hasPrefix at P0
      rw [hXl] at P0
      have WH := Lib.hid W0
      cases hp : (rpT c d k).isPrefixOf s.data.toList with
      | false =>
        have hr : rpR s.data.toList = none := by unfold rpR; rw [hg]; simp only; rw [if_neg (fun h => by rw [hp] at h; cases h.2)]
        rw [hr]
        rw [hp] at P0
        have PH := Lib.hid P0
        clear G0 W0 P0 hg hr hD hDl hmay hle hX hXl hp
        go_enter Tryz.func10, Tryz.ntmps10
        go_wp2_with fail
        refine G.out.mono ?_
        rintro e w1 ⟨rfl, hb⟩
        have q1 := q0.trans (hb.mono q0.size)
        have A1 := A0.out.ret hb
        have A2 := Lib.hid (A1.put (.int .i64 c) (.string D) (.bool k))
        have q2 := rpPut_below q1 (Nat.le_refl _) (.int .i64 c) (.string D) (.bool k)
        obtain ⟨y0, y1, y2, y3, y4, y5, y6⟩ := A1
        clear hb
        go_wp2_with fail
        refine (WH.out _ (HT.out.ret q2)).mono ?_
        rintro e w3 ⟨rfl, hb⟩
        have q3 := q2.trans (hb.mono q2.size)
        have A3 := Lib.hid (A2.out.ret hb)
        clear hb y0 y1 y2 y3 y4 y5 y6 A2 q2 q1
        obtain ⟨y0, y1, y2, y3, y4, y5, y6⟩ := A3.out
        go_wp2_with fail
        refine (PH.out _).mono ?_
        rintro e w4 ⟨rfl, rfl⟩
        go_wp2_with fail
        refine bodyPost_ret (v := .tuple #[rp0, .int .i64 0, .int .i64 180]) (by simp (maxDischargeDepth := 9) [results, Tryz.results10, go_sem, *]) rfl ⟨rfl, ?_⟩
        repeat (first | with_reducible exact q3 | with_reducible refine Below.drew ?_ | with_reducible refine Below.setCell ?_ (by simp) _)
      | true =>
        have hr : rpR s.data.toList = some (c, d, k) := by unfold rpR; rw [hg]; simp only; rw [if_pos ⟨hmay, hp⟩]
        rw [hr]
        rw [hp] at P0
        unfold rdV
        simp only [hD]
        rw [← hXl, size_toList]
        have PH := Lib.hid P0
        clear G0 W0 P0 hg hr hD hDl hmay hle hX hXl hp
        go_enter Tryz.func10, Tryz.ntmps10
        go_wp2_with fail
        refine G.out.mono ?_
        rintro e w1 ⟨rfl, hb⟩
        have q1 := q0.trans (hb.mono q0.size)
        have A1 := A0.out.ret hb
        have A2 := Lib.hid (A1.put (.int .i64 c) (.string D) (.bool k))
        have q2 := rpPut_below q1 (Nat.le_refl _) (.int .i64 c) (.string D) (.bool k)
        obtain ⟨y0, y1, y2, y3, y4, y5, y6⟩ := A1
        clear hb
        go_wp2_with fail
        refine (WH.out _ (HT.out.ret q2)).mono ?_
        rintro e w3 ⟨rfl, hb⟩
        have q3 := q2.trans (hb.mono q2.size)
        have A3 := Lib.hid (A2.out.ret hb)
        clear hb y0 y1 y2 y3 y4 y5 y6 A2 q2 q1
        obtain ⟨y0, y1, y2, y3, y4, y5, y6⟩ := A3.out
        go_wp2_with fail
        refine (PH.out _).mono ?_
        rintro e w4 ⟨rfl, rfl⟩
        go_wp2_with fail
        refine bodyPost_ret (v := .tuple #[.agg #[.int .i64 c, .string D, .bool k], .int .i64 X.size, .int .i64 0]) (by simp (maxDischargeDepth := 9) [results, Tryz.results10, go_sem, *]) rfl ⟨rfl, ?_⟩
        repeat (first | with_reducible exact q3 | with_reducible refine Below.drew ?_ | with_reducible refine Below.setCell ?_ (by simp) _)
end Go.Proofs.YthgmgmbjjjnhnaaGreatDoor
