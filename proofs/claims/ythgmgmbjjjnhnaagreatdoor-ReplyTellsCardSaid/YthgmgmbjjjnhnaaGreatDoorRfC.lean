/- The document's Read of a reply. PRINTED BY PROGRAM (gen_rfc.py). -/
import Derived.Test.YthgmgmbjjjnhnaaGreatDoorRfB
import Derived.Test.YthgmgmbjjjnhnaaGreatDoorRpF
import Derived.IntWalk
namespace Go.Proofs.YthgmgmbjjjnhnaaGreatDoor
open Go.RowKit

/-- The value of well and of One: what it tells beside 'false' counts for nothing. -/
def WelIs (l : List UInt8) (w : World) (e : Ending) (w' : World) : Prop :=
  ∃ (st : Int) (B : ByteArray) (k : Bool), e = .returned (.tuple #[rpV st B k, .bool (refW l).isSome]) ∧ (∀ b k', refW l = some (b, k') → st = 200 ∧ B.data.toList = b ∧ k = k') ∧ Below w.heap.size w w'
theorem RpAt.s1 {L : Nat} {a b c : Value} {w : World} (h : RpAt L a b c w) (b' : Value) : RpAt L a b' c (w.setCell ⟨L, 1, none⟩ b') := by
  obtain ⟨h0, h1, h2, h3, h4, h5, h6⟩ := h
  constructor <;> simp (maxDischargeDepth := 9) [go_sem, *]
theorem RpAt.s2 {L : Nat} {a b c : Value} {w : World} (h : RpAt L a b c w) (c' : Value) : RpAt L a b c' (w.setCell ⟨L, 2, none⟩ c') := by
  obtain ⟨h0, h1, h2, h3, h4, h5, h6⟩ := h
  constructor <;> simp (maxDischargeDepth := 9) [go_sem, *]
theorem bf_drew {w w1 : World} (hb : Below w.drew.heap.size w.drew w1) : Below w.heap.size w w1 := (bfactsD hb (Below.refl _ _)).2.2.2
theorem pfx_len {a b : List UInt8} (h : a.isPrefixOf b = true) : a.length ≤ b.length := (List.isPrefixOf_iff_prefix.1 h).length_le
set_option maxHeartbeats 8000000 in
set_option maxRecDepth 100000 in
theorem r18_well (s : ByteArray) (w : World) (hs : s.size ≤ 100000) : Calls Tryz.prog 68 #[.string s] w (WelIs s.data.toList w) := by
  have q0 := (Below.refl w.heap.size w).alloc (Nat.le_refl _) (.cells #[.int .i64 0, .string ⟨#[]⟩, .bool false] 23)
  have C0 := Lib.hid (RpAt.new w (.int .i64 0) (.string ⟨#[]⟩) (.bool false))
  have hdef : refW s.data.toList = if firstL.isPrefixOf s.data.toList = true ∧ rdE (wlD s.data.toList) = 0 ∧ rdN (wlD s.data.toList) ≤ 16384 ∧ wlA s.data.toList + (rdN (wlD s.data.toList)).toNat ≤ s.data.toList.length ∧ (rpT 200 (wlB s.data.toList) (wlK s.data.toList)).isPrefixOf s.data.toList = true then some (wlB s.data.toList, wlK s.data.toList) else none := rfl
  have F0 : ∀ w, Calls Tryz.prog 56 #[.int .i64 200] w (Ret w (.string ⟨(stT 200).toArray⟩)) := fun w => r15_First 200 w (by decide)
  obtain ⟨X, hX⟩ : ∃ X : ByteArray, ⟨(stT 200).toArray⟩ = X := ⟨_, rfl⟩
  have zX : X.size = 17 := by rw [← hX]; decide +kernel
  obtain ⟨P, hP⟩ : ∃ P : ByteArray, X ++ ⟨#[99, 111, 110, 116, 101, 110, 116, 45, 116, 121, 112, 101, 58, 32, 116, 101, 120, 116, 47, 120, 109, 108, 59, 32, 99, 104, 97, 114, 115, 101, 116, 61, 117, 116, 102, 45, 56, 13, 10, 99, 111, 110, 116, 101, 110, 116, 45, 108, 101, 110, 103, 116, 104, 58, 32]⟩ = P := ⟨_, rfl⟩
  have hPl : P.data.toList = firstL := by
    rw [← hP, ← hX, app_data]
    decide +kernel
  rw [hX] at F0
  have FH := Lib.hid F0
  have HP := Lib.hid hP
  have n1 : ¬ 9223372036854775807 < X.size + 55 := by omega
  have B0 := fun w => r18_begins s P w
  rw [hPl] at B0
  clear F0 hP hX
  cases h1 : firstL.isPrefixOf s.data.toList with
  | false =>
    have hR : refW s.data.toList = none := by rw [hdef, if_neg (by rw [h1]; simp)]
    have HR := Lib.hid hR
    rw [h1] at B0
    have B1 := Lib.hid B0
    clear hR hdef B0 h1 hPl
    go_enter Tryz.func68, Tryz.ntmps68
    go_wp2_with fail
    refine (FH.out _).mono ?_
    rintro e w1 ⟨rfl, hb⟩
    have q1 := q0.trans (hb.mono q0.size)
    have C1 := Lib.hid (C0.out.ret hb)
    clear hb
    obtain ⟨y0, y1, y2, y3, y4, y5, y6⟩ := C1.out
    go_wp2_with fail
    rw [HP.out]
    refine (B1.out _).mono ?_
    rintro e w2 ⟨rfl, rfl⟩
    go_wp2_with fail
    refine bodyPost_ret (v := .tuple #[rp0, .bool false]) (by simp (maxDischargeDepth := 9) [results, Tryz.results68, go_sem, *]) rfl ⟨0, ⟨#[]⟩, false, by rw [HR.out]; rfl, fun b k h => (by rw [HR.out] at h; cases h), ?_⟩
    repeat (first | with_reducible exact q1 | with_reducible refine Below.drew ?_ | with_reducible refine Below.setCell ?_ (by first | omega | (simp <;> omega)) _ | with_reducible refine Below.alloc ?_ (by first | omega | (simp <;> omega)) _)
  | true =>
    have hz := pfx_len h1
    rw [← hPl, size_toList, size_toList] at hz
    rw [h1] at B0
    have B1 := Lib.hid B0
    have L0 := fun w => r18_length s P.size w (by omega) hz
    have hdg : digsAt s.data.toList P.size = wlD s.data.toList := by
      unfold digsAt wlD
      rw [← hPl, size_toList]
    have hdl := digs_len s.data.toList P.size (by rw [size_toList]; exact hz)
    unfold lenV at L0
    rw [hdg] at L0 hdl
    rw [size_toList] at hdl
    obtain ⟨N, hN⟩ : ∃ N, P.size + (wlD s.data.toList).length = N := ⟨_, rfl⟩
    rw [hN] at L0 hdl
    have hln : firstL.length + (wlD s.data.toList).length = N := by rw [← hPl, size_toList]; exact hN
    by_cases h2 : rdE (wlD s.data.toList) = 0 ∧ rdN (wlD s.data.toList) ≤ 16384
    rotate_left
    · have hR : refW s.data.toList = none := by rw [hdef, if_neg (fun h => h2 ⟨h.2.1, h.2.2.1⟩)]
      have HR := Lib.hid hR
      rw [if_neg h2] at L0
      have LN := Lib.hid L0
      clear hR hdef B0 h1 hPl L0 h2 hdg hN hln
      go_enter Tryz.func68, Tryz.ntmps68
      go_wp2_with fail
      refine (FH.out _).mono ?_
      rintro e w1 ⟨rfl, hb⟩
      have q1 := q0.trans (hb.mono q0.size)
      have C1 := Lib.hid (C0.out.ret hb)
      clear hb
      obtain ⟨y0, y1, y2, y3, y4, y5, y6⟩ := C1.out
      go_wp2_with fail
      rw [HP.out]
      refine (B1.out _).mono ?_
      rintro e w2 ⟨rfl, rfl⟩
      go_wp2_with fail
      refine (LN.out _).mono ?_
      rintro e w2 ⟨rfl, hb⟩
      have q2 := q1.trans (hb.mono q1.size)
      have C2 := Lib.hid (C1.out.ret hb)
      clear hb y0 y1 y2 y3 y4 y5 y6
      obtain ⟨y0, y1, y2, y3, y4, y5, y6⟩ := C2.out
      go_wp2_with fail
      refine bodyPost_ret (v := .tuple #[rp0, .bool false]) (by simp (maxDischargeDepth := 9) [results, Tryz.results68, go_sem, *]) rfl ⟨0, ⟨#[]⟩, false, by rw [HR.out]; rfl, fun b k h => (by rw [HR.out] at h; cases h), ?_⟩
      repeat (first | with_reducible exact q2 | with_reducible refine Below.drew ?_ | with_reducible refine Below.setCell ?_ (by first | omega | (simp <;> omega)) _ | with_reducible refine Below.alloc ?_ (by first | omega | (simp <;> omega)) _)
    obtain ⟨hE, hM16⟩ := h2
    rw [if_pos ⟨hE, hM16⟩] at L0
    obtain ⟨M, hM⟩ : ∃ M : Nat, rdN (wlD s.data.toList) = (M : Int) := ⟨(rdN (wlD s.data.toList)).toNat, by have := rdN_nat (wlD s.data.toList); omega⟩
    rw [hM] at L0 hM16
    have LN := Lib.hid L0
    have g2 : (N : Int) ≤ s.size := by omega
    have g3 : (0 : Int) ≤ (N : Int) := by omega
    have B2 := fun w => r18_begins (s.extract N s.size) ⟨#[13, 10, 99, 111, 110, 110, 101, 99, 116, 105, 111, 110, 58, 32, 99, 108, 111, 115, 101, 13, 10, 13, 10]⟩ w
    have hcl : (⟨#[13, 10, 99, 111, 110, 110, 101, 99, 116, 105, 111, 110, 58, 32, 99, 108, 111, 115, 101, 13, 10, 13, 10]⟩ : ByteArray).data.toList = closeL := by decide +kernel
    rw [hcl, ext_tail] at B2
    clear hcl hPl hdg L0 B0 hN
    cases hp2 : closeL.isPrefixOf (s.data.toList.drop N) with
    | true =>
      rw [hp2] at B2
      have hk : wlK s.data.toList = false := by
        unfold wlK
        rw [hln, hp2]
        rfl
      have ha : wlA s.data.toList = N + 23 := by
        unfold wlA
        rw [hln, hk]
        rfl
      by_cases h5 : N + 23 + M ≤ s.size
      rotate_left
      · have hR : refW s.data.toList = none := by
          rw [hdef, if_neg]
          intro h
          have := h.2.2.2.1
          rw [ha, hM, Int.toNat_natCast, size_toList] at this
          omega
        have HR := Lib.hid hR
        have g5 : (s.size : Int) - ((N : Int) + 23) < M := by omega
        have BQ := Lib.hid B2
        clear hR hdef hk ha hp2 hln hM B2
        go_enter Tryz.func68, Tryz.ntmps68
        go_wp2_with fail
        refine (FH.out _).mono ?_
        rintro e w1 ⟨rfl, hb⟩
        have q1 := q0.trans (hb.mono q0.size)
        have C1 := Lib.hid (C0.out.ret hb)
        clear hb
        obtain ⟨y0, y1, y2, y3, y4, y5, y6⟩ := C1.out
        go_wp2_with fail
        rw [HP.out]
        refine (B1.out _).mono ?_
        rintro e w2 ⟨rfl, rfl⟩
        go_wp2_with fail
        refine (LN.out _).mono ?_
        rintro e w2 ⟨rfl, hb⟩
        have q2 := q1.trans (hb.mono q1.size)
        have C2 := Lib.hid (C1.out.ret hb)
        clear hb y0 y1 y2 y3 y4 y5 y6
        obtain ⟨y0, y1, y2, y3, y4, y5, y6⟩ := C2.out
        go_wp2_with fail
        have al := (Below.refl w2.heap.size w2).alloc (Nat.le_refl _) (.cells #[.int .i64 200, .string ⟨#[]⟩, .bool true] 23)
        have q3 := q2.trans (al.mono q2.size)
        have hlt := C2.out.lt
        have hsz := q2.size
        clear al
        refine (BQ.out _).mono ?_
        rintro e w3 ⟨rfl, rfl⟩
        go_wp2_with fail
        refine bodyPost_ret (v := .tuple #[rp0, .bool false]) (by simp (maxDischargeDepth := 9) [results, Tryz.results68, go_sem, *]) rfl ⟨0, ⟨#[]⟩, false, by rw [HR.out]; rfl, fun b k h => (by rw [HR.out] at h; cases h), ?_⟩
        repeat (first | with_reducible exact q3 | with_reducible exact q2 | with_reducible refine Below.drew ?_ | with_reducible refine Below.setCell ?_ (by first | omega | (simp <;> omega)) _ | with_reducible refine Below.alloc ?_ (by first | omega | (simp <;> omega)) _)
      have hb : (s.extract (N + 23) (N + 23 + M)).data.toList = wlB s.data.toList := by
        unfold wlB
        rw [ha, hM, Int.toNat_natCast, ext_data, Nat.add_sub_cancel_left]
      obtain ⟨Q, hQ⟩ : ∃ Q, s.extract (N + 23) (N + 23 + M) = Q := ⟨_, rfl⟩
      have zQ : Q.size ≤ 100000 := by rw [← hQ, ByteArray.size_extract]; omega
      rw [hQ] at hb
      have X0 := fun w => r18_Text 200 Q false w (by decide) (by decide) zQ
      obtain ⟨Y, hY⟩ : ∃ Y : ByteArray, ⟨(rpT 200 Q.data.toList false).toArray⟩ = Y := ⟨_, rfl⟩
      have hYl : Y.data.toList = rpT 200 (wlB s.data.toList) (wlK s.data.toList) := by rw [← hY, hb, hk]
      rw [hY] at X0
      have Y0 := fun w => r18_begins s Y w
      rw [hYl] at Y0
      obtain ⟨pp, hpp⟩ : ∃ b, (rpT 200 (wlB s.data.toList) (wlK s.data.toList)).isPrefixOf s.data.toList = b := ⟨_, rfl⟩
      rw [hpp] at Y0
      have hR : refW s.data.toList = if pp = true then some (Q.data.toList, false) else none := by
        rw [hdef, hpp, hb, hk]
        by_cases hp : pp = true
        · rw [if_pos hp, if_pos ⟨h1, hE, by omega, by rw [ha, hM, Int.toNat_natCast, size_toList]; exact h5, hp⟩]
        · rw [if_neg hp, if_neg (fun h => hp h.2.2.2.2)]
      have HR := Lib.hid hR
      have XH := Lib.hid X0
      have YH := Lib.hid Y0
      have HQ := Lib.hid hQ
      have g5 : ¬ (s.size : Int) - ((N : Int) + 23) < M := by omega
      have g6 : (N : Int) + 23 + M ≤ s.size := by omega
      have g7 : N + 23 + M ≤ s.size := h5
      have BQ := Lib.hid B2
      clear hR hdef hk ha hp2 hln hM hb hQ X0 Y0 hYl hY hpp B2
      go_enter Tryz.func68, Tryz.ntmps68
      go_wp2_with fail
      refine (FH.out _).mono ?_
      rintro e w1 ⟨rfl, hb⟩
      have q1 := q0.trans (hb.mono q0.size)
      have C1 := Lib.hid (C0.out.ret hb)
      clear hb
      obtain ⟨y0, y1, y2, y3, y4, y5, y6⟩ := C1.out
      go_wp2_with fail
      rw [HP.out]
      refine (B1.out _).mono ?_
      rintro e w2 ⟨rfl, rfl⟩
      go_wp2_with fail
      refine (LN.out _).mono ?_
      rintro e w2 ⟨rfl, hb⟩
      have q2 := q1.trans (hb.mono q1.size)
      have C2 := Lib.hid (C1.out.ret hb)
      clear hb y0 y1 y2 y3 y4 y5 y6
      obtain ⟨y0, y1, y2, y3, y4, y5, y6⟩ := C2.out
      go_wp2_with fail
      have al := (Below.refl w2.heap.size w2).alloc (Nat.le_refl _) (.cells #[.int .i64 200, .string ⟨#[]⟩, .bool true] 23)
      have q3 := q2.trans (al.mono q2.size)
      have hlt := C2.out.lt
      have hsz := q2.size
      clear al
      refine (BQ.out _).mono ?_
      rintro e w3 ⟨rfl, rfl⟩
      go_wp2_with fail
      rw [HQ.out]
      have aw := (Below.refl w2.heap.size w2).alloc (Nat.le_refl _) (.cells #[.int .i64 200, .string Q, .bool false] 23)
      have HKT := Lib.hid (RpAt.new w2 (.int .i64 200) (.string Q) (.bool false))
      have HKC := Lib.hid (C2.out.ret aw)
      have HQ4 := Lib.hid (q2.trans (aw.mono q2.size))
      clear y0 y1 y2 y3 y4 y5 y6 aw
      obtain ⟨y0, y1, y2, y3, y4, y5, y6⟩ := HKC.out
      obtain ⟨z0, z1, z2, z3, z4, z5, z6⟩ := HKT.out
      go_region_held3 (fun w' => w'.cell? ⟨w2.heap.size, 0, none⟩ = some (.int .i64 200) ∧ w'.cell? ⟨w2.heap.size, 1, none⟩ = some (.string Q) ∧ w'.cell? ⟨w2.heap.size, 2, none⟩ = some (.bool false)) (first | exact ⟨z1, z2, z3⟩ | (simp (maxDischargeDepth := 9) [go_sem, *])) (first | (go_at_call 30; refine (XH.out _).mono ?_; rintro e w5 ⟨rfl, hb5⟩; have b5 := bf_drew hb5; have q5 := HQ4.out.trans (b5.mono HQ4.out.size); clear y0 y1 y2 y3 y4 y5 y6 z0 z1 z2 z3 z4 z5 z6; obtain ⟨y0, y1, y2, y3, y4, y5, y6⟩ := HKC.out.ret b5; obtain ⟨z0, z1, z2, z3, z4, z5, z6⟩ := HKT.out.ret b5) | (go_at_call 67; refine (YH.out _).mono ?_; rintro e w6 ⟨rfl, rfl⟩))
      go_wp2_with fail
      refine bodyPost_ret (v := .tuple #[rpV 200 Q false, .bool pp]) (by simp (maxDischargeDepth := 9) [results, Tryz.results68, go_sem, *]) rfl ⟨200, Q, false, by rw [HR.out]; cases pp <;> rfl, fun b k h => (by rw [HR.out] at h; cases pp <;> simp at h; exact ⟨rfl, h.1, by first | exact h.2 | exact h.2.symm⟩), ?_⟩
      repeat (first | with_reducible exact q5 | with_reducible refine Below.drew ?_ | with_reducible refine Below.setCell ?_ (by first | omega | (simp <;> omega)) _ | with_reducible refine Below.alloc ?_ (by first | omega | (simp <;> omega)) _)
    | false =>
      rw [hp2] at B2
      have hk : wlK s.data.toList = true := by
        unfold wlK
        rw [hln, hp2]
        rfl
      have ha : wlA s.data.toList = N + 4 := by
        unfold wlA
        rw [hln, hk]
        rfl
      by_cases h5 : N + 4 + M ≤ s.size
      rotate_left
      · have hR : refW s.data.toList = none := by
          rw [hdef, if_neg]
          intro h
          have := h.2.2.2.1
          rw [ha, hM, Int.toNat_natCast, size_toList] at this
          omega
        have HR := Lib.hid hR
        have g5 : (s.size : Int) - ((N : Int) + 4) < M := by omega
        have BQ := Lib.hid B2
        clear hR hdef hk ha hp2 hln hM B2
        go_enter Tryz.func68, Tryz.ntmps68
        go_wp2_with fail
        refine (FH.out _).mono ?_
        rintro e w1 ⟨rfl, hb⟩
        have q1 := q0.trans (hb.mono q0.size)
        have C1 := Lib.hid (C0.out.ret hb)
        clear hb
        obtain ⟨y0, y1, y2, y3, y4, y5, y6⟩ := C1.out
        go_wp2_with fail
        rw [HP.out]
        refine (B1.out _).mono ?_
        rintro e w2 ⟨rfl, rfl⟩
        go_wp2_with fail
        refine (LN.out _).mono ?_
        rintro e w2 ⟨rfl, hb⟩
        have q2 := q1.trans (hb.mono q1.size)
        have C2 := Lib.hid (C1.out.ret hb)
        clear hb y0 y1 y2 y3 y4 y5 y6
        obtain ⟨y0, y1, y2, y3, y4, y5, y6⟩ := C2.out
        go_wp2_with fail
        have al := (Below.refl w2.heap.size w2).alloc (Nat.le_refl _) (.cells #[.int .i64 200, .string ⟨#[]⟩, .bool true] 23)
        have q3 := q2.trans (al.mono q2.size)
        have hlt := C2.out.lt
        have hsz := q2.size
        clear al
        refine (BQ.out _).mono ?_
        rintro e w3 ⟨rfl, rfl⟩
        go_wp2_with fail
        refine bodyPost_ret (v := .tuple #[rp0, .bool false]) (by simp (maxDischargeDepth := 9) [results, Tryz.results68, go_sem, *]) rfl ⟨0, ⟨#[]⟩, false, by rw [HR.out]; rfl, fun b k h => (by rw [HR.out] at h; cases h), ?_⟩
        repeat (first | with_reducible exact q3 | with_reducible exact q2 | with_reducible refine Below.drew ?_ | with_reducible refine Below.setCell ?_ (by first | omega | (simp <;> omega)) _ | with_reducible refine Below.alloc ?_ (by first | omega | (simp <;> omega)) _)
      have hb : (s.extract (N + 4) (N + 4 + M)).data.toList = wlB s.data.toList := by
        unfold wlB
        rw [ha, hM, Int.toNat_natCast, ext_data, Nat.add_sub_cancel_left]
      obtain ⟨Q, hQ⟩ : ∃ Q, s.extract (N + 4) (N + 4 + M) = Q := ⟨_, rfl⟩
      have zQ : Q.size ≤ 100000 := by rw [← hQ, ByteArray.size_extract]; omega
      rw [hQ] at hb
      have X0 := fun w => r18_Text 200 Q true w (by decide) (by decide) zQ
      obtain ⟨Y, hY⟩ : ∃ Y : ByteArray, ⟨(rpT 200 Q.data.toList true).toArray⟩ = Y := ⟨_, rfl⟩
      have hYl : Y.data.toList = rpT 200 (wlB s.data.toList) (wlK s.data.toList) := by rw [← hY, hb, hk]
      rw [hY] at X0
      have Y0 := fun w => r18_begins s Y w
      rw [hYl] at Y0
      obtain ⟨pp, hpp⟩ : ∃ b, (rpT 200 (wlB s.data.toList) (wlK s.data.toList)).isPrefixOf s.data.toList = b := ⟨_, rfl⟩
      rw [hpp] at Y0
      have hR : refW s.data.toList = if pp = true then some (Q.data.toList, true) else none := by
        rw [hdef, hpp, hb, hk]
        by_cases hp : pp = true
        · rw [if_pos hp, if_pos ⟨h1, hE, by omega, by rw [ha, hM, Int.toNat_natCast, size_toList]; exact h5, hp⟩]
        · rw [if_neg hp, if_neg (fun h => hp h.2.2.2.2)]
      have HR := Lib.hid hR
      have XH := Lib.hid X0
      have YH := Lib.hid Y0
      have HQ := Lib.hid hQ
      have g5 : ¬ (s.size : Int) - ((N : Int) + 4) < M := by omega
      have g6 : (N : Int) + 4 + M ≤ s.size := by omega
      have g7 : N + 4 + M ≤ s.size := h5
      have BQ := Lib.hid B2
      clear hR hdef hk ha hp2 hln hM hb hQ X0 Y0 hYl hY hpp B2
      go_enter Tryz.func68, Tryz.ntmps68
      go_wp2_with fail
      refine (FH.out _).mono ?_
      rintro e w1 ⟨rfl, hb⟩
      have q1 := q0.trans (hb.mono q0.size)
      have C1 := Lib.hid (C0.out.ret hb)
      clear hb
      obtain ⟨y0, y1, y2, y3, y4, y5, y6⟩ := C1.out
      go_wp2_with fail
      rw [HP.out]
      refine (B1.out _).mono ?_
      rintro e w2 ⟨rfl, rfl⟩
      go_wp2_with fail
      refine (LN.out _).mono ?_
      rintro e w2 ⟨rfl, hb⟩
      have q2 := q1.trans (hb.mono q1.size)
      have C2 := Lib.hid (C1.out.ret hb)
      clear hb y0 y1 y2 y3 y4 y5 y6
      obtain ⟨y0, y1, y2, y3, y4, y5, y6⟩ := C2.out
      go_wp2_with fail
      have al := (Below.refl w2.heap.size w2).alloc (Nat.le_refl _) (.cells #[.int .i64 200, .string ⟨#[]⟩, .bool true] 23)
      have q3 := q2.trans (al.mono q2.size)
      have hlt := C2.out.lt
      have hsz := q2.size
      clear al
      refine (BQ.out _).mono ?_
      rintro e w3 ⟨rfl, rfl⟩
      go_wp2_with fail
      rw [HQ.out]
      have aw := (Below.refl w2.heap.size w2).alloc (Nat.le_refl _) (.cells #[.int .i64 200, .string Q, .bool true] 23)
      have HKT := Lib.hid (RpAt.new w2 (.int .i64 200) (.string Q) (.bool true))
      have HKC := Lib.hid (C2.out.ret aw)
      have HQ4 := Lib.hid (q2.trans (aw.mono q2.size))
      clear y0 y1 y2 y3 y4 y5 y6 aw
      obtain ⟨y0, y1, y2, y3, y4, y5, y6⟩ := HKC.out
      obtain ⟨z0, z1, z2, z3, z4, z5, z6⟩ := HKT.out
      go_region_held3 (fun w' => w'.cell? ⟨w2.heap.size, 0, none⟩ = some (.int .i64 200) ∧ w'.cell? ⟨w2.heap.size, 1, none⟩ = some (.string Q) ∧ w'.cell? ⟨w2.heap.size, 2, none⟩ = some (.bool true)) (first | exact ⟨z1, z2, z3⟩ | (simp (maxDischargeDepth := 9) [go_sem, *])) (first | (go_at_call 30; refine (XH.out _).mono ?_; rintro e w5 ⟨rfl, hb5⟩; have b5 := bf_drew hb5; have q5 := HQ4.out.trans (b5.mono HQ4.out.size); clear y0 y1 y2 y3 y4 y5 y6 z0 z1 z2 z3 z4 z5 z6; obtain ⟨y0, y1, y2, y3, y4, y5, y6⟩ := HKC.out.ret b5; obtain ⟨z0, z1, z2, z3, z4, z5, z6⟩ := HKT.out.ret b5) | (go_at_call 67; refine (YH.out _).mono ?_; rintro e w6 ⟨rfl, rfl⟩))
      go_wp2_with fail
      refine bodyPost_ret (v := .tuple #[rpV 200 Q true, .bool pp]) (by simp (maxDischargeDepth := 9) [results, Tryz.results68, go_sem, *]) rfl ⟨200, Q, true, by rw [HR.out]; cases pp <;> rfl, fun b k h => (by rw [HR.out] at h; cases pp <;> simp at h; exact ⟨rfl, h.1, by first | exact h.2 | exact h.2.symm⟩), ?_⟩
      repeat (first | with_reducible exact q5 | with_reducible refine Below.drew ?_ | with_reducible refine Below.setCell ?_ (by first | omega | (simp <;> omega)) _ | with_reducible refine Below.alloc ?_ (by first | omega | (simp <;> omega)) _)
end Go.Proofs.YthgmgmbjjjnhnaaGreatDoor
