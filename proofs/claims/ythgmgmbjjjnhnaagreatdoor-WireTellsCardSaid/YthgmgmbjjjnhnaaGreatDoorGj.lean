/- LnC, LnD, LnH: put together by mergetpl.py. -/
import Derived.Test.YthgmgmbjjjnhnaaGreatDoorGi
import Derived.Test.YthgmgmbjjjnhnaaGreatDoorGc
import Derived.Defers
import Derived.Deep.RegionHeld3
import Derived.StillTailTactics
namespace Go.Proofs.YthgmgmbjjjnhnaaGreatDoor
open Go.RowKit

/-- Line's result, as four cells that may be written. -/
structure LnAt (L : Nat) (a b c d : Value) (w : World) : Prop where
  lt : L < w.heap.size
  c0 : w.cell? ⟨L, 0, none⟩ = some a
  c1 : w.cell? ⟨L, 1, none⟩ = some b
  c2 : w.cell? ⟨L, 2, none⟩ = some c
  c3 : w.cell? ⟨L, 3, none⟩ = some d
  f0 : w.frozen? ⟨L, 0, none⟩ = false
  f1 : w.frozen? ⟨L, 1, none⟩ = false
  f2 : w.frozen? ⟨L, 2, none⟩ = false
  f3 : w.frozen? ⟨L, 3, none⟩ = false
theorem LnAt.ret {L : Nat} {a b c d : Value} {w w' : World} (h : LnAt L a b c d w) (hb : Below w.heap.size w w') : LnAt L a b c d w' := by
  obtain ⟨h0, h1, h2, h3, h4, h5, h6, h7, h8⟩ := h
  obtain ⟨q, r⟩ := bcell hb
  exact ⟨Nat.lt_of_lt_of_le h0 hb.size, (q _ _ h0).trans h1, (q _ _ h0).trans h2, (q _ _ h0).trans h3, (q _ _ h0).trans h4, (r _ _ h0).trans h5, (r _ _ h0).trans h6, (r _ _ h0).trans h7, (r _ _ h0).trans h8⟩
theorem LnAt.drew {L : Nat} {a b c d : Value} {w : World} (h : LnAt L a b c d w) : LnAt L a b c d w.drew := ⟨h.lt, h.c0, h.c1, h.c2, h.c3, h.f0, h.f1, h.f2, h.f3⟩
/-- All four written. -/
def lnPut (w : World) (L : Nat) (a b c d : Value) : World := (((w.setCell ⟨L, 0, none⟩ a).setCell ⟨L, 1, none⟩ b).setCell ⟨L, 2, none⟩ c).setCell ⟨L, 3, none⟩ d
set_option maxHeartbeats 1000000 in
theorem ln_def (E L : Nat) (x : Int) (w : World) (he : w.cell? ⟨E, 0, none⟩ = some (.int .i64 x)) (a b c d : Value) (hl : LnAt L a b c d w) (hx : (x != 0) = true) :
    CallsD Tryz.prog 137 #[.pointer (some ⟨E, 0, none⟩), .pointer (some ⟨L, 0, none⟩)] .returning w fun e u' w' => u' = .returning ∧ e = .returned (.tuple #[]) ∧ w' = lnPut w L (.string ⟨#[]⟩) (.string ⟨#[]⟩) (.int .i64 0) (.int .i64 0) := by
  obtain ⟨h0, h1, h2, h3, h4, h5, h6, h7, h8⟩ := hl
  go_enter_d Tryz.func137, Tryz.ntmps137
  go_wp2_with fail
  go_end0
  exact ⟨rfl, rfl⟩
theorem ln_def0 (E L : Nat) (w : World) (he : w.cell? ⟨E, 0, none⟩ = some (.int .i64 0)) :
    CallsD Tryz.prog 137 #[.pointer (some ⟨E, 0, none⟩), .pointer (some ⟨L, 0, none⟩)] .returning w fun e u' w' => u' = .returning ∧ e = .returned (.tuple #[]) ∧ w' = w := by
  go_enter_d Tryz.func137, Tryz.ntmps137
  go_wp2_with fail
  go_end0
  exact ⟨rfl, rfl⟩
theorem LnAt.put {L : Nat} {a b c d : Value} {w : World} (h : LnAt L a b c d w) (a' b' c' d' : Value) : LnAt L a' b' c' d' (lnPut w L a' b' c' d') := by
  obtain ⟨h0, h1, h2, h3, h4, h5, h6, h7, h8⟩ := h
  unfold lnPut
  constructor <;> simp (maxDischargeDepth := 9) [go_sem, *]
theorem LnAt.far {L : Nat} {a b c d : Value} {w : World} (h : LnAt L a b c d w) {E : Nat} (hE : E ≠ L) (v : Value) : LnAt L a b c d (w.setCell ⟨E, 0, none⟩ v) := by
  obtain ⟨h0, h1, h2, h3, h4, h5, h6, h7, h8⟩ := h
  have hE' : L ≠ E := fun e => hE e.symm
  constructor <;> simp (maxDischargeDepth := 9) [go_sem, *]
theorem lnPut_below {w0 w : World} {B L : Nat} (h : Below B w0 w) (hB : B ≤ L) (a b c d : Value) : Below B w0 (lnPut w L a b c d) := by
  unfold lnPut
  exact (((h.setCell (p := ⟨L, 0, none⟩) hB a).setCell (p := ⟨L, 1, none⟩) hB b).setCell (p := ⟨L, 2, none⟩) hB c).setCell (p := ⟨L, 3, none⟩) hB d
/-- The door, where there is an error. -/
theorem ln_door (tmps : Array Value) (w W : World) (a b c d : Value) (hL : LnAt w.heap.size a b c d W) (he : W.cell? ⟨w.heap.size + 1, 0, none⟩ = some (.int .i64 150)) (q : Below w.heap.size w W)
    (t2 : tmps[2]?.getD undef = .pointer (some ⟨w.heap.size, 0, none⟩)) (t3 : tmps[3]?.getD undef = .pointer (some ⟨w.heap.size + 1, 0, none⟩)) :
    bodyPostD Tryz.prog Tryz.f99 (Ret w (.tuple #[lnV ⟨#[]⟩ ⟨#[]⟩ 0 0, .int .i64 150])) .ret { tmps := tmps, defers := [{ target := .fn (.func 137) #[.pointer (some ⟨w.heap.size + 1, 0, none⟩), .pointer (some ⟨w.heap.size, 0, none⟩)], args := #[] }] } W := by
  refine leaves_cons (f := 137) (args := #[.pointer (some ⟨w.heap.size + 1, 0, none⟩), .pointer (some ⟨w.heap.size, 0, none⟩)]) (by simp) (by simp [go_sem]) ?_
  refine (ln_def (w.heap.size + 1) w.heap.size 150 W he a b c d hL rfl).mono ?_
  rintro e u' w'' ⟨rfl, rfl, rfl⟩
  obtain ⟨h0, h1, h2, h3, h4, h5, h6, h7, h8⟩ := hL.put (.string ⟨#[]⟩) (.string ⟨#[]⟩) (.int .i64 0) (.int .i64 0)
  have e2 : (lnPut W w.heap.size (.string ⟨#[]⟩) (.string ⟨#[]⟩) (.int .i64 0) (.int .i64 0)).cell? ⟨w.heap.size + 1, 0, none⟩ = some (.int .i64 150) := by
    unfold lnPut
    simp (maxDischargeDepth := 9) [go_sem, he]
  refine ⟨_, ?_, rfl, lnPut_below q (Nat.le_refl _) _ _ _ _⟩
  simp (maxDischargeDepth := 9) [results, Tryz.results99, go_sem, t2, t3, h1, h2, h3, h4, e2]
/-- .. where there is none. -/
theorem ln_door0 (tmps : Array Value) (w W : World) (a b c d : Value) (hL : LnAt w.heap.size a b c d W) (he : W.cell? ⟨w.heap.size + 1, 0, none⟩ = some (.int .i64 0)) (q : Below w.heap.size w W)
    (t2 : tmps[2]?.getD undef = .pointer (some ⟨w.heap.size, 0, none⟩)) (t3 : tmps[3]?.getD undef = .pointer (some ⟨w.heap.size + 1, 0, none⟩)) :
    bodyPostD Tryz.prog Tryz.f99 (Ret w (.tuple #[.agg #[a, b, c, d], .int .i64 0])) .ret { tmps := tmps, defers := [{ target := .fn (.func 137) #[.pointer (some ⟨w.heap.size + 1, 0, none⟩), .pointer (some ⟨w.heap.size, 0, none⟩)], args := #[] }] } W := by
  refine leaves_cons (f := 137) (args := #[.pointer (some ⟨w.heap.size + 1, 0, none⟩), .pointer (some ⟨w.heap.size, 0, none⟩)]) (by simp) (by simp [go_sem]) ?_
  refine (ln_def0 (w.heap.size + 1) w.heap.size W he).mono ?_
  rintro e u' w'' ⟨rfl, rfl, rfl⟩
  obtain ⟨h0, h1, h2, h3, h4, h5, h6, h7, h8⟩ := hL
  refine ⟨_, ?_, rfl, q⟩
  simp (maxDischargeDepth := 9) [results, Tryz.results99, go_sem, t2, t3, h1, h2, h3, h4, he]
theorem ln_Parse3 (s : ByteArray) (w : World) (hs : s.size ≤ 1000000) (hm : ML w) (h3 : (cutG 32 [] s.data.toList).length ≠ 3) : Calls Tryz.prog 99 #[.string s] w (Ret w (.tuple #[lnV ⟨#[]⟩ ⟨#[]⟩ 0 0, .int .i64 150])) := by
  have S := Lib.hid fun w hm => st_Split1 s 32 w hs hm
  have T := Lib.hid fun v w hv => ln_three_no v (cutG 32 [] s.data.toList) w hv h3
  have HM := Lib.hid hm
  clear hm h3
  have A0 : LnAt w.heap.size (.string ⟨#[]⟩) (.string ⟨#[]⟩) (.int .i64 0) (.int .i64 0) ((w.alloc (.cells #[.string ⟨#[]⟩, .string ⟨#[]⟩, .int .i64 0, .int .i64 0] 130)).alloc (.cells #[.int .i64 0] 24)) := by
    constructor <;> simp <;> omega
  have b0 : Below w.heap.size w ((w.alloc (.cells #[.string ⟨#[]⟩, .string ⟨#[]⟩, .int .i64 0, .int .i64 0] 130)).alloc (.cells #[.int .i64 0] 24)) := ((Below.refl _ w).alloc (Nat.le_refl _) _).alloc (by simp) _
  have HA := Lib.hid A0
  have HB := Lib.hid b0
  clear A0 b0
  go_enter_defers Tryz.func99, Tryz.ntmps99
  go_wp2_with fail
  refine (S.out _ (HM.out.ret HB.out)).mono ?_
  rintro e w1 ⟨v, rfl, iv, hb1⟩
  have a1 := HA.out.ret hb1
  have e1 := (bcell hb1).1 (w.heap.size + 1) 0 (by simp)
  have g1 := (bcell hb1).2 (w.heap.size + 1) 0 (by simp)
  simp at e1 g1
  have q1 := HB.out.trans (hb1.mono HB.out.size)
  have z1 : w.heap.size + 2 ≤ w1.heap.size := by have := hb1.size; simp at this; omega
  have IV := Lib.hid iv
  clear iv
  go_wp2_with fail
  refine (T.out v _ IV.out).mono ?_
  rintro e w2 ⟨rfl, hb2⟩
  obtain ⟨h0, h1, h2, h3, h4, h5, h6, h7, h8⟩ := a1.ret hb2
  have e2 := ((bcell hb2).1 (w.heap.size + 1) 0 (by omega)).trans e1
  have g2 := ((bcell hb2).2 (w.heap.size + 1) 0 (by omega)).trans g1
  have q2 := q1.trans (hb2.mono q1.size)
  clear a1 e1 g1 hb1 hb2 S T HM HA HB IV
  go_wp2_with fail
  refine ln_door _ w _ (.string ⟨#[]⟩) (.string ⟨#[]⟩) (.int .i64 0) (.int .i64 0) (((LnAt.mk h0 h1 h2 h3 h4 h5 h6 h7 h8).put _ _ _ _).far (by simp) _) (by simp [go_sem, *]) ?_ rfl rfl
  exact (lnPut_below q2 (Nat.le_refl _) _ _ _ _).setCell (by simp) _
end Go.Proofs.YthgmgmbjjjnhnaaGreatDoor
namespace Go.Proofs.YthgmgmbjjjnhnaaGreatDoor
open Go.RowKit

theorem lnW_no {m t v : List UInt8} (h : Lib.hasPrefix v http = false) : lnW m t v = none := by
  unfold lnW
  split
  · rename_i a0 a1 a2 a3 a4 a p b
    rw [if_neg]
    rintro ⟨h1, _⟩
    have : Lib.hasPrefix [a0, a1, a2, a3, a4, a, p, b] http = true := by
      have e : [a0, a1, a2, a3, a4, a, p, b] = http ++ [a, p, b] := by rw [← h1]; rfl
      rw [e]
      unfold Lib.hasPrefix
      rw [List.isPrefixOf_iff_prefix]
      exact List.prefix_append _ _
    rw [h] at this
    cases this
  · rfl
theorem lnW_pre (m t r : List UInt8) : lnW m t (http ++ r) = match r with
    | [a, p, b] => if p = 46 ∧ lnMay m t (dgt a) (dgt b) = true then some (m, t, dgt a, dgt b) else none
    | _ => none := by
  show lnW m t (72 :: 84 :: 84 :: 80 :: 47 :: r) = _
  unfold lnW
  match r with
  | [] => rfl
  | [_] => rfl
  | [_, _] => rfl
  | [a, p, b] =>
    simp only
    by_cases h : p = 46 ∧ lnMay m t (dgt a) (dgt b) = true
    · rw [if_pos h, if_pos ⟨rfl, h⟩]
    · rw [if_neg h, if_neg (fun e => h e.2)]
  | _ :: _ :: _ :: _ :: _ => rfl
theorem hasPre {v p : List UInt8} (h : Lib.hasPrefix v p = true) : v = p ++ Lib.trimPrefix v p := by
  unfold Lib.trimPrefix
  rw [if_pos h]
  unfold Lib.hasPrefix at h
  rw [List.isPrefixOf_iff_prefix] at h
  obtain ⟨r, rfl⟩ := h
  simp
/-- What Parse answers. -/
def lnA : Option (List UInt8 × List UInt8 × Int × Int) → Value
  | none => .tuple #[lnV ⟨#[]⟩ ⟨#[]⟩ 0 0, .int .i64 150]
  | some (m, t, g, s) => .tuple #[lnV ⟨m.toArray⟩ ⟨t.toArray⟩ g s, .int .i64 0]
theorem lnA_some (M T : ByteArray) (g s : Int) : lnA (some (M.data.toList, T.data.toList, g, s)) = .tuple #[.agg #[.string M, .string T, .int .i64 g, .int .i64 s], .int .i64 0] := by
  show Value.tuple #[lnV ⟨M.data.toList.toArray⟩ ⟨T.data.toList.toArray⟩ g s, _] = _
  rw [str_mk, str_mk]
set_option maxHeartbeats 8000000 in
set_option maxRecDepth 100000 in
theorem ln_ParseW (s M T V : ByteArray) (w : World) (hs : s.size ≤ 1000000) (hm : ML w) (hc : cutG 32 [] s.data.toList = [M.data.toList, T.data.toList, V.data.toList]) : Calls Tryz.prog 99 #[.string s] w (Ret w (lnA (lnOf s.data.toList))) := by
  have hj := congrArg List.length (cut3_join hc)
  simp only [List.length_append, List.length_cons, size_toList] at hj
  have zM : M.size ≤ 1000000 := by omega
  have zT : T.size ≤ 1000000 := by omega
  have zV : V.size ≤ 1000000 := by omega
  rw [lnOf_3 hc]
  have hsv : strV (cutG 32 [] s.data.toList) = [.string M, .string T, .string V] := by
    rw [hc]
    simp [strV]
  have S := Lib.hid fun w hm => st_Split1 s 32 w hs hm
  have TH := Lib.hid fun v w hv => ln_three v M T V w hv
  have hpre := @hasPre V.data.toList http
  have hno := @lnW_no M.data.toList T.data.toList V.data.toList
  have CP0 := fun w => Tryz.strings_CutPrefix V ⟨#[72, 84, 84, 80, 47]⟩ w
  rw [show (⟨#[72, 84, 84, 80, 47]⟩ : ByteArray).data.toList = http from rfl] at CP0
  obtain ⟨R, hR⟩ : ∃ R : ByteArray, ⟨(Lib.trimPrefix V.data.toList http).toArray⟩ = R := ⟨_, rfl⟩
  have hRl : R.data.toList = Lib.trimPrefix V.data.toList http := by rw [← hR]
  rw [hR] at CP0
  rw [← hRl] at hpre
  obtain ⟨H, hH⟩ : ∃ H, Lib.hasPrefix V.data.toList http = H := ⟨_, rfl⟩
  rw [hH] at CP0 hpre hno
  have zR : R.size ≤ 1000000 := by
    rw [← size_toList, hRl]
    unfold Lib.trimPrefix
    split
    · rw [List.length_drop, size_toList]; omega
    · rw [size_toList]; exact zV
  have CP := Lib.hid CP0
  have HM := Lib.hid hm
  have HSV := Lib.hid hsv
  clear hm hc CP0 hR hRl hH hsv hj
  have A0 : LnAt w.heap.size (.string ⟨#[]⟩) (.string ⟨#[]⟩) (.int .i64 0) (.int .i64 0) ((w.alloc (.cells #[.string ⟨#[]⟩, .string ⟨#[]⟩, .int .i64 0, .int .i64 0] 130)).alloc (.cells #[.int .i64 0] 24)) := by
    constructor <;> simp <;> omega
  have b0 : Below w.heap.size w ((w.alloc (.cells #[.string ⟨#[]⟩, .string ⟨#[]⟩, .int .i64 0, .int .i64 0] 130)).alloc (.cells #[.int .i64 0] 24)) := ((Below.refl _ w).alloc (Nat.le_refl _) _).alloc (by simp) _
  have HA := Lib.hid A0
  have HB := Lib.hid b0
  have HPRE := Lib.hid hpre
  have HNO := Lib.hid hno
  obtain ⟨O, hO⟩ : ∃ O, lnW M.data.toList T.data.toList V.data.toList = O := ⟨_, rfl⟩
  rw [hO]
  have HO := Lib.hid hO
  clear A0 b0 hpre hno hO
  go_enter_defers Tryz.func99, Tryz.ntmps99
  go_wp2_with fail
  refine (S.out _ (HM.out.ret HB.out)).mono ?_
  rintro e w1 ⟨v, rfl, iv, hb1⟩
  have a1 := HA.out.ret hb1
  have e1 := (bcell hb1).1 (w.heap.size + 1) 0 (by simp)
  have g1 := (bcell hb1).2 (w.heap.size + 1) 0 (by simp)
  simp at e1 g1
  have q1 := HB.out.trans (hb1.mono HB.out.size)
  have z1 : w.heap.size + 2 ≤ w1.heap.size := by have := hb1.size; simp at this; omega
  rw [HSV.out] at iv
  have IV := Lib.hid iv
  clear iv
  go_wp2_with fail
  refine (TH.out v _ IV.out).mono ?_
  rintro e w2 ⟨rfl, hb2⟩
  have a2 := a1.ret hb2
  have e2 := ((bcell hb2).1 (w.heap.size + 1) 0 (by omega)).trans e1
  have g2 := ((bcell hb2).2 (w.heap.size + 1) 0 (by omega)).trans g1
  have q2 := q1.trans (hb2.mono q1.size)
  have z2 : w.heap.size + 2 ≤ w2.heap.size := by have := hb2.size; omega
  clear a1 e1 g1 hb1 hb2 S TH HM HA HB IV HSV z1 q1
  have A2 := Lib.hid a2
  obtain ⟨h0, h1, h2, h3, h4, h5, h6, h7, h8⟩ := a2
  go_wp2_with fail
  refine (CP.out _).mono ?_
  rintro e w3 ⟨rfl, rfl⟩
  clear CP
  cases H with
  | false =>
    have hO : O = none := HO.out.symm.trans (HNO.out rfl)
    subst hO
    go_wp2_with fail
    refine ln_door _ w _ (.string ⟨#[]⟩) (.string ⟨#[]⟩) (.int .i64 0) (.int .i64 0) ((A2.out.put _ _ _ _).far (by simp) _) (by simp [go_sem, *]) ?_ rfl rfl
    exact (lnPut_below q2 (Nat.le_refl _) _ _ _ _).setCell (by simp) _
  | true =>
    have hV := HPRE.out rfl
    have hO := HO.out
    rw [hV, lnW_pre] at hO
    clear HPRE HNO HO
    by_cases hl : R.size = 3
    · obtain ⟨a, p, b, hRL⟩ : ∃ a p b, R.data.toList = [a, p, b] := by
        have h : R.data.toList.length = 3 := by rw [size_toList]; exact hl
        match hr : R.data.toList, h with
        | [a, p, b], _ => exact ⟨a, p, b, rfl⟩
      have l0 : 0 < R.size := by omega
      have l1 : 1 < R.size := by omega
      have l2 : 2 < R.size := by omega
      have r0 : R[0] = a := by
        have := getElem_data R 0 l0
        rw [hRL] at this
        exact (Option.some.inj this).symm
      have r1 : R[1] = p := by
        have := getElem_data R 1 l1
        rw [hRL] at this
        exact (Option.some.inj this).symm
      have r2 : R[2] = b := by
        have := getElem_data R 2 l2
        rw [hRL] at this
        exact (Option.some.inj this).symm
      rw [hRL] at hO
      simp only at hO
      have g3 : ((R.size : Int) != 3) = false := by rw [hl]; rfl
      have g4 : (R.size : Int) ≤ 3 := by omega
      have g5 : (3 : Int) ≤ R.size := by omega
      have hp46 := u8_beq p 46
      rw [show ((UInt8.toNat 46 : Nat) : Int) = 46 from rfl] at hp46
      by_cases hp : p = 46
      · have n1 : ((R[1].toNat : Int) != 46) = false := by rw [r1, hp]; rfl
        rw [← r0, ← r2] at hO
        obtain ⟨ga, hga⟩ : ∃ g, dgt R[0] = g := ⟨_, rfl⟩
        obtain ⟨gb, hgb⟩ : ∃ g, dgt R[2] = g := ⟨_, rfl⟩
        rw [hga, hgb] at hO
        have MY0 := fun w => ln_may M T ga gb w zM zT
        obtain ⟨K, hK⟩ : ∃ K, lnMay M.data.toList T.data.toList ga gb = K := ⟨_, rfl⟩
        rw [hK] at hO MY0
        have MY := Lib.hid MY0
        have HO2 := Lib.hid hO
        have P0 := Lib.hid hp
        clear hK hO hV hp46 r0 r1 r2 MY0 hRL hl hp
        go_wp2_with fail
        go_region_held3 (fun _ => True) (trivial) (first | (go_at_call 141; refine (ln_digit _ _).mono ?_; rintro e w5 ⟨rfl, rfl⟩))
        all_goals
          have P5 := lnPut_below q2 (Nat.le_refl _) (.string M) (.string T) (.int .i64 ga) (.int .i64 gb)
          unfold lnPut at P5
          go_wp2_with fail
          refine (MY.out _).mono ?_
          rintro e w6 ⟨rfl, hb6⟩
          have a6 := ((A2.out.put (.string M) (.string T) (.int .i64 ga) (.int .i64 gb)).drew).ret hb6
          have e6 := ((bcell hb6).1 (w.heap.size + 1) 0 (by simp; omega))
          have g6 := ((bcell hb6).2 (w.heap.size + 1) 0 (by simp; omega))
          simp [go_sem, e2, g2] at e6 g6
          have q6 := P5.drew.trans (hb6.mono (by simp; omega))
          have A6 := Lib.hid a6
          obtain ⟨j0, j1, j2, j3, j4, j5, j6, j7, j8⟩ := a6
          clear h0 h1 h2 h3 h4 h5 h6 h7 h8 e2 g2 P5 hb6 MY A2 q2
          cases K with
          | false =>
            have hO' : O = none := by rw [← HO2.out, if_neg (fun e => (by cases e.2))]
            subst hO'
            go_wp2_with fail
            go_region
            all_goals
              go_wp2_with fail
              refine ln_door _ w _ (.string M) (.string T) (.int .i64 ga) (.int .i64 gb) ?_ ?_ ?_ rfl rfl
              · constructor <;> simp (maxDischargeDepth := 9) [go_sem, *]
              · simp (maxDischargeDepth := 9) [go_sem, *]
              · repeat (first | with_reducible exact q6 | with_reducible refine Below.drew ?_ | with_reducible refine Below.setCell ?_ (by simp) _)
          | true =>
            have hO' : O = some (M.data.toList, T.data.toList, ga, gb) := by rw [← HO2.out, if_pos ⟨P0.out, rfl⟩]
            subst hO'
            rw [lnA_some]
            go_wp2_with fail
            go_region
            all_goals
              go_wp2_with fail
              refine ln_door0 _ w _ (.string M) (.string T) (.int .i64 ga) (.int .i64 gb) ?_ ?_ ?_ rfl rfl
              · constructor <;> simp (maxDischargeDepth := 9) [go_sem, *]
              · simp (maxDischargeDepth := 9) [go_sem, *]
              · repeat (first | with_reducible exact q6 | with_reducible refine Below.drew ?_ | with_reducible refine Below.setCell ?_ (by simp) _)
      · have hO' : O = none := by rw [← hO, if_neg (fun e => hp e.1)]
        subst hO'
        have n1 : ((R[1].toNat : Int) != 46) = true := by
          unfold bne
          rw [r1, hp46]
          simpa using hp
        clear hO hV hp46 r0 r1 r2 hRL hl hp
        go_wp2_with fail
        refine ln_door _ w _ (.string ⟨#[]⟩) (.string ⟨#[]⟩) (.int .i64 0) (.int .i64 0) ((A2.out.put _ _ _ _).far (by simp) _) (by simp [go_sem, *]) ?_ rfl rfl
        exact (lnPut_below q2 (Nat.le_refl _) _ _ _ _).setCell (by simp) _
    · have hO' : O = none := by
        rw [← hO]
        split
        · rename_i a p b e
          exact absurd (by rw [← size_toList, e]; rfl) hl
        · rfl
      subst hO'
      have g3 : ((R.size : Int) != 3) = true := by simp; omega
      have g4 : ¬ (R.size : Int) = 3 := by omega
      clear hO hl hV
      go_wp2_with fail
      refine ln_door _ w _ (.string ⟨#[]⟩) (.string ⟨#[]⟩) (.int .i64 0) (.int .i64 0) ((A2.out.put _ _ _ _).far (by simp) _) (by simp [go_sem, *]) ?_ rfl rfl
      exact (lnPut_below q2 (Nat.le_refl _) _ _ _ _).setCell (by simp) _
theorem ln_Parse (s : ByteArray) (w : World) (hs : s.size ≤ 1000000) (hm : ML w) : Calls Tryz.prog 99 #[.string s] w (Ret w (lnA (lnOf s.data.toList))) := by
  by_cases h : (cutG 32 [] s.data.toList).length = 3
  · match hc : cutG 32 [] s.data.toList, h with
    | [m, t, v], _ => exact ln_ParseW s ⟨m.toArray⟩ ⟨t.toArray⟩ ⟨v.toArray⟩ w hs hm hc
  · rw [lnOf_len h]
    exact ln_Parse3 s w hs hm h
end Go.Proofs.YthgmgmbjjjnhnaaGreatDoor
namespace Go.Proofs.YthgmgmbjjjnhnaaGreatDoor
open Go.RowKit

theorem lnOf_ref {l m t v : List UInt8} (hc : cutG 32 [] l = [m, t, v]) (h8 : v.length = 8) {x y : UInt8} (hx : v[5]? = some x) (hy : v[7]? = some y) :
    lnOf l = if lnMay m t ((x.toNat : Int) - 48) ((y.toNat : Int) - 48) = true ∧ lnTxt m t ((x.toNat : Int) - 48) ((y.toNat : Int) - 48) = l then some (m, t, (x.toNat : Int) - 48, (y.toNat : Int) - 48) else none := by
  by_cases hq : lnMay m t ((x.toNat : Int) - 48) ((y.toNat : Int) - 48) = true ∧ lnTxt m t ((x.toNat : Int) - 48) ((y.toNat : Int) - 48) = l
  · rw [if_pos hq]
    have := lnOf_txt hq.1
    rw [hq.2] at this
    exact this
  · rw [if_neg hq]
    cases ho : lnOf l with
    | none => rfl
    | some z =>
      obtain ⟨m', t', g, s⟩ := z
      obtain ⟨k1, k2⟩ := lnOf_some ho
      rw [lnOf_3 hc] at ho
      unfold lnW at ho
      match v, h8 with
      | [a0, a1, a2, a3, a4, a, p, b], _ =>
        simp only at ho
        simp only [List.getElem?_cons_succ, List.getElem?_cons_zero, Option.some.injEq] at hx hy
        subst hx
        subst hy
        split at ho
        · simp only [Option.some.injEq, Prod.mk.injEq] at ho
          obtain ⟨rfl, rfl, rfl, rfl⟩ := ho
          obtain ⟨_, _, r1, r2, r3, r4⟩ := lnMay_parts k1
          have e1 : dgt a = (a.toNat : Int) - 48 := by
            rcases dgt_range a with h | h
            · omega
            · omega
          have e2 : dgt b = (b.toNat : Int) - 48 := by
            rcases dgt_range b with h | h
            · omega
            · omega
          rw [e1, e2] at k1 k2
          exact absurd ⟨k1, k2.symm⟩ hq
        · cases ho
set_option maxHeartbeats 8000000 in
set_option maxRecDepth 100000 in
theorem r15_ParseW (s M T V : ByteArray) (w : World) (hs : s.size ≤ 1000000) (hc : cutG 32 [] s.data.toList = [M.data.toList, T.data.toList, V.data.toList]) : Calls Tryz.prog 76 #[.string s] w (Ret w (lnA (lnOf s.data.toList))) := by
  have hj := congrArg List.length (cut3_join hc)
  simp only [List.length_append, List.length_cons, size_toList] at hj
  have zM : M.size ≤ 1000000 := by omega
  have zT : T.size ≤ 1000000 := by omega
  have hsv : strV (cutG 32 [] s.data.toList) = [.string M, .string T, .string V] := by
    rw [hc]
    simp [strV]
  have S := Lib.hid fun w => r7_Cut s 32 w hs
  have HSV := Lib.hid hsv
  have HN : Hid ((cutG 32 [] s.data.toList).length = 3) := Lib.hid (by rw [hc]; rfl)
  have q0 : Below w.heap.size w (w.alloc (.cells #[.string ⟨#[]⟩, .string ⟨#[]⟩, .int .i64 0, .int .i64 0] 130)) := (Below.refl _ w).alloc (Nat.le_refl _) _
  have A0 : LnAt w.heap.size (.string ⟨#[]⟩) (.string ⟨#[]⟩) (.int .i64 0) (.int .i64 0) (w.alloc (.cells #[.string ⟨#[]⟩, .string ⟨#[]⟩, .int .i64 0, .int .i64 0] 130)) := by
    constructor <;> simp
  have HA := Lib.hid A0
  by_cases h8 : V.size = 8
  · have l5 : 5 < V.size := by omega
    have l7 : 7 < V.size := by omega
    have hof := lnOf_ref hc (by rw [size_toList]; exact h8) (getElem_data V 5 l5) (getElem_data V 7 l7)
    have b5 := V[5].toNat_lt
    have b7 := V[7].toNat_lt
    obtain ⟨g, hg⟩ : ∃ g : Int, (V[5].toNat : Int) - 48 = g := ⟨_, rfl⟩
    obtain ⟨f, hf⟩ : ∃ g : Int, (V[7].toNat : Int) - 48 = g := ⟨_, rfl⟩
    rw [hg, hf] at hof
    have w5 : IntKind.i64.wrap ((V[5].toNat : Int) - 48) = g := (IntWalk.i64_in _ (by omega)).trans hg
    have w7 : IntKind.i64.wrap ((V[7].toNat : Int) - 48) = f := (IntWalk.i64_in _ (by omega)).trans hf
    have MY0 := fun w => r15_May M T g f w zM zT
    have hp := @lnMay_parts M.data.toList T.data.toList g f
    obtain ⟨K, hK⟩ : ∃ K, lnMay M.data.toList T.data.toList g f = K := ⟨_, rfl⟩
    rw [hK] at MY0 hof hp
    have MY := Lib.hid MY0
    have HOF := Lib.hid hof
    have HP := Lib.hid hp
    have g8 : ((V.size : Int) != 8) = false := by rw [h8]; rfl
    have g9 : (8 : Int) ≤ V.size := by omega
    have k5 : (5 : Int) < V.size := by omega
    have k7 : (7 : Int) < V.size := by omega
    have g10 : (V.size : Int) ≤ 8 := by omega
    clear hc MY0 hof hp hK hj A0 hsv h8
    obtain ⟨O, hO⟩ : ∃ O, lnOf s.data.toList = O := ⟨_, rfl⟩
    rw [hO]
    have HO := Lib.hid (hO.symm.trans HOF.out)
    clear hO HOF
    go_enter Tryz.func76, Tryz.ntmps76
    go_wp2_with fail
    refine (S.out _).mono ?_
    rintro e w1 ⟨v, rfl, ow, hb1⟩
    have iv := own_vals ow
    rw [HSV.out] at iv
    have q1 := q0.trans (hb1.mono q0.size)
    have a1 := HA.out.ret hb1
    obtain ⟨b, off, cap, rfl, hbl, hcell⟩ := vals_cell iv (k := 0) (by simp)
    have c0 := hcell 0 (by simp)
    have c1 := hcell 1 (by simp)
    have c2 := hcell 2 (by simp)
    simp only [List.getElem_cons_zero, List.getElem_cons_succ, Nat.add_zero, List.length_cons, List.length_nil] at c0 c1 c2 ⊢
    have A1 := Lib.hid a1
    clear ow iv hcell a1 hb1 S HSV HN HA q0
    go_wp2_with fail
    go_region_held3 (fun w' => w'.cell? ⟨b, off, none⟩ = some (.string M) ∧ w'.cell? ⟨b, off + 1, none⟩ = some (.string T) ∧ w'.cell? ⟨b, off + 2, none⟩ = some (.string V)) (first | exact ⟨c0, c1, c2⟩ | (simp (maxDischargeDepth := 9) [go_sem, World.cell?_alloc_some, *])) (first | fail)
    all_goals
      go_wp2_with fail
      refine (MY.out _).mono ?_
      rintro e w2 ⟨rfl, hb2⟩
      have z1 := q1.size
      have q2 := (q1.alloc z1 (.cells #[.string M, .string T, .int .i64 g, .int .i64 f] 130)).drew.trans (hb2.mono (by simp; omega))
      have d0 := (bcell hb2).1 w1.heap.size 0 (by simp)
      have d1 := (bcell hb2).1 w1.heap.size 1 (by simp)
      have d2 := (bcell hb2).1 w1.heap.size 2 (by simp)
      have d3 := (bcell hb2).1 w1.heap.size 3 (by simp)
      simp at d0 d1 d2 d3
      have a2 := (A1.out.ret ((Below.refl _ w1).alloc (Nat.le_refl _) (.cells #[.string M, .string T, .int .i64 g, .int .i64 f] 130))).drew.ret hb2
      have A2 := Lib.hid a2
      have z2 : w1.heap.size < w2.heap.size := by have := hb2.size; simp at this; omega
      have z3 : w.heap.size < w1.heap.size := A1.out.lt
      clear a2 hb2 A1 MY q1
      cases K with
      | false =>
        obtain rfl : O = none := HO.out.trans (if_neg (fun e => (by cases e.1)))
        obtain ⟨j0, j1, j2, j3, j4, j5, j6, j7, j8⟩ := A2.out
        go_wp2_with fail
        refine bodyPost_ret (v := .tuple #[lnV ⟨#[]⟩ ⟨#[]⟩ 0 0, .int .i64 150]) (by simp (maxDischargeDepth := 9) [results, Tryz.results76, go_sem, *]) rfl ⟨rfl, ?_⟩
        repeat (first | with_reducible exact q2 | with_reducible refine Below.drew ?_ | with_reducible refine Below.setCell ?_ (by simp) _)
      | true =>
        obtain ⟨_, _, i1, i2, i3, i4⟩ := HP.out rfl
        have TX0 := fun w => r15_Text M T g f w zM zT i1 i2 i3 i4
        have htx := eqb_bytes (lnTxt M.data.toList T.data.toList g f) s.data.toList
        rw [str_mk] at htx
        obtain ⟨X, hX⟩ : ∃ X : ByteArray, ⟨(lnTxt M.data.toList T.data.toList g f).toArray⟩ = X := ⟨_, rfl⟩
        rw [hX] at TX0 htx
        have TX := Lib.hid TX0
        clear TX0 hX
        by_cases hl : lnTxt M.data.toList T.data.toList g f = s.data.toList
        · obtain rfl : O = some (M.data.toList, T.data.toList, g, f) := HO.out.trans (if_pos ⟨rfl, hl⟩)
          rw [decide_eq_true hl] at htx
          rw [lnA_some]
          clear hl HO
          go_wp2_with fail
          refine (TX.out _).mono ?_
          rintro e w3 ⟨rfl, hb3⟩
          have f0 := ((bcell hb3).1 w1.heap.size 0 z2).trans d0
          have f1 := ((bcell hb3).1 w1.heap.size 1 z2).trans d1
          have f2 := ((bcell hb3).1 w1.heap.size 2 z2).trans d2
          have f3 := ((bcell hb3).1 w1.heap.size 3 z2).trans d3
          have q3 := q2.trans (hb3.mono q2.size)
          obtain ⟨j0, j1, j2, j3, j4, j5, j6, j7, j8⟩ := A2.out.ret hb3
          clear d0 d1 d2 d3 hb3 TX
          go_wp2_with fail
          refine bodyPost_ret (v := .tuple #[.agg #[.string M, .string T, .int .i64 g, .int .i64 f], .int .i64 0]) (by simp (maxDischargeDepth := 9) [results, Tryz.results76, go_sem, *]) rfl ⟨rfl, ?_⟩
          repeat (first | with_reducible exact q3 | with_reducible refine Below.drew ?_ | with_reducible refine Below.setCell ?_ (by simp) _)
        · obtain rfl : O = none := HO.out.trans (if_neg (fun e => hl e.2))
          rw [decide_eq_false hl] at htx
          clear hl HO
          go_wp2_with fail
          refine (TX.out _).mono ?_
          rintro e w3 ⟨rfl, hb3⟩
          have q3 := q2.trans (hb3.mono q2.size)
          obtain ⟨j0, j1, j2, j3, j4, j5, j6, j7, j8⟩ := A2.out.ret hb3
          clear d0 d1 d2 d3 hb3 TX
          go_wp2_with fail
          refine bodyPost_ret (v := .tuple #[lnV ⟨#[]⟩ ⟨#[]⟩ 0 0, .int .i64 150]) (by simp (maxDischargeDepth := 9) [results, Tryz.results76, go_sem, *]) rfl ⟨rfl, ?_⟩
          repeat (first | with_reducible exact q3 | with_reducible refine Below.drew ?_ | with_reducible refine Below.setCell ?_ (by simp) _)
  · have hof : lnOf s.data.toList = none := by
      rw [lnOf_3 hc]
      exact lnW_len (by rw [size_toList]; exact h8)
    have zV : V.size ≤ 1000000 := by omega
    have g8 : ((V.size : Int) != 8) = true := by simp; omega
    have g9 : ¬ (V.size : Int) = 8 := by omega
    rw [hof]
    clear hc hj A0 hsv h8 hof
    go_enter Tryz.func76, Tryz.ntmps76
    go_wp2_with fail
    refine (S.out _).mono ?_
    rintro e w1 ⟨v, rfl, ow, hb1⟩
    have iv := own_vals ow
    rw [HSV.out] at iv
    have q1 := q0.trans (hb1.mono q0.size)
    have a1 := HA.out.ret hb1
    obtain ⟨b, off, cap, rfl, hbl, hcell⟩ := vals_cell iv (k := 0) (by simp)
    have c2 := hcell 2 (by simp)
    simp only [List.getElem_cons_zero, List.getElem_cons_succ, List.length_cons, List.length_nil] at c2 ⊢
    obtain ⟨j0, j1, j2, j3, j4, j5, j6, j7, j8⟩ := a1
    clear ow iv hcell hb1 S HSV HN HA q0
    go_wp2_with fail
    refine bodyPost_ret (v := .tuple #[lnV ⟨#[]⟩ ⟨#[]⟩ 0 0, .int .i64 150]) (by simp (maxDischargeDepth := 9) [results, Tryz.results76, go_sem, *]) rfl ⟨rfl, ?_⟩
    repeat (first | with_reducible exact q1 | with_reducible refine Below.drew ?_ | with_reducible refine Below.setCell ?_ (by simp) _)
set_option maxHeartbeats 2000000 in
theorem r15_Parse (s : ByteArray) (w : World) (hs : s.size ≤ 1000000) : Calls Tryz.prog 76 #[.string s] w (Ret w (lnA (lnOf s.data.toList))) := by
  by_cases h : (cutG 32 [] s.data.toList).length = 3
  · match hc : cutG 32 [] s.data.toList, h with
    | [m, t, v], _ => exact r15_ParseW s ⟨m.toArray⟩ ⟨t.toArray⟩ ⟨v.toArray⟩ w hs hc
  · rw [lnOf_len h]
    have S := Lib.hid fun w => r7_Cut s 32 w hs
    have q0 : Below w.heap.size w (w.alloc (.cells #[.string ⟨#[]⟩, .string ⟨#[]⟩, .int .i64 0, .int .i64 0] 130)) := (Below.refl _ w).alloc (Nat.le_refl _) _
    have A0 : LnAt w.heap.size (.string ⟨#[]⟩) (.string ⟨#[]⟩) (.int .i64 0) (.int .i64 0) (w.alloc (.cells #[.string ⟨#[]⟩, .string ⟨#[]⟩, .int .i64 0, .int .i64 0] 130)) := by
      constructor <;> simp
    have HA := Lib.hid A0
    have hb := cutG_len 32 s.data.toList []
    rw [size_toList] at hb
    obtain ⟨n, hn⟩ : ∃ n, (cutG 32 [] s.data.toList).length = n := ⟨_, rfl⟩
    have HN := Lib.hid hn
    rw [hn] at h hb
    have g1 : ((n : Int) != 3) = true := by simp; omega
    have g2 : ¬ (n : Int) = 3 := by omega
    clear A0 hn h
    go_enter Tryz.func76, Tryz.ntmps76
    go_wp2_with fail
    refine (S.out _).mono ?_
    rintro e w1 ⟨v, rfl, ow, hb1⟩
    obtain ⟨a, cap, rfl, _, _⟩ := own_vals ow
    rw [strV_len, HN.out]
    have q1 := q0.trans (hb1.mono q0.size)
    obtain ⟨j0, j1, j2, j3, j4, j5, j6, j7, j8⟩ := HA.out.ret hb1
    clear ow hb1 S HN HA q0
    go_wp2_with fail
    refine bodyPost_ret (v := .tuple #[lnV ⟨#[]⟩ ⟨#[]⟩ 0 0, .int .i64 150]) (by simp (maxDischargeDepth := 9) [results, Tryz.results76, go_sem, *]) rfl ⟨rfl, ?_⟩
    repeat (first | with_reducible exact q1 | with_reducible refine Below.drew ?_ | with_reducible refine Below.setCell ?_ (by simp) _)
end Go.Proofs.YthgmgmbjjjnhnaaGreatDoor
