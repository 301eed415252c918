/- line.Parse: the walk. -/
import Derived.Test.YtnfgpcccmbblcaaDoorLnB
import Derived.Test.YtnfgpcccmbblcaaDoorSpl
import Derived.Defers
namespace Go.Proofs.YtnfgpcccmbblcaaDoor
open Go.RowKit

/-- Line's result, as four cells that may be written. -/
structure LnAt (L : Nat) (a b c d : Value) (w : World) : Prop where
  lt : L < w.heap.size
  c0 : w.cell? ⟨L, 0, none⟩ = some a
  c1 : w.cell? ⟨L, 1, none⟩ = some b
  c2 : w.cell? ⟨L, 2, none⟩ = some c
  c3 : w.cell? ⟨L, 3, none⟩ = some d
  f0 : w.frozen? ⟨L, 0, none⟩ = false
  f1 : w.frozen? ⟨L, 1, none⟩ = false
  f2 : w.frozen? ⟨L, 2, none⟩ = false
  f3 : w.frozen? ⟨L, 3, none⟩ = false
theorem LnAt.ret {L : Nat} {a b c d : Value} {w w' : World} (h : LnAt L a b c d w) (hb : Below w.heap.size w w') : LnAt L a b c d w' := by
  obtain ⟨h0, h1, h2, h3, h4, h5, h6, h7, h8⟩ := h
  obtain ⟨q, r⟩ := bcell hb
  exact ⟨Nat.lt_of_lt_of_le h0 hb.size, (q _ _ h0).trans h1, (q _ _ h0).trans h2, (q _ _ h0).trans h3, (q _ _ h0).trans h4, (r _ _ h0).trans h5, (r _ _ h0).trans h6, (r _ _ h0).trans h7, (r _ _ h0).trans h8⟩
theorem LnAt.drew {L : Nat} {a b c d : Value} {w : World} (h : LnAt L a b c d w) : LnAt L a b c d w.drew := ⟨h.lt, h.c0, h.c1, h.c2, h.c3, h.f0, h.f1, h.f2, h.f3⟩
/-- All four written. -/
def lnPut (w : World) (L : Nat) (a b c d : Value) : World := (((w.setCell ⟨L, 0, none⟩ a).setCell ⟨L, 1, none⟩ b).setCell ⟨L, 2, none⟩ c).setCell ⟨L, 3, none⟩ d
set_option maxHeartbeats 1000000 in
theorem ln_def (E L : Nat) (x : Int) (w : World) (he : w.cell? ⟨E, 0, none⟩ = some (.int .i64 x)) (a b c d : Value) (hl : LnAt L a b c d w) (hx : (x != 0) = true) :
    CallsD Tryd.prog 58 #[.pointer (some ⟨E, 0, none⟩), .pointer (some ⟨L, 0, none⟩)] .returning w fun e u' w' => u' = .returning ∧ e = .returned (.tuple #[]) ∧ w' = lnPut w L (.string ⟨#[]⟩) (.string ⟨#[]⟩) (.int .i64 0) (.int .i64 0) := by
  obtain ⟨h0, h1, h2, h3, h4, h5, h6, h7, h8⟩ := hl
  go_enter_d Tryd.func58, Tryd.ntmps58
  go_wp2_with fail
  go_end0
  exact ⟨rfl, rfl⟩
theorem ln_def0 (E L : Nat) (w : World) (he : w.cell? ⟨E, 0, none⟩ = some (.int .i64 0)) :
    CallsD Tryd.prog 58 #[.pointer (some ⟨E, 0, none⟩), .pointer (some ⟨L, 0, none⟩)] .returning w fun e u' w' => u' = .returning ∧ e = .returned (.tuple #[]) ∧ w' = w := by
  go_enter_d Tryd.func58, Tryd.ntmps58
  go_wp2_with fail
  go_end0
  exact ⟨rfl, rfl⟩
theorem LnAt.put {L : Nat} {a b c d : Value} {w : World} (h : LnAt L a b c d w) (a' b' c' d' : Value) : LnAt L a' b' c' d' (lnPut w L a' b' c' d') := by
  obtain ⟨h0, h1, h2, h3, h4, h5, h6, h7, h8⟩ := h
  unfold lnPut
  constructor <;> simp (maxDischargeDepth := 9) [go_sem, *]
theorem LnAt.far {L : Nat} {a b c d : Value} {w : World} (h : LnAt L a b c d w) {E : Nat} (hE : E ≠ L) (v : Value) : LnAt L a b c d (w.setCell ⟨E, 0, none⟩ v) := by
  obtain ⟨h0, h1, h2, h3, h4, h5, h6, h7, h8⟩ := h
  have hE' : L ≠ E := fun e => hE e.symm
  constructor <;> simp (maxDischargeDepth := 9) [go_sem, *]
theorem lnPut_below {w0 w : World} {B L : Nat} (h : Below B w0 w) (hB : B ≤ L) (a b c d : Value) : Below B w0 (lnPut w L a b c d) := by
  unfold lnPut
  exact (((h.setCell (p := ⟨L, 0, none⟩) hB a).setCell (p := ⟨L, 1, none⟩) hB b).setCell (p := ⟨L, 2, none⟩) hB c).setCell (p := ⟨L, 3, none⟩) hB d
/-- The door, where there is an error. -/
theorem ln_door (tmps : Array Value) (w W : World) (a b c d : Value) (hL : LnAt w.heap.size a b c d W) (he : W.cell? ⟨w.heap.size + 1, 0, none⟩ = some (.int .i64 150)) (q : Below w.heap.size w W)
    (t2 : tmps[2]?.getD undef = .pointer (some ⟨w.heap.size, 0, none⟩)) (t3 : tmps[3]?.getD undef = .pointer (some ⟨w.heap.size + 1, 0, none⟩)) :
    bodyPostD Tryd.prog Tryd.f21 (Ret w (.tuple #[lnV ⟨#[]⟩ ⟨#[]⟩ 0 0, .int .i64 150])) .ret { tmps := tmps, defers := [{ target := .fn (.func 58) #[.pointer (some ⟨w.heap.size + 1, 0, none⟩), .pointer (some ⟨w.heap.size, 0, none⟩)], args := #[] }] } W := by
  refine leaves_cons (f := 58) (args := #[.pointer (some ⟨w.heap.size + 1, 0, none⟩), .pointer (some ⟨w.heap.size, 0, none⟩)]) (by simp) (by simp [go_sem]) ?_
  refine (ln_def (w.heap.size + 1) w.heap.size 150 W he a b c d hL rfl).mono ?_
  rintro e u' w'' ⟨rfl, rfl, rfl⟩
  obtain ⟨h0, h1, h2, h3, h4, h5, h6, h7, h8⟩ := hL.put (.string ⟨#[]⟩) (.string ⟨#[]⟩) (.int .i64 0) (.int .i64 0)
  have e2 : (lnPut W w.heap.size (.string ⟨#[]⟩) (.string ⟨#[]⟩) (.int .i64 0) (.int .i64 0)).cell? ⟨w.heap.size + 1, 0, none⟩ = some (.int .i64 150) := by
    unfold lnPut
    simp (maxDischargeDepth := 9) [go_sem, he]
  refine ⟨_, ?_, rfl, lnPut_below q (Nat.le_refl _) _ _ _ _⟩
  simp (maxDischargeDepth := 9) [results, Tryd.results21, go_sem, t2, t3, h1, h2, h3, h4, e2]
/-- .. where there is none. -/
theorem ln_door0 (tmps : Array Value) (w W : World) (a b c d : Value) (hL : LnAt w.heap.size a b c d W) (he : W.cell? ⟨w.heap.size + 1, 0, none⟩ = some (.int .i64 0)) (q : Below w.heap.size w W)
    (t2 : tmps[2]?.getD undef = .pointer (some ⟨w.heap.size, 0, none⟩)) (t3 : tmps[3]?.getD undef = .pointer (some ⟨w.heap.size + 1, 0, none⟩)) :
    bodyPostD Tryd.prog Tryd.f21 (Ret w (.tuple #[.agg #[a, b, c, d], .int .i64 0])) .ret { tmps := tmps, defers := [{ target := .fn (.func 58) #[.pointer (some ⟨w.heap.size + 1, 0, none⟩), .pointer (some ⟨w.heap.size, 0, none⟩)], args := #[] }] } W := by
  refine leaves_cons (f := 58) (args := #[.pointer (some ⟨w.heap.size + 1, 0, none⟩), .pointer (some ⟨w.heap.size, 0, none⟩)]) (by simp) (by simp [go_sem]) ?_
  refine (ln_def0 (w.heap.size + 1) w.heap.size W he).mono ?_
  rintro e u' w'' ⟨rfl, rfl, rfl⟩
  obtain ⟨h0, h1, h2, h3, h4, h5, h6, h7, h8⟩ := hL
  refine ⟨_, ?_, rfl, q⟩
  simp (maxDischargeDepth := 9) [results, Tryd.results21, go_sem, t2, t3, h1, h2, h3, h4, he]
theorem ln_Parse3 (s : ByteArray) (w : World) (hs : s.size ≤ 1000000) (hm : ML w) (h3 : (cutG 32 [] s.data.toList).length ≠ 3) : Calls Tryd.prog 21 #[.string s] w (Ret w (.tuple #[lnV ⟨#[]⟩ ⟨#[]⟩ 0 0, .int .i64 150])) := by
  have S := Lib.hid fun w hm => st_Split1 s 32 w hs hm
  have T := Lib.hid fun v w hv => ln_three_no v (cutG 32 [] s.data.toList) w hv h3
  have HM := Lib.hid hm
  clear hm h3
  have A0 : LnAt w.heap.size (.string ⟨#[]⟩) (.string ⟨#[]⟩) (.int .i64 0) (.int .i64 0) ((w.alloc (.cells #[.string ⟨#[]⟩, .string ⟨#[]⟩, .int .i64 0, .int .i64 0] 36)).alloc (.cells #[.int .i64 0] 23)) := by
    constructor <;> simp <;> omega
  have b0 : Below w.heap.size w ((w.alloc (.cells #[.string ⟨#[]⟩, .string ⟨#[]⟩, .int .i64 0, .int .i64 0] 36)).alloc (.cells #[.int .i64 0] 23)) := ((Below.refl _ w).alloc (Nat.le_refl _) _).alloc (by simp) _
  have HA := Lib.hid A0
  have HB := Lib.hid b0
  clear A0 b0
  go_enter_defers Tryd.func21, Tryd.ntmps21
  go_wp2_with fail
  refine (S.out _ (HM.out.ret HB.out)).mono ?_
  rintro e w1 ⟨v, rfl, iv, hb1⟩
  have a1 := HA.out.ret hb1
  have e1 := (bcell hb1).1 (w.heap.size + 1) 0 (by simp)
  have g1 := (bcell hb1).2 (w.heap.size + 1) 0 (by simp)
  simp at e1 g1
  have q1 := HB.out.trans (hb1.mono HB.out.size)
  have z1 : w.heap.size + 2 ≤ w1.heap.size := by have := hb1.size; simp at this; omega
  have IV := Lib.hid iv
  clear iv
  go_wp2_with fail
  refine (T.out v _ IV.out).mono ?_
  rintro e w2 ⟨rfl, hb2⟩
  obtain ⟨h0, h1, h2, h3, h4, h5, h6, h7, h8⟩ := a1.ret hb2
  have e2 := ((bcell hb2).1 (w.heap.size + 1) 0 (by omega)).trans e1
  have g2 := ((bcell hb2).2 (w.heap.size + 1) 0 (by omega)).trans g1
  have q2 := q1.trans (hb2.mono q1.size)
  clear a1 e1 g1 hb1 hb2 S T HM HA HB IV
  go_wp2_with fail
  refine ln_door _ w _ (.string ⟨#[]⟩) (.string ⟨#[]⟩) (.int .i64 0) (.int .i64 0) (((LnAt.mk h0 h1 h2 h3 h4 h5 h6 h7 h8).put _ _ _ _).far (by simp) _) (by simp [go_sem, *]) ?_ rfl rfl
  exact (lnPut_below q2 (Nat.le_refl _) _ _ _ _).setCell (by simp) _
end Go.Proofs.YtnfgpcccmbblcaaDoor
