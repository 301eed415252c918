/- head.Frame. -/
import Derived.Test.YtnfgpcccmbblcaaDoorHdK
import Derived.LoopN
namespace Go.Proofs.YtnfgpcccmbblcaaDoor
open Go.RowKit

def teL : List UInt8 := [116, 114, 97, 110, 115, 102, 101, 114, 45, 101, 110, 99, 111, 100, 105, 110, 103]
def clL : List UInt8 := [99, 111, 110, 116, 101, 110, 116, 45, 108, 101, 110, 103, 116, 104]
/-- What Frame answers. -/
def frmK (T C : List UInt8 × Bool × Int) : Int × Int × Int :=
  if T.2.2 ≠ 0 ∨ C.2.2 ≠ 0 ∨ (T.2.1 && C.2.1) = true then (0, 0, 140)
  else if T.2.1 = true then (if lstE T.1 = 0 ∧ lstV T.1 = [chk] then (2, 0, 0) else (0, 0, 140))
  else if C.2.1 = true then (if rdE C.1 = 0 then (1, rdN C.1, 0) else (0, 0, 140))
  else (0, 0, 0)
def frm (ps : List Pr) : Int × Int × Int := frmK (oneX (fndV ps teL)) (oneX (fndV ps clL))
def frmT (x : Int × Int × Int) : Value := .tuple #[.int .u8 x.1, .int .i64 x.2.1, .int .i64 x.2.2]
theorem fndV_mem {ps : List Pr} {n x : List UInt8} (h : x ∈ fndV ps n) : ∃ p ∈ ps, p.2 = x := by
  induction ps with
  | nil => cases h
  | cons q ps ih =>
    unfold fndV at h
    split at h
    · rcases List.mem_cons.1 h with rfl | h
      · exact ⟨q, List.mem_cons_self, rfl⟩
      · obtain ⟨p, hp, e⟩ := ih h
        exact ⟨p, List.mem_cons_of_mem _ hp, e⟩
    · obtain ⟨p, hp, e⟩ := ih h
      exact ⟨p, List.mem_cons_of_mem _ hp, e⟩
theorem oneX_kinds (xs : List (List UInt8)) : oneX xs = ([], false, 0) ∨ (∃ X : ByteArray, X.data.toList ∈ xs ∧ oneX xs = (X.data.toList, true, 0)) ∨ oneX xs = ([], false, 140) := by
  match xs with
  | [] => exact .inl rfl
  | [x] => exact .inr (.inl ⟨⟨x.toArray⟩, by simp, rfl⟩)
  | x :: y :: r => exact .inr (.inr rfl)
/-- Four cells. -/
structure W4 (L : Nat) (a b c d : Value) (w : World) : Prop where
  h : L < w.heap.size
  c0 : w.cell? ⟨L, 0, none⟩ = some a
  c1 : w.cell? ⟨L, 1, none⟩ = some b
  c2 : w.cell? ⟨L, 2, none⟩ = some c
  c3 : w.cell? ⟨L, 3, none⟩ = some d
theorem W4.ret {L : Nat} {a b c d : Value} {w w' : World} (h : W4 L a b c d w) (hb : Below w.heap.size w w') : W4 L a b c d w' :=
  ⟨Nat.lt_of_lt_of_le h.h hb.size, ((bcell hb).1 _ _ h.h).trans h.c0, ((bcell hb).1 _ _ h.h).trans h.c1, ((bcell hb).1 _ _ h.h).trans h.c2, ((bcell hb).1 _ _ h.h).trans h.c3⟩
/-- Two cells. -/
structure W2 (L : Nat) (a b : Value) (w : World) : Prop where
  h : L < w.heap.size
  c0 : w.cell? ⟨L, 0, none⟩ = some a
  c1 : w.cell? ⟨L, 1, none⟩ = some b
theorem W2.ret {L : Nat} {a b : Value} {w w' : World} (h : W2 L a b w) (hb : Below w.heap.size w w') : W2 L a b w' :=
  ⟨Nat.lt_of_lt_of_le h.h hb.size, ((bcell hb).1 _ _ h.h).trans h.c0, ((bcell hb).1 _ _ h.h).trans h.c1⟩
set_option maxHeartbeats 8000000 in
theorem hd_Frame (v : Value) (ps : List Pr) (w : World) (hv : IsPairs v ps w) (hl : ps.length ≤ 1000) (hz : ∀ p ∈ ps, p.1.length ≤ 1000000) (hz2 : ∀ p ∈ ps, p.2.length ≤ 1000000) : Calls Tryd.prog 33 #[v] w (Ret w (frmT (frm ps))) := by
  have TH0 := fun w (h : IsPairs v ps w) => hd_One v ps ⟨#[116, 114, 97, 110, 115, 102, 101, 114, 45, 101, 110, 99, 111, 100, 105, 110, 103]⟩ w h hl hz (by decide)
  have CH0 := fun w (h : IsPairs v ps w) => hd_One v ps ⟨#[99, 111, 110, 116, 101, 110, 116, 45, 108, 101, 110, 103, 116, 104]⟩ w h hl hz (by decide)
  have kT := oneX_kinds (fndV ps teL)
  have kC := oneX_kinds (fndV ps clL)
  have bT : ∀ x ∈ fndV ps teL, x.length ≤ 1000000 := fun x hx => by
    obtain ⟨p, hp, rfl⟩ := fndV_mem hx
    exact hz2 p hp
  have bC : ∀ x ∈ fndV ps clL, x.length ≤ 1000000 := fun x hx => by
    obtain ⟨p, hp, rfl⟩ := fndV_mem hx
    exact hz2 p hp
  unfold OneIs at TH0 CH0
  change ∀ w, IsPairs v ps w → Calls Tryd.prog 43 _ w (Ret w (.tuple #[.string ⟨(oneX (fndV ps teL)).1.toArray⟩, .bool (oneX (fndV ps teL)).2.1, .int .i64 (oneX (fndV ps teL)).2.2])) at TH0
  change ∀ w, IsPairs v ps w → Calls Tryd.prog 43 _ w (Ret w (.tuple #[.string ⟨(oneX (fndV ps clL)).1.toArray⟩, .bool (oneX (fndV ps clL)).2.1, .int .i64 (oneX (fndV ps clL)).2.2])) at CH0
  unfold frm
  obtain ⟨T, hT⟩ : ∃ T, oneX (fndV ps teL) = T := ⟨_, rfl⟩
  obtain ⟨C, hC⟩ : ∃ C, oneX (fndV ps clL) = C := ⟨_, rfl⟩
  rw [hT] at TH0 kT ⊢
  rw [hC] at CH0 kC ⊢
  have HV := Lib.hid hv
  clear hT hC hl hz hz2 hv
  rcases kT with rfl | ⟨X, hx, rfl⟩ | rfl
  · rcases kC with rfl | ⟨Y, hy, rfl⟩ | rfl
    · rw [show frmK ([], false, 0) ([], false, 0) = (0, 0, 0) from by simp [frmK]]
      have TH := Lib.hid TH0
      clear TH0
      have CH := Lib.hid CH0
      clear CH0
      go_enter Tryd.func33, Tryd.ntmps33
      go_wp2_with fail
      refine wp_loop_rounds 3 ?_
      rw [rounds_succ]
      go_wp2_with fail
      refine (TH.out _ (HV.out.ret (((Below.refl _ w).alloc (Nat.le_refl _) _).alloc (by simp) _))).mono ?_
      rintro e w1 ⟨rfl, hb1⟩
      have q1 := (((Below.refl _ w).alloc (Nat.le_refl _) (.cells #[.string ⟨#[116, 114, 97, 110, 115, 102, 101, 114, 45, 101, 110, 99, 111, 100, 105, 110, 103]⟩, .func (.func 72) #[] #[], .string ⟨#[99, 111, 110, 116, 101, 110, 116, 45, 108, 101, 110, 103, 116, 104]⟩, .func (.func 73) #[] #[]] 108)).alloc (by simp) (.cells #[.string ⟨#[116, 114, 97, 110, 115, 102, 101, 114, 45, 101, 110, 99, 111, 100, 105, 110, 103]⟩, .func (.func 72) #[] #[]] 108)).trans (hb1.mono (by simp; omega))
      have R1 : Hid (W4 w.heap.size _ _ _ _ w1) := Lib.hid ((W4.mk (by simp; omega) (by simp; rfl) (by simp; rfl) (by simp; rfl) (by simp; rfl)).ret hb1)
      have S1 : Hid (W2 (w.heap.size + 1) _ _ w1) := Lib.hid ((W2.mk (by simp) (by simp; rfl) (by simp; rfl)).ret hb1)
      clear hb1
      go_wp2_with fail
      rw [rounds_succ]
      obtain ⟨z0, z1, z2, z3, z4⟩ := R1.out
      go_wp2_with fail
      refine (CH.out _ ((HV.out.ret q1).ret ((Below.refl _ w1).alloc (Nat.le_refl _) _))).mono ?_
      rintro e w4 ⟨rfl, hb4⟩
      have q4 := (q1.alloc q1.size (.cells #[.string ⟨#[99, 111, 110, 116, 101, 110, 116, 45, 108, 101, 110, 103, 116, 104]⟩, .func (.func 73) #[] #[]] 108)).trans (hb4.mono (by have := q1.size; simp; omega))
      have S4 : Hid (W2 w1.heap.size _ _ w4) := Lib.hid ((W2.mk (by simp) (by simp; rfl) (by simp; rfl)).ret hb4)
      clear hb4 z0 z1 z2 z3 z4
      go_wp2_with fail
      rw [rounds_succ]
      go_wp2_with fail
      go_ret3
      exact ⟨rfl, q4⟩
    · have zY : Y.size ≤ 1000000 := by
        rw [← size_toList]
        exact bC _ hy
      have LH0 := fun w => hd_long Y w zY
      unfold lngV at LH0
      simp only [str_mk] at CH0
      obtain ⟨n, hn⟩ : ∃ n, rdN Y.data.toList = n := ⟨_, rfl⟩
      obtain ⟨r, hr⟩ : ∃ r, decide (rdE Y.data.toList = 0) = r := ⟨_, rfl⟩
      rw [hn, hr] at LH0
      rcases Bool.eq_false_or_eq_true r with rfl | rfl
      · rw [show frmK ([], false, 0) (Y.data.toList, true, 0) = (1, n, 0) from by simp [frmK, of_decide_eq_true hr, hn]]
        have TH := Lib.hid TH0
        clear TH0
        have CH := Lib.hid CH0
        clear CH0
        have LH := Lib.hid LH0
        clear LH0
        go_enter Tryd.func33, Tryd.ntmps33
        go_wp2_with fail
        refine wp_loop_rounds 3 ?_
        rw [rounds_succ]
        go_wp2_with fail
        refine (TH.out _ (HV.out.ret (((Below.refl _ w).alloc (Nat.le_refl _) _).alloc (by simp) _))).mono ?_
        rintro e w1 ⟨rfl, hb1⟩
        have q1 := (((Below.refl _ w).alloc (Nat.le_refl _) (.cells #[.string ⟨#[116, 114, 97, 110, 115, 102, 101, 114, 45, 101, 110, 99, 111, 100, 105, 110, 103]⟩, .func (.func 72) #[] #[], .string ⟨#[99, 111, 110, 116, 101, 110, 116, 45, 108, 101, 110, 103, 116, 104]⟩, .func (.func 73) #[] #[]] 108)).alloc (by simp) (.cells #[.string ⟨#[116, 114, 97, 110, 115, 102, 101, 114, 45, 101, 110, 99, 111, 100, 105, 110, 103]⟩, .func (.func 72) #[] #[]] 108)).trans (hb1.mono (by simp; omega))
        have R1 : Hid (W4 w.heap.size _ _ _ _ w1) := Lib.hid ((W4.mk (by simp; omega) (by simp; rfl) (by simp; rfl) (by simp; rfl) (by simp; rfl)).ret hb1)
        have S1 : Hid (W2 (w.heap.size + 1) _ _ w1) := Lib.hid ((W2.mk (by simp) (by simp; rfl) (by simp; rfl)).ret hb1)
        clear hb1
        go_wp2_with fail
        rw [rounds_succ]
        obtain ⟨z0, z1, z2, z3, z4⟩ := R1.out
        go_wp2_with fail
        refine (CH.out _ ((HV.out.ret q1).ret ((Below.refl _ w1).alloc (Nat.le_refl _) _))).mono ?_
        rintro e w4 ⟨rfl, hb4⟩
        have q4 := (q1.alloc q1.size (.cells #[.string ⟨#[99, 111, 110, 116, 101, 110, 116, 45, 108, 101, 110, 103, 116, 104]⟩, .func (.func 73) #[] #[]] 108)).trans (hb4.mono (by have := q1.size; simp; omega))
        have S4 : Hid (W2 w1.heap.size _ _ w4) := Lib.hid ((W2.mk (by simp) (by simp; rfl) (by simp; rfl)).ret hb4)
        clear hb4 z0 z1 z2 z3 z4
        obtain ⟨z0, z1, z2⟩ := S4.out
        go_wp2_with fail
        refine (LH.out _).mono ?_
        rintro e w5 ⟨rfl, hb5⟩
        have q5 := q4.trans (hb5.mono q4.size)
        clear hb5 z0 z1 z2
        go_wp2_with fail
        rw [rounds_succ]
        go_wp2_with fail
        go_ret3
        exact ⟨rfl, q5⟩
      · rw [show frmK ([], false, 0) (Y.data.toList, true, 0) = (0, 0, 140) from by simp [frmK, of_decide_eq_false hr]]
        have TH := Lib.hid TH0
        clear TH0
        have CH := Lib.hid CH0
        clear CH0
        have LH := Lib.hid LH0
        clear LH0
        go_enter Tryd.func33, Tryd.ntmps33
        go_wp2_with fail
        refine wp_loop_rounds 3 ?_
        rw [rounds_succ]
        go_wp2_with fail
        refine (TH.out _ (HV.out.ret (((Below.refl _ w).alloc (Nat.le_refl _) _).alloc (by simp) _))).mono ?_
        rintro e w1 ⟨rfl, hb1⟩
        have q1 := (((Below.refl _ w).alloc (Nat.le_refl _) (.cells #[.string ⟨#[116, 114, 97, 110, 115, 102, 101, 114, 45, 101, 110, 99, 111, 100, 105, 110, 103]⟩, .func (.func 72) #[] #[], .string ⟨#[99, 111, 110, 116, 101, 110, 116, 45, 108, 101, 110, 103, 116, 104]⟩, .func (.func 73) #[] #[]] 108)).alloc (by simp) (.cells #[.string ⟨#[116, 114, 97, 110, 115, 102, 101, 114, 45, 101, 110, 99, 111, 100, 105, 110, 103]⟩, .func (.func 72) #[] #[]] 108)).trans (hb1.mono (by simp; omega))
        have R1 : Hid (W4 w.heap.size _ _ _ _ w1) := Lib.hid ((W4.mk (by simp; omega) (by simp; rfl) (by simp; rfl) (by simp; rfl) (by simp; rfl)).ret hb1)
        have S1 : Hid (W2 (w.heap.size + 1) _ _ w1) := Lib.hid ((W2.mk (by simp) (by simp; rfl) (by simp; rfl)).ret hb1)
        clear hb1
        go_wp2_with fail
        rw [rounds_succ]
        obtain ⟨z0, z1, z2, z3, z4⟩ := R1.out
        go_wp2_with fail
        refine (CH.out _ ((HV.out.ret q1).ret ((Below.refl _ w1).alloc (Nat.le_refl _) _))).mono ?_
        rintro e w4 ⟨rfl, hb4⟩
        have q4 := (q1.alloc q1.size (.cells #[.string ⟨#[99, 111, 110, 116, 101, 110, 116, 45, 108, 101, 110, 103, 116, 104]⟩, .func (.func 73) #[] #[]] 108)).trans (hb4.mono (by have := q1.size; simp; omega))
        have S4 : Hid (W2 w1.heap.size _ _ w4) := Lib.hid ((W2.mk (by simp) (by simp; rfl) (by simp; rfl)).ret hb4)
        clear hb4 z0 z1 z2 z3 z4
        obtain ⟨z0, z1, z2⟩ := S4.out
        go_wp2_with fail
        refine (LH.out _).mono ?_
        rintro e w5 ⟨rfl, hb5⟩
        have q5 := q4.trans (hb5.mono q4.size)
        clear hb5 z0 z1 z2
        go_wp2_with fail
        go_ret3
        exact ⟨rfl, q5⟩
    · rw [show frmK ([], false, 0) ([], false, 140) = (0, 0, 140) from by simp [frmK]]
      have TH := Lib.hid TH0
      clear TH0
      have CH := Lib.hid CH0
      clear CH0
      go_enter Tryd.func33, Tryd.ntmps33
      go_wp2_with fail
      refine wp_loop_rounds 3 ?_
      rw [rounds_succ]
      go_wp2_with fail
      refine (TH.out _ (HV.out.ret (((Below.refl _ w).alloc (Nat.le_refl _) _).alloc (by simp) _))).mono ?_
      rintro e w1 ⟨rfl, hb1⟩
      have q1 := (((Below.refl _ w).alloc (Nat.le_refl _) (.cells #[.string ⟨#[116, 114, 97, 110, 115, 102, 101, 114, 45, 101, 110, 99, 111, 100, 105, 110, 103]⟩, .func (.func 72) #[] #[], .string ⟨#[99, 111, 110, 116, 101, 110, 116, 45, 108, 101, 110, 103, 116, 104]⟩, .func (.func 73) #[] #[]] 108)).alloc (by simp) (.cells #[.string ⟨#[116, 114, 97, 110, 115, 102, 101, 114, 45, 101, 110, 99, 111, 100, 105, 110, 103]⟩, .func (.func 72) #[] #[]] 108)).trans (hb1.mono (by simp; omega))
      have R1 : Hid (W4 w.heap.size _ _ _ _ w1) := Lib.hid ((W4.mk (by simp; omega) (by simp; rfl) (by simp; rfl) (by simp; rfl) (by simp; rfl)).ret hb1)
      have S1 : Hid (W2 (w.heap.size + 1) _ _ w1) := Lib.hid ((W2.mk (by simp) (by simp; rfl) (by simp; rfl)).ret hb1)
      clear hb1
      go_wp2_with fail
      rw [rounds_succ]
      obtain ⟨z0, z1, z2, z3, z4⟩ := R1.out
      go_wp2_with fail
      refine (CH.out _ ((HV.out.ret q1).ret ((Below.refl _ w1).alloc (Nat.le_refl _) _))).mono ?_
      rintro e w4 ⟨rfl, hb4⟩
      have q4 := (q1.alloc q1.size (.cells #[.string ⟨#[99, 111, 110, 116, 101, 110, 116, 45, 108, 101, 110, 103, 116, 104]⟩, .func (.func 73) #[] #[]] 108)).trans (hb4.mono (by have := q1.size; simp; omega))
      have S4 : Hid (W2 w1.heap.size _ _ w4) := Lib.hid ((W2.mk (by simp) (by simp; rfl) (by simp; rfl)).ret hb4)
      clear hb4 z0 z1 z2 z3 z4
      go_wp2_with fail
      go_ret3
      exact ⟨rfl, q4⟩
  · have zX : X.size ≤ 1000000 := by
      rw [← size_toList]
      exact bT _ hx
    have KH0 := fun w => hd_chunked X w zX
    unfold chkV at KH0
    simp only [str_mk] at TH0
    obtain ⟨k, hk⟩ : ∃ k, decide (lstE X.data.toList = 0 ∧ lstV X.data.toList = [chk]) = k := ⟨_, rfl⟩
    rw [hk] at KH0
    rcases Bool.eq_false_or_eq_true k with rfl | rfl
    · rcases kC with rfl | ⟨Y, hy, rfl⟩ | rfl
      · rw [show frmK (X.data.toList, true, 0) ([], false, 0) = (2, 0, 0) from by simp [frmK, of_decide_eq_true hk]]
        have TH := Lib.hid TH0
        clear TH0
        have CH := Lib.hid CH0
        clear CH0
        have KH := Lib.hid KH0
        clear KH0
        go_enter Tryd.func33, Tryd.ntmps33
        go_wp2_with fail
        refine wp_loop_rounds 3 ?_
        rw [rounds_succ]
        go_wp2_with fail
        refine (TH.out _ (HV.out.ret (((Below.refl _ w).alloc (Nat.le_refl _) _).alloc (by simp) _))).mono ?_
        rintro e w1 ⟨rfl, hb1⟩
        have q1 := (((Below.refl _ w).alloc (Nat.le_refl _) (.cells #[.string ⟨#[116, 114, 97, 110, 115, 102, 101, 114, 45, 101, 110, 99, 111, 100, 105, 110, 103]⟩, .func (.func 72) #[] #[], .string ⟨#[99, 111, 110, 116, 101, 110, 116, 45, 108, 101, 110, 103, 116, 104]⟩, .func (.func 73) #[] #[]] 108)).alloc (by simp) (.cells #[.string ⟨#[116, 114, 97, 110, 115, 102, 101, 114, 45, 101, 110, 99, 111, 100, 105, 110, 103]⟩, .func (.func 72) #[] #[]] 108)).trans (hb1.mono (by simp; omega))
        have R1 : Hid (W4 w.heap.size _ _ _ _ w1) := Lib.hid ((W4.mk (by simp; omega) (by simp; rfl) (by simp; rfl) (by simp; rfl) (by simp; rfl)).ret hb1)
        have S1 : Hid (W2 (w.heap.size + 1) _ _ w1) := Lib.hid ((W2.mk (by simp) (by simp; rfl) (by simp; rfl)).ret hb1)
        clear hb1
        obtain ⟨z0, z1, z2⟩ := S1.out
        go_wp2_with fail
        refine (KH.out _).mono ?_
        rintro e w3 ⟨rfl, hb3⟩
        have q3 := q1.trans (hb3.mono q1.size)
        have R3 := Lib.hid (R1.out.ret hb3)
        clear hb3 z0 z1 z2 R1
        go_wp2_with fail
        rw [rounds_succ]
        obtain ⟨z0, z1, z2, z3, z4⟩ := R3.out
        go_wp2_with fail
        refine (CH.out _ ((HV.out.ret q3).ret ((Below.refl _ w3).alloc (Nat.le_refl _) _))).mono ?_
        rintro e w4 ⟨rfl, hb4⟩
        have q4 := (q3.alloc q3.size (.cells #[.string ⟨#[99, 111, 110, 116, 101, 110, 116, 45, 108, 101, 110, 103, 116, 104]⟩, .func (.func 73) #[] #[]] 108)).trans (hb4.mono (by have := q3.size; simp; omega))
        have S4 : Hid (W2 w3.heap.size _ _ w4) := Lib.hid ((W2.mk (by simp) (by simp; rfl) (by simp; rfl)).ret hb4)
        clear hb4 z0 z1 z2 z3 z4
        go_wp2_with fail
        rw [rounds_succ]
        go_wp2_with fail
        go_ret3
        exact ⟨rfl, q4⟩
      · have zY : Y.size ≤ 1000000 := by
          rw [← size_toList]
          exact bC _ hy
        have LH0 := fun w => hd_long Y w zY
        unfold lngV at LH0
        simp only [str_mk] at CH0
        obtain ⟨n, hn⟩ : ∃ n, rdN Y.data.toList = n := ⟨_, rfl⟩
        obtain ⟨r, hr⟩ : ∃ r, decide (rdE Y.data.toList = 0) = r := ⟨_, rfl⟩
        rw [hn, hr] at LH0
        rw [show frmK (X.data.toList, true, 0) (Y.data.toList, true, 0) = (0, 0, 140) from by simp [frmK]]
        have TH := Lib.hid TH0
        clear TH0
        have CH := Lib.hid CH0
        clear CH0
        have KH := Lib.hid KH0
        clear KH0
        have LH := Lib.hid LH0
        clear LH0
        go_enter Tryd.func33, Tryd.ntmps33
        go_wp2_with fail
        refine wp_loop_rounds 3 ?_
        rw [rounds_succ]
        go_wp2_with fail
        refine (TH.out _ (HV.out.ret (((Below.refl _ w).alloc (Nat.le_refl _) _).alloc (by simp) _))).mono ?_
        rintro e w1 ⟨rfl, hb1⟩
        have q1 := (((Below.refl _ w).alloc (Nat.le_refl _) (.cells #[.string ⟨#[116, 114, 97, 110, 115, 102, 101, 114, 45, 101, 110, 99, 111, 100, 105, 110, 103]⟩, .func (.func 72) #[] #[], .string ⟨#[99, 111, 110, 116, 101, 110, 116, 45, 108, 101, 110, 103, 116, 104]⟩, .func (.func 73) #[] #[]] 108)).alloc (by simp) (.cells #[.string ⟨#[116, 114, 97, 110, 115, 102, 101, 114, 45, 101, 110, 99, 111, 100, 105, 110, 103]⟩, .func (.func 72) #[] #[]] 108)).trans (hb1.mono (by simp; omega))
        have R1 : Hid (W4 w.heap.size _ _ _ _ w1) := Lib.hid ((W4.mk (by simp; omega) (by simp; rfl) (by simp; rfl) (by simp; rfl) (by simp; rfl)).ret hb1)
        have S1 : Hid (W2 (w.heap.size + 1) _ _ w1) := Lib.hid ((W2.mk (by simp) (by simp; rfl) (by simp; rfl)).ret hb1)
        clear hb1
        obtain ⟨z0, z1, z2⟩ := S1.out
        go_wp2_with fail
        refine (KH.out _).mono ?_
        rintro e w3 ⟨rfl, hb3⟩
        have q3 := q1.trans (hb3.mono q1.size)
        have R3 := Lib.hid (R1.out.ret hb3)
        clear hb3 z0 z1 z2 R1
        go_wp2_with fail
        rw [rounds_succ]
        obtain ⟨z0, z1, z2, z3, z4⟩ := R3.out
        go_wp2_with fail
        refine (CH.out _ ((HV.out.ret q3).ret ((Below.refl _ w3).alloc (Nat.le_refl _) _))).mono ?_
        rintro e w4 ⟨rfl, hb4⟩
        have q4 := (q3.alloc q3.size (.cells #[.string ⟨#[99, 111, 110, 116, 101, 110, 116, 45, 108, 101, 110, 103, 116, 104]⟩, .func (.func 73) #[] #[]] 108)).trans (hb4.mono (by have := q3.size; simp; omega))
        have S4 : Hid (W2 w3.heap.size _ _ w4) := Lib.hid ((W2.mk (by simp) (by simp; rfl) (by simp; rfl)).ret hb4)
        clear hb4 z0 z1 z2 z3 z4
        obtain ⟨z0, z1, z2⟩ := S4.out
        go_wp2_with fail
        refine (LH.out _).mono ?_
        rintro e w5 ⟨rfl, hb5⟩
        have q5 := q4.trans (hb5.mono q4.size)
        clear hb5 z0 z1 z2
        rcases Bool.eq_false_or_eq_true r with rfl | rfl
        · go_wp2_with fail
          rw [rounds_succ]
          go_wp2_with fail
          go_ret3
          exact ⟨rfl, q5⟩
        · go_wp2_with fail
          go_ret3
          exact ⟨rfl, q5⟩
      · rw [show frmK (X.data.toList, true, 0) ([], false, 140) = (0, 0, 140) from by simp [frmK]]
        have TH := Lib.hid TH0
        clear TH0
        have CH := Lib.hid CH0
        clear CH0
        have KH := Lib.hid KH0
        clear KH0
        go_enter Tryd.func33, Tryd.ntmps33
        go_wp2_with fail
        refine wp_loop_rounds 3 ?_
        rw [rounds_succ]
        go_wp2_with fail
        refine (TH.out _ (HV.out.ret (((Below.refl _ w).alloc (Nat.le_refl _) _).alloc (by simp) _))).mono ?_
        rintro e w1 ⟨rfl, hb1⟩
        have q1 := (((Below.refl _ w).alloc (Nat.le_refl _) (.cells #[.string ⟨#[116, 114, 97, 110, 115, 102, 101, 114, 45, 101, 110, 99, 111, 100, 105, 110, 103]⟩, .func (.func 72) #[] #[], .string ⟨#[99, 111, 110, 116, 101, 110, 116, 45, 108, 101, 110, 103, 116, 104]⟩, .func (.func 73) #[] #[]] 108)).alloc (by simp) (.cells #[.string ⟨#[116, 114, 97, 110, 115, 102, 101, 114, 45, 101, 110, 99, 111, 100, 105, 110, 103]⟩, .func (.func 72) #[] #[]] 108)).trans (hb1.mono (by simp; omega))
        have R1 : Hid (W4 w.heap.size _ _ _ _ w1) := Lib.hid ((W4.mk (by simp; omega) (by simp; rfl) (by simp; rfl) (by simp; rfl) (by simp; rfl)).ret hb1)
        have S1 : Hid (W2 (w.heap.size + 1) _ _ w1) := Lib.hid ((W2.mk (by simp) (by simp; rfl) (by simp; rfl)).ret hb1)
        clear hb1
        obtain ⟨z0, z1, z2⟩ := S1.out
        go_wp2_with fail
        refine (KH.out _).mono ?_
        rintro e w3 ⟨rfl, hb3⟩
        have q3 := q1.trans (hb3.mono q1.size)
        have R3 := Lib.hid (R1.out.ret hb3)
        clear hb3 z0 z1 z2 R1
        go_wp2_with fail
        rw [rounds_succ]
        obtain ⟨z0, z1, z2, z3, z4⟩ := R3.out
        go_wp2_with fail
        refine (CH.out _ ((HV.out.ret q3).ret ((Below.refl _ w3).alloc (Nat.le_refl _) _))).mono ?_
        rintro e w4 ⟨rfl, hb4⟩
        have q4 := (q3.alloc q3.size (.cells #[.string ⟨#[99, 111, 110, 116, 101, 110, 116, 45, 108, 101, 110, 103, 116, 104]⟩, .func (.func 73) #[] #[]] 108)).trans (hb4.mono (by have := q3.size; simp; omega))
        have S4 : Hid (W2 w3.heap.size _ _ w4) := Lib.hid ((W2.mk (by simp) (by simp; rfl) (by simp; rfl)).ret hb4)
        clear hb4 z0 z1 z2 z3 z4
        go_wp2_with fail
        go_ret3
        exact ⟨rfl, q4⟩
    · rw [show frmK (X.data.toList, true, 0) C = (0, 0, 140) from by rcases kC with rfl | ⟨Y, hy, rfl⟩ | rfl <;> simp [frmK, of_decide_eq_false hk]]
      clear CH0 kC
      have TH := Lib.hid TH0
      clear TH0
      have KH := Lib.hid KH0
      clear KH0
      go_enter Tryd.func33, Tryd.ntmps33
      go_wp2_with fail
      refine wp_loop_rounds 3 ?_
      rw [rounds_succ]
      go_wp2_with fail
      refine (TH.out _ (HV.out.ret (((Below.refl _ w).alloc (Nat.le_refl _) _).alloc (by simp) _))).mono ?_
      rintro e w1 ⟨rfl, hb1⟩
      have q1 := (((Below.refl _ w).alloc (Nat.le_refl _) (.cells #[.string ⟨#[116, 114, 97, 110, 115, 102, 101, 114, 45, 101, 110, 99, 111, 100, 105, 110, 103]⟩, .func (.func 72) #[] #[], .string ⟨#[99, 111, 110, 116, 101, 110, 116, 45, 108, 101, 110, 103, 116, 104]⟩, .func (.func 73) #[] #[]] 108)).alloc (by simp) (.cells #[.string ⟨#[116, 114, 97, 110, 115, 102, 101, 114, 45, 101, 110, 99, 111, 100, 105, 110, 103]⟩, .func (.func 72) #[] #[]] 108)).trans (hb1.mono (by simp; omega))
      have R1 : Hid (W4 w.heap.size _ _ _ _ w1) := Lib.hid ((W4.mk (by simp; omega) (by simp; rfl) (by simp; rfl) (by simp; rfl) (by simp; rfl)).ret hb1)
      have S1 : Hid (W2 (w.heap.size + 1) _ _ w1) := Lib.hid ((W2.mk (by simp) (by simp; rfl) (by simp; rfl)).ret hb1)
      clear hb1
      obtain ⟨z0, z1, z2⟩ := S1.out
      go_wp2_with fail
      refine (KH.out _).mono ?_
      rintro e w3 ⟨rfl, hb3⟩
      have q3 := q1.trans (hb3.mono q1.size)
      have R3 := Lib.hid (R1.out.ret hb3)
      clear hb3 z0 z1 z2 R1
      go_wp2_with fail
      go_ret3
      exact ⟨rfl, q3⟩
  · rw [show frmK ([], false, 140) C = (0, 0, 140) from by simp [frmK]]
    clear CH0 kC
    have TH := Lib.hid TH0
    clear TH0
    go_enter Tryd.func33, Tryd.ntmps33
    go_wp2_with fail
    refine wp_loop_rounds 3 ?_
    rw [rounds_succ]
    go_wp2_with fail
    refine (TH.out _ (HV.out.ret (((Below.refl _ w).alloc (Nat.le_refl _) _).alloc (by simp) _))).mono ?_
    rintro e w1 ⟨rfl, hb1⟩
    have q1 := (((Below.refl _ w).alloc (Nat.le_refl _) (.cells #[.string ⟨#[116, 114, 97, 110, 115, 102, 101, 114, 45, 101, 110, 99, 111, 100, 105, 110, 103]⟩, .func (.func 72) #[] #[], .string ⟨#[99, 111, 110, 116, 101, 110, 116, 45, 108, 101, 110, 103, 116, 104]⟩, .func (.func 73) #[] #[]] 108)).alloc (by simp) (.cells #[.string ⟨#[116, 114, 97, 110, 115, 102, 101, 114, 45, 101, 110, 99, 111, 100, 105, 110, 103]⟩, .func (.func 72) #[] #[]] 108)).trans (hb1.mono (by simp; omega))
    have R1 : Hid (W4 w.heap.size _ _ _ _ w1) := Lib.hid ((W4.mk (by simp; omega) (by simp; rfl) (by simp; rfl) (by simp; rfl) (by simp; rfl)).ret hb1)
    have S1 : Hid (W2 (w.heap.size + 1) _ _ w1) := Lib.hid ((W2.mk (by simp) (by simp; rfl) (by simp; rfl)).ret hb1)
    clear hb1
    go_wp2_with fail
    go_ret3
    exact ⟨rfl, q1⟩
end Go.Proofs.YtnfgpcccmbblcaaDoor
