/- HdK, HdL, HdN, HdO, HdQ: put together by mergetpl.py. -/
import Derived.Test.YthgmgmbjjjnhnaaGreatDoorGe
import Derived.Test.YthgmgmbjjjnhnaaGreatDoorGd
import Derived.Test.YthgmgmbjjjnhnaaGreatDoorGc
import Derived.Test.YthgmgmbjjjnhnaaGreatDoorShelf
import Derived.LoopN
namespace Go.Proofs.YthgmgmbjjjnhnaaGreatDoor
open Go.RowKit

def bts (xs : List (List UInt8)) : List ByteArray := xs.map fun l => ⟨l.toArray⟩
theorem bts_len (xs : List (List UInt8)) : (bts xs).length = xs.length := by simp [bts]
theorem bts_inj {xs ys : List (List UInt8)} : bts xs = bts ys ↔ xs = ys := by
  constructor
  · intro h
    have h2 := congrArg (List.map fun b : ByteArray => b.data.toList) h
    simpa [bts, Function.comp_def] using h2
  · rintro rfl
    rfl
theorem vals_bts {v : Value} {xs : List (List UInt8)} {w : World} (h : IsVals v (strV xs) w) (h0 : 0 < xs.length) : ∃ b off cap, v = .slice (some ⟨b, off, none⟩) xs.length cap ∧ ∀ j, j < (bts xs).length → w.cell? ⟨b, off + j, none⟩ = some (.string ((bts xs).getD j ByteArray.empty)) := by
  obtain ⟨b, off, cap, rfl, _, hc⟩ := vals_cell' h (k := 0) (by rw [strV_len]; exact h0)
  refine ⟨b, off, cap, by rw [strV_len], fun j hj => ?_⟩
  have hj' : j < xs.length := by simpa [bts] using hj
  rw [hc j (by rw [strV_len]; exact hj')]
  simp [strV, bts, hj']
theorem one_vals (w : World) (x : List UInt8) : IsVals (.slice (some ⟨w.heap.size, 0, none⟩) 1 1) (strV [x]) (w.alloc (.cells #[.string ⟨x.toArray⟩] 9)) := by
  refine ⟨some ⟨w.heap.size, 0, none⟩, 1, rfl, (fun h => by cases h), .inr ⟨w.heap.size, 0, rfl, by simp, fun j hj => ?_⟩⟩
  simp [strV] at hj
  subst hj
  rw [Nat.zero_add, World.cell?_alloc_new]
  rfl
theorem vals_equal (v u : Value) (xs ys : List (List UInt8)) (w : World) (hv : IsVals v (strV xs) w) (hu : IsVals u (strV ys) w) (hx : xs.length ≤ 1000001) (hy : ys.length ≤ 1000001) :
    Calls Tryz.prog 171 #[v, u] w (Ret w (.bool (decide (xs = ys)))) := by
  by_cases hl : xs.length = ys.length
  · by_cases h0 : ys.length = 0
    · have e1 : xs = [] := List.length_eq_zero_iff.1 (by omega)
      have e2 : ys = [] := List.length_eq_zero_iff.1 h0
      subst e1 e2
      obtain ⟨a, ca, rfl, _, _⟩ := hv
      obtain ⟨b, cb, rfl, _, _⟩ := hu
      refine (Tryz.slices_Equal_string_empty a b ca 0 cb w (by decide)).mono ?_
      rintro e w' ⟨rfl, rfl⟩
      exact ⟨rfl, Below.refl _ _⟩
    · obtain ⟨b, off, cap, rfl, hc⟩ := vals_bts hv (by omega)
      obtain ⟨b', off', cap', rfl, hc'⟩ := vals_bts hu (by omega)
      refine (Tryz.slices_Equal_string b off xs.length cap b' off' ys.length cap' (bts xs) (bts ys) w (by rw [bts_len]; omega) (by rw [bts_len]; omega) (by omega) (by omega) hc hc').mono ?_
      rintro e w' ⟨rfl, q, rfl⟩
      refine ⟨ret_b ?_, below_drewN w q⟩
      rw [List.take_of_length_le (by rw [bts_len]; omega), List.take_of_length_le (by rw [bts_len]; omega)]
      exact decide_eq_decide.2 bts_inj
  · obtain ⟨a, ca, rfl, _, _⟩ := hv
    obtain ⟨b, cb, rfl, _, _⟩ := hu
    rw [strV_len, strV_len]
    refine (Tryz.slices_Equal_string_lens a b xs.length ca ys.length cb w hl).mono ?_
    rintro e w' ⟨rfl, rfl⟩
    exact ⟨ret_b (decide_eq_false (fun h => hl (by rw [h]))).symm, Below.refl _ _⟩
def lngV (l : List UInt8) : Value := .tuple #[.int .u8 1, .int .i64 (rdN l), .bool (decide (rdE l = 0))]
theorem hd_long (s : ByteArray) (w : World) (hs : s.size ≤ 1000000) : Calls Tryz.prog 144 #[.string s] w (Ret w (lngV s.data.toList)) := by
  have R0 := num_Read s w (by omega)
  unfold lngV
  obtain ⟨N, hN⟩ : ∃ N, rdN s.data.toList = N := ⟨_, rfl⟩
  obtain ⟨E, hE⟩ : ∃ E, rdE s.data.toList = E := ⟨_, rfl⟩
  rw [hN, hE] at R0 ⊢
  clear hN hE
  have R := Lib.hid R0
  clear R0
  go_enter Tryz.func144, Tryz.ntmps144
  go_wp2_with fail
  refine (R.out).mono ?_
  rintro e w1 ⟨rfl, hb1⟩
  go_wp2_with fail
  go_ret3
  exact ⟨by first | rfl | simp [beq_eq_decide], hb1⟩
theorem lstV_le (l : List UInt8) : (lstV l).length ≤ l.length + 1 := by
  unfold lstV
  split
  · have h1 := lstG_len (cutG 44 [] l)
    have h2 := cutG_len 44 l []
    exact Nat.le_trans h1 h2
  · simp
def chk : List UInt8 := [99, 104, 117, 110, 107, 101, 100]
def chkV (l : List UInt8) : Value := .tuple #[.int .u8 2, .int .i64 0, .bool (decide (lstE l = 0 ∧ lstV l = [chk]))]
theorem hd_chunked (s : ByteArray) (w : World) (hs : s.size ≤ 1000000) : Calls Tryz.prog 143 #[.string s] w (Ret w (chkV s.data.toList)) := by
  have L0 := as_List s w hs
  unfold LstIs at L0
  unfold chkV
  obtain ⟨V, hV⟩ : ∃ V, lstV s.data.toList = V := ⟨_, rfl⟩
  obtain ⟨E, hE⟩ : ∃ E, lstE s.data.toList = E := ⟨_, rfl⟩
  have hVl : V.length ≤ 1000001 := by
    rw [← hV]
    have := lstV_le s.data.toList
    rw [size_toList] at this
    omega
  rw [hV, hE] at L0 ⊢
  clear hV hE
  have L := Lib.hid L0
  have HVL := Lib.hid hVl
  clear L0 hVl
  by_cases h : E = 0
  · subst h
    obtain ⟨B, hB⟩ : ∃ B, decide ((0 : Int) = 0 ∧ V = [chk]) = B := ⟨_, rfl⟩
    have HB := Lib.hid hB
    rw [hB]
    clear hB
    go_enter Tryz.func143, Tryz.ntmps143
    go_wp2_with fail
    refine (L.out).mono ?_
    rintro e w1 ⟨v, rfl, hv, hb1⟩
    have HV := Lib.hid hv
    clear hv
    go_wp2_with fail
    refine (vals_equal _ _ V [chk] _ (HV.out.ret ((Below.refl _ w1).alloc (Nat.le_refl _) _)) (one_vals w1 chk) HVL.out (by decide)).mono ?_
    rintro e w2 ⟨rfl, hb2⟩
    have q2 := (hb1.alloc hb1.size (.cells #[.string ⟨chk.toArray⟩] 9)).trans (hb2.mono (by have := hb1.size; simp; omega))
    go_wp2_with fail
    go_ret3
    refine ⟨?_, q2⟩
    rw [← HB.out]
    simp
  · have g : (E == 0) = false := by rw [beq_eq_false_iff_ne]; exact h
    rw [show decide (E = 0 ∧ V = [chk]) = false from decide_eq_false (fun k => h k.1)]
    clear h
    go_enter Tryz.func143, Tryz.ntmps143
    go_wp2_with fail
    refine (L.out).mono ?_
    rintro e w1 ⟨v, rfl, hv, hb1⟩
    clear hv
    go_wp2_with fail
    go_ret3
    exact ⟨rfl, hb1⟩
end Go.Proofs.YthgmgmbjjjnhnaaGreatDoor
namespace Go.Proofs.YthgmgmbjjjnhnaaGreatDoor
open Go.RowKit

def teL : List UInt8 := [116, 114, 97, 110, 115, 102, 101, 114, 45, 101, 110, 99, 111, 100, 105, 110, 103]
def clL : List UInt8 := [99, 111, 110, 116, 101, 110, 116, 45, 108, 101, 110, 103, 116, 104]
/-- What Frame answers. -/
def frmK (T C : List UInt8 × Bool × Int) : Int × Int × Int :=
  if T.2.2 ≠ 0 ∨ C.2.2 ≠ 0 ∨ (T.2.1 && C.2.1) = true then (0, 0, 140)
  else if T.2.1 = true then (if lstE T.1 = 0 ∧ lstV T.1 = [chk] then (2, 0, 0) else (0, 0, 140))
  else if C.2.1 = true then (if rdE C.1 = 0 then (1, rdN C.1, 0) else (0, 0, 140))
  else (0, 0, 0)
def frm (ps : List Pr) : Int × Int × Int := frmK (oneX (fndV ps teL)) (oneX (fndV ps clL))
def frmT (x : Int × Int × Int) : Value := .tuple #[.int .u8 x.1, .int .i64 x.2.1, .int .i64 x.2.2]
theorem fndV_mem {ps : List Pr} {n x : List UInt8} (h : x ∈ fndV ps n) : ∃ p ∈ ps, p.2 = x := by
  induction ps with
  | nil => cases h
  | cons q ps ih =>
    unfold fndV at h
    split at h
    · rcases List.mem_cons.1 h with rfl | h
      · exact ⟨q, List.mem_cons_self, rfl⟩
      · obtain ⟨p, hp, e⟩ := ih h
        exact ⟨p, List.mem_cons_of_mem _ hp, e⟩
    · obtain ⟨p, hp, e⟩ := ih h
      exact ⟨p, List.mem_cons_of_mem _ hp, e⟩
theorem oneX_kinds (xs : List (List UInt8)) : oneX xs = ([], false, 0) ∨ (∃ X : ByteArray, X.data.toList ∈ xs ∧ oneX xs = (X.data.toList, true, 0)) ∨ oneX xs = ([], false, 140) := by
  match xs with
  | [] => exact .inl rfl
  | [x] => exact .inr (.inl ⟨⟨x.toArray⟩, by simp, rfl⟩)
  | x :: y :: r => exact .inr (.inr rfl)
/-- Four cells. -/
structure W4 (L : Nat) (a b c d : Value) (w : World) : Prop where
  h : L < w.heap.size
  c0 : w.cell? ⟨L, 0, none⟩ = some a
  c1 : w.cell? ⟨L, 1, none⟩ = some b
  c2 : w.cell? ⟨L, 2, none⟩ = some c
  c3 : w.cell? ⟨L, 3, none⟩ = some d
theorem W4.ret {L : Nat} {a b c d : Value} {w w' : World} (h : W4 L a b c d w) (hb : Below w.heap.size w w') : W4 L a b c d w' :=
  ⟨Nat.lt_of_lt_of_le h.h hb.size, ((bcell hb).1 _ _ h.h).trans h.c0, ((bcell hb).1 _ _ h.h).trans h.c1, ((bcell hb).1 _ _ h.h).trans h.c2, ((bcell hb).1 _ _ h.h).trans h.c3⟩
/-- Two cells. -/
structure W2 (L : Nat) (a b : Value) (w : World) : Prop where
  h : L < w.heap.size
  c0 : w.cell? ⟨L, 0, none⟩ = some a
  c1 : w.cell? ⟨L, 1, none⟩ = some b
theorem W2.ret {L : Nat} {a b : Value} {w w' : World} (h : W2 L a b w) (hb : Below w.heap.size w w') : W2 L a b w' :=
  ⟨Nat.lt_of_lt_of_le h.h hb.size, ((bcell hb).1 _ _ h.h).trans h.c0, ((bcell hb).1 _ _ h.h).trans h.c1⟩
set_option maxHeartbeats 8000000 in
theorem hd_Frame (v : Value) (ps : List Pr) (w : World) (hv : IsPairs v ps w) (hl : ps.length ≤ 1000) (hz : ∀ p ∈ ps, p.1.length ≤ 1000000) (hz2 : ∀ p ∈ ps, p.2.length ≤ 1000000) : Calls Tryz.prog 102 #[v] w (Ret w (frmT (frm ps))) := by
  have TH0 := fun w (h : IsPairs v ps w) => hd_One v ps ⟨#[116, 114, 97, 110, 115, 102, 101, 114, 45, 101, 110, 99, 111, 100, 105, 110, 103]⟩ w h hl hz (by decide)
  have CH0 := fun w (h : IsPairs v ps w) => hd_One v ps ⟨#[99, 111, 110, 116, 101, 110, 116, 45, 108, 101, 110, 103, 116, 104]⟩ w h hl hz (by decide)
  have kT := oneX_kinds (fndV ps teL)
  have kC := oneX_kinds (fndV ps clL)
  have bT : ∀ x ∈ fndV ps teL, x.length ≤ 1000000 := fun x hx => by
    obtain ⟨p, hp, rfl⟩ := fndV_mem hx
    exact hz2 p hp
  have bC : ∀ x ∈ fndV ps clL, x.length ≤ 1000000 := fun x hx => by
    obtain ⟨p, hp, rfl⟩ := fndV_mem hx
    exact hz2 p hp
  unfold OneIs at TH0 CH0
  change ∀ w, IsPairs v ps w → Calls Tryz.prog 63 _ w (Ret w (.tuple #[.string ⟨(oneX (fndV ps teL)).1.toArray⟩, .bool (oneX (fndV ps teL)).2.1, .int .i64 (oneX (fndV ps teL)).2.2])) at TH0
  change ∀ w, IsPairs v ps w → Calls Tryz.prog 63 _ w (Ret w (.tuple #[.string ⟨(oneX (fndV ps clL)).1.toArray⟩, .bool (oneX (fndV ps clL)).2.1, .int .i64 (oneX (fndV ps clL)).2.2])) at CH0
  unfold frm
  obtain ⟨T, hT⟩ : ∃ T, oneX (fndV ps teL) = T := ⟨_, rfl⟩
  obtain ⟨C, hC⟩ : ∃ C, oneX (fndV ps clL) = C := ⟨_, rfl⟩
  rw [hT] at TH0 kT ⊢
  rw [hC] at CH0 kC ⊢
  have HV := Lib.hid hv
  clear hT hC hl hz hz2 hv
  rcases kT with rfl | ⟨X, hx, rfl⟩ | rfl
  · rcases kC with rfl | ⟨Y, hy, rfl⟩ | rfl
    · rw [show frmK ([], false, 0) ([], false, 0) = (0, 0, 0) from by simp [frmK]]
      have TH := Lib.hid TH0
      clear TH0
      have CH := Lib.hid CH0
      clear CH0
      go_enter Tryz.func102, Tryz.ntmps102
      go_wp2_with fail
      refine wp_loop_rounds 3 ?_
      rw [rounds_succ]
      go_wp2_with fail
      refine (TH.out _ (HV.out.ret (((Below.refl _ w).alloc (Nat.le_refl _) _).alloc (by simp) _))).mono ?_
      rintro e w1 ⟨rfl, hb1⟩
      have q1 := (((Below.refl _ w).alloc (Nat.le_refl _) (.cells #[.string ⟨#[116, 114, 97, 110, 115, 102, 101, 114, 45, 101, 110, 99, 111, 100, 105, 110, 103]⟩, .func (.func 143) #[] #[], .string ⟨#[99, 111, 110, 116, 101, 110, 116, 45, 108, 101, 110, 103, 116, 104]⟩, .func (.func 144) #[] #[]] 206)).alloc (by simp) (.cells #[.string ⟨#[116, 114, 97, 110, 115, 102, 101, 114, 45, 101, 110, 99, 111, 100, 105, 110, 103]⟩, .func (.func 143) #[] #[]] 206)).trans (hb1.mono (by simp; omega))
      have R1 : Hid (W4 w.heap.size _ _ _ _ w1) := Lib.hid ((W4.mk (by simp; omega) (by simp; rfl) (by simp; rfl) (by simp; rfl) (by simp; rfl)).ret hb1)
      have S1 : Hid (W2 (w.heap.size + 1) _ _ w1) := Lib.hid ((W2.mk (by simp) (by simp; rfl) (by simp; rfl)).ret hb1)
      clear hb1
      go_wp2_with fail
      rw [rounds_succ]
      obtain ⟨z0, z1, z2, z3, z4⟩ := R1.out
      go_wp2_with fail
      refine (CH.out _ ((HV.out.ret q1).ret ((Below.refl _ w1).alloc (Nat.le_refl _) _))).mono ?_
      rintro e w4 ⟨rfl, hb4⟩
      have q4 := (q1.alloc q1.size (.cells #[.string ⟨#[99, 111, 110, 116, 101, 110, 116, 45, 108, 101, 110, 103, 116, 104]⟩, .func (.func 144) #[] #[]] 206)).trans (hb4.mono (by have := q1.size; simp; omega))
      have S4 : Hid (W2 w1.heap.size _ _ w4) := Lib.hid ((W2.mk (by simp) (by simp; rfl) (by simp; rfl)).ret hb4)
      clear hb4 z0 z1 z2 z3 z4
      go_wp2_with fail
      rw [rounds_succ]
      go_wp2_with fail
      go_ret3
      exact ⟨rfl, q4⟩
    · have zY : Y.size ≤ 1000000 := by
        rw [← size_toList]
        exact bC _ hy
      have LH0 := fun w => hd_long Y w zY
      unfold lngV at LH0
      simp only [str_mk] at CH0
      obtain ⟨n, hn⟩ : ∃ n, rdN Y.data.toList = n := ⟨_, rfl⟩
      obtain ⟨r, hr⟩ : ∃ r, decide (rdE Y.data.toList = 0) = r := ⟨_, rfl⟩
      rw [hn, hr] at LH0
      rcases Bool.eq_false_or_eq_true r with rfl | rfl
      · rw [show frmK ([], false, 0) (Y.data.toList, true, 0) = (1, n, 0) from by simp [frmK, of_decide_eq_true hr, hn]]
        have TH := Lib.hid TH0
        clear TH0
        have CH := Lib.hid CH0
        clear CH0
        have LH := Lib.hid LH0
        clear LH0
        go_enter Tryz.func102, Tryz.ntmps102
        go_wp2_with fail
        refine wp_loop_rounds 3 ?_
        rw [rounds_succ]
        go_wp2_with fail
        refine (TH.out _ (HV.out.ret (((Below.refl _ w).alloc (Nat.le_refl _) _).alloc (by simp) _))).mono ?_
        rintro e w1 ⟨rfl, hb1⟩
        have q1 := (((Below.refl _ w).alloc (Nat.le_refl _) (.cells #[.string ⟨#[116, 114, 97, 110, 115, 102, 101, 114, 45, 101, 110, 99, 111, 100, 105, 110, 103]⟩, .func (.func 143) #[] #[], .string ⟨#[99, 111, 110, 116, 101, 110, 116, 45, 108, 101, 110, 103, 116, 104]⟩, .func (.func 144) #[] #[]] 206)).alloc (by simp) (.cells #[.string ⟨#[116, 114, 97, 110, 115, 102, 101, 114, 45, 101, 110, 99, 111, 100, 105, 110, 103]⟩, .func (.func 143) #[] #[]] 206)).trans (hb1.mono (by simp; omega))
        have R1 : Hid (W4 w.heap.size _ _ _ _ w1) := Lib.hid ((W4.mk (by simp; omega) (by simp; rfl) (by simp; rfl) (by simp; rfl) (by simp; rfl)).ret hb1)
        have S1 : Hid (W2 (w.heap.size + 1) _ _ w1) := Lib.hid ((W2.mk (by simp) (by simp; rfl) (by simp; rfl)).ret hb1)
        clear hb1
        go_wp2_with fail
        rw [rounds_succ]
        obtain ⟨z0, z1, z2, z3, z4⟩ := R1.out
        go_wp2_with fail
        refine (CH.out _ ((HV.out.ret q1).ret ((Below.refl _ w1).alloc (Nat.le_refl _) _))).mono ?_
        rintro e w4 ⟨rfl, hb4⟩
        have q4 := (q1.alloc q1.size (.cells #[.string ⟨#[99, 111, 110, 116, 101, 110, 116, 45, 108, 101, 110, 103, 116, 104]⟩, .func (.func 144) #[] #[]] 206)).trans (hb4.mono (by have := q1.size; simp; omega))
        have S4 : Hid (W2 w1.heap.size _ _ w4) := Lib.hid ((W2.mk (by simp) (by simp; rfl) (by simp; rfl)).ret hb4)
        clear hb4 z0 z1 z2 z3 z4
        obtain ⟨z0, z1, z2⟩ := S4.out
        go_wp2_with fail
        refine (LH.out _).mono ?_
        rintro e w5 ⟨rfl, hb5⟩
        have q5 := q4.trans (hb5.mono q4.size)
        clear hb5 z0 z1 z2
        go_wp2_with fail
        rw [rounds_succ]
        go_wp2_with fail
        go_ret3
        exact ⟨rfl, q5⟩
      · rw [show frmK ([], false, 0) (Y.data.toList, true, 0) = (0, 0, 140) from by simp [frmK, of_decide_eq_false hr]]
        have TH := Lib.hid TH0
        clear TH0
        have CH := Lib.hid CH0
        clear CH0
        have LH := Lib.hid LH0
        clear LH0
        go_enter Tryz.func102, Tryz.ntmps102
        go_wp2_with fail
        refine wp_loop_rounds 3 ?_
        rw [rounds_succ]
        go_wp2_with fail
        refine (TH.out _ (HV.out.ret (((Below.refl _ w).alloc (Nat.le_refl _) _).alloc (by simp) _))).mono ?_
        rintro e w1 ⟨rfl, hb1⟩
        have q1 := (((Below.refl _ w).alloc (Nat.le_refl _) (.cells #[.string ⟨#[116, 114, 97, 110, 115, 102, 101, 114, 45, 101, 110, 99, 111, 100, 105, 110, 103]⟩, .func (.func 143) #[] #[], .string ⟨#[99, 111, 110, 116, 101, 110, 116, 45, 108, 101, 110, 103, 116, 104]⟩, .func (.func 144) #[] #[]] 206)).alloc (by simp) (.cells #[.string ⟨#[116, 114, 97, 110, 115, 102, 101, 114, 45, 101, 110, 99, 111, 100, 105, 110, 103]⟩, .func (.func 143) #[] #[]] 206)).trans (hb1.mono (by simp; omega))
        have R1 : Hid (W4 w.heap.size _ _ _ _ w1) := Lib.hid ((W4.mk (by simp; omega) (by simp; rfl) (by simp; rfl) (by simp; rfl) (by simp; rfl)).ret hb1)
        have S1 : Hid (W2 (w.heap.size + 1) _ _ w1) := Lib.hid ((W2.mk (by simp) (by simp; rfl) (by simp; rfl)).ret hb1)
        clear hb1
        go_wp2_with fail
        rw [rounds_succ]
        obtain ⟨z0, z1, z2, z3, z4⟩ := R1.out
        go_wp2_with fail
        refine (CH.out _ ((HV.out.ret q1).ret ((Below.refl _ w1).alloc (Nat.le_refl _) _))).mono ?_
        rintro e w4 ⟨rfl, hb4⟩
        have q4 := (q1.alloc q1.size (.cells #[.string ⟨#[99, 111, 110, 116, 101, 110, 116, 45, 108, 101, 110, 103, 116, 104]⟩, .func (.func 144) #[] #[]] 206)).trans (hb4.mono (by have := q1.size; simp; omega))
        have S4 : Hid (W2 w1.heap.size _ _ w4) := Lib.hid ((W2.mk (by simp) (by simp; rfl) (by simp; rfl)).ret hb4)
        clear hb4 z0 z1 z2 z3 z4
        obtain ⟨z0, z1, z2⟩ := S4.out
        go_wp2_with fail
        refine (LH.out _).mono ?_
        rintro e w5 ⟨rfl, hb5⟩
        have q5 := q4.trans (hb5.mono q4.size)
        clear hb5 z0 z1 z2
        go_wp2_with fail
        go_ret3
        exact ⟨rfl, q5⟩
    · rw [show frmK ([], false, 0) ([], false, 140) = (0, 0, 140) from by simp [frmK]]
      have TH := Lib.hid TH0
      clear TH0
      have CH := Lib.hid CH0
      clear CH0
      go_enter Tryz.func102, Tryz.ntmps102
      go_wp2_with fail
      refine wp_loop_rounds 3 ?_
      rw [rounds_succ]
      go_wp2_with fail
      refine (TH.out _ (HV.out.ret (((Below.refl _ w).alloc (Nat.le_refl _) _).alloc (by simp) _))).mono ?_
      rintro e w1 ⟨rfl, hb1⟩
      have q1 := (((Below.refl _ w).alloc (Nat.le_refl _) (.cells #[.string ⟨#[116, 114, 97, 110, 115, 102, 101, 114, 45, 101, 110, 99, 111, 100, 105, 110, 103]⟩, .func (.func 143) #[] #[], .string ⟨#[99, 111, 110, 116, 101, 110, 116, 45, 108, 101, 110, 103, 116, 104]⟩, .func (.func 144) #[] #[]] 206)).alloc (by simp) (.cells #[.string ⟨#[116, 114, 97, 110, 115, 102, 101, 114, 45, 101, 110, 99, 111, 100, 105, 110, 103]⟩, .func (.func 143) #[] #[]] 206)).trans (hb1.mono (by simp; omega))
      have R1 : Hid (W4 w.heap.size _ _ _ _ w1) := Lib.hid ((W4.mk (by simp; omega) (by simp; rfl) (by simp; rfl) (by simp; rfl) (by simp; rfl)).ret hb1)
      have S1 : Hid (W2 (w.heap.size + 1) _ _ w1) := Lib.hid ((W2.mk (by simp) (by simp; rfl) (by simp; rfl)).ret hb1)
      clear hb1
      go_wp2_with fail
      rw [rounds_succ]
      obtain ⟨z0, z1, z2, z3, z4⟩ := R1.out
      go_wp2_with fail
      refine (CH.out _ ((HV.out.ret q1).ret ((Below.refl _ w1).alloc (Nat.le_refl _) _))).mono ?_
      rintro e w4 ⟨rfl, hb4⟩
      have q4 := (q1.alloc q1.size (.cells #[.string ⟨#[99, 111, 110, 116, 101, 110, 116, 45, 108, 101, 110, 103, 116, 104]⟩, .func (.func 144) #[] #[]] 206)).trans (hb4.mono (by have := q1.size; simp; omega))
      have S4 : Hid (W2 w1.heap.size _ _ w4) := Lib.hid ((W2.mk (by simp) (by simp; rfl) (by simp; rfl)).ret hb4)
      clear hb4 z0 z1 z2 z3 z4
      go_wp2_with fail
      go_ret3
      exact ⟨rfl, q4⟩
  · have zX : X.size ≤ 1000000 := by
      rw [← size_toList]
      exact bT _ hx
    have KH0 := fun w => hd_chunked X w zX
    unfold chkV at KH0
    simp only [str_mk] at TH0
    obtain ⟨k, hk⟩ : ∃ k, decide (lstE X.data.toList = 0 ∧ lstV X.data.toList = [chk]) = k := ⟨_, rfl⟩
    rw [hk] at KH0
    rcases Bool.eq_false_or_eq_true k with rfl | rfl
    · rcases kC with rfl | ⟨Y, hy, rfl⟩ | rfl
      · rw [show frmK (X.data.toList, true, 0) ([], false, 0) = (2, 0, 0) from by simp [frmK, of_decide_eq_true hk]]
        have TH := Lib.hid TH0
        clear TH0
        have CH := Lib.hid CH0
        clear CH0
        have KH := Lib.hid KH0
        clear KH0
        go_enter Tryz.func102, Tryz.ntmps102
        go_wp2_with fail
        refine wp_loop_rounds 3 ?_
        rw [rounds_succ]
        go_wp2_with fail
        refine (TH.out _ (HV.out.ret (((Below.refl _ w).alloc (Nat.le_refl _) _).alloc (by simp) _))).mono ?_
        rintro e w1 ⟨rfl, hb1⟩
        have q1 := (((Below.refl _ w).alloc (Nat.le_refl _) (.cells #[.string ⟨#[116, 114, 97, 110, 115, 102, 101, 114, 45, 101, 110, 99, 111, 100, 105, 110, 103]⟩, .func (.func 143) #[] #[], .string ⟨#[99, 111, 110, 116, 101, 110, 116, 45, 108, 101, 110, 103, 116, 104]⟩, .func (.func 144) #[] #[]] 206)).alloc (by simp) (.cells #[.string ⟨#[116, 114, 97, 110, 115, 102, 101, 114, 45, 101, 110, 99, 111, 100, 105, 110, 103]⟩, .func (.func 143) #[] #[]] 206)).trans (hb1.mono (by simp; omega))
        have R1 : Hid (W4 w.heap.size _ _ _ _ w1) := Lib.hid ((W4.mk (by simp; omega) (by simp; rfl) (by simp; rfl) (by simp; rfl) (by simp; rfl)).ret hb1)
        have S1 : Hid (W2 (w.heap.size + 1) _ _ w1) := Lib.hid ((W2.mk (by simp) (by simp; rfl) (by simp; rfl)).ret hb1)
        clear hb1
        obtain ⟨z0, z1, z2⟩ := S1.out
        go_wp2_with fail
        refine (KH.out _).mono ?_
        rintro e w3 ⟨rfl, hb3⟩
        have q3 := q1.trans (hb3.mono q1.size)
        have R3 := Lib.hid (R1.out.ret hb3)
        clear hb3 z0 z1 z2 R1
        go_wp2_with fail
        rw [rounds_succ]
        obtain ⟨z0, z1, z2, z3, z4⟩ := R3.out
        go_wp2_with fail
        refine (CH.out _ ((HV.out.ret q3).ret ((Below.refl _ w3).alloc (Nat.le_refl _) _))).mono ?_
        rintro e w4 ⟨rfl, hb4⟩
        have q4 := (q3.alloc q3.size (.cells #[.string ⟨#[99, 111, 110, 116, 101, 110, 116, 45, 108, 101, 110, 103, 116, 104]⟩, .func (.func 144) #[] #[]] 206)).trans (hb4.mono (by have := q3.size; simp; omega))
        have S4 : Hid (W2 w3.heap.size _ _ w4) := Lib.hid ((W2.mk (by simp) (by simp; rfl) (by simp; rfl)).ret hb4)
        clear hb4 z0 z1 z2 z3 z4
        go_wp2_with fail
        rw [rounds_succ]
        go_wp2_with fail
        go_ret3
        exact ⟨rfl, q4⟩
      · have zY : Y.size ≤ 1000000 := by
          rw [← size_toList]
          exact bC _ hy
        have LH0 := fun w => hd_long Y w zY
        unfold lngV at LH0
        simp only [str_mk] at CH0
        obtain ⟨n, hn⟩ : ∃ n, rdN Y.data.toList = n := ⟨_, rfl⟩
        obtain ⟨r, hr⟩ : ∃ r, decide (rdE Y.data.toList = 0) = r := ⟨_, rfl⟩
        rw [hn, hr] at LH0
        rw [show frmK (X.data.toList, true, 0) (Y.data.toList, true, 0) = (0, 0, 140) from by simp [frmK]]
        have TH := Lib.hid TH0
        clear TH0
        have CH := Lib.hid CH0
        clear CH0
        have KH := Lib.hid KH0
        clear KH0
        have LH := Lib.hid LH0
        clear LH0
        go_enter Tryz.func102, Tryz.ntmps102
        go_wp2_with fail
        refine wp_loop_rounds 3 ?_
        rw [rounds_succ]
        go_wp2_with fail
        refine (TH.out _ (HV.out.ret (((Below.refl _ w).alloc (Nat.le_refl _) _).alloc (by simp) _))).mono ?_
        rintro e w1 ⟨rfl, hb1⟩
        have q1 := (((Below.refl _ w).alloc (Nat.le_refl _) (.cells #[.string ⟨#[116, 114, 97, 110, 115, 102, 101, 114, 45, 101, 110, 99, 111, 100, 105, 110, 103]⟩, .func (.func 143) #[] #[], .string ⟨#[99, 111, 110, 116, 101, 110, 116, 45, 108, 101, 110, 103, 116, 104]⟩, .func (.func 144) #[] #[]] 206)).alloc (by simp) (.cells #[.string ⟨#[116, 114, 97, 110, 115, 102, 101, 114, 45, 101, 110, 99, 111, 100, 105, 110, 103]⟩, .func (.func 143) #[] #[]] 206)).trans (hb1.mono (by simp; omega))
        have R1 : Hid (W4 w.heap.size _ _ _ _ w1) := Lib.hid ((W4.mk (by simp; omega) (by simp; rfl) (by simp; rfl) (by simp; rfl) (by simp; rfl)).ret hb1)
        have S1 : Hid (W2 (w.heap.size + 1) _ _ w1) := Lib.hid ((W2.mk (by simp) (by simp; rfl) (by simp; rfl)).ret hb1)
        clear hb1
        obtain ⟨z0, z1, z2⟩ := S1.out
        go_wp2_with fail
        refine (KH.out _).mono ?_
        rintro e w3 ⟨rfl, hb3⟩
        have q3 := q1.trans (hb3.mono q1.size)
        have R3 := Lib.hid (R1.out.ret hb3)
        clear hb3 z0 z1 z2 R1
        go_wp2_with fail
        rw [rounds_succ]
        obtain ⟨z0, z1, z2, z3, z4⟩ := R3.out
        go_wp2_with fail
        refine (CH.out _ ((HV.out.ret q3).ret ((Below.refl _ w3).alloc (Nat.le_refl _) _))).mono ?_
        rintro e w4 ⟨rfl, hb4⟩
        have q4 := (q3.alloc q3.size (.cells #[.string ⟨#[99, 111, 110, 116, 101, 110, 116, 45, 108, 101, 110, 103, 116, 104]⟩, .func (.func 144) #[] #[]] 206)).trans (hb4.mono (by have := q3.size; simp; omega))
        have S4 : Hid (W2 w3.heap.size _ _ w4) := Lib.hid ((W2.mk (by simp) (by simp; rfl) (by simp; rfl)).ret hb4)
        clear hb4 z0 z1 z2 z3 z4
        obtain ⟨z0, z1, z2⟩ := S4.out
        go_wp2_with fail
        refine (LH.out _).mono ?_
        rintro e w5 ⟨rfl, hb5⟩
        have q5 := q4.trans (hb5.mono q4.size)
        clear hb5 z0 z1 z2
        rcases Bool.eq_false_or_eq_true r with rfl | rfl
        · go_wp2_with fail
          rw [rounds_succ]
          go_wp2_with fail
          go_ret3
          exact ⟨rfl, q5⟩
        · go_wp2_with fail
          go_ret3
          exact ⟨rfl, q5⟩
      · rw [show frmK (X.data.toList, true, 0) ([], false, 140) = (0, 0, 140) from by simp [frmK]]
        have TH := Lib.hid TH0
        clear TH0
        have CH := Lib.hid CH0
        clear CH0
        have KH := Lib.hid KH0
        clear KH0
        go_enter Tryz.func102, Tryz.ntmps102
        go_wp2_with fail
        refine wp_loop_rounds 3 ?_
        rw [rounds_succ]
        go_wp2_with fail
        refine (TH.out _ (HV.out.ret (((Below.refl _ w).alloc (Nat.le_refl _) _).alloc (by simp) _))).mono ?_
        rintro e w1 ⟨rfl, hb1⟩
        have q1 := (((Below.refl _ w).alloc (Nat.le_refl _) (.cells #[.string ⟨#[116, 114, 97, 110, 115, 102, 101, 114, 45, 101, 110, 99, 111, 100, 105, 110, 103]⟩, .func (.func 143) #[] #[], .string ⟨#[99, 111, 110, 116, 101, 110, 116, 45, 108, 101, 110, 103, 116, 104]⟩, .func (.func 144) #[] #[]] 206)).alloc (by simp) (.cells #[.string ⟨#[116, 114, 97, 110, 115, 102, 101, 114, 45, 101, 110, 99, 111, 100, 105, 110, 103]⟩, .func (.func 143) #[] #[]] 206)).trans (hb1.mono (by simp; omega))
        have R1 : Hid (W4 w.heap.size _ _ _ _ w1) := Lib.hid ((W4.mk (by simp; omega) (by simp; rfl) (by simp; rfl) (by simp; rfl) (by simp; rfl)).ret hb1)
        have S1 : Hid (W2 (w.heap.size + 1) _ _ w1) := Lib.hid ((W2.mk (by simp) (by simp; rfl) (by simp; rfl)).ret hb1)
        clear hb1
        obtain ⟨z0, z1, z2⟩ := S1.out
        go_wp2_with fail
        refine (KH.out _).mono ?_
        rintro e w3 ⟨rfl, hb3⟩
        have q3 := q1.trans (hb3.mono q1.size)
        have R3 := Lib.hid (R1.out.ret hb3)
        clear hb3 z0 z1 z2 R1
        go_wp2_with fail
        rw [rounds_succ]
        obtain ⟨z0, z1, z2, z3, z4⟩ := R3.out
        go_wp2_with fail
        refine (CH.out _ ((HV.out.ret q3).ret ((Below.refl _ w3).alloc (Nat.le_refl _) _))).mono ?_
        rintro e w4 ⟨rfl, hb4⟩
        have q4 := (q3.alloc q3.size (.cells #[.string ⟨#[99, 111, 110, 116, 101, 110, 116, 45, 108, 101, 110, 103, 116, 104]⟩, .func (.func 144) #[] #[]] 206)).trans (hb4.mono (by have := q3.size; simp; omega))
        have S4 : Hid (W2 w3.heap.size _ _ w4) := Lib.hid ((W2.mk (by simp) (by simp; rfl) (by simp; rfl)).ret hb4)
        clear hb4 z0 z1 z2 z3 z4
        go_wp2_with fail
        go_ret3
        exact ⟨rfl, q4⟩
    · rw [show frmK (X.data.toList, true, 0) C = (0, 0, 140) from by rcases kC with rfl | ⟨Y, hy, rfl⟩ | rfl <;> simp [frmK, of_decide_eq_false hk]]
      clear CH0 kC
      have TH := Lib.hid TH0
      clear TH0
      have KH := Lib.hid KH0
      clear KH0
      go_enter Tryz.func102, Tryz.ntmps102
      go_wp2_with fail
      refine wp_loop_rounds 3 ?_
      rw [rounds_succ]
      go_wp2_with fail
      refine (TH.out _ (HV.out.ret (((Below.refl _ w).alloc (Nat.le_refl _) _).alloc (by simp) _))).mono ?_
      rintro e w1 ⟨rfl, hb1⟩
      have q1 := (((Below.refl _ w).alloc (Nat.le_refl _) (.cells #[.string ⟨#[116, 114, 97, 110, 115, 102, 101, 114, 45, 101, 110, 99, 111, 100, 105, 110, 103]⟩, .func (.func 143) #[] #[], .string ⟨#[99, 111, 110, 116, 101, 110, 116, 45, 108, 101, 110, 103, 116, 104]⟩, .func (.func 144) #[] #[]] 206)).alloc (by simp) (.cells #[.string ⟨#[116, 114, 97, 110, 115, 102, 101, 114, 45, 101, 110, 99, 111, 100, 105, 110, 103]⟩, .func (.func 143) #[] #[]] 206)).trans (hb1.mono (by simp; omega))
      have R1 : Hid (W4 w.heap.size _ _ _ _ w1) := Lib.hid ((W4.mk (by simp; omega) (by simp; rfl) (by simp; rfl) (by simp; rfl) (by simp; rfl)).ret hb1)
      have S1 : Hid (W2 (w.heap.size + 1) _ _ w1) := Lib.hid ((W2.mk (by simp) (by simp; rfl) (by simp; rfl)).ret hb1)
      clear hb1
      obtain ⟨z0, z1, z2⟩ := S1.out
      go_wp2_with fail
      refine (KH.out _).mono ?_
      rintro e w3 ⟨rfl, hb3⟩
      have q3 := q1.trans (hb3.mono q1.size)
      have R3 := Lib.hid (R1.out.ret hb3)
      clear hb3 z0 z1 z2 R1
      go_wp2_with fail
      go_ret3
      exact ⟨rfl, q3⟩
  · rw [show frmK ([], false, 140) C = (0, 0, 140) from by simp [frmK]]
    clear CH0 kC
    have TH := Lib.hid TH0
    clear TH0
    go_enter Tryz.func102, Tryz.ntmps102
    go_wp2_with fail
    refine wp_loop_rounds 3 ?_
    rw [rounds_succ]
    go_wp2_with fail
    refine (TH.out _ (HV.out.ret (((Below.refl _ w).alloc (Nat.le_refl _) _).alloc (by simp) _))).mono ?_
    rintro e w1 ⟨rfl, hb1⟩
    have q1 := (((Below.refl _ w).alloc (Nat.le_refl _) (.cells #[.string ⟨#[116, 114, 97, 110, 115, 102, 101, 114, 45, 101, 110, 99, 111, 100, 105, 110, 103]⟩, .func (.func 143) #[] #[], .string ⟨#[99, 111, 110, 116, 101, 110, 116, 45, 108, 101, 110, 103, 116, 104]⟩, .func (.func 144) #[] #[]] 206)).alloc (by simp) (.cells #[.string ⟨#[116, 114, 97, 110, 115, 102, 101, 114, 45, 101, 110, 99, 111, 100, 105, 110, 103]⟩, .func (.func 143) #[] #[]] 206)).trans (hb1.mono (by simp; omega))
    have R1 : Hid (W4 w.heap.size _ _ _ _ w1) := Lib.hid ((W4.mk (by simp; omega) (by simp; rfl) (by simp; rfl) (by simp; rfl) (by simp; rfl)).ret hb1)
    have S1 : Hid (W2 (w.heap.size + 1) _ _ w1) := Lib.hid ((W2.mk (by simp) (by simp; rfl) (by simp; rfl)).ret hb1)
    clear hb1
    go_wp2_with fail
    go_ret3
    exact ⟨rfl, q1⟩
end Go.Proofs.YthgmgmbjjjnhnaaGreatDoor
namespace Go.Proofs.YthgmgmbjjjnhnaaGreatDoor
open Go.RowKit

def gsz (p : Pr) : Nat := min p.1.length 5000 + min p.2.length 5000
def gs (ps : List Pr) : Nat := (ps.map gsz).sum
def grt (ps : List Pr) : Bool := decide (40 < ps.length) || decide (3000 < gs (ps.take 50))
theorem gs_snoc (ps : List Pr) (p : Pr) : gs (ps ++ [p]) = gs ps + gsz p := by simp [gs]
theorem gsz_le (p : Pr) : gsz p ≤ 10000 := by unfold gsz; omega
theorem gs_le (ps : List Pr) : gs ps ≤ 10000 * ps.length := by
  induction ps with
  | nil => exact Nat.le_refl _
  | cons p ps ih =>
    have h : gs (p :: ps) = gsz p + gs ps := by simp [gs]
    have := gsz_le p
    rw [h, List.length_cons]
    omega
theorem gsz_mem {ps : List Pr} {p : Pr} (h : p ∈ ps) : gsz p ≤ gs ps := by
  induction ps with
  | nil => cases h
  | cons q ps ih =>
    have e : gs (q :: ps) = gsz q + gs ps := by simp [gs]
    rcases List.mem_cons.1 h with rfl | h
    · omega
    · have := ih h
      omega
theorem grt_small {ps : List Pr} (h : grt ps = false) : ps.length ≤ 40 ∧ gs ps ≤ 3000 ∧ ∀ p ∈ ps, p.1.length ≤ 3000 ∧ p.2.length ≤ 3000 := by
  unfold grt at h
  rw [Bool.or_eq_false_iff, decide_eq_false_iff_not, decide_eq_false_iff_not] at h
  obtain ⟨h1, h2⟩ := h
  rw [List.take_of_length_le (by omega)] at h2
  refine ⟨by omega, by omega, fun p hp => ?_⟩
  have h3 := gsz_mem hp
  unfold gsz at h3
  omega
end Go.Proofs.YthgmgmbjjjnhnaaGreatDoor
namespace Go.Proofs.YthgmgmbjjjnhnaaGreatDoor
open Go.RowKit

def hoL : List UInt8 := [104, 111, 115, 116]
/-- Which host a text tells. -/
def hstX (l : List UInt8) : List UInt8 × Int := if (l.contains 58 && !decide (rdE (cR 58 l) = 0)) = true ∨ tok (cA 58 l) = false then ([], 140) else (lowL (cA 58 l), 0)
def hstK (T : List UInt8 × Bool × Int) : List UInt8 × Int := if T.2.2 ≠ 0 ∨ T.2.1 = false then ([], 140) else hstX T.1
def hst (ps : List Pr) : List UInt8 × Int := hstK (oneX (fndV ps hoL))
def hstT (x : List UInt8 × Int) : Value := .tuple #[.string ⟨x.1.toArray⟩, .int .i64 x.2]
set_option maxHeartbeats 8000000 in
theorem hd_Host (v : Value) (ps : List Pr) (w : World) (hv : IsPairs v ps w) (hl : ps.length ≤ 1000) (hz : ∀ p ∈ ps, p.1.length ≤ 1000000) (hz2 : ∀ p ∈ ps, p.2.length ≤ 1000000) : Calls Tryz.prog 101 #[v] w (Ret w (hstT (hst ps))) := by
  have TH0 := hd_One v ps ⟨#[104, 111, 115, 116]⟩ w hv hl hz (by decide)
  have kT := oneX_kinds (fndV ps hoL)
  have bT : ∀ x ∈ fndV ps hoL, x.length ≤ 1000000 := fun x hx => by
    obtain ⟨p, hp, rfl⟩ := fndV_mem hx
    exact hz2 p hp
  unfold OneIs at TH0
  change Calls Tryz.prog 63 _ w (Ret w (.tuple #[.string ⟨(oneX (fndV ps hoL)).1.toArray⟩, .bool (oneX (fndV ps hoL)).2.1, .int .i64 (oneX (fndV ps hoL)).2.2])) at TH0
  unfold hst
  obtain ⟨T, hT⟩ : ∃ T, oneX (fndV ps hoL) = T := ⟨_, rfl⟩
  rw [hT] at TH0 kT ⊢
  clear hT hl hz hz2 hv
  rcases kT with rfl | ⟨X, hx, rfl⟩ | rfl
  · rw [show hstK ([], false, 0) = ([], 140) from by simp [hstK]]
    have TH := Lib.hid TH0
    clear TH0
    go_enter Tryz.func101, Tryz.ntmps101
    go_wp2_with fail
    refine (TH.out).mono ?_
    rintro e w1 ⟨rfl, hb1⟩
    go_wp2_with fail
    go_ret2
    exact ⟨rfl, hb1⟩
  · have zX : X.size ≤ 1000000 := by
      rw [← size_toList]
      exact bT _ hx
    simp only [str_mk] at TH0
    rw [show hstK (X.data.toList, true, 0) = hstX X.data.toList from by simp [hstK]]
    unfold hstX
    have C0 := fun w => st_Cut1 X 58 w zX
    have zA0 := cA_le 58 X.data.toList
    have zR0 : (cR 58 X.data.toList).length ≤ X.data.toList.length := by
      unfold cR
      rw [List.length_drop]
      exact Nat.le_trans (Nat.sub_le _ _) (List.dropWhile_sublist _).length_le
    rw [size_toList] at zA0 zR0
    obtain ⟨N, hN⟩ : ∃ Y : ByteArray, ⟨(cA 58 X.data.toList).toArray⟩ = Y := ⟨_, rfl⟩
    obtain ⟨V, hV⟩ : ∃ Y : ByteArray, ⟨(cR 58 X.data.toList).toArray⟩ = Y := ⟨_, rfl⟩
    have hNl : N.data.toList = cA 58 X.data.toList := by rw [← hN]
    have hVl : V.data.toList = cR 58 X.data.toList := by rw [← hV]
    have zN : N.size ≤ 1000000 := by rw [← size_toList, hNl]; omega
    have zV : V.size ≤ 1000000 := by rw [← size_toList, hVl]; omega
    rw [hN, hV] at C0
    rw [← hNl, ← hVl]
    obtain ⟨c, hc⟩ : ∃ b, X.data.toList.contains 58 = b := ⟨_, rfl⟩
    obtain ⟨k, hk⟩ : ∃ b, tok N.data.toList = b := ⟨_, rfl⟩
    rw [hc] at C0
    have R0 := fun w => num_Read V w (by omega)
    obtain ⟨n, hn⟩ : ∃ n, rdN V.data.toList = n := ⟨_, rfl⟩
    obtain ⟨E, hE⟩ : ∃ E, rdE V.data.toList = E := ⟨_, rfl⟩
    rw [hn, hE] at R0
    have LH0 := fun w => as_Lower N w zN
    obtain ⟨A, hA⟩ : ∃ Y : ByteArray, ⟨(lowL N.data.toList).toArray⟩ = Y := ⟨_, rfl⟩
    rw [hA] at LH0
    have KH := Lib.hid fun w => token_at N k w zN hk
    have TH := Lib.hid TH0
    have CH := Lib.hid C0
    have RH := Lib.hid R0
    have LH := Lib.hid LH0
    obtain ⟨O, hO⟩ : ∃ O, (if (c && !decide (E = 0)) = true ∨ k = false then (([], 140) : List UInt8 × Int) else (lowL N.data.toList, 0)) = O := ⟨_, rfl⟩
    rw [hc, hE, hk, hO]
    have HO := Lib.hid hO
    have HA := Lib.hid hA
    clear TH0 C0 R0 LH0 hN hV hNl hVl hc hk hn hE hA hO zA0 zR0 zX zN zV hx bT
    go_enter Tryz.func101, Tryz.ntmps101
    go_wp2_with fail
    refine (TH.out).mono ?_
    rintro e w1 ⟨rfl, hb1⟩
    go_wp2_with fail
    refine (CH.out _).mono ?_
    rintro e w2 ⟨rfl, hb2⟩
    have q2 := hb1.trans (hb2.mono hb1.size)
    clear hb1 hb2
    go_wp2_with fail
    refine (RH.out _).mono ?_
    rintro e w3 ⟨rfl, hb3⟩
    have q3 := q2.trans (hb3.mono q2.size)
    clear hb3 q2
    by_cases hbad : c = true ∧ E ≠ 0
    · obtain ⟨rfl, hE⟩ := hbad
      have g : (E != 0) = true := by simp [hE]
      have hO : O = ([], 140) := by rw [← HO.out]; simp [hE]
      subst hO
      clear hE
      go_wp2_with fail
      go_ret2
      exact ⟨rfl, q3⟩
    · have hcE : (c && !decide (E = 0)) = false := by
        cases c with
        | false => rfl
        | true =>
          have : E = 0 := Classical.byContradiction fun h => hbad ⟨rfl, h⟩
          simp [this]
      rw [hcE] at HO
      have key : c = false ∨ c = true ∧ E = 0 := by
        cases c with
        | false => exact .inl rfl
        | true => exact .inr ⟨rfl, Classical.byContradiction fun h => hbad ⟨rfl, h⟩⟩
      clear hbad hcE
      rcases key with rfl | ⟨rfl, rfl⟩
      all_goals
        go_wp2_with fail
        refine (KH.out _).mono ?_
        rintro e w4 ⟨rfl, hb4⟩
        have q4 := q3.trans (hb4.mono q3.size)
        clear hb4 q3
        cases k with
        | false =>
          have hO : O = ([], 140) := by rw [← HO.out]; simp
          subst hO
          go_wp2_with fail
          go_ret2
          exact ⟨rfl, q4⟩
        | true =>
          have hO : O = (lowL N.data.toList, 0) := by rw [← HO.out]; simp
          go_wp2_with fail
          refine (LH.out _).mono ?_
          rintro e w5 ⟨rfl, hb5⟩
          have q5 := q4.trans (hb5.mono q4.size)
          clear hb5 q4
          go_wp2_with fail
          go_ret2
          refine ⟨?_, q5⟩
          rw [hO]
          show _ = Ending.returned (.tuple #[.string ⟨(lowL N.data.toList).toArray⟩, .int .i64 0])
          rw [HA.out]
          rfl
  · rw [show hstK ([], false, 140) = ([], 140) from by simp [hstK]]
    have TH := Lib.hid TH0
    clear TH0
    go_enter Tryz.func101, Tryz.ntmps101
    go_wp2_with fail
    refine (TH.out).mono ?_
    rintro e w1 ⟨rfl, hb1⟩
    go_wp2_with fail
    go_ret2
    exact ⟨rfl, hb1⟩
end Go.Proofs.YthgmgmbjjjnhnaaGreatDoor
namespace Go.Proofs.YthgmgmbjjjnhnaaGreatDoor
open Go.RowKit

theorem mem_bts {xs : List (List UInt8)} {x : List UInt8} : (⟨x.toArray⟩ : ByteArray) ∈ bts xs ↔ x ∈ xs := by
  constructor
  · intro h
    obtain ⟨y, hy, e⟩ := List.mem_map.1 h
    have e2 := congrArg (fun b : ByteArray => b.data.toList) e
    simp only at e2
    have e3 : y = x := by simpa using e2
    exact e3 ▸ hy
  · intro h
    exact List.mem_map.2 ⟨x, h, rfl⟩
theorem vals_contains (v : Value) (xs : List (List UInt8)) (x : List UInt8) (w : World) (hv : IsVals v (strV xs) w) (hx : xs.length ≤ 1000001) :
    Calls Tryz.prog 96 #[v, .string ⟨x.toArray⟩] w (Ret w (.bool (decide (x ∈ xs)))) := by
  by_cases h0 : xs.length = 0
  · have e1 : xs = [] := List.length_eq_zero_iff.1 h0
    subst e1
    obtain ⟨a, ca, rfl, _, _⟩ := hv
    refine (Tryz.slices_Contains_string_empty a ca ⟨x.toArray⟩ w).mono ?_
    rintro e w' ⟨rfl, rfl⟩
    exact ⟨rfl, Below.refl _ _⟩
  · obtain ⟨b, off, cap, rfl, hc⟩ := vals_bts hv (by omega)
    refine (Tryz.slices_Contains_string b off xs.length cap (bts xs) ⟨x.toArray⟩ w (by rw [bts_len]; omega) (by omega) hc).mono ?_
    rintro e w' ⟨rfl, rfl⟩
    refine ⟨ret_b ?_, Below.refl _ _⟩
    rw [List.take_of_length_le (by rw [bts_len]; omega)]
    rw [Bool.eq_iff_iff, Lib.containsS_iff, mem_bts, decide_eq_true_eq]
def conL : List UInt8 := [99, 111, 110, 110, 101, 99, 116, 105, 111, 110]
def cloL : List UInt8 := [99, 108, 111, 115, 101]
def kpF (b : Bool) : List (List UInt8) → Bool × Int
  | [] => (b, 0)
  | x :: r => if lstE x = 0 then kpF (b && !decide (cloL ∈ lstV x)) r else (false, 140)
def kep (ps : List Pr) : Bool × Int := kpF true (fndV ps conL)
def kepT (x : Bool × Int) : Value := .tuple #[.bool x.1, .int .i64 x.2]
set_option maxHeartbeats 8000000 in
theorem hd_Keep (v : Value) (ps : List Pr) (w : World) (hv : IsPairs v ps w) (hl : ps.length ≤ 1000) (hz : ∀ p ∈ ps, p.1.length ≤ 1000000) (hz2 : ∀ p ∈ ps, p.2.length ≤ 1000000) : Calls Tryz.prog 64 #[v] w (Ret w (kepT (kep ps))) := by
  have F0 := hd_Find v ps ⟨#[99, 111, 110, 110, 101, 99, 116, 105, 111, 110]⟩ w hv hl hz (by decide)
  have bT : ∀ x ∈ fndV ps conL, x.length ≤ 1000000 := fun x hx => by
    obtain ⟨p, hp, rfl⟩ := fndV_mem hx
    exact hz2 p hp
  have hfl := fndV_len ps conL
  unfold FndIs at F0
  change Calls Tryz.prog 94 _ w (fun e w' => ∃ u, e = .returned u ∧ IsVals u (strV (fndV ps conL)) w' ∧ Below w.heap.size w w') at F0
  unfold kep
  obtain ⟨xs, hxs⟩ : ∃ xs, fndV ps conL = xs := ⟨_, rfl⟩
  rw [hxs] at F0 bT hfl ⊢
  obtain ⟨n, hn⟩ : ∃ n, xs.length = n := ⟨_, rfl⟩
  have zn : n ≤ 1000 := by omega
  have HN := Lib.hid hn
  have FH := Lib.hid F0
  have BT := Lib.hid bT
  obtain ⟨O, hO⟩ : ∃ O, kpF true xs = O := ⟨_, rfl⟩
  rw [hO]
  have HO := Lib.hid hO
  clear F0 bT hfl hxs hn hO hv hl hz hz2
  go_enter Tryz.func64, Tryz.ntmps64
  go_wp2_with fail
  refine (FH.out).mono ?_
  rintro e w1 ⟨u, rfl, hu, hb1⟩
  have hu' := hu
  obtain ⟨a, ca, rfl, _, _⟩ := hu'
  rw [strV_len, HN.out] at hu ⊢
  have HU := Lib.hid hu
  clear hu
  go_wp2_with fail
  go_loopw [4, 12] (fun x y wr => ∃ (k : Nat) (b : Bool), k ≤ n ∧ x = .bool b ∧ y = .int .i64 k ∧ kpF b (xs.drop k) = O ∧ IsVals (.slice a n ca) (strV xs) wr ∧ Below w.heap.size w wr) (fun _ y _ => n - (intOf y).toNat)
  case atStart => exact ⟨0, true, Nat.zero_le _, rfl, rfl, HO.out, HU.out, hb1⟩
  case round =>
    obtain ⟨k, b, hk, rfl, rfl, hkp, hV, hB⟩ := hrel
    have HV := Lib.hid hV
    by_cases hlt : k < n
    · have hx : k < xs.length := by have := HN.out; omega
      obtain ⟨b1, o1, cap1, hs1, _, hc⟩ := vals_cell' HV.out (k := k) (by rw [strV_len]; exact hx)
      have ha1 : a = some ⟨b1, o1, none⟩ := by injection hs1
      subst ha1
      have c1 := hc k (by rw [strV_len]; exact hx)
      have hzk := BT.out xs[k] (List.getElem_mem hx)
      rw [List.drop_eq_getElem_cons hx] at hkp
      obtain ⟨X, hX⟩ : ∃ X : ByteArray, ⟨xs[k].toArray⟩ = X := ⟨_, rfl⟩
      have hXl : X.data.toList = xs[k] := by rw [← hX]
      have e1 : (strV xs)[k]'(by rw [strV_len]; exact hx) = .string X := by rw [← hX]; simp [strV]
      rw [e1] at c1
      rw [← hXl] at hkp hzk
      have zX : X.size ≤ 1000000 := by rw [← size_toList]; exact hzk
      have L0 := fun w => as_List X w zX
      unfold LstIs at L0
      have hVl := lstV_le X.data.toList
      rw [size_toList] at hVl
      unfold kpF at hkp
      obtain ⟨E, hE⟩ : ∃ E, lstE X.data.toList = E := ⟨_, rfl⟩
      obtain ⟨ls, hls⟩ : ∃ ls, lstV X.data.toList = ls := ⟨_, rfl⟩
      simp only [hE, hls] at L0 hkp
      rw [hls] at hVl
      have LH := Lib.hid L0
      have HVL := Lib.hid (show ls.length ≤ 1000001 by omega)
      have HKP := Lib.hid hkp
      have g1 : (k : Int) < n := by omega
      have g2 : (0 : Int) ≤ (k : Int) := by omega
      clear L0 hVl hE hls hkp e1 hX hXl hzk hs1 hc hx zX hV
      go_wp2_with fail
      refine (LH.out _).mono ?_
      rintro e w2 ⟨y, rfl, hy, hb2⟩
      have HY := Lib.hid hy
      have q2 := hB.trans (hb2.mono hB.size)
      have HV2 := Lib.hid (HV.out.ret hb2)
      clear hy hb2 HV hB
      by_cases h : E = 0
      · subst h
        cases b with
        | false =>
          go_wp2_with fail
          go_roundw
          case rel => exact ⟨k + 1, false, by omega, rfl, by go_num, by have := HKP.out; simpa using this, HV2.out, q2⟩
          case measure => simp [intOf]; omega
        | true =>
          go_wp2_with fail
          refine (vals_contains y ls cloL _ HY.out HVL.out).mono ?_
          rintro e w3 ⟨rfl, hb3⟩
          have q3 := q2.trans (hb3.mono q2.size)
          have HV3 := Lib.hid (HV2.out.ret hb3)
          clear hb3 q2 HV2 HY
          obtain ⟨r, hr⟩ : ∃ r, decide (cloL ∈ ls) = r := ⟨_, rfl⟩
          rw [hr] at HKP ⊢
          clear hr
          go_wp2_with fail
          go_roundw
          case rel => exact ⟨k + 1, !r, by omega, by simp, by go_num, by have := HKP.out; simpa using this, HV3.out, q3⟩
          case measure => simp [intOf]; omega
      · have g : (E != 0) = true := by simp [h]
        have hOo : O = (false, 140) := by
          have := HKP.out
          rw [if_neg h] at this
          exact this.symm
        subst hOo
        clear h
        go_wp2_with fail
        go_ret2
        exact ⟨rfl, q2⟩
    · obtain rfl : k = n := by omega
      rw [List.drop_eq_nil_of_le (by have := HN.out; omega)] at hkp
      have hOo : O = (b, 0) := hkp.symm
      subst hOo
      clear hkp hV HV
      go_wp2_with fail
      go_ret2
      exact ⟨rfl, hB⟩
end Go.Proofs.YthgmgmbjjjnhnaaGreatDoor
