/- law14's helpers: are, frames, pair, alive. -/
import Derived.Test.YtnfgpcccmbblcaaDoorHdL
import Derived.Test.YtnfgpcccmbblcaaDoorHdI
namespace Go.Proofs.YtnfgpcccmbblcaaDoor
open Go.RowKit

set_option maxHeartbeats 4000000 in
theorem hd_are (s : ByteArray) (v : Value) (qs : List Pr) (w : World) (hs : s.size ≤ 1000000) (hv : IsPairs v qs w) (hm : ML w) : Calls Tryd.prog 40 #[.string s, v] w (Ret w (.bool (decide (hdE s.data.toList = 0 ∧ hdV s.data.toList = qs)))) := by
  have P0 := hd_Parse s w hs hm
  have hl := hdV_len s.data.toList
  unfold HdIs at P0
  obtain ⟨E, hE⟩ : ∃ E, hdE s.data.toList = E := ⟨_, rfl⟩
  obtain ⟨ps, hps⟩ : ∃ ps, hdV s.data.toList = ps := ⟨_, rfl⟩
  rw [hE, hps] at P0 ⊢
  rw [hps] at hl
  clear hE hps
  have P := Lib.hid P0
  have HL := Lib.hid hl
  have HV := Lib.hid hv
  clear P0 hl hv hm
  by_cases h : E = 0
  · subst h
    rw [show decide ((0 : Int) = 0 ∧ ps = qs) = decide (ps = qs) by simp]
    go_enter Tryd.func40, Tryd.ntmps40
    go_wp2_with fail
    refine (P.out).mono ?_
    rintro e w1 ⟨u, rfl, hu, hb1⟩
    have HU := Lib.hid hu
    clear hu
    go_wp2_with fail
    refine (r9_Same u v ps qs _ HU.out (HV.out.ret hb1) (by have := HL.out; omega)).mono ?_
    rintro e w2 ⟨rfl, hb2⟩
    have q2 := hb1.trans (hb2.mono hb1.size)
    clear hb1 hb2
    go_wp2_with fail
    go_ret
    exact ⟨ret_b (by first | rfl | simp), q2⟩
  · have g : (E == 0) = false := by rw [beq_eq_false_iff_ne]; exact h
    rw [show decide (E = 0 ∧ ps = qs) = false from decide_eq_false (fun k => h k.1)]
    clear h
    go_enter Tryd.func40, Tryd.ntmps40
    go_wp2_with fail
    refine (P.out).mono ?_
    rintro e w1 ⟨u, rfl, hu, hb1⟩
    clear hu
    go_wp2_with fail
    go_ret
    exact ⟨rfl, hb1⟩
theorem hd_pair (a b : ByteArray) (w : World) : Calls Tryd.prog 36 #[.string a, .string b] w (Ret w (.agg #[.string a, .string b])) := by
  go_enter Tryd.func36, Tryd.ntmps36
  go_wp2_with fail
  refine ⟨rfl, .agg #[.string a, .string b], ?_, rfl, (Below.refl _ w).alloc (Nat.le_refl _) _⟩
  simp (maxDischargeDepth := 9) [results, Tryd.results36, go_sem]
set_option maxHeartbeats 4000000 in
theorem hd_frames (k n : Int) (v : Value) (ps : List Pr) (w : World) (hv : IsPairs v ps w) (hl : ps.length ≤ 1000) (hz : ∀ p ∈ ps, p.1.length ≤ 1000000) (hz2 : ∀ p ∈ ps, p.2.length ≤ 1000000) :
    Calls Tryd.prog 37 #[.int .u8 k, .int .i64 n, v] w (Ret w (.bool (decide (frm ps = (k, n, 0))))) := by
  have F0 := hd_Frame v ps w hv hl hz hz2
  obtain ⟨⟨a, b, c⟩, hx⟩ : ∃ x, frm ps = x := ⟨_, rfl⟩
  rw [hx] at F0 ⊢
  clear hx
  have F := Lib.hid F0
  clear F0
  obtain ⟨r, hr⟩ : ∃ r, decide ((a, b, c) = (k, n, (0 : Int))) = r := ⟨_, rfl⟩
  have HR := Lib.hid hr
  rw [hr]
  clear hr
  by_cases h : c = 0
  · subst h
    by_cases h2 : a = k
    · subst h2
      go_enter Tryd.func37, Tryd.ntmps37
      go_wp2_with fail
      refine (F.out).mono ?_
      rintro e w1 ⟨rfl, hb1⟩
      unfold frmT
      go_wp2_with fail
      go_ret
      exact ⟨ret_b (by rw [← HR.out]; simp; rfl), hb1⟩
    · have g : (a == k) = false := by rw [beq_eq_false_iff_ne]; exact h2
      rw [show r = false by rw [← HR.out]; exact decide_eq_false (fun e => h2 (by cases e; rfl))]
      clear HR h2
      go_enter Tryd.func37, Tryd.ntmps37
      go_wp2_with fail
      refine (F.out).mono ?_
      rintro e w1 ⟨rfl, hb1⟩
      unfold frmT
      go_wp2_with fail
      go_ret
      exact ⟨rfl, hb1⟩
  · have g : (c == 0) = false := by rw [beq_eq_false_iff_ne]; exact h
    rw [show r = false by rw [← HR.out]; exact decide_eq_false (fun e => h (by cases e; rfl))]
    clear HR h
    go_enter Tryd.func37, Tryd.ntmps37
    go_wp2_with fail
    refine (F.out).mono ?_
    rintro e w1 ⟨rfl, hb1⟩
    unfold frmT
    go_wp2_with fail
    go_ret
    exact ⟨rfl, hb1⟩
theorem new_row4 (w : World) (a b c d : Value) : IsRow 2 (.slice (some ⟨w.heap.size, 0, none⟩) 2 2) 2 [a, b, c, d] (w.alloc (.cells #[a, b, c, d] 52)) := by
  refine ⟨rfl, some ⟨w.heap.size, 0, none⟩, 2, rfl, (fun h => by cases h), .inr ⟨w.heap.size, 0, rfl, by simp, fun j hj => ?_⟩⟩
  rw [Nat.zero_add, World.cell?_alloc_new]
  match j, hj with
  | 0, _ => rfl
  | 1, _ => rfl
  | 2, _ => rfl
  | 3, _ => rfl
def alA : List Pr := [([104, 111, 115, 116], [97, 46, 101, 120, 97, 109, 112, 108, 101]), ([99, 111, 110, 116, 101, 110, 116, 45, 108, 101, 110, 103, 116, 104], [53])]
def alB : List Pr := [([67, 111, 110, 116, 101, 110, 116, 45, 76, 101, 110, 103, 116, 104], [53])]
theorem al_ok : decide (hdE [72, 111, 115, 116, 58, 32, 97, 46, 101, 120, 97, 109, 112, 108, 101, 13, 10, 67, 111, 110, 116, 101, 110, 116, 45, 76, 69, 78, 71, 84, 72, 58, 53, 13, 10] = 0 ∧ hdV [72, 111, 115, 116, 58, 32, 97, 46, 101, 120, 97, 109, 112, 108, 101, 13, 10, 67, 111, 110, 116, 101, 110, 116, 45, 76, 69, 78, 71, 84, 72, 58, 53, 13, 10] = alA) = true := by decide +kernel
theorem al_fr : decide (frm alB = (1, 5, 0)) = true := by decide +kernel
set_option maxHeartbeats 4000000 in
theorem alive14 (w : World) (hm : ML w) : Calls Tryd.prog 28 #[] w (Ret w (.bool true)) := by
  have PH := Lib.hid hd_pair
  have HM := Lib.hid hm
  clear hm
  go_enter Tryd.func28, Tryd.ntmps28
  go_wp2_with fail
  refine (PH.out _ _ _).mono ?_
  rintro e w1 ⟨rfl, hb1⟩
  go_wp2_with fail
  refine (PH.out _ _ _).mono ?_
  rintro e w2 ⟨rfl, hb2⟩
  have q2 := hb1.trans (hb2.mono hb1.size)
  clear hb1 hb2
  go_wp2_with fail
  have z2 := q2.size
  have h3 : IsPairs (.slice (some ⟨w2.heap.size, 0, none⟩) 2 2) alA _ := new_row4 w2 _ _ _ _
  have q3 := q2.alloc q2.size (.cells #[.string ⟨#[104, 111, 115, 116]⟩, .string ⟨#[97, 46, 101, 120, 97, 109, 112, 108, 101]⟩, .string ⟨#[99, 111, 110, 116, 101, 110, 116, 45, 108, 101, 110, 103, 116, 104]⟩, .string ⟨#[53]⟩] 52)
  have A := hd_are ⟨#[72, 111, 115, 116, 58, 32, 97, 46, 101, 120, 97, 109, 112, 108, 101, 13, 10, 67, 111, 110, 116, 101, 110, 116, 45, 76, 69, 78, 71, 84, 72, 58, 53, 13, 10]⟩ _ alA _ (by decide) h3 (HM.out.ret q3)
  rw [show decide (hdE (⟨#[72, 111, 115, 116, 58, 32, 97, 46, 101, 120, 97, 109, 112, 108, 101, 13, 10, 67, 111, 110, 116, 101, 110, 116, 45, 76, 69, 78, 71, 84, 72, 58, 53, 13, 10]⟩ : ByteArray).data.toList = 0 ∧ hdV (⟨#[72, 111, 115, 116, 58, 32, 97, 46, 101, 120, 97, 109, 112, 108, 101, 13, 10, 67, 111, 110, 116, 101, 110, 116, 45, 76, 69, 78, 71, 84, 72, 58, 53, 13, 10]⟩ : ByteArray).data.toList = alA) = true from al_ok] at A
  refine A.mono ?_
  rintro e w3 ⟨rfl, hb3⟩
  have q4 := q3.trans (hb3.mono q3.size)
  clear hb3 A h3
  go_wp2_with fail
  refine (PH.out _ _ _).mono ?_
  rintro e w5 ⟨rfl, hb5⟩
  have q5 := q4.trans (hb5.mono q4.size)
  clear hb5
  go_wp2_with fail
  have h6 : IsPairs (.slice (some ⟨w5.heap.size, 0, none⟩) 1 1) alB _ := new_row2 w5 _ _
  have q6 := q5.alloc q5.size (.cells #[.string ⟨#[67, 111, 110, 116, 101, 110, 116, 45, 76, 101, 110, 103, 116, 104]⟩, .string ⟨#[53]⟩] 52)
  have F := hd_frames 1 5 _ alB _ h6 (by decide) (by decide) (by decide)
  rw [al_fr] at F
  refine F.mono ?_
  rintro e w7 ⟨rfl, hb7⟩
  have q7 := q6.trans (hb7.mono q6.size)
  clear hb7 F h6
  go_wp2_with fail
  go_ret
  exact ⟨rfl, q7⟩
end Go.Proofs.YtnfgpcccmbblcaaDoor
