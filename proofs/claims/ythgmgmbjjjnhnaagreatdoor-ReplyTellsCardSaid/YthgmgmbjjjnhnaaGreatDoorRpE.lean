/- reply.guess. PRINTED BY PROGRAM (gen_rpe.py). -/
import Derived.Test.YthgmgmbjjjnhnaaGreatDoorRpD
import Derived.Test.YthgmgmbjjjnhnaaGreatDoorGf
namespace Go.Proofs.YthgmgmbjjjnhnaaGreatDoor
open Go.RowKit

def gsV : Option (Int × List UInt8 × Bool) → Value
  | none => .tuple #[.agg #[.int .i64 0, .string ⟨#[]⟩, .bool false], .bool false]
  | some (c, b, k) => .tuple #[.agg #[.int .i64 c, .string ⟨b.toArray⟩, .bool k], .bool true]
theorem hdV_le32 (l : List UInt8) : (hdV l).length ≤ 32 := by
  by_cases h : hdE l = 0
  · obtain ⟨_, ps, _, h1, h2⟩ := hdE_ok h
    rw [h2]
    exact h1
  · rw [hdE_bad h]
    decide
theorem cut4 (s : ByteArray) (w : World) (hs : s.size ≤ 1000000) (hm : ML w) : Calls Tryz.prog 58 #[.string s, .string ⟨#[13, 10, 13, 10]⟩] w (Ret w (.tuple #[.string ⟨(Lib.cut s.data.toList sep4).1.toArray⟩, .string ⟨(Lib.cut s.data.toList sep4).2.1.toArray⟩, .bool (Lib.cut s.data.toList sep4).2.2])) := by
  obtain ⟨_, m, hm⟩ := hm
  refine (Tryz.strings_Cut s ⟨#[13, 10, 13, 10]⟩ m w (by omega) hm).mono ?_
  rintro e w' ⟨rfl, n, rfl⟩
  exact ⟨rfl, below_drewN _ _⟩
theorem cut4_le (l : List UInt8) : (Lib.cut l sep4).1.length ≤ l.length ∧ (Lib.cut l sep4).2.1.length ≤ l.length := by
  unfold Lib.cut
  split
  · exact ⟨by simp only [List.length_take]; omega, by simp only [List.length_drop]; omega⟩
  · exact ⟨Nat.le_refl _, by simp⟩
theorem rpG_def (s : List UInt8) : rpG s = match codes.find? (isCode (cutX (Lib.cut s sep4).1)) with
    | none => none
    | some c =>
      if (Lib.cut s sep4).2.2 = true ∧ hdE (lnR (Lib.cut s sep4).1 ++ [13, 10]) = 0 ∧ (oneX (fndV (hdV (lnR (Lib.cut s sep4).1 ++ [13, 10])) clL)).2.1 = true ∧ (kep (hdV (lnR (Lib.cut s sep4).1 ++ [13, 10]))).2 = 0 ∧ rdE (oneX (fndV (hdV (lnR (Lib.cut s sep4).1 ++ [13, 10])) clL)).1 = 0 ∧ rdN (oneX (fndV (hdV (lnR (Lib.cut s sep4).1 ++ [13, 10])) clL)).1 ≤ ((Lib.cut s sep4).2.1.length : Int)
      then some (c, (Lib.cut s sep4).2.1.take (rdN (oneX (fndV (hdV (lnR (Lib.cut s sep4).1 ++ [13, 10])) clL)).1).toNat, (kep (hdV (lnR (Lib.cut s sep4).1 ++ [13, 10]))).1) else none := rfl
set_option maxHeartbeats 16000000 in
set_option maxRecDepth 100000 in
theorem rp_guess (s : ByteArray) (w : World) (ht : Tab w) (hm : ML w) (hs : s.size ≤ 100000) : Calls Tryz.prog 31 #[.string s] w (Ret w (gsV (rpG s.data.toList))) := by
  have q0 := (Below.refl w.heap.size w).alloc (Nat.le_refl _) (.cells #[.int .i64 0, .string ⟨#[]⟩, .bool false] 23)
  have A0 := Lib.hid (RpAt.new w (.int .i64 0) (.string ⟨#[]⟩) (.bool false))
  have HT := Lib.hid ht
  have HM := Lib.hid hm
  have C40 := fun w hm => cut4 s w (by omega) hm
  have hdef := rpG_def s.data.toList
  obtain ⟨z1, z2⟩ := cut4_le s.data.toList
  rw [size_toList] at z1 z2
  obtain ⟨⟨ln, rs, is⟩, hx⟩ : ∃ x, Lib.cut s.data.toList sep4 = x := ⟨_, rfl⟩
  rw [hx] at C40 hdef z1 z2
  simp only at C40 hdef z1 z2
  obtain ⟨L, hL⟩ : ∃ X : ByteArray, ⟨ln.toArray⟩ = X := ⟨_, rfl⟩
  obtain ⟨R, hR⟩ : ∃ X : ByteArray, ⟨rs.toArray⟩ = X := ⟨_, rfl⟩
  have hLl : L.data.toList = ln := by rw [← hL]
  have hRl : R.data.toList = rs := by rw [← hR]
  have zL : L.size ≤ 100000 := by rw [← size_toList, hLl]; omega
  have zR : R.size ≤ 100000 := by rw [← size_toList, hRl]; omega
  rw [hL, hR] at C40
  have C20 := fun w hm => hd_Cut L w (by omega) hm
  rw [hLl] at C20
  have zX := cutX_le ln
  have zO : (lnR ln).length ≤ ln.length := by
    by_cases h0 : ln = []
    · rw [h0]; decide
    · exact Nat.le_of_lt (lnR_lt h0)
  obtain ⟨F, hF⟩ : ∃ X : ByteArray, ⟨(cutX ln).toArray⟩ = X := ⟨_, rfl⟩
  obtain ⟨OT, hOT⟩ : ∃ X : ByteArray, ⟨(lnR ln).toArray⟩ = X := ⟨_, rfl⟩
  obtain ⟨lb, hlb⟩ : ∃ x, lnB ln = x := ⟨_, rfl⟩
  have hFl : F.data.toList = cutX ln := by rw [← hF]
  have hOl : OT.data.toList = lnR ln := by rw [← hOT]
  have zF : F.size ≤ 100000 := by rw [← size_toList, hFl]; omega
  have zOT : OT.size ≤ 100000 := by rw [← size_toList, hOl]; omega
  rw [hF, hOT, hlb] at C20
  have hP : (OT ++ ⟨#[13, 10]⟩ : ByteArray).data.toList = lnR ln ++ [13, 10] := by rw [app_data, hOl]
  have zP : (OT ++ ⟨#[13, 10]⟩ : ByteArray).size ≤ 1000000 := by
    rw [← size_toList, app_data, List.length_append, size_toList]
    simp only [List.length_cons, List.length_nil]
    omega
  have P0 := fun w hm => hd_Parse (OT ++ ⟨#[13, 10]⟩) w zP hm
  unfold HdIs at P0
  rw [hP] at P0
  have hvl := hdV_le32 (lnR ln ++ [13, 10])
  have hvz : hdE (lnR ln ++ [13, 10]) = 0 → ∀ p ∈ hdV (lnR ln ++ [13, 10]), p.1.length ≤ (lnR ln ++ [13, 10]).length + 32 ∧ p.2.length ≤ (lnR ln ++ [13, 10]).length + 32 := fun h => rd_size h
  rw [← hFl] at hdef
  have zo : (lnR ln ++ [13, 10]).length ≤ 100002 := by rw [List.length_append, ← hOl, size_toList]; simp only [List.length_cons, List.length_nil]; omega
  obtain ⟨o, ho⟩ : ∃ x, lnR ln ++ [13, 10] = x := ⟨_, rfl⟩
  rw [ho] at P0 hvl hvz hdef zo
  obtain ⟨E, hE⟩ : ∃ x, hdE o = x := ⟨_, rfl⟩
  obtain ⟨ps, hps⟩ : ∃ x, hdV o = x := ⟨_, rfl⟩
  rw [hE, hps] at P0 hdef hvz
  rw [hps] at hvl
  rw [← hRl, size_toList] at hdef
  obtain ⟨O, hO⟩ : ∃ O, rpG s.data.toList = O := ⟨_, rfl⟩
  rw [hO] at hdef ⊢
  have HDEF := Lib.hid hdef
  have HVZ := Lib.hid hvz
  have HVL := Lib.hid hvl
  have C4 := Lib.hid C40
  have C2 := Lib.hid C20
  have P := Lib.hid P0
  clear ht hm C40 C20 P0 hdef z1 z2 hx hL hR hLl hRl zX zO hF hOT hlb hFl hOl hP zP hvl hvz ho hE hps hO hs
  go_enter Tryz.func31, Tryz.ntmps31
  go_wp2_with fail
  refine (C4.out _ (HM.out.ret q0)).mono ?_
  rintro e w1 ⟨rfl, hb⟩
  have q1 := q0.trans (hb.mono q0.size)
  have A1 := Lib.hid (A0.out.ret hb)
  clear hb
  go_wp2_with fail
  refine (C2.out _ (HM.out.ret q1)).mono ?_
  rintro e w2 ⟨rfl, hb⟩
  have q2 := q1.trans (hb.mono q1.size)
  have A2 := Lib.hid (A1.out.ret hb)
  clear hb A0 A1 C4 C2
  go_wp2_with fail
  refine (rp_statuses _).mono ?_
  rintro e w3 ⟨rfl, rfl⟩
  have al : Below w2.heap.size w2 ((w2.alloc (.cells #[.string F] 9)).alloc (.cells cdV 3)) := ((Below.refl _ w2).alloc (Nat.le_refl _) _).alloc (by simp) _
  have q3 := q2.trans (al.mono q2.size)
  have A3 := Lib.hid (A2.out.ret al)
  have cG : ((w2.alloc (.cells #[.string F] 9)).alloc (.cells cdV 3)).cell? ⟨w2.heap.size, 0, none⟩ = some (.string F) := by simp
  have cB : ∀ j (h : j < codes.length), ((w2.alloc (.cells #[.string F] 9)).alloc (.cells cdV 3)).cell? ⟨w2.heap.size + 1, j, none⟩ = some (.int .i64 codes[j]) := by
    intro j h
    have e : w2.heap.size + 1 = (w2.alloc (.cells #[.string F] 9)).heap.size := by simp
    rw [e, World.cell?_alloc_new]
    match j, h with
    | 0, _ => rfl
    | 1, _ => rfl
    | 2, _ => rfl
    | 3, _ => rfl
    | 4, _ => rfl
    | 5, _ => rfl
    | 6, _ => rfl
  have IX := Lib.hid (idx_cd (w2.heap.size + 1) w2.heap.size F _ (HT.out.ret q3) cG (by simp; omega) (by omega) (by simp) cB)
  clear al A2 q2 cG cB
  go_wp2_with fail
  refine (IX.out).mono ?_
  rintro e w4 ⟨m, rfl, hix, hb⟩
  have q4 := q3.trans (hb.mono q3.size)
  have A4 := Lib.hid (A3.out.ret hb)
  have HIX := Lib.hid hix
  clear hb A3 IX q3 hix
  go_wp2_with fail
  refine (P.out _ (HM.out.ret q4)).mono ?_
  rintro e w5 ⟨u, rfl, hu, hb⟩
  have q5 := q4.trans (hb.mono q4.size)
  have A5 := Lib.hid (A4.out.ret hb)
  have HU := Lib.hid hu
  clear hb A4 P q4 hu
  by_cases his : is = false
  · subst his
    have hO2 : O = none := by
      rw [HDEF.out]
      split
      · rfl
      · rw [if_neg (by rintro ⟨h, _⟩; cases h)]
    clear HDEF HIX
    obtain ⟨y0, y1, y2, y3, y4, y5, y6⟩ := A5.out
    go_wp2_with fail
    refine bodyPost_ret (v := gsV none) (by simp (maxDischargeDepth := 9) [results, Tryz.results31, go_sem, gsV, *]) rfl ⟨by rw [hO2], ?_⟩
    repeat (first | with_reducible exact q5 | with_reducible refine Below.drew ?_ | with_reducible refine Below.setCell ?_ (by simp) _)
  have hist : is = true := by simpa using his
  subst hist
  clear his
  rcases HIX.out with ⟨rfl, hf⟩ | ⟨i, c, rfl, hi7, hci, hf⟩
  · have hO2 : O = none := by rw [HDEF.out, hf]
    clear HDEF HIX hf
    obtain ⟨y0, y1, y2, y3, y4, y5, y6⟩ := A5.out
    go_wp2_with fail
    refine bodyPost_ret (v := gsV none) (by simp (maxDischargeDepth := 9) [results, Tryz.results31, go_sem, gsV, *]) rfl ⟨by rw [hO2], ?_⟩
    repeat (first | with_reducible exact q5 | with_reducible refine Below.drew ?_ | with_reducible refine Below.setCell ?_ (by simp) _)
  have hd2 := HDEF.out
  rw [hf] at hd2
  simp only at hd2
  have HD2 := Lib.hid hd2
  have HCI := Lib.hid hci
  have gi : decide ((i : Int) < 0) = false := decide_eq_false (by omega)
  have gi2 : ¬ (i : Int) < 0 := by omega
  clear hd2 HDEF hf HIX hci
  by_cases hE0 : E = 0
  rotate_left
  · have hO2 : O = none := by rw [HD2.out, if_neg (by rintro ⟨_, h, _⟩; exact hE0 h)]
    have g1 : (E == 0) = false := by rw [beq_eq_false_iff_ne]; exact hE0
    have g2 : (E != 0) = true := by rw [bne_iff_ne]; exact hE0
    clear HD2 hE0
    obtain ⟨y0, y1, y2, y3, y4, y5, y6⟩ := A5.out
    go_wp2_with fail
    refine bodyPost_ret (v := gsV none) (by simp (maxDischargeDepth := 9) [results, Tryz.results31, go_sem, gsV, *]) rfl ⟨by rw [hO2], ?_⟩
    repeat (first | with_reducible exact q5 | with_reducible refine Below.drew ?_ | with_reducible refine Below.setCell ?_ (by simp) _)
  subst hE0
  have hz1 : ∀ p ∈ ps, p.1.length ≤ 1000000 := fun p hp => by have := HVZ.out rfl p hp; omega
  have hz2 : ∀ p ∈ ps, p.2.length ≤ 1000000 := fun p hp => by have := HVZ.out rfl p hp; omega
  have N0 := fun u w (h : IsPairs u ps w) => hd_One u ps ⟨#[99, 111, 110, 116, 101, 110, 116, 45, 108, 101, 110, 103, 116, 104]⟩ w h (by have := HVL.out; omega) hz1 (by decide)
  unfold OneIs at N0
  change ∀ u w, IsPairs u ps w → Calls Tryz.prog 63 _ w (Ret w (.tuple #[.string ⟨(oneX (fndV ps clL)).1.toArray⟩, .bool (oneX (fndV ps clL)).2.1, .int .i64 (oneX (fndV ps clL)).2.2])) at N0
  have K0 := fun u w (h : IsPairs u ps w) => hd_Keep u ps w h (by have := HVL.out; omega) hz1 hz2
  unfold kepT at K0
  have kT := oneX_kinds (fndV ps clL)
  have hLg : (oneX (fndV ps clL)).1.length ≤ 1000000 := by
    rcases kT with h | ⟨X, hx, h⟩ | h
    · rw [h]; simp
    · rw [h]
      obtain ⟨p, hp, e⟩ := fndV_mem hx
      rw [← e]
      exact hz2 p hp
    · rw [h]; simp
  have hd3 := HD2.out
  obtain ⟨⟨lg, told, e1⟩, hone⟩ : ∃ x, oneX (fndV ps clL) = x := ⟨_, rfl⟩
  obtain ⟨⟨kb, ke⟩, hkep⟩ : ∃ x, kep ps = x := ⟨_, rfl⟩
  rw [hone] at N0 hd3 hLg
  rw [hkep] at K0 hd3
  simp only at N0 K0 hd3 hLg
  obtain ⟨LG, hLG⟩ : ∃ X : ByteArray, ⟨lg.toArray⟩ = X := ⟨_, rfl⟩
  have hLGl : LG.data.toList = lg := by rw [← hLG]
  rw [hLG] at N0
  have R0 := fun w => num_Read LG w (by rw [← size_toList, hLGl]; omega)
  rw [hLGl] at R0
  have hn0 := rdN_nat lg
  obtain ⟨n, hn⟩ : ∃ x, rdN lg = x := ⟨_, rfl⟩
  obtain ⟨f, hf⟩ : ∃ x, rdE lg = x := ⟨_, rfl⟩
  rw [hn, hf] at R0 hd3
  rw [hn] at hn0
  have N1 := Lib.hid N0
  have K1 := Lib.hid K0
  have R1 := Lib.hid R0
  have HD3 := Lib.hid hd3
  clear N0 K0 R0 hd3 kT hone hkep hLG hLGl hn hf hz1 hz2 hLg HD2 HVZ HVL
  go_wp2_with fail
  refine (N1.out u _ HU.out).mono ?_
  rintro e w6 ⟨rfl, hb⟩
  have q6 := q5.trans (hb.mono q5.size)
  have A6 := Lib.hid (A5.out.ret hb)
  have HU6 := Lib.hid (HU.out.ret hb)
  clear hb A5 HU q5
  go_wp2_with fail
  refine (K1.out u _ HU6.out).mono ?_
  rintro e w7 ⟨rfl, hb⟩
  have q7 := q6.trans (hb.mono q6.size)
  have A7 := Lib.hid (A6.out.ret hb)
  clear hb A6 HU6 q6
  go_wp2_with fail
  refine (R1.out _).mono ?_
  rintro e w8 ⟨rfl, hb⟩
  have q8 := q7.trans (hb.mono q7.size)
  have A8 := Lib.hid (A7.out.ret hb)
  clear hb A7 q7 N1 K1 R1
  cases told with
  | false =>
    have hO2 : O = none := by rw [HD3.out, if_neg (by rintro ⟨_, _, h, _⟩; cases h)]
    clear HD3
    obtain ⟨y0, y1, y2, y3, y4, y5, y6⟩ := A8.out
    go_wp2_with fail
    refine bodyPost_ret (v := gsV none) (by simp (maxDischargeDepth := 9) [results, Tryz.results31, go_sem, gsV, *]) rfl ⟨by rw [hO2], ?_⟩
    repeat (first | with_reducible exact q8 | with_reducible refine Below.drew ?_ | with_reducible refine Below.setCell ?_ (by simp) _)
  | true =>
    by_cases hke : ke = 0
    rotate_left
    · have hO2 : O = none := by rw [HD3.out, if_neg (by rintro ⟨_, _, _, h, _⟩; exact hke h)]
      have g1 : (ke == 0) = false := by rw [beq_eq_false_iff_ne]; exact hke
      have g2 : (ke != 0) = true := by rw [bne_iff_ne]; exact hke
      clear HD3 hke
      obtain ⟨y0, y1, y2, y3, y4, y5, y6⟩ := A8.out
      go_wp2_with fail
      refine bodyPost_ret (v := gsV none) (by simp (maxDischargeDepth := 9) [results, Tryz.results31, go_sem, gsV, *]) rfl ⟨by rw [hO2], ?_⟩
      repeat (first | with_reducible exact q8 | with_reducible refine Below.drew ?_ | with_reducible refine Below.setCell ?_ (by simp) _)
    subst hke
    by_cases hf0 : f = 0
    rotate_left
    · have hO2 : O = none := by rw [HD3.out, if_neg (by rintro ⟨_, _, _, _, h, _⟩; exact hf0 h)]
      have g1 : (f == 0) = false := by rw [beq_eq_false_iff_ne]; exact hf0
      have g2 : (f != 0) = true := by rw [bne_iff_ne]; exact hf0
      clear HD3 hf0
      obtain ⟨y0, y1, y2, y3, y4, y5, y6⟩ := A8.out
      go_wp2_with fail
      refine bodyPost_ret (v := gsV none) (by simp (maxDischargeDepth := 9) [results, Tryz.results31, go_sem, gsV, *]) rfl ⟨by rw [hO2], ?_⟩
      repeat (first | with_reducible exact q8 | with_reducible refine Below.drew ?_ | with_reducible refine Below.setCell ?_ (by simp) _)
    subst hf0
    by_cases hnr : n ≤ (R.size : Int)
    rotate_left
    · have hO2 : O = none := by rw [HD3.out, if_neg (by rintro ⟨_, _, _, _, _, h⟩; exact hnr h)]
      have g1 : (R.size : Int) < n := by omega
      have g2 : decide ((R.size : Int) < n) = true := decide_eq_true g1
      clear HD3 hnr
      obtain ⟨y0, y1, y2, y3, y4, y5, y6⟩ := A8.out
      go_wp2_with fail
      refine bodyPost_ret (v := gsV none) (by simp (maxDischargeDepth := 9) [results, Tryz.results31, go_sem, gsV, *]) rfl ⟨by rw [hO2], ?_⟩
      repeat (first | with_reducible exact q8 | with_reducible refine Below.drew ?_ | with_reducible refine Below.setCell ?_ (by simp) _)
    obtain ⟨N, rfl⟩ := Int.eq_ofNat_of_zero_le hn0
    have hNR : N ≤ R.size := by omega
    have hO2 : O = some (c, (R.extract 0 N).data.toList, kb) := by
      rw [HD3.out, if_pos (by first | exact ⟨rfl, rfl, rfl, rfl, rfl, hnr⟩ | (simp; omega))]
      rw [ext_data]
      simp
    have g1 : ¬ (R.size : Int) < N := by omega
    have g2 : decide ((R.size : Int) < (N : Int)) = false := decide_eq_false g1
    have g3 : (N : Int) ≤ R.size := by omega
    have g4 : (0 : Int) ≤ (N : Int) := by omega
    have g5 : (i : Int) < 7 := by omega
    have g6 : (0 : Int) ≤ (i : Int) := by omega
    have hcell : (w8.alloc (.cells cdV 3)).cell? ⟨w8.heap.size, i, none⟩ = some (.int .i64 c) := by
      rw [World.cell?_alloc_new]
      have h := HCI.out
      match i, hi7, h with
      | 0, _, h => injection h with h; rw [← h]; rfl
      | 1, _, h => injection h with h; rw [← h]; rfl
      | 2, _, h => injection h with h; rw [← h]; rfl
      | 3, _, h => injection h with h; rw [← h]; rfl
      | 4, _, h => injection h with h; rw [← h]; rfl
      | 5, _, h => injection h with h; rw [← h]; rfl
      | 6, _, h => injection h with h; rw [← h]; rfl
    obtain ⟨y0, y1, y2, y3, y4, y5, y6⟩ := A8.out
    clear HD3 hnr HCI
    go_wp2_with fail
    refine wp_region_held_drew (S := fun _ => True) (by kernel_rfl) trivial (fun hHeld => ?_)
    refine tk_on (i := 1) (some 84) (v := ?_) (by kernel_rfl) (by kernel_rfl) (by kernel_rfl) (by kernel_rfl) (fun _ _ _ h => h) (by assumption) (fun o ho w' hSw => ?_) ?_
    rotate_left
    · (simp only [List.getElem?_toArray, List.getElem?_cons_succ, List.getElem?_cons_zero, Option.some.injEq] at ho; subst ho; (try dsimp only at hSw); go_simp; try with_reducible rfl)
    simp only [Act.put, List.setIfInBounds_toArray, List.set_cons_zero, List.set_cons_succ]
    refine tk_on (i := 4) (some 87) (v := ?_) (by kernel_rfl) (by kernel_rfl) (by kernel_rfl) (by kernel_rfl) (fun _ _ _ h => h) (by assumption) (fun o ho w' hSw => ?_) ?_
    rotate_left
    · (simp only [List.getElem?_toArray, List.getElem?_cons_succ, List.getElem?_cons_zero, Option.some.injEq] at ho; subst ho; (try dsimp only at hSw); go_simp; try with_reducible rfl)
    simp only [Act.put, List.setIfInBounds_toArray, List.set_cons_zero, List.set_cons_succ]
    refine tk_on (i := 5) (some 88) (v := ?_) (by kernel_rfl) (by kernel_rfl) (by kernel_rfl) (by kernel_rfl) (fun _ _ _ h => h) (by assumption) (fun o ho w' hSw => ?_) ?_
    rotate_left
    · (simp only [List.getElem?_toArray, List.getElem?_cons_succ, List.getElem?_cons_zero, Option.some.injEq] at ho; subst ho; (try dsimp only at hSw); go_simp; try with_reducible rfl)
    simp only [Act.put, List.setIfInBounds_toArray, List.set_cons_zero, List.set_cons_succ]
    refine tk_on (i := 6) (some 89) (v := ?_) (by kernel_rfl) (by kernel_rfl) (by kernel_rfl) (by kernel_rfl) (fun _ _ _ h => h) (by assumption) (fun o ho w' hSw => ?_) ?_
    rotate_left
    · (simp only [List.getElem?_toArray, List.getElem?_cons_succ, List.getElem?_cons_zero, Option.some.injEq] at ho; subst ho; (try dsimp only at hSw); go_simp; try with_reducible rfl)
    simp only [Act.put, List.setIfInBounds_toArray, List.set_cons_zero, List.set_cons_succ]
    refine tk_on (i := 7) (some 90) (v := ?_) (by kernel_rfl) (by kernel_rfl) (by kernel_rfl) (by kernel_rfl) (fun _ _ _ h => h) (by assumption) (fun o ho w' hSw => ?_) ?_
    rotate_left
    · (simp only [List.getElem?_toArray, List.getElem?_cons_succ, List.getElem?_cons_zero, Option.some.injEq] at ho; subst ho; (try dsimp only at hSw); go_simp; try with_reducible rfl)
    simp only [Act.put, List.setIfInBounds_toArray, List.set_cons_zero, List.set_cons_succ]
    refine tk_call (i := 0) (by kernel_rfl) (by kernel_rfl) (fun o ho K hK => ?_)
    simp only [List.getElem?_toArray, List.getElem?_cons_zero, Option.some.injEq] at ho
    subst ho
    clear hHeld
    go_simp
    refine (rp_statuses _).mono ?_
    rintro e w9 ⟨rfl, rfl⟩
    go_simp
    refine hK.out _ _ trivial (fun hHeld => ?_)
    clear hK K
    refine tk_on (i := 2) (some 85) (v := ?_) (by kernel_rfl) (by kernel_rfl) (by kernel_rfl) (by kernel_rfl) (fun _ _ _ h => h) (by assumption) (fun o ho w' hSw => ?_) ?_
    rotate_left
    · (simp only [List.getElem?_toArray, List.getElem?_cons_succ, List.getElem?_cons_zero, Option.some.injEq] at ho; subst ho; (try dsimp only at hSw); go_simp; try with_reducible rfl)
    simp only [Act.put, List.setIfInBounds_toArray, List.set_cons_zero, List.set_cons_succ]
    refine tk_call (i := 3) (by kernel_rfl) (by kernel_rfl) (fun o ho K hK => ?_)
    simp only [List.getElem?_toArray, List.getElem?_cons_succ, List.getElem?_cons_zero, Option.some.injEq] at ho
    subst ho
    clear hHeld
    go_simp
    refine hK.out _ _ trivial (fun hHeld => ?_)
    clear hK K
    refine tk_on (i := 8) (some 91) (v := ?_) (by kernel_rfl) (by kernel_rfl) (by kernel_rfl) (by kernel_rfl) (fun _ _ _ h => h) (by assumption) (fun o ho w' hSw => ?_) ?_
    rotate_left
    · (simp only [List.getElem?_toArray, List.getElem?_cons_succ, List.getElem?_cons_zero, Option.some.injEq] at ho; subst ho; (try dsimp only at hSw); go_simp; try with_reducible rfl)
    simp only [Act.put, List.setIfInBounds_toArray, List.set_cons_zero, List.set_cons_succ]
    refine tk_call (i := 9) (by kernel_rfl) (by kernel_rfl) (fun o ho K hK => ?_)
    simp only [List.getElem?_toArray, List.getElem?_cons_succ, List.getElem?_cons_zero, Option.some.injEq] at ho
    subst ho
    clear hHeld
    go_simp
    refine hK.out _ _ trivial (fun hHeld => ?_)
    clear hK K
    refine tk_on (i := 10) (some 3) (v := ?_) (by kernel_rfl) (by kernel_rfl) (by kernel_rfl) (by kernel_rfl) (fun _ _ _ h => h) (by assumption) (fun o ho w' hSw => ?_) ?_
    rotate_left
    · (simp only [List.getElem?_toArray, List.getElem?_cons_succ, List.getElem?_cons_zero, Option.some.injEq] at ho; subst ho; (try dsimp only at hSw); go_simp; try with_reducible rfl)
    simp only [Act.put, List.setIfInBounds_toArray, List.set_cons_zero, List.set_cons_succ]
    refine wpAnyH_done (by kernel_rfl) ?_ _
    go_wp2_with fail
    subst hO2
    refine bodyPost_ret (v := .tuple #[.agg #[.int .i64 c, .string (R.extract 0 N), .bool kb], .bool true]) (by simp (maxDischargeDepth := 9) [results, Tryz.results31, go_sem, *]) rfl ⟨rfl, ?_⟩
    repeat (first | with_reducible exact q8 | with_reducible refine Below.drew ?_ | with_reducible refine Below.setCell ?_ (by simp) _ | with_reducible refine Below.alloc ?_ (by simp; omega) _)
end Go.Proofs.YthgmgmbjjjnhnaaGreatDoor
