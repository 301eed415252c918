/- The document's Frame, Keep and Host. PRINTED BY PROGRAM (gen_hdyb.py). -/
import Derived.Test.YthgmgmbjjjnhnaaGreatDoorHdYa
import Derived.Test.YthgmgmbjjjnhnaaGreatDoorGg
import Derived.Test.YthgmgmbjjjnhnaaGreatDoorGd
namespace Go.Proofs.YthgmgmbjjjnhnaaGreatDoor
open Go.RowKit

set_option maxHeartbeats 16000000 in
theorem r14_Frame (v : Value) (ps : List Pr) (w : World) (hv : IsPairs v ps w) (hl : ps.length ≤ 1000) (hz : ∀ p ∈ ps, p.1.length ≤ 1000000) (hz2 : ∀ p ∈ ps, p.2.length ≤ 1000000) : Calls Tryz.prog 81 #[v] w (Ret w (.tuple #[.int .u8 (frm ps).1, .int .i64 (frm ps).2.1, .int .i64 (frm ps).2.2])) := by
  have TH0 := fun w (h : IsPairs v ps w) => r14_One v ps ⟨#[116, 114, 97, 110, 115, 102, 101, 114, 45, 101, 110, 99, 111, 100, 105, 110, 103]⟩ w h hl hz (by decide)
  have CH0 := fun w (h : IsPairs v ps w) => r14_One v ps ⟨#[99, 111, 110, 116, 101, 110, 116, 45, 108, 101, 110, 103, 116, 104]⟩ w h hl hz (by decide)
  have kT := oneX_kinds (fndV ps teL)
  have kC := oneX_kinds (fndV ps clL)
  have bT : ∀ x ∈ fndV ps teL, x.length ≤ 1000000 := fun x hx => by
    obtain ⟨p, hp, rfl⟩ := fndV_mem hx
    exact hz2 p hp
  have bC : ∀ x ∈ fndV ps clL, x.length ≤ 1000000 := fun x hx => by
    obtain ⟨p, hp, rfl⟩ := fndV_mem hx
    exact hz2 p hp
  unfold OneIs at TH0 CH0
  change ∀ w, IsPairs v ps w → Calls Tryz.prog 110 _ w (Ret w (.tuple #[.string ⟨(oneX (fndV ps teL)).1.toArray⟩, .bool (oneX (fndV ps teL)).2.1, .int .i64 (oneX (fndV ps teL)).2.2])) at TH0
  change ∀ w, IsPairs v ps w → Calls Tryz.prog 110 _ w (Ret w (.tuple #[.string ⟨(oneX (fndV ps clL)).1.toArray⟩, .bool (oneX (fndV ps clL)).2.1, .int .i64 (oneX (fndV ps clL)).2.2])) at CH0
  unfold frm
  obtain ⟨T, hT⟩ : ∃ T, oneX (fndV ps teL) = T := ⟨_, rfl⟩
  obtain ⟨C, hC⟩ : ∃ C, oneX (fndV ps clL) = C := ⟨_, rfl⟩
  rw [hT] at TH0 kT ⊢
  rw [hC] at CH0 kC ⊢
  have HV := Lib.hid hv
  clear hT hC hl hz hz2 hv
  rcases kT with rfl | ⟨X, hx, rfl⟩ | rfl
  · rcases kC with rfl | ⟨Y, hy, rfl⟩ | rfl
    · rw [show frmK ([], false, 0) ([], false, 0) = (0, 0, 0) from by simp [frmK]]
      have TH := Lib.hid TH0
      have CH := Lib.hid CH0
      clear TH0 CH0
      go_enter Tryz.func81, Tryz.ntmps81
      go_wp2_with fail
      refine (TH.out _ (HV.out)).mono ?_
      rintro e w1 ⟨rfl, hb1⟩
      go_wp2_with fail
      refine (CH.out _ (HV.out.ret hb1)).mono ?_
      rintro e w2 ⟨rfl, hb2⟩
      have q2 := hb1.trans (hb2.mono hb1.size)
      clear hb1 hb2
      go_wp2_with fail
      go_ret3
      exact ⟨rfl, q2⟩
    · have hfk : frmK ([], false, 0) (Y.data.toList, true, 0) = (if rdE Y.data.toList = 0 then (1, rdN Y.data.toList, 0) else (0, 0, 140)) := by simp [frmK]
      rw [hfk]
      have zY : Y.size ≤ 1000000 := by rw [← size_toList]; exact bC _ hy
      have R0 := fun w => ref06_Read Y w (by omega)
      obtain ⟨n, hn⟩ : ∃ n, rdN Y.data.toList = n := ⟨_, rfl⟩
      obtain ⟨E, hE⟩ : ∃ E, rdE Y.data.toList = E := ⟨_, rfl⟩
      rw [hn, hE] at R0 ⊢
      have RH := Lib.hid R0
      have TH := Lib.hid TH0
      have CH := Lib.hid CH0
      clear TH0 CH0
      clear R0 hn hE hfk hy bT bC zY
      by_cases hE0 : E = 0
      · subst hE0
        rw [if_pos rfl]
        go_enter Tryz.func81, Tryz.ntmps81
        go_wp2_with fail
        refine (TH.out _ (HV.out)).mono ?_
        rintro e w1 ⟨rfl, hb1⟩
        go_wp2_with fail
        refine (CH.out _ (HV.out.ret hb1)).mono ?_
        rintro e w2 ⟨rfl, hb2⟩
        have q2 := hb1.trans (hb2.mono hb1.size)
        clear hb1 hb2
        go_wp2_with fail
        refine (RH.out _).mono ?_
        rintro e w3 ⟨rfl, hb3⟩
        have q3 := q2.trans (hb3.mono q2.size)
        clear hb3
        go_wp2_with fail
        go_ret3
        exact ⟨rfl, q3⟩
      · rw [if_neg hE0]
        have g1 : (E == 0) = false := by rw [beq_eq_false_iff_ne]; exact hE0
        have g2 : (E != 0) = true := by rw [bne_iff_ne]; exact hE0
        clear hE0
        go_enter Tryz.func81, Tryz.ntmps81
        go_wp2_with fail
        refine (TH.out _ (HV.out)).mono ?_
        rintro e w1 ⟨rfl, hb1⟩
        go_wp2_with fail
        refine (CH.out _ (HV.out.ret hb1)).mono ?_
        rintro e w2 ⟨rfl, hb2⟩
        have q2 := hb1.trans (hb2.mono hb1.size)
        clear hb1 hb2
        go_wp2_with fail
        refine (RH.out _).mono ?_
        rintro e w3 ⟨rfl, hb3⟩
        have q3 := q2.trans (hb3.mono q2.size)
        clear hb3
        go_wp2_with fail
        go_ret3
        exact ⟨rfl, q3⟩
    · rw [show frmK ([], false, 0) ([], false, 140) = (0, 0, 140) from by simp [frmK]]
      have TH := Lib.hid TH0
      have CH := Lib.hid CH0
      clear TH0 CH0
      go_enter Tryz.func81, Tryz.ntmps81
      go_wp2_with fail
      refine (TH.out _ (HV.out)).mono ?_
      rintro e w1 ⟨rfl, hb1⟩
      go_wp2_with fail
      refine (CH.out _ (HV.out.ret hb1)).mono ?_
      rintro e w2 ⟨rfl, hb2⟩
      have q2 := hb1.trans (hb2.mono hb1.size)
      clear hb1 hb2
      go_wp2_with fail
      go_ret3
      exact ⟨rfl, q2⟩
  · rcases kC with rfl | ⟨Y, hy, rfl⟩ | rfl
    · have hfk : frmK (X.data.toList, true, 0) ([], false, 0) = (if lstE X.data.toList = 0 ∧ lstV X.data.toList = [chk] then (2, 0, 0) else (0, 0, 140)) := by simp [frmK]
      rw [hfk]
      have zX : X.size ≤ 1000000 := by rw [← size_toList]; exact bT _ hx
      have L0 := fun w => r7_List X w zX
      unfold LstIs at L0
      have hVl := lstV_le X.data.toList
      rw [size_toList] at hVl
      obtain ⟨E, hE⟩ : ∃ E, lstE X.data.toList = E := ⟨_, rfl⟩
      obtain ⟨xs, hxs⟩ : ∃ xs, lstV X.data.toList = xs := ⟨_, rfl⟩
      rw [hE, hxs] at L0 ⊢
      rw [hxs] at hVl
      have LH := Lib.hid L0
      have TH := Lib.hid TH0
      have CH := Lib.hid CH0
      clear TH0 CH0
      clear L0 hE hxs hfk hx bT bC
      by_cases hE0 : E = 0
      · subst hE0
        match xs, hVl, LH with
        | [], _, LH =>
          rw [if_neg (by rintro ⟨_, h⟩; cases h)]
          go_enter Tryz.func81, Tryz.ntmps81
          go_wp2_with fail
          refine (TH.out _ (HV.out)).mono ?_
          rintro e w1 ⟨rfl, hb1⟩
          go_wp2_with fail
          refine (CH.out _ (HV.out.ret hb1)).mono ?_
          rintro e w2 ⟨rfl, hb2⟩
          have q2 := hb1.trans (hb2.mono hb1.size)
          clear hb1 hb2
          go_wp2_with fail
          refine (LH.out _).mono ?_
          rintro e w3 ⟨u, rfl, hu, hb3⟩
          have q3 := q2.trans (hb3.mono q2.size)
          obtain ⟨ua, uc, rfl, _, _⟩ := hu
          clear hb3
          rw [show (strV []).length = 0 from rfl]
          go_wp2_with fail
          go_ret3
          exact ⟨rfl, q3⟩
        | x :: y :: r, hVl, LH =>
          rw [if_neg (by rintro ⟨_, h⟩; cases h)]
          obtain ⟨n, hn⟩ : ∃ n, r.length = n := ⟨_, rfl⟩
          have HN := Lib.hid hn
          have zn : n ≤ 1000000 := by simp only [List.length_cons] at hVl; omega
          have g1 : ((n : Int) + 1 + 1 == 1) = false := by rw [beq_eq_false_iff_ne]; omega
          clear hn hVl
          go_enter Tryz.func81, Tryz.ntmps81
          go_wp2_with fail
          refine (TH.out _ (HV.out)).mono ?_
          rintro e w1 ⟨rfl, hb1⟩
          go_wp2_with fail
          refine (CH.out _ (HV.out.ret hb1)).mono ?_
          rintro e w2 ⟨rfl, hb2⟩
          have q2 := hb1.trans (hb2.mono hb1.size)
          clear hb1 hb2
          go_wp2_with fail
          refine (LH.out _).mono ?_
          rintro e w3 ⟨u, rfl, hu, hb3⟩
          have q3 := q2.trans (hb3.mono q2.size)
          obtain ⟨ua, uc, rfl, _, _⟩ := hu
          clear hb3
          rw [show (strV (x :: y :: r)).length = n + 2 by rw [strV_len]; simp [HN.out]]
          have g1 : (((n + 2 : Nat) : Int) != 1) = true := by rw [bne_iff_ne]; omega
          go_wp2_with fail
          go_ret3
          exact ⟨rfl, q3⟩
        | [x], _, LH =>
          obtain ⟨Z, hZ⟩ : ∃ Z : ByteArray, ⟨x.toArray⟩ = Z := ⟨_, rfl⟩
          have hZl : Z.data.toList = x := by rw [← hZ]
          by_cases hc : x = chk
          · have hZ2 : Z = ⟨#[99, 104, 117, 110, 107, 101, 100]⟩ := by rw [← hZ, hc]; rfl
            subst hZ2
            rw [if_pos ⟨rfl, by rw [hc]⟩]
            clear hZl hc
            go_enter Tryz.func81, Tryz.ntmps81
            go_wp2_with fail
            refine (TH.out _ (HV.out)).mono ?_
            rintro e w1 ⟨rfl, hb1⟩
            go_wp2_with fail
            refine (CH.out _ (HV.out.ret hb1)).mono ?_
            rintro e w2 ⟨rfl, hb2⟩
            have q2 := hb1.trans (hb2.mono hb1.size)
            clear hb1 hb2
            go_wp2_with fail
            refine (LH.out _).mono ?_
            rintro e w3 ⟨u, rfl, hu, hb3⟩
            have q3 := q2.trans (hb3.mono q2.size)
            obtain ⟨b, off, cap, rfl, _, hcc⟩ := vals_cell' hu (k := 0) (by simp [strV])
            have c1 := hcc 0 (by simp [strV])
            rw [show (strV [x])[0]'(by simp [strV]) = .string ⟨#[99, 104, 117, 110, 107, 101, 100]⟩ from by rw [← hZ]; rfl, Nat.add_zero] at c1
            rw [show (strV [x]).length = 1 from rfl]
            clear hb3 hcc hu hZ
            go_wp2_with fail
            go_ret3
            exact ⟨rfl, q3⟩
          · have e1 : (Z.toList == [99, 104, 117, 110, 107, 101, 100]) = false := by
              rw [Lib.toList_data, hZl, beq_eq_false_iff_ne]
              exact hc
            rw [if_neg (by rintro ⟨_, h⟩; injection h with h; exact hc h)]
            clear hZl hc
            go_enter Tryz.func81, Tryz.ntmps81
            go_wp2_with fail
            refine (TH.out _ (HV.out)).mono ?_
            rintro e w1 ⟨rfl, hb1⟩
            go_wp2_with fail
            refine (CH.out _ (HV.out.ret hb1)).mono ?_
            rintro e w2 ⟨rfl, hb2⟩
            have q2 := hb1.trans (hb2.mono hb1.size)
            clear hb1 hb2
            go_wp2_with fail
            refine (LH.out _).mono ?_
            rintro e w3 ⟨u, rfl, hu, hb3⟩
            have q3 := q2.trans (hb3.mono q2.size)
            obtain ⟨b, off, cap, rfl, _, hcc⟩ := vals_cell' hu (k := 0) (by simp [strV])
            have c1 := hcc 0 (by simp [strV])
            rw [show (strV [x])[0]'(by simp [strV]) = .string Z from by rw [← hZ]; rfl, Nat.add_zero] at c1
            rw [show (strV [x]).length = 1 from rfl]
            clear hb3 hcc hu hZ
            go_wp2_with fail
            go_ret3
            exact ⟨rfl, q3⟩
      · rw [if_neg (by rintro ⟨h, _⟩; exact hE0 h)]
        have g1 : (E == 0) = false := by rw [beq_eq_false_iff_ne]; exact hE0
        have g2 : (E != 0) = true := by rw [bne_iff_ne]; exact hE0
        clear hE0 hVl
        go_enter Tryz.func81, Tryz.ntmps81
        go_wp2_with fail
        refine (TH.out _ (HV.out)).mono ?_
        rintro e w1 ⟨rfl, hb1⟩
        go_wp2_with fail
        refine (CH.out _ (HV.out.ret hb1)).mono ?_
        rintro e w2 ⟨rfl, hb2⟩
        have q2 := hb1.trans (hb2.mono hb1.size)
        clear hb1 hb2
        go_wp2_with fail
        refine (LH.out _).mono ?_
        rintro e w3 ⟨u, rfl, hu, hb3⟩
        have q3 := q2.trans (hb3.mono q2.size)
        clear hb3 hu
        go_wp2_with fail
        go_ret3
        exact ⟨rfl, q3⟩
    · rw [show frmK (X.data.toList, true, 0) (Y.data.toList, true, 0) = (0, 0, 140) from by simp [frmK]]
      have TH := Lib.hid TH0
      have CH := Lib.hid CH0
      clear TH0 CH0
      go_enter Tryz.func81, Tryz.ntmps81
      go_wp2_with fail
      refine (TH.out _ (HV.out)).mono ?_
      rintro e w1 ⟨rfl, hb1⟩
      go_wp2_with fail
      refine (CH.out _ (HV.out.ret hb1)).mono ?_
      rintro e w2 ⟨rfl, hb2⟩
      have q2 := hb1.trans (hb2.mono hb1.size)
      clear hb1 hb2
      go_wp2_with fail
      go_ret3
      exact ⟨rfl, q2⟩
    · rw [show frmK (X.data.toList, true, 0) ([], false, 140) = (0, 0, 140) from by simp [frmK]]
      have TH := Lib.hid TH0
      have CH := Lib.hid CH0
      clear TH0 CH0
      go_enter Tryz.func81, Tryz.ntmps81
      go_wp2_with fail
      refine (TH.out _ (HV.out)).mono ?_
      rintro e w1 ⟨rfl, hb1⟩
      go_wp2_with fail
      refine (CH.out _ (HV.out.ret hb1)).mono ?_
      rintro e w2 ⟨rfl, hb2⟩
      have q2 := hb1.trans (hb2.mono hb1.size)
      clear hb1 hb2
      go_wp2_with fail
      go_ret3
      exact ⟨rfl, q2⟩
  · rcases kC with rfl | ⟨Y, hy, rfl⟩ | rfl
    · rw [show frmK ([], false, 140) ([], false, 0) = (0, 0, 140) from by simp [frmK]]
      have TH := Lib.hid TH0
      have CH := Lib.hid CH0
      clear TH0 CH0
      go_enter Tryz.func81, Tryz.ntmps81
      go_wp2_with fail
      refine (TH.out _ (HV.out)).mono ?_
      rintro e w1 ⟨rfl, hb1⟩
      go_wp2_with fail
      refine (CH.out _ (HV.out.ret hb1)).mono ?_
      rintro e w2 ⟨rfl, hb2⟩
      have q2 := hb1.trans (hb2.mono hb1.size)
      clear hb1 hb2
      go_wp2_with fail
      go_ret3
      exact ⟨rfl, q2⟩
    · rw [show frmK ([], false, 140) (Y.data.toList, true, 0) = (0, 0, 140) from by simp [frmK]]
      have TH := Lib.hid TH0
      have CH := Lib.hid CH0
      clear TH0 CH0
      go_enter Tryz.func81, Tryz.ntmps81
      go_wp2_with fail
      refine (TH.out _ (HV.out)).mono ?_
      rintro e w1 ⟨rfl, hb1⟩
      go_wp2_with fail
      refine (CH.out _ (HV.out.ret hb1)).mono ?_
      rintro e w2 ⟨rfl, hb2⟩
      have q2 := hb1.trans (hb2.mono hb1.size)
      clear hb1 hb2
      go_wp2_with fail
      go_ret3
      exact ⟨rfl, q2⟩
    · rw [show frmK ([], false, 140) ([], false, 140) = (0, 0, 140) from by simp [frmK]]
      have TH := Lib.hid TH0
      have CH := Lib.hid CH0
      clear TH0 CH0
      go_enter Tryz.func81, Tryz.ntmps81
      go_wp2_with fail
      refine (TH.out _ (HV.out)).mono ?_
      rintro e w1 ⟨rfl, hb1⟩
      go_wp2_with fail
      refine (CH.out _ (HV.out.ret hb1)).mono ?_
      rintro e w2 ⟨rfl, hb2⟩
      have q2 := hb1.trans (hb2.mono hb1.size)
      clear hb1 hb2
      go_wp2_with fail
      go_ret3
      exact ⟨rfl, q2⟩
set_option maxHeartbeats 8000000 in
theorem r14_Keep (v : Value) (ps : List Pr) (w : World) (hv : IsPairs v ps w) (hl : ps.length ≤ 1000) (hz : ∀ p ∈ ps, p.1.length ≤ 1000000) (hz2 : ∀ p ∈ ps, p.2.length ≤ 1000000) : Calls Tryz.prog 79 #[v] w (Ret w (kepT (kep ps))) := by
  have F0 := r14_Find v ps ⟨#[99, 111, 110, 110, 101, 99, 116, 105, 111, 110]⟩ w hv hl hz (by decide)
  have bT : ∀ x ∈ fndV ps conL, x.length ≤ 1000000 := fun x hx => by
    obtain ⟨p, hp, rfl⟩ := fndV_mem hx
    exact hz2 p hp
  have hfl := fndV_len ps conL
  unfold FndIs at F0
  change Calls Tryz.prog 108 _ w (fun e w' => ∃ u, e = .returned u ∧ IsVals u (strV (fndV ps conL)) w' ∧ Below w.heap.size w w') at F0
  unfold kep
  obtain ⟨xs, hxs⟩ : ∃ xs, fndV ps conL = xs := ⟨_, rfl⟩
  rw [hxs] at F0 bT hfl ⊢
  obtain ⟨n, hn⟩ : ∃ n, xs.length = n := ⟨_, rfl⟩
  have zn : n ≤ 1000 := by omega
  have HN := Lib.hid hn
  have FH := Lib.hid F0
  have BT := Lib.hid bT
  obtain ⟨O, hO⟩ : ∃ O, kpF true xs = O := ⟨_, rfl⟩
  rw [hO]
  have HO := Lib.hid hO
  clear F0 bT hfl hxs hn hO hv hl hz hz2
  go_enter Tryz.func79, Tryz.ntmps79
  go_wp2_with fail
  refine (FH.out).mono ?_
  rintro e w1 ⟨u, rfl, hu, hb1⟩
  have hu' := hu
  obtain ⟨a, ca, rfl, _, _⟩ := hu'
  rw [strV_len, HN.out] at hu ⊢
  have HU := Lib.hid hu
  clear hu
  go_wp2_with fail
  go_loopw [5, 6] (fun x y wr => ∃ (k : Nat) (b : Bool), k ≤ n ∧ x = .bool b ∧ y = .int .i64 k ∧ kpF b (xs.drop k) = O ∧ IsVals (.slice a n ca) (strV xs) wr ∧ Below w.heap.size w wr) (fun _ y _ => n - (intOf y).toNat)
  case atStart => exact ⟨0, true, Nat.zero_le _, rfl, rfl, HO.out, HU.out, hb1⟩
  case round =>
    obtain ⟨k, b, hk, rfl, rfl, hkp, hV, hB⟩ := hrel
    have HV := Lib.hid hV
    by_cases hlt : k < n
    · have hx : k < xs.length := by have := HN.out; omega
      obtain ⟨b1, o1, cap1, hs1, _, hc⟩ := vals_cell' HV.out (k := k) (by rw [strV_len]; exact hx)
      have ha1 : a = some ⟨b1, o1, none⟩ := by injection hs1
      subst ha1
      have c1 := hc k (by rw [strV_len]; exact hx)
      have hzk := BT.out xs[k] (List.getElem_mem hx)
      rw [List.drop_eq_getElem_cons hx] at hkp
      obtain ⟨X, hX⟩ : ∃ X : ByteArray, ⟨xs[k].toArray⟩ = X := ⟨_, rfl⟩
      have hXl : X.data.toList = xs[k] := by rw [← hX]
      have e1 : (strV xs)[k]'(by rw [strV_len]; exact hx) = .string X := by rw [← hX]; simp [strV]
      rw [e1] at c1
      rw [← hXl] at hkp hzk
      have zX : X.size ≤ 1000000 := by rw [← size_toList]; exact hzk
      have L0 := fun w => r7_List X w zX
      unfold LstIs at L0
      have hVl := lstV_le X.data.toList
      rw [size_toList] at hVl
      unfold kpF at hkp
      obtain ⟨E, hE⟩ : ∃ E, lstE X.data.toList = E := ⟨_, rfl⟩
      obtain ⟨ls, hls⟩ : ∃ ls, lstV X.data.toList = ls := ⟨_, rfl⟩
      simp only [hE, hls] at L0 hkp
      rw [hls] at hVl
      have LH := Lib.hid L0
      have HVL := Lib.hid (show ls.length ≤ 1000001 by omega)
      have HKP := Lib.hid hkp
      have g1 : (k : Int) < n := by omega
      have g2 : (0 : Int) ≤ (k : Int) := by omega
      clear L0 hVl hE hls hkp e1 hX hXl hzk hs1 hc hx zX hV
      go_wp2_with fail
      refine (LH.out _).mono ?_
      rintro e w2 ⟨y, rfl, hy, hb2⟩
      have q2 := hB.trans (hb2.mono hB.size)
      have HV2 := Lib.hid (HV.out.ret hb2)
      have hy' := hy
      obtain ⟨ya, yc, rfl, _, _⟩ := hy'
      obtain ⟨r, hr⟩ : ∃ r, ls.length = r := ⟨_, rfl⟩
      rw [strV_len, hr] at hy ⊢
      have HR := Lib.hid hr
      have HY := Lib.hid hy
      have zr : r ≤ 1000001 := by have := HVL.out; omega
      clear hy hb2 HV hB hr
      by_cases h : E = 0
      · subst h
        have hK2 := HKP.out
        rw [if_pos rfl] at hK2
        have HK2 := Lib.hid hK2
        clear hK2 HKP
        go_wp2_with fail
        go_loopw [5, 9] (fun x y wr => ∃ (j : Nat), j ≤ r ∧ x = .bool (b && !decide (cloL ∈ ls.take j)) ∧ y = .int .i64 j ∧ IsVals (.slice ya r yc) (strV ls) wr ∧ IsVals (.slice (some ⟨b1, o1, none⟩) n ca) (strV xs) wr ∧ Below w.heap.size w wr) (fun _ y _ => r - (intOf y).toNat)
        case atStart => exact ⟨0, Nat.zero_le _, by simp, rfl, HY.out, HV2.out, q2⟩
        case round =>
          obtain ⟨j, hj, rfl, rfl, hL, hX2, hB2⟩ := hrel
          have HLL := Lib.hid hL
          have HXX := Lib.hid hX2
          by_cases hlt2 : j < r
          · have hx2 : j < ls.length := by have := HR.out; omega
            obtain ⟨b2, o2, cap2, hs2, _, hc2⟩ := vals_cell' HLL.out (k := j) (by rw [strV_len]; exact hx2)
            have ha2 : ya = some ⟨b2, o2, none⟩ := by injection hs2
            subst ha2
            have c2 := hc2 j (by rw [strV_len]; exact hx2)
            have htk : (cloL ∈ ls.take (j + 1)) ↔ (cloL ∈ ls.take j ∨ cloL = ls[j]) := by
              rw [List.take_succ_eq_append_getElem hx2, List.mem_append, List.mem_singleton]
            obtain ⟨z, hz⟩ : ∃ z, ls[j] = z := ⟨_, rfl⟩
            rw [hz] at htk
            obtain ⟨Z, hZ⟩ : ∃ X : ByteArray, ⟨z.toArray⟩ = X := ⟨_, rfl⟩
            have hZl : Z.data.toList = z := by rw [← hZ]
            rw [show (strV ls)[j]'(by rw [strV_len]; exact hx2) = .string Z by rw [← hZ, ← hz]; simp [strV]] at c2
            have g3 : (j : Int) < r := by omega
            have g4 : (0 : Int) ≤ (j : Int) := by omega
            obtain ⟨t, ht⟩ : ∃ t, decide (cloL ∈ ls.take j) = t := ⟨_, rfl⟩
            rw [ht]
            have hnext : decide (cloL ∈ ls.take (j + 1)) = (t || decide (cloL = z)) := by
              rw [← ht]
              rw [Bool.eq_iff_iff, Bool.or_eq_true, decide_eq_true_eq, decide_eq_true_eq, decide_eq_true_eq]
              exact htk
            by_cases hcl : cloL = z
            · have hZ2 : Z = ⟨#[99, 108, 111, 115, 101]⟩ := by rw [← hZ, ← hcl]; rfl
              subst hZ2
              have HNX : Hid ((b && !decide (cloL ∈ ls.take (j + 1))) = false) := Lib.hid (by rw [hnext, decide_eq_true hcl]; simp)
              clear hnext htk hz hZ hZl hs2 hc2 hx2 hL hX2 hcl ht
              cases hbt : (b && !t) with
              | true =>
                go_wp2_with fail
                go_roundw
                case rel => exact ⟨j + 1, by omega, by rw [HNX.out], by go_num, HLL.out, HXX.out, hB2⟩
                case measure => simp [intOf]; omega
              | false =>
                go_wp2_with fail
                go_roundw
                case rel => exact ⟨j + 1, by omega, by rw [HNX.out], by go_num, HLL.out, HXX.out, hB2⟩
                case measure => simp [intOf]; omega
            · have HNX : Hid ((b && !decide (cloL ∈ ls.take (j + 1))) = (b && !t)) := Lib.hid (by rw [hnext, decide_eq_false hcl]; simp)
              have e3 : (Z.toList == [99, 108, 111, 115, 101]) = false := by
                rw [Lib.toList_data, hZl, beq_eq_false_iff_ne]
                exact fun h => hcl h.symm
              clear hnext htk hz hZ hZl hs2 hc2 hx2 hL hX2 hcl ht
              cases hbt : (b && !t) with
              | true =>
                rw [hbt] at HNX
                go_wp2_with fail
                go_roundw
                case rel => exact ⟨j + 1, by omega, by rw [HNX.out], by go_num, HLL.out, HXX.out, hB2⟩
                case measure => simp [intOf]; omega
              | false =>
                rw [hbt] at HNX
                go_wp2_with fail
                go_roundw
                case rel => exact ⟨j + 1, by omega, by rw [HNX.out], by go_num, HLL.out, HXX.out, hB2⟩
                case measure => simp [intOf]; omega
          · have hfull : ls.take j = ls := List.take_of_length_le (by have := HR.out; omega)
            rw [hfull]
            clear hL hX2 hfull
            go_wp2_with fail
            go_roundw
            case rel => exact ⟨k + 1, _, by omega, rfl, by go_num, HK2.out, HXX.out, hB2⟩
            case measure => simp [intOf]; omega
      · have g : (E != 0) = true := by simp [h]
        have hOo : O = (false, 140) := by
          have := HKP.out
          rw [if_neg h] at this
          exact this.symm
        subst hOo
        clear h
        go_wp2_with fail
        go_ret2
        exact ⟨rfl, q2⟩
    · have hd : xs.drop k = [] := List.drop_eq_nil_of_le (by have := HN.out; omega)
      rw [hd] at hkp
      have hOo : O = (b, 0) := by rw [← hkp]; rfl
      subst hOo
      clear hkp hd hV
      go_wp2_with fail
      go_ret2
      exact ⟨rfl, hB⟩
theorem cA_none : ∀ {l : List UInt8}, l.contains 58 = false → cA 58 l = l
  | [], _ => rfl
  | c :: l, h => by
    rw [List.contains_cons, Bool.or_eq_false_iff] at h
    have h1 : c ≠ 58 := fun e => by rw [e] at h; exact absurd h.1 (by decide)
    have h2 := cA_none h.2
    unfold cA at h2 ⊢
    rw [List.takeWhile_cons_of_pos (by simpa using h1), h2]
set_option maxHeartbeats 8000000 in
theorem r14_Host (v : Value) (ps : List Pr) (w : World) (hv : IsPairs v ps w) (hl : ps.length ≤ 1000) (hz : ∀ p ∈ ps, p.1.length ≤ 1000000) (hz2 : ∀ p ∈ ps, p.2.length ≤ 1000000) : Calls Tryz.prog 80 #[v] w (Ret w (hstT (hst ps))) := by
  have TH0 := r14_One v ps ⟨#[104, 111, 115, 116]⟩ w hv hl hz (by decide)
  have kT := oneX_kinds (fndV ps hoL)
  have bT : ∀ x ∈ fndV ps hoL, x.length ≤ 1000000 := fun x hx => by
    obtain ⟨p, hp, rfl⟩ := fndV_mem hx
    exact hz2 p hp
  unfold OneIs at TH0
  change Calls Tryz.prog 110 _ w (Ret w (.tuple #[.string ⟨(oneX (fndV ps hoL)).1.toArray⟩, .bool (oneX (fndV ps hoL)).2.1, .int .i64 (oneX (fndV ps hoL)).2.2])) at TH0
  unfold hst
  obtain ⟨T, hT⟩ : ∃ T, oneX (fndV ps hoL) = T := ⟨_, rfl⟩
  rw [hT] at TH0 kT ⊢
  clear hT hl hz hz2 hv
  rcases kT with rfl | ⟨X, hx, rfl⟩ | rfl
  · rw [show hstK ([], false, 0) = ([], 140) from by simp [hstK]]
    have TH := Lib.hid TH0
    clear TH0
    go_enter Tryz.func80, Tryz.ntmps80
    go_wp2_with fail
    refine (TH.out).mono ?_
    rintro e w1 ⟨rfl, hb1⟩
    go_wp2_with fail
    go_ret2
    exact ⟨rfl, hb1⟩
  · have zX : X.size ≤ 1000000 := by
      rw [← size_toList]
      exact bT _ hx
    simp only [str_mk] at TH0
    rw [show hstK (X.data.toList, true, 0) = hstX X.data.toList from by simp [hstK]]
    unfold hstX
    have C0 := fun w => r9_Parts X w zX
    have zA0 := cA_le 58 X.data.toList
    have zR0 : (cR 58 X.data.toList).length ≤ X.data.toList.length := by
      unfold cR
      rw [List.length_drop]
      exact Nat.le_trans (Nat.sub_le _ _) (List.dropWhile_sublist _).length_le
    rw [size_toList] at zA0 zR0
    cases hc : X.data.toList.contains 58 with
    | true =>
      rw [show ptA X.data.toList = cA 58 X.data.toList from by unfold ptA; rw [if_pos hc], show ptR X.data.toList = cR 58 X.data.toList from by unfold ptR; rw [if_pos hc], hc] at C0
      obtain ⟨N, hN⟩ : ∃ Y : ByteArray, ⟨(cA 58 X.data.toList).toArray⟩ = Y := ⟨_, rfl⟩
      obtain ⟨V, hV⟩ : ∃ Y : ByteArray, ⟨(cR 58 X.data.toList).toArray⟩ = Y := ⟨_, rfl⟩
      have hNl : N.data.toList = cA 58 X.data.toList := by rw [← hN]
      have hVl : V.data.toList = cR 58 X.data.toList := by rw [← hV]
      have zN : N.size ≤ 1000000 := by rw [← size_toList, hNl]; omega
      have zV : V.size ≤ 1000000 := by rw [← size_toList, hVl]; omega
      rw [hN, hV] at C0
      rw [← hNl, ← hVl]
      obtain ⟨k, hk⟩ : ∃ b, tok N.data.toList = b := ⟨_, rfl⟩
      have R0 := fun w => ref06_Read V w (by omega)
      obtain ⟨n, hn⟩ : ∃ n, rdN V.data.toList = n := ⟨_, rfl⟩
      obtain ⟨E, hE⟩ : ∃ E, rdE V.data.toList = E := ⟨_, rfl⟩
      rw [hn, hE] at R0
      have K0 := fun w => ret_still (r7_Token N w zN)
      rw [hk] at K0
      have LH0 := fun w => r7_Lower N w zN
      obtain ⟨A, hA⟩ : ∃ Y : ByteArray, ⟨(lowL N.data.toList).toArray⟩ = Y := ⟨_, rfl⟩
      rw [hA] at LH0
      have KH := Lib.hid K0
      have TH := Lib.hid TH0
      have CH := Lib.hid C0
      have RH := Lib.hid R0
      have LH := Lib.hid LH0
      obtain ⟨O, hO⟩ : ∃ O, (if (true && !decide (E = 0)) = true ∨ k = false then (([], 140) : List UInt8 × Int) else (lowL N.data.toList, 0)) = O := ⟨_, rfl⟩
      rw [hE, hk, hO]
      have HO := Lib.hid hO
      have HA := Lib.hid hA
      clear hO K0 TH0 C0 R0 LH0 hN hV hNl hVl hc hk hn hE hA zA0 zR0 zX zN zV hx bT
      go_enter Tryz.func80, Tryz.ntmps80
      go_wp2_with fail
      refine (TH.out).mono ?_
      rintro e w1 ⟨rfl, hb1⟩
      go_wp2_with fail
      refine (CH.out _).mono ?_
      rintro e w2 ⟨rfl, hb2⟩
      have q2 := hb1.trans (hb2.mono hb1.size)
      clear hb1 hb2
      go_wp2_with fail
      refine (RH.out _).mono ?_
      rintro e w3 ⟨rfl, hb3⟩
      have q3 := q2.trans (hb3.mono q2.size)
      clear hb3 q2
      by_cases h0 : E = 0
      · subst h0
        go_wp2_with fail
        refine (KH.out _).mono ?_
        rintro e w4 ⟨rfl, hb4⟩
        have q4 := q3.trans (hb4.mono q3.size)
        clear hb4 q3
        cases k with
        | false =>
          have hO : O = ([], 140) := by rw [← HO.out]; simp
          subst hO
          go_wp2_with fail
          go_ret2
          exact ⟨rfl, q4⟩
        | true =>
          have hO : O = (lowL N.data.toList, 0) := by rw [← HO.out]; simp
          go_wp2_with fail
          refine (LH.out _).mono ?_
          rintro e w5 ⟨rfl, hb5⟩
          have q5 := q4.trans (hb5.mono q4.size)
          clear hb5 q4
          go_wp2_with fail
          go_ret2
          refine ⟨?_, q5⟩
          rw [hO]
          show _ = Ending.returned (.tuple #[.string ⟨(lowL N.data.toList).toArray⟩, .int .i64 0])
          rw [HA.out]
          rfl
      · have g : (E != 0) = true := by simp [h0]
        have g2 : (E == 0) = false := by simp [h0]
        have hO : O = ([], 140) := by rw [← HO.out]; simp [h0]
        subst hO
        clear h0
        go_wp2_with fail
        go_ret2
        exact ⟨rfl, q3⟩
    | false =>
      rw [show ptA X.data.toList = [] from by unfold ptA; rw [if_neg (by rw [hc]; decide)], show ptR X.data.toList = X.data.toList from by unfold ptR; rw [if_neg (by rw [hc]; decide)], hc] at C0
      rw [cA_none hc]
      obtain ⟨k, hk⟩ : ∃ b, tok X.data.toList = b := ⟨_, rfl⟩
      have R0 := fun w => ref06_Read ⟨#[48]⟩ w (by decide)
      rw [show rdN (⟨#[48]⟩ : ByteArray).data.toList = 0 from by decide +kernel, show rdE (⟨#[48]⟩ : ByteArray).data.toList = 0 from by decide +kernel] at R0
      have K0 := fun w => ret_still (r7_Token X w zX)
      rw [hk] at K0
      have LH0 := fun w => r7_Lower X w zX
      obtain ⟨A, hA⟩ : ∃ Y : ByteArray, ⟨(lowL X.data.toList).toArray⟩ = Y := ⟨_, rfl⟩
      rw [hA] at LH0
      have KH := Lib.hid K0
      have TH := Lib.hid TH0
      have CH := Lib.hid C0
      have RH := Lib.hid R0
      have LH := Lib.hid LH0
      obtain ⟨O, hO⟩ : ∃ O, (if (false && !decide (rdE (cR 58 X.data.toList) = 0)) = true ∨ k = false then (([], 140) : List UInt8 × Int) else (lowL X.data.toList, 0)) = O := ⟨_, rfl⟩
      rw [hk, hO]
      have HO := Lib.hid hO
      have HA := Lib.hid hA
      clear hO K0 TH0 C0 R0 LH0 hc hk hA zA0 zR0 zX hx bT
      go_enter Tryz.func80, Tryz.ntmps80
      go_wp2_with fail
      refine (TH.out).mono ?_
      rintro e w1 ⟨rfl, hb1⟩
      go_wp2_with fail
      refine (CH.out _).mono ?_
      rintro e w2 ⟨rfl, hb2⟩
      have q2 := hb1.trans (hb2.mono hb1.size)
      clear hb1 hb2
      go_wp2_with fail
      refine (RH.out _).mono ?_
      rintro e w3 ⟨rfl, hb3⟩
      have q3 := q2.trans (hb3.mono q2.size)
      clear hb3 q2
      go_wp2_with fail
      refine (KH.out _).mono ?_
      rintro e w4 ⟨rfl, hb4⟩
      have q4 := q3.trans (hb4.mono q3.size)
      clear hb4 q3
      cases k with
      | false =>
        have hO : O = ([], 140) := by rw [← HO.out]; simp
        subst hO
        go_wp2_with fail
        go_ret2
        exact ⟨rfl, q4⟩
      | true =>
        have hO : O = (lowL X.data.toList, 0) := by rw [← HO.out]; simp
        go_wp2_with fail
        refine (LH.out _).mono ?_
        rintro e w5 ⟨rfl, hb5⟩
        have q5 := q4.trans (hb5.mono q4.size)
        clear hb5 q4
        go_wp2_with fail
        go_ret2
        refine ⟨?_, q5⟩
        rw [hO]
        show _ = Ending.returned (.tuple #[.string ⟨(lowL X.data.toList).toArray⟩, .int .i64 0])
        rw [HA.out]
        rfl
  · rw [show hstK ([], false, 140) = ([], 140) from by simp [hstK]]
    have TH := Lib.hid TH0
    clear TH0
    go_enter Tryz.func80, Tryz.ntmps80
    go_wp2_with fail
    refine (TH.out).mono ?_
    rintro e w1 ⟨rfl, hb1⟩
    go_wp2_with fail
    go_ret2
    exact ⟨rfl, hb1⟩
end Go.Proofs.YthgmgmbjjjnhnaaGreatDoor
