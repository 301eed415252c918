/- HeadParts: the walk. PRINTED BY PROGRAM (gen_hdpp.py). -/
import Derived.Test.YtnfgpcccmbblcaaDoorHdPb
import Derived.Test.YtnfgpcccmbblcaaDoorAp
import Derived.Test.YtnfgpcccmbblcaaDoorTk
namespace Go.Proofs.YtnfgpcccmbblcaaDoor
open Go.RowKit

set_option maxHeartbeats 16000000 in
set_option maxRecDepth 100000 in
theorem parts14 (a b : ByteArray) (w : World) (za : a.size ≤ 9223372036854775807) (zb : b.size ≤ 9223372036854775807) (hm : ML w) :
    Calls Tryd.prog 8 #[.string a, .string b] w (Ret w (.bool true)) := by
  have HM := Lib.hid hm
  clear hm
  by_cases ha : 1500 < a.size
  · have e1 : decide ((1500 : Int) < a.size) = true := decide_eq_true (by omega)
    clear ha
    go_enter Tryd.func8, Tryd.ntmps8
    go_wp2_with fail
    refine (alive14 _ HM.out).mono ?_
    rintro e w1 ⟨rfl, hb⟩
    have q1 := hb
    clear hb
    go_wp2_with fail
    go_ret
    exact ⟨rfl, q1⟩
  have e1 : decide ((1500 : Int) < a.size) = false := decide_eq_false (by omega)
  by_cases hb0 : 1500 < b.size
  · have e2 : decide ((1500 : Int) < b.size) = true := decide_eq_true (by omega)
    clear ha hb0
    go_enter Tryd.func8, Tryd.ntmps8
    go_wp2_with fail
    refine (alive14 _ HM.out).mono ?_
    rintro e w1 ⟨rfl, hb⟩
    have q1 := hb
    clear hb
    go_wp2_with fail
    go_ret
    exact ⟨rfl, q1⟩
  have e2 : decide ((1500 : Int) < b.size) = false := decide_eq_false (by omega)
  have za2 : a.size ≤ 1500 := by omega
  have zb2 : b.size ≤ 1500 := by omega
  clear ha hb0 za zb
  have PA0 := fun w (h : ML w) => hd_Parse a w (by omega) h
  have PB0 := fun w (h : ML w) => hd_Parse b w (by omega) h
  unfold HdIs at PA0 PB0
  by_cases hab : hdE a.data.toList = 0 ∧ hdE b.data.toList = 0
  rotate_left
  · obtain ⟨E, hE⟩ : ∃ x, hdE a.data.toList = x := ⟨_, rfl⟩
    obtain ⟨E2, hE2⟩ : ∃ x, hdE b.data.toList = x := ⟨_, rfl⟩
    obtain ⟨ps, hps⟩ : ∃ x, hdV a.data.toList = x := ⟨_, rfl⟩
    obtain ⟨qs, hqs⟩ : ∃ x, hdV b.data.toList = x := ⟨_, rfl⟩
    rw [hE, hps] at PA0
    rw [hE2, hqs] at PB0
    rw [hE, hE2] at hab
    have PA := Lib.hid PA0
    have PB := Lib.hid PB0
    clear PA0 PB0 hE hE2 hps hqs
    by_cases h0 : E = 0
    · subst h0
      have g : (E2 == 0) = false := by rw [beq_eq_false_iff_ne]; exact fun h => hab ⟨rfl, h⟩
      have g2 : (E2 != 0) = true := by rw [bne_iff_ne]; exact fun h => hab ⟨rfl, h⟩
      clear hab
      go_enter Tryd.func8, Tryd.ntmps8
      go_wp2_with fail
      refine (alive14 _ HM.out).mono ?_
      rintro e w1 ⟨rfl, hb⟩
      have q1 := hb
      clear hb
      go_wp2_with fail
      refine (PA.out _ (HM.out.ret q1)).mono ?_
      rintro e w2 ⟨ua, rfl, hua, hb⟩
      have q2 := q1.trans (hb.mono q1.size)
      clear hb
      go_wp2_with fail
      refine (PB.out _ (HM.out.ret q2)).mono ?_
      rintro e w3 ⟨ub, rfl, hub, hb⟩
      have q3 := q2.trans (hb.mono q2.size)
      clear hb
      go_wp2_with fail
      go_ret
      exact ⟨rfl, q3⟩
    · have g : (E == 0) = false := by rw [beq_eq_false_iff_ne]; exact h0
      have g2 : (E != 0) = true := by rw [bne_iff_ne]; exact h0
      clear hab h0
      go_enter Tryd.func8, Tryd.ntmps8
      go_wp2_with fail
      refine (alive14 _ HM.out).mono ?_
      rintro e w1 ⟨rfl, hb⟩
      have q1 := hb
      clear hb
      go_wp2_with fail
      refine (PA.out _ (HM.out.ret q1)).mono ?_
      rintro e w2 ⟨ua, rfl, hua, hb⟩
      have q2 := q1.trans (hb.mono q1.size)
      clear hb
      go_wp2_with fail
      refine (PB.out _ (HM.out.ret q2)).mono ?_
      rintro e w3 ⟨ub, rfl, hub, hb⟩
      have q3 := q2.trans (hb.mono q2.size)
      clear hb
      go_wp2_with fail
      go_ret
      exact ⟨rfl, q3⟩
  · obtain ⟨hA, hB⟩ := hab
    have zab : (a ++ b).size ≤ 3000 := by
      rw [← size_toList, app_data, List.length_append, size_toList, size_toList]
      omega
    have PC0 := fun w (h : ML w) => hd_Parse (a ++ b) w (by omega) h
    unfold HdIs at PC0
    have htwo := two_parts hA hB (by rw [← app_data, size_toList]; omega)
    rw [← app_data] at htwo
    have szA := rd_size hA
    have szB := rd_size hB
    rw [size_toList] at szA szB
    have l1 := hdV_len a.data.toList
    have l2 := hdV_len b.data.toList
    have l3 := hdV_len (a ++ b).data.toList
    obtain ⟨ps, hps⟩ : ∃ x, hdV a.data.toList = x := ⟨_, rfl⟩
    obtain ⟨qs, hqs⟩ : ∃ x, hdV b.data.toList = x := ⟨_, rfl⟩
    obtain ⟨E, hE⟩ : ∃ x, hdE (a ++ b).data.toList = x := ⟨_, rfl⟩
    obtain ⟨rs, hrs⟩ : ∃ x, hdV (a ++ b).data.toList = x := ⟨_, rfl⟩
    rw [hps] at szA l1 htwo PA0
    rw [hqs] at szB l2 htwo PB0
    rw [hA] at PA0
    rw [hB] at PB0
    rw [hE, hrs] at PC0 htwo
    rw [hrs] at l3
    have szz : ∀ p ∈ ps ++ qs, p.1.length ≤ 3000 ∧ p.2.length ≤ 3000 := fun p hp => by
      rcases List.mem_append.1 hp with hp | hp
      · have := szA p hp; omega
      · have := szB p hp; omega
    obtain ⟨na, hna⟩ : ∃ x, ps.length = x := ⟨_, rfl⟩
    obtain ⟨nb, hnb⟩ : ∃ x, qs.length = x := ⟨_, rfl⟩
    have hn : (ps ++ qs).length = na + nb := by rw [List.length_append, hna, hnb]
    rw [hna] at l1
    rw [hnb] at l2
    have PA := Lib.hid PA0
    have PB := Lib.hid PB0
    have PC := Lib.hid PC0
    have SZ := Lib.hid szz
    have HLA := Lib.hid hna
    have HLB := Lib.hid hnb
    have HLN := Lib.hid hn
    obtain ⟨i0, hi, hz0, hz1, hz2⟩ := info_parts vinfo_pair
    clear PA0 PB0 PC0 szA szB szz hA hB hps hqs hE hrs hna hnb
    by_cases h32 : 32 < na + nb
    · rw [if_pos (by rw [hn]; exact h32)] at htwo
      subst htwo
      have g32 : (32 : Int) < (na : Int) + nb := by omega
      have g33 : decide ((32 : Int) < ((na + nb : Nat) : Int)) = true := decide_eq_true (by omega)
      have g34 : (32 : Int) < ((na + nb : Nat) : Int) := by omega
      clear hn
      go_enter Tryd.func8, Tryd.ntmps8
      go_wp2_with fail
      refine (alive14 _ HM.out).mono ?_
      rintro e w1 ⟨rfl, hb⟩
      have q1 := hb
      clear hb
      go_wp2_with fail
      refine (PA.out _ (HM.out.ret q1)).mono ?_
      rintro e w2 ⟨ua, rfl, hua, hb⟩
      have q2 := q1.trans (hb.mono q1.size)
      have IA0 := Lib.hid hua
      obtain ⟨aa, ac, rfl⟩ := hua.form
      clear hua
      rw [HLA.out] at IA0 ⊢
      clear hb
      go_wp2_with fail
      refine (PB.out _ (HM.out.ret q2)).mono ?_
      rintro e w3 ⟨ub, rfl, hub, hb⟩
      have q3 := q2.trans (hb.mono q2.size)
      have IA := Lib.hid (IA0.out.ret hb)
      have IB := Lib.hid hub
      obtain ⟨ba, bc, rfl⟩ := hub.form
      clear hub IA0
      rw [HLB.out] at IB ⊢
      clear hb
      go_wp2_with (at_builtin; refine Hid.out ?_)
      refine Lib.hid ?_
      have r0 := ap_new w3.heap.size (Below.refl w3.heap.size w3) (Nat.le_refl _) rfl
      have al := (Below.refl w3.heap.size w3).alloc (Nat.le_refl _) (.cells #[] 52)
      have p0 := IA.out.ret al
      unfold IsPairs at p0
      rw [HLA.out] at p0
      refine wpList_app_row rfl _ _ _ rfl w3.heap.size 52 i0 _ 2 32 Tryd.underlying22 hi hz0 hz1 hz2 rfl (by omega) _ 0 [] (by rfl) r0 (.slice aa na ac) (by rfl) na (prV ps) p0 (prV_one ps) (by omega) (by omega) (by simp) ?_
      intro v4 w4 hown hgrow
      have hb := ap_below al (Nat.le_refl _) r0 hgrow
      have r1 := hown
      clear hown hgrow r0 p0 al
      go_wp2_with (at_builtin; refine Hid.out ?_)
      refine Lib.hid ?_
      have p1 := IB.out.ret hb
      unfold IsPairs at p1
      rw [HLB.out] at p1
      refine wpList_app_row rfl _ _ _ rfl w3.heap.size 52 i0 _ 2 32 Tryd.underlying22 hi hz0 hz1 hz2 rfl (by omega) v4 (0 + na) ([] ++ prV ps) (by rfl) r1 (.slice ba nb bc) (by rfl) nb (prV qs) p1 (prV_one qs) (by omega) (by omega) hb.size ?_
      intro v5 w5 hown hgrow
      have hb5 := ap_below hb (Nat.le_refl _) r1 hgrow
      have o5 : IsPairs v5 (ps ++ qs) w5 := by
        have := own_row hown
        rw [Nat.zero_add] at this
        unfold IsPairs
        rw [List.length_append, HLA.out, HLB.out, prV_app]
        exact this
      have q5 := q3.trans (hb5.mono q3.size)
      clear hown hgrow r1 p1 hb hb5 i0 hi hz0 hz1 hz2
      obtain ⟨ca, cc, rfl⟩ := o5.form
      have O5 := Lib.hid o5
      clear o5
      rw [HLN.out] at O5 ⊢
      go_wp2_with fail
      refine (PC.out _ (HM.out.ret q5)).mono ?_
      rintro e w6 ⟨uc, rfl, huc, hb⟩
      have q6 := q5.trans (hb.mono q5.size)
      have O6 := Lib.hid (O5.out.ret hb)
      have IC := Lib.hid huc
      obtain ⟨da, dc, rfl⟩ := huc.form
      clear hb O5 huc
      go_wp2_with fail
      go_ret
      exact ⟨rfl, q6⟩
    · rw [if_neg (by rw [hn]; exact h32)] at htwo
      obtain ⟨rfl, hrs⟩ := htwo
      subst hrs
      have g32 : ¬ (32 : Int) < (na : Int) + nb := by omega
      have g33 : decide ((32 : Int) < ((na + nb : Nat) : Int)) = false := decide_eq_false (by omega)
      have g34 : ¬ (32 : Int) < ((na + nb : Nat) : Int) := by omega
      have zn : na + nb ≤ 32 := by omega
      clear hn h32 l3
      go_enter Tryd.func8, Tryd.ntmps8
      go_wp2_with fail
      refine (alive14 _ HM.out).mono ?_
      rintro e w1 ⟨rfl, hb⟩
      have q1 := hb
      clear hb
      go_wp2_with fail
      refine (PA.out _ (HM.out.ret q1)).mono ?_
      rintro e w2 ⟨ua, rfl, hua, hb⟩
      have q2 := q1.trans (hb.mono q1.size)
      have IA0 := Lib.hid hua
      obtain ⟨aa, ac, rfl⟩ := hua.form
      clear hua
      rw [HLA.out] at IA0 ⊢
      clear hb
      go_wp2_with fail
      refine (PB.out _ (HM.out.ret q2)).mono ?_
      rintro e w3 ⟨ub, rfl, hub, hb⟩
      have q3 := q2.trans (hb.mono q2.size)
      have IA := Lib.hid (IA0.out.ret hb)
      have IB := Lib.hid hub
      obtain ⟨ba, bc, rfl⟩ := hub.form
      clear hub IA0
      rw [HLB.out] at IB ⊢
      clear hb
      go_wp2_with (at_builtin; refine Hid.out ?_)
      refine Lib.hid ?_
      have r0 := ap_new w3.heap.size (Below.refl w3.heap.size w3) (Nat.le_refl _) rfl
      have al := (Below.refl w3.heap.size w3).alloc (Nat.le_refl _) (.cells #[] 52)
      have p0 := IA.out.ret al
      unfold IsPairs at p0
      rw [HLA.out] at p0
      refine wpList_app_row rfl _ _ _ rfl w3.heap.size 52 i0 _ 2 32 Tryd.underlying22 hi hz0 hz1 hz2 rfl (by omega) _ 0 [] (by rfl) r0 (.slice aa na ac) (by rfl) na (prV ps) p0 (prV_one ps) (by omega) (by omega) (by simp) ?_
      intro v4 w4 hown hgrow
      have hb := ap_below al (Nat.le_refl _) r0 hgrow
      have r1 := hown
      clear hown hgrow r0 p0 al
      go_wp2_with (at_builtin; refine Hid.out ?_)
      refine Lib.hid ?_
      have p1 := IB.out.ret hb
      unfold IsPairs at p1
      rw [HLB.out] at p1
      refine wpList_app_row rfl _ _ _ rfl w3.heap.size 52 i0 _ 2 32 Tryd.underlying22 hi hz0 hz1 hz2 rfl (by omega) v4 (0 + na) ([] ++ prV ps) (by rfl) r1 (.slice ba nb bc) (by rfl) nb (prV qs) p1 (prV_one qs) (by omega) (by omega) hb.size ?_
      intro v5 w5 hown hgrow
      have hb5 := ap_below hb (Nat.le_refl _) r1 hgrow
      have o5 : IsPairs v5 (ps ++ qs) w5 := by
        have := own_row hown
        rw [Nat.zero_add] at this
        unfold IsPairs
        rw [List.length_append, HLA.out, HLB.out, prV_app]
        exact this
      have q5 := q3.trans (hb5.mono q3.size)
      clear hown hgrow r1 p1 hb hb5 i0 hi hz0 hz1 hz2
      obtain ⟨ca, cc, rfl⟩ := o5.form
      have O5 := Lib.hid o5
      clear o5
      rw [HLN.out] at O5 ⊢
      go_wp2_with fail
      refine (PC.out _ (HM.out.ret q5)).mono ?_
      rintro e w6 ⟨uc, rfl, huc, hb⟩
      have q6 := q5.trans (hb.mono q5.size)
      have O6 := Lib.hid (O5.out.ret hb)
      have IC := Lib.hid huc
      obtain ⟨da, dc, rfl⟩ := huc.form
      clear hb O5 huc
      rw [HLN.out] at IC ⊢
      go_wp2_with fail
      refine (r9_Same _ _ _ _ _ IC.out O6.out (by rw [HLN.out]; omega)).mono ?_
      rintro e w7 ⟨rfl, hb⟩
      have q7 := q6.trans (hb.mono q6.size)
      have AL := Lib.hid (O6.out.ret hb)
      clear hb O6 IC
      rw [decide_eq_true rfl]
      obtain ⟨all, hall⟩ : ∃ x, ps ++ qs = x := ⟨_, rfl⟩
      obtain ⟨n, hnn⟩ : ∃ x, na + nb = x := ⟨_, rfl⟩
      rw [hall, hnn] at HLN
      rw [hall] at SZ AL
      rw [hnn] at AL zn ⊢
      clear hall hnn g32 g33 g34 IA IB PA PB PC HLA HLB
      go_wp2_with fail
      go_loopw [13] (fun i wr => ∃ k : Nat, k ≤ n ∧ i = .int .i64 k ∧ Below w7.heap.size w7 wr) (fun i _ => n - (intOf i).toNat)
      case atStart => exact ⟨0, Nat.zero_le _, rfl, Below.refl _ _⟩
      case round =>
        obtain ⟨k, hk, rfl, hBw⟩ := hrel
        by_cases hlt : k < n
        · have hx : k < all.length := by have := HLN.out; omega
          obtain ⟨b1, o1, cap1, hs1, hb0, c1, c2⟩ := (AL.out.ret hBw).cell hx
          clear c2
          have ha1 : ca = some ⟨b1, o1, none⟩ := by injection hs1
          subst ha1
          have hzk := SZ.out all[k] (List.getElem_mem hx)
          have hpos := fnd_pos (List.getElem_mem hx : all[k] ∈ all)
          obtain ⟨P, hP⟩ : ∃ P, all[k] = P := ⟨_, rfl⟩
          rw [hP] at c1 hzk hpos
          obtain ⟨p1, p2⟩ := P
          obtain ⟨X, hX⟩ : ∃ X : ByteArray, ⟨p1.toArray⟩ = X := ⟨_, rfl⟩
          have hXl : X.data.toList = p1 := by rw [← hX]
          simp only [hX] at c1
          have zX : X.size ≤ 3000 := by rw [← size_toList, hXl]; exact hzk.1
          rw [← hXl] at hpos
          have hall2 : ∀ p ∈ all, p.1.length ≤ 1000000 := fun p hp => by have := SZ.out p hp; omega
          obtain ⟨U, hU⟩ : ∃ X2 : ByteArray, ⟨(upL X.data.toList).toArray⟩ = X2 := ⟨_, rfl⟩
          have hUl : U.data.toList = upL X.data.toList := by rw [← hU]
          have zU : U.size ≤ 3000 := by rw [← size_toList, hUl, upL_len, size_toList]; exact zX
          have DU0 := fun v w (h : IsPairs v all w) => hd_Find v all U w h (by have := HLN.out; omega) hall2 (by omega)
          have DX0 := fun v w (h : IsPairs v all w) => hd_Find v all X w h (by have := HLN.out; omega) hall2 (by omega)
          unfold FndIs at DU0 DX0
          rw [hUl, fnd_up] at DU0
          obtain ⟨xs, hxs⟩ : ∃ x, fndV all X.data.toList = x := ⟨_, rfl⟩
          have hxl := fndV_len all X.data.toList
          rw [hxs] at DU0 DX0 hpos hxl
          have S40 := fun u1 u2 w (h1 : IsVals u1 (strV xs) w) (h2 : IsVals u2 (strV xs) w) => r4_Same u1 u2 xs xs w h1 h2 (by have := HLN.out; omega)
          rw [decide_eq_true rfl] at S40
          have SX0 := fun w => as_Same U X w (by omega) (by omega)
          rw [hUl, decide_eq_true (up_low X.data.toList)] at SX0
          obtain ⟨r, hr⟩ : ∃ r, xs.length = r := ⟨_, rfl⟩
          rw [hr] at hpos hxl
          have zr : r ≤ 32 := by have := HLN.out; omega
          have HR := Lib.hid hr
          have DU := Lib.hid DU0
          have DX := Lib.hid DX0
          have S4 := Lib.hid S40
          have SX := Lib.hid SX0
          obtain ⟨cap, C, hC, hCs, hcv⟩ := str_bytes (P := Tryd.prog) wr 9 50 5 X Tryd.underlying9 Tryd.underlying50 Tryd.underlying5
          have HC := Lib.hid hC
          have HB := Lib.hid hBw
          obtain ⟨N, hN⟩ : ∃ N, C.size = N := ⟨_, rfl⟩
          have HNN := Lib.hid hN
          rw [hN] at hcv hCs
          have HCV : Hid (∀ w', BytesUp wr.heap.size (upL X.data.toList) w' → (convert 50 9 (.slice (some ⟨wr.heap.size, 0, none⟩) X.size cap)).run Tryd.prog w' = .ok (.string U) w') := Lib.hid fun w' hbu => by
            have h := run_convert_bytes_back (P := Tryd.prog) w' 50 9 5 ⟨wr.heap.size, 0, none⟩ cap (upL X.data.toList) Tryd.underlying50 Tryd.underlying5 Tryd.underlying9 hbu
            rw [upL_len, size_toList, hU] at h
            exact h
          have HUL := Lib.hid hUl
          have g1 : (k : Int) < n := by omega
          have g2 : (0 : Int) ≤ (k : Int) := by omega
          have g3 : decide ((r : Int) < 1) = false := decide_eq_false (by omega)
          have g4 : ¬ (r : Int) < 1 := by omega
          clear hC hN hr DU0 DX0 S40 SX0 hxs hall2 hU hXl hX hP hzk hs1 hx hxl hUl hBw hpos
          go_wp2_with fail
          go_loopw [15] (fun i wr2 => ∃ (j : Nat) (D : Array Value), j ≤ X.size ∧ i = .int .i64 j ∧ D.size = N ∧ (∀ t (h : t < X.size), D[t]? = some (.int .u8 ((if t < j then upB X[t] else X[t]).toNat : Int))) ∧ wr2 = (wr.alloc (.cells D 5 (N, N + 1))).drew) (fun i _ => X.size - (intOf i).toNat)
          case atStart => exact ⟨0, C, Nat.zero_le _, rfl, HNN.out, fun j h => by rw [HC.out j h]; rfl, rfl⟩
          case round =>
            obtain ⟨j, D, hj, rfl, hDs, hD, rfl⟩ := hrel
            by_cases hlj : j < X.size
            · have hDk := hD j hlj
              rw [if_neg (Nat.lt_irrefl j)] at hDk
              have hcell : ((wr.alloc (.cells D 5 (N, N + 1))).drew).cell? ⟨wr.heap.size, j, none⟩ = some (.int .u8 (X[j].toNat : Int)) := (World.cell?_alloc_mark wr D _ _ j).trans hDk
              have hfr : ((wr.alloc (.cells D 5 (N, N + 1))).drew).frozen? ⟨wr.heap.size, j, none⟩ = false := mark_frozen wr D _ N j (by omega)
              have hbb : (X[j].toNat : Int) ≤ 255 := by have := X[j].toNat_lt; omega
              have HD := Lib.hid hD
              have HDS := Lib.hid hDs
              have g5 : (j : Int) < X.size := by omega
              clear hD hDk hDs
              by_cases hc : 97 ≤ X[j].toNat ∧ X[j].toNat ≤ 122
              · have hor := up_wrap hc.1 hc.2
                have k1 : (97 : Int) ≤ X[j].toNat := by omega
                have k2 : (X[j].toNat : Int) ≤ 122 := by omega
                clear hc
                go_wp2_with fail
                go_roundw
                case rel =>
                  refine ⟨j + 1, D.setIfInBounds j (.int .u8 ((upB X[j]).toNat : Int)), by omega, by go_num, by rw [Array.size_setIfInBounds, HDS.out], fun t h => ?_, ?_⟩
                  · rw [Array.getElem?_setIfInBounds]
                    by_cases hj : j = t
                    · subst hj
                      rw [if_pos rfl, if_pos (by rw [HDS.out]; omega), if_pos (by omega)]
                    · rw [if_neg hj, HD.out t h]
                      by_cases hjk : t < j
                      · rw [if_pos hjk, if_pos (by omega)]
                      · rw [if_neg hjk, if_neg (by omega)]
                  · rw [mark_set]
                case measure => simp [intOf]; omega
              · have hlo := up_no hc
                have HLO := Lib.hid hlo
                have k1 : (X[j].toNat : Int) < 97 ∨ 122 < (X[j].toNat : Int) := by omega
                clear hc hlo
                rcases k1 with k1 | k1
                · have k2 : ¬ (97 : Int) ≤ X[j].toNat := by omega
                  go_wp2_with fail
                  go_roundw
                  case rel =>
                    refine ⟨j + 1, D, by omega, by go_num, HDS.out, fun t h => ?_, rfl⟩
                    rw [HD.out t h]
                    by_cases hjk : t < j
                    · rw [if_pos hjk, if_pos (by omega)]
                    · by_cases hj : t = j
                      · subst hj
                        rw [if_neg hjk, if_pos (by omega), HLO.out]
                      · rw [if_neg hjk, if_neg (by omega)]
                  case measure => simp [intOf]; omega
                · have k2 : (97 : Int) ≤ X[j].toNat := by omega
                  have k3 : ¬ (X[j].toNat : Int) ≤ 122 := by omega
                  go_wp2_with fail
                  go_roundw
                  case rel =>
                    refine ⟨j + 1, D, by omega, by go_num, HDS.out, fun t h => ?_, rfl⟩
                    rw [HD.out t h]
                    by_cases hjk : t < j
                    · rw [if_pos hjk, if_pos (by omega)]
                    · by_cases hj : t = j
                      · subst hj
                        rw [if_neg hjk, if_pos (by omega), HLO.out]
                      · rw [if_neg hjk, if_neg (by omega)]
                  case measure => simp [intOf]; omega
            · obtain rfl : j = X.size := by omega
              have hbz : b1 < wr.heap.size := hb0
              have alm := (Below.refl wr.heap.size wr).alloc (Nat.le_refl _) (.cells D 5 (N, N + 1))
              have k00 : Up w7 wr.heap.size b1 (o1 + k * 2) (upL X.data.toList) X ((wr.alloc (.cells D 5 (N, N + 1))).drew) := by
                refine ⟨by simp, Nat.lt_of_lt_of_le hbz alm.size, fun t ht => ?_, ((bcell alm).1 _ _ hbz).trans c1, (HB.out.trans (alm.mono HB.out.size)).drew⟩
                rw [upL_len, size_toList] at ht
                rw [add_zero_plain]
                refine ((World.cell?_alloc_mark wr D _ _ t).trans (hD t ht)).trans ?_
                rw [if_pos ht]
                simp [upL]
                rfl
              have k0 := k00.ret (Below.drew (Below.refl _ _))
              clear hD hDs k00 alm hb0 hbz c1 HC HNN hcv hCs HB
              go_wp2_with fail
              refine wp_region_held_drew (S := fun w' => BytesUp wr.heap.size (upL X.data.toList) w' ∧ w'.cell? ⟨b1, o1 + k * 2, none⟩ = some (.string X)) (by kernel_rfl) ⟨k0.bytes, k0.cell⟩ (fun hHeld => ?_)
              refine tk_on (i := 0) (some 115) (v := ?_) (by kernel_rfl) (by kernel_rfl) (by kernel_rfl) (by kernel_rfl) (fun _ _ _ h => h) (by assumption) (fun o ho w' hSw => ?_) ?_
              rotate_left
              · (simp only [List.getElem?_toArray, List.getElem?_cons_zero, Option.some.injEq] at ho; subst ho; (try dsimp only at hSw); go_simp; try with_reducible rfl)
              simp only [Act.put, List.setIfInBounds_toArray, List.set_cons_zero, List.set_cons_succ]
              refine tk_on (i := 1) (some 116) (v := ?_) (by kernel_rfl) (by kernel_rfl) (by kernel_rfl) (by kernel_rfl) (fun _ _ _ h => h) (by assumption) (fun o ho w' hSw => ?_) ?_
              rotate_left
              · (simp only [List.getElem?_toArray, List.getElem?_cons_succ, List.getElem?_cons_zero, Option.some.injEq] at ho; subst ho; (try dsimp only at hSw); go_simp; try with_reducible rfl)
              simp only [Act.put, List.setIfInBounds_toArray, List.set_cons_zero, List.set_cons_succ]
              refine tk_on (i := 2) (some 117) (v := ?_) (by kernel_rfl) (by kernel_rfl) (by kernel_rfl) (by kernel_rfl) (fun _ _ _ h => h) (by assumption) (fun o ho w' hSw => ?_) ?_
              rotate_left
              · (simp only [List.getElem?_toArray, List.getElem?_cons_succ, List.getElem?_cons_zero, Option.some.injEq] at ho; subst ho; have hcv := HCV.out w' hSw.1; have hcl := hSw.2; (try dsimp only at hSw); go_simp; try with_reducible rfl)
              simp only [Act.put, List.setIfInBounds_toArray, List.set_cons_zero, List.set_cons_succ]
              refine tk_on (i := 4) (some 119) (v := ?_) (by kernel_rfl) (by kernel_rfl) (by kernel_rfl) (by kernel_rfl) (fun _ _ _ h => h) (by assumption) (fun o ho w' hSw => ?_) ?_
              rotate_left
              · (simp only [List.getElem?_toArray, List.getElem?_cons_succ, List.getElem?_cons_zero, Option.some.injEq] at ho; subst ho; (try dsimp only at hSw); go_simp; try with_reducible rfl)
              simp only [Act.put, List.setIfInBounds_toArray, List.set_cons_zero, List.set_cons_succ]
              refine tk_on (i := 5) (some 120) (v := ?_) (by kernel_rfl) (by kernel_rfl) (by kernel_rfl) (by kernel_rfl) (fun _ _ _ h => h) (by assumption) (fun o ho w' hSw => ?_) ?_
              rotate_left
              · (simp only [List.getElem?_toArray, List.getElem?_cons_succ, List.getElem?_cons_zero, Option.some.injEq] at ho; subst ho; (try dsimp only at hSw); go_simp; try with_reducible rfl)
              simp only [Act.put, List.setIfInBounds_toArray, List.set_cons_zero, List.set_cons_succ]
              refine tk_on (i := 6) (some 121) (v := ?_) (by kernel_rfl) (by kernel_rfl) (by kernel_rfl) (by kernel_rfl) (fun _ _ _ h => h) (by assumption) (fun o ho w' hSw => ?_) ?_
              rotate_left
              · (simp only [List.getElem?_toArray, List.getElem?_cons_succ, List.getElem?_cons_zero, Option.some.injEq] at ho; subst ho; (try dsimp only at hSw); go_simp; try with_reducible rfl)
              simp only [Act.put, List.setIfInBounds_toArray, List.set_cons_zero, List.set_cons_succ]
              refine tk_on (i := 7) (some 122) (v := ?_) (by kernel_rfl) (by kernel_rfl) (by kernel_rfl) (by kernel_rfl) (fun _ _ _ h => h) (by assumption) (fun o ho w' hSw => ?_) ?_
              rotate_left
              · (simp only [List.getElem?_toArray, List.getElem?_cons_succ, List.getElem?_cons_zero, Option.some.injEq] at ho; subst ho; (try dsimp only at hSw); go_simp; try with_reducible rfl)
              simp only [Act.put, List.setIfInBounds_toArray, List.set_cons_zero, List.set_cons_succ]
              refine tk_on (i := 8) (some 123) (v := ?_) (by kernel_rfl) (by kernel_rfl) (by kernel_rfl) (by kernel_rfl) (fun _ _ _ h => h) (by assumption) (fun o ho w' hSw => ?_) ?_
              rotate_left
              · (simp only [List.getElem?_toArray, List.getElem?_cons_succ, List.getElem?_cons_zero, Option.some.injEq] at ho; subst ho; (try dsimp only at hSw); go_simp; try with_reducible rfl)
              simp only [Act.put, List.setIfInBounds_toArray, List.set_cons_zero, List.set_cons_succ]
              refine tk_on (i := 9) (some 124) (v := ?_) (by kernel_rfl) (by kernel_rfl) (by kernel_rfl) (by kernel_rfl) (fun _ _ _ h => h) (by assumption) (fun o ho w' hSw => ?_) ?_
              rotate_left
              · (simp only [List.getElem?_toArray, List.getElem?_cons_succ, List.getElem?_cons_zero, Option.some.injEq] at ho; subst ho; (try dsimp only at hSw); go_simp; try with_reducible rfl)
              simp only [Act.put, List.setIfInBounds_toArray, List.set_cons_zero, List.set_cons_succ]
              refine tk_call (i := 3) (by kernel_rfl) (by kernel_rfl) (fun o ho K hK => ?_)
              simp only [List.getElem?_toArray, List.getElem?_cons_succ, List.getElem?_cons_zero, Option.some.injEq] at ho
              subst ho
              go_simp
              refine (DU.out _ _ (AL.out.ret k0.bel)).mono ?_
              rintro e w8 ⟨u1, rfl, hu1, hb⟩
              have k1 := k0.ret hb
              clear hb
              go_simp
              clear hHeld
              refine hK.out _ _ ⟨k1.bytes, k1.cell⟩ (fun hHeld => ?_)
              clear hK K
              refine tk_call (i := 10) (by kernel_rfl) (by kernel_rfl) (fun o ho K hK => ?_)
              simp only [List.getElem?_toArray, List.getElem?_cons_succ, List.getElem?_cons_zero, Option.some.injEq] at ho
              subst ho
              go_simp
              refine (DX.out _ _ (AL.out.ret k1.bel)).mono ?_
              rintro e w9 ⟨u2, rfl, hu2, hb⟩
              have k2 := k1.ret hb
              have hu3 := hu1.ret hb
              clear hb hu1
              go_simp
              clear hHeld
              refine hK.out _ _ ⟨k2.bytes, k2.cell⟩ (fun hHeld => ?_)
              clear hK K
              refine tk_on (i := 11) (some 16) (v := ?_) (by kernel_rfl) (by kernel_rfl) (by kernel_rfl) (by kernel_rfl) (fun _ _ _ h => h) (by assumption) (fun o ho w' hSw => ?_) ?_
              rotate_left
              · (simp only [List.getElem?_toArray, List.getElem?_cons_succ, List.getElem?_cons_zero, Option.some.injEq] at ho; subst ho; (try dsimp only at hSw); go_simp; try with_reducible rfl)
              simp only [Act.put, List.setIfInBounds_toArray, List.set_cons_zero, List.set_cons_succ]
              refine tk_on (i := 12) (some 17) (v := ?_) (by kernel_rfl) (by kernel_rfl) (by kernel_rfl) (by kernel_rfl) (fun _ _ _ h => h) (by assumption) (fun o ho w' hSw => ?_) ?_
              rotate_left
              · (simp only [List.getElem?_toArray, List.getElem?_cons_succ, List.getElem?_cons_zero, Option.some.injEq] at ho; subst ho; (try dsimp only at hSw); go_simp; try with_reducible rfl)
              simp only [Act.put, List.setIfInBounds_toArray, List.set_cons_zero, List.set_cons_succ]
              refine wpAnyH_done (by kernel_rfl) ?_ _
              obtain ⟨ua2, uc2, rfl, _, _⟩ := id hu3
              obtain ⟨ub2, ud2, rfl, _, _⟩ := id hu2
              rw [strV_len, HR.out] at hu3 hu2 ⊢
              clear hHeld k0 k1
              go_wp2_with fail
              have hdr := (Below.refl w9.heap.size w9).drew
              have k3 := k2.ret hdr
              refine wp_region_held_drew (S := fun w' => BytesUp wr.heap.size (upL X.data.toList) w' ∧ w'.cell? ⟨b1, o1 + k * 2, none⟩ = some (.string X)) (by kernel_rfl) ⟨k3.bytes, k3.cell⟩ (fun hHeld => ?_)
              refine tk_on (i := 0) (some 126) (v := ?_) (by kernel_rfl) (by kernel_rfl) (by kernel_rfl) (by kernel_rfl) (fun _ _ _ h => h) (by assumption) (fun o ho w' hSw => ?_) ?_
              rotate_left
              · (simp only [List.getElem?_toArray, List.getElem?_cons_zero, Option.some.injEq] at ho; subst ho; (try dsimp only at hSw); go_simp; try with_reducible rfl)
              simp only [Act.put, List.setIfInBounds_toArray, List.set_cons_zero, List.set_cons_succ]
              refine tk_on (i := 1) (some 127) (v := ?_) (by kernel_rfl) (by kernel_rfl) (by kernel_rfl) (by kernel_rfl) (fun _ _ _ h => h) (by assumption) (fun o ho w' hSw => ?_) ?_
              rotate_left
              · (simp only [List.getElem?_toArray, List.getElem?_cons_succ, List.getElem?_cons_zero, Option.some.injEq] at ho; subst ho; have hcv := HCV.out w' hSw.1; have hcl := hSw.2; (try dsimp only at hSw); go_simp; try with_reducible rfl)
              simp only [Act.put, List.setIfInBounds_toArray, List.set_cons_zero, List.set_cons_succ]
              refine tk_on (i := 2) (some 128) (v := ?_) (by kernel_rfl) (by kernel_rfl) (by kernel_rfl) (by kernel_rfl) (fun _ _ _ h => h) (by assumption) (fun o ho w' hSw => ?_) ?_
              rotate_left
              · (simp only [List.getElem?_toArray, List.getElem?_cons_succ, List.getElem?_cons_zero, Option.some.injEq] at ho; subst ho; (try dsimp only at hSw); go_simp; try with_reducible rfl)
              simp only [Act.put, List.setIfInBounds_toArray, List.set_cons_zero, List.set_cons_succ]
              refine tk_on (i := 3) (some 129) (v := ?_) (by kernel_rfl) (by kernel_rfl) (by kernel_rfl) (by kernel_rfl) (fun _ _ _ h => h) (by assumption) (fun o ho w' hSw => ?_) ?_
              rotate_left
              · (simp only [List.getElem?_toArray, List.getElem?_cons_succ, List.getElem?_cons_zero, Option.some.injEq] at ho; subst ho; (try dsimp only at hSw); go_simp; try with_reducible rfl)
              simp only [Act.put, List.setIfInBounds_toArray, List.set_cons_zero, List.set_cons_succ]
              refine tk_on (i := 4) (some 130) (v := ?_) (by kernel_rfl) (by kernel_rfl) (by kernel_rfl) (by kernel_rfl) (fun _ _ _ h => h) (by assumption) (fun o ho w' hSw => ?_) ?_
              rotate_left
              · (simp only [List.getElem?_toArray, List.getElem?_cons_succ, List.getElem?_cons_zero, Option.some.injEq] at ho; subst ho; (try dsimp only at hSw); go_simp; try with_reducible rfl)
              simp only [Act.put, List.setIfInBounds_toArray, List.set_cons_zero, List.set_cons_succ]
              refine tk_on (i := 5) (some 131) (v := ?_) (by kernel_rfl) (by kernel_rfl) (by kernel_rfl) (by kernel_rfl) (fun _ _ _ h => h) (by assumption) (fun o ho w' hSw => ?_) ?_
              rotate_left
              · (simp only [List.getElem?_toArray, List.getElem?_cons_succ, List.getElem?_cons_zero, Option.some.injEq] at ho; subst ho; (try dsimp only at hSw); go_simp; try with_reducible rfl)
              simp only [Act.put, List.setIfInBounds_toArray, List.set_cons_zero, List.set_cons_succ]
              refine tk_on (i := 6) (some 132) (v := ?_) (by kernel_rfl) (by kernel_rfl) (by kernel_rfl) (by kernel_rfl) (fun _ _ _ h => h) (by assumption) (fun o ho w' hSw => ?_) ?_
              rotate_left
              · (simp only [List.getElem?_toArray, List.getElem?_cons_succ, List.getElem?_cons_zero, Option.some.injEq] at ho; subst ho; (try dsimp only at hSw); go_simp; try with_reducible rfl)
              simp only [Act.put, List.setIfInBounds_toArray, List.set_cons_zero, List.set_cons_succ]
              refine tk_call (i := 7) (by kernel_rfl) (by kernel_rfl) (fun o ho K hK => ?_)
              simp only [List.getElem?_toArray, List.getElem?_cons_succ, List.getElem?_cons_zero, Option.some.injEq] at ho
              subst ho
              go_simp
              refine (SX.out _).mono ?_
              rintro e w10 ⟨rfl, hb⟩
              have k4 := k3.ret hb
              have hu4 := hu3.ret (hdr.trans (hb.mono hdr.size))
              have hu5 := hu2.ret (hdr.trans (hb.mono hdr.size))
              clear hb hu3 hu2
              go_simp
              clear hHeld
              refine hK.out _ _ ⟨k4.bytes, k4.cell⟩ (fun hHeld => ?_)
              clear hK K
              refine tk_on (i := 8) (some 134) (v := ?_) (by kernel_rfl) (by kernel_rfl) (by kernel_rfl) (by kernel_rfl) (fun _ _ _ h => h) (by assumption) (fun o ho w' hSw => ?_) ?_
              rotate_left
              · (simp only [List.getElem?_toArray, List.getElem?_cons_succ, List.getElem?_cons_zero, Option.some.injEq] at ho; subst ho; (try dsimp only at hSw); go_simp; try with_reducible rfl)
              simp only [Act.put, List.setIfInBounds_toArray, List.set_cons_zero, List.set_cons_succ]
              refine tk_on (i := 9) (some 135) (v := ?_) (by kernel_rfl) (by kernel_rfl) (by kernel_rfl) (by kernel_rfl) (fun _ _ _ h => h) (by assumption) (fun o ho w' hSw => ?_) ?_
              rotate_left
              · (simp only [List.getElem?_toArray, List.getElem?_cons_succ, List.getElem?_cons_zero, Option.some.injEq] at ho; subst ho; (try dsimp only at hSw); go_simp; try with_reducible rfl)
              simp only [Act.put, List.setIfInBounds_toArray, List.set_cons_zero, List.set_cons_succ]
              refine tk_on (i := 10) (some 136) (v := ?_) (by kernel_rfl) (by kernel_rfl) (by kernel_rfl) (by kernel_rfl) (fun _ _ _ h => h) (by assumption) (fun o ho w' hSw => ?_) ?_
              rotate_left
              · (simp only [List.getElem?_toArray, List.getElem?_cons_succ, List.getElem?_cons_zero, Option.some.injEq] at ho; subst ho; (try dsimp only at hSw); go_simp; try with_reducible rfl)
              simp only [Act.put, List.setIfInBounds_toArray, List.set_cons_zero, List.set_cons_succ]
              refine tk_on (i := 11) (some 137) (v := ?_) (by kernel_rfl) (by kernel_rfl) (by kernel_rfl) (by kernel_rfl) (fun _ _ _ h => h) (by assumption) (fun o ho w' hSw => ?_) ?_
              rotate_left
              · (simp only [List.getElem?_toArray, List.getElem?_cons_succ, List.getElem?_cons_zero, Option.some.injEq] at ho; subst ho; (try dsimp only at hSw); go_simp; try with_reducible rfl)
              simp only [Act.put, List.setIfInBounds_toArray, List.set_cons_zero, List.set_cons_succ]
              refine tk_on (i := 12) (some 138) (v := ?_) (by kernel_rfl) (by kernel_rfl) (by kernel_rfl) (by kernel_rfl) (fun _ _ _ h => h) (by assumption) (fun o ho w' hSw => ?_) ?_
              rotate_left
              · (simp only [List.getElem?_toArray, List.getElem?_cons_succ, List.getElem?_cons_zero, Option.some.injEq] at ho; subst ho; (try dsimp only at hSw); go_simp; try with_reducible rfl)
              simp only [Act.put, List.setIfInBounds_toArray, List.set_cons_zero, List.set_cons_succ]
              refine tk_on (i := 13) (some 139) (v := ?_) (by kernel_rfl) (by kernel_rfl) (by kernel_rfl) (by kernel_rfl) (fun _ _ _ h => h) (by assumption) (fun o ho w' hSw => ?_) ?_
              rotate_left
              · (simp only [List.getElem?_toArray, List.getElem?_cons_succ, List.getElem?_cons_zero, Option.some.injEq] at ho; subst ho; (try dsimp only at hSw); go_simp; try with_reducible rfl)
              simp only [Act.put, List.setIfInBounds_toArray, List.set_cons_zero, List.set_cons_succ]
              refine tk_on (i := 14) (some 140) (v := ?_) (by kernel_rfl) (by kernel_rfl) (by kernel_rfl) (by kernel_rfl) (fun _ _ _ h => h) (by assumption) (fun o ho w' hSw => ?_) ?_
              rotate_left
              · (simp only [List.getElem?_toArray, List.getElem?_cons_succ, List.getElem?_cons_zero, Option.some.injEq] at ho; subst ho; (try dsimp only at hSw); go_simp; try with_reducible rfl)
              simp only [Act.put, List.setIfInBounds_toArray, List.set_cons_zero, List.set_cons_succ]
              refine tk_on (i := 15) (some 141) (v := ?_) (by kernel_rfl) (by kernel_rfl) (by kernel_rfl) (by kernel_rfl) (fun _ _ _ h => h) (by assumption) (fun o ho w' hSw => ?_) ?_
              rotate_left
              · (simp only [List.getElem?_toArray, List.getElem?_cons_succ, List.getElem?_cons_zero, Option.some.injEq] at ho; subst ho; (try dsimp only at hSw); go_simp; try with_reducible rfl)
              simp only [Act.put, List.setIfInBounds_toArray, List.set_cons_zero, List.set_cons_succ]
              refine tk_on (i := 16) (some 142) (v := ?_) (by kernel_rfl) (by kernel_rfl) (by kernel_rfl) (by kernel_rfl) (fun _ _ _ h => h) (by assumption) (fun o ho w' hSw => ?_) ?_
              rotate_left
              · (simp only [List.getElem?_toArray, List.getElem?_cons_succ, List.getElem?_cons_zero, Option.some.injEq] at ho; subst ho; (try dsimp only at hSw); go_simp; try with_reducible rfl)
              simp only [Act.put, List.setIfInBounds_toArray, List.set_cons_zero, List.set_cons_succ]
              refine tk_call (i := 17) (by kernel_rfl) (by kernel_rfl) (fun o ho K hK => ?_)
              simp only [List.getElem?_toArray, List.getElem?_cons_succ, List.getElem?_cons_zero, Option.some.injEq] at ho
              subst ho
              go_simp
              refine (S4.out _ _ _ hu4 hu5).mono ?_
              rintro e w11 ⟨rfl, hb⟩
              have k5 := k4.ret hb
              clear hb hu4 hu5
              go_simp
              clear hHeld
              refine hK.out _ _ ⟨k5.bytes, k5.cell⟩ (fun hHeld => ?_)
              clear hK K
              refine tk_on (i := 18) (some 144) (v := ?_) (by kernel_rfl) (by kernel_rfl) (by kernel_rfl) (by kernel_rfl) (fun _ _ _ h => h) (by assumption) (fun o ho w' hSw => ?_) ?_
              rotate_left
              · (simp only [List.getElem?_toArray, List.getElem?_cons_succ, List.getElem?_cons_zero, Option.some.injEq] at ho; subst ho; (try dsimp only at hSw); go_simp; try with_reducible rfl)
              simp only [Act.put, List.setIfInBounds_toArray, List.set_cons_zero, List.set_cons_succ]
              refine tk_on (i := 19) (some 145) (v := ?_) (by kernel_rfl) (by kernel_rfl) (by kernel_rfl) (by kernel_rfl) (fun _ _ _ h => h) (by assumption) (fun o ho w' hSw => ?_) ?_
              rotate_left
              · (simp only [List.getElem?_toArray, List.getElem?_cons_succ, List.getElem?_cons_zero, Option.some.injEq] at ho; subst ho; (try dsimp only at hSw); go_simp; try with_reducible rfl)
              simp only [Act.put, List.setIfInBounds_toArray, List.set_cons_zero, List.set_cons_succ]
              refine wpAnyH_done (by kernel_rfl) ?_ _
              clear hHeld k2 k3 k4
              go_wp2_with fail
              go_roundw
              case rel => exact ⟨k + 1, by omega, by go_num, k5.bel⟩
              case measure => simp [intOf]; omega
        · clear AL SZ
          have q8 := q7.trans (hBw.mono q7.size)
          go_wp2_with fail
          go_ret
          exact ⟨rfl, q8⟩
end Go.Proofs.YtnfgpcccmbblcaaDoor
