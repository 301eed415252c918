/- TrD, TrE, SpA: put together by mergetpl.py. -/
import Derived.Test.YtjgeiieiinmdnaaGreatDoorLm
import Derived.Laws.MakeOwn
import Derived.Test.YtjgeiieiinmdnaaGreatDoorLb
import Derived.Lib.SliceRun
namespace Go.Proofs.YtjgeiieiinmdnaaGreatDoor
open Go.RowKit Go.Lib

theorem stepF_neg {f : Int → Int} {v : List Nd} {s : Bool} {a : Int} (h : a < 0) : stepF f v s a = -1 := by
 unfold stepF
 split
 ·rfl
 ·rw [decide_eq_true h]; rfl
theorem behF_neg {v : List Nd} {d : Nat} {a : Int} (h : a < 0) : behF v d a = -1 := by
 cases d <;> exact stepF_neg h
theorem stepF_out {f : Int → Int} {v : List Nd} {s : Bool} {k : Nat} (h : v.length ≤ k) : stepF f v s k = -1 := by
 unfold stepF
 rw [show ((k : Int)).toNat = k by omega, List.getElem?_eq_none h]
theorem behF_out {v : List Nd} {d k : Nat} (h : v.length ≤ k) : behF v d k = -1 := by
 cases d <;> exact stepF_out h
theorem kidsF_neg {f : Int → Int} {v : List Nd} {m : Nat} {y l : Int} (h : y < 0) : kidsF f v (m + 1) y l = -1 := by
 unfold kidsF
 split
 ·rfl
 ·rw [decide_eq_true h]; rfl
theorem kidsF_out {f : Int → Int} {v : List Nd} {m k : Nat} {l : Int} (h : v.length ≤ k) : kidsF f v (m + 1) k l = -1 := by
 unfold kidsF
 rw [show ((k : Int)).toNat = k by omega, List.getElem?_eq_none h]
theorem kidsF_at {f : Int → Int} {v : List Nd} {m k : Nat} {l : Int} {n : Nd} (h : v[k]? = some n) : kidsF f v (m + 1) k l = if (l == 2 && n.1 == l) then -1 else kidsF f v m (f k) n.1 := by
 have h0 : decide ((k : Int) < 0) = false := decide_eq_false (by omega)
 rw [kidsF, show ((k : Int)).toNat = k by omega, h]
 simp only [h0, Bool.false_or]
theorem mayNd_many {n : Nd} (hm : mayNd n = true) (h1 : (n.1 == 1) = false) : ndMany n = 0 := by
 unfold mayNd mayB at hm
 rw [h1] at hm
 cases h2 : (n.1 == 2) with
 | false => rw [h2] at hm; simp at hm
 | true => rw [h2] at hm; simp at hm; exact hm.2.2.2.1
set_option maxHeartbeats 8000000 in
set_option maxRecDepth 100000 in
theorem tr_walk_v (T : List NdI) (va : Option Addr) (L vc B1 E B3 B4 d : Nat) (w0 : World) (hv : IsL ndY (.slice va L vc) T w0) (hL : T.length = L) (hL5 : L ≤ 512) (hd : d ≤ 12) (hmm : ∀ x ∈ T, ndMany x.1 ≤ 9223372036854775807)
  (CM : ∀ x ∈ T, ∀ W, Below w0.heap.size w0 W → Calls Tryz.prog 247 #[.agg #[.int .u8 x.1.1, .string ⟨x.1.2.1.toArray⟩, .string ⟨x.1.2.2.1.toArray⟩, ndV x, .string ⟨x.1.2.2.2.2.1.toArray⟩, .int .i64 x.1.2.2.2.2.2]] W (Ret W (.bool (mayNd x.1))))
  (REC : ∀ d', d' + 1 = d → WalkC T va L vc B1 E B3 B4 w0 d') : WalkC T va L vc B1 E B3 B4 w0 d := by
 intro a W xs ha1 ha2 hx bs
 obtain ⟨O, hO⟩ : ∃ O, behF (T.map Prod.fst) d a = O := ⟨_, rfl⟩
 rw [hO]
 have q := bs.q
 have hml : (T.map Prod.fst).length = L := by rw [List.length_map, hL]
 have HV := Lib.hid hv
 have HL := Lib.hid hL
 have HML := Lib.hid hml
 have HM := Lib.hid hmm
 have CM := Lib.hid CM
 have REC := Lib.hid REC
 have HX := Lib.hid hx
 clear hv hL hml hmm hx
 by_cases ha : a < 0
 ·rw [behF_neg ha] at hO
  subst hO
  go_enter Tryz.func246, Tryz.ntmps246
  have c_v0 := bs.at 0 0 rfl rfl
  have c_s0 := bs.at 2 0 rfl rfl
  have c_f0 := bs.at 3 0 rfl rfl
  go_wp2_with fail
  clear c_v0 c_s0 c_f0
  go_ret
  exact ⟨rfl, xs, HX.out, bs⟩
 ·obtain ⟨k, rfl⟩ : ∃ k : Nat, a = k := ⟨a.toNat, by omega⟩
  by_cases hk : k < L
  ·have hkM : k < T.length := by rw [HL.out]; exact hk
   obtain ⟨x, hx⟩ : ∃ x, T[k] = x := ⟨_, rfl⟩
   have hkx : T[k]? = some x := by rw [List.getElem?_eq_getElem hkM, hx]
   have hxm : x ∈ T := by rw [← hx]; exact List.getElem_mem hkM
   obtain ⟨b, off, cp, hv, -, hc⟩ := HV.out.cells hkx
   rw [HL.out] at hv
   simp only [Value.slice.injEq, true_and] at hv
   obtain ⟨rfl, rfl⟩ := hv
   have HC := Lib.hid hc
   have hkb : decide (L ≤ k) = false := decide_eq_false (by omega)
   have CMX := CM.out x hxm
   have hmx := HM.out x hxm
   have hbe := behF_at (T.map Prod.fst) d k x.1 (by rw [List.getElem?_map, hkx]; rfl)
   rw [hO] at hbe
   replace hbe := hbe.symm
   have hmany := @mayNd_many x.1
   obtain ⟨P1, hP1⟩ : ∃ b, mayNd x.1 = b := ⟨_, rfl⟩
   obtain ⟨P2, hP2⟩ : ∃ b, decide (ndMany x.1 < 0) = b := ⟨_, rfl⟩
   obtain ⟨P3, hP3⟩ : ∃ b, (x.1.1 == 1) = b := ⟨_, rfl⟩
   obtain ⟨P4, hP4⟩ : ∃ b, (d == 0) = b := ⟨_, rfl⟩
   rw [hP1] at CMX hmany
   rw [hP3] at hmany
   rw [hP1, hP2, hP3, hP4] at hbe
   have hP5 : ((d : Int) == 0) = P4 := by rw [← hP4, Bool.eq_iff_iff, beq_iff_eq, beq_iff_eq]; omega
   replace CMX := Lib.hid CMX
   clear hc hx hkx hxm hkM hO hP1
   cases P1 with
   | false =>
    obtain rfl : -1 = O := hbe
    clear hmany
    go_enter Tryz.func246, Tryz.ntmps246
    have c_v0 := bs.at 0 0 rfl rfl
    have c_s0 := bs.at 2 0 rfl rfl
    have c_f0 := bs.at 3 0 rfl rfl
    have n0 : W.cell? ⟨b, off + k * 6, none⟩ = some (.int .u8 x.1.1) := HC.out W q 0 _ rfl
    have n1 : W.cell? ⟨b, off + k * 6 + 1, none⟩ = some (.string ⟨x.1.2.1.toArray⟩) := HC.out W q 1 _ rfl
    have n2 : W.cell? ⟨b, off + k * 6 + 2, none⟩ = some (.string ⟨x.1.2.2.1.toArray⟩) := HC.out W q 2 _ rfl
    have n3 : W.cell? ⟨b, off + k * 6 + 3, none⟩ = some (ndV x) := HC.out W q 3 _ rfl
    have n4 : W.cell? ⟨b, off + k * 6 + 4, none⟩ = some (.string ⟨x.1.2.2.2.2.1.toArray⟩) := HC.out W q 4 _ rfl
    have n5 : W.cell? ⟨b, off + k * 6 + 5, none⟩ = some (.int .i64 x.1.2.2.2.2.2) := HC.out W q 5 _ rfl
    go_wp2_with fail
    refine (CMX.out W q).mono ?_
    rintro e w31 ⟨rfl, hb⟩
    clear c_v0 c_s0 c_f0 n0 n1 n2 n3 n4 n5
    replace bs := bs.ret hb
    replace q := bs.q
    clear hb
    have c_v0 := bs.at 0 0 rfl rfl
    have c_s0 := bs.at 2 0 rfl rfl
    have c_f0 := bs.at 3 0 rfl rfl
    have n0 : w31.cell? ⟨b, off + k * 6, none⟩ = some (.int .u8 x.1.1) := HC.out w31 q 0 _ rfl
    have n1 : w31.cell? ⟨b, off + k * 6 + 1, none⟩ = some (.string ⟨x.1.2.1.toArray⟩) := HC.out w31 q 1 _ rfl
    have n2 : w31.cell? ⟨b, off + k * 6 + 2, none⟩ = some (.string ⟨x.1.2.2.1.toArray⟩) := HC.out w31 q 2 _ rfl
    have n3 : w31.cell? ⟨b, off + k * 6 + 3, none⟩ = some (ndV x) := HC.out w31 q 3 _ rfl
    have n4 : w31.cell? ⟨b, off + k * 6 + 4, none⟩ = some (.string ⟨x.1.2.2.2.2.1.toArray⟩) := HC.out w31 q 4 _ rfl
    have n5 : w31.cell? ⟨b, off + k * 6 + 5, none⟩ = some (.int .i64 x.1.2.2.2.2.2) := HC.out w31 q 5 _ rfl
    go_wp2_with fail
    clear c_v0 c_s0 c_f0 n0 n1 n2 n3 n4 n5
    go_ret
    exact ⟨rfl, xs, HX.out, bs⟩
   | true =>
    cases P2 with
    | true =>
     obtain rfl : -1 = O := hbe
     clear hmany
     go_enter Tryz.func246, Tryz.ntmps246
     have c_v0 := bs.at 0 0 rfl rfl
     have c_s0 := bs.at 2 0 rfl rfl
     have c_f0 := bs.at 3 0 rfl rfl
     have n0 : W.cell? ⟨b, off + k * 6, none⟩ = some (.int .u8 x.1.1) := HC.out W q 0 _ rfl
     have n1 : W.cell? ⟨b, off + k * 6 + 1, none⟩ = some (.string ⟨x.1.2.1.toArray⟩) := HC.out W q 1 _ rfl
     have n2 : W.cell? ⟨b, off + k * 6 + 2, none⟩ = some (.string ⟨x.1.2.2.1.toArray⟩) := HC.out W q 2 _ rfl
     have n3 : W.cell? ⟨b, off + k * 6 + 3, none⟩ = some (ndV x) := HC.out W q 3 _ rfl
     have n4 : W.cell? ⟨b, off + k * 6 + 4, none⟩ = some (.string ⟨x.1.2.2.2.2.1.toArray⟩) := HC.out W q 4 _ rfl
     have n5 : W.cell? ⟨b, off + k * 6 + 5, none⟩ = some (.int .i64 x.1.2.2.2.2.2) := HC.out W q 5 _ rfl
     go_wp2_with fail
     refine (CMX.out W q).mono ?_
     rintro e w31 ⟨rfl, hb⟩
     clear c_v0 c_s0 c_f0 n0 n1 n2 n3 n4 n5
     replace bs := bs.ret hb
     replace q := bs.q
     clear hb
     have c_v0 := bs.at 0 0 rfl rfl
     have c_s0 := bs.at 2 0 rfl rfl
     have c_f0 := bs.at 3 0 rfl rfl
     have n0 : w31.cell? ⟨b, off + k * 6, none⟩ = some (.int .u8 x.1.1) := HC.out w31 q 0 _ rfl
     have n1 : w31.cell? ⟨b, off + k * 6 + 1, none⟩ = some (.string ⟨x.1.2.1.toArray⟩) := HC.out w31 q 1 _ rfl
     have n2 : w31.cell? ⟨b, off + k * 6 + 2, none⟩ = some (.string ⟨x.1.2.2.1.toArray⟩) := HC.out w31 q 2 _ rfl
     have n3 : w31.cell? ⟨b, off + k * 6 + 3, none⟩ = some (ndV x) := HC.out w31 q 3 _ rfl
     have n4 : w31.cell? ⟨b, off + k * 6 + 4, none⟩ = some (.string ⟨x.1.2.2.2.2.1.toArray⟩) := HC.out w31 q 4 _ rfl
     have n5 : w31.cell? ⟨b, off + k * 6 + 5, none⟩ = some (.int .i64 x.1.2.2.2.2.2) := HC.out w31 q 5 _ rfl
     go_wp2_with fail
     clear c_v0 c_s0 c_f0 n0 n1 n2 n3 n4 n5
     go_ret
     exact ⟨rfl, xs, HX.out, bs⟩
    | false =>
     have hnn := of_decide_eq_false hP2
     obtain ⟨M, hM⟩ : ∃ M : Nat, x.1.2.2.2.2.2 = M := ⟨(ndMany x.1).toNat, by show ndMany x.1 = _; omega⟩
     have hMt : (ndMany x.1).toNat = M := by show (x.1.2.2.2.2.2).toNat = M; omega
     rw [hMt] at hbe
     have hP6 : decide (x.1.2.2.2.2.2 < 0) = false := hP2
     have hM0 : decide ((M : Int) < 0) = false := decide_eq_false (by omega)
     cases P3 with
     | false =>
      have hz : M = 0 := by have := hmany rfl rfl; have h2 : ndMany x.1 = M := hM; omega
      clear hmany hMt
      have HZ := Lib.hid hz
      clear hz
      have H_hM := Lib.hid hM
      clear hM
      have H_hP3 := Lib.hid hP3
      clear hP3
      go_enter Tryz.func246, Tryz.ntmps246
      have c_v0 := bs.at 0 0 rfl rfl
      have c_s0 := bs.at 2 0 rfl rfl
      have c_f0 := bs.at 3 0 rfl rfl
      have n0 : W.cell? ⟨b, off + k * 6, none⟩ = some (.int .u8 x.1.1) := HC.out W q 0 _ rfl
      have n1 : W.cell? ⟨b, off + k * 6 + 1, none⟩ = some (.string ⟨x.1.2.1.toArray⟩) := HC.out W q 1 _ rfl
      have n2 : W.cell? ⟨b, off + k * 6 + 2, none⟩ = some (.string ⟨x.1.2.2.1.toArray⟩) := HC.out W q 2 _ rfl
      have n3 : W.cell? ⟨b, off + k * 6 + 3, none⟩ = some (ndV x) := HC.out W q 3 _ rfl
      have n4 : W.cell? ⟨b, off + k * 6 + 4, none⟩ = some (.string ⟨x.1.2.2.2.2.1.toArray⟩) := HC.out W q 4 _ rfl
      have n5 : W.cell? ⟨b, off + k * 6 + 5, none⟩ = some (.int .i64 x.1.2.2.2.2.2) := HC.out W q 5 _ rfl
      go_wp2_with fail
      refine (CMX.out W q).mono ?_
      rintro e w31 ⟨rfl, hb⟩
      clear c_v0 c_s0 c_f0 n0 n1 n2 n3 n4 n5
      replace bs := bs.ret hb
      replace q := bs.q
      clear hb
      have hM := H_hM.out
      clear H_hM
      have hP3 := H_hP3.out
      clear H_hP3
      obtain ⟨fr, hfr⟩ : ∃ fr, behF (T.map Prod.fst) (d - 1) = fr := ⟨_, rfl⟩
      rw [hfr] at hbe
      have HFR := Lib.hid hfr
      have HBE := Lib.hid hbe
      clear hbe hfr
      have c_v0 := bs.at 0 0 rfl rfl
      have c_s0 := bs.at 2 0 rfl rfl
      have c_f0 := bs.at 3 0 rfl rfl
      have n0 : w31.cell? ⟨b, off + k * 6, none⟩ = some (.int .u8 x.1.1) := HC.out w31 q 0 _ rfl
      have n1 : w31.cell? ⟨b, off + k * 6 + 1, none⟩ = some (.string ⟨x.1.2.1.toArray⟩) := HC.out w31 q 1 _ rfl
      have n2 : w31.cell? ⟨b, off + k * 6 + 2, none⟩ = some (.string ⟨x.1.2.2.1.toArray⟩) := HC.out w31 q 2 _ rfl
      have n3 : w31.cell? ⟨b, off + k * 6 + 3, none⟩ = some (ndV x) := HC.out w31 q 3 _ rfl
      have n4 : w31.cell? ⟨b, off + k * 6 + 4, none⟩ = some (.string ⟨x.1.2.2.2.2.1.toArray⟩) := HC.out w31 q 4 _ rfl
      have n5 : w31.cell? ⟨b, off + k * 6 + 5, none⟩ = some (.int .i64 x.1.2.2.2.2.2) := HC.out w31 q 5 _ rfl
      go_wp2_with fail
      clear c_v0 c_s0 c_f0 n0 n1 n2 n3 n4 n5
      go_loopw [8, 9, 53] (fun nx la i wx => ∃ (j : Nat) (y l : Int) (xs : List Value), nx = .int .i64 y ∧ la = .int .u8 l ∧ i = .int .i64 j ∧ j ≤ M ∧ -1 ≤ y ∧ y ≤ L ∧ kidsF fr (T.map Prod.fst) (M - j) y l = O ∧ xs.length = L ∧ Sx w0 [(B1, [.slice (some ⟨b, off, none⟩) L vc]), (E, xs), (B3, [.slice (some ⟨E, 0, none⟩) L L]), (B4, [bhF B1 B4 B3])] wx) (fun _ _ i _ => M - (intOf i).toNat)
      case atStart => exact ⟨0, k + 1, 1, xs, by go_num, rfl, rfl, Nat.zero_le _, by omega, by omega, HBE.out, HX.out, bs⟩
      case round =>
       clear bs q HX
       obtain ⟨j, y, l, xs, rfl, rfl, rfl, hj, hy1, hy2, hrel, hx, bs⟩ := hrel
       have q := bs.q
       have HX := Lib.hid hx
       clear hx
       by_cases hlt : j < M
       ·have := HZ.out
        omega
       ·obtain rfl : j = M := by omega
        rw [Nat.sub_self] at hrel
        obtain rfl : y = O := hrel
        have hjm : ¬ (j : Int) < x.1.2.2.2.2.2 := by omega
        by_cases hy : 0 ≤ y
        ·have hke : k < xs.length := by rw [HX.out]; exact hk
         have c_v0 := bs.at 0 0 rfl rfl
         have c_s0 := bs.at 2 0 rfl rfl
         have c_f0 := bs.at 3 0 rfl rfl
         have ce := bs.at 1 k rfl (List.getElem?_eq_getElem hke)
         have fe := bs.fz 1 k rfl (List.getElem?_eq_getElem hke)
         obtain ⟨W2, hW2, y2, bs2⟩ := bs.sets 1 k [.int .i64 y] rfl hke
         go_wp2_with fail
         simp only [World.setCells] at hW2
         rw [hW2]
         go_wp2_with fail
         go_ret
         exact ⟨rfl, setL xs k [.int .i64 y], by rw [setL_len]; exact HX.out, bs2⟩
        ·have hy0 : ¬ (0 : Int) ≤ y := hy
         have c_v0 := bs.at 0 0 rfl rfl
         have c_s0 := bs.at 2 0 rfl rfl
         have c_f0 := bs.at 3 0 rfl rfl
         go_wp2_with fail
         go_ret
         exact ⟨rfl, xs, HX.out, bs⟩
     | true =>
      cases P4 with
      | true =>
       clear hMt
       obtain rfl : -1 = O := hbe
       clear hmany
       have H_hM := Lib.hid hM
       clear hM
       have H_hP3 := Lib.hid hP3
       clear hP3
       have H_hP5 := Lib.hid hP5
       clear hP5
       have H_hP4 := Lib.hid hP4
       clear hP4
       go_enter Tryz.func246, Tryz.ntmps246
       have c_v0 := bs.at 0 0 rfl rfl
       have c_s0 := bs.at 2 0 rfl rfl
       have c_f0 := bs.at 3 0 rfl rfl
       have n0 : W.cell? ⟨b, off + k * 6, none⟩ = some (.int .u8 x.1.1) := HC.out W q 0 _ rfl
       have n1 : W.cell? ⟨b, off + k * 6 + 1, none⟩ = some (.string ⟨x.1.2.1.toArray⟩) := HC.out W q 1 _ rfl
       have n2 : W.cell? ⟨b, off + k * 6 + 2, none⟩ = some (.string ⟨x.1.2.2.1.toArray⟩) := HC.out W q 2 _ rfl
       have n3 : W.cell? ⟨b, off + k * 6 + 3, none⟩ = some (ndV x) := HC.out W q 3 _ rfl
       have n4 : W.cell? ⟨b, off + k * 6 + 4, none⟩ = some (.string ⟨x.1.2.2.2.2.1.toArray⟩) := HC.out W q 4 _ rfl
       have n5 : W.cell? ⟨b, off + k * 6 + 5, none⟩ = some (.int .i64 x.1.2.2.2.2.2) := HC.out W q 5 _ rfl
       go_wp2_with fail
       refine (CMX.out W q).mono ?_
       rintro e w31 ⟨rfl, hb⟩
       clear c_v0 c_s0 c_f0 n0 n1 n2 n3 n4 n5
       replace bs := bs.ret hb
       replace q := bs.q
       clear hb
       have hM := H_hM.out
       clear H_hM
       have hP3 := H_hP3.out
       clear H_hP3
       have hP5 := H_hP5.out
       clear H_hP5
       have hP4 := H_hP4.out
       clear H_hP4
       have c_v0 := bs.at 0 0 rfl rfl
       have c_s0 := bs.at 2 0 rfl rfl
       have c_f0 := bs.at 3 0 rfl rfl
       have n0 : w31.cell? ⟨b, off + k * 6, none⟩ = some (.int .u8 x.1.1) := HC.out w31 q 0 _ rfl
       have n1 : w31.cell? ⟨b, off + k * 6 + 1, none⟩ = some (.string ⟨x.1.2.1.toArray⟩) := HC.out w31 q 1 _ rfl
       have n2 : w31.cell? ⟨b, off + k * 6 + 2, none⟩ = some (.string ⟨x.1.2.2.1.toArray⟩) := HC.out w31 q 2 _ rfl
       have n3 : w31.cell? ⟨b, off + k * 6 + 3, none⟩ = some (ndV x) := HC.out w31 q 3 _ rfl
       have n4 : w31.cell? ⟨b, off + k * 6 + 4, none⟩ = some (.string ⟨x.1.2.2.2.2.1.toArray⟩) := HC.out w31 q 4 _ rfl
       have n5 : w31.cell? ⟨b, off + k * 6 + 5, none⟩ = some (.int .i64 x.1.2.2.2.2.2) := HC.out w31 q 5 _ rfl
       go_wp2_with fail
       clear c_v0 c_s0 c_f0 n0 n1 n2 n3 n4 n5
       go_ret
       exact ⟨rfl, xs, HX.out, bs⟩
      | false =>
       have hd0 : d ≠ 0 := by simpa using hP4
       clear hmany hMt
       have H_hM := Lib.hid hM
       clear hM
       have H_hP3 := Lib.hid hP3
       clear hP3
       go_enter Tryz.func246, Tryz.ntmps246
       have c_v0 := bs.at 0 0 rfl rfl
       have c_s0 := bs.at 2 0 rfl rfl
       have c_f0 := bs.at 3 0 rfl rfl
       have n0 : W.cell? ⟨b, off + k * 6, none⟩ = some (.int .u8 x.1.1) := HC.out W q 0 _ rfl
       have n1 : W.cell? ⟨b, off + k * 6 + 1, none⟩ = some (.string ⟨x.1.2.1.toArray⟩) := HC.out W q 1 _ rfl
       have n2 : W.cell? ⟨b, off + k * 6 + 2, none⟩ = some (.string ⟨x.1.2.2.1.toArray⟩) := HC.out W q 2 _ rfl
       have n3 : W.cell? ⟨b, off + k * 6 + 3, none⟩ = some (ndV x) := HC.out W q 3 _ rfl
       have n4 : W.cell? ⟨b, off + k * 6 + 4, none⟩ = some (.string ⟨x.1.2.2.2.2.1.toArray⟩) := HC.out W q 4 _ rfl
       have n5 : W.cell? ⟨b, off + k * 6 + 5, none⟩ = some (.int .i64 x.1.2.2.2.2.2) := HC.out W q 5 _ rfl
       go_wp2_with fail
       refine (CMX.out W q).mono ?_
       rintro e w31 ⟨rfl, hb⟩
       clear c_v0 c_s0 c_f0 n0 n1 n2 n3 n4 n5
       replace bs := bs.ret hb
       replace q := bs.q
       clear hb
       have hM := H_hM.out
       clear H_hM
       have hP3 := H_hP3.out
       clear H_hP3
       obtain ⟨fr, hfr⟩ : ∃ fr, behF (T.map Prod.fst) (d - 1) = fr := ⟨_, rfl⟩
       rw [hfr] at hbe
       have HFR := Lib.hid hfr
       have HBE := Lib.hid hbe
       clear hbe hfr
       have c_v0 := bs.at 0 0 rfl rfl
       have c_s0 := bs.at 2 0 rfl rfl
       have c_f0 := bs.at 3 0 rfl rfl
       have n0 : w31.cell? ⟨b, off + k * 6, none⟩ = some (.int .u8 x.1.1) := HC.out w31 q 0 _ rfl
       have n1 : w31.cell? ⟨b, off + k * 6 + 1, none⟩ = some (.string ⟨x.1.2.1.toArray⟩) := HC.out w31 q 1 _ rfl
       have n2 : w31.cell? ⟨b, off + k * 6 + 2, none⟩ = some (.string ⟨x.1.2.2.1.toArray⟩) := HC.out w31 q 2 _ rfl
       have n3 : w31.cell? ⟨b, off + k * 6 + 3, none⟩ = some (ndV x) := HC.out w31 q 3 _ rfl
       have n4 : w31.cell? ⟨b, off + k * 6 + 4, none⟩ = some (.string ⟨x.1.2.2.2.2.1.toArray⟩) := HC.out w31 q 4 _ rfl
       have n5 : w31.cell? ⟨b, off + k * 6 + 5, none⟩ = some (.int .i64 x.1.2.2.2.2.2) := HC.out w31 q 5 _ rfl
       go_wp2_with fail
       clear c_v0 c_s0 c_f0 n0 n1 n2 n3 n4 n5
       go_loopw [8, 9, 53] (fun nx la i wx => ∃ (j : Nat) (y l : Int) (xs : List Value), nx = .int .i64 y ∧ la = .int .u8 l ∧ i = .int .i64 j ∧ j ≤ M ∧ -1 ≤ y ∧ y ≤ L ∧ kidsF fr (T.map Prod.fst) (M - j) y l = O ∧ xs.length = L ∧ Sx w0 [(B1, [.slice (some ⟨b, off, none⟩) L vc]), (E, xs), (B3, [.slice (some ⟨E, 0, none⟩) L L]), (B4, [bhF B1 B4 B3])] wx) (fun _ _ i _ => M - (intOf i).toNat)
       case atStart => exact ⟨0, k + 1, 1, xs, by go_num, rfl, rfl, Nat.zero_le _, by omega, by omega, HBE.out, HX.out, bs⟩
       case round =>
        clear bs q HX
        obtain ⟨j, y, l, xs, rfl, rfl, rfl, hj, hy1, hy2, hrel, hx, bs⟩ := hrel
        have q := bs.q
        have HX := Lib.hid hx
        clear hx
        by_cases hlt : j < M
        ·have hjm : (j : Int) < x.1.2.2.2.2.2 := by omega
         obtain ⟨m, hm⟩ : ∃ m, M - j = m + 1 := ⟨M - j - 1, by omega⟩
         rw [hm] at hrel
         by_cases hy : y < 0
         ·rw [kidsF_neg hy] at hrel
          subst hrel
          have c_v0 := bs.at 0 0 rfl rfl
          have c_s0 := bs.at 2 0 rfl rfl
          have c_f0 := bs.at 3 0 rfl rfl
          go_wp2_with fail
          clear c_v0 c_s0 c_f0
          go_ret
          exact ⟨rfl, xs, HX.out, bs⟩
         ·obtain ⟨z, rfl⟩ : ∃ z : Nat, y = z := ⟨y.toNat, by omega⟩
          by_cases hz : z < L
          ·have hzM : z < T.length := by rw [HL.out]; exact hz
           obtain ⟨x2, hx2⟩ : ∃ x2, T[z] = x2 := ⟨_, rfl⟩
           have hkx2 : T[z]? = some x2 := by rw [List.getElem?_eq_getElem hzM, hx2]
           obtain ⟨b2, off2, cp2, hv2, -, hc2⟩ := HV.out.cells hkx2
           rw [HL.out] at hv2
           simp only [Value.slice.injEq, true_and, Option.some.injEq, Addr.mk.injEq, and_true] at hv2
           obtain ⟨⟨rfl, rfl⟩, rfl⟩ := hv2
           have HC2 := Lib.hid hc2
           rw [kidsF_at (n := x2.1) (by rw [List.getElem?_map, hkx2]; rfl)] at hrel
           obtain ⟨C1, hC1⟩ : ∃ C, (l == 2) = C := ⟨_, rfl⟩
           obtain ⟨C2, hC2⟩ : ∃ C, (x2.1.1 == l) = C := ⟨_, rfl⟩
           rw [hC1, hC2] at hrel
           have HR := Lib.hid hrel
           have RC := Lib.hid (REC.out (d - 1) (by omega))
           have HMJ := Lib.hid hm
           clear hc2 hkx2 hx2 hzM hrel hm
           cases C1 with
           | false =>
            have c_v0 := bs.at 0 0 rfl rfl
            have c_s0 := bs.at 2 0 rfl rfl
            have c_f0 := bs.at 3 0 rfl rfl
            have n0 : wr.cell? ⟨b, off + z * 6, none⟩ = some (.int .u8 x2.1.1) := HC2.out wr q 0 _ rfl
            have n1 : wr.cell? ⟨b, off + z * 6 + 1, none⟩ = some (.string ⟨x2.1.2.1.toArray⟩) := HC2.out wr q 1 _ rfl
            have n2 : wr.cell? ⟨b, off + z * 6 + 2, none⟩ = some (.string ⟨x2.1.2.2.1.toArray⟩) := HC2.out wr q 2 _ rfl
            have n3 : wr.cell? ⟨b, off + z * 6 + 3, none⟩ = some (ndV x2) := HC2.out wr q 3 _ rfl
            have n4 : wr.cell? ⟨b, off + z * 6 + 4, none⟩ = some (.string ⟨x2.1.2.2.2.2.1.toArray⟩) := HC2.out wr q 4 _ rfl
            have n5 : wr.cell? ⟨b, off + z * 6 + 5, none⟩ = some (.int .i64 x2.1.2.2.2.2.2) := HC2.out wr q 5 _ rfl
            have CR := Lib.hid (RC.out z wr xs (by omega) (by omega) HX.out bs)
            have e1 : ((d - 1 : Nat) : Int) = (d : Int) - 1 := by omega
            rw [e1, HFR.out] at CR
            clear e1
            go_wp2_with fail
            refine CR.out.mono ?_
            rintro e w60 ⟨rfl, xs2, hx2, bs2⟩
            clear c_v0 c_s0 c_f0 n0 n1 n2 n3 n4 n5
            have hr := behF_range (T.map Prod.fst) (d - 1) z
            rw [HML.out, HFR.out] at hr
            have hjb : (j : Int) + 1 ≤ 9223372036854775807 := by have := hmx; have h2 : ndMany x.1 = M := hM; omega
            go_wp2_with fail
            go_roundw
            case rel => exact ⟨j + 1, fr z, x2.1.1, xs2, rfl, rfl, by go_num, by omega, hr.1, hr.2, by rw [show M - (j + 1) = m by have := HMJ.out; omega]; exact HR.out, hx2, bs2⟩
            case measure => simp [intOf]; omega
           | true =>
            cases C2 with
            | true =>
             have c_v0 := bs.at 0 0 rfl rfl
             have c_s0 := bs.at 2 0 rfl rfl
             have c_f0 := bs.at 3 0 rfl rfl
             have n0 : wr.cell? ⟨b, off + z * 6, none⟩ = some (.int .u8 x2.1.1) := HC2.out wr q 0 _ rfl
             have n1 : wr.cell? ⟨b, off + z * 6 + 1, none⟩ = some (.string ⟨x2.1.2.1.toArray⟩) := HC2.out wr q 1 _ rfl
             have n2 : wr.cell? ⟨b, off + z * 6 + 2, none⟩ = some (.string ⟨x2.1.2.2.1.toArray⟩) := HC2.out wr q 2 _ rfl
             have n3 : wr.cell? ⟨b, off + z * 6 + 3, none⟩ = some (ndV x2) := HC2.out wr q 3 _ rfl
             have n4 : wr.cell? ⟨b, off + z * 6 + 4, none⟩ = some (.string ⟨x2.1.2.2.2.2.1.toArray⟩) := HC2.out wr q 4 _ rfl
             have n5 : wr.cell? ⟨b, off + z * 6 + 5, none⟩ = some (.int .i64 x2.1.2.2.2.2.2) := HC2.out wr q 5 _ rfl
             obtain rfl : -1 = O := HR.out
             go_wp2_with fail
             clear c_v0 c_s0 c_f0 n0 n1 n2 n3 n4 n5
             go_ret
             exact ⟨rfl, xs, HX.out, bs⟩
            | false =>
             have c_v0 := bs.at 0 0 rfl rfl
             have c_s0 := bs.at 2 0 rfl rfl
             have c_f0 := bs.at 3 0 rfl rfl
             have n0 : wr.cell? ⟨b, off + z * 6, none⟩ = some (.int .u8 x2.1.1) := HC2.out wr q 0 _ rfl
             have n1 : wr.cell? ⟨b, off + z * 6 + 1, none⟩ = some (.string ⟨x2.1.2.1.toArray⟩) := HC2.out wr q 1 _ rfl
             have n2 : wr.cell? ⟨b, off + z * 6 + 2, none⟩ = some (.string ⟨x2.1.2.2.1.toArray⟩) := HC2.out wr q 2 _ rfl
             have n3 : wr.cell? ⟨b, off + z * 6 + 3, none⟩ = some (ndV x2) := HC2.out wr q 3 _ rfl
             have n4 : wr.cell? ⟨b, off + z * 6 + 4, none⟩ = some (.string ⟨x2.1.2.2.2.2.1.toArray⟩) := HC2.out wr q 4 _ rfl
             have n5 : wr.cell? ⟨b, off + z * 6 + 5, none⟩ = some (.int .i64 x2.1.2.2.2.2.2) := HC2.out wr q 5 _ rfl
             have CR := Lib.hid (RC.out z wr xs (by omega) (by omega) HX.out bs)
             have e1 : ((d - 1 : Nat) : Int) = (d : Int) - 1 := by omega
             rw [e1, HFR.out] at CR
             clear e1
             go_wp2_with fail
             refine CR.out.mono ?_
             rintro e w60 ⟨rfl, xs2, hx2, bs2⟩
             clear c_v0 c_s0 c_f0 n0 n1 n2 n3 n4 n5
             have hr := behF_range (T.map Prod.fst) (d - 1) z
             rw [HML.out, HFR.out] at hr
             have hjb : (j : Int) + 1 ≤ 9223372036854775807 := by have := hmx; have h2 : ndMany x.1 = M := hM; omega
             go_wp2_with fail
             go_roundw
             case rel => exact ⟨j + 1, fr z, x2.1.1, xs2, rfl, rfl, by go_num, by omega, hr.1, hr.2, by rw [show M - (j + 1) = m by have := HMJ.out; omega]; exact HR.out, hx2, bs2⟩
             case measure => simp [intOf]; omega
          ·obtain rfl : z = L := by omega
           rw [kidsF_out (by rw [HML.out]; exact Nat.le_refl _)] at hrel
           subst hrel
           have c_v0 := bs.at 0 0 rfl rfl
           have c_s0 := bs.at 2 0 rfl rfl
           have c_f0 := bs.at 3 0 rfl rfl
           go_wp2_with fail
           clear c_v0 c_s0 c_f0
           go_ret
           exact ⟨rfl, xs, HX.out, bs⟩
        ·obtain rfl : j = M := by omega
         rw [Nat.sub_self] at hrel
         obtain rfl : y = O := hrel
         have hjm : ¬ (j : Int) < x.1.2.2.2.2.2 := by omega
         by_cases hy : 0 ≤ y
         ·have hke : k < xs.length := by rw [HX.out]; exact hk
          have c_v0 := bs.at 0 0 rfl rfl
          have c_s0 := bs.at 2 0 rfl rfl
          have c_f0 := bs.at 3 0 rfl rfl
          have ce := bs.at 1 k rfl (List.getElem?_eq_getElem hke)
          have fe := bs.fz 1 k rfl (List.getElem?_eq_getElem hke)
          obtain ⟨W2, hW2, y2, bs2⟩ := bs.sets 1 k [.int .i64 y] rfl hke
          go_wp2_with fail
          simp only [World.setCells] at hW2
          rw [hW2]
          go_wp2_with fail
          go_ret
          exact ⟨rfl, setL xs k [.int .i64 y], by rw [setL_len]; exact HX.out, bs2⟩
         ·have hy0 : ¬ (0 : Int) ≤ y := hy
          have c_v0 := bs.at 0 0 rfl rfl
          have c_s0 := bs.at 2 0 rfl rfl
          have c_f0 := bs.at 3 0 rfl rfl
          go_wp2_with fail
          go_ret
          exact ⟨rfl, xs, HX.out, bs⟩
  ·obtain rfl : k = L := by omega
   rw [behF_out (by rw [HML.out]; exact Nat.le_refl _)] at hO
   subst hO
   go_enter Tryz.func246, Tryz.ntmps246
   have c_v0 := bs.at 0 0 rfl rfl
   have c_s0 := bs.at 2 0 rfl rfl
   have c_f0 := bs.at 3 0 rfl rfl
   go_wp2_with fail
   clear c_v0 c_s0 c_f0
   go_ret
   exact ⟨rfl, xs, HX.out, bs⟩
end Go.Proofs.YtjgeiieiinmdnaaGreatDoor
namespace Go.Proofs.YtjgeiieiinmdnaaGreatDoor
open Go.RowKit Go.Lib

theorem vinfo_i64 : (Tryz.prog.info? 3).map (fun i => (i.zero, i.size, i.bytes)) = some (some (.int .i64 0), 1, 8) := by kernel_rfl
theorem made_one (z : Value) (n : Nat) : madeCells #[z] n = (List.replicate n z).toArray := by
 apply Array.ext
 ·simp [madeCells]
 ·intro i h1 h2
  simp [madeCells, Nat.mod_one]
theorem mk_i64 (n : Nat) (hn : n ≤ 100000) (w : World) : (Instr.makeSlice 202 (.int .i64 n) (.int .i64 n)).run Tryz.prog w = .ok (.slice (some ⟨w.heap.size, 0, none⟩) n n) (w.alloc (.cells (List.replicate n (Value.int .i64 0)).toArray 3)) := by
 obtain ⟨i0, hi, hz0, hz1, hz2⟩ := info_parts vinfo_i64
 have h := run_makeSlice (P := Tryz.prog) w 202 3 i0 (.int .i64 0) Tryz.underlying202 hi hz0 .i64 .i64 n n (by omega) (Int.le_refl _) (by rw [hz1]; simp; omega) (by rw [hz2]; omega) (by omega)
 rw [hz1] at h
 simp only [Int.toNat_natCast, Nat.mul_one] at h
 rw [← made_one]
 exact h
theorem tr_walk (T : List NdI) (va : Option Addr) (L vc B1 E B3 B4 : Nat) (w0 : World) (hv : IsL ndY (.slice va L vc) T w0) (hL : T.length = L) (hL5 : L ≤ 512) (hmm : ∀ x ∈ T, ndMany x.1 ≤ 9223372036854775807)
  (CM : ∀ x ∈ T, ∀ W, Below w0.heap.size w0 W → Calls Tryz.prog 247 #[.agg #[.int .u8 x.1.1, .string ⟨x.1.2.1.toArray⟩, .string ⟨x.1.2.2.1.toArray⟩, ndV x, .string ⟨x.1.2.2.2.2.1.toArray⟩, .int .i64 x.1.2.2.2.2.2]] W (Ret W (.bool (mayNd x.1)))) : ∀ d, d ≤ 12 → WalkC T va L vc B1 E B3 B4 w0 d := by
 intro d
 induction d with
 | zero => exact fun h => tr_walk_v T va L vc B1 E B3 B4 0 w0 hv hL hL5 h hmm CM fun d' hd' => by omega
 | succ d ih =>
  exact fun h => tr_walk_v T va L vc B1 E B3 B4 (d + 1) w0 hv hL hL5 h hmm CM fun d' hd' => by
   obtain rfl : d' = d := by omega
   exact ih (by omega)
def headK (v : List Nd) : Int := (v.head?.map (·.1)).getD 0
def treeF (v : List Nd) : Bool := !v.isEmpty && (decide (v.length ≤ 512) && ((headK v == 1) && (behF v 12 0 == (v.length : Int))))
/-- what behind answers. -/
def BehIs (w : World) (b : Bool) (L : Nat) (e : Ending) (w' : World) : Prop := (∃ v, e = .returned v ∧ (b = false ∧ v = .slice none 0 0 ∨ b = true ∧ ∃ E, v = .slice (some E) L L)) ∧ Below w.heap.size w w'
set_option maxHeartbeats 4000000 in
set_option maxRecDepth 100000 in
theorem tr_behind (T : List NdI) (va : Option Addr) (L vc : Nat) (w : World) (hv : IsL ndY (.slice va L vc) T w) (hL : T.length = L) (hmm : ∀ x ∈ T, ndMany x.1 ≤ 9223372036854775807)
  (CM : ∀ x ∈ T, ∀ W, Below w.heap.size w W → Calls Tryz.prog 247 #[.agg #[.int .u8 x.1.1, .string ⟨x.1.2.1.toArray⟩, .string ⟨x.1.2.2.1.toArray⟩, ndV x, .string ⟨x.1.2.2.2.2.1.toArray⟩, .int .i64 x.1.2.2.2.2.2]] W (Ret W (.bool (mayNd x.1)))) : Calls Tryz.prog 216 #[.slice va L vc] w (BehIs w (treeF (T.map Prod.fst)) L) := by
 obtain ⟨O, hO⟩ : ∃ O, treeF (T.map Prod.fst) = O := ⟨_, rfl⟩
 rw [hO]
 unfold treeF at hO
 have hml : (T.map Prod.fst).length = L := by rw [List.length_map, hL]
 rw [hml] at hO
 by_cases h0 : L = 0
 ·subst h0
  have e : T = [] := List.eq_nil_of_length_eq_zero hL
  rw [e] at hO
  obtain rfl : false = O := hO
  clear e hL hmm CM hml
  obtain ⟨W0, hW, y0, bs⟩ := Sx.start1 w [.slice va 0 vc] 108
  have HW := Lib.hid hW
  clear hW
  have q := bs.q
  go_enter Tryz.func216, Tryz.ntmps216
  go_upto_region 1 with fail
  rw [HW.out]
  have c_v0 := bs.at 0 0 rfl rfl
  go_wp2_with fail
  go_ret
  exact ⟨⟨_, rfl, .inl ⟨rfl, rfl⟩⟩, q⟩
 by_cases h5 : L ≤ 512
 ·have hk0 : 0 < T.length := by omega
  obtain ⟨x, hx⟩ : ∃ x, T[0] = x := ⟨_, rfl⟩
  have hkx : T[0]? = some x := by rw [List.getElem?_eq_getElem hk0, hx]
  obtain ⟨b, off, cp, hf, -, hc⟩ := hv.cells hkx
  rw [hL] at hf
  simp only [Value.slice.injEq, true_and] at hf
  obtain ⟨rfl, rfl⟩ := hf
  have hk : headK (T.map Prod.fst) = x.1.1 := by unfold headK; rw [List.head?_map, List.head?_eq_getElem?, hkx]; rfl
  have hie : (T.map Prod.fst).isEmpty = false := by cases hT : T.map Prod.fst with | nil => rw [hT] at hml; simp at hml; omega | cons _ _ => rfl
  rw [hk, hie, decide_eq_true h5, Bool.not_false, Bool.true_and, Bool.true_and] at hO
  obtain ⟨K, hK1⟩ : ∃ K, (x.1.1 == 1) = K := ⟨_, rfl⟩
  rw [hK1] at hO
  have hK2 : (x.1.1 != 1) = !K := by rw [← hK1]; rfl
  have HC := Lib.hid hc
  have c5 : ¬ (512 : Int) < (L : Int) := by omega
  have c0 : ((L : Int) == 0) = false := beq_eq_false_iff_ne.2 (by omega)
  clear hc hkx hx hk hie hk0
  cases K with
  | false =>
   obtain rfl : false = O := hO
   clear hv hL hmm CM hml
   obtain ⟨W0, hW, y0, bs⟩ := Sx.start1 w [.slice (some ⟨b, off, none⟩) L vc] 108
   have HW := Lib.hid hW
   clear hW
   have q := bs.q
   go_enter Tryz.func216, Tryz.ntmps216
   go_upto_region 1 with fail
   rw [HW.out]
   have c_v0 := bs.at 0 0 rfl rfl
   have n0 : W0.cell? ⟨b, off, none⟩ = some (.int .u8 x.1.1) := HC.out W0 q 0 _ rfl
   go_wp2_with fail
   go_ret
   exact ⟨⟨_, rfl, .inl ⟨rfl, rfl⟩⟩, q⟩
  | true =>
   rw [Bool.true_and] at hO
   have WK := Lib.hid (tr_walk T (some ⟨b, off, none⟩) L vc w.heap.size (w.heap.size + 1) (w.heap.size + 1 + 1) (w.heap.size + 1 + 1 + 1) w hv hL h5 hmm CM 12 (Nat.le_refl _))
   have hr := behF_range (T.map Prod.fst) 12 0
   rw [hml] at hr
   obtain ⟨Z, hZ⟩ : ∃ Z, behF (T.map Prod.fst) 12 0 = Z := ⟨_, rfl⟩
   rw [hZ] at hr hO
   have HO := Lib.hid hO
   have HZ := Lib.hid hZ
   have en := e_behind1
   have mk := mk_i64 L (by omega)
   clear hv hL hmm CM hml hO hZ
   obtain ⟨W0, hW, y0, bs⟩ := Sx.start1 w [.slice (some ⟨b, off, none⟩) L vc] 108
   have HW := Lib.hid hW
   clear hW
   have q := bs.q
   go_enter Tryz.func216, Tryz.ntmps216
   go_upto_region 1 with fail
   rw [HW.out]
   have c_v0 := bs.at 0 0 rfl rfl
   have n0 : W0.cell? ⟨b, off, none⟩ = some (.int .u8 x.1.1) := HC.out W0 q 0 _ rfl
   go_wp2_with fail
   clear c_v0
   clear n0
   obtain ⟨w2, hw2, y2, al, bs⟩ := bs.alloc (w.heap.size + 1) y0 (List.replicate L (Value.int .i64 0)) 3
   clear al
   obtain ⟨w3, hw3, y3, al, bs⟩ := bs.alloc (w.heap.size + 1 + 1) y2 [.slice (some ⟨w.heap.size + 1, 0, none⟩) L L] 202
   clear al
   obtain ⟨w4, hw4, y4, al, bs⟩ := bs.alloc (w.heap.size + 1 + 1 + 1) y3 [bhF w.heap.size (w.heap.size + 1 + 1 + 1) (w.heap.size + 1 + 1)] 229
   clear al
   rw [List.toArray_replicate] at hw2
   simp only [bhF] at hw4
   rw [hw2, hw3, hw4]
   replace q := bs.q
   replace bs := bs.ret (Below.drew (Below.refl _ _))
   replace q := bs.q
   have y11 : w4.drew.heap.size = w4.heap.size := rfl
   refine wp_region_held_drew (S := fun w' => w'.cell? ⟨w.heap.size, 0, none⟩ = some (.slice (some ⟨b, off, none⟩) L vc) ∧ w'.cell? ⟨w.heap.size + 1 + 1 + 1, 0, none⟩ = some (bhF w.heap.size (w.heap.size + 1 + 1 + 1) (w.heap.size + 1 + 1))) (by kernel_rfl) ⟨bs.at 0 0 rfl rfl, bs.at 3 0 rfl rfl⟩ (fun hHeld => ?_)
   generalize w4.drew = w11 at bs q y11 hHeld ⊢
   refine tk_start [(0, some 24), (2, some 26), (3, some 27)] ?_
   iterate 3
    refine tk_step (v := ?_) (by kernel_rfl) (by kernel_rfl) (fun _ _ _ h => h) (by assumption) (fun o ho w' hSw => ?_) ?_
    rotate_left
    ·simp only [List.getElem?_toArray, List.getElem?_cons_succ, List.getElem?_cons_zero, Option.some.injEq] at ho; subst ho; (try dsimp only at hSw); go_simp; try with_reducible rfl
    simp only [Act.put, List.setIfInBounds_toArray, List.set_cons_zero, List.set_cons_succ]
   refine tk_end ?_
   refine tk_call (i := 1) (by kernel_rfl) (by kernel_rfl) (fun o ho K hK => ?_)
   simp only [List.getElem?_toArray, List.getElem?_cons_succ, List.getElem?_cons_zero, Option.some.injEq] at ho
   subst ho
   go_simp
   have CW := WK.out 0 w11 (List.replicate L (Value.int .i64 0)) (by omega) (by omega) (by simp) bs
   rw [HZ.out] at CW
   replace CW := Lib.hid CW
   refine CW.out.mono ?_
   rintro e w9 ⟨rfl, xs2, hx2, bs2⟩
   clear bs q
   have bs := bs2
   clear bs2
   have q := bs.q
   go_simp
   clear hHeld
   refine hK.out _ _ ⟨bs.at 0 0 rfl rfl, bs.at 3 0 rfl rfl⟩ (fun hHeld => ?_)
   clear hK K
   refine tk_on (i := 4) (some 28) (v := ?_) (by kernel_rfl) (by kernel_rfl) (by kernel_rfl) (by kernel_rfl) (fun _ _ _ h => h) (by assumption) (fun o ho w' hSw => ?_) ?_
   rotate_left
   ·(simp only [List.getElem?_toArray, List.getElem?_cons_succ, List.getElem?_cons_zero, Option.some.injEq] at ho; subst ho; (try dsimp only at hSw); go_simp; try with_reducible rfl)
   simp only [Act.put, List.setIfInBounds_toArray, List.set_cons_zero, List.set_cons_succ]
   refine wpAnyH_done (by kernel_rfl) ?_ _
   clear hHeld
   cases O with
   | true =>
    have hne : (Z != (L : Int)) = false := by rw [bne, HO.out]; rfl
    have c_s0 := bs.at 2 0 rfl rfl
    go_wp2_with fail
    clear c_s0
    go_ret
    exact ⟨⟨_, rfl, .inr ⟨rfl, _, rfl⟩⟩, q⟩
   | false =>
    have hne : (Z != (L : Int)) = true := by rw [bne, HO.out]; rfl
    have c_s0 := bs.at 2 0 rfl rfl
    go_wp2_with fail
    clear c_s0
    go_ret
    exact ⟨⟨_, rfl, .inl ⟨rfl, rfl⟩⟩, q⟩
 ·obtain rfl : false = O := by rw [← hO, decide_eq_false h5]; simp
  have c5 : (512 : Int) < (L : Int) := by omega
  have c0 : ((L : Int) == 0) = false := beq_eq_false_iff_ne.2 (by omega)
  clear hv hL hmm CM hml hO
  obtain ⟨W0, hW, y0, bs⟩ := Sx.start1 w [.slice va L vc] 108
  have HW := Lib.hid hW
  clear hW
  have q := bs.q
  go_enter Tryz.func216, Tryz.ntmps216
  go_upto_region 1 with fail
  rw [HW.out]
  have c_v0 := bs.at 0 0 rfl rfl
  go_wp2_with fail
  go_ret
  exact ⟨⟨_, rfl, .inl ⟨rfl, rfl⟩⟩, q⟩
end Go.Proofs.YtjgeiieiinmdnaaGreatDoor
namespace Go.Proofs.YtjgeiieiinmdnaaGreatDoor
open Go.RowKit Go.Lib

abbrev xmlT : List UInt8 := [104, 116, 116, 112, 58, 47, 47, 119, 119, 119, 46, 119, 51, 46, 111, 114, 103, 47, 88, 77, 76, 47, 49, 57, 57, 56, 47, 110, 97, 109, 101, 115, 112, 97, 99, 101]
abbrev xmlnsT : List UInt8 := [104, 116, 116, 112, 58, 47, 47, 119, 119, 119, 46, 119, 51, 46, 111, 114, 103, 47, 50, 48, 48, 48, 47, 120, 109, 108, 110, 115, 47]
def givenF (s : List UInt8) : Bool := s == xmlT || s == xmlnsT
def atOdd (a : At) : Bool := !lxName a.2.1 || ((a.1.isEmpty && a.2.1 == [120, 109, 108, 110, 115]) || a.1 == xmlnsT)
def ndOdd (n : Nd) : Bool := ((n.1 == 1) && !lxName n.2.2.1) || (givenF n.2.1 || n.2.2.2.1.any atOdd)
/-- may a tree be, that is told with namespaces. -/
def spaceF (v : List Nd) : Bool := !v.any ndOdd && treeF v
theorem eqb_lit (a b : List UInt8) : ((⟨a.toArray⟩ : ByteArray).toList == b) = (a == b) := by simp
set_option maxRecDepth 100000 in
theorem sp_given_v (S : ByteArray) (A B : Bool) (w : World) (h1 : (S.toList == [104, 116, 116, 112, 58, 47, 47, 119, 119, 119, 46, 119, 51, 46, 111, 114, 103, 47, 88, 77, 76, 47, 49, 57, 57, 56, 47, 110, 97, 109, 101, 115, 112, 97, 99, 101]) = A) (h2 : (S.toList == [104, 116, 116, 112, 58, 47, 47, 119, 119, 119, 46, 119, 51, 46, 111, 114, 103, 47, 50, 48, 48, 48, 47, 120, 109, 108, 110, 115, 47]) = B) : Calls Tryz.prog 179 #[.string S] w fun e w' => e = .returned (.bool (A || B)) ∧ w' = w := by
 cases A with
 | true =>
  go_enter Tryz.func179, Tryz.ntmps179
  go_wp2_with fail
  go_ret
  exact ⟨rfl, rfl⟩
 | false =>
  cases B with
  | true =>
   go_enter Tryz.func179, Tryz.ntmps179
   go_wp2_with fail
   go_ret
   exact ⟨rfl, rfl⟩
  | false =>
   go_enter Tryz.func179, Tryz.ntmps179
   go_wp2_with fail
   go_ret
   exact ⟨rfl, rfl⟩
theorem sp_given (s : List UInt8) (w : World) : Calls Tryz.prog 179 #[.string ⟨s.toArray⟩] w (Ret w (.bool (givenF s))) :=
 (sp_given_v ⟨s.toArray⟩ _ _ w (eqb_lit s _) (eqb_lit s _)).mono fun e w' ⟨h1, h2⟩ => ⟨h1, by rw [h2]; exact Below.refl _ _⟩
set_option maxHeartbeats 1000000 in
set_option maxRecDepth 100000 in
theorem sp_attr_v (S NM V : ByteArray) (A B C D : Bool) (w : World) (h2 : S.toList.isEmpty = B) (h3 : (NM.toList == [120, 109, 108, 110, 115]) = C) (h4 : (S.toList == [104, 116, 116, 112, 58, 47, 47, 119, 119, 119, 46, 119, 51, 46, 111, 114, 103, 47, 50, 48, 48, 48, 47, 120, 109, 108, 110, 115, 47]) = D)
  (CN : ∀ W, Calls Tryz.prog 177 #[.string NM] W (Ret W (.bool A))) :
  Calls Tryz.prog 176 #[.agg #[.string S, .string NM, .string V]] w (Ret w (.bool (!A || ((B && C) || D)))) := by
 have CN := Lib.hid CN
 have h2 := Lib.hid h2
 cases A with
 | false =>
  obtain ⟨W0, hW, y0, bs⟩ := Sx.start1 w [.string S, .string NM, .string V] 160
  have HW := Lib.hid hW
  clear hW
  have q := bs.q
  go_enter Tryz.func176, Tryz.ntmps176
  go_wp2_with fail
  rw [HW.out]
  have c_a0 := bs.at 0 0 rfl rfl
  have c_a1 := bs.at 0 1 rfl rfl
  have c_a2 := bs.at 0 2 rfl rfl
  go_wp2_with fail
  refine (CN.out W0).mono ?_
  rintro e w1 ⟨rfl, hb⟩
  clear c_a0 c_a1 c_a2
  replace bs := bs.ret hb
  replace q := bs.q
  clear hb
  have c_a0 := bs.at 0 0 rfl rfl
  have c_a1 := bs.at 0 1 rfl rfl
  have c_a2 := bs.at 0 2 rfl rfl
  go_wp2_with fail
  clear c_a0 c_a1 c_a2
  go_ret
  exact ⟨rfl, q⟩
 | true =>
  cases B with
  | true =>
   obtain rfl := str_nil h2.out
   obtain rfl : D = false := by rw [← h4]; simp
   clear h2
   cases C with
   | true =>
    obtain ⟨W0, hW, y0, bs⟩ := Sx.start1 w [.string ⟨#[]⟩, .string NM, .string V] 160
    have HW := Lib.hid hW
    clear hW
    have q := bs.q
    go_enter Tryz.func176, Tryz.ntmps176
    go_wp2_with fail
    rw [HW.out]
    have c_a0 := bs.at 0 0 rfl rfl
    have c_a1 := bs.at 0 1 rfl rfl
    have c_a2 := bs.at 0 2 rfl rfl
    go_wp2_with fail
    refine (CN.out W0).mono ?_
    rintro e w1 ⟨rfl, hb⟩
    clear c_a0 c_a1 c_a2
    replace bs := bs.ret hb
    replace q := bs.q
    clear hb
    have c_a0 := bs.at 0 0 rfl rfl
    have c_a1 := bs.at 0 1 rfl rfl
    have c_a2 := bs.at 0 2 rfl rfl
    go_wp2_with fail
    clear c_a0 c_a1 c_a2
    go_ret
    exact ⟨rfl, q⟩
   | false =>
    obtain ⟨W0, hW, y0, bs⟩ := Sx.start1 w [.string ⟨#[]⟩, .string NM, .string V] 160
    have HW := Lib.hid hW
    clear hW
    have q := bs.q
    go_enter Tryz.func176, Tryz.ntmps176
    go_wp2_with fail
    rw [HW.out]
    have c_a0 := bs.at 0 0 rfl rfl
    have c_a1 := bs.at 0 1 rfl rfl
    have c_a2 := bs.at 0 2 rfl rfl
    go_wp2_with fail
    refine (CN.out W0).mono ?_
    rintro e w1 ⟨rfl, hb⟩
    clear c_a0 c_a1 c_a2
    replace bs := bs.ret hb
    replace q := bs.q
    clear hb
    have c_a0 := bs.at 0 0 rfl rfl
    have c_a1 := bs.at 0 1 rfl rfl
    have c_a2 := bs.at 0 2 rfl rfl
    go_wp2_with fail
    clear c_a0 c_a1 c_a2
    go_ret
    exact ⟨rfl, q⟩
  | false =>
   have p2 := str_pos h2.out
   have e2 := isEmpty_of_pos (s := S) p2
   have f2 := ne_nil_of_pos (s := S) p2
   clear h3
   cases D with
   | true =>
    obtain ⟨W0, hW, y0, bs⟩ := Sx.start1 w [.string S, .string NM, .string V] 160
    have HW := Lib.hid hW
    clear hW
    have q := bs.q
    go_enter Tryz.func176, Tryz.ntmps176
    go_wp2_with fail
    rw [HW.out]
    have c_a0 := bs.at 0 0 rfl rfl
    have c_a1 := bs.at 0 1 rfl rfl
    have c_a2 := bs.at 0 2 rfl rfl
    go_wp2_with fail
    refine (CN.out W0).mono ?_
    rintro e w1 ⟨rfl, hb⟩
    clear c_a0 c_a1 c_a2
    replace bs := bs.ret hb
    replace q := bs.q
    clear hb
    have c_a0 := bs.at 0 0 rfl rfl
    have c_a1 := bs.at 0 1 rfl rfl
    have c_a2 := bs.at 0 2 rfl rfl
    go_wp2_with fail
    clear c_a0 c_a1 c_a2
    go_ret
    exact ⟨rfl, q⟩
   | false =>
    obtain ⟨W0, hW, y0, bs⟩ := Sx.start1 w [.string S, .string NM, .string V] 160
    have HW := Lib.hid hW
    clear hW
    have q := bs.q
    go_enter Tryz.func176, Tryz.ntmps176
    go_wp2_with fail
    rw [HW.out]
    have c_a0 := bs.at 0 0 rfl rfl
    have c_a1 := bs.at 0 1 rfl rfl
    have c_a2 := bs.at 0 2 rfl rfl
    go_wp2_with fail
    refine (CN.out W0).mono ?_
    rintro e w1 ⟨rfl, hb⟩
    clear c_a0 c_a1 c_a2
    replace bs := bs.ret hb
    replace q := bs.q
    clear hb
    have c_a0 := bs.at 0 0 rfl rfl
    have c_a1 := bs.at 0 1 rfl rfl
    have c_a2 := bs.at 0 2 rfl rfl
    go_wp2_with fail
    clear c_a0 c_a1 c_a2
    go_ret
    exact ⟨rfl, q⟩
theorem e_spAttr : ∀ args w, (callFunc 176 args).run Tryz.prog w = .ok (.enter 176 args) w := enters_of Tryz.func176 (by kernel_rfl) rfl
theorem lx_Name_ret (s : List UInt8) (w : World) (hs : s.length ≤ 1000000) : Calls Tryz.prog 177 #[.string ⟨s.toArray⟩] w (Ret w (.bool (lxName s))) :=
 (lx_Name ⟨s.toArray⟩ w (by show s.toArray.size ≤ _; simpa using hs)).mono fun e w' ⟨h1, h2⟩ => ⟨h1, by rw [h2]; exact Below.refl _ _⟩
theorem sp_attr (x : At) (w : World) (h : x.2.1.length ≤ 10000) : Calls Tryz.prog 176 #[atG x] w (Ret w (.bool (atOdd x))) := by
 unfold atOdd
 exact sp_attr_v ⟨x.1.toArray⟩ ⟨x.2.1.toArray⟩ ⟨x.2.2.toArray⟩ _ _ _ _ w (by simp) (eqb_lit _ _) (eqb_lit _ _) fun W => lx_Name_ret x.2.1 W (by omega)
set_option maxHeartbeats 1000000 in
set_option maxRecDepth 100000 in
theorem sp_node_v (k : Int) (S NM TX : ByteArray) (aa : Option Addr) (n cap : Nat) (many : Int) (K A G H : Bool) (L : Nat) (w : World) (hk : (k == 1) = K) (hl : L < w.heap.size) (cf : w.cell? ⟨L, 0, none⟩ = some (.func (.func 176) #[] #[]))
  (CN : ∀ W, Calls Tryz.prog 177 #[.string NM] W (Ret W (.bool A)))
  (CG : ∀ W, Calls Tryz.prog 179 #[.string S] W (Ret W (.bool G)))
  (CH : ∀ W, Below w.heap.size w W → Calls Tryz.prog 180 #[.slice aa n cap, .func (.func 176) #[] #[]] W (Ret W (.bool H))) :
  Calls Tryz.prog 178 #[.agg #[.int .u8 k, .string S, .string NM, .slice aa n cap, .string TX, .int .i64 many], .pointer (some ⟨L, 0, none⟩)] w (Ret w (.bool ((K && !A) || (G || H)))) := by
 have CN := Lib.hid CN
 have CG := Lib.hid CG
 have CH := Lib.hid CH
 have CL := Lib.hid fun (w' : World) (hb : Below w.heap.size w w') => show w'.cell? ⟨L, 0, none⟩ = some (.func (.func 176) #[] #[]) from ((bcell hb).1 _ _ hl).trans cf
 clear cf hl
 cases K with
 | false =>
  cases G with
  | true =>
   obtain ⟨W0, hW, y0, bs⟩ := Sx.start1 w [.int .u8 k, .string S, .string NM, .slice aa n cap, .string TX, .int .i64 many] 114
   have HW := Lib.hid hW
   clear hW
   have q := bs.q
   go_enter Tryz.func178, Tryz.ntmps178
   go_wp2_with fail
   rw [HW.out]
   have c_n0 := bs.at 0 0 rfl rfl
   have c_n1 := bs.at 0 1 rfl rfl
   have c_n2 := bs.at 0 2 rfl rfl
   have c_n3 := bs.at 0 3 rfl rfl
   have c_n4 := bs.at 0 4 rfl rfl
   have c_n5 := bs.at 0 5 rfl rfl
   go_wp2_with fail
   refine (CG.out W0).mono ?_
   rintro e w1 ⟨rfl, hb⟩
   clear c_n0 c_n1 c_n2 c_n3 c_n4 c_n5
   replace bs := bs.ret hb
   replace q := bs.q
   clear hb
   have c_n0 := bs.at 0 0 rfl rfl
   have c_n1 := bs.at 0 1 rfl rfl
   have c_n2 := bs.at 0 2 rfl rfl
   have c_n3 := bs.at 0 3 rfl rfl
   have c_n4 := bs.at 0 4 rfl rfl
   have c_n5 := bs.at 0 5 rfl rfl
   go_wp2_with fail
   clear c_n0 c_n1 c_n2 c_n3 c_n4 c_n5
   go_ret
   exact ⟨rfl, q⟩
  | false =>
   cases H with
   | true =>
    obtain ⟨W0, hW, y0, bs⟩ := Sx.start1 w [.int .u8 k, .string S, .string NM, .slice aa n cap, .string TX, .int .i64 many] 114
    have HW := Lib.hid hW
    clear hW
    have q := bs.q
    go_enter Tryz.func178, Tryz.ntmps178
    go_wp2_with fail
    rw [HW.out]
    have c_n0 := bs.at 0 0 rfl rfl
    have c_n1 := bs.at 0 1 rfl rfl
    have c_n2 := bs.at 0 2 rfl rfl
    have c_n3 := bs.at 0 3 rfl rfl
    have c_n4 := bs.at 0 4 rfl rfl
    have c_n5 := bs.at 0 5 rfl rfl
    go_wp2_with fail
    refine (CG.out W0).mono ?_
    rintro e w1 ⟨rfl, hb⟩
    clear c_n0 c_n1 c_n2 c_n3 c_n4 c_n5
    replace bs := bs.ret hb
    replace q := bs.q
    clear hb
    have cl := CL.out w1 q
    have c_n0 := bs.at 0 0 rfl rfl
    have c_n1 := bs.at 0 1 rfl rfl
    have c_n2 := bs.at 0 2 rfl rfl
    have c_n3 := bs.at 0 3 rfl rfl
    have c_n4 := bs.at 0 4 rfl rfl
    have c_n5 := bs.at 0 5 rfl rfl
    go_wp2_with fail
    refine (CH.out w1 q).mono ?_
    rintro e w2 ⟨rfl, hb⟩
    clear c_n0 c_n1 c_n2 c_n3 c_n4 c_n5
    replace bs := bs.ret hb
    replace q := bs.q
    clear hb
    clear cl
    have c_n0 := bs.at 0 0 rfl rfl
    have c_n1 := bs.at 0 1 rfl rfl
    have c_n2 := bs.at 0 2 rfl rfl
    have c_n3 := bs.at 0 3 rfl rfl
    have c_n4 := bs.at 0 4 rfl rfl
    have c_n5 := bs.at 0 5 rfl rfl
    go_wp2_with fail
    clear c_n0 c_n1 c_n2 c_n3 c_n4 c_n5
    go_ret
    exact ⟨rfl, q⟩
   | false =>
    obtain ⟨W0, hW, y0, bs⟩ := Sx.start1 w [.int .u8 k, .string S, .string NM, .slice aa n cap, .string TX, .int .i64 many] 114
    have HW := Lib.hid hW
    clear hW
    have q := bs.q
    go_enter Tryz.func178, Tryz.ntmps178
    go_wp2_with fail
    rw [HW.out]
    have c_n0 := bs.at 0 0 rfl rfl
    have c_n1 := bs.at 0 1 rfl rfl
    have c_n2 := bs.at 0 2 rfl rfl
    have c_n3 := bs.at 0 3 rfl rfl
    have c_n4 := bs.at 0 4 rfl rfl
    have c_n5 := bs.at 0 5 rfl rfl
    go_wp2_with fail
    refine (CG.out W0).mono ?_
    rintro e w1 ⟨rfl, hb⟩
    clear c_n0 c_n1 c_n2 c_n3 c_n4 c_n5
    replace bs := bs.ret hb
    replace q := bs.q
    clear hb
    have cl := CL.out w1 q
    have c_n0 := bs.at 0 0 rfl rfl
    have c_n1 := bs.at 0 1 rfl rfl
    have c_n2 := bs.at 0 2 rfl rfl
    have c_n3 := bs.at 0 3 rfl rfl
    have c_n4 := bs.at 0 4 rfl rfl
    have c_n5 := bs.at 0 5 rfl rfl
    go_wp2_with fail
    refine (CH.out w1 q).mono ?_
    rintro e w2 ⟨rfl, hb⟩
    clear c_n0 c_n1 c_n2 c_n3 c_n4 c_n5
    replace bs := bs.ret hb
    replace q := bs.q
    clear hb
    clear cl
    have c_n0 := bs.at 0 0 rfl rfl
    have c_n1 := bs.at 0 1 rfl rfl
    have c_n2 := bs.at 0 2 rfl rfl
    have c_n3 := bs.at 0 3 rfl rfl
    have c_n4 := bs.at 0 4 rfl rfl
    have c_n5 := bs.at 0 5 rfl rfl
    go_wp2_with fail
    clear c_n0 c_n1 c_n2 c_n3 c_n4 c_n5
    go_ret
    exact ⟨rfl, q⟩
 | true =>
  cases A with
  | false =>
   obtain ⟨W0, hW, y0, bs⟩ := Sx.start1 w [.int .u8 k, .string S, .string NM, .slice aa n cap, .string TX, .int .i64 many] 114
   have HW := Lib.hid hW
   clear hW
   have q := bs.q
   go_enter Tryz.func178, Tryz.ntmps178
   go_wp2_with fail
   rw [HW.out]
   have c_n0 := bs.at 0 0 rfl rfl
   have c_n1 := bs.at 0 1 rfl rfl
   have c_n2 := bs.at 0 2 rfl rfl
   have c_n3 := bs.at 0 3 rfl rfl
   have c_n4 := bs.at 0 4 rfl rfl
   have c_n5 := bs.at 0 5 rfl rfl
   go_wp2_with fail
   refine (CN.out W0).mono ?_
   rintro e w1 ⟨rfl, hb⟩
   clear c_n0 c_n1 c_n2 c_n3 c_n4 c_n5
   replace bs := bs.ret hb
   replace q := bs.q
   clear hb
   have c_n0 := bs.at 0 0 rfl rfl
   have c_n1 := bs.at 0 1 rfl rfl
   have c_n2 := bs.at 0 2 rfl rfl
   have c_n3 := bs.at 0 3 rfl rfl
   have c_n4 := bs.at 0 4 rfl rfl
   have c_n5 := bs.at 0 5 rfl rfl
   go_wp2_with fail
   clear c_n0 c_n1 c_n2 c_n3 c_n4 c_n5
   go_ret
   exact ⟨rfl, q⟩
  | true =>
   cases G with
   | true =>
    obtain ⟨W0, hW, y0, bs⟩ := Sx.start1 w [.int .u8 k, .string S, .string NM, .slice aa n cap, .string TX, .int .i64 many] 114
    have HW := Lib.hid hW
    clear hW
    have q := bs.q
    go_enter Tryz.func178, Tryz.ntmps178
    go_wp2_with fail
    rw [HW.out]
    have c_n0 := bs.at 0 0 rfl rfl
    have c_n1 := bs.at 0 1 rfl rfl
    have c_n2 := bs.at 0 2 rfl rfl
    have c_n3 := bs.at 0 3 rfl rfl
    have c_n4 := bs.at 0 4 rfl rfl
    have c_n5 := bs.at 0 5 rfl rfl
    go_wp2_with fail
    refine (CN.out W0).mono ?_
    rintro e w1 ⟨rfl, hb⟩
    clear c_n0 c_n1 c_n2 c_n3 c_n4 c_n5
    replace bs := bs.ret hb
    replace q := bs.q
    clear hb
    have c_n0 := bs.at 0 0 rfl rfl
    have c_n1 := bs.at 0 1 rfl rfl
    have c_n2 := bs.at 0 2 rfl rfl
    have c_n3 := bs.at 0 3 rfl rfl
    have c_n4 := bs.at 0 4 rfl rfl
    have c_n5 := bs.at 0 5 rfl rfl
    go_wp2_with fail
    refine (CG.out w1).mono ?_
    rintro e w2 ⟨rfl, hb⟩
    clear c_n0 c_n1 c_n2 c_n3 c_n4 c_n5
    replace bs := bs.ret hb
    replace q := bs.q
    clear hb
    have c_n0 := bs.at 0 0 rfl rfl
    have c_n1 := bs.at 0 1 rfl rfl
    have c_n2 := bs.at 0 2 rfl rfl
    have c_n3 := bs.at 0 3 rfl rfl
    have c_n4 := bs.at 0 4 rfl rfl
    have c_n5 := bs.at 0 5 rfl rfl
    go_wp2_with fail
    clear c_n0 c_n1 c_n2 c_n3 c_n4 c_n5
    go_ret
    exact ⟨rfl, q⟩
   | false =>
    cases H with
    | true =>
     obtain ⟨W0, hW, y0, bs⟩ := Sx.start1 w [.int .u8 k, .string S, .string NM, .slice aa n cap, .string TX, .int .i64 many] 114
     have HW := Lib.hid hW
     clear hW
     have q := bs.q
     go_enter Tryz.func178, Tryz.ntmps178
     go_wp2_with fail
     rw [HW.out]
     have c_n0 := bs.at 0 0 rfl rfl
     have c_n1 := bs.at 0 1 rfl rfl
     have c_n2 := bs.at 0 2 rfl rfl
     have c_n3 := bs.at 0 3 rfl rfl
     have c_n4 := bs.at 0 4 rfl rfl
     have c_n5 := bs.at 0 5 rfl rfl
     go_wp2_with fail
     refine (CN.out W0).mono ?_
     rintro e w1 ⟨rfl, hb⟩
     clear c_n0 c_n1 c_n2 c_n3 c_n4 c_n5
     replace bs := bs.ret hb
     replace q := bs.q
     clear hb
     have c_n0 := bs.at 0 0 rfl rfl
     have c_n1 := bs.at 0 1 rfl rfl
     have c_n2 := bs.at 0 2 rfl rfl
     have c_n3 := bs.at 0 3 rfl rfl
     have c_n4 := bs.at 0 4 rfl rfl
     have c_n5 := bs.at 0 5 rfl rfl
     go_wp2_with fail
     refine (CG.out w1).mono ?_
     rintro e w2 ⟨rfl, hb⟩
     clear c_n0 c_n1 c_n2 c_n3 c_n4 c_n5
     replace bs := bs.ret hb
     replace q := bs.q
     clear hb
     have cl := CL.out w2 q
     have c_n0 := bs.at 0 0 rfl rfl
     have c_n1 := bs.at 0 1 rfl rfl
     have c_n2 := bs.at 0 2 rfl rfl
     have c_n3 := bs.at 0 3 rfl rfl
     have c_n4 := bs.at 0 4 rfl rfl
     have c_n5 := bs.at 0 5 rfl rfl
     go_wp2_with fail
     refine (CH.out w2 q).mono ?_
     rintro e w3 ⟨rfl, hb⟩
     clear c_n0 c_n1 c_n2 c_n3 c_n4 c_n5
     replace bs := bs.ret hb
     replace q := bs.q
     clear hb
     clear cl
     have c_n0 := bs.at 0 0 rfl rfl
     have c_n1 := bs.at 0 1 rfl rfl
     have c_n2 := bs.at 0 2 rfl rfl
     have c_n3 := bs.at 0 3 rfl rfl
     have c_n4 := bs.at 0 4 rfl rfl
     have c_n5 := bs.at 0 5 rfl rfl
     go_wp2_with fail
     clear c_n0 c_n1 c_n2 c_n3 c_n4 c_n5
     go_ret
     exact ⟨rfl, q⟩
    | false =>
     obtain ⟨W0, hW, y0, bs⟩ := Sx.start1 w [.int .u8 k, .string S, .string NM, .slice aa n cap, .string TX, .int .i64 many] 114
     have HW := Lib.hid hW
     clear hW
     have q := bs.q
     go_enter Tryz.func178, Tryz.ntmps178
     go_wp2_with fail
     rw [HW.out]
     have c_n0 := bs.at 0 0 rfl rfl
     have c_n1 := bs.at 0 1 rfl rfl
     have c_n2 := bs.at 0 2 rfl rfl
     have c_n3 := bs.at 0 3 rfl rfl
     have c_n4 := bs.at 0 4 rfl rfl
     have c_n5 := bs.at 0 5 rfl rfl
     go_wp2_with fail
     refine (CN.out W0).mono ?_
     rintro e w1 ⟨rfl, hb⟩
     clear c_n0 c_n1 c_n2 c_n3 c_n4 c_n5
     replace bs := bs.ret hb
     replace q := bs.q
     clear hb
     have c_n0 := bs.at 0 0 rfl rfl
     have c_n1 := bs.at 0 1 rfl rfl
     have c_n2 := bs.at 0 2 rfl rfl
     have c_n3 := bs.at 0 3 rfl rfl
     have c_n4 := bs.at 0 4 rfl rfl
     have c_n5 := bs.at 0 5 rfl rfl
     go_wp2_with fail
     refine (CG.out w1).mono ?_
     rintro e w2 ⟨rfl, hb⟩
     clear c_n0 c_n1 c_n2 c_n3 c_n4 c_n5
     replace bs := bs.ret hb
     replace q := bs.q
     clear hb
     have cl := CL.out w2 q
     have c_n0 := bs.at 0 0 rfl rfl
     have c_n1 := bs.at 0 1 rfl rfl
     have c_n2 := bs.at 0 2 rfl rfl
     have c_n3 := bs.at 0 3 rfl rfl
     have c_n4 := bs.at 0 4 rfl rfl
     have c_n5 := bs.at 0 5 rfl rfl
     go_wp2_with fail
     refine (CH.out w2 q).mono ?_
     rintro e w3 ⟨rfl, hb⟩
     clear c_n0 c_n1 c_n2 c_n3 c_n4 c_n5
     replace bs := bs.ret hb
     replace q := bs.q
     clear hb
     clear cl
     have c_n0 := bs.at 0 0 rfl rfl
     have c_n1 := bs.at 0 1 rfl rfl
     have c_n2 := bs.at 0 2 rfl rfl
     have c_n3 := bs.at 0 3 rfl rfl
     have c_n4 := bs.at 0 4 rfl rfl
     have c_n5 := bs.at 0 5 rfl rfl
     go_wp2_with fail
     clear c_n0 c_n1 c_n2 c_n3 c_n4 c_n5
     go_ret
     exact ⟨rfl, q⟩
theorem e_spNode : ∀ args w, (callFunc 178 args).run Tryz.prog w = .ok (.enter 178 args) w := enters_of Tryz.func178 (by kernel_rfl) rfl
/-- a node whose sizes fit. -/
structure NdFit (n : Nd) : Prop where
 sp : n.2.1.length ≤ 10000
 nm : n.2.2.1.length ≤ 10000
 tx : n.2.2.2.2.1.length ≤ 10000
 at' : AtFit n.2.2.2.1
 many : n.2.2.2.2.2 ≤ 9223372036854775807
def TrFit (t : List Nd) : Prop := t.length ≤ 1000 ∧ ∀ n ∈ t, NdFit n
theorem sp_node (x : NdI) (L : Nat) (w : World) (hs : ndY.sub x w) (hf : NdFit x.1) (hl : L < w.heap.size) (cf : w.cell? ⟨L, 0, none⟩ = some (.func (.func 176) #[] #[])) : Calls Tryz.prog 178 #[ndG x, .pointer (some ⟨L, 0, none⟩)] w (Ret w (.bool (ndOdd x.1))) := by
 have hA : IsL atY (ndV x) (ndA x) w := hs
 unfold ndOdd
 exact sp_node_v x.1.1 ⟨x.1.2.1.toArray⟩ ⟨x.1.2.2.1.toArray⟩ ⟨x.1.2.2.2.2.1.toArray⟩ x.2.1 (ndA x).length x.2.2 x.1.2.2.2.2.2 _ _ _ _ L w rfl hl cf (fun W => lx_Name_ret _ W (by have := hf.nm; omega)) (fun W => sp_given _ W)
  fun W hb => sl_Has_at (ndV x) (.func (.func 176) #[] #[]) atOdd (ndA x) W (hA.ret hb) (by have := hf.at'.1; show x.1.2.2.2.1.length ≤ _; omega) ⟨_, _, rfl, e_spAttr, fun a ha W' hW' => sp_attr a W' (hf.at'.2 a ha).2.1⟩
theorem IsL.takeS {α : Type} {Y : Ly α} {a : Addr} {n cap k : Nat} {M : List α} {w : World} (h : IsL Y (.slice (some a) n cap) M w) (hk : k ≤ n) : IsL Y (.slice (some a) k cap) (M.take k) w := by
 obtain ⟨⟨hl, a', c', he, h1, h2⟩, ⟨a2, c2, he2, hc⟩, h3⟩ := h
 simp only [Value.slice.injEq] at he he2
 obtain ⟨rfl, hn, rfl⟩ := he
 obtain ⟨rfl, _, rfl⟩ := he2
 have hlen : (M.take k).length = k := by rw [List.length_take]; omega
 refine ⟨?_, ⟨some a, cap, by rw [hlen], by rw [hlen]; omega⟩, fun x hx => h3 x (List.mem_of_mem_take hx)⟩
 rw [hlen]
 refine ⟨by rw [fl_len, hlen], some a, cap, rfl, (fun h => by cases h), ?_⟩
 rcases h2 with h2 | ⟨b, off, e, hb, hcell⟩
 ·left
  omega
 ·right
  refine ⟨b, off, e, hb, fun j hj => ?_⟩
  have hj3 : j < k * Y.n := by rw [fl_take, List.length_take] at hj; omega
  have hj2 : j < (Y.fl M).length := by rw [fl_take, List.length_take] at hj; omega
  have e2 : (Y.fl (M.take k))[j]? = (Y.fl M)[j]? := by rw [fl_take, List.getElem?_take_of_lt hj3]
  rw [List.getElem?_eq_getElem hj, List.getElem?_eq_getElem hj2] at e2
  rw [hcell j hj2, ← e2]
/-- tree.attrs. -/
theorem tr_attrs (M : List At) (aa : Option Addr) (cap : Nat) (w : World) (hv : IsL atY (.slice aa M.length cap) M w) (hf : AtFit M) : Calls Tryz.prog 269 #[.slice aa M.length cap] w (Ret w (.bool (attrsF M))) := by
 obtain ⟨a2, c2, he2, hc⟩ := hv.form
 simp only [Value.slice.injEq, true_and] at he2
 obtain ⟨-, rfl⟩ := he2
 refine tr_attrs_v M aa M.length cap w hv rfl hc hf fun k hk a ha W hb Lc A0 A1 hl h0 h1 => ?_
 subst ha
 refine sl_Has_at (.slice (some a) k cap) (.func (.func 282) #[] #[.pointer (some ⟨Lc, 0, none⟩)]) (fun b => A0.toList == b.1 && A1.toList == b.2.1) (M.take k) W ((hv.takeS hk).ret hb) (by rw [List.length_take]; have := hf.1; omega) ⟨_, _, rfl, e_attrs1, fun x hx W' hW' => ?_⟩
 have h := tr_attrs1_v A0 A1 ⟨x.1.toArray⟩ ⟨x.2.1.toArray⟩ ⟨x.2.2.toArray⟩ Lc W' (Nat.lt_of_lt_of_le hl hW'.size) (((bcell hW').1 _ _ hl).trans h0) (((bcell hW').1 _ _ hl).trans h1)
 have e : ∀ l : List UInt8, (⟨l.toArray⟩ : ByteArray).toList = l := fun l => by simp
 rw [e x.1, e x.2.1] at h
 exact h
/-- tree.may, of a node whose sizes fit. -/
theorem tr_may (x : NdI) (w : World) (hs : ndY.sub x w) (hf : NdFit x.1) : Calls Tryz.prog 247 #[ndG x] w (Ret w (.bool (mayNd x.1))) := by
 have hA : IsL atY (ndV x) (ndA x) w := hs
 have hz : ∀ (l : List UInt8), l.length ≤ 10000 → (⟨l.toArray⟩ : ByteArray).size ≤ 10000 := fun l h => by show l.toArray.size ≤ _; simpa using h
 have e0 : ∀ (l : List UInt8), (⟨l.toArray⟩ : ByteArray).toList.isEmpty = l.isEmpty := fun l => by simp
 have e1 : ((ndA x).length == 0) = (ndA x).isEmpty := by cases ndA x <;> rfl
 have h := tr_may_v x.1.1 ⟨x.1.2.1.toArray⟩ ⟨x.1.2.2.1.toArray⟩ ⟨x.1.2.2.2.2.1.toArray⟩ x.2.1 (ndA x).length x.2.2 x.1.2.2.2.2.2 (txP x.1.2.2.2.2.1) (lxFull x.1.2.2.1) (txP x.1.2.1) (attrsF (ndA x)) w
  (fun W hb => tr_attrs (ndA x) x.2.1 x.2.2 W (hA.ret hb) hf.at') (fun W => tx_Check _ W (hz _ hf.tx)) (fun W => tx_Check _ W (hz _ hf.sp)) (fun W => lx_Full _ W (by have := hz _ hf.nm; omega))
 rw [e0, e0, e0, e1] at h
 exact h
set_option maxRecDepth 100000 in
/-- tree.Check. -/
theorem tr_Check (T : TrI) (w : World) (hs : trY.sub T w) (hf : TrFit (trD T)) : Calls Tryz.prog 182 #[trV T] w (Ret w (.int .i64 (if treeF (trD T) then 0 else 8))) := by
 obtain ⟨M, ⟨va, vc⟩⟩ := T
 have hv : IsL ndY (.slice va M.length vc) M w := hs
 have hfit : ∀ x ∈ M, NdFit x.1 := fun x hx => hf.2 x.1 (List.mem_map_of_mem hx)
 have CB := tr_behind M va M.length vc w hv rfl (fun x hx => (hfit x hx).many) fun x hx W hb => tr_may x W (ndY.subRet _ _ _ (hv.2.2 x hx) hb) (hfit x hx)
 show Calls Tryz.prog 182 #[.slice va M.length vc] w (Ret w (.int .i64 (if treeF (M.map Prod.fst) then 0 else 8)))
 obtain ⟨L, hL⟩ : ∃ L, M.length = L := ⟨_, rfl⟩
 obtain ⟨O, hO⟩ : ∃ O, treeF (M.map Prod.fst) = O := ⟨_, rfl⟩
 rw [hL, hO] at CB
 rw [hL, hO]
 have CB := Lib.hid CB
 have NN := fun (a : Option Addr) (n c : Nat) (W : World) => Lib.run_eql_slice_nil (P := Tryz.prog) W 202 3 a n c 0 0 Tryz.underlying202
 clear hs hf hv hfit hL hO
 cases O with
 | false =>
  go_enter Tryz.func182, Tryz.ntmps182
  go_wp2_with fail
  refine CB.out.mono ?_
  rintro e w1 ⟨⟨v, rfl, ⟨-, rfl⟩ | ⟨h, -⟩⟩, hb⟩
  ·go_wp2_with fail
   go_ret
   exact ⟨rfl, hb⟩
  ·cases h
 | true =>
  go_enter Tryz.func182, Tryz.ntmps182
  go_wp2_with fail
  refine CB.out.mono ?_
  rintro e w1 ⟨⟨v, rfl, ⟨h, -⟩ | ⟨-, E, rfl⟩⟩, hb⟩
  ·cases h
  ·go_wp2_with fail
   go_ret
   exact ⟨rfl, hb⟩
set_option maxRecDepth 100000 in
theorem sp_Check (T : TrI) (w : World) (hs : trY.sub T w) (hf : TrFit (trD T)) : Calls Tryz.prog 134 #[trV T] w (Ret w (.int .i64 (if spaceF (trD T) then 0 else 8))) := by
 have CT := fun (W : World) (hb : Below w.heap.size w W) => tr_Check T W (trY.subRet _ _ _ hs hb) hf
 have CH := fun (W : World) (hb : Below w.heap.size w W) (L : Nat) (hl : L < W.heap.size) (cf : W.cell? ⟨L, 0, none⟩ = some (.func (.func 176) #[] #[])) =>
  sl_Has_nd (trV T) (.func (.func 178) #[] #[.pointer (some ⟨L, 0, none⟩)]) (fun x : NdI => ndOdd x.1) T.1 W (IsL.ret hs hb) (by have h := hf.1; rw [List.length_map] at h; omega)
   ⟨_, _, rfl, e_spNode, fun x hx W' hW' => sp_node x L W' (ndY.subRet _ _ _ (hs.2.2 x hx) (hb.trans (hW'.mono hb.size))) (hf.2 x.1 (List.mem_map_of_mem hx)) (Nat.lt_of_lt_of_le hl hW'.size) (((bcell hW').1 _ _ hl).trans cf)⟩
 have e : (T.1.any fun x : NdI => ndOdd x.1) = (trD T).any ndOdd := by rw [List.any_map]; rfl
 simp only [e] at CH
 unfold spaceF
 obtain ⟨O1, h1⟩ : ∃ O, (trD T).any ndOdd = O := ⟨_, rfl⟩
 obtain ⟨O2, h2⟩ : ∃ O, treeF (trD T) = O := ⟨_, rfl⟩
 simp only [h1] at CH
 simp only [h2] at CT
 rw [h1, h2]
 obtain ⟨v, hv⟩ : ∃ v, trV T = v := ⟨_, rfl⟩
 rw [hv] at CH CT ⊢
 have CT := Lib.hid CT
 have CH := Lib.hid CH
 clear hs hf e h1 h2 hv
 cases O1 with
 | true =>
  simp only [Bool.not_true, Bool.false_and, Bool.false_eq_true, if_false]
  obtain ⟨W0, hW, y0, bs⟩ := Sx.start1 w [.func (.func 176) #[] #[]] 178
  have HW := Lib.hid hW
  clear hW
  have q := bs.q
  go_enter Tryz.func134, Tryz.ntmps134
  go_wp2_with fail
  rw [HW.out]
  refine (CH.out W0 q w.heap.size (bs.lt _ (List.mem_of_getElem? (i := 0) rfl)) (bs.at 0 0 rfl rfl)).mono ?_
  rintro e w1 ⟨rfl, hb⟩
  replace bs := bs.ret hb
  replace q := bs.q
  clear hb
  go_wp2_with fail
  go_ret
  exact ⟨rfl, q⟩
 | false =>
  cases O2 with
  | true =>
   obtain ⟨W0, hW, y0, bs⟩ := Sx.start1 w [.func (.func 176) #[] #[]] 178
   have HW := Lib.hid hW
   clear hW
   have q := bs.q
   go_enter Tryz.func134, Tryz.ntmps134
   go_wp2_with fail
   rw [HW.out]
   refine (CH.out W0 q w.heap.size (bs.lt _ (List.mem_of_getElem? (i := 0) rfl)) (bs.at 0 0 rfl rfl)).mono ?_
   rintro e w1 ⟨rfl, hb⟩
   replace bs := bs.ret hb
   replace q := bs.q
   clear hb
   go_wp2_with fail
   refine (CT.out w1 q).mono ?_
   rintro e w2 ⟨rfl, hb⟩
   replace bs := bs.ret hb
   replace q := bs.q
   clear hb
   go_wp2_with fail
   go_ret
   exact ⟨rfl, q⟩
  | false =>
   obtain ⟨W0, hW, y0, bs⟩ := Sx.start1 w [.func (.func 176) #[] #[]] 178
   have HW := Lib.hid hW
   clear hW
   have q := bs.q
   go_enter Tryz.func134, Tryz.ntmps134
   go_wp2_with fail
   rw [HW.out]
   refine (CH.out W0 q w.heap.size (bs.lt _ (List.mem_of_getElem? (i := 0) rfl)) (bs.at 0 0 rfl rfl)).mono ?_
   rintro e w1 ⟨rfl, hb⟩
   replace bs := bs.ret hb
   replace q := bs.q
   clear hb
   go_wp2_with fail
   refine (CT.out w1 q).mono ?_
   rintro e w2 ⟨rfl, hb⟩
   replace bs := bs.ret hb
   replace q := bs.q
   clear hb
   go_wp2_with fail
   go_ret
   exact ⟨rfl, q⟩
end Go.Proofs.YtjgeiieiinmdnaaGreatDoor
