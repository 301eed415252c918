/- The steps of a request under way: cut, first, others. PRINTED BY PROGRAM (gen_wib.py). -/
import Derived.Test.YthgmgmbjjjnhnaaGreatDoorWiP
import Derived.Test.YthgmgmbjjjnhnaaGreatDoorWiA
import Derived.Test.YthgmgmbjjjnhnaaGreatDoorGc
import Derived.Test.YthgmgmbjjjnhnaaGreatDoorGe
import Derived.Test.YthgmgmbjjjnhnaaGreatDoorGf
import Derived.Test.YthgmgmbjjjnhnaaGreatDoorGg
import Derived.Test.YthgmgmbjjjnhnaaGreatDoorGg
import Derived.Test.YthgmgmbjjjnhnaaGreatDoorGg
import Derived.Test.YthgmgmbjjjnhnaaGreatDoorGi
import Derived.Test.YthgmgmbjjjnhnaaGreatDoorGj
import Derived.Test.YthgmgmbjjjnhnaaGreatDoorGk
namespace Go.Proofs.YthgmgmbjjjnhnaaGreatDoor
open Go.RowKit

/-- What a step may turn: block L, and new blocks. -/
def Kp (L : Nat) (w w' : World) : Prop := Below L w w' ∧ ∀ k, k < w.heap.size → k ≠ L → w'.heap[k]? = w.heap[k]?
theorem Kp.refl (L : Nat) (w : World) : Kp L w w := ⟨Below.refl _ _, fun _ _ _ => rfl⟩
theorem Kp.trans {L : Nat} {a b c : World} (h : Kp L a b) (g : Kp L b c) : Kp L a c := ⟨h.1.trans g.1, fun k hk hn => (g.2 k (Nat.lt_of_lt_of_le hk h.1.size) hn).trans (h.2 k hk hn)⟩
theorem Kp.drew {L : Nat} {a b : World} (h : Kp L a b) : Kp L a b.drew := ⟨Below.drew h.1, h.2⟩
theorem Kp.alloc {L : Nat} {a b : World} (h : Kp L a b) (hB : L ≤ b.heap.size) (o : Obj) : Kp L a (b.alloc o) := ⟨h.1.alloc hB o, fun k hk hn => (Below.heap_alloc _ _ _ (Nat.lt_of_lt_of_le hk h.1.size)).trans (h.2 k hk hn)⟩
theorem Kp.set {L : Nat} {a b : World} (h : Kp L a b) {o : Nat} (v : Value) : Kp L a (b.setCell ⟨L, o, none⟩ v) := ⟨h.1.setCell (p := ⟨L, o, none⟩) (Nat.le_refl _) v, fun k hk hn => (Below.heap_setCell _ _ _ k hn).trans (h.2 k hk hn)⟩
theorem below_L {L : Nat} {w w' : World} (h : Below w.heap.size w w') (hL : L < w.heap.size) : Kp L w w' := ⟨h.mono (Nat.le_of_lt hL), fun k hk _ => h.block k hk⟩
/-- The request under way, by what its cells tell. -/
abbrev UC (L : Nat) (s h : ByteArray) (at' kind n : Int) (host body : ByteArray) (keep : Bool) (used : Int) (more : Bool) (w : World) : Prop :=
  UAt L (.string s) (.string h) (.int .i64 at') (.slice none 0 0) (.int .u8 kind) (.int .i64 n) (.int .i64 0) (.string host) (.string body) (.bool keep) (.int .i64 used) (.bool more) w
/-- What is known behind j steps. -/
def WIs (s : List UInt8) : Nat → ByteArray → Int → Int → Int → ByteArray → ByteArray → Bool → Int → Prop
  | 0, h, a, k, n, host, body, keep, used => h = ⟨#[]⟩ ∧ a = 0 ∧ k = 0 ∧ n = 0 ∧ host = ⟨#[]⟩ ∧ body = ⟨#[]⟩ ∧ keep = false ∧ used = 0
  | 1, h, a, k, n, host, body, keep, used => (¬ wiN s < 0) ∧ h.data.toList = s.take ((wiN s).toNat + 2) ∧ a = ((wiN s).toNat + 4 : Nat) ∧ k = 0 ∧ n = 0 ∧ host = ⟨#[]⟩ ∧ body = ⟨#[]⟩ ∧ keep = false ∧ used = 0
  | 2, h, a, k, n, host, body, keep, used => (¬ wiN s < 0) ∧ wiL (cutX (s.take ((wiN s).toNat + 2))) = 200 ∧ h.data.toList = lnR (s.take ((wiN s).toNat + 2)) ∧ a = ((wiN s).toNat + 4 : Nat) ∧ k = 0 ∧ n = 0 ∧ host = ⟨#[]⟩ ∧ body = ⟨#[]⟩ ∧ keep = false ∧ used = 0
  | 3, _, a, k, n, host, body, keep, used => (¬ wiN s < 0) ∧ wiJ (s.take ((wiN s).toNat + 2)) = (200, host.data.toList, keep, k, n) ∧ a = ((wiN s).toNat + 4 : Nat) ∧ body = ⟨#[]⟩ ∧ used = 0
  | 4, _, a, k, n, host, body, keep, used => (¬ wiN s < 0) ∧ wiJ (s.take ((wiN s).toNat + 2)) = (200, host.data.toList, keep, k, n) ∧ a = ((wiN s).toNat + 4 : Nat) ∧ ((k = 1 ∧ ∃ u : Nat, used = u ∧ wiO s = .done host.data.toList body.data.toList keep u) ∨ (k ≠ 1 ∧ body = ⟨#[]⟩ ∧ used = 0))
  | _ + 5, _, _, _, _, host, body, keep, used => ∃ u : Nat, used = u ∧ wiO s = .done host.data.toList body.data.toList keep u
/-- What a step comes to. -/
def WStep (s : ByteArray) (L j : Nat) (w : World) (e : Ending) (w' : World) : Prop :=
  ∃ (st : Int) (h : ByteArray) (a k n : Int) (host body : ByteArray) (keep : Bool) (used : Int) (more : Bool), e = .returned (.int .i64 st) ∧ UC L s h a k n host body keep used more w' ∧ Kp L w w' ∧
    ((more = true ∧ wiO s.data.toList = .more) ∨ (more = false ∧ st ≠ 200 ∧ wiO s.data.toList = .bad st) ∨ (more = false ∧ st = 200 ∧ WIs s.data.toList (j + 1) h a k n host body keep used))
theorem wiO_in {s : List UInt8} (h : ¬ wiN s < 0) : wiO s = wiH s ((wiN s).toNat + 4) (wiJ (s.take ((wiN s).toNat + 2))) := by
  unfold wiO
  rw [if_neg h]
theorem wi_Index (s : ByteArray) (w : World) (hs : s.size ≤ 1000000) (hm : ML w) (k : Nat) (hk : k = min s.size 4096) : Calls Tryz.prog 98 #[.string (s.extract 0 k), .string ⟨#[13, 10, 13, 10]⟩] w fun e w' => e = .returned (.int .i64 (wiN s.data.toList)) ∧ w' = w := by
  obtain ⟨_, m, hm⟩ := hm
  have h := Tryz.strings_Index (s.extract 0 k) ⟨#[13, 10, 13, 10]⟩ m w (by rw [ByteArray.size_extract]; omega) hm
  have hx : Lib.index (s.extract 0 k).data.toList [13, 10, 13, 10] = wiN s.data.toList := by
    subst hk
    unfold wiN
    rw [ext_data, List.drop_zero, Nat.sub_zero]
    rcases Nat.le_total s.size 4096 with h | h
    · rw [Nat.min_eq_left h, List.take_of_length_le (by rw [size_toList]; exact Nat.le_refl _), List.take_of_length_le (by rw [size_toList]; exact h)]
      rfl
    · rw [Nat.min_eq_right h]
      rfl
  rw [← hx]
  exact h
theorem ML.ret2 {L : Nat} {w w' : World} (h : ML w) (hL : 1 < L) (hb : Below L w w') : ML w' := by
  obtain ⟨h1, m, h2⟩ := h
  exact ⟨Nat.lt_of_lt_of_le h1 hb.size, m, (hb.cell (p := ⟨1, 0, none⟩) hL).trans h2⟩
theorem lnOf_sizes {l m t : List UInt8} {g s : Int} (h : lnOf l = some (m, t, g, s)) : m.length ≤ l.length ∧ t.length ≤ l.length := by
  rw [(lnOf_some h).2]
  unfold lnTxt
  simp
  omega
set_option maxHeartbeats 8000000 in
set_option maxRecDepth 100000 in
theorem wi_cut (L : Nat) (s : ByteArray) (h : ByteArray) (a k n : Int) (host body : ByteArray) (keep : Bool) (used : Int) (w : World) (hs : s.size ≤ 1000000) (hm : ML w) (hg : 1 < L) (hu : UC L s h a k n host body keep used false w) (hw : WIs s.data.toList 0 h a k n host body keep used) :
    Calls Tryz.prog 69 #[.pointer (some ⟨L, 0, none⟩)] w (WStep s L 0 w) := by
  have _ := hs
  have _ := hg
  have _ := hm
  obtain ⟨rfl, rfl, rfl, rfl, rfl, rfl, rfl, rfl⟩ := hw
  have HU := Lib.hid hu
  have HM := Lib.hid hm
  obtain ⟨lt, c0, c1, c2, c3, c4, c5, c6, c7, c8, c9, c10, c11, f0, f1, f2, f3, f4, f5, f6, f7, f8, f9, f10, f11⟩ := hu
  clear hm
  by_cases hn : wiN s.data.toList < 0
  · by_cases h4 : 4096 ≤ s.size
    · have hO : wiO s.data.toList = .bad 400 := by unfold wiO; rw [if_pos hn, if_pos (by rw [size_toList]; exact h4)]
      have HO := Lib.hid hO
      have I0 := fun w hm => wi_Index s w hs hm 4096 (by omega)
      obtain ⟨N, hN⟩ : ∃ N, wiN s.data.toList = N := ⟨_, rfl⟩
      rw [hN] at I0 hn
      have IH := Lib.hid I0
      have g1 : (4096 : Int) ≤ s.size := by omega
      have g2 : ¬ 0 ≤ N := by omega
      have e1 : min (s.size : Int) 4096 = 4096 := by omega
      clear I0 hN hO
      go_enter Tryz.func69, Tryz.ntmps69
      go_wp2_with fail
      go_region_held3 (fun w' => w'.cell? ⟨L, 0, none⟩ = some (.string s)) (first | exact c0 | (simp (maxDischargeDepth := 9) [go_sem, *])) (first | (go_at_call 98; refine (IH.out _ (HM.out.ret (Below.drew (Below.refl _ _)))).mono ?_; rintro e w1 ⟨rfl, rfl⟩))
      go_wp2_with fail
      go_ret
      exact ⟨400, _, _, _, _, _, _, _, _, _, rfl, HU.out.ret' (Below.drew (Below.refl _ _)), Kp.drew (Kp.refl _ _), .inr (.inl ⟨rfl, by decide, HO.out⟩)⟩
    · have hO : wiO s.data.toList = .more := by unfold wiO; rw [if_pos hn, if_neg (by rw [size_toList]; exact h4)]
      have HO := Lib.hid hO
      have I0 := fun w hm => wi_Index s w hs hm s.size (by omega)
      rw [show s.extract 0 s.size = s from str_ext (by rw [ext_data, List.drop_zero, Nat.sub_zero]; exact List.take_of_length_le (by rw [size_toList]; exact Nat.le_refl _))] at I0
      obtain ⟨N, hN⟩ : ∃ N, wiN s.data.toList = N := ⟨_, rfl⟩
      rw [hN] at I0 hn
      have IH := Lib.hid I0
      have g1 : ¬ (4096 : Int) ≤ s.size := by omega
      have g2 : ¬ 0 ≤ N := by omega
      have e1 : min (s.size : Int) 4096 = s.size := by omega
      clear I0 hN hO
      go_enter Tryz.func69, Tryz.ntmps69
      go_wp2_with fail
      go_region_held3 (fun w' => w'.cell? ⟨L, 0, none⟩ = some (.string s)) (first | exact c0 | (simp (maxDischargeDepth := 9) [go_sem, *])) (first | (go_at_call 98; refine (IH.out _ (HM.out.ret (Below.drew (Below.refl _ _)))).mono ?_; rintro e w1 ⟨rfl, rfl⟩))
      go_wp2_with fail
      go_ret
      exact ⟨200, _, _, _, _, _, _, _, _, _, rfl, (HU.out.ret' (Below.drew (Below.refl _ _))).p11 _, (Kp.drew (Kp.refl _ _)).set (o := 11) _, .inl ⟨rfl, HO.out⟩⟩
  · obtain ⟨b1, b2⟩ := wiN_lt hn
    rw [size_toList] at b2
    have I0 := fun w hm => wi_Index s w hs hm (min s.size 4096) rfl
    obtain ⟨N, hN⟩ : ∃ N : Nat, wiN s.data.toList = (N : Int) := ⟨(wiN s.data.toList).toNat, by omega⟩
    obtain ⟨K, hK⟩ : ∃ K, min s.size 4096 = K := ⟨_, rfl⟩
    have e1 : min (s.size : Int) 4096 = (K : Int) := by omega
    rw [hN, hK] at I0
    rw [hN, Int.toNat_natCast] at b1 b2
    have IH := Lib.hid I0
    have HN := Lib.hid hN
    have HX : Hid ((s.extract 0 (N + 2)).data.toList = s.data.toList.take (N + 2)) := Lib.hid (by rw [ext_data, List.drop_zero, Nat.sub_zero])
    have g2 : (0 : Int) ≤ N := by omega
    have g3 : (N : Int) + 2 ≤ s.size := by omega
    have g4 : K ≤ s.size := by omega
    have g5 : (K : Int) ≤ s.size := by omega
    clear I0 hN hn hK
    go_enter Tryz.func69, Tryz.ntmps69
    go_wp2_with fail
    go_region_held3 (fun w' => w'.cell? ⟨L, 0, none⟩ = some (.string s)) (first | exact c0 | (simp (maxDischargeDepth := 9) [go_sem, *])) (first | (go_at_call 98; refine (IH.out _ (HM.out.ret (Below.drew (Below.refl _ _)))).mono ?_; rintro e w1 ⟨rfl, rfl⟩))
    go_wp2_with fail
    go_ret
    refine ⟨200, s.extract 0 (N + 2), _, _, _, _, _, _, _, _, rfl, ((HU.out.ret' (Below.drew (Below.refl _ _))).p1 _).p2 _, ((Kp.drew (Kp.refl _ _)).set (o := 1) _).set (o := 2) _, .inr (.inr ⟨rfl, rfl, ?_⟩)⟩
    exact ⟨by rw [HN.out]; omega, by rw [HN.out, Int.toNat_natCast]; exact HX.out, by rw [HN.out]; simp, rfl, rfl, rfl, rfl, rfl, rfl⟩
set_option maxHeartbeats 8000000 in
set_option maxRecDepth 100000 in
theorem wi_first (L : Nat) (s : ByteArray) (h : ByteArray) (a k n : Int) (host body : ByteArray) (keep : Bool) (used : Int) (w : World) (hs : s.size ≤ 1000000) (hm : ML w) (hg : 1 < L) (hu : UC L s h a k n host body keep used false w) (hw : WIs s.data.toList 1 h a k n host body keep used) :
    Calls Tryz.prog 70 #[.pointer (some ⟨L, 0, none⟩)] w (WStep s L 1 w) := by
  have _ := hs
  have _ := hg
  have _ := hm
  obtain ⟨hn, hh, rfl, rfl, rfl, rfl, rfl, rfl, rfl⟩ := hw
  obtain ⟨b1, b2⟩ := wiN_lt hn
  have hj := wiO_in hn
  obtain ⟨N, hN⟩ : ∃ N, (wiN s.data.toList).toNat = N := ⟨_, rfl⟩
  rw [hN] at b1 b2 hj hh
  rw [← hh] at hj
  have zh : h.size ≤ 1000000 := by rw [← size_toList, hh, List.length_take]; omega
  have HW : Hid (∀ R : ByteArray, R.data.toList = lnR h.data.toList → wiL (cutX h.data.toList) = 200 → WIs s.data.toList 2 R ((wiN s.data.toList).toNat + 4 : Nat) 0 0 ⟨#[]⟩ ⟨#[]⟩ false 0) := Lib.hid fun R hR hl => ⟨hn, by rw [hN, ← hh]; exact hl, by rw [hN, ← hh]; exact hR, rfl, rfl, rfl, rfl, rfl, rfl, rfl⟩
  have HJ : Hid (wiL (cutX h.data.toList) ≠ 200 → wiO s.data.toList = .bad (wiL (cutX h.data.toList))) := Lib.hid fun hl => by
    rw [hj]
    unfold wiJ
    rw [if_pos hl]
    unfold wiH
    rw [if_pos hl]
  have C0 := fun w hm => hd_Cut h w zh hm
  have zX : (cutX h.data.toList).length ≤ 1000000 := Nat.le_trans (cutX_le _) (by rw [size_toList]; exact zh)
  obtain ⟨X, hX⟩ : ∃ X : ByteArray, ⟨(cutX h.data.toList).toArray⟩ = X := ⟨_, rfl⟩
  obtain ⟨R, hR⟩ : ∃ X : ByteArray, ⟨(lnR h.data.toList).toArray⟩ = X := ⟨_, rfl⟩
  have hXl : X.data.toList = cutX h.data.toList := by rw [← hX]
  have hRl : R.data.toList = lnR h.data.toList := by rw [← hR]
  rw [hX, hR] at C0
  have HRL := Lib.hid hRl
  have zX2 : X.size ≤ 1000000 := by rw [← size_toList, hXl]; exact zX
  have P0 := fun w hm => ln_Parse X w zX2 hm
  rw [← hXl] at HW HJ
  obtain ⟨B, hB⟩ : ∃ B, lnB h.data.toList = B := ⟨_, rfl⟩
  rw [hB] at C0
  have CH := Lib.hid C0
  have HU := Lib.hid hu
  have HM := Lib.hid hm
  obtain ⟨A, hA⟩ : ∃ A : Int, (((wiN s.data.toList).toNat + 4 : Nat) : Int) = A := ⟨_, rfl⟩
  rw [hA] at HU HW
  unfold wiL at HW HJ
  cases hl : lnOf X.data.toList with
  | none =>
    rw [hl] at P0 HW HJ
    unfold lnA at P0
    have PH := Lib.hid P0
    clear P0 C0 hm hj hh hX hXl hR hRl hn hB hl zX hN b1 b2 hA hu
    obtain ⟨lt, c0, c1, c2, c3, c4, c5, c6, c7, c8, c9, c10, c11, f0, f1, f2, f3, f4, f5, f6, f7, f8, f9, f10, f11⟩ := HU.out
    go_enter Tryz.func70, Tryz.ntmps70
    go_wp2_with fail
    refine (CH.out _ HM.out).mono ?_
    rintro e w1 ⟨rfl, hb1⟩
    have q1 := below_L hb1 lt
    have HU1 := Lib.hid (HU.out.ret' hb1)
    clear hb1 c0 c1 c2 c3 c4 c5 c6 c7 c8 c9 c10 c11 f0 f1 f2 f3 f4 f5 f6 f7 f8 f9 f10 f11
    obtain ⟨lt1, c0, c1, c2, c3, c4, c5, c6, c7, c8, c9, c10, c11, f0, f1, f2, f3, f4, f5, f6, f7, f8, f9, f10, f11⟩ := HU1.out
    have q2 := q1.set (o := 1) (.string R)
    have HM2 := Lib.hid (HM.out.ret2 hg q2.1)
    have HU2 := Lib.hid (HU1.out.p1 (.string R))
    clear q1
    go_wp2_with fail
    refine (PH.out _ HM2.out).mono ?_
    rintro e w2 ⟨rfl, hb2⟩
    have q3 := q2.trans (below_L hb2 HU2.out.lt)
    have HU3 := Lib.hid (HU2.out.ret' hb2)
    have lt3 := HU3.out.lt
    clear hb2 q2 c0 c1 c2 c3 c4 c5 c6 c7 c8 c9 c10 c11 f0 f1 f2 f3 f4 f5 f6 f7 f8 f9 f10 f11
    go_wp2_with fail
    go_ret
    exact ⟨400, _, _, _, _, _, _, _, _, _, rfl, HU3.out.ret' ((Below.refl _ _).alloc (Nat.le_refl _) _), q3.alloc (Nat.le_of_lt lt3) _, .inr (.inl ⟨rfl, by decide, HJ.out (by decide)⟩)⟩
  | some q =>
    obtain ⟨m, t, g, sv⟩ := q
    obtain ⟨zm, zt⟩ := lnOf_sizes hl
    have hmay := (lnOf_some hl).1
    rw [size_toList] at zm zt
    rw [hl] at P0 HW HJ
    simp only at HW HJ
    obtain ⟨M, hM⟩ : ∃ X : ByteArray, ⟨m.toArray⟩ = X := ⟨_, rfl⟩
    obtain ⟨T, hT⟩ : ∃ X : ByteArray, ⟨t.toArray⟩ = X := ⟨_, rfl⟩
    have hMl : M.data.toList = m := by rw [← hM]
    have hTl : T.data.toList = t := by rw [← hT]
    rw [← hMl, ← hTl] at P0 HW HJ hmay
    rw [lnA_some] at P0
    have J0 := fun w => ln_Judge M T g sv w (by rw [← size_toList, hMl]; omega) (by rw [← size_toList, hTl]; omega)
    unfold lnJ at J0
    rw [if_pos hmay] at J0
    obtain ⟨st, hst⟩ : ∃ st, jdg M.data.toList T.data.toList g sv = st := ⟨_, rfl⟩
    rw [hst] at J0 HW HJ
    have PH := Lib.hid P0
    have JH := Lib.hid J0
    clear J0 hst hmay hM hT hMl hTl zm zt
    clear P0 C0 hm hj hh hX hXl hR hRl hn hB hl zX hN b1 b2 hA hu
    obtain ⟨lt, c0, c1, c2, c3, c4, c5, c6, c7, c8, c9, c10, c11, f0, f1, f2, f3, f4, f5, f6, f7, f8, f9, f10, f11⟩ := HU.out
    go_enter Tryz.func70, Tryz.ntmps70
    go_wp2_with fail
    refine (CH.out _ HM.out).mono ?_
    rintro e w1 ⟨rfl, hb1⟩
    have q1 := below_L hb1 lt
    have HU1 := Lib.hid (HU.out.ret' hb1)
    clear hb1 c0 c1 c2 c3 c4 c5 c6 c7 c8 c9 c10 c11 f0 f1 f2 f3 f4 f5 f6 f7 f8 f9 f10 f11
    obtain ⟨lt1, c0, c1, c2, c3, c4, c5, c6, c7, c8, c9, c10, c11, f0, f1, f2, f3, f4, f5, f6, f7, f8, f9, f10, f11⟩ := HU1.out
    have q2 := q1.set (o := 1) (.string R)
    have HM2 := Lib.hid (HM.out.ret2 hg q2.1)
    have HU2 := Lib.hid (HU1.out.p1 (.string R))
    clear q1
    go_wp2_with fail
    refine (PH.out _ HM2.out).mono ?_
    rintro e w2 ⟨rfl, hb2⟩
    have q3 := q2.trans (below_L hb2 HU2.out.lt)
    have HU3 := Lib.hid (HU2.out.ret' hb2)
    have lt3 := HU3.out.lt
    clear hb2 q2 c0 c1 c2 c3 c4 c5 c6 c7 c8 c9 c10 c11 f0 f1 f2 f3 f4 f5 f6 f7 f8 f9 f10 f11
    go_wp2_with fail
    have al := (Below.refl w2.heap.size w2).alloc (Nat.le_refl _) (.cells #[.string M, .string T, .int .i64 g, .int .i64 sv] 130)
    refine (JH.out _).mono ?_
    rintro e w4 ⟨rfl, hb4⟩
    have k4 := al.trans (hb4.mono al.size)
    have q4 := q3.trans (below_L k4 lt3)
    have HU4 := Lib.hid (HU3.out.ret' k4)
    clear hb4 k4 al q3
    go_wp2_with fail
    go_ret
    by_cases h2 : st = 200
    · exact ⟨st, _, _, _, _, _, _, _, _, _, rfl, HU4.out, q4, .inr (.inr ⟨rfl, h2, HW.out _ HRL.out h2⟩)⟩
    · exact ⟨st, _, _, _, _, _, _, _, _, _, rfl, HU4.out, q4, .inr (.inl ⟨rfl, h2, HJ.out h2⟩)⟩
theorem hdV_le32 (l : List UInt8) : (hdV l).length ≤ 32 := by
  by_cases h : hdE l = 0
  · obtain ⟨_, ps, _, h1, h2⟩ := hdE_ok h
    rw [h2]
    exact h1
  · rw [hdE_bad h]
    decide
theorem lnR_le (l : List UInt8) : (lnR l).length ≤ l.length := by
  by_cases h0 : l = []
  · rw [h0]; decide
  · exact Nat.le_of_lt (lnR_lt h0)
theorem hdV_sizes {h : ByteArray} (_ : h.size ≤ 1000000) : ∀ p ∈ hdV h.data.toList, p.1.length ≤ 1000000 ∧ p.2.length ≤ 1000000 := by
  intro p hp
  by_cases he : hdE h.data.toList = 0
  · obtain ⟨h1, ps, h2, h3, h4⟩ := hdE_ok he
    rw [h4] at hp
    have h5 := (hdA_may h2).2
    have h6 : (hdL p).length ≤ (hdW ps).length := by
      clear h2 h3 h4 h5
      induction ps with
      | nil => cases hp
      | cons q ps ih =>
        rw [hdW_cons, List.length_append]
        rcases List.mem_cons.1 hp with rfl | hp
        · omega
        · have := ih hp
          omega
    have h7 : (hdL p).length = p.1.length + p.2.length + 4 := by simp [hdL]; omega
    omega
  · rw [hdE_bad he] at hp
    cases hp
theorem kep_nn (ps : List Pr) : (kep ps).2 = 0 ∨ (kep ps).2 = 140 := by
  unfold kep
  generalize fndV ps conL = xs
  generalize true = b
  induction xs generalizing b with
  | nil => left; rfl
  | cons x xs ih =>
    unfold kpF
    split
    · exact ih _
    · right; rfl
theorem hst_nn (ps : List Pr) : (hst ps).2 = 0 ∨ (hst ps).2 = 140 := by
  unfold hst hstK hstX
  split
  · right; rfl
  · split
    · right; rfl
    · left; rfl
theorem frm_ok (ps : List Pr) : ((frm ps).2.2 = 0 ∨ (frm ps).2.2 = 140) ∧ ((frm ps).1 = 0 ∨ (frm ps).1 = 1 ∨ (frm ps).1 = 2) ∧ 0 ≤ (frm ps).2.1 ∧ (frm ps).2.1 ≤ 9007199254740991 := by
  unfold frm frmK
  split
  · exact ⟨.inr rfl, .inl rfl, by decide, by decide⟩
  · split
    · split
      · exact ⟨.inl rfl, .inr (.inr rfl), by decide, by decide⟩
      · exact ⟨.inr rfl, .inl rfl, by decide, by decide⟩
    · split
      · split
        · refine ⟨.inl rfl, .inr (.inl rfl), ?_, ?_⟩
          · show 0 ≤ rdN _
            unfold rdN
            split <;> omega
          · show rdN _ ≤ _
            unfold rdN
            split
            · rename_i hok
              unfold numOk at hok
              simp only [Bool.and_eq_true, decide_eq_true_eq] at hok
              omega
            · omega
        · exact ⟨.inr rfl, .inl rfl, by decide, by decide⟩
      · exact ⟨.inl rfl, .inl rfl, by decide, by decide⟩
theorem pairs_set {v : Value} {ps : List Pr} {w : World} {L o : Nat} (h : IsPairs v ps w) (hf : ∀ k, v.ownBlock = some k → L < k) (x : Value) : IsPairs v ps (w.setCell ⟨L, o, none⟩ x) := by
  obtain ⟨hl, a, cap, h1, h0, h2⟩ := h
  refine ⟨hl, a, cap, h1, h0, ?_⟩
  rcases h2 with h2 | ⟨b, off, h2, h3, h4⟩
  · exact .inl h2
  · subst h2
    have hb := hf b (by rw [h1]; rfl)
    refine .inr ⟨b, off, rfl, ?_, fun j hj => ?_⟩
    · simpa using h3
    · rw [← h4 j hj]
      exact World.cell?_of_block (Below.heap_setCell _ _ _ _ (by show b ≠ L; omega))
set_option maxHeartbeats 8000000 in
set_option maxRecDepth 100000 in
theorem wi_others (L : Nat) (s : ByteArray) (h : ByteArray) (a k n : Int) (host body : ByteArray) (keep : Bool) (used : Int) (w : World) (hs : s.size ≤ 1000000) (hm : ML w) (hg : 1 < L) (hu : UC L s h a k n host body keep used false w) (hw : WIs s.data.toList 2 h a k n host body keep used) :
    Calls Tryz.prog 71 #[.pointer (some ⟨L, 0, none⟩)] w (WStep s L 2 w) := by
  have _ := hs
  have _ := hg
  have _ := hm
  obtain ⟨hn, hl2, hh, rfl, rfl, rfl, rfl, rfl, rfl, rfl⟩ := hw
  obtain ⟨b1, b2⟩ := wiN_lt hn
  have hj := wiO_in hn
  have hjj : wiJ (s.data.toList.take ((wiN s.data.toList).toNat + 2)) = wiF h.data.toList := by
    unfold wiJ
    rw [if_neg (by rw [hl2]; decide), ← hh]
  rw [hjj] at hj
  have zh : h.size ≤ 1000000 := by
    rw [← size_toList, hh]
    have h1 := lnR_le (s.data.toList.take ((wiN s.data.toList).toNat + 2))
    rw [List.length_take] at h1
    omega
  have HJ : Hid (∀ st, (wiF h.data.toList).1 = st → st ≠ 200 → wiO s.data.toList = .bad st) := Lib.hid fun st h1 h2 => by
    rw [hj]
    unfold wiH
    rw [h1, if_pos h2]
  obtain ⟨A, hA⟩ : ∃ A : Int, (((wiN s.data.toList).toNat + 4 : Nat) : Int) = A := ⟨_, rfl⟩
  have HW : Hid (∀ (R : ByteArray) (kp : Bool) (k n : Int), wiF h.data.toList = (200, R.data.toList, kp, k, n) → WIs s.data.toList 3 h A k n R ⟨#[]⟩ kp 0) := Lib.hid fun R kp k n hf => ⟨hn, by rw [hjj, hf], hA.symm, rfl, rfl⟩
  have HU := Lib.hid hu
  rw [hA] at HU
  have HM := Lib.hid hm
  have P0 := hd_ParseF h w zh hm
  have hpl := hdV_le32 h.data.toList
  have hpz : ∀ p ∈ hdV h.data.toList, p.1.length ≤ 1000000 ∧ p.2.length ≤ 1000000 := hdV_sizes zh
  have K0 := fun v w hv => hd_Keep v (hdV h.data.toList) w hv (by omega) (fun p hp => (hpz p hp).1) (fun p hp => (hpz p hp).2)
  have H0 := fun v w hv => hd_Host v (hdV h.data.toList) w hv (by omega) (fun p hp => (hpz p hp).1) (fun p hp => (hpz p hp).2)
  have F0 := fun v w hv => hd_Frame v (hdV h.data.toList) w hv (by omega) (fun p hp => (hpz p hp).1) (fun p hp => (hpz p hp).2)
  have hdef : wiF h.data.toList = if hdE h.data.toList ≠ 0 then (400, [], false, 0, 0) else wiF4 (hdV h.data.toList) := rfl
  obtain ⟨E, hE⟩ : ∃ E, hdE h.data.toList = E := ⟨_, rfl⟩
  obtain ⟨ps, hps⟩ : ∃ x, hdV h.data.toList = x := ⟨_, rfl⟩
  unfold HdIsF at P0
  rw [hE, hps] at P0 hdef
  rw [hps] at K0 H0 F0
  have P := Lib.hid P0
  clear P0 hm hj hjj hh hn hl2 b1 b2 hA hu hpl hpz hE hps
  by_cases hE0 : E = 0
  rotate_left
  · rw [if_pos hE0] at hdef
    have e1 : (E == 0) = false := by rw [beq_eq_false_iff_ne]; exact hE0
    have e2 : (E != 0) = true := by rw [bne_iff_ne]; exact hE0
    have HO := Lib.hid (HJ.out 400 (by rw [hdef]) (by decide))
    clear K0 H0 F0 hdef HJ HW hE0
    obtain ⟨lt, c0, c1, c2, c3, c4, c5, c6, c7, c8, c9, c10, c11, f0, f1, f2, f3, f4, f5, f6, f7, f8, f9, f10, f11⟩ := HU.out
    go_enter Tryz.func71, Tryz.ntmps71
    go_wp2_with fail
    refine P.out.mono ?_
    rintro e w1 ⟨v, rfl, hv, hb1, hfr⟩
    have q1 := below_L hb1 lt
    have HU1 := Lib.hid (HU.out.ret' hb1)
    clear hb1
    go_wp2_with fail
    go_ret
    exact ⟨400, _, _, _, _, _, _, _, _, _, rfl, HU1.out, q1, .inr (.inl ⟨rfl, by decide, HO.out⟩)⟩
  subst hE0
  rw [if_neg (by decide)] at hdef
  have hk := frm_ok ps
  unfold wiF4 at hdef
  unfold kepT at K0
  unfold hstT at H0
  unfold frmT at F0
  have hz1 := kep_nn ps
  have hz2 := hst_nn ps
  obtain ⟨⟨kp, g1⟩, hx1⟩ : ∃ x, kep ps = x := ⟨_, rfl⟩
  obtain ⟨⟨ho, g2⟩, hx2⟩ : ∃ x, hst ps = x := ⟨_, rfl⟩
  obtain ⟨⟨kd, n, g3⟩, hx3⟩ : ∃ x, frm ps = x := ⟨_, rfl⟩
  rw [hx1] at K0 hdef hz1
  rw [hx2] at H0 hdef hz2
  rw [hx3] at F0 hdef hk
  simp only at K0 H0 F0 hdef hk hz1 hz2
  obtain ⟨R, hR⟩ : ∃ X : ByteArray, ⟨ho.toArray⟩ = X := ⟨_, rfl⟩
  have hRl : R.data.toList = ho := by rw [← hR]
  rw [hR] at H0
  rw [← hRl] at hdef
  have KH := Lib.hid K0
  have HH := Lib.hid H0
  have FH := Lib.hid F0
  have HDEF := Lib.hid hdef
  clear K0 H0 F0 hx1 hx2 hx3 hR hRl hdef
  obtain ⟨lt, c0, c1, c2, c3, c4, c5, c6, c7, c8, c9, c10, c11, f0, f1, f2, f3, f4, f5, f6, f7, f8, f9, f10, f11⟩ := HU.out
  by_cases z : g1 = 0 ∧ g2 = 0 ∧ g3 = 0
  · obtain ⟨rfl, rfl, rfl⟩ := z
    by_cases z4 : kd = 0
    · subst z4
      have hO : wiO s.data.toList = .bad 400 := HJ.out 400 (by rw [HDEF.out, if_pos (by simp)]) (by decide)
      have HO := Lib.hid hO
      clear hO HW HJ HDEF
      go_enter Tryz.func71, Tryz.ntmps71
      go_wp2_with fail
      refine P.out.mono ?_
      rintro e w1 ⟨v, rfl, hv, hb1, hfr⟩
      have q1 := below_L hb1 lt
      have HU1 := Lib.hid (HU.out.ret' hb1)
      have HV1 := Lib.hid hv
      have HFR : Hid (∀ k, v.ownBlock = some k → L < k) := Lib.hid fun k hk => Nat.lt_of_lt_of_le lt (hfr k hk)
      clear hb1 hv hfr c0 c1 c2 c3 c4 c5 c6 c7 c8 c9 c10 c11 f0 f1 f2 f3 f4 f5 f6 f7 f8 f9 f10 f11
      go_wp2_with fail
      refine (KH.out _ _ HV1.out).mono ?_
      rintro e w2 ⟨rfl, hb2⟩
      have HU2 := Lib.hid (HU1.out.ret' hb2)
      have q2 := q1.trans (below_L hb2 HU1.out.lt)
      have HV2 := Lib.hid (HV1.out.ret hb2)
      clear hb2
      obtain ⟨lt2, c0, c1, c2, c3, c4, c5, c6, c7, c8, c9, c10, c11, f0, f1, f2, f3, f4, f5, f6, f7, f8, f9, f10, f11⟩ := HU2.out
      have HU3 := Lib.hid (HU2.out.p9 (.bool kp))
      have q3 := q2.set (o := 9) (.bool kp)
      have HV3 := Lib.hid (pairs_set HV2.out (L := L) (o := 9) HFR.out (.bool kp))
      go_wp2_with fail
      refine (HH.out _ _ HV3.out).mono ?_
      rintro e w4 ⟨rfl, hb4⟩
      have HU4 := Lib.hid (HU3.out.ret' hb4)
      have q4 := q3.trans (below_L hb4 HU3.out.lt)
      have HV4 := Lib.hid (HV3.out.ret hb4)
      clear hb4 c0 c1 c2 c3 c4 c5 c6 c7 c8 c9 c10 c11 f0 f1 f2 f3 f4 f5 f6 f7 f8 f9 f10 f11 HU3 HV3 HU2 HV2 lt2
      obtain ⟨lt4, c0, c1, c2, c3, c4, c5, c6, c7, c8, c9, c10, c11, f0, f1, f2, f3, f4, f5, f6, f7, f8, f9, f10, f11⟩ := HU4.out
      have HU5 := Lib.hid (HU4.out.p7 (.string R))
      have q5 := q4.set (o := 7) (.string R)
      have HV5 := Lib.hid (pairs_set HV4.out (L := L) (o := 7) HFR.out (.string R))
      go_wp2_with fail
      refine (FH.out _ _ HV5.out).mono ?_
      rintro e w6 ⟨rfl, hb6⟩
      have HU6 := Lib.hid (HU5.out.ret' hb6)
      have q6 := q5.trans (below_L hb6 HU5.out.lt)
      clear hb6 c0 c1 c2 c3 c4 c5 c6 c7 c8 c9 c10 c11 f0 f1 f2 f3 f4 f5 f6 f7 f8 f9 f10 f11 HU5 HV5 HU4 HV4 lt4
      obtain ⟨lt6, c0, c1, c2, c3, c4, c5, c6, c7, c8, c9, c10, c11, f0, f1, f2, f3, f4, f5, f6, f7, f8, f9, f10, f11⟩ := HU6.out
      have HU7 := Lib.hid ((HU6.out.p4 (.int .u8 0)).p5 (.int .i64 n))
      have q7 := (q6.set (o := 4) (.int .u8 0)).set (o := 5) (.int .i64 n)
      go_wp2_with fail
      go_ret
      exact ⟨400, _, _, _, _, _, _, _, _, _, rfl, HU7.out, q7, .inr (.inl ⟨rfl, by decide, HO.out⟩)⟩
    · have hf : wiF h.data.toList = (200, R.data.toList, kp, kd, n) := by rw [HDEF.out, if_neg (by simp [z4])]
      have HO := Lib.hid (HW.out R kp kd n hf)
      have e1 : (kd == 0) = false := by rw [beq_eq_false_iff_ne]; exact z4
      clear hf HW HJ HDEF
      go_enter Tryz.func71, Tryz.ntmps71
      go_wp2_with fail
      refine P.out.mono ?_
      rintro e w1 ⟨v, rfl, hv, hb1, hfr⟩
      have q1 := below_L hb1 lt
      have HU1 := Lib.hid (HU.out.ret' hb1)
      have HV1 := Lib.hid hv
      have HFR : Hid (∀ k, v.ownBlock = some k → L < k) := Lib.hid fun k hk => Nat.lt_of_lt_of_le lt (hfr k hk)
      clear hb1 hv hfr c0 c1 c2 c3 c4 c5 c6 c7 c8 c9 c10 c11 f0 f1 f2 f3 f4 f5 f6 f7 f8 f9 f10 f11
      go_wp2_with fail
      refine (KH.out _ _ HV1.out).mono ?_
      rintro e w2 ⟨rfl, hb2⟩
      have HU2 := Lib.hid (HU1.out.ret' hb2)
      have q2 := q1.trans (below_L hb2 HU1.out.lt)
      have HV2 := Lib.hid (HV1.out.ret hb2)
      clear hb2
      obtain ⟨lt2, c0, c1, c2, c3, c4, c5, c6, c7, c8, c9, c10, c11, f0, f1, f2, f3, f4, f5, f6, f7, f8, f9, f10, f11⟩ := HU2.out
      have HU3 := Lib.hid (HU2.out.p9 (.bool kp))
      have q3 := q2.set (o := 9) (.bool kp)
      have HV3 := Lib.hid (pairs_set HV2.out (L := L) (o := 9) HFR.out (.bool kp))
      go_wp2_with fail
      refine (HH.out _ _ HV3.out).mono ?_
      rintro e w4 ⟨rfl, hb4⟩
      have HU4 := Lib.hid (HU3.out.ret' hb4)
      have q4 := q3.trans (below_L hb4 HU3.out.lt)
      have HV4 := Lib.hid (HV3.out.ret hb4)
      clear hb4 c0 c1 c2 c3 c4 c5 c6 c7 c8 c9 c10 c11 f0 f1 f2 f3 f4 f5 f6 f7 f8 f9 f10 f11 HU3 HV3 HU2 HV2 lt2
      obtain ⟨lt4, c0, c1, c2, c3, c4, c5, c6, c7, c8, c9, c10, c11, f0, f1, f2, f3, f4, f5, f6, f7, f8, f9, f10, f11⟩ := HU4.out
      have HU5 := Lib.hid (HU4.out.p7 (.string R))
      have q5 := q4.set (o := 7) (.string R)
      have HV5 := Lib.hid (pairs_set HV4.out (L := L) (o := 7) HFR.out (.string R))
      go_wp2_with fail
      refine (FH.out _ _ HV5.out).mono ?_
      rintro e w6 ⟨rfl, hb6⟩
      have HU6 := Lib.hid (HU5.out.ret' hb6)
      have q6 := q5.trans (below_L hb6 HU5.out.lt)
      clear hb6 c0 c1 c2 c3 c4 c5 c6 c7 c8 c9 c10 c11 f0 f1 f2 f3 f4 f5 f6 f7 f8 f9 f10 f11 HU5 HV5 HU4 HV4 lt4
      obtain ⟨lt6, c0, c1, c2, c3, c4, c5, c6, c7, c8, c9, c10, c11, f0, f1, f2, f3, f4, f5, f6, f7, f8, f9, f10, f11⟩ := HU6.out
      have HU7 := Lib.hid ((HU6.out.p4 (.int .u8 kd)).p5 (.int .i64 n))
      have q7 := (q6.set (o := 4) (.int .u8 kd)).set (o := 5) (.int .i64 n)
      go_wp2_with fail
      go_ret
      exact ⟨200, _, _, _, _, _, _, _, _, _, rfl, HU7.out, q7, .inr (.inr ⟨rfl, rfl, HO.out⟩)⟩
  · have hO : wiO s.data.toList = .bad 400 := HJ.out 400 (by rw [HDEF.out, if_pos (by rcases Classical.em (g1 = 0) with h1 | h1 <;> rcases Classical.em (g2 = 0) with h2 | h2 <;> simp_all)]) (by decide)
    have HO := Lib.hid hO
    have e1 : (max (max g1 g2) g3 == 0) = false := by rw [beq_eq_false_iff_ne]; omega
    have e2 : (max (max g1 g2) g3 != 0) = true := by rw [bne_iff_ne]; omega
    have e3 : ¬ max (max g1 g2) g3 = 0 := by omega
    clear hO HW HJ HDEF z hk hz1 hz2
    go_enter Tryz.func71, Tryz.ntmps71
    go_wp2_with fail
    refine P.out.mono ?_
    rintro e w1 ⟨v, rfl, hv, hb1, hfr⟩
    have q1 := below_L hb1 lt
    have HU1 := Lib.hid (HU.out.ret' hb1)
    have HV1 := Lib.hid hv
    have HFR : Hid (∀ k, v.ownBlock = some k → L < k) := Lib.hid fun k hk => Nat.lt_of_lt_of_le lt (hfr k hk)
    clear hb1 hv hfr c0 c1 c2 c3 c4 c5 c6 c7 c8 c9 c10 c11 f0 f1 f2 f3 f4 f5 f6 f7 f8 f9 f10 f11
    go_wp2_with fail
    refine (KH.out _ _ HV1.out).mono ?_
    rintro e w2 ⟨rfl, hb2⟩
    have HU2 := Lib.hid (HU1.out.ret' hb2)
    have q2 := q1.trans (below_L hb2 HU1.out.lt)
    have HV2 := Lib.hid (HV1.out.ret hb2)
    clear hb2
    obtain ⟨lt2, c0, c1, c2, c3, c4, c5, c6, c7, c8, c9, c10, c11, f0, f1, f2, f3, f4, f5, f6, f7, f8, f9, f10, f11⟩ := HU2.out
    have HU3 := Lib.hid (HU2.out.p9 (.bool kp))
    have q3 := q2.set (o := 9) (.bool kp)
    have HV3 := Lib.hid (pairs_set HV2.out (L := L) (o := 9) HFR.out (.bool kp))
    go_wp2_with fail
    refine (HH.out _ _ HV3.out).mono ?_
    rintro e w4 ⟨rfl, hb4⟩
    have HU4 := Lib.hid (HU3.out.ret' hb4)
    have q4 := q3.trans (below_L hb4 HU3.out.lt)
    have HV4 := Lib.hid (HV3.out.ret hb4)
    clear hb4 c0 c1 c2 c3 c4 c5 c6 c7 c8 c9 c10 c11 f0 f1 f2 f3 f4 f5 f6 f7 f8 f9 f10 f11 HU3 HV3 HU2 HV2 lt2
    obtain ⟨lt4, c0, c1, c2, c3, c4, c5, c6, c7, c8, c9, c10, c11, f0, f1, f2, f3, f4, f5, f6, f7, f8, f9, f10, f11⟩ := HU4.out
    have HU5 := Lib.hid (HU4.out.p7 (.string R))
    have q5 := q4.set (o := 7) (.string R)
    have HV5 := Lib.hid (pairs_set HV4.out (L := L) (o := 7) HFR.out (.string R))
    go_wp2_with fail
    refine (FH.out _ _ HV5.out).mono ?_
    rintro e w6 ⟨rfl, hb6⟩
    have HU6 := Lib.hid (HU5.out.ret' hb6)
    have q6 := q5.trans (below_L hb6 HU5.out.lt)
    clear hb6 c0 c1 c2 c3 c4 c5 c6 c7 c8 c9 c10 c11 f0 f1 f2 f3 f4 f5 f6 f7 f8 f9 f10 f11 HU5 HV5 HU4 HV4 lt4
    obtain ⟨lt6, c0, c1, c2, c3, c4, c5, c6, c7, c8, c9, c10, c11, f0, f1, f2, f3, f4, f5, f6, f7, f8, f9, f10, f11⟩ := HU6.out
    have HU7 := Lib.hid ((HU6.out.p4 (.int .u8 kd)).p5 (.int .i64 n))
    have q7 := (q6.set (o := 4) (.int .u8 kd)).set (o := 5) (.int .i64 n)
    go_wp2_with fail

    all_goals first
      | (exfalso; omega)
      | (go_ret; exact ⟨400, _, _, _, _, _, _, _, _, _, rfl, HU7.out, q7, .inr (.inl ⟨rfl, by decide, HO.out⟩)⟩)
end Go.Proofs.YthgmgmbjjjnhnaaGreatDoor
