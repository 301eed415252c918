/- slices.BinarySearchFunc over contacts; roster.of$1. -/
import Derived.Test.YtfonkblbgadhmaaGreatDoorKm
import Derived.Test.YtfonkblbgadhmaaGreatDoorKk
namespace Go.Proofs.YtfonkblbgadhmaaGreatDoor
open Go.RowKit Go.Lib

def CmpIs (f : Value) (t : ByteArray) (q : It → Int) (M : List Im) (w : World) : Prop := ∃ g, f = .func (.func g) #[] #[] ∧ (∀ args w, (callFunc g args).run Tryz.prog w = .ok (.enter g args) w) ∧ ∀ p ∈ M, ∀ W, Below w.heap.size w W → Calls Tryz.prog g #[itA p, .string t] W (Ret W (.int .i64 (q p.1)))
set_option maxHeartbeats 2000000 in
set_option maxRecDepth 100000 in
theorem sl_Search (v f : Value) (t : ByteArray) (q : It → Int) (M : List Im) (N : Nat) (F : Bool) (w : World) (hv : IsItems v M w) (hM : M.length ≤ 100000) (hf : CmpIs f t q M w) (hN : N ≤ M.length)
  (hq : ∀ k (h : k < M.length), decide (q M[k].1 < 0) = decide (k < N)) (hF1 : ∀ (h : N < M.length), F = decide (q M[N].1 = 0)) (hF2 : ¬ N < M.length → F = false) :
  Calls Tryz.prog 74 #[v, .string t, f] w (Ret w (.tuple #[.int .i64 N, .bool F])) := by
 obtain ⟨a, cap, hfo, -⟩ := hv.form
 obtain ⟨g, rfl, eg, hg⟩ := hf
 obtain ⟨L, hL⟩ : ∃ L, M.length = L := ⟨_, rfl⟩
 rw [hL] at hfo hM hN
 subst hfo
 have HL := Lib.hid hL
 have HV := Lib.hid hv
 have HG := Lib.hid hg
 have HQ := Lib.hid hq
 have F1 := Lib.hid hF1
 have F2 := Lib.hid hF2
 clear hL hv hg hq hF1 hF2
 go_enter Tryz.func74, Tryz.ntmps74
 go_wp2_with fail
 go_loopw [9, 10] (fun i j wx => ∃ lo hi : Nat, i = .int .i64 lo ∧ j = .int .i64 hi ∧ lo ≤ N ∧ N ≤ hi ∧ hi ≤ L ∧ Below w.heap.size w wx) (fun i j _ => (intOf j).toNat - (intOf i).toNat)
 case atStart => exact ⟨0, L, rfl, rfl, Nat.zero_le _, hN, Nat.le_refl _, Below.refl _ _⟩
 case round =>
  obtain ⟨lo, hi, rfl, rfl, h1, h2, h3, hbw⟩ := hrel
  have hsz := hbw.size
  by_cases hlt : lo < hi
  ·obtain ⟨m, hm⟩ : ∃ m, (lo + hi) / 2 = m := ⟨_, rfl⟩
   have hmi : (((lo : Int) + (hi : Int)) / 2) = (m : Int) := by omega
   have hm1 : lo ≤ m := by omega
   have hm2 : m < hi := by omega
   have hkM : m < M.length := by rw [HL.out]; omega
   have hmL : m < L := by omega
   obtain ⟨b, off, cp, hf, hb0, hc⟩ := (HV.out.ret hbw).cell hkM
   rw [HL.out] at hf
   simp only [Value.slice.injEq, true_and] at hf
   obtain ⟨rfl, rfl⟩ := hf
   have hqm := HQ.out m hkM
   have hcall := HG.out M[m] (List.getElem_mem hkM) wr hbw
   obtain ⟨p, hp⟩ : ∃ p, M[m] = p := ⟨_, rfl⟩
   rw [hp] at hc hqm hcall
   obtain ⟨c0, c1, c2, c3, c4, c5, c6, c7⟩ := hc
   obtain ⟨y, hy⟩ : ∃ y, q p.1 = y := ⟨_, rfl⟩
   rw [hy] at hqm hcall
   have CH := Lib.hid hcall
   have HM := Lib.hid hm
   clear hp hy hcall hm
   by_cases hyn : y < 0
   ·have hlN : m < N := by rw [decide_eq_true hyn] at hqm; exact of_decide_eq_true hqm.symm
    clear hqm
    go_wp2_with (go_at_fn g; refine CH.out.mono ?_; rintro e w1 ⟨rfl, hb⟩)
    have hb2 := hbw.trans (hb.mono hsz)
    clear hb
    go_wp2_with fail
    go_roundw
    case rel => exact ⟨m + 1, hi, by first | rfl | go_num, rfl, hlN, h2, h3, hb2⟩
    case measure => simp [intOf]; omega
   ·have hlN : N ≤ m := by rw [decide_eq_false hyn] at hqm; have := of_decide_eq_false hqm.symm; omega
    clear hqm
    go_wp2_with (go_at_fn g; refine CH.out.mono ?_; rintro e w1 ⟨rfl, hb⟩)
    have hb2 := hbw.trans (hb.mono hsz)
    clear hb
    go_wp2_with fail
    go_roundw
    case rel => exact ⟨lo, m, rfl, by first | rfl | go_num, h1, hlN, by omega, hb2⟩
    case measure => simp [intOf]; omega
  ·obtain rfl : lo = N := by omega
   obtain rfl : hi = lo := by omega
   by_cases hNL : hi < L
   ·have hkM : hi < M.length := by rw [HL.out]; exact hNL
    obtain ⟨b, off, cp, hf, hb0, hc⟩ := (HV.out.ret hbw).cell hkM
    rw [HL.out] at hf
    simp only [Value.slice.injEq, true_and] at hf
    obtain ⟨rfl, rfl⟩ := hf
    have hF := F1.out hkM
    have hcall := HG.out M[hi] (List.getElem_mem hkM) wr hbw
    obtain ⟨p, hp⟩ : ∃ p, M[hi] = p := ⟨_, rfl⟩
    rw [hp] at hc hF hcall
    obtain ⟨c0, c1, c2, c3, c4, c5, c6, c7⟩ := hc
    obtain ⟨y, hy⟩ : ∃ y, q p.1 = y := ⟨_, rfl⟩
    rw [hy] at hF hcall
    have CH := Lib.hid hcall
    have HF := Lib.hid hF
    clear hp hy hcall hF
    by_cases hyn : y = 0
    ·go_wp2_with (go_at_fn g; refine CH.out.mono ?_; rintro e w1 ⟨rfl, hb⟩)
     have hb2 := hbw.trans (hb.mono hsz)
     clear hb
     go_wp2_with fail
     go_ret2
     exact ⟨by rw [HF.out]; first | rfl | simp [hyn], hb2⟩
    ·go_wp2_with (go_at_fn g; refine CH.out.mono ?_; rintro e w1 ⟨rfl, hb⟩)
     have hb2 := hbw.trans (hb.mono hsz)
     clear hb
     go_wp2_with fail
     go_ret2
     exact ⟨by rw [HF.out]; first | rfl | simp [hyn], hb2⟩
   ·have hF := F2.out (by rw [HL.out]; exact hNL)
    subst hF
    go_wp2_with fail
    go_ret2
    exact ⟨rfl, hbw⟩
theorem ro_of1 (p : Im) (t : ByteArray) (w : World) (hm : ML w) (zj : p.1.j.length ≤ 10000) (zt : t.size ≤ 10000) :
  Calls Tryz.prog 75 #[itA p, .string t] w (Ret w (.int .i64 (ordT p.1.j t.data.toList))) := by
 have q0 := (Below.refl w.heap.size w).alloc (Nat.le_refl _) (.cells (itC p).toArray 31)
 have OR := Lib.hid (ro_order ⟨p.1.j.toArray⟩ t _ (by rw [← size_toList]; exact zj) zt (hm.ret q0))
 go_enter Tryz.func75, Tryz.ntmps75
 go_wp2_with fail
 refine OR.out.mono ?_
 rintro e w1 ⟨rfl, hb⟩
 go_wp2_with fail
 go_ret
 exact ⟨rfl, q0.trans (hb.mono q0.size)⟩
theorem e_rof1 : ∀ args w, (callFunc 75 args).run Tryz.prog w = .ok (.enter 75 args) w := enters_of Tryz.func75 (by kernel_rfl) rfl
set_option maxRecDepth 100000 in
theorem cmp_of (t : ByteArray) (M : List Im) (w : World) (hm : ML w) (hs : SmallI M) (zt : t.size ≤ 10000) : CmpIs (.func (.func 75) #[] #[]) t (fun x => ordT x.j t.data.toList) M w :=
 ⟨75, rfl, e_rof1, fun p hp W hW => ro_of1 p t W (hm.ret hW) (hs.2 p hp).1 zt⟩
/-- where a text's address stands in an ordered list. -/
theorem search_of (M : List Im) (t : List UInt8) (hc : chainB (M.map Prod.fst) = true) : (∀ k (h : k < M.length), decide (ordT M[k].1.j t < 0) = decide (k < posL (M.map Prod.fst) t)) := fun k h => by
 rw [ordT_neg]
 have := posL_iff hc (t := t) k (by simpa using h)
 rw [List.getElem_map] at this
 exact this
end Go.Proofs.YtfonkblbgadhmaaGreatDoor
