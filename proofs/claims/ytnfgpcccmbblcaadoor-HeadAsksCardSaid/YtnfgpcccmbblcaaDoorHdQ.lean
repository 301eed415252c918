/- head.Keep. -/
import Derived.Test.YtnfgpcccmbblcaaDoorHdO
namespace Go.Proofs.YtnfgpcccmbblcaaDoor
open Go.RowKit

theorem mem_bts {xs : List (List UInt8)} {x : List UInt8} : (⟨x.toArray⟩ : ByteArray) ∈ bts xs ↔ x ∈ xs := by
  constructor
  · intro h
    obtain ⟨y, hy, e⟩ := List.mem_map.1 h
    have e2 := congrArg (fun b : ByteArray => b.data.toList) e
    simp only at e2
    have e3 : y = x := by simpa using e2
    exact e3 ▸ hy
  · intro h
    exact List.mem_map.2 ⟨x, h, rfl⟩
theorem vals_contains (v : Value) (xs : List (List UInt8)) (x : List UInt8) (w : World) (hv : IsVals v (strV xs) w) (hx : xs.length ≤ 1000001) :
    Calls Tryd.prog 75 #[v, .string ⟨x.toArray⟩] w (Ret w (.bool (decide (x ∈ xs)))) := by
  by_cases h0 : xs.length = 0
  · have e1 : xs = [] := List.length_eq_zero_iff.1 h0
    subst e1
    obtain ⟨a, ca, rfl, _, _⟩ := hv
    refine (Tryd.slices_Contains_string_empty a ca ⟨x.toArray⟩ w).mono ?_
    rintro e w' ⟨rfl, rfl⟩
    exact ⟨rfl, Below.refl _ _⟩
  · obtain ⟨b, off, cap, rfl, hc⟩ := vals_bts hv (by omega)
    refine (Tryd.slices_Contains_string b off xs.length cap (bts xs) ⟨x.toArray⟩ w (by rw [bts_len]; omega) (by omega) hc).mono ?_
    rintro e w' ⟨rfl, rfl⟩
    refine ⟨ret_b ?_, Below.refl _ _⟩
    rw [List.take_of_length_le (by rw [bts_len]; omega)]
    rw [Bool.eq_iff_iff, Lib.containsS_iff, mem_bts, decide_eq_true_eq]
def conL : List UInt8 := [99, 111, 110, 110, 101, 99, 116, 105, 111, 110]
def cloL : List UInt8 := [99, 108, 111, 115, 101]
def kpF (b : Bool) : List (List UInt8) → Bool × Int
  | [] => (b, 0)
  | x :: r => if lstE x = 0 then kpF (b && !decide (cloL ∈ lstV x)) r else (false, 140)
def kep (ps : List Pr) : Bool × Int := kpF true (fndV ps conL)
def kepT (x : Bool × Int) : Value := .tuple #[.bool x.1, .int .i64 x.2]
set_option maxHeartbeats 8000000 in
theorem hd_Keep (v : Value) (ps : List Pr) (w : World) (hv : IsPairs v ps w) (hl : ps.length ≤ 1000) (hz : ∀ p ∈ ps, p.1.length ≤ 1000000) (hz2 : ∀ p ∈ ps, p.2.length ≤ 1000000) : Calls Tryd.prog 38 #[v] w (Ret w (kepT (kep ps))) := by
  have F0 := hd_Find v ps ⟨#[99, 111, 110, 110, 101, 99, 116, 105, 111, 110]⟩ w hv hl hz (by decide)
  have bT : ∀ x ∈ fndV ps conL, x.length ≤ 1000000 := fun x hx => by
    obtain ⟨p, hp, rfl⟩ := fndV_mem hx
    exact hz2 p hp
  have hfl := fndV_len ps conL
  unfold FndIs at F0
  change Calls Tryd.prog 29 _ w (fun e w' => ∃ u, e = .returned u ∧ IsVals u (strV (fndV ps conL)) w' ∧ Below w.heap.size w w') at F0
  unfold kep
  obtain ⟨xs, hxs⟩ : ∃ xs, fndV ps conL = xs := ⟨_, rfl⟩
  rw [hxs] at F0 bT hfl ⊢
  obtain ⟨n, hn⟩ : ∃ n, xs.length = n := ⟨_, rfl⟩
  have zn : n ≤ 1000 := by omega
  have HN := Lib.hid hn
  have FH := Lib.hid F0
  have BT := Lib.hid bT
  obtain ⟨O, hO⟩ : ∃ O, kpF true xs = O := ⟨_, rfl⟩
  rw [hO]
  have HO := Lib.hid hO
  clear F0 bT hfl hxs hn hO hv hl hz hz2
  go_enter Tryd.func38, Tryd.ntmps38
  go_wp2_with fail
  refine (FH.out).mono ?_
  rintro e w1 ⟨u, rfl, hu, hb1⟩
  have hu' := hu
  obtain ⟨a, ca, rfl, _, _⟩ := hu'
  rw [strV_len, HN.out] at hu ⊢
  have HU := Lib.hid hu
  clear hu
  go_wp2_with fail
  go_loopw [4, 12] (fun x y wr => ∃ (k : Nat) (b : Bool), k ≤ n ∧ x = .bool b ∧ y = .int .i64 k ∧ kpF b (xs.drop k) = O ∧ IsVals (.slice a n ca) (strV xs) wr ∧ Below w.heap.size w wr) (fun _ y _ => n - (intOf y).toNat)
  case atStart => exact ⟨0, true, Nat.zero_le _, rfl, rfl, HO.out, HU.out, hb1⟩
  case round =>
    obtain ⟨k, b, hk, rfl, rfl, hkp, hV, hB⟩ := hrel
    have HV := Lib.hid hV
    by_cases hlt : k < n
    · have hx : k < xs.length := by have := HN.out; omega
      obtain ⟨b1, o1, cap1, hs1, _, hc⟩ := vals_cell' HV.out (k := k) (by rw [strV_len]; exact hx)
      have ha1 : a = some ⟨b1, o1, none⟩ := by injection hs1
      subst ha1
      have c1 := hc k (by rw [strV_len]; exact hx)
      have hzk := BT.out xs[k] (List.getElem_mem hx)
      rw [List.drop_eq_getElem_cons hx] at hkp
      obtain ⟨X, hX⟩ : ∃ X : ByteArray, ⟨xs[k].toArray⟩ = X := ⟨_, rfl⟩
      have hXl : X.data.toList = xs[k] := by rw [← hX]
      have e1 : (strV xs)[k]'(by rw [strV_len]; exact hx) = .string X := by rw [← hX]; simp [strV]
      rw [e1] at c1
      rw [← hXl] at hkp hzk
      have zX : X.size ≤ 1000000 := by rw [← size_toList]; exact hzk
      have L0 := fun w => as_List X w zX
      unfold LstIs at L0
      have hVl := lstV_le X.data.toList
      rw [size_toList] at hVl
      unfold kpF at hkp
      obtain ⟨E, hE⟩ : ∃ E, lstE X.data.toList = E := ⟨_, rfl⟩
      obtain ⟨ls, hls⟩ : ∃ ls, lstV X.data.toList = ls := ⟨_, rfl⟩
      simp only [hE, hls] at L0 hkp
      rw [hls] at hVl
      have LH := Lib.hid L0
      have HVL := Lib.hid (show ls.length ≤ 1000001 by omega)
      have HKP := Lib.hid hkp
      have g1 : (k : Int) < n := by omega
      have g2 : (0 : Int) ≤ (k : Int) := by omega
      clear L0 hVl hE hls hkp e1 hX hXl hzk hs1 hc hx zX hV
      go_wp2_with fail
      refine (LH.out _).mono ?_
      rintro e w2 ⟨y, rfl, hy, hb2⟩
      have HY := Lib.hid hy
      have q2 := hB.trans (hb2.mono hB.size)
      have HV2 := Lib.hid (HV.out.ret hb2)
      clear hy hb2 HV hB
      by_cases h : E = 0
      · subst h
        cases b with
        | false =>
          go_wp2_with fail
          go_roundw
          case rel => exact ⟨k + 1, false, by omega, rfl, by go_num, by have := HKP.out; simpa using this, HV2.out, q2⟩
          case measure => simp [intOf]; omega
        | true =>
          go_wp2_with fail
          refine (vals_contains y ls cloL _ HY.out HVL.out).mono ?_
          rintro e w3 ⟨rfl, hb3⟩
          have q3 := q2.trans (hb3.mono q2.size)
          have HV3 := Lib.hid (HV2.out.ret hb3)
          clear hb3 q2 HV2 HY
          obtain ⟨r, hr⟩ : ∃ r, decide (cloL ∈ ls) = r := ⟨_, rfl⟩
          rw [hr] at HKP ⊢
          clear hr
          go_wp2_with fail
          go_roundw
          case rel => exact ⟨k + 1, !r, by omega, by simp, by go_num, by have := HKP.out; simpa using this, HV3.out, q3⟩
          case measure => simp [intOf]; omega
      · have g : (E != 0) = true := by simp [h]
        have hOo : O = (false, 140) := by
          have := HKP.out
          rw [if_neg h] at this
          exact this.symm
        subst hOo
        clear h
        go_wp2_with fail
        go_ret2
        exact ⟨rfl, q2⟩
    · obtain rfl : k = n := by omega
      rw [List.drop_eq_nil_of_le (by have := HN.out; omega)] at hkp
      have hOo : O = (b, 0) := hkp.symm
      subst hOo
      clear hkp hV HV
      go_wp2_with fail
      go_ret2
      exact ⟨rfl, hB⟩
end Go.Proofs.YtnfgpcccmbblcaaDoor
