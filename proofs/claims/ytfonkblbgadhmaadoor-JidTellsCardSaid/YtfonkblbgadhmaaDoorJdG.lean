/- jid.of and jid.part. -/
import Derived.Test.YtfonkblbgadhmaaDoorJdF
namespace Go.Proofs.YtfonkblbgadhmaaDoor
open Go.RowKit Go.Lib

/-- A function's value that answers b of the text s, from now on. -/
def FnIs (f : Value) (s : ByteArray) (b : Bool) (w : World) : Prop := ∃ g lb, f = .func (.func g) #[] lb ∧ (∀ args w, (callFunc g args).run Tryd.prog w = .ok (.enter g args) w) ∧ ∀ W, Below w.heap.size w W → Calls Tryd.prog g (#[.string s] ++ lb) W (Ret W (.bool b))
theorem FnIs.ret {f : Value} {s : ByteArray} {b : Bool} {w w' : World} (h : FnIs f s b w) (hb : Below w.heap.size w w') : FnIs f s b w' := by
  obtain ⟨g, lb, h1, h2, h3⟩ := h
  exact ⟨g, lb, h1, h2, fun W hW => h3 W (hb.trans (hW.mono hb.size))⟩
theorem jd_of (set : ByteArray) (w : World) : Calls Tryd.prog 28 #[.string set] w fun e w' => e = .returned (.func (.func 40) #[] #[.pointer (some ⟨w.heap.size, 0, none⟩)]) ∧ w' = w.alloc (.cells #[.string set] 9) := by
  go_enter Tryd.func28, Tryd.ntmps28
  go_wp2_with fail
  go_ret
  exact ⟨rfl, rfl⟩
theorem e_of1 : ∀ args w, (callFunc 40 args).run Tryd.prog w = .ok (.enter 40 args) w := enters_of Tryd.func40 (by kernel_rfl) rfl
theorem e_words : ∀ args w, (callFunc 29 args).run Tryd.prog w = .ok (.enter 29 args) w := enters_of Tryd.func29 (by kernel_rfl) rfl
theorem e_ends : ∀ args w, (callFunc 30 args).run Tryd.prog w = .ok (.enter 30 args) w := enters_of Tryd.func30 (by kernel_rfl) rfl
theorem e_dots : ∀ args w, (callFunc 31 args).run Tryd.prog w = .ok (.enter 31 args) w := enters_of Tryd.func31 (by kernel_rfl) rfl
theorem e_part1 : ∀ args w, (callFunc 38 args).run Tryd.prog w = .ok (.enter 38 args) w := enters_of Tryd.func38 (by kernel_rfl) rfl
theorem fn_of (B : Nat) (set s : ByteArray) (w : World) (hl : B < w.heap.size) (hc : w.cell? ⟨B, 0, none⟩ = some (.string set)) (hs : s.size ≤ 10000) (hz : set.size ≤ 1000) (ha : set.data.toList.all (fun b => decide (b.toNat < 128)) = true) :
    FnIs (.func (.func 40) #[] #[.pointer (some ⟨B, 0, none⟩)]) s (s.data.toList.all (set.data.toList.contains ·)) w :=
  ⟨_, _, rfl, e_of1, fun W hW => jd_of1 B set s W (((bcell hW).1 _ _ hl).trans hc) (Nat.lt_of_lt_of_le hl hW.size) hs hz ha⟩
theorem fn_words (s : ByteArray) (w : World) (hs : s.size ≤ 10000) : FnIs (.func (.func 29) #[] #[]) s (txP s.data.toList && s.data.toList.all fun c => decide (32 ≤ c.toNat)) w :=
  ⟨_, _, rfl, e_words, fun W _ => jd_words s W hs⟩
theorem fn_ends (s : ByteArray) (w : World) (hs : s.size ≤ 10000) (h0 : 0 < s.size) : FnIs (.func (.func 30) #[] #[]) s (jdA (s.data.toList.headD 0) && jdA (s.data.toList.getLastD 0)) w :=
  ⟨_, _, rfl, e_ends, fun W _ => (jd_ends s W hs h0).mono fun _ _ ⟨h1, h2⟩ => ⟨h1, by rw [h2]; exact Below.refl _ _⟩⟩
theorem fn_dots (s : ByteArray) (w : World) (hs : s.size ≤ 10000) (hm : ML w) : FnIs (.func (.func 31) #[] #[]) s (!dotsP s.data.toList) w :=
  ⟨_, _, rfl, e_dots, fun W hW => (jd_dots s W hs (hm.ret hW)).mono fun _ _ ⟨h1, h2⟩ => ⟨h1, by rw [h2]; exact Below.refl _ _⟩⟩
theorem jd_part1 (f : Value) (L : Nat) (s : ByteArray) (b : Bool) (w : World) (hf : FnIs f s b w) (hL : w.cell? ⟨L, 0, none⟩ = some (.string s)) : Calls Tryd.prog 38 #[f, .pointer (some ⟨L, 0, none⟩)] w (Ret w (.bool (!b))) := by
  obtain ⟨g, lb, rfl, eg, hc⟩ := hf
  have C := Lib.hid (hc w (Below.refl _ _))
  clear hc
  go_enter Tryd.func38, Tryd.ntmps38
  go_wp2_with (go_at_fn g; refine C.out.mono ?_; rintro e w1 ⟨rfl, hb⟩)
  go_wp2_with fail
  go_ret
  exact ⟨rfl, hb⟩
set_option maxHeartbeats 4000000 in
theorem idx_part (M L : Nat) (s : ByteArray) (fs : List Value) (bs : List Bool) (w : World) (hl : fs.length = bs.length) (hn : fs.length ≤ 100) (hM : VAt M 0 fs w) (hL : w.cell? ⟨L, 0, none⟩ = some (.string s)) (hL2 : L < w.heap.size)
    (hf : ∀ i (h : i < fs.length) (h' : i < bs.length), FnIs fs[i] s bs[i] w) :
    Calls Tryd.prog 54 #[.slice (some ⟨M, 0, none⟩) fs.length fs.length, .func (.func 38) #[] #[.pointer (some ⟨L, 0, none⟩)]] w
      fun e w' => (∃ r : Int, e = .returned (.int .i64 r) ∧ decide (0 ≤ r) = !bs.all id) ∧ Below w.heap.size w w' := by
  have hM2 := hM.1
  have HM := Lib.hid hM
  have HF := Lib.hid hf
  have eg := e_part1
  obtain ⟨n, hnn⟩ : ∃ n, fs.length = n := ⟨_, rfl⟩
  rw [hnn] at hl hn ⊢
  have HN := Lib.hid hnn
  have HL := Lib.hid hl
  clear hf hM hnn hl
  go_enter Tryd.func54, Tryd.ntmps54
  go_wp2_with fail
  go_loopw [8] (fun i wr => ∃ k : Nat, k ≤ n ∧ i = .int .i64 k ∧ Below w.heap.size w wr ∧ bs.all id = (bs.drop k).all id) (fun i _ => n - (intOf i).toNat)
  case atStart => exact ⟨0, Nat.zero_le _, rfl, Below.refl _ _, rfl⟩
  case round =>
    obtain ⟨k, hk, rfl, hbw, hall⟩ := hrel
    by_cases hlt : k < n
    · have h1 : k < fs.length := by rw [HN.out]; exact hlt
      have h2 : k < bs.length := by rw [← HL.out]; exact hlt
      have hc1 := ((HM.out).ret hbw).2 k h1
      rw [Nat.zero_add] at hc1
      have hF := (HF.out k h1 h2).ret hbw
      obtain ⟨f, hfe⟩ : ∃ f, fs[k] = f := ⟨_, rfl⟩
      obtain ⟨b, hbe⟩ : ∃ f, bs[k] = f := ⟨_, rfl⟩
      rw [hfe] at hc1 hF
      rw [hbe] at hF
      have hd : bs.drop k = b :: bs.drop (k + 1) := by rw [List.drop_eq_getElem_cons h2, hbe]
      rw [hd, List.all_cons] at hall
      have C := Lib.hid (jd_part1 f L s b wr hF (((bcell hbw).1 _ _ hL2).trans hL))
      have HA := Lib.hid hall
      clear hF hfe hbe hd hall
      cases b with
      | true =>
        go_wp2_with (go_at_fn 38; refine C.out.mono ?_; rintro e w1 ⟨rfl, hb⟩)
        have hb2 := hbw.trans (hb.mono hbw.size)
        clear hb
        go_wp2_with fail
        go_roundw
        case rel => exact ⟨k + 1, by omega, by go_num, hb2, by rw [HA.out]; rfl⟩
        case measure => simp [intOf]; omega
      | false =>
        go_wp2_with (go_at_fn 38; refine C.out.mono ?_; rintro e w1 ⟨rfl, hb⟩)
        have hb2 := hbw.trans (hb.mono hbw.size)
        clear hb
        go_wp2_with fail
        go_ret
        exact ⟨⟨k, rfl, by rw [HA.out]; simp⟩, hb2⟩
    · obtain rfl : k = n := by omega
      rw [List.drop_eq_nil_of_le (by rw [← HL.out]; exact Nat.le_refl _)] at hall
      have HA := Lib.hid hall
      clear hall
      go_wp2_with fail
      go_ret
      exact ⟨⟨-1, rfl, by rw [HA.out]; rfl⟩, hbw⟩
theorem has_part (M L : Nat) (s : ByteArray) (fs : List Value) (bs : List Bool) (w : World) (hl : fs.length = bs.length) (hn : fs.length ≤ 100) (hM : VAt M 0 fs w) (hL : w.cell? ⟨L, 0, none⟩ = some (.string s)) (hL2 : L < w.heap.size)
    (hf : ∀ i (h : i < fs.length) (h' : i < bs.length), FnIs fs[i] s bs[i] w) :
    Calls Tryd.prog 39 #[.slice (some ⟨M, 0, none⟩) fs.length fs.length, .func (.func 38) #[] #[.pointer (some ⟨L, 0, none⟩)]] w (Ret w (.bool (!bs.all id))) := by
  have I := Lib.hid (idx_part M L s fs bs w hl hn hM hL hL2 hf)
  obtain ⟨n, hnn⟩ : ∃ n, fs.length = n := ⟨_, rfl⟩
  obtain ⟨t, ht⟩ : ∃ t, (!bs.all id) = t := ⟨_, rfl⟩
  rw [hnn, ht] at I
  rw [hnn, ht]
  clear hf hM ht
  go_enter Tryd.func39, Tryd.ntmps39
  go_wp2_with fail
  refine I.out.mono ?_
  rintro e w1 ⟨⟨r, rfl, hr⟩, hb⟩
  cases t with
  | true =>
    have g1 : 0 ≤ r := of_decide_eq_true hr
    go_wp2_with fail
    go_ret
    exact ⟨rfl, hb⟩
  | false =>
    have g1 : ¬ 0 ≤ r := of_decide_eq_false hr
    go_wp2_with fail
    go_ret
    exact ⟨rfl, hb⟩
set_option maxHeartbeats 4000000 in
theorem jd_part (M : Nat) (s : ByteArray) (fs : List Value) (bs : List Bool) (w : World) (hs : s.size ≤ 10000) (hl : fs.length = bs.length) (hn : fs.length ≤ 100) (hM : VAt M 0 fs w)
    (hf : 0 < s.size → s.size ≤ 64 → ∀ i (h : i < fs.length) (h' : i < bs.length), FnIs fs[i] s bs[i] w) :
    Calls Tryd.prog 27 #[.string s, .slice (some ⟨M, 0, none⟩) fs.length fs.length] w (Ret w (.bool (!s.data.toList.isEmpty && decide (s.data.toList.length ≤ 64) && bs.all id))) := by
  have hq0 := (Below.refl w.heap.size w).alloc (Nat.le_refl _) (.cells #[.string s] 9)
  rw [size_toList]
  by_cases h0 : 0 < s.size
  · have he : s.toList.isEmpty = false := isEmpty_of_pos h0
    have he2 : s.data.toList.isEmpty = false := by rw [← Lib.toList_data]; exact he
    have he3 : (s.toList == []) = false := by
      have := ne_nil_of_pos h0
      simpa using this
    rw [he2]
    by_cases h1 : s.size ≤ 64
    · have hc : (w.alloc (.cells #[.string s] 9)).cell? ⟨w.heap.size, 0, none⟩ = some (.string s) := by simp
      have C := has_part M w.heap.size s fs bs _ hl hn (hM.ret hq0) hc (by simp) (fun i h h' => (hf h0 h1 i h h').ret hq0)
      rw [decide_eq_true h1]
      obtain ⟨n, hnn⟩ : ∃ n, fs.length = n := ⟨_, rfl⟩
      obtain ⟨t, ht⟩ : ∃ t, bs.all id = t := ⟨_, rfl⟩
      rw [hnn, ht] at C
      rw [hnn, ht]
      have H := Lib.hid C
      have g1 : (s.size : Int) ≤ 64 := by omega
      clear C hf hM ht hc he2
      go_enter Tryd.func27, Tryd.ntmps27
      go_wp2_with fail
      refine H.out.mono ?_
      rintro e w1 ⟨rfl, hb⟩
      have hb2 := hq0.trans (hb.mono hq0.size)
      clear hb
      go_wp2_with fail
      go_ret
      exact ⟨by simp, hb2⟩
    · rw [decide_eq_false h1]
      have g1 : ¬ (s.size : Int) ≤ 64 := by omega
      obtain ⟨n, hnn⟩ : ∃ n, fs.length = n := ⟨_, rfl⟩
      rw [hnn]
      clear hf hM he2
      go_enter Tryd.func27, Tryd.ntmps27
      go_wp2_with fail
      go_ret
      exact ⟨rfl, hq0⟩
  · have hz : s.data.toList = [] := List.eq_nil_of_length_eq_zero (by rw [size_toList]; omega)
    have hz2 : s.toList = [] := by rw [Lib.toList_data]; exact hz
    have he3 : (s.toList == []) = true := by rw [hz2]; rfl
    rw [hz]
    obtain ⟨n, hnn⟩ : ∃ n, fs.length = n := ⟨_, rfl⟩
    rw [hnn]
    clear hf hM hz
    go_enter Tryd.func27, Tryd.ntmps27
    go_wp2_with fail
    go_ret
    exact ⟨rfl, hq0⟩
end Go.Proofs.YtfonkblbgadhmaaDoor
