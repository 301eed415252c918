/- JdG, JdH: put together by mergetpl.py. -/
import Derived.Test.YtjgeiieiinmdnaaGreatDoorKc
import Derived.Test.YtjgeiieiinmdnaaGreatDoorJdA
import Derived.Test.YtjgeiieiinmdnaaGreatDoorGh
namespace Go.Proofs.YtjgeiieiinmdnaaGreatDoor
open Go.RowKit Go.Lib

/-- A function's value that answers b of the text s, from now on. -/
def FnIs (f : Value) (s : ByteArray) (b : Bool) (w : World) : Prop := ∃ g lb, f = .func (.func g) #[] lb ∧ (∀ args w, (callFunc g args).run Tryz.prog w = .ok (.enter g args) w) ∧ ∀ W, Below w.heap.size w W → Calls Tryz.prog g (#[.string s] ++ lb) W (Ret W (.bool b))
theorem FnIs.ret {f : Value} {s : ByteArray} {b : Bool} {w w' : World} (h : FnIs f s b w) (hb : Below w.heap.size w w') : FnIs f s b w' := by
 obtain ⟨g, lb, h1, h2, h3⟩ := h
 exact ⟨g, lb, h1, h2, fun W hW => h3 W (hb.trans (hW.mono hb.size))⟩
theorem jd_of (set : ByteArray) (w : World) : Calls Tryz.prog 148 #[.string set] w fun e w' => e = .returned (.func (.func 188) #[] #[.pointer (some ⟨w.heap.size, 0, none⟩)]) ∧ w' = w.alloc (.cells #[.string set] 9) := by
 go_enter Tryz.func148, Tryz.ntmps148
 go_wp2_with fail
 go_ret
 exact ⟨rfl, rfl⟩
theorem e_of1 : ∀ args w, (callFunc 188 args).run Tryz.prog w = .ok (.enter 188 args) w := enters_of Tryz.func188 (by kernel_rfl) rfl
theorem e_words : ∀ args w, (callFunc 149 args).run Tryz.prog w = .ok (.enter 149 args) w := enters_of Tryz.func149 (by kernel_rfl) rfl
theorem e_ends : ∀ args w, (callFunc 150 args).run Tryz.prog w = .ok (.enter 150 args) w := enters_of Tryz.func150 (by kernel_rfl) rfl
theorem e_dots : ∀ args w, (callFunc 151 args).run Tryz.prog w = .ok (.enter 151 args) w := enters_of Tryz.func151 (by kernel_rfl) rfl
theorem e_part1 : ∀ args w, (callFunc 186 args).run Tryz.prog w = .ok (.enter 186 args) w := enters_of Tryz.func186 (by kernel_rfl) rfl
theorem fn_of (B : Nat) (set s : ByteArray) (w : World) (hl : B < w.heap.size) (hc : w.cell? ⟨B, 0, none⟩ = some (.string set)) (hs : s.size ≤ 10000) (hz : set.size ≤ 1000) (ha : set.data.toList.all (fun b => decide (b.toNat < 128)) = true) :
  FnIs (.func (.func 188) #[] #[.pointer (some ⟨B, 0, none⟩)]) s (s.data.toList.all (set.data.toList.contains ·)) w :=
 ⟨_, _, rfl, e_of1, fun W hW => jd_of1 B set s W (((bcell hW).1 _ _ hl).trans hc) (Nat.lt_of_lt_of_le hl hW.size) hs hz ha⟩
theorem fn_words (s : ByteArray) (w : World) (hs : s.size ≤ 10000) : FnIs (.func (.func 149) #[] #[]) s (txP s.data.toList && s.data.toList.all fun c => decide (32 ≤ c.toNat)) w :=
 ⟨_, _, rfl, e_words, fun W _ => jd_words s W hs⟩
theorem fn_ends (s : ByteArray) (w : World) (hs : s.size ≤ 10000) (h0 : 0 < s.size) : FnIs (.func (.func 150) #[] #[]) s (jdA (s.data.toList.headD 0) && jdA (s.data.toList.getLastD 0)) w :=
 ⟨_, _, rfl, e_ends, fun W _ => (jd_ends s W hs h0).mono fun _ _ ⟨h1, h2⟩ => ⟨h1, by rw [h2]; exact Below.refl _ _⟩⟩
theorem fn_dots (s : ByteArray) (w : World) (hs : s.size ≤ 10000) (hm : ML w) : FnIs (.func (.func 151) #[] #[]) s (!dotsP s.data.toList) w :=
 ⟨_, _, rfl, e_dots, fun W hW => (jd_dots s W hs (hm.ret hW)).mono fun _ _ ⟨h1, h2⟩ => ⟨h1, by rw [h2]; exact Below.refl _ _⟩⟩
theorem jd_part1 (f : Value) (L : Nat) (s : ByteArray) (b : Bool) (w : World) (hf : FnIs f s b w) (hL : w.cell? ⟨L, 0, none⟩ = some (.string s)) : Calls Tryz.prog 186 #[f, .pointer (some ⟨L, 0, none⟩)] w (Ret w (.bool (!b))) := by
 obtain ⟨g, lb, rfl, eg, hc⟩ := hf
 have C := Lib.hid (hc w (Below.refl _ _))
 clear hc
 go_enter Tryz.func186, Tryz.ntmps186
 go_wp2_with (go_at_fn g; refine C.out.mono ?_; rintro e w1 ⟨rfl, hb⟩)
 go_wp2_with fail
 go_ret
 exact ⟨rfl, hb⟩
set_option maxHeartbeats 4000000 in
theorem idx_part (M L : Nat) (s : ByteArray) (fs : List Value) (bs : List Bool) (w : World) (hl : fs.length = bs.length) (hn : fs.length ≤ 100) (hM : VAt M 0 fs w) (hL : w.cell? ⟨L, 0, none⟩ = some (.string s)) (hL2 : L < w.heap.size)
  (hf : ∀ i (h : i < fs.length) (h' : i < bs.length), FnIs fs[i] s bs[i] w) :
  Calls Tryz.prog 217 #[.slice (some ⟨M, 0, none⟩) fs.length fs.length, .func (.func 186) #[] #[.pointer (some ⟨L, 0, none⟩)]] w
   fun e w' => (∃ r : Int, e = .returned (.int .i64 r) ∧ decide (0 ≤ r) = !bs.all id) ∧ Below w.heap.size w w' := by
 have hM2 := hM.1
 have HM := Lib.hid hM
 have HF := Lib.hid hf
 have eg := e_part1
 obtain ⟨n, hnn⟩ : ∃ n, fs.length = n := ⟨_, rfl⟩
 rw [hnn] at hl hn ⊢
 have HN := Lib.hid hnn
 have HL := Lib.hid hl
 clear hf hM hnn hl
 go_enter Tryz.func217, Tryz.ntmps217
 go_wp2_with fail
 go_loopw [8] (fun i wr => ∃ k : Nat, k ≤ n ∧ i = .int .i64 k ∧ Below w.heap.size w wr ∧ bs.all id = (bs.drop k).all id) (fun i _ => n - (intOf i).toNat)
 case atStart => exact ⟨0, Nat.zero_le _, rfl, Below.refl _ _, rfl⟩
 case round =>
  obtain ⟨k, hk, rfl, hbw, hall⟩ := hrel
  by_cases hlt : k < n
  ·have h1 : k < fs.length := by rw [HN.out]; exact hlt
   have h2 : k < bs.length := by rw [← HL.out]; exact hlt
   have hc1 := ((HM.out).ret hbw).2 k h1
   rw [Nat.zero_add] at hc1
   have hF := (HF.out k h1 h2).ret hbw
   obtain ⟨f, hfe⟩ : ∃ f, fs[k] = f := ⟨_, rfl⟩
   obtain ⟨b, hbe⟩ : ∃ f, bs[k] = f := ⟨_, rfl⟩
   rw [hfe] at hc1 hF
   rw [hbe] at hF
   have hd : bs.drop k = b :: bs.drop (k + 1) := by rw [List.drop_eq_getElem_cons h2, hbe]
   rw [hd, List.all_cons] at hall
   have C := Lib.hid (jd_part1 f L s b wr hF (((bcell hbw).1 _ _ hL2).trans hL))
   have HA := Lib.hid hall
   clear hF hfe hbe hd hall
   cases b with
   | true =>
    go_wp2_with (go_at_fn 186; refine C.out.mono ?_; rintro e w1 ⟨rfl, hb⟩)
    have hb2 := hbw.trans (hb.mono hbw.size)
    clear hb
    go_wp2_with fail
    go_roundw
    case rel => exact ⟨k + 1, by omega, by go_num, hb2, by rw [HA.out]; rfl⟩
    case measure => simp [intOf]; omega
   | false =>
    go_wp2_with (go_at_fn 186; refine C.out.mono ?_; rintro e w1 ⟨rfl, hb⟩)
    have hb2 := hbw.trans (hb.mono hbw.size)
    clear hb
    go_wp2_with fail
    go_ret
    exact ⟨⟨k, rfl, by rw [HA.out]; simp⟩, hb2⟩
  ·obtain rfl : k = n := by omega
   rw [List.drop_eq_nil_of_le (by rw [← HL.out]; exact Nat.le_refl _)] at hall
   have HA := Lib.hid hall
   clear hall
   go_wp2_with fail
   go_ret
   exact ⟨⟨-1, rfl, by rw [HA.out]; rfl⟩, hbw⟩
theorem has_part (M L : Nat) (s : ByteArray) (fs : List Value) (bs : List Bool) (w : World) (hl : fs.length = bs.length) (hn : fs.length ≤ 100) (hM : VAt M 0 fs w) (hL : w.cell? ⟨L, 0, none⟩ = some (.string s)) (hL2 : L < w.heap.size)
  (hf : ∀ i (h : i < fs.length) (h' : i < bs.length), FnIs fs[i] s bs[i] w) :
  Calls Tryz.prog 187 #[.slice (some ⟨M, 0, none⟩) fs.length fs.length, .func (.func 186) #[] #[.pointer (some ⟨L, 0, none⟩)]] w (Ret w (.bool (!bs.all id))) := by
 have I := Lib.hid (idx_part M L s fs bs w hl hn hM hL hL2 hf)
 obtain ⟨n, hnn⟩ : ∃ n, fs.length = n := ⟨_, rfl⟩
 obtain ⟨t, ht⟩ : ∃ t, (!bs.all id) = t := ⟨_, rfl⟩
 rw [hnn, ht] at I
 rw [hnn, ht]
 clear hf hM ht
 go_enter Tryz.func187, Tryz.ntmps187
 go_wp2_with fail
 refine I.out.mono ?_
 rintro e w1 ⟨⟨r, rfl, hr⟩, hb⟩
 cases t with
 | true =>
  have g1 : 0 ≤ r := of_decide_eq_true hr
  go_wp2_with fail
  go_ret
  exact ⟨rfl, hb⟩
 | false =>
  have g1 : ¬ 0 ≤ r := of_decide_eq_false hr
  go_wp2_with fail
  go_ret
  exact ⟨rfl, hb⟩
set_option maxHeartbeats 4000000 in
theorem jd_part (M : Nat) (s : ByteArray) (fs : List Value) (bs : List Bool) (w : World) (hs : s.size ≤ 10000) (hl : fs.length = bs.length) (hn : fs.length ≤ 100) (hM : VAt M 0 fs w)
  (hf : 0 < s.size → s.size ≤ 64 → ∀ i (h : i < fs.length) (h' : i < bs.length), FnIs fs[i] s bs[i] w) :
  Calls Tryz.prog 147 #[.string s, .slice (some ⟨M, 0, none⟩) fs.length fs.length] w (Ret w (.bool (!s.data.toList.isEmpty && decide (s.data.toList.length ≤ 64) && bs.all id))) := by
 have hq0 := (Below.refl w.heap.size w).alloc (Nat.le_refl _) (.cells #[.string s] 9)
 rw [size_toList]
 by_cases h0 : 0 < s.size
 ·have he : s.toList.isEmpty = false := isEmpty_of_pos h0
  have he2 : s.data.toList.isEmpty = false := by rw [← Lib.toList_data]; exact he
  have he3 : (s.toList == []) = false := by
   have := ne_nil_of_pos h0
   simpa using this
  rw [he2]
  by_cases h1 : s.size ≤ 64
  ·have hc : (w.alloc (.cells #[.string s] 9)).cell? ⟨w.heap.size, 0, none⟩ = some (.string s) := by simp
   have C := has_part M w.heap.size s fs bs _ hl hn (hM.ret hq0) hc (by simp) (fun i h h' => (hf h0 h1 i h h').ret hq0)
   rw [decide_eq_true h1]
   obtain ⟨n, hnn⟩ : ∃ n, fs.length = n := ⟨_, rfl⟩
   obtain ⟨t, ht⟩ : ∃ t, bs.all id = t := ⟨_, rfl⟩
   rw [hnn, ht] at C
   rw [hnn, ht]
   have H := Lib.hid C
   have g1 : (s.size : Int) ≤ 64 := by omega
   clear C hf hM ht hc he2
   go_enter Tryz.func147, Tryz.ntmps147
   go_wp2_with fail
   refine H.out.mono ?_
   rintro e w1 ⟨rfl, hb⟩
   have hb2 := hq0.trans (hb.mono hq0.size)
   clear hb
   go_wp2_with fail
   go_ret
   exact ⟨by simp, hb2⟩
  ·rw [decide_eq_false h1]
   have g1 : ¬ (s.size : Int) ≤ 64 := by omega
   obtain ⟨n, hnn⟩ : ∃ n, fs.length = n := ⟨_, rfl⟩
   rw [hnn]
   clear hf hM he2
   go_enter Tryz.func147, Tryz.ntmps147
   go_wp2_with fail
   go_ret
   exact ⟨rfl, hq0⟩
 ·have hz : s.data.toList = [] := List.eq_nil_of_length_eq_zero (by rw [size_toList]; omega)
  have hz2 : s.toList = [] := by rw [Lib.toList_data]; exact hz
  have he3 : (s.toList == []) = true := by rw [hz2]; rfl
  rw [hz]
  obtain ⟨n, hnn⟩ : ∃ n, fs.length = n := ⟨_, rfl⟩
  rw [hnn]
  clear hf hM hz
  go_enter Tryz.func147, Tryz.ntmps147
  go_wp2_with fail
  go_ret
  exact ⟨rfl, hq0⟩
end Go.Proofs.YtjgeiieiinmdnaaGreatDoor
namespace Go.Proofs.YtjgeiieiinmdnaaGreatDoor
open Go.RowKit Go.Lib

abbrev fOf (B : Nat) : Value := .func (.func 188) #[] #[.pointer (some ⟨B, 0, none⟩)]
abbrev fWords : Value := .func (.func 149) #[] #[]
abbrev fEnds : Value := .func (.func 150) #[] #[]
abbrev fDots : Value := .func (.func 151) #[] #[]
def OfIs (set : ByteArray) (w : World) (e : Ending) (w' : World) : Prop := ∃ B, e = .returned (fOf B) ∧ B < w'.heap.size ∧ w'.cell? ⟨B, 0, none⟩ = some (.string set) ∧ Below w.heap.size w w'
theorem of_is (set : ByteArray) (w : World) : Calls Tryz.prog 148 #[.string set] w (OfIs set w) :=
 (jd_of set w).mono fun e w' ⟨h1, h2⟩ => ⟨w.heap.size, h1, by rw [h2]; simp, by rw [h2]; simp, by rw [h2]; exact (Below.refl _ _).alloc (Nat.le_refl _) _⟩
theorem vat1 (w : World) (a : Value) (t : TypeId) : VAt w.heap.size 0 [a] (w.alloc (.cells #[a] t)) := by
 refine ⟨by simp, fun j hj => ?_⟩
 obtain rfl : j = 0 := by simp at hj; omega
 simp
theorem vat3 (w : World) (a b c : Value) (t : TypeId) : VAt w.heap.size 0 [a, b, c] (w.alloc (.cells #[a, b, c] t)) := by
 refine ⟨by simp, fun j hj => ?_⟩
 have hj : j < 3 := hj
 rcases Nat.lt_or_ge j 1 with h | h
 ·obtain rfl : j = 0 := by omega
  simp
 ·rcases Nat.lt_or_ge j 2 with h' | h'
  ·obtain rfl : j = 1 := by omega
   simp
  ·obtain rfl : j = 2 := by omega
   simp
theorem loc_all (l : List UInt8) : l.all (locB.data.toList.contains ·) = l.all jdL := by
 congr 1
 funext c
 exact loc_L c
theorem dom_all (l : List UInt8) : l.all (domB.data.toList.contains ·) = l.all jdD := by
 congr 1
 funext c
 exact dom_D c
theorem jd_partL (M B : Nat) (s : ByteArray) (w : World) (hs : s.size ≤ 10000) (hv : VAt M 0 [fOf B] w) (hB : B < w.heap.size) (hc : w.cell? ⟨B, 0, none⟩ = some (.string locB)) :
  Calls Tryz.prog 147 #[.string s, .slice (some ⟨M, 0, none⟩) 1 1] w (Ret w (.bool (locP s.data.toList))) := by
 have h := jd_part M s [fOf B] [s.data.toList.all (locB.data.toList.contains ·)] w hs rfl (by simp) hv (fun _ _ i h h' => by
  obtain rfl : i = 0 := by simp at h; omega
  exact fn_of B locB s w hB hc hs (by decide) (by decide +kernel))
 rw [loc_all] at h
 have e : (!s.data.toList.isEmpty && decide (s.data.toList.length ≤ 64) && [s.data.toList.all jdL].all id) = locP s.data.toList := by
  unfold locP
  simp
 rw [e] at h
 exact h
theorem jd_partR (M : Nat) (s : ByteArray) (w : World) (hs : s.size ≤ 10000) (hv : VAt M 0 [fWords] w) :
  Calls Tryz.prog 147 #[.string s, .slice (some ⟨M, 0, none⟩) 1 1] w (Ret w (.bool (resP s.data.toList))) := by
 have h := jd_part M s [fWords] [txP s.data.toList && s.data.toList.all fun c => decide (32 ≤ c.toNat)] w hs rfl (by simp) hv (fun _ _ i h h' => by
  obtain rfl : i = 0 := by simp at h; omega
  exact fn_words s w hs)
 have e : (!s.data.toList.isEmpty && decide (s.data.toList.length ≤ 64) && [txP s.data.toList && s.data.toList.all fun c => decide (32 ≤ c.toNat)].all id) = resP s.data.toList := by
  unfold resP
  simp
 rw [e] at h
 exact h
theorem jd_partD (M B : Nat) (s : ByteArray) (w : World) (hs : s.size ≤ 10000) (hv : VAt M 0 [fOf B, fEnds, fDots] w) (hB : B < w.heap.size) (hc : w.cell? ⟨B, 0, none⟩ = some (.string domB)) (hm : ML w) :
  Calls Tryz.prog 147 #[.string s, .slice (some ⟨M, 0, none⟩) 3 3] w (Ret w (.bool (domP s.data.toList))) := by
 have h := jd_part M s [fOf B, fEnds, fDots] [s.data.toList.all (domB.data.toList.contains ·), jdA (s.data.toList.headD 0) && jdA (s.data.toList.getLastD 0), !dotsP s.data.toList] w hs rfl (by simp) hv (fun h0 _ i h h' => by
  have h : i < 3 := h
  rcases Nat.lt_or_ge i 1 with g | g
  ·obtain rfl : i = 0 := by omega
   exact fn_of B domB s w hB hc hs (by decide) (by decide +kernel)
  ·rcases Nat.lt_or_ge i 2 with g' | g'
   ·obtain rfl : i = 1 := by omega
    exact fn_ends s w hs h0
   ·obtain rfl : i = 2 := by omega
    exact fn_dots s w hs hm)
 rw [dom_all] at h
 have e : (!s.data.toList.isEmpty && decide (s.data.toList.length ≤ 64) && [s.data.toList.all jdD, jdA (s.data.toList.headD 0) && jdA (s.data.toList.getLastD 0), !dotsP s.data.toList].all id) = domP s.data.toList := by
  unfold domP
  simp only [List.all_cons, List.all_nil, id, Bool.and_true, Bool.and_assoc]
 rw [e] at h
 exact h
theorem chk_O (l d r : List UInt8) (A B C : Bool) (hA : (l.isEmpty || locP l) = A) (hB : (r.isEmpty || resP r) = B) (hC : domP d = C) : (if chkP l d r = true then (0 : Int) else 8) = if (A && B && C) = true then 0 else 8 := by
 unfold chkP
 rw [hA, hB, hC]
theorem nil_facts {s : ByteArray} (h : s.data.toList.isEmpty = true) : s = ⟨#[]⟩ := by
 apply str_ext
 rw [List.isEmpty_iff.1 h]
theorem cons_facts {s : ByteArray} (h : s.data.toList.isEmpty = false) : (s.toList == []) = false := by
 rw [Lib.toList_data]
 cases hs : s.data.toList with
 | nil => rw [hs] at h; cases h
 | cons a l => rfl
set_option maxHeartbeats 8000000 in
set_option maxRecDepth 100000 in
theorem jd_Check_EE (l d r : ByteArray) (w : World) (zl : l.size ≤ 10000) (zd : d.size ≤ 10000) (zr : r.size ≤ 10000) (hm : ML w) (hl : l.data.toList.isEmpty = true) (hr : r.data.toList.isEmpty = true) (c : Bool) (haD : domP d.data.toList = c) :
  Calls Tryz.prog 91 #[jV l d r] w (Ret w (.int .i64 (if c = true then (0 : Int) else 8))) := by
 have k00 := JAt.new w l d r
 obtain ⟨O, hO⟩ : ∃ O : Int, (if c = true then (0 : Int) else 8) = O := ⟨_, rfl⟩
 rw [hO]
 have HO := Lib.hid hO
 clear hO
 have q00 := (Below.refl w.heap.size w).alloc (Nat.le_refl _) (.cells #[.string l, .string d, .string r] 117)
 have m00 := hm.ret q00
 obtain ⟨W, hW⟩ : ∃ W, w.alloc (.cells #[.string l, .string d, .string r] 117) = W := ⟨_, rfl⟩
 rw [hW] at k00 q00 m00
 have k0 := k00
 have q0 := q00
 have m0 := m00
 have HW := Lib.hid hW
 clear hW k00 q00 m00 hm
 obtain rfl := nil_facts hl
 obtain rfl := nil_facts hr
 go_enter Tryz.func91, Tryz.ntmps91
 go_wp2_with fail
 rw [HW.out]
 refine wp_region_held_drew (S := fun w' => w'.cell? ⟨w.heap.size, 0, none⟩ = some (.string ⟨#[]⟩) ∧ w'.cell? ⟨w.heap.size, 1, none⟩ = some (.string d) ∧ w'.cell? ⟨w.heap.size, 2, none⟩ = some (.string ⟨#[]⟩)) (by kernel_rfl) ⟨k0.c0, k0.c1, k0.c2⟩ (fun hHeld => ?_)
 have k1 := k0.ret (Below.drew (Below.refl _ _))
 have q1 := q0.drew
 have m1 := m0.ret (Below.drew (Below.refl _ _))
 refine tk_start [(0, some 5), (1, some 6), (2, some 7), (3, some 8)] ?_
 iterate 4
  refine tk_step (v := ?_) (by kernel_rfl) (by kernel_rfl) (fun _ _ _ h => h) (by assumption) (fun o ho w' hSw => ?_) ?_
  rotate_left
  ·simp only [List.getElem?_toArray, List.getElem?_cons_succ, List.getElem?_cons_zero, Option.some.injEq] at ho; subst ho; (try dsimp only at hSw); go_simp; try with_reducible rfl
  simp only [Act.put, List.setIfInBounds_toArray, List.set_cons_zero, List.set_cons_succ]
 refine tk_end ?_
 refine tk_off (i := 4) (some 9) (by kernel_rfl) (by kernel_rfl) (by kernel_rfl) (by kernel_rfl) (fun _ _ _ h => h) (by assumption) ?_
 simp only [Act.put, List.setIfInBounds_toArray, List.set_cons_zero, List.set_cons_succ]
 refine tk_off (i := 5) (some 10) (by kernel_rfl) (by kernel_rfl) (by kernel_rfl) (by kernel_rfl) (fun _ _ _ h => h) (by assumption) ?_
 simp only [Act.put, List.setIfInBounds_toArray, List.set_cons_zero, List.set_cons_succ]
 refine tk_off (i := 6) (some 11) (by kernel_rfl) (by kernel_rfl) (by kernel_rfl) (by kernel_rfl) (fun _ _ _ h => h) (by assumption) ?_
 simp only [Act.put, List.setIfInBounds_toArray, List.set_cons_zero, List.set_cons_succ]
 refine tk_off (i := 7) (some 12) (by kernel_rfl) (by kernel_rfl) (by kernel_rfl) (by kernel_rfl) (fun _ _ _ h => h) (by assumption) ?_
 simp only [Act.put, List.setIfInBounds_toArray, List.set_cons_zero, List.set_cons_succ]
 refine tk_off (i := 8) (some 13) (by kernel_rfl) (by kernel_rfl) (by kernel_rfl) (by kernel_rfl) (fun _ _ _ h => h) (by assumption) ?_
 simp only [Act.put, List.setIfInBounds_toArray, List.set_cons_zero, List.set_cons_succ]
 refine tk_start [(9, some 14), (10, some 3)] ?_
 iterate 2
  refine tk_step (v := ?_) (by kernel_rfl) (by kernel_rfl) (fun _ _ _ h => h) (by assumption) (fun o ho w' hSw => ?_) ?_
  rotate_left
  ·simp only [List.getElem?_toArray, List.getElem?_cons_succ, List.getElem?_cons_zero, Option.some.injEq] at ho; subst ho; (try dsimp only at hSw); go_simp; try with_reducible rfl
  simp only [Act.put, List.setIfInBounds_toArray, List.set_cons_zero, List.set_cons_succ]
 refine tk_end ?_
 refine wpAnyH_done (by kernel_rfl) ?_ _
 go_wp2_with fail
 refine wp_region_held_drew (S := fun w' => w'.cell? ⟨w.heap.size, 0, none⟩ = some (.string ⟨#[]⟩) ∧ w'.cell? ⟨w.heap.size, 1, none⟩ = some (.string d) ∧ w'.cell? ⟨w.heap.size, 2, none⟩ = some (.string ⟨#[]⟩)) (by kernel_rfl) ⟨k1.c0, k1.c1, k1.c2⟩ (fun hHeld => ?_)
 have k2 := k1.ret (Below.drew (Below.refl _ _))
 have q2 := q1.drew
 have m2 := m1.ret (Below.drew (Below.refl _ _))
 refine tk_start [(0, some 24), (1, some 25), (2, some 26), (3, some 27), (4, some 28), (5, some 29), (6, some 30), (7, some 31), (8, some 32)] ?_
 iterate 9
  refine tk_step (v := ?_) (by kernel_rfl) (by kernel_rfl) (fun _ _ _ h => h) (by assumption) (fun o ho w' hSw => ?_) ?_
  rotate_left
  ·simp only [List.getElem?_toArray, List.getElem?_cons_succ, List.getElem?_cons_zero, Option.some.injEq] at ho; subst ho; (try dsimp only at hSw); go_simp; try with_reducible rfl
  simp only [Act.put, List.setIfInBounds_toArray, List.set_cons_zero, List.set_cons_succ]
 refine tk_end ?_
 refine tk_call (i := 9) (by kernel_rfl) (by kernel_rfl) (fun o ho K hK => ?_)
 simp only [List.getElem?_toArray, List.getElem?_cons_succ, List.getElem?_cons_zero, Option.some.injEq] at ho
 subst ho
 go_simp
 refine (of_is domB _).mono ?_
 rintro e w3 ⟨B3, rfl, zb3, cb3, hb3⟩
 have k3 := k2.ret hb3
 have q3 := q2.trans (hb3.mono q2.size)
 have m3 := m2.ret hb3
 clear hb3
 go_simp
 clear hHeld
 refine hK.out _ _ ⟨k3.c0, k3.c1, k3.c2⟩ (fun hHeld => ?_)
 clear hK K
 refine tk_call (i := 10) (by kernel_rfl) (by kernel_rfl) (fun o ho K hK => ?_)
 simp only [List.getElem?_toArray, List.getElem?_cons_succ, List.getElem?_cons_zero, Option.some.injEq] at ho
 subst ho
 go_simp
 have b4 := (Below.refl w3.heap.size w3).alloc (Nat.le_refl _) (.cells #[fOf B3, fEnds, fDots] 86)
 have k4 := k3.ret b4
 have q4 := q3.trans (b4.mono q3.size)
 have m4 := m3.ret b4
 have v4 : VAt w3.heap.size 0 [fOf B3, fEnds, fDots] (w3.alloc (.cells #[fOf B3, fEnds, fDots] 86)) := vat3 _ _ _ _ _
 have cb3' := ((bcell b4).1 _ _ zb3).trans cb3
 have zb3' := Nat.lt_of_lt_of_le zb3 b4.size
 have P4 := Lib.hid (jd_partD _ _ d _ zd v4 zb3' cb3' m4)
 rw [haD] at P4
 clear b4 v4 cb3 zb3 cb3' zb3'
 clear hHeld
 refine hK.out _ _ ⟨k4.c0, k4.c1, k4.c2⟩ (fun hHeld => ?_)
 clear hK K
 refine tk_call (i := 11) (by kernel_rfl) (by kernel_rfl) (fun o ho K hK => ?_)
 simp only [List.getElem?_toArray, List.getElem?_cons_succ, List.getElem?_cons_zero, Option.some.injEq] at ho
 subst ho
 go_simp
 refine P4.out.mono ?_
 rintro e w5 ⟨rfl, hb5⟩
 have k5 := k4.ret hb5
 have q5 := q4.trans (hb5.mono q4.size)
 have m5 := m4.ret hb5
 clear hb5
 go_simp
 clear hHeld
 refine hK.out _ _ ⟨k5.c0, k5.c1, k5.c2⟩ (fun hHeld => ?_)
 clear hK K
 refine tk_start [(12, some 36), (13, some 37)] ?_
 iterate 2
  refine tk_step (v := ?_) (by kernel_rfl) (by kernel_rfl) (fun _ _ _ h => h) (by assumption) (fun o ho w' hSw => ?_) ?_
  rotate_left
  ·simp only [List.getElem?_toArray, List.getElem?_cons_succ, List.getElem?_cons_zero, Option.some.injEq] at ho; subst ho; (try dsimp only at hSw); go_simp; try with_reducible rfl
  simp only [Act.put, List.setIfInBounds_toArray, List.set_cons_zero, List.set_cons_succ]
 refine tk_end ?_
 refine wpAnyH_done (by kernel_rfl) ?_ _
 cases c with
 | true =>
  go_wp2_with fail
  go_ret
  exact ⟨by rw [← HO.out]; rfl, q5⟩
 | false =>
  go_wp2_with fail
  go_ret
  exact ⟨by rw [← HO.out]; rfl, q5⟩
set_option maxHeartbeats 8000000 in
set_option maxRecDepth 100000 in
theorem jd_Check_ET (l d r : ByteArray) (w : World) (zl : l.size ≤ 10000) (zd : d.size ≤ 10000) (zr : r.size ≤ 10000) (hm : ML w) (hl : l.data.toList.isEmpty = true) (hr : r.data.toList.isEmpty = false) (haR : resP r.data.toList = true) (c : Bool) (haD : domP d.data.toList = c) :
  Calls Tryz.prog 91 #[jV l d r] w (Ret w (.int .i64 (if c = true then (0 : Int) else 8))) := by
 have k00 := JAt.new w l d r
 obtain ⟨O, hO⟩ : ∃ O : Int, (if c = true then (0 : Int) else 8) = O := ⟨_, rfl⟩
 rw [hO]
 have HO := Lib.hid hO
 clear hO
 have q00 := (Below.refl w.heap.size w).alloc (Nat.le_refl _) (.cells #[.string l, .string d, .string r] 117)
 have m00 := hm.ret q00
 obtain ⟨W, hW⟩ : ∃ W, w.alloc (.cells #[.string l, .string d, .string r] 117) = W := ⟨_, rfl⟩
 rw [hW] at k00 q00 m00
 have k0 := k00
 have q0 := q00
 have m0 := m00
 have HW := Lib.hid hW
 clear hW k00 q00 m00 hm
 obtain rfl := nil_facts hl
 have er := cons_facts hr
 go_enter Tryz.func91, Tryz.ntmps91
 go_wp2_with fail
 rw [HW.out]
 refine wp_region_held_drew (S := fun w' => w'.cell? ⟨w.heap.size, 0, none⟩ = some (.string ⟨#[]⟩) ∧ w'.cell? ⟨w.heap.size, 1, none⟩ = some (.string d) ∧ w'.cell? ⟨w.heap.size, 2, none⟩ = some (.string r)) (by kernel_rfl) ⟨k0.c0, k0.c1, k0.c2⟩ (fun hHeld => ?_)
 have k1 := k0.ret (Below.drew (Below.refl _ _))
 have q1 := q0.drew
 have m1 := m0.ret (Below.drew (Below.refl _ _))
 refine tk_start [(0, some 5), (1, some 6), (2, some 7), (3, some 8)] ?_
 iterate 4
  refine tk_step (v := ?_) (by kernel_rfl) (by kernel_rfl) (fun _ _ _ h => h) (by assumption) (fun o ho w' hSw => ?_) ?_
  rotate_left
  ·simp only [List.getElem?_toArray, List.getElem?_cons_succ, List.getElem?_cons_zero, Option.some.injEq] at ho; subst ho; (try dsimp only at hSw); go_simp; try with_reducible rfl
  simp only [Act.put, List.setIfInBounds_toArray, List.set_cons_zero, List.set_cons_succ]
 refine tk_end ?_
 refine tk_off (i := 4) (some 9) (by kernel_rfl) (by kernel_rfl) (by kernel_rfl) (by kernel_rfl) (fun _ _ _ h => h) (by assumption) ?_
 simp only [Act.put, List.setIfInBounds_toArray, List.set_cons_zero, List.set_cons_succ]
 refine tk_off (i := 5) (some 10) (by kernel_rfl) (by kernel_rfl) (by kernel_rfl) (by kernel_rfl) (fun _ _ _ h => h) (by assumption) ?_
 simp only [Act.put, List.setIfInBounds_toArray, List.set_cons_zero, List.set_cons_succ]
 refine tk_off (i := 6) (some 11) (by kernel_rfl) (by kernel_rfl) (by kernel_rfl) (by kernel_rfl) (fun _ _ _ h => h) (by assumption) ?_
 simp only [Act.put, List.setIfInBounds_toArray, List.set_cons_zero, List.set_cons_succ]
 refine tk_off (i := 7) (some 12) (by kernel_rfl) (by kernel_rfl) (by kernel_rfl) (by kernel_rfl) (fun _ _ _ h => h) (by assumption) ?_
 simp only [Act.put, List.setIfInBounds_toArray, List.set_cons_zero, List.set_cons_succ]
 refine tk_off (i := 8) (some 13) (by kernel_rfl) (by kernel_rfl) (by kernel_rfl) (by kernel_rfl) (fun _ _ _ h => h) (by assumption) ?_
 simp only [Act.put, List.setIfInBounds_toArray, List.set_cons_zero, List.set_cons_succ]
 refine tk_start [(9, some 14), (10, some 3)] ?_
 iterate 2
  refine tk_step (v := ?_) (by kernel_rfl) (by kernel_rfl) (fun _ _ _ h => h) (by assumption) (fun o ho w' hSw => ?_) ?_
  rotate_left
  ·simp only [List.getElem?_toArray, List.getElem?_cons_succ, List.getElem?_cons_zero, Option.some.injEq] at ho; subst ho; (try dsimp only at hSw); go_simp; try with_reducible rfl
  simp only [Act.put, List.setIfInBounds_toArray, List.set_cons_zero, List.set_cons_succ]
 refine tk_end ?_
 refine wpAnyH_done (by kernel_rfl) ?_ _
 go_wp2_with fail
 have b2 := (Below.refl (W.drew).heap.size (W.drew)).alloc (Nat.le_refl _) (.cells #[fWords] 86)
 have k2 := k1.ret b2
 have q2 := q1.trans (b2.mono q1.size)
 have m2 := m1.ret b2
 have P2 := jd_partR _ r _ zr (vat1 (W.drew) fWords 86)
 rw [haR] at P2
 have PR := Lib.hid P2
 clear P2 b2
 refine PR.out.mono ?_
 rintro e w3 ⟨rfl, hb3⟩
 have k3 := k2.ret hb3
 have q3 := q2.trans (hb3.mono q2.size)
 have m3 := m2.ret hb3
 clear hb3
 go_wp2_with fail
 refine wp_region_held_drew (S := fun w' => w'.cell? ⟨w.heap.size, 0, none⟩ = some (.string ⟨#[]⟩) ∧ w'.cell? ⟨w.heap.size, 1, none⟩ = some (.string d) ∧ w'.cell? ⟨w.heap.size, 2, none⟩ = some (.string r)) (by kernel_rfl) ⟨k3.c0, k3.c1, k3.c2⟩ (fun hHeld => ?_)
 have k4 := k3.ret (Below.drew (Below.refl _ _))
 have q4 := q3.drew
 have m4 := m3.ret (Below.drew (Below.refl _ _))
 refine tk_start [(0, some 24), (1, some 25), (2, some 26), (3, some 27), (4, some 28), (5, some 29), (6, some 30), (7, some 31), (8, some 32)] ?_
 iterate 9
  refine tk_step (v := ?_) (by kernel_rfl) (by kernel_rfl) (fun _ _ _ h => h) (by assumption) (fun o ho w' hSw => ?_) ?_
  rotate_left
  ·simp only [List.getElem?_toArray, List.getElem?_cons_succ, List.getElem?_cons_zero, Option.some.injEq] at ho; subst ho; (try dsimp only at hSw); go_simp; try with_reducible rfl
  simp only [Act.put, List.setIfInBounds_toArray, List.set_cons_zero, List.set_cons_succ]
 refine tk_end ?_
 refine tk_call (i := 9) (by kernel_rfl) (by kernel_rfl) (fun o ho K hK => ?_)
 simp only [List.getElem?_toArray, List.getElem?_cons_succ, List.getElem?_cons_zero, Option.some.injEq] at ho
 subst ho
 go_simp
 refine (of_is domB _).mono ?_
 rintro e w5 ⟨B3, rfl, zb3, cb3, hb5⟩
 have k5 := k4.ret hb5
 have q5 := q4.trans (hb5.mono q4.size)
 have m5 := m4.ret hb5
 clear hb5
 go_simp
 clear hHeld
 refine hK.out _ _ ⟨k5.c0, k5.c1, k5.c2⟩ (fun hHeld => ?_)
 clear hK K
 refine tk_call (i := 10) (by kernel_rfl) (by kernel_rfl) (fun o ho K hK => ?_)
 simp only [List.getElem?_toArray, List.getElem?_cons_succ, List.getElem?_cons_zero, Option.some.injEq] at ho
 subst ho
 go_simp
 have b6 := (Below.refl w5.heap.size w5).alloc (Nat.le_refl _) (.cells #[fOf B3, fEnds, fDots] 86)
 have k6 := k5.ret b6
 have q6 := q5.trans (b6.mono q5.size)
 have m6 := m5.ret b6
 have v6 : VAt w5.heap.size 0 [fOf B3, fEnds, fDots] (w5.alloc (.cells #[fOf B3, fEnds, fDots] 86)) := vat3 _ _ _ _ _
 have cb3' := ((bcell b6).1 _ _ zb3).trans cb3
 have zb3' := Nat.lt_of_lt_of_le zb3 b6.size
 have P6 := Lib.hid (jd_partD _ _ d _ zd v6 zb3' cb3' m6)
 rw [haD] at P6
 clear b6 v6 cb3 zb3 cb3' zb3'
 clear hHeld
 refine hK.out _ _ ⟨k6.c0, k6.c1, k6.c2⟩ (fun hHeld => ?_)
 clear hK K
 refine tk_call (i := 11) (by kernel_rfl) (by kernel_rfl) (fun o ho K hK => ?_)
 simp only [List.getElem?_toArray, List.getElem?_cons_succ, List.getElem?_cons_zero, Option.some.injEq] at ho
 subst ho
 go_simp
 refine P6.out.mono ?_
 rintro e w7 ⟨rfl, hb7⟩
 have k7 := k6.ret hb7
 have q7 := q6.trans (hb7.mono q6.size)
 have m7 := m6.ret hb7
 clear hb7
 go_simp
 clear hHeld
 refine hK.out _ _ ⟨k7.c0, k7.c1, k7.c2⟩ (fun hHeld => ?_)
 clear hK K
 refine tk_start [(12, some 36), (13, some 37)] ?_
 iterate 2
  refine tk_step (v := ?_) (by kernel_rfl) (by kernel_rfl) (fun _ _ _ h => h) (by assumption) (fun o ho w' hSw => ?_) ?_
  rotate_left
  ·simp only [List.getElem?_toArray, List.getElem?_cons_succ, List.getElem?_cons_zero, Option.some.injEq] at ho; subst ho; (try dsimp only at hSw); go_simp; try with_reducible rfl
  simp only [Act.put, List.setIfInBounds_toArray, List.set_cons_zero, List.set_cons_succ]
 refine tk_end ?_
 refine wpAnyH_done (by kernel_rfl) ?_ _
 cases c with
 | true =>
  go_wp2_with fail
  go_ret
  exact ⟨by rw [← HO.out]; rfl, q7⟩
 | false =>
  go_wp2_with fail
  go_ret
  exact ⟨by rw [← HO.out]; rfl, q7⟩
set_option maxHeartbeats 8000000 in
set_option maxRecDepth 100000 in
theorem jd_Check_EF (l d r : ByteArray) (w : World) (zl : l.size ≤ 10000) (_zd : d.size ≤ 10000) (zr : r.size ≤ 10000) (hm : ML w) (hl : l.data.toList.isEmpty = true) (hr : r.data.toList.isEmpty = false) (haR : resP r.data.toList = false) :
  Calls Tryz.prog 91 #[jV l d r] w (Ret w (.int .i64 (8))) := by
 have k00 := JAt.new w l d r
 have q00 := (Below.refl w.heap.size w).alloc (Nat.le_refl _) (.cells #[.string l, .string d, .string r] 117)
 have m00 := hm.ret q00
 obtain ⟨W, hW⟩ : ∃ W, w.alloc (.cells #[.string l, .string d, .string r] 117) = W := ⟨_, rfl⟩
 rw [hW] at k00 q00 m00
 have k0 := k00
 have q0 := q00
 have m0 := m00
 have HW := Lib.hid hW
 clear hW k00 q00 m00 hm
 obtain rfl := nil_facts hl
 have er := cons_facts hr
 go_enter Tryz.func91, Tryz.ntmps91
 go_wp2_with fail
 rw [HW.out]
 refine wp_region_held_drew (S := fun w' => w'.cell? ⟨w.heap.size, 0, none⟩ = some (.string ⟨#[]⟩) ∧ w'.cell? ⟨w.heap.size, 1, none⟩ = some (.string d) ∧ w'.cell? ⟨w.heap.size, 2, none⟩ = some (.string r)) (by kernel_rfl) ⟨k0.c0, k0.c1, k0.c2⟩ (fun hHeld => ?_)
 have k1 := k0.ret (Below.drew (Below.refl _ _))
 have q1 := q0.drew
 have m1 := m0.ret (Below.drew (Below.refl _ _))
 refine tk_start [(0, some 5), (1, some 6), (2, some 7), (3, some 8)] ?_
 iterate 4
  refine tk_step (v := ?_) (by kernel_rfl) (by kernel_rfl) (fun _ _ _ h => h) (by assumption) (fun o ho w' hSw => ?_) ?_
  rotate_left
  ·simp only [List.getElem?_toArray, List.getElem?_cons_succ, List.getElem?_cons_zero, Option.some.injEq] at ho; subst ho; (try dsimp only at hSw); go_simp; try with_reducible rfl
  simp only [Act.put, List.setIfInBounds_toArray, List.set_cons_zero, List.set_cons_succ]
 refine tk_end ?_
 refine tk_off (i := 4) (some 9) (by kernel_rfl) (by kernel_rfl) (by kernel_rfl) (by kernel_rfl) (fun _ _ _ h => h) (by assumption) ?_
 simp only [Act.put, List.setIfInBounds_toArray, List.set_cons_zero, List.set_cons_succ]
 refine tk_off (i := 5) (some 10) (by kernel_rfl) (by kernel_rfl) (by kernel_rfl) (by kernel_rfl) (fun _ _ _ h => h) (by assumption) ?_
 simp only [Act.put, List.setIfInBounds_toArray, List.set_cons_zero, List.set_cons_succ]
 refine tk_off (i := 6) (some 11) (by kernel_rfl) (by kernel_rfl) (by kernel_rfl) (by kernel_rfl) (fun _ _ _ h => h) (by assumption) ?_
 simp only [Act.put, List.setIfInBounds_toArray, List.set_cons_zero, List.set_cons_succ]
 refine tk_off (i := 7) (some 12) (by kernel_rfl) (by kernel_rfl) (by kernel_rfl) (by kernel_rfl) (fun _ _ _ h => h) (by assumption) ?_
 simp only [Act.put, List.setIfInBounds_toArray, List.set_cons_zero, List.set_cons_succ]
 refine tk_off (i := 8) (some 13) (by kernel_rfl) (by kernel_rfl) (by kernel_rfl) (by kernel_rfl) (fun _ _ _ h => h) (by assumption) ?_
 simp only [Act.put, List.setIfInBounds_toArray, List.set_cons_zero, List.set_cons_succ]
 refine tk_start [(9, some 14), (10, some 3)] ?_
 iterate 2
  refine tk_step (v := ?_) (by kernel_rfl) (by kernel_rfl) (fun _ _ _ h => h) (by assumption) (fun o ho w' hSw => ?_) ?_
  rotate_left
  ·simp only [List.getElem?_toArray, List.getElem?_cons_succ, List.getElem?_cons_zero, Option.some.injEq] at ho; subst ho; (try dsimp only at hSw); go_simp; try with_reducible rfl
  simp only [Act.put, List.setIfInBounds_toArray, List.set_cons_zero, List.set_cons_succ]
 refine tk_end ?_
 refine wpAnyH_done (by kernel_rfl) ?_ _
 go_wp2_with fail
 have b2 := (Below.refl (W.drew).heap.size (W.drew)).alloc (Nat.le_refl _) (.cells #[fWords] 86)
 have k2 := k1.ret b2
 have q2 := q1.trans (b2.mono q1.size)
 have m2 := m1.ret b2
 have P2 := jd_partR _ r _ zr (vat1 (W.drew) fWords 86)
 rw [haR] at P2
 have PR := Lib.hid P2
 clear P2 b2
 refine PR.out.mono ?_
 rintro e w3 ⟨rfl, hb3⟩
 have k3 := k2.ret hb3
 have q3 := q2.trans (hb3.mono q2.size)
 have m3 := m2.ret hb3
 clear hb3
 go_wp2_with fail
 refine wp_region_held_drew (S := fun w' => w'.cell? ⟨w.heap.size, 0, none⟩ = some (.string ⟨#[]⟩) ∧ w'.cell? ⟨w.heap.size, 1, none⟩ = some (.string d) ∧ w'.cell? ⟨w.heap.size, 2, none⟩ = some (.string r)) (by kernel_rfl) ⟨k3.c0, k3.c1, k3.c2⟩ (fun hHeld => ?_)
 have k4 := k3.ret (Below.drew (Below.refl _ _))
 have q4 := q3.drew
 have m4 := m3.ret (Below.drew (Below.refl _ _))
 refine tk_start [(0, some 24), (1, some 25), (2, some 26), (3, some 27), (4, some 28), (5, some 29), (6, some 30)] ?_
 iterate 7
  refine tk_step (v := ?_) (by kernel_rfl) (by kernel_rfl) (fun _ _ _ h => h) (by assumption) (fun o ho w' hSw => ?_) ?_
  rotate_left
  ·simp only [List.getElem?_toArray, List.getElem?_cons_succ, List.getElem?_cons_zero, Option.some.injEq] at ho; subst ho; (try dsimp only at hSw); go_simp; try with_reducible rfl
  simp only [Act.put, List.setIfInBounds_toArray, List.set_cons_zero, List.set_cons_succ]
 refine tk_end ?_
 refine tk_off (i := 7) (some 31) (by kernel_rfl) (by kernel_rfl) (by kernel_rfl) (by kernel_rfl) (fun _ _ _ h => h) (by assumption) ?_
 simp only [Act.put, List.setIfInBounds_toArray, List.set_cons_zero, List.set_cons_succ]
 refine tk_off (i := 8) (some 32) (by kernel_rfl) (by kernel_rfl) (by kernel_rfl) (by kernel_rfl) (fun _ _ _ h => h) (by assumption) ?_
 simp only [Act.put, List.setIfInBounds_toArray, List.set_cons_zero, List.set_cons_succ]
 refine tk_off (i := 9) (some 33) (by kernel_rfl) (by kernel_rfl) (by kernel_rfl) (by kernel_rfl) (fun _ _ _ h => h) (by assumption) ?_
 simp only [Act.put, List.setIfInBounds_toArray, List.set_cons_zero, List.set_cons_succ]
 refine tk_off (i := 10) (some 34) (by kernel_rfl) (by kernel_rfl) (by kernel_rfl) (by kernel_rfl) (fun _ _ _ h => h) (by assumption) ?_
 simp only [Act.put, List.setIfInBounds_toArray, List.set_cons_zero, List.set_cons_succ]
 refine tk_off (i := 11) (some 35) (by kernel_rfl) (by kernel_rfl) (by kernel_rfl) (by kernel_rfl) (fun _ _ _ h => h) (by assumption) ?_
 simp only [Act.put, List.setIfInBounds_toArray, List.set_cons_zero, List.set_cons_succ]
 refine tk_off (i := 12) (some 36) (by kernel_rfl) (by kernel_rfl) (by kernel_rfl) (by kernel_rfl) (fun _ _ _ h => h) (by assumption) ?_
 simp only [Act.put, List.setIfInBounds_toArray, List.set_cons_zero, List.set_cons_succ]
 refine tk_on (i := 13) (some 37) (v := ?_) (by kernel_rfl) (by kernel_rfl) (by kernel_rfl) (by kernel_rfl) (fun _ _ _ h => h) (by assumption) (fun o ho w' hSw => ?_) ?_
 rotate_left
 ·(simp only [List.getElem?_toArray, List.getElem?_cons_succ, List.getElem?_cons_zero, Option.some.injEq] at ho; subst ho; (try dsimp only at hSw); go_simp; try with_reducible rfl)
 simp only [Act.put, List.setIfInBounds_toArray, List.set_cons_zero, List.set_cons_succ]
 refine wpAnyH_done (by kernel_rfl) ?_ _
 go_wp2_with fail
 go_ret
 exact ⟨rfl, q4⟩
set_option maxHeartbeats 8000000 in
set_option maxRecDepth 100000 in
theorem jd_Check_TE (l d r : ByteArray) (w : World) (zl : l.size ≤ 10000) (zd : d.size ≤ 10000) (zr : r.size ≤ 10000) (hm : ML w) (hl : l.data.toList.isEmpty = false) (haL : locP l.data.toList = true) (hr : r.data.toList.isEmpty = true) (c : Bool) (haD : domP d.data.toList = c) :
  Calls Tryz.prog 91 #[jV l d r] w (Ret w (.int .i64 (if c = true then (0 : Int) else 8))) := by
 have k00 := JAt.new w l d r
 obtain ⟨O, hO⟩ : ∃ O : Int, (if c = true then (0 : Int) else 8) = O := ⟨_, rfl⟩
 rw [hO]
 have HO := Lib.hid hO
 clear hO
 have q00 := (Below.refl w.heap.size w).alloc (Nat.le_refl _) (.cells #[.string l, .string d, .string r] 117)
 have m00 := hm.ret q00
 obtain ⟨W, hW⟩ : ∃ W, w.alloc (.cells #[.string l, .string d, .string r] 117) = W := ⟨_, rfl⟩
 rw [hW] at k00 q00 m00
 have k0 := k00
 have q0 := q00
 have m0 := m00
 have HW := Lib.hid hW
 clear hW k00 q00 m00 hm
 have el := cons_facts hl
 obtain rfl := nil_facts hr
 go_enter Tryz.func91, Tryz.ntmps91
 go_wp2_with fail
 rw [HW.out]
 refine wp_region_held_drew (S := fun w' => w'.cell? ⟨w.heap.size, 0, none⟩ = some (.string l) ∧ w'.cell? ⟨w.heap.size, 1, none⟩ = some (.string d) ∧ w'.cell? ⟨w.heap.size, 2, none⟩ = some (.string ⟨#[]⟩)) (by kernel_rfl) ⟨k0.c0, k0.c1, k0.c2⟩ (fun hHeld => ?_)
 have k1 := k0.ret (Below.drew (Below.refl _ _))
 have q1 := q0.drew
 have m1 := m0.ret (Below.drew (Below.refl _ _))
 refine tk_start [(0, some 5), (1, some 6), (2, some 7), (3, some 8), (4, some 9), (5, some 10)] ?_
 iterate 6
  refine tk_step (v := ?_) (by kernel_rfl) (by kernel_rfl) (fun _ _ _ h => h) (by assumption) (fun o ho w' hSw => ?_) ?_
  rotate_left
  ·simp only [List.getElem?_toArray, List.getElem?_cons_succ, List.getElem?_cons_zero, Option.some.injEq] at ho; subst ho; (try dsimp only at hSw); go_simp; try with_reducible rfl
  simp only [Act.put, List.setIfInBounds_toArray, List.set_cons_zero, List.set_cons_succ]
 refine tk_end ?_
 refine tk_call (i := 6) (by kernel_rfl) (by kernel_rfl) (fun o ho K hK => ?_)
 simp only [List.getElem?_toArray, List.getElem?_cons_succ, List.getElem?_cons_zero, Option.some.injEq] at ho
 subst ho
 go_simp
 refine (of_is locB _).mono ?_
 rintro e w2 ⟨B1, rfl, zb1, cb1, hb2⟩
 have k2 := k1.ret hb2
 have q2 := q1.trans (hb2.mono q1.size)
 have m2 := m1.ret hb2
 clear hb2
 go_simp
 clear hHeld
 refine hK.out _ _ ⟨k2.c0, k2.c1, k2.c2⟩ (fun hHeld => ?_)
 clear hK K
 refine tk_call (i := 7) (by kernel_rfl) (by kernel_rfl) (fun o ho K hK => ?_)
 simp only [List.getElem?_toArray, List.getElem?_cons_succ, List.getElem?_cons_zero, Option.some.injEq] at ho
 subst ho
 go_simp
 have b3 := (Below.refl w2.heap.size w2).alloc (Nat.le_refl _) (.cells #[fOf B1] 86)
 have k3 := k2.ret b3
 have q3 := q2.trans (b3.mono q2.size)
 have m3 := m2.ret b3
 have v3 : VAt w2.heap.size 0 [fOf B1] (w2.alloc (.cells #[fOf B1] 86)) := vat1 _ _ _
 have cb1' := ((bcell b3).1 _ _ zb1).trans cb1
 have zb1' := Nat.lt_of_lt_of_le zb1 b3.size
 have P3 := Lib.hid (jd_partL _ _ l _ zl v3 zb1' cb1')
 rw [haL] at P3
 clear b3 v3 cb1 zb1 cb1' zb1'
 clear hHeld
 refine hK.out _ _ ⟨k3.c0, k3.c1, k3.c2⟩ (fun hHeld => ?_)
 clear hK K
 refine tk_call (i := 8) (by kernel_rfl) (by kernel_rfl) (fun o ho K hK => ?_)
 simp only [List.getElem?_toArray, List.getElem?_cons_succ, List.getElem?_cons_zero, Option.some.injEq] at ho
 subst ho
 go_simp
 refine P3.out.mono ?_
 rintro e w4 ⟨rfl, hb4⟩
 have k4 := k3.ret hb4
 have q4 := q3.trans (hb4.mono q3.size)
 have m4 := m3.ret hb4
 clear hb4
 go_simp
 clear hHeld
 refine hK.out _ _ ⟨k4.c0, k4.c1, k4.c2⟩ (fun hHeld => ?_)
 clear hK K
 refine tk_start [(9, some 14), (10, some 3)] ?_
 iterate 2
  refine tk_step (v := ?_) (by kernel_rfl) (by kernel_rfl) (fun _ _ _ h => h) (by assumption) (fun o ho w' hSw => ?_) ?_
  rotate_left
  ·simp only [List.getElem?_toArray, List.getElem?_cons_succ, List.getElem?_cons_zero, Option.some.injEq] at ho; subst ho; (try dsimp only at hSw); go_simp; try with_reducible rfl
  simp only [Act.put, List.setIfInBounds_toArray, List.set_cons_zero, List.set_cons_succ]
 refine tk_end ?_
 refine wpAnyH_done (by kernel_rfl) ?_ _
 go_wp2_with fail
 refine wp_region_held_drew (S := fun w' => w'.cell? ⟨w.heap.size, 0, none⟩ = some (.string l) ∧ w'.cell? ⟨w.heap.size, 1, none⟩ = some (.string d) ∧ w'.cell? ⟨w.heap.size, 2, none⟩ = some (.string ⟨#[]⟩)) (by kernel_rfl) ⟨k4.c0, k4.c1, k4.c2⟩ (fun hHeld => ?_)
 have k5 := k4.ret (Below.drew (Below.refl _ _))
 have q5 := q4.drew
 have m5 := m4.ret (Below.drew (Below.refl _ _))
 refine tk_start [(0, some 24), (1, some 25), (2, some 26), (3, some 27), (4, some 28), (5, some 29), (6, some 30), (7, some 31), (8, some 32)] ?_
 iterate 9
  refine tk_step (v := ?_) (by kernel_rfl) (by kernel_rfl) (fun _ _ _ h => h) (by assumption) (fun o ho w' hSw => ?_) ?_
  rotate_left
  ·simp only [List.getElem?_toArray, List.getElem?_cons_succ, List.getElem?_cons_zero, Option.some.injEq] at ho; subst ho; (try dsimp only at hSw); go_simp; try with_reducible rfl
  simp only [Act.put, List.setIfInBounds_toArray, List.set_cons_zero, List.set_cons_succ]
 refine tk_end ?_
 refine tk_call (i := 9) (by kernel_rfl) (by kernel_rfl) (fun o ho K hK => ?_)
 simp only [List.getElem?_toArray, List.getElem?_cons_succ, List.getElem?_cons_zero, Option.some.injEq] at ho
 subst ho
 go_simp
 refine (of_is domB _).mono ?_
 rintro e w6 ⟨B3, rfl, zb3, cb3, hb6⟩
 have k6 := k5.ret hb6
 have q6 := q5.trans (hb6.mono q5.size)
 have m6 := m5.ret hb6
 clear hb6
 go_simp
 clear hHeld
 refine hK.out _ _ ⟨k6.c0, k6.c1, k6.c2⟩ (fun hHeld => ?_)
 clear hK K
 refine tk_call (i := 10) (by kernel_rfl) (by kernel_rfl) (fun o ho K hK => ?_)
 simp only [List.getElem?_toArray, List.getElem?_cons_succ, List.getElem?_cons_zero, Option.some.injEq] at ho
 subst ho
 go_simp
 have b7 := (Below.refl w6.heap.size w6).alloc (Nat.le_refl _) (.cells #[fOf B3, fEnds, fDots] 86)
 have k7 := k6.ret b7
 have q7 := q6.trans (b7.mono q6.size)
 have m7 := m6.ret b7
 have v7 : VAt w6.heap.size 0 [fOf B3, fEnds, fDots] (w6.alloc (.cells #[fOf B3, fEnds, fDots] 86)) := vat3 _ _ _ _ _
 have cb3' := ((bcell b7).1 _ _ zb3).trans cb3
 have zb3' := Nat.lt_of_lt_of_le zb3 b7.size
 have P7 := Lib.hid (jd_partD _ _ d _ zd v7 zb3' cb3' m7)
 rw [haD] at P7
 clear b7 v7 cb3 zb3 cb3' zb3'
 clear hHeld
 refine hK.out _ _ ⟨k7.c0, k7.c1, k7.c2⟩ (fun hHeld => ?_)
 clear hK K
 refine tk_call (i := 11) (by kernel_rfl) (by kernel_rfl) (fun o ho K hK => ?_)
 simp only [List.getElem?_toArray, List.getElem?_cons_succ, List.getElem?_cons_zero, Option.some.injEq] at ho
 subst ho
 go_simp
 refine P7.out.mono ?_
 rintro e w8 ⟨rfl, hb8⟩
 have k8 := k7.ret hb8
 have q8 := q7.trans (hb8.mono q7.size)
 have m8 := m7.ret hb8
 clear hb8
 go_simp
 clear hHeld
 refine hK.out _ _ ⟨k8.c0, k8.c1, k8.c2⟩ (fun hHeld => ?_)
 clear hK K
 refine tk_start [(12, some 36), (13, some 37)] ?_
 iterate 2
  refine tk_step (v := ?_) (by kernel_rfl) (by kernel_rfl) (fun _ _ _ h => h) (by assumption) (fun o ho w' hSw => ?_) ?_
  rotate_left
  ·simp only [List.getElem?_toArray, List.getElem?_cons_succ, List.getElem?_cons_zero, Option.some.injEq] at ho; subst ho; (try dsimp only at hSw); go_simp; try with_reducible rfl
  simp only [Act.put, List.setIfInBounds_toArray, List.set_cons_zero, List.set_cons_succ]
 refine tk_end ?_
 refine wpAnyH_done (by kernel_rfl) ?_ _
 cases c with
 | true =>
  go_wp2_with fail
  go_ret
  exact ⟨by rw [← HO.out]; rfl, q8⟩
 | false =>
  go_wp2_with fail
  go_ret
  exact ⟨by rw [← HO.out]; rfl, q8⟩
set_option maxHeartbeats 8000000 in
set_option maxRecDepth 100000 in
theorem jd_Check_TT (l d r : ByteArray) (w : World) (zl : l.size ≤ 10000) (zd : d.size ≤ 10000) (zr : r.size ≤ 10000) (hm : ML w) (hl : l.data.toList.isEmpty = false) (haL : locP l.data.toList = true) (hr : r.data.toList.isEmpty = false) (haR : resP r.data.toList = true) (c : Bool) (haD : domP d.data.toList = c) :
  Calls Tryz.prog 91 #[jV l d r] w (Ret w (.int .i64 (if c = true then (0 : Int) else 8))) := by
 have k00 := JAt.new w l d r
 obtain ⟨O, hO⟩ : ∃ O : Int, (if c = true then (0 : Int) else 8) = O := ⟨_, rfl⟩
 rw [hO]
 have HO := Lib.hid hO
 clear hO
 have q00 := (Below.refl w.heap.size w).alloc (Nat.le_refl _) (.cells #[.string l, .string d, .string r] 117)
 have m00 := hm.ret q00
 obtain ⟨W, hW⟩ : ∃ W, w.alloc (.cells #[.string l, .string d, .string r] 117) = W := ⟨_, rfl⟩
 rw [hW] at k00 q00 m00
 have k0 := k00
 have q0 := q00
 have m0 := m00
 have HW := Lib.hid hW
 clear hW k00 q00 m00 hm
 have el := cons_facts hl
 have er := cons_facts hr
 go_enter Tryz.func91, Tryz.ntmps91
 go_wp2_with fail
 rw [HW.out]
 refine wp_region_held_drew (S := fun w' => w'.cell? ⟨w.heap.size, 0, none⟩ = some (.string l) ∧ w'.cell? ⟨w.heap.size, 1, none⟩ = some (.string d) ∧ w'.cell? ⟨w.heap.size, 2, none⟩ = some (.string r)) (by kernel_rfl) ⟨k0.c0, k0.c1, k0.c2⟩ (fun hHeld => ?_)
 have k1 := k0.ret (Below.drew (Below.refl _ _))
 have q1 := q0.drew
 have m1 := m0.ret (Below.drew (Below.refl _ _))
 refine tk_start [(0, some 5), (1, some 6), (2, some 7), (3, some 8), (4, some 9), (5, some 10)] ?_
 iterate 6
  refine tk_step (v := ?_) (by kernel_rfl) (by kernel_rfl) (fun _ _ _ h => h) (by assumption) (fun o ho w' hSw => ?_) ?_
  rotate_left
  ·simp only [List.getElem?_toArray, List.getElem?_cons_succ, List.getElem?_cons_zero, Option.some.injEq] at ho; subst ho; (try dsimp only at hSw); go_simp; try with_reducible rfl
  simp only [Act.put, List.setIfInBounds_toArray, List.set_cons_zero, List.set_cons_succ]
 refine tk_end ?_
 refine tk_call (i := 6) (by kernel_rfl) (by kernel_rfl) (fun o ho K hK => ?_)
 simp only [List.getElem?_toArray, List.getElem?_cons_succ, List.getElem?_cons_zero, Option.some.injEq] at ho
 subst ho
 go_simp
 refine (of_is locB _).mono ?_
 rintro e w2 ⟨B1, rfl, zb1, cb1, hb2⟩
 have k2 := k1.ret hb2
 have q2 := q1.trans (hb2.mono q1.size)
 have m2 := m1.ret hb2
 clear hb2
 go_simp
 clear hHeld
 refine hK.out _ _ ⟨k2.c0, k2.c1, k2.c2⟩ (fun hHeld => ?_)
 clear hK K
 refine tk_call (i := 7) (by kernel_rfl) (by kernel_rfl) (fun o ho K hK => ?_)
 simp only [List.getElem?_toArray, List.getElem?_cons_succ, List.getElem?_cons_zero, Option.some.injEq] at ho
 subst ho
 go_simp
 have b3 := (Below.refl w2.heap.size w2).alloc (Nat.le_refl _) (.cells #[fOf B1] 86)
 have k3 := k2.ret b3
 have q3 := q2.trans (b3.mono q2.size)
 have m3 := m2.ret b3
 have v3 : VAt w2.heap.size 0 [fOf B1] (w2.alloc (.cells #[fOf B1] 86)) := vat1 _ _ _
 have cb1' := ((bcell b3).1 _ _ zb1).trans cb1
 have zb1' := Nat.lt_of_lt_of_le zb1 b3.size
 have P3 := Lib.hid (jd_partL _ _ l _ zl v3 zb1' cb1')
 rw [haL] at P3
 clear b3 v3 cb1 zb1 cb1' zb1'
 clear hHeld
 refine hK.out _ _ ⟨k3.c0, k3.c1, k3.c2⟩ (fun hHeld => ?_)
 clear hK K
 refine tk_call (i := 8) (by kernel_rfl) (by kernel_rfl) (fun o ho K hK => ?_)
 simp only [List.getElem?_toArray, List.getElem?_cons_succ, List.getElem?_cons_zero, Option.some.injEq] at ho
 subst ho
 go_simp
 refine P3.out.mono ?_
 rintro e w4 ⟨rfl, hb4⟩
 have k4 := k3.ret hb4
 have q4 := q3.trans (hb4.mono q3.size)
 have m4 := m3.ret hb4
 clear hb4
 go_simp
 clear hHeld
 refine hK.out _ _ ⟨k4.c0, k4.c1, k4.c2⟩ (fun hHeld => ?_)
 clear hK K
 refine tk_start [(9, some 14), (10, some 3)] ?_
 iterate 2
  refine tk_step (v := ?_) (by kernel_rfl) (by kernel_rfl) (fun _ _ _ h => h) (by assumption) (fun o ho w' hSw => ?_) ?_
  rotate_left
  ·simp only [List.getElem?_toArray, List.getElem?_cons_succ, List.getElem?_cons_zero, Option.some.injEq] at ho; subst ho; (try dsimp only at hSw); go_simp; try with_reducible rfl
  simp only [Act.put, List.setIfInBounds_toArray, List.set_cons_zero, List.set_cons_succ]
 refine tk_end ?_
 refine wpAnyH_done (by kernel_rfl) ?_ _
 go_wp2_with fail
 have b5 := (Below.refl (w4).heap.size (w4)).alloc (Nat.le_refl _) (.cells #[fWords] 86)
 have k5 := k4.ret b5
 have q5 := q4.trans (b5.mono q4.size)
 have m5 := m4.ret b5
 have P5 := jd_partR _ r _ zr (vat1 (w4) fWords 86)
 rw [haR] at P5
 have PR := Lib.hid P5
 clear P5 b5
 refine PR.out.mono ?_
 rintro e w6 ⟨rfl, hb6⟩
 have k6 := k5.ret hb6
 have q6 := q5.trans (hb6.mono q5.size)
 have m6 := m5.ret hb6
 clear hb6
 go_wp2_with fail
 refine wp_region_held_drew (S := fun w' => w'.cell? ⟨w.heap.size, 0, none⟩ = some (.string l) ∧ w'.cell? ⟨w.heap.size, 1, none⟩ = some (.string d) ∧ w'.cell? ⟨w.heap.size, 2, none⟩ = some (.string r)) (by kernel_rfl) ⟨k6.c0, k6.c1, k6.c2⟩ (fun hHeld => ?_)
 have k7 := k6.ret (Below.drew (Below.refl _ _))
 have q7 := q6.drew
 have m7 := m6.ret (Below.drew (Below.refl _ _))
 refine tk_start [(0, some 24), (1, some 25), (2, some 26), (3, some 27), (4, some 28), (5, some 29), (6, some 30), (7, some 31), (8, some 32)] ?_
 iterate 9
  refine tk_step (v := ?_) (by kernel_rfl) (by kernel_rfl) (fun _ _ _ h => h) (by assumption) (fun o ho w' hSw => ?_) ?_
  rotate_left
  ·simp only [List.getElem?_toArray, List.getElem?_cons_succ, List.getElem?_cons_zero, Option.some.injEq] at ho; subst ho; (try dsimp only at hSw); go_simp; try with_reducible rfl
  simp only [Act.put, List.setIfInBounds_toArray, List.set_cons_zero, List.set_cons_succ]
 refine tk_end ?_
 refine tk_call (i := 9) (by kernel_rfl) (by kernel_rfl) (fun o ho K hK => ?_)
 simp only [List.getElem?_toArray, List.getElem?_cons_succ, List.getElem?_cons_zero, Option.some.injEq] at ho
 subst ho
 go_simp
 refine (of_is domB _).mono ?_
 rintro e w8 ⟨B3, rfl, zb3, cb3, hb8⟩
 have k8 := k7.ret hb8
 have q8 := q7.trans (hb8.mono q7.size)
 have m8 := m7.ret hb8
 clear hb8
 go_simp
 clear hHeld
 refine hK.out _ _ ⟨k8.c0, k8.c1, k8.c2⟩ (fun hHeld => ?_)
 clear hK K
 refine tk_call (i := 10) (by kernel_rfl) (by kernel_rfl) (fun o ho K hK => ?_)
 simp only [List.getElem?_toArray, List.getElem?_cons_succ, List.getElem?_cons_zero, Option.some.injEq] at ho
 subst ho
 go_simp
 have b9 := (Below.refl w8.heap.size w8).alloc (Nat.le_refl _) (.cells #[fOf B3, fEnds, fDots] 86)
 have k9 := k8.ret b9
 have q9 := q8.trans (b9.mono q8.size)
 have m9 := m8.ret b9
 have v9 : VAt w8.heap.size 0 [fOf B3, fEnds, fDots] (w8.alloc (.cells #[fOf B3, fEnds, fDots] 86)) := vat3 _ _ _ _ _
 have cb3' := ((bcell b9).1 _ _ zb3).trans cb3
 have zb3' := Nat.lt_of_lt_of_le zb3 b9.size
 have P9 := Lib.hid (jd_partD _ _ d _ zd v9 zb3' cb3' m9)
 rw [haD] at P9
 clear b9 v9 cb3 zb3 cb3' zb3'
 clear hHeld
 refine hK.out _ _ ⟨k9.c0, k9.c1, k9.c2⟩ (fun hHeld => ?_)
 clear hK K
 refine tk_call (i := 11) (by kernel_rfl) (by kernel_rfl) (fun o ho K hK => ?_)
 simp only [List.getElem?_toArray, List.getElem?_cons_succ, List.getElem?_cons_zero, Option.some.injEq] at ho
 subst ho
 go_simp
 refine P9.out.mono ?_
 rintro e w10 ⟨rfl, hb10⟩
 have k10 := k9.ret hb10
 have q10 := q9.trans (hb10.mono q9.size)
 have m10 := m9.ret hb10
 clear hb10
 go_simp
 clear hHeld
 refine hK.out _ _ ⟨k10.c0, k10.c1, k10.c2⟩ (fun hHeld => ?_)
 clear hK K
 refine tk_start [(12, some 36), (13, some 37)] ?_
 iterate 2
  refine tk_step (v := ?_) (by kernel_rfl) (by kernel_rfl) (fun _ _ _ h => h) (by assumption) (fun o ho w' hSw => ?_) ?_
  rotate_left
  ·simp only [List.getElem?_toArray, List.getElem?_cons_succ, List.getElem?_cons_zero, Option.some.injEq] at ho; subst ho; (try dsimp only at hSw); go_simp; try with_reducible rfl
  simp only [Act.put, List.setIfInBounds_toArray, List.set_cons_zero, List.set_cons_succ]
 refine tk_end ?_
 refine wpAnyH_done (by kernel_rfl) ?_ _
 cases c with
 | true =>
  go_wp2_with fail
  go_ret
  exact ⟨by rw [← HO.out]; rfl, q10⟩
 | false =>
  go_wp2_with fail
  go_ret
  exact ⟨by rw [← HO.out]; rfl, q10⟩
set_option maxHeartbeats 8000000 in
set_option maxRecDepth 100000 in
theorem jd_Check_TF (l d r : ByteArray) (w : World) (zl : l.size ≤ 10000) (_zd : d.size ≤ 10000) (zr : r.size ≤ 10000) (hm : ML w) (hl : l.data.toList.isEmpty = false) (haL : locP l.data.toList = true) (hr : r.data.toList.isEmpty = false) (haR : resP r.data.toList = false) :
  Calls Tryz.prog 91 #[jV l d r] w (Ret w (.int .i64 (8))) := by
 have k00 := JAt.new w l d r
 have q00 := (Below.refl w.heap.size w).alloc (Nat.le_refl _) (.cells #[.string l, .string d, .string r] 117)
 have m00 := hm.ret q00
 obtain ⟨W, hW⟩ : ∃ W, w.alloc (.cells #[.string l, .string d, .string r] 117) = W := ⟨_, rfl⟩
 rw [hW] at k00 q00 m00
 have k0 := k00
 have q0 := q00
 have m0 := m00
 have HW := Lib.hid hW
 clear hW k00 q00 m00 hm
 have el := cons_facts hl
 have er := cons_facts hr
 go_enter Tryz.func91, Tryz.ntmps91
 go_wp2_with fail
 rw [HW.out]
 refine wp_region_held_drew (S := fun w' => w'.cell? ⟨w.heap.size, 0, none⟩ = some (.string l) ∧ w'.cell? ⟨w.heap.size, 1, none⟩ = some (.string d) ∧ w'.cell? ⟨w.heap.size, 2, none⟩ = some (.string r)) (by kernel_rfl) ⟨k0.c0, k0.c1, k0.c2⟩ (fun hHeld => ?_)
 have k1 := k0.ret (Below.drew (Below.refl _ _))
 have q1 := q0.drew
 have m1 := m0.ret (Below.drew (Below.refl _ _))
 refine tk_start [(0, some 5), (1, some 6), (2, some 7), (3, some 8), (4, some 9), (5, some 10)] ?_
 iterate 6
  refine tk_step (v := ?_) (by kernel_rfl) (by kernel_rfl) (fun _ _ _ h => h) (by assumption) (fun o ho w' hSw => ?_) ?_
  rotate_left
  ·simp only [List.getElem?_toArray, List.getElem?_cons_succ, List.getElem?_cons_zero, Option.some.injEq] at ho; subst ho; (try dsimp only at hSw); go_simp; try with_reducible rfl
  simp only [Act.put, List.setIfInBounds_toArray, List.set_cons_zero, List.set_cons_succ]
 refine tk_end ?_
 refine tk_call (i := 6) (by kernel_rfl) (by kernel_rfl) (fun o ho K hK => ?_)
 simp only [List.getElem?_toArray, List.getElem?_cons_succ, List.getElem?_cons_zero, Option.some.injEq] at ho
 subst ho
 go_simp
 refine (of_is locB _).mono ?_
 rintro e w2 ⟨B1, rfl, zb1, cb1, hb2⟩
 have k2 := k1.ret hb2
 have q2 := q1.trans (hb2.mono q1.size)
 have m2 := m1.ret hb2
 clear hb2
 go_simp
 clear hHeld
 refine hK.out _ _ ⟨k2.c0, k2.c1, k2.c2⟩ (fun hHeld => ?_)
 clear hK K
 refine tk_call (i := 7) (by kernel_rfl) (by kernel_rfl) (fun o ho K hK => ?_)
 simp only [List.getElem?_toArray, List.getElem?_cons_succ, List.getElem?_cons_zero, Option.some.injEq] at ho
 subst ho
 go_simp
 have b3 := (Below.refl w2.heap.size w2).alloc (Nat.le_refl _) (.cells #[fOf B1] 86)
 have k3 := k2.ret b3
 have q3 := q2.trans (b3.mono q2.size)
 have m3 := m2.ret b3
 have v3 : VAt w2.heap.size 0 [fOf B1] (w2.alloc (.cells #[fOf B1] 86)) := vat1 _ _ _
 have cb1' := ((bcell b3).1 _ _ zb1).trans cb1
 have zb1' := Nat.lt_of_lt_of_le zb1 b3.size
 have P3 := Lib.hid (jd_partL _ _ l _ zl v3 zb1' cb1')
 rw [haL] at P3
 clear b3 v3 cb1 zb1 cb1' zb1'
 clear hHeld
 refine hK.out _ _ ⟨k3.c0, k3.c1, k3.c2⟩ (fun hHeld => ?_)
 clear hK K
 refine tk_call (i := 8) (by kernel_rfl) (by kernel_rfl) (fun o ho K hK => ?_)
 simp only [List.getElem?_toArray, List.getElem?_cons_succ, List.getElem?_cons_zero, Option.some.injEq] at ho
 subst ho
 go_simp
 refine P3.out.mono ?_
 rintro e w4 ⟨rfl, hb4⟩
 have k4 := k3.ret hb4
 have q4 := q3.trans (hb4.mono q3.size)
 have m4 := m3.ret hb4
 clear hb4
 go_simp
 clear hHeld
 refine hK.out _ _ ⟨k4.c0, k4.c1, k4.c2⟩ (fun hHeld => ?_)
 clear hK K
 refine tk_start [(9, some 14), (10, some 3)] ?_
 iterate 2
  refine tk_step (v := ?_) (by kernel_rfl) (by kernel_rfl) (fun _ _ _ h => h) (by assumption) (fun o ho w' hSw => ?_) ?_
  rotate_left
  ·simp only [List.getElem?_toArray, List.getElem?_cons_succ, List.getElem?_cons_zero, Option.some.injEq] at ho; subst ho; (try dsimp only at hSw); go_simp; try with_reducible rfl
  simp only [Act.put, List.setIfInBounds_toArray, List.set_cons_zero, List.set_cons_succ]
 refine tk_end ?_
 refine wpAnyH_done (by kernel_rfl) ?_ _
 go_wp2_with fail
 have b5 := (Below.refl (w4).heap.size (w4)).alloc (Nat.le_refl _) (.cells #[fWords] 86)
 have k5 := k4.ret b5
 have q5 := q4.trans (b5.mono q4.size)
 have m5 := m4.ret b5
 have P5 := jd_partR _ r _ zr (vat1 (w4) fWords 86)
 rw [haR] at P5
 have PR := Lib.hid P5
 clear P5 b5
 refine PR.out.mono ?_
 rintro e w6 ⟨rfl, hb6⟩
 have k6 := k5.ret hb6
 have q6 := q5.trans (hb6.mono q5.size)
 have m6 := m5.ret hb6
 clear hb6
 go_wp2_with fail
 refine wp_region_held_drew (S := fun w' => w'.cell? ⟨w.heap.size, 0, none⟩ = some (.string l) ∧ w'.cell? ⟨w.heap.size, 1, none⟩ = some (.string d) ∧ w'.cell? ⟨w.heap.size, 2, none⟩ = some (.string r)) (by kernel_rfl) ⟨k6.c0, k6.c1, k6.c2⟩ (fun hHeld => ?_)
 have k7 := k6.ret (Below.drew (Below.refl _ _))
 have q7 := q6.drew
 have m7 := m6.ret (Below.drew (Below.refl _ _))
 refine tk_start [(0, some 24), (1, some 25), (2, some 26), (3, some 27), (4, some 28), (5, some 29), (6, some 30)] ?_
 iterate 7
  refine tk_step (v := ?_) (by kernel_rfl) (by kernel_rfl) (fun _ _ _ h => h) (by assumption) (fun o ho w' hSw => ?_) ?_
  rotate_left
  ·simp only [List.getElem?_toArray, List.getElem?_cons_succ, List.getElem?_cons_zero, Option.some.injEq] at ho; subst ho; (try dsimp only at hSw); go_simp; try with_reducible rfl
  simp only [Act.put, List.setIfInBounds_toArray, List.set_cons_zero, List.set_cons_succ]
 refine tk_end ?_
 refine tk_off (i := 7) (some 31) (by kernel_rfl) (by kernel_rfl) (by kernel_rfl) (by kernel_rfl) (fun _ _ _ h => h) (by assumption) ?_
 simp only [Act.put, List.setIfInBounds_toArray, List.set_cons_zero, List.set_cons_succ]
 refine tk_off (i := 8) (some 32) (by kernel_rfl) (by kernel_rfl) (by kernel_rfl) (by kernel_rfl) (fun _ _ _ h => h) (by assumption) ?_
 simp only [Act.put, List.setIfInBounds_toArray, List.set_cons_zero, List.set_cons_succ]
 refine tk_off (i := 9) (some 33) (by kernel_rfl) (by kernel_rfl) (by kernel_rfl) (by kernel_rfl) (fun _ _ _ h => h) (by assumption) ?_
 simp only [Act.put, List.setIfInBounds_toArray, List.set_cons_zero, List.set_cons_succ]
 refine tk_off (i := 10) (some 34) (by kernel_rfl) (by kernel_rfl) (by kernel_rfl) (by kernel_rfl) (fun _ _ _ h => h) (by assumption) ?_
 simp only [Act.put, List.setIfInBounds_toArray, List.set_cons_zero, List.set_cons_succ]
 refine tk_off (i := 11) (some 35) (by kernel_rfl) (by kernel_rfl) (by kernel_rfl) (by kernel_rfl) (fun _ _ _ h => h) (by assumption) ?_
 simp only [Act.put, List.setIfInBounds_toArray, List.set_cons_zero, List.set_cons_succ]
 refine tk_off (i := 12) (some 36) (by kernel_rfl) (by kernel_rfl) (by kernel_rfl) (by kernel_rfl) (fun _ _ _ h => h) (by assumption) ?_
 simp only [Act.put, List.setIfInBounds_toArray, List.set_cons_zero, List.set_cons_succ]
 refine tk_on (i := 13) (some 37) (v := ?_) (by kernel_rfl) (by kernel_rfl) (by kernel_rfl) (by kernel_rfl) (fun _ _ _ h => h) (by assumption) (fun o ho w' hSw => ?_) ?_
 rotate_left
 ·(simp only [List.getElem?_toArray, List.getElem?_cons_succ, List.getElem?_cons_zero, Option.some.injEq] at ho; subst ho; (try dsimp only at hSw); go_simp; try with_reducible rfl)
 simp only [Act.put, List.setIfInBounds_toArray, List.set_cons_zero, List.set_cons_succ]
 refine wpAnyH_done (by kernel_rfl) ?_ _
 go_wp2_with fail
 go_ret
 exact ⟨rfl, q7⟩
set_option maxHeartbeats 8000000 in
set_option maxRecDepth 100000 in
theorem jd_Check_FE (l d r : ByteArray) (w : World) (zl : l.size ≤ 10000) (_zd : d.size ≤ 10000) (zr : r.size ≤ 10000) (hm : ML w) (hl : l.data.toList.isEmpty = false) (haL : locP l.data.toList = false) (hr : r.data.toList.isEmpty = true) :
  Calls Tryz.prog 91 #[jV l d r] w (Ret w (.int .i64 (8))) := by
 have k00 := JAt.new w l d r
 have q00 := (Below.refl w.heap.size w).alloc (Nat.le_refl _) (.cells #[.string l, .string d, .string r] 117)
 have m00 := hm.ret q00
 obtain ⟨W, hW⟩ : ∃ W, w.alloc (.cells #[.string l, .string d, .string r] 117) = W := ⟨_, rfl⟩
 rw [hW] at k00 q00 m00
 have k0 := k00
 have q0 := q00
 have m0 := m00
 have HW := Lib.hid hW
 clear hW k00 q00 m00 hm
 have el := cons_facts hl
 obtain rfl := nil_facts hr
 go_enter Tryz.func91, Tryz.ntmps91
 go_wp2_with fail
 rw [HW.out]
 refine wp_region_held_drew (S := fun w' => w'.cell? ⟨w.heap.size, 0, none⟩ = some (.string l) ∧ w'.cell? ⟨w.heap.size, 1, none⟩ = some (.string d) ∧ w'.cell? ⟨w.heap.size, 2, none⟩ = some (.string ⟨#[]⟩)) (by kernel_rfl) ⟨k0.c0, k0.c1, k0.c2⟩ (fun hHeld => ?_)
 have k1 := k0.ret (Below.drew (Below.refl _ _))
 have q1 := q0.drew
 have m1 := m0.ret (Below.drew (Below.refl _ _))
 refine tk_start [(0, some 5), (1, some 6), (2, some 7), (3, some 8), (4, some 9), (5, some 10)] ?_
 iterate 6
  refine tk_step (v := ?_) (by kernel_rfl) (by kernel_rfl) (fun _ _ _ h => h) (by assumption) (fun o ho w' hSw => ?_) ?_
  rotate_left
  ·simp only [List.getElem?_toArray, List.getElem?_cons_succ, List.getElem?_cons_zero, Option.some.injEq] at ho; subst ho; (try dsimp only at hSw); go_simp; try with_reducible rfl
  simp only [Act.put, List.setIfInBounds_toArray, List.set_cons_zero, List.set_cons_succ]
 refine tk_end ?_
 refine tk_call (i := 6) (by kernel_rfl) (by kernel_rfl) (fun o ho K hK => ?_)
 simp only [List.getElem?_toArray, List.getElem?_cons_succ, List.getElem?_cons_zero, Option.some.injEq] at ho
 subst ho
 go_simp
 refine (of_is locB _).mono ?_
 rintro e w2 ⟨B1, rfl, zb1, cb1, hb2⟩
 have k2 := k1.ret hb2
 have q2 := q1.trans (hb2.mono q1.size)
 have m2 := m1.ret hb2
 clear hb2
 go_simp
 clear hHeld
 refine hK.out _ _ ⟨k2.c0, k2.c1, k2.c2⟩ (fun hHeld => ?_)
 clear hK K
 refine tk_call (i := 7) (by kernel_rfl) (by kernel_rfl) (fun o ho K hK => ?_)
 simp only [List.getElem?_toArray, List.getElem?_cons_succ, List.getElem?_cons_zero, Option.some.injEq] at ho
 subst ho
 go_simp
 have b3 := (Below.refl w2.heap.size w2).alloc (Nat.le_refl _) (.cells #[fOf B1] 86)
 have k3 := k2.ret b3
 have q3 := q2.trans (b3.mono q2.size)
 have m3 := m2.ret b3
 have v3 : VAt w2.heap.size 0 [fOf B1] (w2.alloc (.cells #[fOf B1] 86)) := vat1 _ _ _
 have cb1' := ((bcell b3).1 _ _ zb1).trans cb1
 have zb1' := Nat.lt_of_lt_of_le zb1 b3.size
 have P3 := Lib.hid (jd_partL _ _ l _ zl v3 zb1' cb1')
 rw [haL] at P3
 clear b3 v3 cb1 zb1 cb1' zb1'
 clear hHeld
 refine hK.out _ _ ⟨k3.c0, k3.c1, k3.c2⟩ (fun hHeld => ?_)
 clear hK K
 refine tk_call (i := 8) (by kernel_rfl) (by kernel_rfl) (fun o ho K hK => ?_)
 simp only [List.getElem?_toArray, List.getElem?_cons_succ, List.getElem?_cons_zero, Option.some.injEq] at ho
 subst ho
 go_simp
 refine P3.out.mono ?_
 rintro e w4 ⟨rfl, hb4⟩
 have k4 := k3.ret hb4
 have q4 := q3.trans (hb4.mono q3.size)
 have m4 := m3.ret hb4
 clear hb4
 go_simp
 clear hHeld
 refine hK.out _ _ ⟨k4.c0, k4.c1, k4.c2⟩ (fun hHeld => ?_)
 clear hK K
 refine tk_start [(9, some 14), (10, some 3)] ?_
 iterate 2
  refine tk_step (v := ?_) (by kernel_rfl) (by kernel_rfl) (fun _ _ _ h => h) (by assumption) (fun o ho w' hSw => ?_) ?_
  rotate_left
  ·simp only [List.getElem?_toArray, List.getElem?_cons_succ, List.getElem?_cons_zero, Option.some.injEq] at ho; subst ho; (try dsimp only at hSw); go_simp; try with_reducible rfl
  simp only [Act.put, List.setIfInBounds_toArray, List.set_cons_zero, List.set_cons_succ]
 refine tk_end ?_
 refine wpAnyH_done (by kernel_rfl) ?_ _
 go_wp2_with fail
 refine wp_region_held_drew (S := fun w' => w'.cell? ⟨w.heap.size, 0, none⟩ = some (.string l) ∧ w'.cell? ⟨w.heap.size, 1, none⟩ = some (.string d) ∧ w'.cell? ⟨w.heap.size, 2, none⟩ = some (.string ⟨#[]⟩)) (by kernel_rfl) ⟨k4.c0, k4.c1, k4.c2⟩ (fun hHeld => ?_)
 have k5 := k4.ret (Below.drew (Below.refl _ _))
 have q5 := q4.drew
 have m5 := m4.ret (Below.drew (Below.refl _ _))
 refine tk_start [(0, some 24), (1, some 25), (2, some 26)] ?_
 iterate 3
  refine tk_step (v := ?_) (by kernel_rfl) (by kernel_rfl) (fun _ _ _ h => h) (by assumption) (fun o ho w' hSw => ?_) ?_
  rotate_left
  ·simp only [List.getElem?_toArray, List.getElem?_cons_succ, List.getElem?_cons_zero, Option.some.injEq] at ho; subst ho; (try dsimp only at hSw); go_simp; try with_reducible rfl
  simp only [Act.put, List.setIfInBounds_toArray, List.set_cons_zero, List.set_cons_succ]
 refine tk_end ?_
 refine tk_off (i := 3) (some 27) (by kernel_rfl) (by kernel_rfl) (by kernel_rfl) (by kernel_rfl) (fun _ _ _ h => h) (by assumption) ?_
 simp only [Act.put, List.setIfInBounds_toArray, List.set_cons_zero, List.set_cons_succ]
 refine tk_off (i := 4) (some 28) (by kernel_rfl) (by kernel_rfl) (by kernel_rfl) (by kernel_rfl) (fun _ _ _ h => h) (by assumption) ?_
 simp only [Act.put, List.setIfInBounds_toArray, List.set_cons_zero, List.set_cons_succ]
 refine tk_start [(5, some 29), (6, some 30)] ?_
 iterate 2
  refine tk_step (v := ?_) (by kernel_rfl) (by kernel_rfl) (fun _ _ _ h => h) (by assumption) (fun o ho w' hSw => ?_) ?_
  rotate_left
  ·simp only [List.getElem?_toArray, List.getElem?_cons_succ, List.getElem?_cons_zero, Option.some.injEq] at ho; subst ho; (try dsimp only at hSw); go_simp; try with_reducible rfl
  simp only [Act.put, List.setIfInBounds_toArray, List.set_cons_zero, List.set_cons_succ]
 refine tk_end ?_
 refine tk_off (i := 7) (some 31) (by kernel_rfl) (by kernel_rfl) (by kernel_rfl) (by kernel_rfl) (fun _ _ _ h => h) (by assumption) ?_
 simp only [Act.put, List.setIfInBounds_toArray, List.set_cons_zero, List.set_cons_succ]
 refine tk_off (i := 8) (some 32) (by kernel_rfl) (by kernel_rfl) (by kernel_rfl) (by kernel_rfl) (fun _ _ _ h => h) (by assumption) ?_
 simp only [Act.put, List.setIfInBounds_toArray, List.set_cons_zero, List.set_cons_succ]
 refine tk_off (i := 9) (some 33) (by kernel_rfl) (by kernel_rfl) (by kernel_rfl) (by kernel_rfl) (fun _ _ _ h => h) (by assumption) ?_
 simp only [Act.put, List.setIfInBounds_toArray, List.set_cons_zero, List.set_cons_succ]
 refine tk_off (i := 10) (some 34) (by kernel_rfl) (by kernel_rfl) (by kernel_rfl) (by kernel_rfl) (fun _ _ _ h => h) (by assumption) ?_
 simp only [Act.put, List.setIfInBounds_toArray, List.set_cons_zero, List.set_cons_succ]
 refine tk_off (i := 11) (some 35) (by kernel_rfl) (by kernel_rfl) (by kernel_rfl) (by kernel_rfl) (fun _ _ _ h => h) (by assumption) ?_
 simp only [Act.put, List.setIfInBounds_toArray, List.set_cons_zero, List.set_cons_succ]
 refine tk_off (i := 12) (some 36) (by kernel_rfl) (by kernel_rfl) (by kernel_rfl) (by kernel_rfl) (fun _ _ _ h => h) (by assumption) ?_
 simp only [Act.put, List.setIfInBounds_toArray, List.set_cons_zero, List.set_cons_succ]
 refine tk_on (i := 13) (some 37) (v := ?_) (by kernel_rfl) (by kernel_rfl) (by kernel_rfl) (by kernel_rfl) (fun _ _ _ h => h) (by assumption) (fun o ho w' hSw => ?_) ?_
 rotate_left
 ·(simp only [List.getElem?_toArray, List.getElem?_cons_succ, List.getElem?_cons_zero, Option.some.injEq] at ho; subst ho; (try dsimp only at hSw); go_simp; try with_reducible rfl)
 simp only [Act.put, List.setIfInBounds_toArray, List.set_cons_zero, List.set_cons_succ]
 refine wpAnyH_done (by kernel_rfl) ?_ _
 go_wp2_with fail
 go_ret
 exact ⟨rfl, q5⟩
set_option maxHeartbeats 8000000 in
set_option maxRecDepth 100000 in
theorem jd_Check_FT (l d r : ByteArray) (w : World) (zl : l.size ≤ 10000) (_zd : d.size ≤ 10000) (zr : r.size ≤ 10000) (hm : ML w) (hl : l.data.toList.isEmpty = false) (haL : locP l.data.toList = false) (hr : r.data.toList.isEmpty = false) (haR : resP r.data.toList = true) :
  Calls Tryz.prog 91 #[jV l d r] w (Ret w (.int .i64 (8))) := by
 have k00 := JAt.new w l d r
 have q00 := (Below.refl w.heap.size w).alloc (Nat.le_refl _) (.cells #[.string l, .string d, .string r] 117)
 have m00 := hm.ret q00
 obtain ⟨W, hW⟩ : ∃ W, w.alloc (.cells #[.string l, .string d, .string r] 117) = W := ⟨_, rfl⟩
 rw [hW] at k00 q00 m00
 have k0 := k00
 have q0 := q00
 have m0 := m00
 have HW := Lib.hid hW
 clear hW k00 q00 m00 hm
 have el := cons_facts hl
 have er := cons_facts hr
 go_enter Tryz.func91, Tryz.ntmps91
 go_wp2_with fail
 rw [HW.out]
 refine wp_region_held_drew (S := fun w' => w'.cell? ⟨w.heap.size, 0, none⟩ = some (.string l) ∧ w'.cell? ⟨w.heap.size, 1, none⟩ = some (.string d) ∧ w'.cell? ⟨w.heap.size, 2, none⟩ = some (.string r)) (by kernel_rfl) ⟨k0.c0, k0.c1, k0.c2⟩ (fun hHeld => ?_)
 have k1 := k0.ret (Below.drew (Below.refl _ _))
 have q1 := q0.drew
 have m1 := m0.ret (Below.drew (Below.refl _ _))
 refine tk_start [(0, some 5), (1, some 6), (2, some 7), (3, some 8), (4, some 9), (5, some 10)] ?_
 iterate 6
  refine tk_step (v := ?_) (by kernel_rfl) (by kernel_rfl) (fun _ _ _ h => h) (by assumption) (fun o ho w' hSw => ?_) ?_
  rotate_left
  ·simp only [List.getElem?_toArray, List.getElem?_cons_succ, List.getElem?_cons_zero, Option.some.injEq] at ho; subst ho; (try dsimp only at hSw); go_simp; try with_reducible rfl
  simp only [Act.put, List.setIfInBounds_toArray, List.set_cons_zero, List.set_cons_succ]
 refine tk_end ?_
 refine tk_call (i := 6) (by kernel_rfl) (by kernel_rfl) (fun o ho K hK => ?_)
 simp only [List.getElem?_toArray, List.getElem?_cons_succ, List.getElem?_cons_zero, Option.some.injEq] at ho
 subst ho
 go_simp
 refine (of_is locB _).mono ?_
 rintro e w2 ⟨B1, rfl, zb1, cb1, hb2⟩
 have k2 := k1.ret hb2
 have q2 := q1.trans (hb2.mono q1.size)
 have m2 := m1.ret hb2
 clear hb2
 go_simp
 clear hHeld
 refine hK.out _ _ ⟨k2.c0, k2.c1, k2.c2⟩ (fun hHeld => ?_)
 clear hK K
 refine tk_call (i := 7) (by kernel_rfl) (by kernel_rfl) (fun o ho K hK => ?_)
 simp only [List.getElem?_toArray, List.getElem?_cons_succ, List.getElem?_cons_zero, Option.some.injEq] at ho
 subst ho
 go_simp
 have b3 := (Below.refl w2.heap.size w2).alloc (Nat.le_refl _) (.cells #[fOf B1] 86)
 have k3 := k2.ret b3
 have q3 := q2.trans (b3.mono q2.size)
 have m3 := m2.ret b3
 have v3 : VAt w2.heap.size 0 [fOf B1] (w2.alloc (.cells #[fOf B1] 86)) := vat1 _ _ _
 have cb1' := ((bcell b3).1 _ _ zb1).trans cb1
 have zb1' := Nat.lt_of_lt_of_le zb1 b3.size
 have P3 := Lib.hid (jd_partL _ _ l _ zl v3 zb1' cb1')
 rw [haL] at P3
 clear b3 v3 cb1 zb1 cb1' zb1'
 clear hHeld
 refine hK.out _ _ ⟨k3.c0, k3.c1, k3.c2⟩ (fun hHeld => ?_)
 clear hK K
 refine tk_call (i := 8) (by kernel_rfl) (by kernel_rfl) (fun o ho K hK => ?_)
 simp only [List.getElem?_toArray, List.getElem?_cons_succ, List.getElem?_cons_zero, Option.some.injEq] at ho
 subst ho
 go_simp
 refine P3.out.mono ?_
 rintro e w4 ⟨rfl, hb4⟩
 have k4 := k3.ret hb4
 have q4 := q3.trans (hb4.mono q3.size)
 have m4 := m3.ret hb4
 clear hb4
 go_simp
 clear hHeld
 refine hK.out _ _ ⟨k4.c0, k4.c1, k4.c2⟩ (fun hHeld => ?_)
 clear hK K
 refine tk_start [(9, some 14), (10, some 3)] ?_
 iterate 2
  refine tk_step (v := ?_) (by kernel_rfl) (by kernel_rfl) (fun _ _ _ h => h) (by assumption) (fun o ho w' hSw => ?_) ?_
  rotate_left
  ·simp only [List.getElem?_toArray, List.getElem?_cons_succ, List.getElem?_cons_zero, Option.some.injEq] at ho; subst ho; (try dsimp only at hSw); go_simp; try with_reducible rfl
  simp only [Act.put, List.setIfInBounds_toArray, List.set_cons_zero, List.set_cons_succ]
 refine tk_end ?_
 refine wpAnyH_done (by kernel_rfl) ?_ _
 go_wp2_with fail
 have b5 := (Below.refl (w4).heap.size (w4)).alloc (Nat.le_refl _) (.cells #[fWords] 86)
 have k5 := k4.ret b5
 have q5 := q4.trans (b5.mono q4.size)
 have m5 := m4.ret b5
 have P5 := jd_partR _ r _ zr (vat1 (w4) fWords 86)
 rw [haR] at P5
 have PR := Lib.hid P5
 clear P5 b5
 refine PR.out.mono ?_
 rintro e w6 ⟨rfl, hb6⟩
 have k6 := k5.ret hb6
 have q6 := q5.trans (hb6.mono q5.size)
 have m6 := m5.ret hb6
 clear hb6
 go_wp2_with fail
 refine wp_region_held_drew (S := fun w' => w'.cell? ⟨w.heap.size, 0, none⟩ = some (.string l) ∧ w'.cell? ⟨w.heap.size, 1, none⟩ = some (.string d) ∧ w'.cell? ⟨w.heap.size, 2, none⟩ = some (.string r)) (by kernel_rfl) ⟨k6.c0, k6.c1, k6.c2⟩ (fun hHeld => ?_)
 have k7 := k6.ret (Below.drew (Below.refl _ _))
 have q7 := q6.drew
 have m7 := m6.ret (Below.drew (Below.refl _ _))
 refine tk_start [(0, some 24), (1, some 25), (2, some 26)] ?_
 iterate 3
  refine tk_step (v := ?_) (by kernel_rfl) (by kernel_rfl) (fun _ _ _ h => h) (by assumption) (fun o ho w' hSw => ?_) ?_
  rotate_left
  ·simp only [List.getElem?_toArray, List.getElem?_cons_succ, List.getElem?_cons_zero, Option.some.injEq] at ho; subst ho; (try dsimp only at hSw); go_simp; try with_reducible rfl
  simp only [Act.put, List.setIfInBounds_toArray, List.set_cons_zero, List.set_cons_succ]
 refine tk_end ?_
 refine tk_off (i := 3) (some 27) (by kernel_rfl) (by kernel_rfl) (by kernel_rfl) (by kernel_rfl) (fun _ _ _ h => h) (by assumption) ?_
 simp only [Act.put, List.setIfInBounds_toArray, List.set_cons_zero, List.set_cons_succ]
 refine tk_off (i := 4) (some 28) (by kernel_rfl) (by kernel_rfl) (by kernel_rfl) (by kernel_rfl) (fun _ _ _ h => h) (by assumption) ?_
 simp only [Act.put, List.setIfInBounds_toArray, List.set_cons_zero, List.set_cons_succ]
 refine tk_start [(5, some 29), (6, some 30)] ?_
 iterate 2
  refine tk_step (v := ?_) (by kernel_rfl) (by kernel_rfl) (fun _ _ _ h => h) (by assumption) (fun o ho w' hSw => ?_) ?_
  rotate_left
  ·simp only [List.getElem?_toArray, List.getElem?_cons_succ, List.getElem?_cons_zero, Option.some.injEq] at ho; subst ho; (try dsimp only at hSw); go_simp; try with_reducible rfl
  simp only [Act.put, List.setIfInBounds_toArray, List.set_cons_zero, List.set_cons_succ]
 refine tk_end ?_
 refine tk_off (i := 7) (some 31) (by kernel_rfl) (by kernel_rfl) (by kernel_rfl) (by kernel_rfl) (fun _ _ _ h => h) (by assumption) ?_
 simp only [Act.put, List.setIfInBounds_toArray, List.set_cons_zero, List.set_cons_succ]
 refine tk_off (i := 8) (some 32) (by kernel_rfl) (by kernel_rfl) (by kernel_rfl) (by kernel_rfl) (fun _ _ _ h => h) (by assumption) ?_
 simp only [Act.put, List.setIfInBounds_toArray, List.set_cons_zero, List.set_cons_succ]
 refine tk_off (i := 9) (some 33) (by kernel_rfl) (by kernel_rfl) (by kernel_rfl) (by kernel_rfl) (fun _ _ _ h => h) (by assumption) ?_
 simp only [Act.put, List.setIfInBounds_toArray, List.set_cons_zero, List.set_cons_succ]
 refine tk_off (i := 10) (some 34) (by kernel_rfl) (by kernel_rfl) (by kernel_rfl) (by kernel_rfl) (fun _ _ _ h => h) (by assumption) ?_
 simp only [Act.put, List.setIfInBounds_toArray, List.set_cons_zero, List.set_cons_succ]
 refine tk_off (i := 11) (some 35) (by kernel_rfl) (by kernel_rfl) (by kernel_rfl) (by kernel_rfl) (fun _ _ _ h => h) (by assumption) ?_
 simp only [Act.put, List.setIfInBounds_toArray, List.set_cons_zero, List.set_cons_succ]
 refine tk_off (i := 12) (some 36) (by kernel_rfl) (by kernel_rfl) (by kernel_rfl) (by kernel_rfl) (fun _ _ _ h => h) (by assumption) ?_
 simp only [Act.put, List.setIfInBounds_toArray, List.set_cons_zero, List.set_cons_succ]
 refine tk_on (i := 13) (some 37) (v := ?_) (by kernel_rfl) (by kernel_rfl) (by kernel_rfl) (by kernel_rfl) (fun _ _ _ h => h) (by assumption) (fun o ho w' hSw => ?_) ?_
 rotate_left
 ·(simp only [List.getElem?_toArray, List.getElem?_cons_succ, List.getElem?_cons_zero, Option.some.injEq] at ho; subst ho; (try dsimp only at hSw); go_simp; try with_reducible rfl)
 simp only [Act.put, List.setIfInBounds_toArray, List.set_cons_zero, List.set_cons_succ]
 refine wpAnyH_done (by kernel_rfl) ?_ _
 go_wp2_with fail
 go_ret
 exact ⟨rfl, q7⟩
set_option maxHeartbeats 8000000 in
set_option maxRecDepth 100000 in
theorem jd_Check_FF (l d r : ByteArray) (w : World) (zl : l.size ≤ 10000) (_zd : d.size ≤ 10000) (zr : r.size ≤ 10000) (hm : ML w) (hl : l.data.toList.isEmpty = false) (haL : locP l.data.toList = false) (hr : r.data.toList.isEmpty = false) (haR : resP r.data.toList = false) :
  Calls Tryz.prog 91 #[jV l d r] w (Ret w (.int .i64 (8))) := by
 have k00 := JAt.new w l d r
 have q00 := (Below.refl w.heap.size w).alloc (Nat.le_refl _) (.cells #[.string l, .string d, .string r] 117)
 have m00 := hm.ret q00
 obtain ⟨W, hW⟩ : ∃ W, w.alloc (.cells #[.string l, .string d, .string r] 117) = W := ⟨_, rfl⟩
 rw [hW] at k00 q00 m00
 have k0 := k00
 have q0 := q00
 have m0 := m00
 have HW := Lib.hid hW
 clear hW k00 q00 m00 hm
 have el := cons_facts hl
 have er := cons_facts hr
 go_enter Tryz.func91, Tryz.ntmps91
 go_wp2_with fail
 rw [HW.out]
 refine wp_region_held_drew (S := fun w' => w'.cell? ⟨w.heap.size, 0, none⟩ = some (.string l) ∧ w'.cell? ⟨w.heap.size, 1, none⟩ = some (.string d) ∧ w'.cell? ⟨w.heap.size, 2, none⟩ = some (.string r)) (by kernel_rfl) ⟨k0.c0, k0.c1, k0.c2⟩ (fun hHeld => ?_)
 have k1 := k0.ret (Below.drew (Below.refl _ _))
 have q1 := q0.drew
 have m1 := m0.ret (Below.drew (Below.refl _ _))
 refine tk_start [(0, some 5), (1, some 6), (2, some 7), (3, some 8), (4, some 9), (5, some 10)] ?_
 iterate 6
  refine tk_step (v := ?_) (by kernel_rfl) (by kernel_rfl) (fun _ _ _ h => h) (by assumption) (fun o ho w' hSw => ?_) ?_
  rotate_left
  ·simp only [List.getElem?_toArray, List.getElem?_cons_succ, List.getElem?_cons_zero, Option.some.injEq] at ho; subst ho; (try dsimp only at hSw); go_simp; try with_reducible rfl
  simp only [Act.put, List.setIfInBounds_toArray, List.set_cons_zero, List.set_cons_succ]
 refine tk_end ?_
 refine tk_call (i := 6) (by kernel_rfl) (by kernel_rfl) (fun o ho K hK => ?_)
 simp only [List.getElem?_toArray, List.getElem?_cons_succ, List.getElem?_cons_zero, Option.some.injEq] at ho
 subst ho
 go_simp
 refine (of_is locB _).mono ?_
 rintro e w2 ⟨B1, rfl, zb1, cb1, hb2⟩
 have k2 := k1.ret hb2
 have q2 := q1.trans (hb2.mono q1.size)
 have m2 := m1.ret hb2
 clear hb2
 go_simp
 clear hHeld
 refine hK.out _ _ ⟨k2.c0, k2.c1, k2.c2⟩ (fun hHeld => ?_)
 clear hK K
 refine tk_call (i := 7) (by kernel_rfl) (by kernel_rfl) (fun o ho K hK => ?_)
 simp only [List.getElem?_toArray, List.getElem?_cons_succ, List.getElem?_cons_zero, Option.some.injEq] at ho
 subst ho
 go_simp
 have b3 := (Below.refl w2.heap.size w2).alloc (Nat.le_refl _) (.cells #[fOf B1] 86)
 have k3 := k2.ret b3
 have q3 := q2.trans (b3.mono q2.size)
 have m3 := m2.ret b3
 have v3 : VAt w2.heap.size 0 [fOf B1] (w2.alloc (.cells #[fOf B1] 86)) := vat1 _ _ _
 have cb1' := ((bcell b3).1 _ _ zb1).trans cb1
 have zb1' := Nat.lt_of_lt_of_le zb1 b3.size
 have P3 := Lib.hid (jd_partL _ _ l _ zl v3 zb1' cb1')
 rw [haL] at P3
 clear b3 v3 cb1 zb1 cb1' zb1'
 clear hHeld
 refine hK.out _ _ ⟨k3.c0, k3.c1, k3.c2⟩ (fun hHeld => ?_)
 clear hK K
 refine tk_call (i := 8) (by kernel_rfl) (by kernel_rfl) (fun o ho K hK => ?_)
 simp only [List.getElem?_toArray, List.getElem?_cons_succ, List.getElem?_cons_zero, Option.some.injEq] at ho
 subst ho
 go_simp
 refine P3.out.mono ?_
 rintro e w4 ⟨rfl, hb4⟩
 have k4 := k3.ret hb4
 have q4 := q3.trans (hb4.mono q3.size)
 have m4 := m3.ret hb4
 clear hb4
 go_simp
 clear hHeld
 refine hK.out _ _ ⟨k4.c0, k4.c1, k4.c2⟩ (fun hHeld => ?_)
 clear hK K
 refine tk_start [(9, some 14), (10, some 3)] ?_
 iterate 2
  refine tk_step (v := ?_) (by kernel_rfl) (by kernel_rfl) (fun _ _ _ h => h) (by assumption) (fun o ho w' hSw => ?_) ?_
  rotate_left
  ·simp only [List.getElem?_toArray, List.getElem?_cons_succ, List.getElem?_cons_zero, Option.some.injEq] at ho; subst ho; (try dsimp only at hSw); go_simp; try with_reducible rfl
  simp only [Act.put, List.setIfInBounds_toArray, List.set_cons_zero, List.set_cons_succ]
 refine tk_end ?_
 refine wpAnyH_done (by kernel_rfl) ?_ _
 go_wp2_with fail
 have b5 := (Below.refl (w4).heap.size (w4)).alloc (Nat.le_refl _) (.cells #[fWords] 86)
 have k5 := k4.ret b5
 have q5 := q4.trans (b5.mono q4.size)
 have m5 := m4.ret b5
 have P5 := jd_partR _ r _ zr (vat1 (w4) fWords 86)
 rw [haR] at P5
 have PR := Lib.hid P5
 clear P5 b5
 refine PR.out.mono ?_
 rintro e w6 ⟨rfl, hb6⟩
 have k6 := k5.ret hb6
 have q6 := q5.trans (hb6.mono q5.size)
 have m6 := m5.ret hb6
 clear hb6
 go_wp2_with fail
 refine wp_region_held_drew (S := fun w' => w'.cell? ⟨w.heap.size, 0, none⟩ = some (.string l) ∧ w'.cell? ⟨w.heap.size, 1, none⟩ = some (.string d) ∧ w'.cell? ⟨w.heap.size, 2, none⟩ = some (.string r)) (by kernel_rfl) ⟨k6.c0, k6.c1, k6.c2⟩ (fun hHeld => ?_)
 have k7 := k6.ret (Below.drew (Below.refl _ _))
 have q7 := q6.drew
 have m7 := m6.ret (Below.drew (Below.refl _ _))
 refine tk_start [(0, some 24), (1, some 25), (2, some 26)] ?_
 iterate 3
  refine tk_step (v := ?_) (by kernel_rfl) (by kernel_rfl) (fun _ _ _ h => h) (by assumption) (fun o ho w' hSw => ?_) ?_
  rotate_left
  ·simp only [List.getElem?_toArray, List.getElem?_cons_succ, List.getElem?_cons_zero, Option.some.injEq] at ho; subst ho; (try dsimp only at hSw); go_simp; try with_reducible rfl
  simp only [Act.put, List.setIfInBounds_toArray, List.set_cons_zero, List.set_cons_succ]
 refine tk_end ?_
 refine tk_off (i := 3) (some 27) (by kernel_rfl) (by kernel_rfl) (by kernel_rfl) (by kernel_rfl) (fun _ _ _ h => h) (by assumption) ?_
 simp only [Act.put, List.setIfInBounds_toArray, List.set_cons_zero, List.set_cons_succ]
 refine tk_off (i := 4) (some 28) (by kernel_rfl) (by kernel_rfl) (by kernel_rfl) (by kernel_rfl) (fun _ _ _ h => h) (by assumption) ?_
 simp only [Act.put, List.setIfInBounds_toArray, List.set_cons_zero, List.set_cons_succ]
 refine tk_start [(5, some 29), (6, some 30)] ?_
 iterate 2
  refine tk_step (v := ?_) (by kernel_rfl) (by kernel_rfl) (fun _ _ _ h => h) (by assumption) (fun o ho w' hSw => ?_) ?_
  rotate_left
  ·simp only [List.getElem?_toArray, List.getElem?_cons_succ, List.getElem?_cons_zero, Option.some.injEq] at ho; subst ho; (try dsimp only at hSw); go_simp; try with_reducible rfl
  simp only [Act.put, List.setIfInBounds_toArray, List.set_cons_zero, List.set_cons_succ]
 refine tk_end ?_
 refine tk_off (i := 7) (some 31) (by kernel_rfl) (by kernel_rfl) (by kernel_rfl) (by kernel_rfl) (fun _ _ _ h => h) (by assumption) ?_
 simp only [Act.put, List.setIfInBounds_toArray, List.set_cons_zero, List.set_cons_succ]
 refine tk_off (i := 8) (some 32) (by kernel_rfl) (by kernel_rfl) (by kernel_rfl) (by kernel_rfl) (fun _ _ _ h => h) (by assumption) ?_
 simp only [Act.put, List.setIfInBounds_toArray, List.set_cons_zero, List.set_cons_succ]
 refine tk_off (i := 9) (some 33) (by kernel_rfl) (by kernel_rfl) (by kernel_rfl) (by kernel_rfl) (fun _ _ _ h => h) (by assumption) ?_
 simp only [Act.put, List.setIfInBounds_toArray, List.set_cons_zero, List.set_cons_succ]
 refine tk_off (i := 10) (some 34) (by kernel_rfl) (by kernel_rfl) (by kernel_rfl) (by kernel_rfl) (fun _ _ _ h => h) (by assumption) ?_
 simp only [Act.put, List.setIfInBounds_toArray, List.set_cons_zero, List.set_cons_succ]
 refine tk_off (i := 11) (some 35) (by kernel_rfl) (by kernel_rfl) (by kernel_rfl) (by kernel_rfl) (fun _ _ _ h => h) (by assumption) ?_
 simp only [Act.put, List.setIfInBounds_toArray, List.set_cons_zero, List.set_cons_succ]
 refine tk_off (i := 12) (some 36) (by kernel_rfl) (by kernel_rfl) (by kernel_rfl) (by kernel_rfl) (fun _ _ _ h => h) (by assumption) ?_
 simp only [Act.put, List.setIfInBounds_toArray, List.set_cons_zero, List.set_cons_succ]
 refine tk_on (i := 13) (some 37) (v := ?_) (by kernel_rfl) (by kernel_rfl) (by kernel_rfl) (by kernel_rfl) (fun _ _ _ h => h) (by assumption) (fun o ho w' hSw => ?_) ?_
 rotate_left
 ·(simp only [List.getElem?_toArray, List.getElem?_cons_succ, List.getElem?_cons_zero, Option.some.injEq] at ho; subst ho; (try dsimp only at hSw); go_simp; try with_reducible rfl)
 simp only [Act.put, List.setIfInBounds_toArray, List.set_cons_zero, List.set_cons_succ]
 refine wpAnyH_done (by kernel_rfl) ?_ _
 go_wp2_with fail
 go_ret
 exact ⟨rfl, q7⟩
theorem jd_Check (l d r : ByteArray) (w : World) (zl : l.size ≤ 10000) (zd : d.size ≤ 10000) (zr : r.size ≤ 10000) (hm : ML w) :
  Calls Tryz.prog 91 #[jV l d r] w (Ret w (.int .i64 (if chkP l.data.toList d.data.toList r.data.toList = true then 0 else 8))) := by
 cases hl : l.data.toList.isEmpty with
 | false =>
  cases haL : locP l.data.toList with
  | false =>
   cases hr : r.data.toList.isEmpty with
   | true =>
    rw [chk_O _ _ _ false true (domP d.data.toList) (by rw [hl, haL]; rfl) (by rw [hr]; rfl) rfl]
    exact jd_Check_FE l d r w zl zd zr hm hl haL hr
   | false =>
    cases haR : resP r.data.toList with
    | false =>
     rw [chk_O _ _ _ false false (domP d.data.toList) (by rw [hl, haL]; rfl) (by rw [hr, haR]; rfl) rfl]
     exact jd_Check_FF l d r w zl zd zr hm hl haL hr haR
    | true =>
     rw [chk_O _ _ _ false true (domP d.data.toList) (by rw [hl, haL]; rfl) (by rw [hr, haR]; rfl) rfl]
     exact jd_Check_FT l d r w zl zd zr hm hl haL hr haR
  | true =>
   cases hr : r.data.toList.isEmpty with
   | true =>
    rw [chk_O _ _ _ true true (domP d.data.toList) (by rw [hl, haL]; rfl) (by rw [hr]; rfl) rfl]
    exact jd_Check_TE l d r w zl zd zr hm hl haL hr _ rfl
   | false =>
    cases haR : resP r.data.toList with
    | false =>
     rw [chk_O _ _ _ true false (domP d.data.toList) (by rw [hl, haL]; rfl) (by rw [hr, haR]; rfl) rfl]
     exact jd_Check_TF l d r w zl zd zr hm hl haL hr haR
    | true =>
     rw [chk_O _ _ _ true true (domP d.data.toList) (by rw [hl, haL]; rfl) (by rw [hr, haR]; rfl) rfl]
     exact jd_Check_TT l d r w zl zd zr hm hl haL hr haR _ rfl
 | true =>
  cases hr : r.data.toList.isEmpty with
  | true =>
   rw [chk_O _ _ _ true true (domP d.data.toList) (by rw [hl]; rfl) (by rw [hr]; rfl) rfl]
   exact jd_Check_EE l d r w zl zd zr hm hl hr _ rfl
  | false =>
   cases haR : resP r.data.toList with
   | false =>
    rw [chk_O _ _ _ true false (domP d.data.toList) (by rw [hl]; rfl) (by rw [hr, haR]; rfl) rfl]
    exact jd_Check_EF l d r w zl zd zr hm hl hr haR
   | true =>
    rw [chk_O _ _ _ true true (domP d.data.toList) (by rw [hl]; rfl) (by rw [hr, haR]; rfl) rfl]
    exact jd_Check_ET l d r w zl zd zr hm hl hr haR _ rfl
end Go.Proofs.YtjgeiieiinmdnaaGreatDoor
